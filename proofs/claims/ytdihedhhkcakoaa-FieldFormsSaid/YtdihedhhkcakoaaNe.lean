/-
  The page's Bytes.
-/
import Derived.Test.YtdihedhhkcakoaaNd
namespace Go.Proofs.Ytdihedhhkcakoaa
open Go.RowKit
set_option linter.unusedSimpArgs false

theorem suL_get {t : List Int} (h : t.length = 16) {i : Nat} (hi : i < 16) : (suL t).getD i 0 = t.getD i 0 - pRow.getD i 0 := by
  unfold suL
  rw [List.getD_eq_getElem?_getD, List.getElem?_zipWith, len16 h hi, len16 (xs := pRow) rfl hi]
  rfl
theorem pRow_mid {i : Nat} (h1 : 1 ≤ i) (h2 : i < 15) : pRow.getD i 0 = 65535 := by
  match i, h1, h2 with
  | 1, _, _ => rfl
  | 2, _, _ => rfl
  | 3, _, _ => rfl
  | 4, _, _ => rfl
  | 5, _, _ => rfl
  | 6, _, _ => rfl
  | 7, _, _ => rfl
  | 8, _, _ => rfl
  | 9, _, _ => rfl
  | 10, _, _ => rfl
  | 11, _, _ => rfl
  | 12, _, _ => rfl
  | 13, _, _ => rfl
  | 14, _, _ => rfl
/-- The row behind i rounds (i from 1 on): digits, the row under work, what is left. -/
theorem suA_one {t : List Int} (h : t.length = 16) : t.set 0 (t.getD 0 0 - 65517) = suA t 1 := by
  match t, h with
  | x :: t, h =>
    unfold suA
    rw [suL_get h (by omega)]
    simp [dyL, ky, pRow]
theorem suA_at {t : List Int} (h : t.length = 16) {i : Nat} (h1 : 1 ≤ i) (hi : i ≤ 16) : (suA t i)[i - 1]? = some ((suL t).getD (i - 1) 0 + ky (suL t) (i - 1)) := by
  unfold suA
  rw [List.getElem?_append_right (by rw [dyL_len]; omega), dyL_len, Nat.sub_self]
  rfl
theorem suA_next {t : List Int} (h : t.length = 16) {i : Nat} (h1 : 1 ≤ i) (hi : i < 16) : (suA t i)[i]? = some (t.getD i 0) := by
  obtain ⟨k, rfl⟩ : ∃ k, i = k + 1 := ⟨i - 1, by omega⟩
  unfold suA
  rw [Nat.add_sub_cancel, List.getElem?_append_right (by rw [dyL_len]; omega), dyL_len, Nat.add_sub_cancel_left, List.getElem?_cons_succ, List.getElem?_drop, Nat.add_zero]
  exact len16 h hi
theorem suA_len {t : List Int} (h : t.length = 16) {i : Nat} (h1 : 1 ≤ i) (hi : i ≤ 16) : (suA t i).length = 16 := by
  unfold suA
  rw [List.length_append, dyL_len, List.length_cons, List.length_drop, h]
  omega
theorem suA_step {t : List Int} (h : t.length = 16) {i : Nat} (h1 : 1 ≤ i) (hi : i < 16) :
    ((suA t i).set i ((suL t).getD i 0 + ky (suL t) i)).set (i - 1) (dy (suL t) (i - 1)) = suA t (i + 1) := by
  obtain ⟨k, rfl⟩ : ∃ k, i = k + 1 := ⟨i - 1, by omega⟩
  have hd : t.drop (k + 1) = t.getD (k + 1) 0 :: t.drop (k + 2) := by
    have := len16 h hi
    rw [List.getElem?_eq_getElem (by omega)] at this
    injection this with this
    rw [List.drop_eq_getElem_cons (by omega), this]
  unfold suA
  rw [Nat.add_sub_cancel, Nat.add_sub_cancel, List.set_append_right _ _ (by rw [dyL_len]; omega), dyL_len, Nat.add_sub_cancel_left, List.set_cons_succ, hd, List.set_cons_zero,
    List.set_append_right _ _ (by rw [dyL_len]; omega), dyL_len, Nat.sub_self, List.set_cons_zero, dyL_succ, List.append_assoc]
  rfl
theorem suA_end {t : List Int} (h : t.length = 16) : suA t 16 = suE t := by
  unfold suA suE
  rw [List.drop_of_length_le (by omega)]
theorem suL_bd {t : List Int} (h : Dig t) {i : Nat} (hi : i < 16) : -65535 ≤ (suL t).getD i 0 ∧ (suL t).getD i 0 ≤ 65535 := by
  rw [suL_get h.1 hi]
  have h1 := h.2 i _ (len16 h.1 hi)
  have h2 : 0 ≤ pRow.getD i 0 ∧ pRow.getD i 0 ≤ 65535 := by
    have : ∀ j : Fin 16, 0 ≤ pRow.getD j.val 0 ∧ pRow.getD j.val 0 ≤ 65535 := by decide
    exact this ⟨i, hi⟩
  omega
theorem suL_ky {t : List Int} (h : Dig t) : ∀ i, i ≤ 16 → -1 ≤ ky (suL t) i ∧ ky (suL t) i ≤ 0
  | 0, _ => by simp [ky]
  | i + 1, hi => by
    have ih := suL_ky h i (by omega)
    have hb := suL_bd h (i := i) (by omega)
    have hz : (suL t).getD i 0 + ky (suL t) i ≤ 65535 := by omega
    rw [ky]
    omega
theorem set_same {xs : List Int} {k : Nat} {x : Int} (h : xs[k]? = some x) : xs.set k x = xs := by
  apply List.ext_getElem?
  intro j
  rw [List.getElem?_set]
  have hk := (List.getElem?_eq_some_iff.1 h).1
  split
  · rename_i e
    subst e
    simp [h]
  · rfl
def byN (ts : List Int) (k : Nat) : List UInt8 := (ts.take k).flatMap rowB
theorem byN_len (ts : List Int) (h : ts.length = 16) : ∀ k, k ≤ 16 → (byN ts k).length = 2 * k
  | 0, _ => rfl
  | k + 1, hk => by
    unfold byN
    rw [List.take_add_one, len16 h hk, Option.toList_some, List.flatMap_append, List.length_append]
    have := byN_len ts h k (by omega)
    unfold byN at this
    rw [this]
    rfl
theorem byN_succ (ts : List Int) (h : ts.length = 16) (k : Nat) (hk : k < 16) : byN ts (k + 1) = byN ts k ++ rowB (ts.getD k 0) := by
  unfold byN
  rw [List.take_add_one, len16 h hk, Option.toList_some, List.flatMap_append]
  simp
def suNi (t : List Int) : Nat → List Int
  | 0 => t
  | k + 1 => suN (suNi t k)
theorem suNi_dig {t : List Int} (h : Dig t) : ∀ k, Dig (suNi t k)
  | 0 => h
  | k + 1 => (suN_spec (suNi_dig h k)).1
def ByRel (w : World) (g : Nat) (t : List Int) (kv : Value) (wr : World) : Prop :=
  ∃ k : Nat, k ≤ 3 ∧ kv = .int .i64 (k : Int) ∧ St w NoB wr [.cells g (ivs (suNi t k)).toArray 41]
def BzRel (w : World) (g g2 : Nat) (t : List Int) (iv : Value) (wr : World) : Prop :=
  ∃ j : Nat, j ≤ 15 ∧ iv = .int .i64 ((j : Int) + 1) ∧ St w NoB wr [.cells g2 (ivs (suA t (j + 1))).toArray 41, .cells g (ivs t).toArray 41]
def BvRel (w : World) (t : List Int) (bv iv : Value) (wr : World) : Prop :=
  ∃ (i : Nat) (A : Option Addr) (c : Nat), i ≤ 16 ∧ iv = .int .i64 (i : Int) ∧ bv = .slice A (2 * i) c ∧ St w NoB wr [.row (.slice A (2 * i) c) 5 1 (2 * i) (bvs (byN t i))]
theorem ixn0 (x0 x1 x2 x3 x4 x5 x6 x7 x8 x9 x10 x11 x12 x13 x14 x15 : Int) (W : World) : (Instr.index 41 (.agg #[.int .i64 x0, .int .i64 x1, .int .i64 x2, .int .i64 x3, .int .i64 x4, .int .i64 x5, .int .i64 x6, .int .i64 x7, .int .i64 x8, .int .i64 x9, .int .i64 x10, .int .i64 x11, .int .i64 x12, .int .i64 x13, .int .i64 x14, .int .i64 x15]) (.int .i64 ((0 : Nat) : Int))).run Try.prog W = .ok (.int .i64 x0) W := by kernel_rfl
theorem ixn1 (x0 x1 x2 x3 x4 x5 x6 x7 x8 x9 x10 x11 x12 x13 x14 x15 : Int) (W : World) : (Instr.index 41 (.agg #[.int .i64 x0, .int .i64 x1, .int .i64 x2, .int .i64 x3, .int .i64 x4, .int .i64 x5, .int .i64 x6, .int .i64 x7, .int .i64 x8, .int .i64 x9, .int .i64 x10, .int .i64 x11, .int .i64 x12, .int .i64 x13, .int .i64 x14, .int .i64 x15]) (.int .i64 ((1 : Nat) : Int))).run Try.prog W = .ok (.int .i64 x1) W := by kernel_rfl
theorem ixn2 (x0 x1 x2 x3 x4 x5 x6 x7 x8 x9 x10 x11 x12 x13 x14 x15 : Int) (W : World) : (Instr.index 41 (.agg #[.int .i64 x0, .int .i64 x1, .int .i64 x2, .int .i64 x3, .int .i64 x4, .int .i64 x5, .int .i64 x6, .int .i64 x7, .int .i64 x8, .int .i64 x9, .int .i64 x10, .int .i64 x11, .int .i64 x12, .int .i64 x13, .int .i64 x14, .int .i64 x15]) (.int .i64 ((2 : Nat) : Int))).run Try.prog W = .ok (.int .i64 x2) W := by kernel_rfl
theorem ixn3 (x0 x1 x2 x3 x4 x5 x6 x7 x8 x9 x10 x11 x12 x13 x14 x15 : Int) (W : World) : (Instr.index 41 (.agg #[.int .i64 x0, .int .i64 x1, .int .i64 x2, .int .i64 x3, .int .i64 x4, .int .i64 x5, .int .i64 x6, .int .i64 x7, .int .i64 x8, .int .i64 x9, .int .i64 x10, .int .i64 x11, .int .i64 x12, .int .i64 x13, .int .i64 x14, .int .i64 x15]) (.int .i64 ((3 : Nat) : Int))).run Try.prog W = .ok (.int .i64 x3) W := by kernel_rfl
theorem ixn4 (x0 x1 x2 x3 x4 x5 x6 x7 x8 x9 x10 x11 x12 x13 x14 x15 : Int) (W : World) : (Instr.index 41 (.agg #[.int .i64 x0, .int .i64 x1, .int .i64 x2, .int .i64 x3, .int .i64 x4, .int .i64 x5, .int .i64 x6, .int .i64 x7, .int .i64 x8, .int .i64 x9, .int .i64 x10, .int .i64 x11, .int .i64 x12, .int .i64 x13, .int .i64 x14, .int .i64 x15]) (.int .i64 ((4 : Nat) : Int))).run Try.prog W = .ok (.int .i64 x4) W := by kernel_rfl
theorem ixn5 (x0 x1 x2 x3 x4 x5 x6 x7 x8 x9 x10 x11 x12 x13 x14 x15 : Int) (W : World) : (Instr.index 41 (.agg #[.int .i64 x0, .int .i64 x1, .int .i64 x2, .int .i64 x3, .int .i64 x4, .int .i64 x5, .int .i64 x6, .int .i64 x7, .int .i64 x8, .int .i64 x9, .int .i64 x10, .int .i64 x11, .int .i64 x12, .int .i64 x13, .int .i64 x14, .int .i64 x15]) (.int .i64 ((5 : Nat) : Int))).run Try.prog W = .ok (.int .i64 x5) W := by kernel_rfl
theorem ixn6 (x0 x1 x2 x3 x4 x5 x6 x7 x8 x9 x10 x11 x12 x13 x14 x15 : Int) (W : World) : (Instr.index 41 (.agg #[.int .i64 x0, .int .i64 x1, .int .i64 x2, .int .i64 x3, .int .i64 x4, .int .i64 x5, .int .i64 x6, .int .i64 x7, .int .i64 x8, .int .i64 x9, .int .i64 x10, .int .i64 x11, .int .i64 x12, .int .i64 x13, .int .i64 x14, .int .i64 x15]) (.int .i64 ((6 : Nat) : Int))).run Try.prog W = .ok (.int .i64 x6) W := by kernel_rfl
theorem ixn7 (x0 x1 x2 x3 x4 x5 x6 x7 x8 x9 x10 x11 x12 x13 x14 x15 : Int) (W : World) : (Instr.index 41 (.agg #[.int .i64 x0, .int .i64 x1, .int .i64 x2, .int .i64 x3, .int .i64 x4, .int .i64 x5, .int .i64 x6, .int .i64 x7, .int .i64 x8, .int .i64 x9, .int .i64 x10, .int .i64 x11, .int .i64 x12, .int .i64 x13, .int .i64 x14, .int .i64 x15]) (.int .i64 ((7 : Nat) : Int))).run Try.prog W = .ok (.int .i64 x7) W := by kernel_rfl
theorem ixn8 (x0 x1 x2 x3 x4 x5 x6 x7 x8 x9 x10 x11 x12 x13 x14 x15 : Int) (W : World) : (Instr.index 41 (.agg #[.int .i64 x0, .int .i64 x1, .int .i64 x2, .int .i64 x3, .int .i64 x4, .int .i64 x5, .int .i64 x6, .int .i64 x7, .int .i64 x8, .int .i64 x9, .int .i64 x10, .int .i64 x11, .int .i64 x12, .int .i64 x13, .int .i64 x14, .int .i64 x15]) (.int .i64 ((8 : Nat) : Int))).run Try.prog W = .ok (.int .i64 x8) W := by kernel_rfl
theorem ixn9 (x0 x1 x2 x3 x4 x5 x6 x7 x8 x9 x10 x11 x12 x13 x14 x15 : Int) (W : World) : (Instr.index 41 (.agg #[.int .i64 x0, .int .i64 x1, .int .i64 x2, .int .i64 x3, .int .i64 x4, .int .i64 x5, .int .i64 x6, .int .i64 x7, .int .i64 x8, .int .i64 x9, .int .i64 x10, .int .i64 x11, .int .i64 x12, .int .i64 x13, .int .i64 x14, .int .i64 x15]) (.int .i64 ((9 : Nat) : Int))).run Try.prog W = .ok (.int .i64 x9) W := by kernel_rfl
theorem ixn10 (x0 x1 x2 x3 x4 x5 x6 x7 x8 x9 x10 x11 x12 x13 x14 x15 : Int) (W : World) : (Instr.index 41 (.agg #[.int .i64 x0, .int .i64 x1, .int .i64 x2, .int .i64 x3, .int .i64 x4, .int .i64 x5, .int .i64 x6, .int .i64 x7, .int .i64 x8, .int .i64 x9, .int .i64 x10, .int .i64 x11, .int .i64 x12, .int .i64 x13, .int .i64 x14, .int .i64 x15]) (.int .i64 ((10 : Nat) : Int))).run Try.prog W = .ok (.int .i64 x10) W := by kernel_rfl
theorem ixn11 (x0 x1 x2 x3 x4 x5 x6 x7 x8 x9 x10 x11 x12 x13 x14 x15 : Int) (W : World) : (Instr.index 41 (.agg #[.int .i64 x0, .int .i64 x1, .int .i64 x2, .int .i64 x3, .int .i64 x4, .int .i64 x5, .int .i64 x6, .int .i64 x7, .int .i64 x8, .int .i64 x9, .int .i64 x10, .int .i64 x11, .int .i64 x12, .int .i64 x13, .int .i64 x14, .int .i64 x15]) (.int .i64 ((11 : Nat) : Int))).run Try.prog W = .ok (.int .i64 x11) W := by kernel_rfl
theorem ixn12 (x0 x1 x2 x3 x4 x5 x6 x7 x8 x9 x10 x11 x12 x13 x14 x15 : Int) (W : World) : (Instr.index 41 (.agg #[.int .i64 x0, .int .i64 x1, .int .i64 x2, .int .i64 x3, .int .i64 x4, .int .i64 x5, .int .i64 x6, .int .i64 x7, .int .i64 x8, .int .i64 x9, .int .i64 x10, .int .i64 x11, .int .i64 x12, .int .i64 x13, .int .i64 x14, .int .i64 x15]) (.int .i64 ((12 : Nat) : Int))).run Try.prog W = .ok (.int .i64 x12) W := by kernel_rfl
theorem ixn13 (x0 x1 x2 x3 x4 x5 x6 x7 x8 x9 x10 x11 x12 x13 x14 x15 : Int) (W : World) : (Instr.index 41 (.agg #[.int .i64 x0, .int .i64 x1, .int .i64 x2, .int .i64 x3, .int .i64 x4, .int .i64 x5, .int .i64 x6, .int .i64 x7, .int .i64 x8, .int .i64 x9, .int .i64 x10, .int .i64 x11, .int .i64 x12, .int .i64 x13, .int .i64 x14, .int .i64 x15]) (.int .i64 ((13 : Nat) : Int))).run Try.prog W = .ok (.int .i64 x13) W := by kernel_rfl
theorem ixn14 (x0 x1 x2 x3 x4 x5 x6 x7 x8 x9 x10 x11 x12 x13 x14 x15 : Int) (W : World) : (Instr.index 41 (.agg #[.int .i64 x0, .int .i64 x1, .int .i64 x2, .int .i64 x3, .int .i64 x4, .int .i64 x5, .int .i64 x6, .int .i64 x7, .int .i64 x8, .int .i64 x9, .int .i64 x10, .int .i64 x11, .int .i64 x12, .int .i64 x13, .int .i64 x14, .int .i64 x15]) (.int .i64 ((14 : Nat) : Int))).run Try.prog W = .ok (.int .i64 x14) W := by kernel_rfl
theorem ixn15 (x0 x1 x2 x3 x4 x5 x6 x7 x8 x9 x10 x11 x12 x13 x14 x15 : Int) (W : World) : (Instr.index 41 (.agg #[.int .i64 x0, .int .i64 x1, .int .i64 x2, .int .i64 x3, .int .i64 x4, .int .i64 x5, .int .i64 x6, .int .i64 x7, .int .i64 x8, .int .i64 x9, .int .i64 x10, .int .i64 x11, .int .i64 x12, .int .i64 x13, .int .i64 x14, .int .i64 x15]) (.int .i64 ((15 : Nat) : Int))).run Try.prog W = .ok (.int .i64 x15) W := by kernel_rfl
theorem ix16 {u : List Int} {i : Nat} (h : u.length = 16) (hi : i < 16) (W : World) : (Instr.index 41 (.agg (ivs u).toArray) (.int .i64 (i : Int))).run Try.prog W = .ok (.int .i64 (u.getD i 0)) W := by
  match u, h with
  | [x0, x1, x2, x3, x4, x5, x6, x7, x8, x9, x10, x11, x12, x13, x14, x15], _ =>
    match i, hi with
    | 0, _ => exact ixn0 x0 x1 x2 x3 x4 x5 x6 x7 x8 x9 x10 x11 x12 x13 x14 x15 W
    | 1, _ => exact ixn1 x0 x1 x2 x3 x4 x5 x6 x7 x8 x9 x10 x11 x12 x13 x14 x15 W
    | 2, _ => exact ixn2 x0 x1 x2 x3 x4 x5 x6 x7 x8 x9 x10 x11 x12 x13 x14 x15 W
    | 3, _ => exact ixn3 x0 x1 x2 x3 x4 x5 x6 x7 x8 x9 x10 x11 x12 x13 x14 x15 W
    | 4, _ => exact ixn4 x0 x1 x2 x3 x4 x5 x6 x7 x8 x9 x10 x11 x12 x13 x14 x15 W
    | 5, _ => exact ixn5 x0 x1 x2 x3 x4 x5 x6 x7 x8 x9 x10 x11 x12 x13 x14 x15 W
    | 6, _ => exact ixn6 x0 x1 x2 x3 x4 x5 x6 x7 x8 x9 x10 x11 x12 x13 x14 x15 W
    | 7, _ => exact ixn7 x0 x1 x2 x3 x4 x5 x6 x7 x8 x9 x10 x11 x12 x13 x14 x15 W
    | 8, _ => exact ixn8 x0 x1 x2 x3 x4 x5 x6 x7 x8 x9 x10 x11 x12 x13 x14 x15 W
    | 9, _ => exact ixn9 x0 x1 x2 x3 x4 x5 x6 x7 x8 x9 x10 x11 x12 x13 x14 x15 W
    | 10, _ => exact ixn10 x0 x1 x2 x3 x4 x5 x6 x7 x8 x9 x10 x11 x12 x13 x14 x15 W
    | 11, _ => exact ixn11 x0 x1 x2 x3 x4 x5 x6 x7 x8 x9 x10 x11 x12 x13 x14 x15 W
    | 12, _ => exact ixn12 x0 x1 x2 x3 x4 x5 x6 x7 x8 x9 x10 x11 x12 x13 x14 x15 W
    | 13, _ => exact ixn13 x0 x1 x2 x3 x4 x5 x6 x7 x8 x9 x10 x11 x12 x13 x14 x15 W
    | 14, _ => exact ixn14 x0 x1 x2 x3 x4 x5 x6 x7 x8 x9 x10 x11 x12 x13 x14 x15 W
    | 15, _ => exact ixn15 x0 x1 x2 x3 x4 x5 x6 x7 x8 x9 x10 x11 x12 x13 x14 x15 W
    | i + 16, hi => exact absurd hi (by omega)
theorem cyB_nb {xs : List Int} (h : NB xs) : CyB xs := cyB_small h.1 (fun k x hx => by have := h.2 k x hx; split at this <;> omega)
theorem dig_nb {xs : List Int} (h : Dig xs) : NB xs := ⟨h.1, fun k x hx => by have := h.2 k x hx; split <;> omega⟩
set_option maxRecDepth 100000 in
set_option maxHeartbeats 1600000 in
theorem bytesN_any (xs : List Int) (w : World) (h : NB xs) :
    Calls Try.prog 36 #[.agg (ivs xs).toArray] w fun e w' => ∃ B d, e = .returned (.slice B 32 d) ∧ Below w.heap.size w w' ∧ w'.ownsRow w.heap.size 5 1 (.slice B 32 d) 32 (bvs (leB 32 (nv xs % (Pq : Int)).toNat)) := by
  have hd := carL_nb_dig h
  have hc2 : carL (carL xs) = carL xs := carL_dig hd
  have HC1 := hide (fun W => carry_any xs W (cyB_nb h))
  have HC2 := hide (fun W => carry_any (carL xs) W (cyB_nb (dig_nb hd)))
  have HE := hide (bytN_spec h)
  obtain ⟨t, ht⟩ : ∃ t, t = carL xs := ⟨_, rfl⟩
  rw [hc2, ← ht] at HC2
  rw [← ht] at HC1 hd
  have HTD := hide hd
  have HTT := hide ht
  obtain ⟨xa, hxa⟩ : ∃ a, a = (ivs xs).toArray := ⟨_, rfl⟩
  have hsz : xa.size = 16 := by rw [hxa, List.size_toArray, ivs_len]; exact h.1
  obtain ⟨ta, hta⟩ : ∃ a, a = (ivs t).toArray := ⟨_, rfl⟩
  have hst : ta.size = 16 := by rw [hta, List.size_toArray, ivs_len]; exact hd.1
  have hone : ta.all (·.oneCell') = true := by rw [hta]; exact ivs_all _
  have HS0 := hide ((St.init w NoB).alloc xa 41)
  rw [← hxa] at HC1 ⊢
  rw [← hta] at HC1 HC2
  have HTA := hide hta
  clear h hd hc2 ht hxa hta
  go_enter Try.func36, Try.ntmps36
  go_upto_region 1 with fail
  refine wp_region_list ?_
  refine wpList_load_row rfl 41 (.tmp 1) rfl w.heap.size rfl 41 xa _ _ (HS0.out.heap 0 rfl) Try.underlying41 rfl (by rw [hsz]; kernel_rfl) ?_
  refine wl_callN rfl rfl enCarryN rfl (HC1.out _) ?_
  rintro e w1 ⟨rfl, hb1⟩
  refine ⟨_, rfl, ?_⟩
  refine wl_callN rfl rfl enCarryN rfl (HC2.out _) ?_
  rintro e w2 ⟨rfl, hb2⟩
  refine ⟨_, rfl, ?_⟩
  refine wl_callN rfl rfl enCarryN rfl (HC2.out _) ?_
  rintro e w3 ⟨rfl, hb3⟩
  refine ⟨_, rfl, ?_⟩
  have HS1 := hide (((HS0.out.call hb1).call hb2).call hb3)
  refine wpList_plain rfl ?_
  intro K hK
  go_simp
  refine hK _ _ ?_
  clear hK K
  have HS2 := hide (show St w NoB _ _ from HS1.out.alloc (ivs (List.replicate 16 0)).toArray 41)
  obtain ⟨g, hg⟩ : ∃ g, g = w3.heap.size := ⟨_, rfl⟩
  rw [← hg] at HS2
  have HS3 := hide (show St w NoB _ [.cells g ta 41] from (HS2.out.setRow 0 rfl ta).pickL [0] (by decide) rfl)
  refine wpList_store_row rfl 41 (.tmp 3) (.tmp 12) rfl g ta (by rw [hg]; rfl) rfl 41 _ (HS2.out.heap 0 rfl) (by rw [hst]; kernel_rfl) (by rw [hst]; rfl) hone ?_
  refine wpList_nil ?_
  rw [HTA.out] at HS3
  have hgE : w3.heap.size = g := hg.symm
  simp only [hgE]
  clear hgE hg HS2 HS1
  go_wp2_with fail
  go_loopw [13] (fun k wr => ByRel w g t k wr) (fun k _ => 3 - (intOf k).toNat)
  case atStart => exact ⟨0, by omega, rfl, HTA.out ▸ HS3.out⟩
  case round =>
    clear HS3
    obtain ⟨k, hk, rfl, hS⟩ := hrel
    have hkd := suNi_dig HTD.out k
    obtain ⟨u, hu⟩ : ∃ u, u = suNi t k := ⟨_, rfl⟩
    rw [← hu] at hS hkd
    have HKD := hide hkd
    have HU := hide hu
    by_cases hlt : k < 3
    · have d3 : decide ((k : Int) < 3) = true := by simp; omega
      obtain ⟨ua, hua⟩ : ∃ a, a = (ivs u).toArray := ⟨_, rfl⟩
      have hsu : ua.size = 16 := by rw [hua, List.size_toArray, ivs_len]; exact hkd.1
      have hou : ua.all (·.oneCell') = true := by rw [hua]; exact ivs_all _
      rw [← hua] at hS
      have HUA := hide hua
      have HS := hide hS
      clear hS hu hua hkd
      go_upto_region 4 with fail
      refine wp_region_list ?_
      refine wpList_load_row rfl 41 (.tmp 3) rfl g rfl 41 ua _ _ (HS.out.heap 0 rfl) Try.underlying41 rfl (by rw [hsu]; kernel_rfl) ?_
      refine wpList_plain rfl ?_
      intro K hK
      go_simp
      refine hK _ _ ?_
      clear hK K
      have HS2 := hide (show St w NoB _ _ from HS.out.alloc #[.int .i64 0, .int .i64 0, .int .i64 0, .int .i64 0, .int .i64 0, .int .i64 0, .int .i64 0, .int .i64 0, .int .i64 0, .int .i64 0, .int .i64 0, .int .i64 0, .int .i64 0, .int .i64 0, .int .i64 0, .int .i64 0] 41)
      obtain ⟨g2, hg⟩ : ∃ g, g = wr.heap.size := ⟨_, rfl⟩
      have hne : g2 ≠ g := fun e => by
        have := Chunk.lt (HS.out.sat 0 _ rfl) (k := g) rfl
        omega
      have hne' : g ≠ g2 := fun e => hne e.symm
      rw [← hg] at HS2
      have hS3 := HS2.out.setRow 0 rfl ua
      refine wpList_store_row rfl 41 (.tmp 4) (.tmp 15) rfl g2 ua (by rw [hg]; rfl) rfl 41 _ (HS2.out.heap 0 rfl) (by rw [hsu]; kernel_rfl) (by rw [hsu]; rfl) hou ?_
      refine wpList_nil ?_
      have hgE : wr.heap.size = g2 := hg.symm
      simp only [hgE]
      generalize ((wr.alloc (.cells #[.int .i64 0, .int .i64 0, .int .i64 0, .int .i64 0, .int .i64 0, .int .i64 0, .int .i64 0, .int .i64 0, .int .i64 0, .int .i64 0, .int .i64 0, .int .i64 0, .int .i64 0, .int .i64 0, .int .i64 0, .int .i64 0] 41)).setRow g2 ua) = wq at hS3 ⊢
      rw [HUA.out] at hS3
      have HS3 := hide (show St w NoB wq [.cells g2 (ivs u).toArray 41, .cells g (ivs u).toArray 41] from hS3)
      have c0 : wq.cell? ⟨g, 0, none⟩ = some (.int .i64 (u.getD 0 0)) := by rw [HS3.out.cell 1 rfl 0]; exact ivs_get (len16 HKD.out.1 (by omega))
      have c1 : wq.cell? ⟨g2, 0, none⟩ = some (.int .i64 (u.getD 0 0)) := by rw [HS3.out.cell 0 rfl 0]; exact ivs_get (len16 HKD.out.1 (by omega))
      have f1 := HS3.out.free 0 rfl 0
      have b0 := HKD.out.2 0 _ (len16 HKD.out.1 (by omega))
      have HS4 := hide (show St w NoB (wq.setCell ⟨g2, 0, none⟩ (.int .i64 (u.getD 0 0 - 65517))) [.cells g2 (ivs (suA u 1)).toArray 41, .cells g (ivs u).toArray 41] by
        have h := HS3.out.setCell 0 rfl 0 (.int .i64 (u.getD 0 0 - 65517))
        simp only [List.set_cons_zero, ivs_set] at h
        rw [suA_one HKD.out.1] at h
        exact h)
      obtain ⟨u0, hu0⟩ : ∃ x, x = u.getD 0 0 := ⟨_, rfl⟩
      rw [← hu0] at c0 c1 b0 HS4
      obtain ⟨b00, b01⟩ := b0
      clear hgE hg HS2 HS hS3 hu0 HS3
      go_wp2_with fail
      go_loopw [5] (fun i wr => BzRel w g g2 u i wr) (fun i _ => 16 - (intOf i).toNat)
      case atStart => exact ⟨0, by omega, rfl, HS4.out⟩
      case round =>
        clear HS4 c0 c1 f1 b00 b01
        obtain ⟨j, hj, rfl, hS⟩ := hrel
        have HS := hide hS
        by_cases hlt : j < 15
        · have hy0 := suL_bd HKD.out (i := j) (by omega)
          have hk0 := suL_ky HKD.out j (by omega)
          have hz0 := HKD.out.2 (j + 1) _ (len16 HKD.out.1 (by omega))
          have hv0 := suL_get HKD.out.1 (i := j + 1) (by omega)
          have c0 : wr.cell? ⟨g, j + 1, none⟩ = some (.int .i64 (u.getD (j + 1) 0)) := by rw [hS.cell 1 rfl (j + 1)]; exact ivs_get (len16 HKD.out.1 (by omega))
          have c1 : wr.cell? ⟨g2, j, none⟩ = some (.int .i64 ((suL u).getD j 0 + ky (suL u) j)) := by rw [hS.cell 0 rfl j]; exact ivs_get (suA_at HKD.out.1 (i := j + 1) (by omega) (by omega))
          have c2 : wr.cell? ⟨g2, j + 1, none⟩ = some (.int .i64 (u.getD (j + 1) 0)) := by rw [hS.cell 0 rfl (j + 1)]; exact ivs_get (suA_next HKD.out.1 (i := j + 1) (by omega) (by omega))
          have f1 := hS.free 0 rfl j
          have f2 := hS.free 0 rfl (j + 1)
          have HT := hide (suA_step HKD.out.1 (i := j + 1) (by omega) (by omega))
          have hdd : dy (suL u) j = ((suL u).getD j 0 + ky (suL u) j) % 65536 := rfl
          have hkk : ky (suL u) (j + 1) = ((suL u).getD j 0 + ky (suL u) j) / 65536 := rfl
          have HDD := hide hdd
          have HKK := hide hkk
          have HV := hide hv0
          obtain ⟨y, hy⟩ : ∃ y, y = (suL u).getD j 0 + ky (suL u) j := ⟨_, rfl⟩
          obtain ⟨z, hz⟩ : ∃ z, z = u.getD (j + 1) 0 := ⟨_, rfl⟩
          rw [← hy] at c1
          rw [← hz] at c0 c2 hz0
          have y0 : -65536 ≤ y := by omega
          have y1 : y ≤ 65535 := by omega
          obtain ⟨z0, z1⟩ := hz0
          have HY := hide hy
          have HZ := hide hz
          have j16 : (j : Int) + 1 < 16 := by omega
          have d16 : decide ((j : Int) + 1 < 16) = true := by simp; omega
          clear hy0 hk0 hv0 hdd hkk hy hz hS
          by_cases h15 : j = 14
          · subst h15
            have hq : pRow.getD (14 + 1) 0 = 32767 := rfl
            have HQ := hide hq
            clear hq
            by_cases hneg : y < 0
            · have dn : decide (y < 0) = true := by simp; omega
              go_wp2_with fail
              go_roundw
              case rel =>
                have h3 := ((((HS.out.setCell 0 rfl 15 (.int .i64 (z - 65535))).setCell 0 rfl 15 (.int .i64 (z - 32767))).setCell 0 rfl 15 (.int .i64 (z - 32767 - 1))).setCell 0 rfl 14 (.int .i64 (y + 65536)))
                simp only [List.set_cons_zero, ivs_set, List.set_set] at h3
                have e1 : z - 32767 - 1 = (suL u).getD (15) 0 + ky (suL u) (15) := by rw [HV.out, HKK.out, HQ.out, ← HY.out, ← HZ.out]; omega
                have e2 : y + 65536 = dy (suL u) 14 := by rw [HDD.out, ← HY.out]; omega
                have e3 : ((suA u (14 + 1)).set (15) (z - 32767 - 1)).set 14 (y + 65536) = suA u (14 + 1 + 1) := by rw [e1, e2]; exact HT.out
                rw [e3] at h3
                exact ⟨14 + 1, by omega, by go_num, h3⟩
              case measure => (simp [intOf]) <;> omega
            · have dn : decide (y < 0) = false := by simp; omega
              go_wp2_with fail
              go_roundw
              case rel =>
                have h3 := ((HS.out.setCell 0 rfl 15 (.int .i64 (z - 65535))).setCell 0 rfl 15 (.int .i64 (z - 32767)))
                simp only [List.set_cons_zero, ivs_set, List.set_set] at h3
                have e1 : z - 32767 = (suL u).getD (15) 0 + ky (suL u) (15) := by rw [HV.out, HKK.out, HQ.out, ← HY.out, ← HZ.out]; omega
                have e2 : y = dy (suL u) 14 := by rw [HDD.out, ← HY.out]; omega
                have e4 : ((suA u (14 + 1)).set (15) (z - 32767)).set 14 y = (suA u (14 + 1)).set (15) (z - 32767) := set_same (by rw [List.getElem?_set_ne (by omega), HY.out]; exact suA_at HKD.out.1 (i := 14 + 1) (by omega) (by omega))
                have e3 : (suA u (14 + 1)).set (15) (z - 32767) = suA u (14 + 1 + 1) := by rw [← e4, e1, e2]; exact HT.out
                rw [e3] at h3
                exact ⟨14 + 1, by omega, by go_num, h3⟩
              case measure => (simp [intOf]) <;> omega
          · have e15 : decide ((j : Int) + 1 = 15) = false := by simp; omega
            have e15b : ((j : Int) + 1 == 15) = false := by simp; omega
            have e15c : ((j : Int) == 14) = false := by simp; omega
            have e15d : decide ((j : Int) = 14) = false := by simp; omega
            have n15 : ¬ (j : Int) = 14 := by omega
            have hq := pRow_mid (i := j + 1) (by omega) (by omega)
            have HQ := hide hq
            clear hq
            by_cases hneg : y < 0
            · have dn : decide (y < 0) = true := by simp; omega
              go_wp2_with fail
              go_roundw
              case rel =>
                have h3 := (((HS.out.setCell 0 rfl (j + 1) (.int .i64 (z - 65535))).setCell 0 rfl (j + 1) (.int .i64 (z - 65535 - 1))).setCell 0 rfl j (.int .i64 (y + 65536)))
                simp only [List.set_cons_zero, ivs_set, List.set_set] at h3
                have e1 : z - 65535 - 1 = (suL u).getD (j + 1) 0 + ky (suL u) (j + 1) := by rw [HV.out, HKK.out, HQ.out, ← HY.out, ← HZ.out]; omega
                have e2 : y + 65536 = dy (suL u) j := by rw [HDD.out, ← HY.out]; omega
                have e3 : ((suA u (j + 1)).set (j + 1) (z - 65535 - 1)).set j (y + 65536) = suA u (j + 1 + 1) := by rw [e1, e2]; exact HT.out
                rw [e3] at h3
                exact ⟨j + 1, by omega, by go_num, h3⟩
              case measure => (simp [intOf]) <;> omega
            · have dn : decide (y < 0) = false := by simp; omega
              go_wp2_with fail
              go_roundw
              case rel =>
                have h3 := (HS.out.setCell 0 rfl (j + 1) (.int .i64 (z - 65535)))
                simp only [List.set_cons_zero, ivs_set, List.set_set] at h3
                have e1 : z - 65535 = (suL u).getD (j + 1) 0 + ky (suL u) (j + 1) := by rw [HV.out, HKK.out, HQ.out, ← HY.out, ← HZ.out]; omega
                have e2 : y = dy (suL u) j := by rw [HDD.out, ← HY.out]; omega
                have e4 : ((suA u (j + 1)).set (j + 1) (z - 65535)).set j y = (suA u (j + 1)).set (j + 1) (z - 65535) := set_same (by rw [List.getElem?_set_ne (by omega), HY.out]; exact suA_at HKD.out.1 (i := j + 1) (by omega) (by omega))
                have e3 : (suA u (j + 1)).set (j + 1) (z - 65535) = suA u (j + 1 + 1) := by rw [← e4, e1, e2]; exact HT.out
                rw [e3] at h3
                exact ⟨j + 1, by omega, by go_num, h3⟩
              case measure => (simp [intOf]) <;> omega
        · obtain rfl : j = 15 := by omega
          have hsE : suA u (15 + 1) = suE u := suA_end HKD.out.1
          rw [hsE] at hS
          have c1 : wr.cell? ⟨g2, 15, none⟩ = some (.int .i64 ((suL u).getD 15 0 + ky (suL u) 15)) := by rw [hS.cell 0 rfl 15]; exact ivs_get rfl
          have hN : suNi t (k + 1) = suN u := by rw [HU.out]; rfl
          have HN := hide hN
          have hE : suN u = if 0 ≤ (suL u).getD 15 0 + ky (suL u) 15 then suE u else u := rfl
          have HEE := hide hE
          have hb := suL_bd HKD.out (i := 15) (by omega)
          have hk15 := suL_ky HKD.out 15 (by omega)
          obtain ⟨y, hy⟩ : ∃ y, y = (suL u).getD 15 0 + ky (suL u) 15 := ⟨_, rfl⟩
          rw [← hy] at c1 HEE
          have y0 : -65536 ≤ y := by omega
          have y1 : y ≤ 65535 := by omega
          clear hN hE hsE hb hk15 hy HS
          by_cases hpos : 0 ≤ y
          · have dp : decide (0 ≤ y) = true := by simp; omega
            have dpn : decide (y < 0) = false := by simp; omega
            have hEE := HEE.out
            rw [if_pos hpos] at hEE
            obtain ⟨ea, hea⟩ : ∃ a, a = (ivs (suE u)).toArray := ⟨_, rfl⟩
            have hse : ea.size = 16 := by rw [hea, List.size_toArray, ivs_len]; unfold suE; rw [List.length_append, dyL_len]; rfl
            have hoe : ea.all (·.oneCell') = true := by rw [hea]; exact ivs_all _
            have hsu : (ivs u).toArray.size = 16 := by rw [List.size_toArray, ivs_len]; exact HKD.out.1
            rw [← hea] at hS
            have HEA := hide (hea.trans (by rw [← hEE, ← HN.out]))
            have HS7 := hide hS
            have HS8 := hide (show St w NoB (wr.setRow g ea) [.cells g ea 41] from (hS.setRow 1 rfl ea).pickL [1] (by decide) rfl)
            clear hS hEE hea
            go_upto_region 16 with fail
            refine wp_region_list ?_
            refine wpList_load_row rfl 41 (.tmp 4) rfl g2 rfl 41 ea _ _ (HS7.out.heap 0 rfl) Try.underlying41 rfl (by rw [hse]; kernel_rfl) ?_
            refine wpList_store_row rfl 41 (.tmp 3) (.tmp 57) rfl g ea rfl rfl 41 _ (HS7.out.heap 1 rfl) (by rw [hse]; kernel_rfl) (by rw [hse, hsu]) hoe ?_
            refine wpList_nil ?_
            go_wp2_with fail
            go_roundw
            case rel => exact ⟨k + 1, by omega, by go_num, HEA.out ▸ HS8.out⟩
            case measure => (simp [intOf]) <;> omega
          · have dp : decide (0 ≤ y) = false := by simp; omega
            have dpn : decide (y < 0) = true := by simp; omega
            have hEE := HEE.out
            rw [if_neg hpos] at hEE
            have HS8 := hide (show St w NoB wr [.cells g (ivs (suNi t (k + 1))).toArray 41] by
              rw [HN.out, hEE]
              exact hS.pickL [1] (by decide) rfl)
            clear hS hEE
            go_wp2_with fail
            go_roundw
            case rel => exact ⟨k + 1, by omega, by go_num, HS8.out⟩
            case measure => (simp [intOf]) <;> omega
    · obtain rfl : k = 3 := by omega
      have hb : u = bytN xs := by rw [hu, HTT.out]; rfl
      have hbb := HE.out
      rw [← hb] at hbb
      have HV := hide (show leB 32 (nv xs % (Pq : Int)).toNat = byN u 16 by
        unfold byN
        rw [List.take_of_length_le (by rw [hkd.1]; exact Nat.le_refl _), rowsB u (dig_all hkd), hkd.1, hbb.2])
      obtain ⟨ua, hua⟩ : ∃ a, a = (ivs u).toArray := ⟨_, rfl⟩
      have hsu : ua.size = 16 := by rw [hua, List.size_toArray, ivs_len]; exact hkd.1
      rw [← hua] at hS
      have HUA := hide hua
      have HS := hide hS
      clear hS hu hua hkd hbb hb
      simp only [Int.cast_ofNat_Int]
      go_upto_region 19 with fail
      refine wp_region_list ?_
      refine wpList_load_row rfl 41 (.tmp 3) rfl g rfl 41 ua _ _ (HS.out.heap 0 rfl) Try.underlying41 rfl (by rw [hsu]; kernel_rfl) ?_
      have HSR := hide ((HS.out.row (Below.refl _ _) (World.ownsRow_nil _ _ 5 1)).pickL [0] (by decide) rfl : St w NoB wr [.row (.slice none 0 0) 5 1 0 []])
      go_wp2_with fail
      go_loopw [6, 60] (fun b i wr => BvRel w u b i wr) (fun _ i _ => 16 - (intOf i).toNat)
      case atStart => exact ⟨0, none, 0, by omega, rfl, rfl, HSR.out⟩
      case round =>
        clear HSR HS
        obtain ⟨i, A, c, hi, rfl, rfl, hS⟩ := hrel
        have HS := hide hS
        by_cases hlt : i < 16
        · have d16 : decide ((i : Int) < 16) = true := by simp; omega
          have i16 : (i : Int) < 16 := by omega
          have hxd := HKD.out.2 i _ (len16 HKD.out.1 hlt)
          have hix : ∀ W, (Instr.index 41 (.agg ua) (.int .i64 (i : Int))).run Try.prog W = .ok (.int .i64 (u.getD i 0)) W := fun W => by
            rw [HUA.out]
            exact ix16 HKD.out.1 hlt W
          have HT := hide (byN_succ u HKD.out.1 i hlt)
          obtain ⟨x, hx⟩ : ∃ x, x = u.getD i 0 := ⟨_, rfl⟩
          rw [← hx] at hix hxd HT
          obtain ⟨x0, x1⟩ := hxd
          obtain ⟨p, hp⟩ : ∃ p : Nat, (p : Int) = x % 256 := ⟨(x % 256).toNat, by omega⟩
          obtain ⟨q, hq⟩ : ∃ q : Nat, (q : Int) = x / 256 % 256 := ⟨(x / 256 % 256).toNat, by omega⟩
          have hr : bvs (rowB x) = [.int .u8 (p : Int), .int .u8 (q : Int)] := by
            have e1 : (x % 256).toNat = p := by omega
            have e2 : (x / 256 % 256).toNat = q := by omega
            simp only [bvs, rowB, List.map_cons, List.map_nil, bv, e1, e2, UInt8.toNat_ofNat']
            rw [Nat.mod_eq_of_lt (by omega), Nat.mod_eq_of_lt (by omega)]
          have HRB := hide hr
          have w1 : IntKind.u8.wrap x = (p : Int) := by rw [IntKind.wrap_u8]; omega
          have w2 : IntKind.u8.wrap (x / 256) = (q : Int) := by rw [IntKind.wrap_u8]; omega
          have w3 : x % 256 = (p : Int) := hp.symm
          have w4 : x / 256 % 256 = (q : Int) := hq.symm
          have p256 : (p : Int) < 256 := by omega
          have q256 : (q : Int) < 256 := by omega
          clear hx hp hq hr hS
          go_wp2_with (at_builtin; refine wl_append1 rfl rfl tyB HS.out 0 rfl rfl (us := [.int .u8 (p : Int), .int .u8 (q : Int)]) rfl rfl ?_ ?_ (by decide) ?_; (intro u hu; simp only [List.mem_cons, List.not_mem_nil, or_false] at hu; rcases hu with rfl | rfl <;> rfl); (simp only [List.length_cons, List.length_nil]; omega); intro B3 d3 w3 hS3)
          go_roundw
          case rel =>
            simp only [List.set_cons_zero] at hS3
            rw [← HRB.out, ← bvs_append, ← HT.out] at hS3
            exact ⟨i + 1, B3, d3, by omega, by go_num, by rw [Nat.mul_add], hS3⟩
          case measure => (simp [intOf]) <;> omega
        · obtain rfl : i = 16 := by omega
          clear hS
          go_wp2_with fail
          go_ret
          exact ⟨A, c, rfl, HS.out.below, by rw [HV.out]; exact HS.out.ownsRow 0 rfl⟩
end Go.Proofs.Ytdihedhhkcakoaa
