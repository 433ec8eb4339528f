/-
  Limbs: numbers in any base, the lowest first; what carrying does. No program is named here.
-/
import Derived.Test.YtdihedhhkcakoaaNm
import Derived.Test.YtdihedhhkcakoaaBl
namespace Go.Proofs.Ytdihedhhkcakoaa
open Go.RowKit

/-- The number of limbs. -/
def fv (T : Nat) : List Nat → Nat
  | [] => 0
  | x :: xs => x + T * fv T xs
theorem fv_append (T : Nat) : ∀ (xs ys : List Nat), fv T (xs ++ ys) = fv T xs + T ^ xs.length * fv T ys
  | [], ys => by simp [fv]
  | x :: xs, ys => by
    simp only [List.cons_append, fv, fv_append T xs ys, List.length_cons]
    rw [Nat.pow_succ, Nat.mul_add, Nat.add_assoc, ← Nat.mul_assoc, Nat.mul_comm (T ^ xs.length) T]
theorem fv_take {T : Nat} {xs : List Nat} {k x : Nat} (h : xs[k]? = some x) : fv T (xs.take (k + 1)) = fv T (xs.take k) + x * T ^ k := by
  have hk := (List.getElem?_eq_some_iff.1 h).1
  rw [List.take_add_one, h, Option.toList_some, fv_append, List.length_take, Nat.min_eq_left (by omega)]
  simp only [fv, Nat.mul_zero, Nat.add_zero]
  rw [Nat.mul_comm]
theorem fv_take_set (T : Nat) (xs : List Nat) (k y : Nat) (hk : k < xs.length) : fv T ((xs.set k y).take (k + 1)) = fv T (xs.take k) + y * T ^ k := by
  have h : (xs.set k y)[k]? = some y := by simp [hk]
  rw [fv_take h, List.take_set_of_le (Nat.le_refl k)]
/-- One limb carried. -/
theorem carry_step (T : Nat) (l cur : List Nat) (k o x m o' : Nat) (hk : k < cur.length) (hx : l[k]? = some x) (hm : m + o' * T = x + o)
    (h : fv T (cur.take k) + o * T ^ k = fv T (l.take k)) : fv T ((cur.set k m).take (k + 1)) + o' * T ^ (k + 1) = fv T (l.take (k + 1)) := by
  rw [fv_take_set T cur k _ hk, fv_take hx, ← h, Nat.pow_succ]
  have h2 := congrArg (· * T ^ k) hm
  simp only [Nat.add_mul] at h2
  rw [show o' * (T ^ k * T) = o' * T * T ^ k from by rw [Nat.mul_comm (T ^ k), Nat.mul_assoc]]
  omega
theorem fv_set0 (T x y : Nat) (xs : List Nat) : fv T ((x :: xs).set 0 (x + y)) = fv T (x :: xs) + y := by
  simp only [List.set_cons_zero, fv]
  omega
abbrev T51 : Nat := 2251799813685248
@[irreducible] def Pq : Nat := 57896044618658097711785492504343953926634992332820282019728792003956564819949
theorem Pq_eq : T51 ^ 5 = Pq + 19 := by unfold Pq T51; decide
theorem Pq_256 : Pq < 256 ^ 32 ∧ 1000000 < Pq := by unfold Pq; decide
/-- The value of an element. -/
def ev (xs : List Nat) : Nat := fv T51 xs % Pq
theorem ev_lt (xs : List Nat) : ev xs < Pq := Nat.mod_lt _ (by have := Pq_256.2; omega)
/-- Limbs as the code keeps them. -/
def Red (xs : List Nat) : Prop := xs.length = 5 ∧ ∀ (k x : Nat), xs[k]? = some x → x < T51 + (if k = 0 then 38 else 0)
theorem fold_ev (x o V : Nat) (xs : List Nat) (h : fv T51 (x :: xs) + o * T51 ^ 5 = V) : ev ((x :: xs).set 0 (x + 19 * o)) = V % Pq := by
  unfold ev
  rw [fv_set0, ← h, Pq_eq, Nat.mul_add, ← Nat.add_assoc, Nat.add_right_comm, Nat.mul_comm o 19, Nat.add_mul_mod_self_right]
/-- What the code's carrying has done behind k limbs of a pass. -/
def Pass (B : Nat) (l : List Nat) (k o : Nat) (cur : List Nat) : Prop :=
  cur.length = 5 ∧ cur.drop k = l.drop k ∧ fv T51 (cur.take k) + o * T51 ^ k = fv T51 (l.take k) ∧ (∀ (j x : Nat), j < k → cur[j]? = some x → x < T51) ∧ o ≤ B
theorem pass_start (B : Nat) (l : List Nat) (hl : l.length = 5) : Pass B l 0 0 l := ⟨hl, rfl, by simp, fun _ _ h => absurd h (by omega), by omega⟩
theorem pass_get {B : Nat} {l : List Nat} {k o : Nat} {cur : List Nat} (h : Pass B l k o cur) (hk : k < 5) (hl : l.length = 5) : ∃ x, l[k]? = some x ∧ cur[k]? = some x := by
  obtain ⟨x, hx⟩ : ∃ x, l[k]? = some x := ⟨l[k], List.getElem?_eq_getElem _⟩
  refine ⟨x, hx, ?_⟩
  have := congrArg (·[0]?) h.2.1
  simpa [List.getElem?_drop, hx] using this
theorem pass_next {B : Nat} {l : List Nat} {k o x : Nat} {cur : List Nat} (h : Pass B l k o cur) (hk : k < 5) (hx : l[k]? = some x) (hB : B < T51) (hxB : x < B * T51) :
    Pass B l (k + 1) ((x + o) / T51) (cur.set k ((x + o) % T51)) := by
  obtain ⟨h1, h2, h3, h4, h5⟩ := h
  refine ⟨by rw [List.length_set]; exact h1, ?_, ?_, ?_, ?_⟩
  · rw [drop_set_succ, ← List.drop_drop, h2, List.drop_drop]
  · refine carry_step T51 l cur k o x _ _ (by omega) hx ?_ h3
    have := Nat.div_add_mod (x + o) T51
    rw [Nat.mul_comm] at this
    omega
  · intro j y hj hy
    by_cases hjk : j = k
    · subst hjk
      rw [List.getElem?_set_self (by omega)] at hy
      injection hy with hy
      rw [← hy]
      exact Nat.mod_lt _ (by decide)
    · rw [List.getElem?_set_ne (by omega)] at hy
      exact h4 j y (by omega) hy
  · have : x + o < (B + 1) * T51 := by rw [Nat.add_mul]; omega
    have := (Nat.div_lt_iff_lt_mul (by decide)).2 this
    omega
/-- A pass that is through, folded. -/
theorem pass_end {B : Nat} {l : List Nat} {o : Nat} {cur : List Nat} (h : Pass B l 5 o cur) (hl : l.length = 5) :
    ∃ x xs, cur = x :: xs ∧ xs.length = 4 ∧ x < T51 ∧ (∀ y ∈ xs, y < T51) ∧ ev (cur.set 0 (x + 19 * o)) = ev l ∧ o ≤ B := by
  obtain ⟨h1, _, h3, h4, h5⟩ := h
  match cur, h1 with
  | x :: xs, h1 =>
    have hxs : xs.length = 4 := by simpa using h1
    refine ⟨x, xs, rfl, hxs, h4 0 x (by omega) rfl, fun y hy => ?_, ?_, h5⟩
    · obtain ⟨j, hj⟩ := List.getElem?_of_mem hy
      have := (List.getElem?_eq_some_iff.1 hj).1
      exact h4 (j + 1) y (by omega) hj
    · rw [List.take_of_length_le (by omega), List.take_of_length_le (by omega)] at h3
      exact fold_ev x o _ xs h3
end Go.Proofs.Ytdihedhhkcakoaa
