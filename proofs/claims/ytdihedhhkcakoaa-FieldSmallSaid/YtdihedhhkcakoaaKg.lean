/-
  Layer 2: what Sub does, in plain numbers.
-/
import Derived.Test.YtdihedhhkcakoaaKf
namespace Go.Proofs.Ytdihedhhkcakoaa
open Go.RowKit

/-- Four times p, limb by limb. -/
def tw4 : List Nat := [9007199254740916, 9007199254740988, 9007199254740988, 9007199254740988, 9007199254740988]
theorem tw4_val : fv T51 tw4 = 4 * Pq := by unfold Pq tw4 T51; decide
/-- What the code's loop has done behind k limbs. -/
def SubAt (a b : List Nat) (k : Nat) (cur : List Nat) : Prop :=
  cur.length = 5 ∧ cur.drop k = a.drop k ∧ fv T51 (cur.take k) + fv T51 (b.take k) = fv T51 (a.take k) + fv T51 (tw4.take k) ∧ ∀ (j x : Nat), cur[j]? = some x → x < 6 * T51
theorem sub_start (a b : List Nat) (ha : Red a) : SubAt a b 0 a := ⟨ha.1, rfl, by simp [fv], fun j x hx => by
  have := ha.2 j x hx
  unfold T51 at this ⊢
  split at this <;> omega⟩
theorem sub_next {a b : List Nat} {k x y t : Nat} {cur : List Nat} (h : SubAt a b k cur) (hk : k < 5) (hx : a[k]? = some x) (hy : b[k]? = some y) (ht : tw4[k]? = some t) (hyt : y ≤ t) (hs : x + (t - y) < 6 * T51) :
    SubAt a b (k + 1) (cur.set k (x + (t - y))) := by
  obtain ⟨h1, h2, h3, h4⟩ := h
  refine ⟨by rw [List.length_set]; exact h1, ?_, ?_, ?_⟩
  · rw [drop_set_succ, ← List.drop_drop, h2, List.drop_drop]
  · rw [fv_take_set T51 cur k _ (by omega), fv_take hx, fv_take hy, fv_take ht]
    have h5 : (x + (t - y)) * T51 ^ k + y * T51 ^ k = x * T51 ^ k + t * T51 ^ k := by rw [← Nat.add_mul, ← Nat.add_mul]; congr 1; omega
    omega
  · intro j z hz
    by_cases hj : j = k
    · subst hj
      rw [List.getElem?_set_self (by omega)] at hz
      injection hz with hz
      omega
    · rw [List.getElem?_set_ne (by omega)] at hz
      exact h4 j z hz
theorem sub_end {a b cur : List Nat} (h : SubAt a b 5 cur) (ha : Red a) (hb : Red b) : Low cur ∧ ev cur = (ev a + (Pq - ev b)) % Pq := by
  obtain ⟨h1, _, h3, h4⟩ := h
  refine ⟨fun k x hx => by have := h4 k x hx; unfold T51 at this ⊢; omega, ?_⟩
  rw [List.take_of_length_le (by omega), List.take_of_length_le (by rw [hb.1]; omega), List.take_of_length_le (by rw [ha.1]; omega), List.take_of_length_le (by decide), tw4_val] at h3
  have hp := Pq_256.2
  unfold ev
  generalize fv T51 cur = f at *
  generalize fv T51 a = g at *
  generalize fv T51 b = u at *
  have e1 : (f + u) % Pq = g % Pq := by rw [h3, Nat.add_mul_mod_self_right]
  have hu := Nat.mod_lt u (show 0 < Pq by omega)
  have e2 : ((f + u) + (Pq - u % Pq)) % Pq = f % Pq := by
    have := Nat.div_add_mod u Pq
    rw [show (f + u) + (Pq - u % Pq) = f + Pq * (u / Pq + 1) from by rw [Nat.mul_add]; omega, Nat.add_mul_mod_self_left]
  rw [← e2, Nat.add_mod, e1, ← Nat.add_mod g, Nat.mod_add_mod]
end Go.Proofs.Ytdihedhhkcakoaa
