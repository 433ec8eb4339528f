/-
  Layer 2, FieldBytes: the plain part.
-/
import Derived.Test.YtdihedhhkcakoaaKi
namespace Go.Proofs.Ytdihedhhkcakoaa
open Go.RowKit

theorem fullL_id (l : List UInt8) (h : l.length = 32) : fullL l = l := by
  unfold fullL
  rw [List.take_append_of_le_length (by omega), List.take_of_length_le (by omega)]
theorem leB_get : ∀ (k n i : Nat), i < k → (leB k n)[i]? = some (UInt8.ofNat (n / 256 ^ i % 256))
  | k + 1, n, 0, _ => by simp [leB]
  | k + 1, n, i + 1, h => by
    rw [leB, List.getElem?_cons_succ, leB_get k (n / 256) i (by omega), Nat.div_div_eq_div_mul, Nat.pow_succ, Nat.mul_comm]
theorem top_byte (V : Nat) (h : V < Pq) : V / 256 ^ 31 % 256 ≤ 127 := by
  have h1 : Pq < 128 * 256 ^ 31 := by unfold Pq; decide
  have : V / 256 ^ 31 < 128 := (Nat.div_lt_iff_lt_mul (by decide)).2 (by omega)
  omega
@[irreducible] def pL : List UInt8 := leB 32 Pq
theorem pL_set : ((List.replicate 32 (255 : UInt8)).set 0 237).set 31 127 = pL := by unfold pL Pq; decide +kernel
theorem pL_len : pL.length = 32 := by unfold pL; exact leB_len _ _
theorem pL_val : bval pL = Pq := by unfold pL; rw [bval_leB]; exact Nat.mod_eq_of_lt Pq_256.1
@[irreducible] def qL : List UInt8 := 238 :: pL.drop 1
theorem qL_len : qL.length = 32 := by unfold qL; rw [List.length_cons, List.length_drop, pL_len]
theorem qL_val : bval qL = Pq + 1 := by unfold qL pL Pq; decide +kernel
/-- All of them 255 but the first, the last 127: such a number is below p by its first byte alone. -/
theorem big_low (V : Nat) (h : V < Pq) (hb : ∀ i, 1 ≤ i → i < 31 → V / 256 ^ i % 256 = 255) (h31 : V / 256 ^ 31 % 256 = 127) : V % 256 < 237 := by
  have e : bval (leB 32 V) = V := by rw [bval_leB]; exact Nat.mod_eq_of_lt (Nat.lt_trans h Pq_256.1)
  have e2 : leB 32 V = UInt8.ofNat (V % 256) :: pL.drop 1 := by
    refine List.ext_getElem? fun i => ?_
    match i with
    | 0 => rw [leB_get 32 V 0 (by omega)]; simp
    | i + 1 =>
      rw [List.getElem?_cons_succ, List.getElem?_drop]
      by_cases hi : i + 1 < 32
      · rw [leB_get 32 V (i + 1) hi, Nat.add_comm 1 i, ← pL_set]
        by_cases h1 : i + 1 = 31
        · rw [h1, h31, List.getElem?_set_self (by simp)]
          rfl
        · rw [hb (i + 1) (by omega) (by omega), List.getElem?_set_ne (by omega), List.getElem?_set_ne (by omega), List.getElem?_replicate, if_pos hi]
          rfl
      · rw [List.getElem?_eq_none (by rw [leB_len]; omega), List.getElem?_eq_none (by rw [pL_len]; omega)]
  have e3 : 256 * bval (pL.drop 1) + 237 = Pq := by unfold pL Pq; decide +kernel
  rw [e2, bval, UInt8.toNat_ofNat', Nat.mod_mod] at e
  omega
def fillL (k : Nat) : List UInt8 := List.replicate k 255 ++ List.replicate (32 - k) 0
theorem fillL_len (k : Nat) (h : k ≤ 32) : (fillL k).length = 32 := by unfold fillL; rw [List.length_append, List.length_replicate, List.length_replicate]; omega
theorem fillL_set (k : Nat) (h : k < 32) : (fillL k).set k 255 = fillL (k + 1) := by
  unfold fillL
  rw [List.set_append_right _ _ (by simp), List.length_replicate, Nat.sub_self, show 32 - k = (32 - (k + 1)) + 1 from by omega, List.replicate_succ, List.set_cons_zero, List.replicate_succ', List.append_assoc]
  rfl
/-- Of the number's bytes: the last 127, and all before i, from the second on, 255. -/
def bigAt (V i : Nat) : Bool := decide (V / 256 ^ 31 % 256 = 127) && (List.range i).all fun j => decide (j = 0) || decide (V / 256 ^ j % 256 = 255)
theorem bigAt_one (V : Nat) : bigAt V 1 = decide (V / 256 ^ 31 % 256 = 127) := by unfold bigAt; simp [List.range_succ]
theorem bigAt_next (V i : Nat) (h : 1 ≤ i) : bigAt V (i + 1) = (bigAt V i && decide (V / 256 ^ i % 256 = 255)) := by
  unfold bigAt
  rw [List.range_succ, List.all_append, List.all_cons, List.all_nil, Bool.and_true, decide_eq_false (show ¬ i = 0 by omega), Bool.false_or, Bool.and_assoc]
theorem bigAt_low (V : Nat) (h : V < Pq) (hb : bigAt V 31 = true) : V % 256 < 237 := by
  unfold bigAt at hb
  rw [Bool.and_eq_true, decide_eq_true_eq, List.all_eq_true] at hb
  refine big_low V h (fun i h1 h2 => ?_) hb.1
  have := hb.2 i (List.mem_range.2 h2)
  rw [Bool.or_eq_true, decide_eq_true_eq, decide_eq_true_eq] at this
  omega
theorem rd_mid {w : World} {b o n c : Nat} {l : List UInt8} (h : Rd w (.slice (some ⟨b, o, none⟩) n c) 1 n (bvs l)) (i j : Nat) (hij : i ≤ j) (hj : j ≤ n) :
    Rd w (.slice (some ⟨b, o + i, none⟩) (j - i) (c - i)) 1 (j - i) (bvs ((l.drop i).take (j - i))) := by
  obtain ⟨A', c', e, h1, h2, h3, h4, h5⟩ := h
  injection e with e1 _ e3
  subst e1 e3
  rw [length_bvs] at h1
  refine ⟨_, _, rfl, by rw [length_bvs, List.length_take, List.length_drop]; omega, by omega, by omega, (fun h => by cases h), ?_⟩
  intro b' o' sp' hA
  injection hA with hA
  injection hA with k1 k2 k3
  subst k1 k2 k3
  refine ⟨fun _ => rfl, fun k u hu => ?_⟩
  obtain ⟨x, hx, rfl⟩ : ∃ x, ((l.drop i).take (j - i))[k]? = some x ∧ u = .int .u8 (x.toNat : Int) := by
    simp only [bvs, List.getElem?_map, Option.map_eq_some_iff] at hu
    obtain ⟨x, h1, h2⟩ := hu
    exact ⟨x, h1, h2.symm⟩
  have hk : k < j - i := by
    have := (List.getElem?_eq_some_iff.1 hx).1
    rw [List.length_take] at this
    omega
  rw [List.getElem?_take_of_lt hk, List.getElem?_drop] at hx
  have := (h5 b o none rfl).2 (i + k) _ (bvs_get hx)
  rwa [show o + (i + k) = o + i + k from by omega] at this
theorem q_eq : [Value.int .u8 238] ++ bvs ((pL.drop 1).take 31) = bvs qL := by
  unfold qL
  rw [List.take_of_length_le (by rw [List.length_drop, pL_len]; omega)]
  rfl
theorem p_zero : bval (fullL pL) % Pq = 0 := by rw [fullL_id _ pL_len, pL_val, Nat.mod_self]
theorem q_one : bval (fullL qL) % Pq = 1 := by
  rw [fullL_id _ qL_len, qL_val, Nat.add_mod_left]
  exact Nat.mod_eq_of_lt (by have := Pq_256.2; omega)
theorem zero_any (W : World) : Calls Try.prog 13 #[.agg #[.int .u64 0, .int .u64 0, .int .u64 0, .int .u64 0, .int .u64 0]] W fun r w' => r = .returned (.bool true) ∧ Below W.heap.size W w' := by
  have := iszero_walk 0 0 0 0 0 W (low_small 0 (by omega))
  rw [ev_small 0 (by omega), decide_eq_true rfl] at this
  exact this
end Go.Proofs.Ytdihedhhkcakoaa
