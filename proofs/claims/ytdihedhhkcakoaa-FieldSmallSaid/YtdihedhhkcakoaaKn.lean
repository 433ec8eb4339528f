/-
  The walk of layer 2's (wide).plus: a sum of 128 bits.
-/
import Derived.Test.YtdihedhhkcakoaaKm
namespace Go.Proofs.Ytdihedhhkcakoaa
open Go.RowKit

abbrev W1 : Nat := 18446744073709551616
theorem plus_num (v a b : Nat) (ha : a < W1) (hb : b < W1) (hv : v + a * b < W1 * W1) :
    adS (muL a b) (v % W1) 0 = (v + a * b) % W1 ∧ adS (muH a b) (v / W1) (adC (muL a b) (v % W1) 0) = (v + a * b) / W1 ∧ adC (muL a b) (v % W1) 0 ≤ 1 := by
  obtain ⟨m1, m2, m3⟩ := mu_spec a b ha hb
  obtain ⟨a1, a2, a3⟩ := ad_spec (muL a b) (v % W1) 0 m2 (Nat.mod_lt _ (by decide)) (Nat.zero_le 1)
  have e : adS (muH a b) (v / W1) (adC (muL a b) (v % W1) 0) = (muH a b + v / W1 + adC (muL a b) (v % W1) 0) % W1 := by unfold adS; rfl
  rw [e]
  unfold W1 at *
  generalize a * b = P at *
  generalize adS (muL a b) (v % 18446744073709551616) 0 = s at *
  generalize adC (muL a b) (v % 18446744073709551616) 0 = c at *
  generalize muL a b = l at *
  generalize muH a b = h at *
  have hlt : (v + P) / 18446744073709551616 < 18446744073709551616 := Nat.div_lt_of_lt_mul hv
  refine ⟨by omega, by omega, a3⟩
set_option maxRecDepth 100000 in
set_option maxHeartbeats 800000 in
theorem plus_walk (v a b : Nat) (w : World) (ha : a < W1) (hb : b < W1) (hv : v + a * b < W1 * W1) :
    Calls Try.prog 33 #[.agg #[.int .u64 ((v / W1 : Nat) : Int), .int .u64 ((v % W1 : Nat) : Int)], .int .u64 (a : Int), .int .u64 (b : Int)] w fun r w' =>
      r = .returned (.agg #[.int .u64 (((v + a * b) / W1 : Nat) : Int), .int .u64 (((v + a * b) % W1 : Nat) : Int)]) ∧ Below w.heap.size w w' := by
  obtain ⟨p1, p2, p3⟩ := plus_num v a b ha hb hv
  have HM := hide (fun W => mul_any a b W ha hb)
  have A1 := add0_any (muL a b) (v % W1)
  have A2 := add_any (muH a b) (v / W1) (adC (muL a b) (v % W1) 0) p3
  rw [p2] at A2
  rw [p1] at A1
  generalize adC (muL a b) (v % W1) 0 = c at *
  generalize v / W1 = H at *
  generalize v % W1 = L at *
  generalize (v + a * b) / W1 = H' at *
  generalize (v + a * b) % W1 = L' at *
  generalize muL a b = ml at *
  generalize muH a b = mh at *
  have HS0 := hide (((St.init w NoB).alloc #[.int .u64 (H : Int), .int .u64 (L : Int)] 55).alloc #[.int .u64 (H' : Int), .int .u64 (L' : Int)] 55)
  rw [size_alloc1] at HS0
  clear p1 p2 p3 hv ha hb
  go_enter Try.func33, Try.ntmps33
  go_wp2_with (go_at_call 39; refine (HM.out _).mono ?_; rintro r w2 ⟨rfl, rfl⟩)
  refine bodyPost_ret (results_cell_row rfl _ _ (w.heap.size + 1) _ _ _ _ rfl (HS0.out.heap 0 rfl) Try.underlying55 rfl (by kernel_rfl)) rfl ?_
  exact ⟨rfl, HS0.out.below⟩
end Go.Proofs.Ytdihedhhkcakoaa
