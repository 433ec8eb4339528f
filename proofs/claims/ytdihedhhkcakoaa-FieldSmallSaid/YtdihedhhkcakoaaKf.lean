/-
  The walks of layer 2: Small, IsZero.
-/
import Derived.Test.YtdihedhhkcakoaaKe
namespace Go.Proofs.Ytdihedhhkcakoaa
open Go.RowKit

theorem enSmall (args : Array Value) (w : World) : (callFunc 14 args).run Try.prog w = .ok (.enter 14 args) w := by kernel_rfl
theorem ev_small (n : Nat) (h : n < 4294967296) : ev [n, 0, 0, 0, 0] = n := by
  unfold ev
  simp only [fv, Nat.mul_zero, Nat.add_zero]
  exact Nat.mod_eq_of_lt (by unfold Pq; omega)
theorem low_small (n : Nat) (h : n < 4294967296) : Low [n, 0, 0, 0, 0] := fun k x hx => by
  match k, hx with
  | 0, hx => injection hx with hx; unfold T51; omega
  | 1, hx => injection hx with hx; unfold T51; omega
  | 2, hx => injection hx with hx; unfold T51; omega
  | 3, hx => injection hx with hx; unfold T51; omega
  | 4, hx => injection hx with hx; unfold T51; omega
set_option maxRecDepth 100000 in
set_option maxHeartbeats 800000 in
theorem small_walk (n : Nat) (w : World) (h : n < 4294967296) :
    Calls Try.prog 14 #[.int .u32 (n : Int)] w fun r w' => r = .returned (.agg #[.int .u64 (n : Int), .int .u64 0, .int .u64 0, .int .u64 0, .int .u64 0]) ∧ Below w.heap.size w w' := by
  have HS := hide ((St.init w NoB).alloc #[.int .u64 (n : Int), .int .u64 0, .int .u64 0, .int .u64 0, .int .u64 0] 27)
  go_enter Try.func14, Try.ntmps14
  go_wp2_with fail
  refine bodyPost_ret (results_cell_row rfl _ _ w.heap.size _ _ _ _ rfl (HS.out.heap 0 rfl) Try.underlying27 rfl (by kernel_rfl)) rfl ?_
  exact ⟨rfl, HS.out.below⟩
set_option maxRecDepth 100000 in
set_option maxHeartbeats 800000 in
theorem iszero_walk (a b c d e : Nat) (w : World) (h1 : Low [a, b, c, d, e]) :
    Calls Try.prog 13 #[(.agg #[.int .u64 (a : Int), .int .u64 (b : Int), .int .u64 (c : Int), .int .u64 (d : Int), .int .u64 (e : Int)])] w fun r w' => r = .returned (.bool (decide (ev [a, b, c, d, e] = 0))) ∧ Below w.heap.size w w' := by
  have z : ev [0, 0, 0, 0, 0] = 0 := ev_small 0 (by omega)
  have HC := hide (fun W => same_walk a b c d e 0 0 0 0 0 W h1 (low_small 0 (by omega)))
  rw [z] at HC
  have HS0 := hide ((St.init w NoB).alloc #[.int .u64 (a : Int), .int .u64 (b : Int), .int .u64 (c : Int), .int .u64 (d : Int), .int .u64 (e : Int)] 27)
  clear z h1
  go_enter Try.func13, Try.ntmps13
  go_wp2_with (go_at_call 12; refine (HC.out _).mono ?_; rintro r w1 ⟨rfl, hb1⟩)
  go_ret
  exact ⟨rfl, (HS0.out.call hb1).below⟩
end Go.Proofs.Ytdihedhhkcakoaa
