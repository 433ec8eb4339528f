/-
  The walks of small functions of layer 6: Zig, Zag, may, mayNum.
-/
import Derived.Test.YtcfonifaijeecaaPw1
namespace Go.Proofs.Ytcfonifaijeecaa
open Go.RowKit

/-- 2 n, or -2 n - 1 below 0. -/
def zig (n : Int) : Nat := if 0 ≤ n then 2 * n.toNat else (-2 * n - 1).toNat
def zag (n : Nat) : Int := if n % 2 = 0 then (n / 2 : Nat) else -((n / 2 : Nat) : Int) - 1

theorem xor_ones (x : Nat) (hx : x < 18446744073709551616) : x ^^^ 18446744073709551615 = 18446744073709551615 - x := by
  have h := BitVec.toNat_not (x := BitVec.ofNat 64 x)
  have h2 : ~~~(BitVec.ofNat 64 x) = BitVec.ofNat 64 x ^^^ BitVec.allOnes 64 := by rw [BitVec.xor_allOnes]
  rw [h2, BitVec.toNat_xor] at h
  simpa [Nat.mod_eq_of_lt hx] using h
theorem u64_xor_sign (a b : Nat) (ha : a < 18446744073709551616) (hb : b = 0 ∨ b = 18446744073709551615) : bits .xor .u64 (a : Int) (b : Int) = if b = 0 then (a : Int) else 18446744073709551615 - (a : Int) := by
  rw [u64_xor_nat a b ha (by omega)]
  rcases hb with rfl | rfl
  · simp
  · rw [xor_ones a ha, if_neg (by omega)]
    omega
theorem i64_xor_sign (a : Nat) (b : Int) (ha : a < 9223372036854775808) (hb : b = 0 ∨ b = -1) : bits .xor .i64 (a : Int) b = if b = 0 then (a : Int) else -1 - (a : Int) := by
  have e : (BitVec.ofInt 64 (a : Int)).toNat = a := ofInt_u64 a (by omega)
  rcases hb with rfl | rfl
  · show IntKind.i64.wrap ((BitVec.ofInt 64 (a : Int) ^^^ BitVec.ofInt 64 0).toNat : Int) = _
    rw [BitVec.toNat_xor, e, IntKind.wrap_i64, show (BitVec.ofInt 64 0).toNat = 0 from rfl, Nat.xor_zero, if_pos rfl]
    omega
  · show IntKind.i64.wrap ((BitVec.ofInt 64 (a : Int) ^^^ BitVec.ofInt 64 (-1)).toNat : Int) = _
    rw [BitVec.toNat_xor, e, IntKind.wrap_i64, show (BitVec.ofInt 64 (-1)).toNat = 18446744073709551615 from by decide +kernel, xor_ones a (by omega), if_neg (by omega)]
    omega
theorem zig_eq (n : Int) (h : I64 n) : bits BinOp.xor IntKind.u64 (IntKind.u64.wrap (IntKind.u64.wrap n * 2)) (IntKind.u64.wrap (n / 9223372036854775808)) = zig n := by
  obtain ⟨h1, h2⟩ := h
  simp only [IntKind.wrap_u64]
  obtain ⟨a, ha⟩ := Int.eq_ofNat_of_zero_le (show 0 ≤ n % 18446744073709551616 * 2 % 18446744073709551616 from by omega)
  obtain ⟨b, hb⟩ := Int.eq_ofNat_of_zero_le (show 0 ≤ n / 9223372036854775808 % 18446744073709551616 from by omega)
  rw [ha, hb, u64_xor_sign a b (by omega) (by omega)]
  unfold zig
  split <;> split <;> omega
theorem zig_eq' (n : Int) (h : I64 n) : bits BinOp.xor IntKind.u64 (IntKind.u64.wrap (wrap64 (n * 2))) (IntKind.u64.wrap (n / 9223372036854775808)) = zig n := by
  rw [← zig_eq n h]
  have : IntKind.u64.wrap (wrap64 (n * 2)) = IntKind.u64.wrap (IntKind.u64.wrap n * 2) := by
    simp only [IntKind.wrap_u64, wrap64]
    omega
  rw [this]
theorem zag_eq (n : Nat) (h : W64 n) : bits BinOp.xor IntKind.i64 (wrap64 (↑n / 2)) (wrap64 (-wrap64 (bits BinOp.and IntKind.u64 (↑n) 1))) = zag n := by
  unfold W64 at h
  have e : bits BinOp.and IntKind.u64 (n : Int) 1 = ((n % 2 : Nat) : Int) := by
    have := u64_and_nat n 1 h (by omega)
    rw [nat_mask1] at this
    exact this
  rw [e, IntWalk.wrap64_in _ (by omega), IntWalk.wrap64_in (((n % 2 : Nat)) : Int) (by omega), IntWalk.wrap64_in _ (by omega)]
  rw [show (n : Int) / 2 = ((n / 2 : Nat) : Int) from by omega, i64_xor_sign (n / 2) _ (by omega) (by omega)]
  unfold zag
  split <;> split <;> omega

set_option maxHeartbeats 400000 in
theorem zig_any (n : Int) (w : World) (h : I64 n) : Calls Try.prog 18 #[.int .i64 n] w fun e w' => e = .returned (.int .u64 (zig n)) ∧ w = w' := by
  have H := hide h
  clear h
  go_enter Try.func18, Try.ntmps18
  go_wp2
  go_ret
  exact ⟨congrArg (fun x => Ending.returned (.int .u64 x)) (zig_eq n H.out), rfl⟩
theorem zag_any (n : Nat) (w : World) (h : W64 n) : Calls Try.prog 20 #[.int .u64 n] w fun e w' => e = .returned (.int .i64 (zag n)) ∧ w = w' := by
  go_enter Try.func20, Try.ntmps20
  go_wp2
  go_ret
  exact ⟨congrArg (fun x => Ending.returned (.int .i64 x)) (zag_eq n h), rfl⟩
theorem rzig_any (n : Int) (w : World) (h : I64 n) : Calls Try.prog 19 #[.int .i64 n] w fun e w' => e = .returned (.int .u64 (zig n)) ∧ w = w' := by
  have H := hide h
  clear h
  go_enter Try.func19, Try.ntmps19
  go_wp2
  go_ret
  exact ⟨congrArg (fun x => Ending.returned (.int .u64 x)) (zig_eq' n H.out), rfl⟩
theorem rzag_any (n : Nat) (w : World) (h : W64 n) : Calls Try.prog 21 #[.int .u64 n] w fun e w' => e = .returned (.int .i64 (zag n)) ∧ w = w' := by
  go_enter Try.func21, Try.ntmps21
  go_wp2
  go_ret
  exact ⟨congrArg (fun x => Ending.returned (.int .i64 x)) (zag_eq n h), rfl⟩

/-- May a field have this number? -/
def mayB (n : Int) : Bool := decide (1 ≤ n) && decide (n ≤ 100)
theorem may_any (n : Int) (w : World) : Calls Try.prog 25 #[.int .i64 n] w fun e w' => e = .returned (.bool (mayB n)) ∧ w = w' := by
  unfold mayB
  go_enter Try.func25, Try.ntmps25
  go_wp2
  all_goals go_ret
  all_goals (refine ⟨?_, rfl⟩; simp; try omega)
theorem rmay_any (n : Int) (w : World) : Calls Try.prog 27 #[.int .i64 n] w fun e w' => e = .returned (.bool (mayB n)) ∧ w = w' := by
  unfold mayB
  go_enter Try.func27, Try.ntmps27
  go_wp2
  all_goals go_ret
  all_goals (refine ⟨?_, rfl⟩; simp; try omega)
end Go.Proofs.Ytcfonifaijeecaa
