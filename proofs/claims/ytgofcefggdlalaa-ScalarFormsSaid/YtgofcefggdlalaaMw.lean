/-
  Words: sums, differences, products (Go's own library).
-/
import Derived.Test.YtgofcefggdlalaaRows
import Derived.Test.YtgofcefggdlalaaNm
import Derived.Test.YtgofcefggdlalaaRl
import Derived.Laws.Bits64b
import Derived.Laws.Externs
namespace Go.Proofs.Ytgofcefggdlalaa
open Go.RowKit

theorem add64_run0 (x y : Nat) (w : World) : (callFunc 26 #[.int .u64 (x : Int), .int .u64 (y : Int), .int .u64 ((0 : Nat) : Int)]).run Try.prog w =
    .ok (.value (.tuple #[.int .u64 (((x + y + 0) % 18446744073709551616 : Nat) : Int), .int .u64 (((x + y + 0) / 18446744073709551616 : Nat) : Int)])) w := by kernel_rfl
theorem add64_run1 (x y : Nat) (w : World) : (callFunc 26 #[.int .u64 (x : Int), .int .u64 (y : Int), .int .u64 ((1 : Nat) : Int)]).run Try.prog w =
    .ok (.value (.tuple #[.int .u64 (((x + y + 1) % 18446744073709551616 : Nat) : Int), .int .u64 (((x + y + 1) / 18446744073709551616 : Nat) : Int)])) w := by kernel_rfl
theorem add64_run (x y b : Nat) (hb : b ≤ 1) (w : World) : (callFunc 26 #[.int .u64 (x : Int), .int .u64 (y : Int), .int .u64 (b : Int)]).run Try.prog w =
    .ok (.value (.tuple #[.int .u64 (((x + y + b) % 18446744073709551616 : Nat) : Int), .int .u64 (((x + y + b) / 18446744073709551616 : Nat) : Int)])) w := by
  have : b = 0 ∨ b = 1 := by omega
  rcases this with h | h
  · rw [h]; exact add64_run0 x y w
  · rw [h]; exact add64_run1 x y w
theorem add_any (x y c : Nat) (hc : c ≤ 1) : ∀ w, (callFunc 26 #[.int .u64 (x : Int), .int .u64 (y : Int), .int .u64 (c : Int)]).run Try.prog w = .ok (.value (.tuple #[.int .u64 (adS x y c : Int), .int .u64 (adC x y c : Int)])) w := fun w => by
  have := add64_run x y c hc w
  unfold adS adC
  exact this

theorem add0_any (x y : Nat) : ∀ w, (callFunc 26 #[.int .u64 (x : Int), .int .u64 (y : Int), .int .u64 0]).run Try.prog w = .ok (.value (.tuple #[.int .u64 (adS x y 0 : Int), .int .u64 (adC x y 0 : Int)])) w := fun w => by
  exact add_any x y 0 (by omega) w
theorem tyU64 : (Try.prog.info? 32).map (·.size) = some 1 := by kernel_rfl
theorem lim_get (xs : List Nat) (h : xs.length = 4) (k : Nat) (hk : k < 4) : ∃ x, xs[k]? = some x := ⟨xs[k], List.getElem?_eq_getElem _⟩
namespace Mul64
theorem maskN (a : Nat) (ha : a < 18446744073709551616) : bits .and .u64 (a : Int) 4294967295 = ((a % 4294967296 : Nat) : Int) := by
  have h := u64_and_nat a 4294967295 ha (by omega)
  have e : a &&& 4294967295 = a % 4294967296 := Nat.and_two_pow_sub_one_eq_mod a 32
  rw [e] at h
  exact h
theorem divN (a : Nat) : (a : Int) / 4294967296 = ((a / 4294967296 : Nat) : Int) := by omega
theorem mulN (a b : Nat) : (a : Int) * (b : Int) = ((a * b : Nat) : Int) := (Int.natCast_mul a b).symm
theorem addN (a b : Nat) : (a : Int) + (b : Int) = ((a + b : Nat) : Int) := (Int.natCast_add a b).symm
theorem wrapN (a : Nat) (ha : a < 18446744073709551616) : IntKind.u64.wrap (a : Int) = (a : Int) := by rw [IntKind.wrap_u64]; omega
theorem wrapM (a : Nat) : IntKind.u64.wrap (a : Int) = ((a % 18446744073709551616 : Nat) : Int) := by rw [IntKind.wrap_u64]; omega
end Mul64
set_option maxHeartbeats 1000000 in
theorem mul_any (x y : Nat) (w : World) (hx : x < 18446744073709551616) (hy : y < 18446744073709551616) :
    Calls Try.prog 25 #[.int .u64 (x : Int), .int .u64 (y : Int)] w fun e w' => e = .returned (.tuple #[.int .u64 (muH x y : Int), .int .u64 (muL x y : Int)]) ∧ w = w' := by
  unfold muH muL
  obtain ⟨bd, bt, bw, hhi⟩ := Lib.mul64_hi x y hx hy
  have ba := Lib.half_mul_le (a := x / 4294967296) (b := y / 4294967296) (by omega) (by omega)
  have bb := Lib.half_mul_le (a := x / 4294967296) (b := y % 4294967296) (by omega) (by omega)
  have bc := Lib.half_mul_le (a := x % 4294967296) (b := y / 4294967296) (by omega) (by omega)
  have ba' : x / 4294967296 * (y / 4294967296) < 18446744073709551616 := by omega
  have bb' : x / 4294967296 * (y % 4294967296) < 18446744073709551616 := by omega
  have bc' : x % 4294967296 * (y / 4294967296) < 18446744073709551616 := by omega
  have bh1 : x / 4294967296 * (y / 4294967296) + (x / 4294967296 * (y % 4294967296) + x % 4294967296 * (y % 4294967296) / 4294967296) / 4294967296 < 18446744073709551616 := by omega
  have bh : x / 4294967296 * (y / 4294967296) + (x / 4294967296 * (y % 4294967296) + x % 4294967296 * (y % 4294967296) / 4294967296) / 4294967296 + ((x / 4294967296 * (y % 4294967296) + x % 4294967296 * (y % 4294967296) / 4294967296) % 4294967296 + x % 4294967296 * (y / 4294967296)) / 4294967296 < 18446744073709551616 := by omega
  have HX := hide hx
  have HY := hide hy
  have BD := hide bd
  have BT := hide bt
  have BW := hide bw
  have HH := hide hhi
  have BA := hide ba'
  have BB := hide bb'
  have BC := hide bc'
  have BH1 := hide bh1
  have BH := hide bh
  clear hx hy bd bt bw hhi ba bb bc ba' bb' bc' bh1 bh
  go_enter Try.func25, Try.ntmps25
  go_wp2
  simp only [Mul64.maskN x HX.out, Mul64.maskN y HY.out, Mul64.divN, Mul64.mulN, Mul64.addN, Mul64.wrapN _ BD.out, Mul64.wrapN _ BB.out, Mul64.wrapN _ BT.out, Mul64.maskN _ BT.out, Mul64.wrapN _ BC.out, Mul64.wrapN _ BW.out, Mul64.wrapN _ BA.out, Mul64.wrapN _ BH1.out, Mul64.wrapN _ BH.out, Mul64.wrapM (x * y)]
  rw [HH.out]
  go_ret2
  exact ⟨rfl, rfl⟩
theorem enMul (args : Array Value) (w : World) : (callFunc 25 args).run Try.prog w = .ok (.enter 25 args) w := by kernel_rfl
end Go.Proofs.Ytgofcefggdlalaa
