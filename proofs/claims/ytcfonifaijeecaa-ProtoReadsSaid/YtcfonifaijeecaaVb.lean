/-
  The bytes of a number, seven bits each, the lowest first, as a plain function; what the numbers' bytes are.
-/
import Derived.Test.YtcfonifaijeecaaMem
namespace Go.Proofs.Ytcfonifaijeecaa

def vbF : Nat → Nat → List UInt8
  | 0, n => [UInt8.ofNat n]
  | f + 1, n => if n < 128 then [UInt8.ofNat n] else UInt8.ofNat (n % 128 + 128) :: vbF f (n / 128)
/-- Ten bytes serve for 64 bits. -/
@[irreducible] def vb (n : Nat) : List UInt8 := vbF 9 n

theorem vbF_len (f n : Nat) : (vbF f n).length ≤ f + 1 ∧ 1 ≤ (vbF f n).length := by
  induction f generalizing n with
  | zero => simp [vbF]
  | succ f ih =>
    simp only [vbF]
    split
    · simp
    · have := ih (n / 128); simp only [List.length_cons]; omega
theorem vb_eq (n : Nat) : vb n = vbF 9 n := by unfold vb; rfl
theorem vb_len (n : Nat) : (vb n).length ≤ 10 ∧ 1 ≤ (vb n).length := by rw [vb_eq]; exact vbF_len 9 n
end Go.Proofs.Ytcfonifaijeecaa
