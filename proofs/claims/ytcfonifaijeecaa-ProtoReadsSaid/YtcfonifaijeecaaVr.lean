/-
  Reading: a number of sevens of bits, fields, as plain functions.
-/
import Derived.Test.YtcfonifaijeecaaVb
namespace Go.Proofs.Ytcfonifaijeecaa

/-- What is read: a number and what is left; or the error's number. -/
inductive VR where
  | ok (v : Nat) (rest : List UInt8)
  | bad (e : Nat)
/-- From byte number i on, n being read already. -/
def rvF : List UInt8 → Nat → Nat → VR
  | [], _, _ => .bad 2
  | c :: b, i, n =>
    if (i = 9 ∧ 1 < c.toNat) ∨ (0 < i ∧ c.toNat = 0) then .bad 3
    else if c.toNat < 128 then .ok (n + c.toNat * 2 ^ (7 * i)) b
    else rvF b (i + 1) (n + (c.toNat - 128) * 2 ^ (7 * i))
@[irreducible] def rv (l : List UInt8) : VR := rvF l 0 0
theorem rv_eq (l : List UInt8) : rv l = rvF l 0 0 := by unfold rv; rfl
end Go.Proofs.Ytcfonifaijeecaa
