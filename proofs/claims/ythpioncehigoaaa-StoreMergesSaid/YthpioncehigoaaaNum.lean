/-
  Bounds of numbers, kept behind names. No program is named here.
-/
import Derived.Test.YthpioncehigoaaaMem
set_option linter.unusedSimpArgs false
set_option linter.unusedVariables false
namespace Go.Proofs.Ythpioncehigoaaa
/-- A number of 64 bits. -/
def W64 (n : Nat) : Prop := n < 18446744073709551616
def I64 (n : Int) : Prop := -9223372036854775808 ≤ n ∧ n ≤ 9223372036854775807
end Go.Proofs.Ythpioncehigoaaa
