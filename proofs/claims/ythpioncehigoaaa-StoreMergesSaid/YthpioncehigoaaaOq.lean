/-
  How the arguments of this seat's laws are opened (laws that take bytes and numbers).
-/
import Derived.Test.YthpioncehigoaaaRows
import Derived.Test.YthpioncehigoaaaOpg
set_option linter.unusedSimpArgs false
set_option linter.unusedVariables false
namespace Go.Proofs.Ythpioncehigoaaa
open Go.ChangeShapes Go.WideShapes Go.ChangeAt Go.RowKit

theorem own : ownKnob Try.prog.godebug = none := by kernel_rfl
theorem laidOut : laidOutB Try.prog = true := by kernel_rfl
theorem cellsU8 : Try.prog.cellsOf 5 = 1 := by kernel_rfl
theorem bytesU8 : Try.prog.bytesOf 5 = 1 := by kernel_rfl
end Go.Proofs.Ythpioncehigoaaa
