/-
  No cell of these rows narrows 'for every input' (looked for: loops, veiled, ifaces, maps, wideKeys, modest, calm, conditions, laid).
  DERIVED. THE GIVEN ROWS OF THIS SEAT. 6 by the template 'for every input the law returns true; each argument reads behind the call as it read before'; 0 by the template 'total and deterministic' (their statements: YtdihedhhkcakoaaTotals.lean).
  GIVEN WITH THE SEED: the statements are not yours to turn. If you find one false, say at which input.
  Laid BY PROGRAM, IN A SANDBOX (cutbox-rows.mjs): the forced cells as the released guide's own fill.sh prints them over the translation 80af401ef3909c87… (all of the seat's roots in one cut). By AI agents, Wed Nov 11 2026. No macro, syntax, notation, axiom, sorry.
-/
import Derived.Test.YtdihedhhkcakoaaChecked
import GoSem.Claim
import GoSem.ClaimJoined
import GoSem.ClaimMapViews
import Derived.JoinedTies
import Derived.KernelRfl
namespace Go.Proofs.Ytdihedhhkcakoaa
/- THE CELL 'sum', in the pinned program and in every row, IS THE sha256 OF THE DUMP (.gsa) THAT YtdihedhhkcakoaaProg.lean LOADS. Nothing in Lean hashes anything: it is a label: what it is worth is what the hold of that sum in a sandbox is worth. -/
noncomputable def Try.pinned : Pinned := { name := "ytdihedhhkcakoaa", sum := "80af401ef3909c87c257eba4aa696ce12c6265b713b5c2b01e1d5d1f3ec18eda", checked := Try.checked }
namespace Rows
def none {H : Type} : Left H := { results := [], args := [] }

/-- 'viaticumlaw2.FieldBytes': WHATEVER THE INPUT: true; the input reads as it did. -/
def fieldBytesSpec : ChangeSpec := { name := "fieldBytes", fn := fun _ => fun
  | [d] => { results := [.lit (.bool true)], args := [d] }
  | _ => none }
def fieldBytesRow : OpenClaim := { program := "ytdihedhhkcakoaa", sum := "80af401ef3909c87c257eba4aa696ce12c6265b713b5c2b01e1d5d1f3ec18eda", func := "viaticum/viaticumlaw2.FieldBytes", spec := "fieldBytes", apart := false }
def FieldBytesSaid : Prop := fieldBytesRow.holds Try.pinned (OpenSpec.ofChange fieldBytesSpec)

/-- ITS FALSE NEIGHBOUR: 'it returns false'. Refute it at one input. -/
def fieldBytesWrong : ChangeSpec := { name := "fieldBytes", fn := fun _ => fun
  | [d] => { results := [.lit (.bool false)], args := [d] }
  | _ => none }
def FieldBytesWrongFalsely : Prop := fieldBytesRow.holds Try.pinned (OpenSpec.ofChange fieldBytesWrong)

/-- 'viaticumlaw2.FieldSmall': WHATEVER THE INPUT: true; the input reads as it did. -/
def fieldSmallSpec : ChangeSpec := { name := "fieldSmall", fn := fun _ => fun
  | [d1, d2] => { results := [.lit (.bool true)], args := [d1, d2] }
  | _ => none }
def fieldSmallRow : OpenClaim := { program := "ytdihedhhkcakoaa", sum := "80af401ef3909c87c257eba4aa696ce12c6265b713b5c2b01e1d5d1f3ec18eda", func := "viaticum/viaticumlaw2.FieldSmall", spec := "fieldSmall", inPlace := ["math/bits.Add64"], apart := false }
def FieldSmallSaid : Prop := fieldSmallRow.holds Try.pinned (OpenSpec.ofChange fieldSmallSpec)

/-- ITS FALSE NEIGHBOUR: 'it returns false'. Refute it at one input. -/
def fieldSmallWrong : ChangeSpec := { name := "fieldSmall", fn := fun _ => fun
  | [d1, d2] => { results := [.lit (.bool false)], args := [d1, d2] }
  | _ => none }
def FieldSmallWrongFalsely : Prop := fieldSmallRow.holds Try.pinned (OpenSpec.ofChange fieldSmallWrong)

/-- 'viaticumlaw2.FieldSigns': WHATEVER THE INPUT: true; the input reads as it did. -/
def fieldSignsSpec : ChangeSpec := { name := "fieldSigns", fn := fun _ => fun
  | [d1, d2] => { results := [.lit (.bool true)], args := [d1, d2] }
  | _ => none }
def fieldSignsRow : OpenClaim := { program := "ytdihedhhkcakoaa", sum := "80af401ef3909c87c257eba4aa696ce12c6265b713b5c2b01e1d5d1f3ec18eda", func := "viaticum/viaticumlaw2.FieldSigns", spec := "fieldSigns", inPlace := ["math/bits.Add64"], apart := false }
def FieldSignsSaid : Prop := fieldSignsRow.holds Try.pinned (OpenSpec.ofChange fieldSignsSpec)

/-- ITS FALSE NEIGHBOUR: 'it returns false'. Refute it at one input. -/
def fieldSignsWrong : ChangeSpec := { name := "fieldSigns", fn := fun _ => fun
  | [d1, d2] => { results := [.lit (.bool false)], args := [d1, d2] }
  | _ => none }
def FieldSignsWrongFalsely : Prop := fieldSignsRow.holds Try.pinned (OpenSpec.ofChange fieldSignsWrong)

/-- 'viaticumlaw2.FieldInverses': WHATEVER THE INPUT: true; the input reads as it did. -/
def fieldInversesSpec : ChangeSpec := { name := "fieldInverses", fn := fun _ => fun
  | [d1, d2] => { results := [.lit (.bool true)], args := [d1, d2] }
  | _ => none }
def fieldInversesRow : OpenClaim := { program := "ytdihedhhkcakoaa", sum := "80af401ef3909c87c257eba4aa696ce12c6265b713b5c2b01e1d5d1f3ec18eda", func := "viaticum/viaticumlaw2.FieldInverses", spec := "fieldInverses", inPlace := ["math/bits.Add64"], unfollowed := true, recurses := true, apart := false }
def FieldInversesSaid : Prop := fieldInversesRow.holds Try.pinned (OpenSpec.ofChange fieldInversesSpec)

/-- ITS FALSE NEIGHBOUR: 'it returns false'. Refute it at one input. -/
def fieldInversesWrong : ChangeSpec := { name := "fieldInverses", fn := fun _ => fun
  | [d1, d2] => { results := [.lit (.bool false)], args := [d1, d2] }
  | _ => none }
def FieldInversesWrongFalsely : Prop := fieldInversesRow.holds Try.pinned (OpenSpec.ofChange fieldInversesWrong)

/-- 'viaticumlaw2.FieldLaws': WHATEVER THE INPUT: true; the input reads as it did. -/
def fieldLawsSpec : ChangeSpec := { name := "fieldLaws", fn := fun _ => fun
  | [d1, d2, d3] => { results := [.lit (.bool true)], args := [d1, d2, d3] }
  | _ => none }
def fieldLawsRow : OpenClaim := { program := "ytdihedhhkcakoaa", sum := "80af401ef3909c87c257eba4aa696ce12c6265b713b5c2b01e1d5d1f3ec18eda", func := "viaticum/viaticumlaw2.FieldLaws", spec := "fieldLaws", inPlace := ["math/bits.Add64"], unfollowed := true, recurses := true, apart := false }
def FieldLawsSaid : Prop := fieldLawsRow.holds Try.pinned (OpenSpec.ofChange fieldLawsSpec)

/-- ITS FALSE NEIGHBOUR: 'it returns false'. Refute it at one input. -/
def fieldLawsWrong : ChangeSpec := { name := "fieldLaws", fn := fun _ => fun
  | [d1, d2, d3] => { results := [.lit (.bool false)], args := [d1, d2, d3] }
  | _ => none }
def FieldLawsWrongFalsely : Prop := fieldLawsRow.holds Try.pinned (OpenSpec.ofChange fieldLawsWrong)

/-- 'viaticumlaw2.FieldForms': WHATEVER THE INPUT: true; the input reads as it did. -/
def fieldFormsSpec : ChangeSpec := { name := "fieldForms", fn := fun _ => fun
  | [d1, d2, d3] => { results := [.lit (.bool true)], args := [d1, d2, d3] }
  | _ => none }
def fieldFormsRow : OpenClaim := { program := "ytdihedhhkcakoaa", sum := "80af401ef3909c87c257eba4aa696ce12c6265b713b5c2b01e1d5d1f3ec18eda", func := "viaticum/viaticumlaw2.FieldForms", spec := "fieldForms", inPlace := ["math/bits.Add64"], unfollowed := true, recurses := true, apart := false }
def FieldFormsSaid : Prop := fieldFormsRow.holds Try.pinned (OpenSpec.ofChange fieldFormsSpec)

/-- ITS FALSE NEIGHBOUR: 'it returns false'. Refute it at one input. -/
def fieldFormsWrong : ChangeSpec := { name := "fieldForms", fn := fun _ => fun
  | [d1, d2, d3] => { results := [.lit (.bool false)], args := [d1, d2, d3] }
  | _ => none }
def FieldFormsWrongFalsely : Prop := fieldFormsRow.holds Try.pinned (OpenSpec.ofChange fieldFormsWrong)

/- THE SECOND FORM. 'bulk': how many values and letters a reading holds, each counted each time it is reached (what is shared counts as often as it is met; a slice's spare places count too). A statement '..UptoSaid' is the law's where the arguments, and the package variables that the reading takes, are together of bulk at most 1048576: NARROWER than '..Said'. Prove '..Said' where nothing that the law and all that it calls make is longer than what came in: it says more and counts as full. Else prove '..UptoSaid'. A law counts once. -/
mutual
def uptoBulk {H : Type} : DataW H → Nat
  | .lit (.string bytes) => bytes.length + 1
  | .lit _ => 1
  | .nil => 1
  | .ptr d => uptoBulk d + 1
  | .slice elems spare => uptoBulkAll elems + uptoBulkAll spare + 1
  | .agg parts => uptoBulkAll parts + 1
  | .iface _ d => uptoBulk d + 1
  | .map entries => uptoBulkEntries entries + 1
  | .held _ => 1
def uptoBulkAll {H : Type} : List (DataW H) → Nat
  | [] => 0
  | d :: r => uptoBulk d + uptoBulkAll r
def uptoBulkEntries {H : Type} : List (Lit × DataW H) → Nat
  | [] => 0
  | x :: r => uptoBulkEntry x + uptoBulkEntries r
def uptoBulkEntry {H : Type} : Lit × DataW H → Nat
  | (.string bytes, d) => bytes.length + uptoBulk d + 1
  | (_, d) => uptoBulk d + 1
 end
def uptoSmall : (H : Type) → List (DataW H) → Bool := fun _ ds => decide (uptoBulkAll ds ≤ 1048576)
def OpenSpec.upto (s : _root_.Go.ChangeSpec) : _root_.Go.OpenSpec := { _root_.Go.OpenSpec.ofChange s with cond := some uptoSmall }

/-- 'viaticumlaw2.FieldBytes', WHERE WHAT IT READS IS OF BULK AT MOST 1048576: true; the input reads as it did. -/
def fieldBytesUptoRow : OpenClaim := { program := "ytdihedhhkcakoaa", sum := "80af401ef3909c87c257eba4aa696ce12c6265b713b5c2b01e1d5d1f3ec18eda", func := "viaticum/viaticumlaw2.FieldBytes", spec := "fieldBytes", apart := false, narrowed := true }
def FieldBytesUptoSaid : Prop := fieldBytesUptoRow.holds Try.pinned (OpenSpec.upto fieldBytesSpec)

/-- 'viaticumlaw2.FieldSmall', WHERE WHAT IT READS IS OF BULK AT MOST 1048576: true; the input reads as it did. -/
def fieldSmallUptoRow : OpenClaim := { program := "ytdihedhhkcakoaa", sum := "80af401ef3909c87c257eba4aa696ce12c6265b713b5c2b01e1d5d1f3ec18eda", func := "viaticum/viaticumlaw2.FieldSmall", spec := "fieldSmall", inPlace := ["math/bits.Add64"], apart := false, narrowed := true }
def FieldSmallUptoSaid : Prop := fieldSmallUptoRow.holds Try.pinned (OpenSpec.upto fieldSmallSpec)

/-- 'viaticumlaw2.FieldSigns', WHERE WHAT IT READS IS OF BULK AT MOST 1048576: true; the input reads as it did. -/
def fieldSignsUptoRow : OpenClaim := { program := "ytdihedhhkcakoaa", sum := "80af401ef3909c87c257eba4aa696ce12c6265b713b5c2b01e1d5d1f3ec18eda", func := "viaticum/viaticumlaw2.FieldSigns", spec := "fieldSigns", inPlace := ["math/bits.Add64"], apart := false, narrowed := true }
def FieldSignsUptoSaid : Prop := fieldSignsUptoRow.holds Try.pinned (OpenSpec.upto fieldSignsSpec)

/-- 'viaticumlaw2.FieldInverses', WHERE WHAT IT READS IS OF BULK AT MOST 1048576: true; the input reads as it did. -/
def fieldInversesUptoRow : OpenClaim := { program := "ytdihedhhkcakoaa", sum := "80af401ef3909c87c257eba4aa696ce12c6265b713b5c2b01e1d5d1f3ec18eda", func := "viaticum/viaticumlaw2.FieldInverses", spec := "fieldInverses", inPlace := ["math/bits.Add64"], unfollowed := true, recurses := true, apart := false, narrowed := true }
def FieldInversesUptoSaid : Prop := fieldInversesUptoRow.holds Try.pinned (OpenSpec.upto fieldInversesSpec)

/-- 'viaticumlaw2.FieldLaws', WHERE WHAT IT READS IS OF BULK AT MOST 1048576: true; the input reads as it did. -/
def fieldLawsUptoRow : OpenClaim := { program := "ytdihedhhkcakoaa", sum := "80af401ef3909c87c257eba4aa696ce12c6265b713b5c2b01e1d5d1f3ec18eda", func := "viaticum/viaticumlaw2.FieldLaws", spec := "fieldLaws", inPlace := ["math/bits.Add64"], unfollowed := true, recurses := true, apart := false, narrowed := true }
def FieldLawsUptoSaid : Prop := fieldLawsUptoRow.holds Try.pinned (OpenSpec.upto fieldLawsSpec)

/-- 'viaticumlaw2.FieldForms', WHERE WHAT IT READS IS OF BULK AT MOST 1048576: true; the input reads as it did. -/
def fieldFormsUptoRow : OpenClaim := { program := "ytdihedhhkcakoaa", sum := "80af401ef3909c87c257eba4aa696ce12c6265b713b5c2b01e1d5d1f3ec18eda", func := "viaticum/viaticumlaw2.FieldForms", spec := "fieldForms", inPlace := ["math/bits.Add64"], unfollowed := true, recurses := true, apart := false, narrowed := true }
def FieldFormsUptoSaid : Prop := fieldFormsUptoRow.holds Try.pinned (OpenSpec.upto fieldFormsSpec)

end Rows
end Go.Proofs.Ytdihedhhkcakoaa
