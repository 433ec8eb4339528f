/-
  No cell of these rows narrows 'for every input' (looked for: loops, veiled, ifaces, maps, wideKeys, modest, calm, conditions, laid).
  DERIVED. THE GIVEN ROWS OF THIS SEAT. 5 by the template 'for every input the law returns true; each argument reads behind the call as it read before'; 0 by the template 'total and deterministic' (their statements: YtgofcefggdlalaaTotals.lean).
  GIVEN WITH THE SEED: the statements are not yours to turn. If you find one false, say at which input.
  Laid BY PROGRAM, IN A SANDBOX (cutbox-rows.mjs): the forced cells as the released guide's own fill.sh prints them over the translation 0ab95d160865cef1… (all of the seat's roots in one cut). By AI agents, Wed Nov 11 2026. No macro, syntax, notation, axiom, sorry.
-/
import Derived.Test.YtgofcefggdlalaaChecked
import GoSem.Claim
import GoSem.ClaimJoined
import GoSem.ClaimMapViews
import Derived.JoinedTies
import Derived.KernelRfl
namespace Go.Proofs.Ytgofcefggdlalaa
/- THE CELL 'sum', in the pinned program and in every row, IS THE sha256 OF THE DUMP (.gsa) THAT YtgofcefggdlalaaProg.lean LOADS. Nothing in Lean hashes anything: it is a label: what it is worth is what the hold of that sum in a sandbox is worth. -/
noncomputable def Try.pinned : Pinned := { name := "ytgofcefggdlalaa", sum := "0ab95d160865cef153f99825c8cf05a6c392681c0b41740c47d6ce4185630156", checked := Try.checked }
namespace Rows
def none {H : Type} : Left H := { results := [], args := [] }

/-- 'viaticumlaw3.ScalarClamps': WHATEVER THE INPUT: true; the input reads as it did. -/
def scalarClampsSpec : ChangeSpec := { name := "scalarClamps", fn := fun _ => fun
  | [d] => { results := [.lit (.bool true)], args := [d] }
  | _ => none }
def scalarClampsRow : OpenClaim := { program := "ytgofcefggdlalaa", sum := "0ab95d160865cef153f99825c8cf05a6c392681c0b41740c47d6ce4185630156", func := "viaticum/viaticumlaw3.ScalarClamps", spec := "scalarClamps", inPlace := ["math/bits.Sub64"], apart := false }
def ScalarClampsSaid : Prop := scalarClampsRow.holds Try.pinned (OpenSpec.ofChange scalarClampsSpec)

/-- ITS FALSE NEIGHBOUR: 'it returns false'. Refute it at one input. -/
def scalarClampsWrong : ChangeSpec := { name := "scalarClamps", fn := fun _ => fun
  | [d] => { results := [.lit (.bool false)], args := [d] }
  | _ => none }
def ScalarClampsWrongFalsely : Prop := scalarClampsRow.holds Try.pinned (OpenSpec.ofChange scalarClampsWrong)

/-- 'viaticumlaw3.ScalarLow': WHATEVER THE INPUT: true; the input reads as it did. -/
def scalarLowSpec : ChangeSpec := { name := "scalarLow", fn := fun _ => fun
  | [d1, d2] => { results := [.lit (.bool true)], args := [d1, d2] }
  | _ => none }
def scalarLowRow : OpenClaim := { program := "ytgofcefggdlalaa", sum := "0ab95d160865cef153f99825c8cf05a6c392681c0b41740c47d6ce4185630156", func := "viaticum/viaticumlaw3.ScalarLow", spec := "scalarLow", inPlace := ["math/bits.Sub64", "math/bits.Add64"], apart := false }
def ScalarLowSaid : Prop := scalarLowRow.holds Try.pinned (OpenSpec.ofChange scalarLowSpec)

/-- ITS FALSE NEIGHBOUR: 'it returns false'. Refute it at one input. -/
def scalarLowWrong : ChangeSpec := { name := "scalarLow", fn := fun _ => fun
  | [d1, d2] => { results := [.lit (.bool false)], args := [d1, d2] }
  | _ => none }
def ScalarLowWrongFalsely : Prop := scalarLowRow.holds Try.pinned (OpenSpec.ofChange scalarLowWrong)

/-- 'viaticumlaw3.ScalarLaws': WHATEVER THE INPUT: true; the input reads as it did. -/
def scalarLawsSpec : ChangeSpec := { name := "scalarLaws", fn := fun _ => fun
  | [d1, d2, d3] => { results := [.lit (.bool true)], args := [d1, d2, d3] }
  | _ => none }
def scalarLawsRow : OpenClaim := { program := "ytgofcefggdlalaa", sum := "0ab95d160865cef153f99825c8cf05a6c392681c0b41740c47d6ce4185630156", func := "viaticum/viaticumlaw3.ScalarLaws", spec := "scalarLaws", inPlace := ["math/bits.Sub64", "math/bits.Add64"], apart := false }
def ScalarLawsSaid : Prop := scalarLawsRow.holds Try.pinned (OpenSpec.ofChange scalarLawsSpec)

/-- ITS FALSE NEIGHBOUR: 'it returns false'. Refute it at one input. -/
def scalarLawsWrong : ChangeSpec := { name := "scalarLaws", fn := fun _ => fun
  | [d1, d2, d3] => { results := [.lit (.bool false)], args := [d1, d2, d3] }
  | _ => none }
def ScalarLawsWrongFalsely : Prop := scalarLawsRow.holds Try.pinned (OpenSpec.ofChange scalarLawsWrong)

/-- 'viaticumlaw3.ScalarSmall': WHATEVER THE INPUT: true; the input reads as it did. -/
def scalarSmallSpec : ChangeSpec := { name := "scalarSmall", fn := fun _ => fun
  | [d1, d2, d3] => { results := [.lit (.bool true)], args := [d1, d2, d3] }
  | _ => none }
def scalarSmallRow : OpenClaim := { program := "ytgofcefggdlalaa", sum := "0ab95d160865cef153f99825c8cf05a6c392681c0b41740c47d6ce4185630156", func := "viaticum/viaticumlaw3.ScalarSmall", spec := "scalarSmall", inPlace := ["math/bits.Add64", "math/bits.Sub64"], apart := false }
def ScalarSmallSaid : Prop := scalarSmallRow.holds Try.pinned (OpenSpec.ofChange scalarSmallSpec)

/-- ITS FALSE NEIGHBOUR: 'it returns false'. Refute it at one input. -/
def scalarSmallWrong : ChangeSpec := { name := "scalarSmall", fn := fun _ => fun
  | [d1, d2, d3] => { results := [.lit (.bool false)], args := [d1, d2, d3] }
  | _ => none }
def ScalarSmallWrongFalsely : Prop := scalarSmallRow.holds Try.pinned (OpenSpec.ofChange scalarSmallWrong)

/-- 'viaticumlaw3.ScalarForms': WHATEVER THE INPUT: true; the input reads as it did. -/
def scalarFormsSpec : ChangeSpec := { name := "scalarForms", fn := fun _ => fun
  | [d1, d2, d3] => { results := [.lit (.bool true)], args := [d1, d2, d3] }
  | _ => none }
def scalarFormsRow : OpenClaim := { program := "ytgofcefggdlalaa", sum := "0ab95d160865cef153f99825c8cf05a6c392681c0b41740c47d6ce4185630156", func := "viaticum/viaticumlaw3.ScalarForms", spec := "scalarForms", inPlace := ["math/bits.Sub64", "math/bits.Add64"], apart := false }
def ScalarFormsSaid : Prop := scalarFormsRow.holds Try.pinned (OpenSpec.ofChange scalarFormsSpec)

/-- ITS FALSE NEIGHBOUR: 'it returns false'. Refute it at one input. -/
def scalarFormsWrong : ChangeSpec := { name := "scalarForms", fn := fun _ => fun
  | [d1, d2, d3] => { results := [.lit (.bool false)], args := [d1, d2, d3] }
  | _ => none }
def ScalarFormsWrongFalsely : Prop := scalarFormsRow.holds Try.pinned (OpenSpec.ofChange scalarFormsWrong)

/- THE SECOND FORM. 'bulk': how many values and letters a reading holds, each counted each time it is reached (what is shared counts as often as it is met; a slice's spare places count too). A statement '..UptoSaid' is the law's where the arguments, and the package variables that the reading takes, are together of bulk at most 1048576: NARROWER than '..Said'. Prove '..Said' where nothing that the law and all that it calls make is longer than what came in: it says more and counts as full. Else prove '..UptoSaid'. A law counts once. -/
mutual
def uptoBulk {H : Type} : DataW H → Nat
  | .lit (.string bytes) => bytes.length + 1
  | .lit _ => 1
  | .nil => 1
  | .ptr d => uptoBulk d + 1
  | .slice elems spare => uptoBulkAll elems + uptoBulkAll spare + 1
  | .agg parts => uptoBulkAll parts + 1
  | .iface _ d => uptoBulk d + 1
  | .map entries => uptoBulkEntries entries + 1
  | .held _ => 1
def uptoBulkAll {H : Type} : List (DataW H) → Nat
  | [] => 0
  | d :: r => uptoBulk d + uptoBulkAll r
def uptoBulkEntries {H : Type} : List (Lit × DataW H) → Nat
  | [] => 0
  | x :: r => uptoBulkEntry x + uptoBulkEntries r
def uptoBulkEntry {H : Type} : Lit × DataW H → Nat
  | (.string bytes, d) => bytes.length + uptoBulk d + 1
  | (_, d) => uptoBulk d + 1
 end
def uptoSmall : (H : Type) → List (DataW H) → Bool := fun _ ds => decide (uptoBulkAll ds ≤ 1048576)
def OpenSpec.upto (s : _root_.Go.ChangeSpec) : _root_.Go.OpenSpec := { _root_.Go.OpenSpec.ofChange s with cond := some uptoSmall }

/-- 'viaticumlaw3.ScalarClamps', WHERE WHAT IT READS IS OF BULK AT MOST 1048576: true; the input reads as it did. -/
def scalarClampsUptoRow : OpenClaim := { program := "ytgofcefggdlalaa", sum := "0ab95d160865cef153f99825c8cf05a6c392681c0b41740c47d6ce4185630156", func := "viaticum/viaticumlaw3.ScalarClamps", spec := "scalarClamps", inPlace := ["math/bits.Sub64"], apart := false, narrowed := true }
def ScalarClampsUptoSaid : Prop := scalarClampsUptoRow.holds Try.pinned (OpenSpec.upto scalarClampsSpec)

/-- 'viaticumlaw3.ScalarLow', WHERE WHAT IT READS IS OF BULK AT MOST 1048576: true; the input reads as it did. -/
def scalarLowUptoRow : OpenClaim := { program := "ytgofcefggdlalaa", sum := "0ab95d160865cef153f99825c8cf05a6c392681c0b41740c47d6ce4185630156", func := "viaticum/viaticumlaw3.ScalarLow", spec := "scalarLow", inPlace := ["math/bits.Sub64", "math/bits.Add64"], apart := false, narrowed := true }
def ScalarLowUptoSaid : Prop := scalarLowUptoRow.holds Try.pinned (OpenSpec.upto scalarLowSpec)

/-- 'viaticumlaw3.ScalarLaws', WHERE WHAT IT READS IS OF BULK AT MOST 1048576: true; the input reads as it did. -/
def scalarLawsUptoRow : OpenClaim := { program := "ytgofcefggdlalaa", sum := "0ab95d160865cef153f99825c8cf05a6c392681c0b41740c47d6ce4185630156", func := "viaticum/viaticumlaw3.ScalarLaws", spec := "scalarLaws", inPlace := ["math/bits.Sub64", "math/bits.Add64"], apart := false, narrowed := true }
def ScalarLawsUptoSaid : Prop := scalarLawsUptoRow.holds Try.pinned (OpenSpec.upto scalarLawsSpec)

/-- 'viaticumlaw3.ScalarSmall', WHERE WHAT IT READS IS OF BULK AT MOST 1048576: true; the input reads as it did. -/
def scalarSmallUptoRow : OpenClaim := { program := "ytgofcefggdlalaa", sum := "0ab95d160865cef153f99825c8cf05a6c392681c0b41740c47d6ce4185630156", func := "viaticum/viaticumlaw3.ScalarSmall", spec := "scalarSmall", inPlace := ["math/bits.Add64", "math/bits.Sub64"], apart := false, narrowed := true }
def ScalarSmallUptoSaid : Prop := scalarSmallUptoRow.holds Try.pinned (OpenSpec.upto scalarSmallSpec)

/-- 'viaticumlaw3.ScalarForms', WHERE WHAT IT READS IS OF BULK AT MOST 1048576: true; the input reads as it did. -/
def scalarFormsUptoRow : OpenClaim := { program := "ytgofcefggdlalaa", sum := "0ab95d160865cef153f99825c8cf05a6c392681c0b41740c47d6ce4185630156", func := "viaticum/viaticumlaw3.ScalarForms", spec := "scalarForms", inPlace := ["math/bits.Sub64", "math/bits.Add64"], apart := false, narrowed := true }
def ScalarFormsUptoSaid : Prop := scalarFormsUptoRow.holds Try.pinned (OpenSpec.upto scalarFormsSpec)

end Rows
end Go.Proofs.Ytgofcefggdlalaa
