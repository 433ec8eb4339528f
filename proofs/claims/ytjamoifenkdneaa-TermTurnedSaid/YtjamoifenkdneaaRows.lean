/-
  NARROWER THAN 'FOR EVERY INPUT', by the rows' own cells (each row's printed sentence says how): TermOrder: loops · TermKinds: loops · TermForms: loops · TermSets: loops · TermTurned: loops.
  DERIVED. THE GIVEN ROWS OF THIS SEAT. 6 by the template 'for every input the law returns true; each argument reads behind the call as it read before'; 0 by the template 'total and deterministic' (their statements: YtjamoifenkdneaaTotals.lean).
  GIVEN WITH THE SEED: the statements are not yours to turn. If you find one false, say at which input.
  Laid BY PROGRAM, IN A SANDBOX (cutbox-rows.mjs): the forced cells as the released guide's own fill.sh prints them over the translation ead8f4219c424794… (all of the seat's roots in one cut). By AI agents, Wed Nov 11 2026. No macro, syntax, notation, axiom, sorry.
-/
import Derived.Test.YtjamoifenkdneaaChecked
import GoSem.Claim
import GoSem.ClaimJoined
import GoSem.ClaimMapViews
import Derived.JoinedTies
import Derived.KernelRfl
namespace Go.Proofs.Ytjamoifenkdneaa
/- THE CELL 'sum', in the pinned program and in every row, IS THE sha256 OF THE DUMP (.gsa) THAT YtjamoifenkdneaaProg.lean LOADS. Nothing in Lean hashes anything: it is a label: what it is worth is what the hold of that sum in a sandbox is worth. -/
noncomputable def Try.pinned : Pinned := { name := "ytjamoifenkdneaa", sum := "ead8f4219c424794e2807bca469924b0781d32225499750431ae61ef30bedd6c", checked := Try.checked }
namespace Rows
def none {H : Type} : Left H := { results := [], args := [] }

/-- 'viaticumlaw7.TermOrder': WHATEVER THE INPUT: true; the input reads as it did. -/
def termOrderSpec : ChangeSpec := { name := "termOrder", fn := fun _ => fun
  | [d1, d2, d3] => { results := [.lit (.bool true)], args := [d1, d2, d3] }
  | _ => none }
def termOrderRow : OpenClaim := { program := "ytjamoifenkdneaa", sum := "ead8f4219c424794e2807bca469924b0781d32225499750431ae61ef30bedd6c", func := "viaticum/viaticumlaw7.TermOrder", spec := "termOrder", unfollowed := true, recurses := true, loops := true, apart := false }
def TermOrderSaid : Prop := termOrderRow.holds Try.pinned (OpenSpec.ofChange termOrderSpec)

/-- ITS FALSE NEIGHBOUR: 'it returns false'. Refute it at one input. -/
def termOrderWrong : ChangeSpec := { name := "termOrder", fn := fun _ => fun
  | [d1, d2, d3] => { results := [.lit (.bool false)], args := [d1, d2, d3] }
  | _ => none }
def TermOrderWrongFalsely : Prop := termOrderRow.holds Try.pinned (OpenSpec.ofChange termOrderWrong)

/-- 'viaticumlaw7.TermNames': WHATEVER THE INPUT: true; the input reads as it did. -/
def termNamesSpec : ChangeSpec := { name := "termNames", fn := fun _ => fun
  | [d1, d2] => { results := [.lit (.bool true)], args := [d1, d2] }
  | _ => none }
def termNamesRow : OpenClaim := { program := "ytjamoifenkdneaa", sum := "ead8f4219c424794e2807bca469924b0781d32225499750431ae61ef30bedd6c", func := "viaticum/viaticumlaw7.TermNames", spec := "termNames", unfollowed := true, recurses := true, apart := false }
def TermNamesSaid : Prop := termNamesRow.holds Try.pinned (OpenSpec.ofChange termNamesSpec)

/-- ITS FALSE NEIGHBOUR: 'it returns false'. Refute it at one input. -/
def termNamesWrong : ChangeSpec := { name := "termNames", fn := fun _ => fun
  | [d1, d2] => { results := [.lit (.bool false)], args := [d1, d2] }
  | _ => none }
def TermNamesWrongFalsely : Prop := termNamesRow.holds Try.pinned (OpenSpec.ofChange termNamesWrong)

/-- 'viaticumlaw7.TermKinds': WHATEVER THE INPUT: true; the input reads as it did. -/
def termKindsSpec : ChangeSpec := { name := "termKinds", fn := fun _ => fun
  | [d1, d2] => { results := [.lit (.bool true)], args := [d1, d2] }
  | _ => none }
def termKindsRow : OpenClaim := { program := "ytjamoifenkdneaa", sum := "ead8f4219c424794e2807bca469924b0781d32225499750431ae61ef30bedd6c", func := "viaticum/viaticumlaw7.TermKinds", spec := "termKinds", unfollowed := true, recurses := true, loops := true, apart := false }
def TermKindsSaid : Prop := termKindsRow.holds Try.pinned (OpenSpec.ofChange termKindsSpec)

/-- ITS FALSE NEIGHBOUR: 'it returns false'. Refute it at one input. -/
def termKindsWrong : ChangeSpec := { name := "termKinds", fn := fun _ => fun
  | [d1, d2] => { results := [.lit (.bool false)], args := [d1, d2] }
  | _ => none }
def TermKindsWrongFalsely : Prop := termKindsRow.holds Try.pinned (OpenSpec.ofChange termKindsWrong)

/-- 'viaticumlaw7.TermForms': WHATEVER THE INPUT: true; the input reads as it did. -/
def termFormsSpec : ChangeSpec := { name := "termForms", fn := fun _ => fun
  | [d1, d2, d3] => { results := [.lit (.bool true)], args := [d1, d2, d3] }
  | _ => none }
def termFormsRow : OpenClaim := { program := "ytjamoifenkdneaa", sum := "ead8f4219c424794e2807bca469924b0781d32225499750431ae61ef30bedd6c", func := "viaticum/viaticumlaw7.TermForms", spec := "termForms", unfollowed := true, recurses := true, loops := true, apart := false }
def TermFormsSaid : Prop := termFormsRow.holds Try.pinned (OpenSpec.ofChange termFormsSpec)

/-- ITS FALSE NEIGHBOUR: 'it returns false'. Refute it at one input. -/
def termFormsWrong : ChangeSpec := { name := "termForms", fn := fun _ => fun
  | [d1, d2, d3] => { results := [.lit (.bool false)], args := [d1, d2, d3] }
  | _ => none }
def TermFormsWrongFalsely : Prop := termFormsRow.holds Try.pinned (OpenSpec.ofChange termFormsWrong)

/-- 'viaticumlaw7.TermSets': WHATEVER THE INPUT: true; the input reads as it did. -/
def termSetsSpec : ChangeSpec := { name := "termSets", fn := fun _ => fun
  | [d1, d2] => { results := [.lit (.bool true)], args := [d1, d2] }
  | _ => none }
def termSetsRow : OpenClaim := { program := "ytjamoifenkdneaa", sum := "ead8f4219c424794e2807bca469924b0781d32225499750431ae61ef30bedd6c", func := "viaticum/viaticumlaw7.TermSets", spec := "termSets", unfollowed := true, recurses := true, loops := true, apart := false }
def TermSetsSaid : Prop := termSetsRow.holds Try.pinned (OpenSpec.ofChange termSetsSpec)

/-- ITS FALSE NEIGHBOUR: 'it returns false'. Refute it at one input. -/
def termSetsWrong : ChangeSpec := { name := "termSets", fn := fun _ => fun
  | [d1, d2] => { results := [.lit (.bool false)], args := [d1, d2] }
  | _ => none }
def TermSetsWrongFalsely : Prop := termSetsRow.holds Try.pinned (OpenSpec.ofChange termSetsWrong)

/-- 'viaticumlaw7.TermTurned': WHATEVER THE INPUT: true; the input reads as it did. -/
def termTurnedSpec : ChangeSpec := { name := "termTurned", fn := fun _ => fun
  | [d1, d2] => { results := [.lit (.bool true)], args := [d1, d2] }
  | _ => none }
def termTurnedRow : OpenClaim := { program := "ytjamoifenkdneaa", sum := "ead8f4219c424794e2807bca469924b0781d32225499750431ae61ef30bedd6c", func := "viaticum/viaticumlaw7.TermTurned", spec := "termTurned", unfollowed := true, recurses := true, loops := true, apart := false }
def TermTurnedSaid : Prop := termTurnedRow.holds Try.pinned (OpenSpec.ofChange termTurnedSpec)

/-- ITS FALSE NEIGHBOUR: 'it returns false'. Refute it at one input. -/
def termTurnedWrong : ChangeSpec := { name := "termTurned", fn := fun _ => fun
  | [d1, d2] => { results := [.lit (.bool false)], args := [d1, d2] }
  | _ => none }
def TermTurnedWrongFalsely : Prop := termTurnedRow.holds Try.pinned (OpenSpec.ofChange termTurnedWrong)

/- THE SECOND FORM. 'bulk': how many values and letters a reading holds, each counted each time it is reached (what is shared counts as often as it is met; a slice's spare places count too). A statement '..UptoSaid' is the law's where the arguments, and the package variables that the reading takes, are together of bulk at most 1048576: NARROWER than '..Said'. Prove '..Said' where nothing that the law and all that it calls make is longer than what came in: it says more and counts as full. Else prove '..UptoSaid'. A law counts once. -/
mutual
def uptoBulk {H : Type} : DataW H → Nat
  | .lit (.string bytes) => bytes.length + 1
  | .lit _ => 1
  | .nil => 1
  | .ptr d => uptoBulk d + 1
  | .slice elems spare => uptoBulkAll elems + uptoBulkAll spare + 1
  | .agg parts => uptoBulkAll parts + 1
  | .iface _ d => uptoBulk d + 1
  | .map entries => uptoBulkEntries entries + 1
  | .held _ => 1
def uptoBulkAll {H : Type} : List (DataW H) → Nat
  | [] => 0
  | d :: r => uptoBulk d + uptoBulkAll r
def uptoBulkEntries {H : Type} : List (Lit × DataW H) → Nat
  | [] => 0
  | x :: r => uptoBulkEntry x + uptoBulkEntries r
def uptoBulkEntry {H : Type} : Lit × DataW H → Nat
  | (.string bytes, d) => bytes.length + uptoBulk d + 1
  | (_, d) => uptoBulk d + 1
 end
def uptoSmall : (H : Type) → List (DataW H) → Bool := fun _ ds => decide (uptoBulkAll ds ≤ 1048576)
def OpenSpec.upto (s : _root_.Go.ChangeSpec) : _root_.Go.OpenSpec := { _root_.Go.OpenSpec.ofChange s with cond := some uptoSmall }

/-- 'viaticumlaw7.TermOrder', WHERE WHAT IT READS IS OF BULK AT MOST 1048576: true; the input reads as it did. -/
def termOrderUptoRow : OpenClaim := { program := "ytjamoifenkdneaa", sum := "ead8f4219c424794e2807bca469924b0781d32225499750431ae61ef30bedd6c", func := "viaticum/viaticumlaw7.TermOrder", spec := "termOrder", unfollowed := true, recurses := true, loops := true, apart := false, narrowed := true }
def TermOrderUptoSaid : Prop := termOrderUptoRow.holds Try.pinned (OpenSpec.upto termOrderSpec)

/-- 'viaticumlaw7.TermNames', WHERE WHAT IT READS IS OF BULK AT MOST 1048576: true; the input reads as it did. -/
def termNamesUptoRow : OpenClaim := { program := "ytjamoifenkdneaa", sum := "ead8f4219c424794e2807bca469924b0781d32225499750431ae61ef30bedd6c", func := "viaticum/viaticumlaw7.TermNames", spec := "termNames", unfollowed := true, recurses := true, apart := false, narrowed := true }
def TermNamesUptoSaid : Prop := termNamesUptoRow.holds Try.pinned (OpenSpec.upto termNamesSpec)

/-- 'viaticumlaw7.TermKinds', WHERE WHAT IT READS IS OF BULK AT MOST 1048576: true; the input reads as it did. -/
def termKindsUptoRow : OpenClaim := { program := "ytjamoifenkdneaa", sum := "ead8f4219c424794e2807bca469924b0781d32225499750431ae61ef30bedd6c", func := "viaticum/viaticumlaw7.TermKinds", spec := "termKinds", unfollowed := true, recurses := true, loops := true, apart := false, narrowed := true }
def TermKindsUptoSaid : Prop := termKindsUptoRow.holds Try.pinned (OpenSpec.upto termKindsSpec)

/-- 'viaticumlaw7.TermForms', WHERE WHAT IT READS IS OF BULK AT MOST 1048576: true; the input reads as it did. -/
def termFormsUptoRow : OpenClaim := { program := "ytjamoifenkdneaa", sum := "ead8f4219c424794e2807bca469924b0781d32225499750431ae61ef30bedd6c", func := "viaticum/viaticumlaw7.TermForms", spec := "termForms", unfollowed := true, recurses := true, loops := true, apart := false, narrowed := true }
def TermFormsUptoSaid : Prop := termFormsUptoRow.holds Try.pinned (OpenSpec.upto termFormsSpec)

/-- 'viaticumlaw7.TermSets', WHERE WHAT IT READS IS OF BULK AT MOST 1048576: true; the input reads as it did. -/
def termSetsUptoRow : OpenClaim := { program := "ytjamoifenkdneaa", sum := "ead8f4219c424794e2807bca469924b0781d32225499750431ae61ef30bedd6c", func := "viaticum/viaticumlaw7.TermSets", spec := "termSets", unfollowed := true, recurses := true, loops := true, apart := false, narrowed := true }
def TermSetsUptoSaid : Prop := termSetsUptoRow.holds Try.pinned (OpenSpec.upto termSetsSpec)

/-- 'viaticumlaw7.TermTurned', WHERE WHAT IT READS IS OF BULK AT MOST 1048576: true; the input reads as it did. -/
def termTurnedUptoRow : OpenClaim := { program := "ytjamoifenkdneaa", sum := "ead8f4219c424794e2807bca469924b0781d32225499750431ae61ef30bedd6c", func := "viaticum/viaticumlaw7.TermTurned", spec := "termTurned", unfollowed := true, recurses := true, loops := true, apart := false, narrowed := true }
def TermTurnedUptoSaid : Prop := termTurnedUptoRow.holds Try.pinned (OpenSpec.upto termTurnedSpec)

end Rows
end Go.Proofs.Ytjamoifenkdneaa
