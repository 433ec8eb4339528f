/-
  No cell of these rows narrows 'for every input' (looked for: loops, veiled, ifaces, maps, wideKeys, modest, calm, conditions, laid).
  DERIVED. THE GIVEN ROWS OF THIS SEAT. 6 by the template 'for every input the law returns true; each argument reads behind the call as it read before'; 0 by the template 'total and deterministic' (their statements: YtcfonifaijeecaaTotals.lean).
  GIVEN WITH THE SEED: the statements are not yours to turn. If you find one false, say at which input.
  Laid BY PROGRAM, IN A SANDBOX (cutbox-rows.mjs): the forced cells as the released guide's own fill.sh prints them over the translation 526f47990f3711c5… (all of the seat's roots in one cut). By AI agents, Wed Nov 11 2026. No macro, syntax, notation, axiom, sorry.
-/
import Derived.Test.YtcfonifaijeecaaChecked
import GoSem.Claim
import GoSem.ClaimJoined
import GoSem.ClaimMapViews
import Derived.JoinedTies
import Derived.KernelRfl
namespace Go.Proofs.Ytcfonifaijeecaa
/- THE CELL 'sum', in the pinned program and in every row, IS THE sha256 OF THE DUMP (.gsa) THAT YtcfonifaijeecaaProg.lean LOADS. Nothing in Lean hashes anything: it is a label: what it is worth is what the hold of that sum in a sandbox is worth. -/
noncomputable def Try.pinned : Pinned := { name := "ytcfonifaijeecaa", sum := "526f47990f3711c5b4873dcbcf1133ffbc184868b25211ba966789c25f64fade", checked := Try.checked }
namespace Rows
def none {H : Type} : Left H := { results := [], args := [] }

/-- 'viaticumlaw6.ProtoForms': WHATEVER THE INPUT: true; the input reads as it did. -/
def protoFormsSpec : ChangeSpec := { name := "protoForms", fn := fun _ => fun
  | [d1, d2] => { results := [.lit (.bool true)], args := [d1, d2] }
  | _ => none }
def protoFormsRow : OpenClaim := { program := "ytcfonifaijeecaa", sum := "526f47990f3711c5b4873dcbcf1133ffbc184868b25211ba966789c25f64fade", func := "viaticum/viaticumlaw6.ProtoForms", spec := "protoForms", apart := false }
def ProtoFormsSaid : Prop := protoFormsRow.holds Try.pinned (OpenSpec.ofChange protoFormsSpec)

/-- ITS FALSE NEIGHBOUR: 'it returns false'. Refute it at one input. -/
def protoFormsWrong : ChangeSpec := { name := "protoForms", fn := fun _ => fun
  | [d1, d2] => { results := [.lit (.bool false)], args := [d1, d2] }
  | _ => none }
def ProtoFormsWrongFalsely : Prop := protoFormsRow.holds Try.pinned (OpenSpec.ofChange protoFormsWrong)

/-- 'viaticumlaw6.ProtoReads': WHATEVER THE INPUT: true; the input reads as it did. -/
def protoReadsSpec : ChangeSpec := { name := "protoReads", fn := fun _ => fun
  | [d1, d2, d3, d4, d5] => { results := [.lit (.bool true)], args := [d1, d2, d3, d4, d5] }
  | _ => none }
def protoReadsRow : OpenClaim := { program := "ytcfonifaijeecaa", sum := "526f47990f3711c5b4873dcbcf1133ffbc184868b25211ba966789c25f64fade", func := "viaticum/viaticumlaw6.ProtoReads", spec := "protoReads", unfollowed := true, recurses := true, apart := false }
def ProtoReadsSaid : Prop := protoReadsRow.holds Try.pinned (OpenSpec.ofChange protoReadsSpec)

/-- ITS FALSE NEIGHBOUR: 'it returns false'. Refute it at one input. -/
def protoReadsWrong : ChangeSpec := { name := "protoReads", fn := fun _ => fun
  | [d1, d2, d3, d4, d5] => { results := [.lit (.bool false)], args := [d1, d2, d3, d4, d5] }
  | _ => none }
def ProtoReadsWrongFalsely : Prop := protoReadsRow.holds Try.pinned (OpenSpec.ofChange protoReadsWrong)

/-- 'viaticumlaw6.ProtoNumbers': WHATEVER THE INPUT: true; the input reads as it did. -/
def protoNumbersSpec : ChangeSpec := { name := "protoNumbers", fn := fun _ => fun
  | [d1, d2] => { results := [.lit (.bool true)], args := [d1, d2] }
  | _ => none }
def protoNumbersRow : OpenClaim := { program := "ytcfonifaijeecaa", sum := "526f47990f3711c5b4873dcbcf1133ffbc184868b25211ba966789c25f64fade", func := "viaticum/viaticumlaw6.ProtoNumbers", spec := "protoNumbers", unfollowed := true, recurses := true, apart := false }
def ProtoNumbersSaid : Prop := protoNumbersRow.holds Try.pinned (OpenSpec.ofChange protoNumbersSpec)

/-- ITS FALSE NEIGHBOUR: 'it returns false'. Refute it at one input. -/
def protoNumbersWrong : ChangeSpec := { name := "protoNumbers", fn := fun _ => fun
  | [d1, d2] => { results := [.lit (.bool false)], args := [d1, d2] }
  | _ => none }
def ProtoNumbersWrongFalsely : Prop := protoNumbersRow.holds Try.pinned (OpenSpec.ofChange protoNumbersWrong)

/-- 'viaticumlaw6.ProtoBack': WHATEVER THE INPUT: true; the input reads as it did. -/
def protoBackSpec : ChangeSpec := { name := "protoBack", fn := fun _ => fun
  | [d1, d2] => { results := [.lit (.bool true)], args := [d1, d2] }
  | _ => none }
def protoBackRow : OpenClaim := { program := "ytcfonifaijeecaa", sum := "526f47990f3711c5b4873dcbcf1133ffbc184868b25211ba966789c25f64fade", func := "viaticum/viaticumlaw6.ProtoBack", spec := "protoBack", unfollowed := true, recurses := true, apart := false }
def ProtoBackSaid : Prop := protoBackRow.holds Try.pinned (OpenSpec.ofChange protoBackSpec)

/-- ITS FALSE NEIGHBOUR: 'it returns false'. Refute it at one input. -/
def protoBackWrong : ChangeSpec := { name := "protoBack", fn := fun _ => fun
  | [d1, d2] => { results := [.lit (.bool false)], args := [d1, d2] }
  | _ => none }
def ProtoBackWrongFalsely : Prop := protoBackRow.holds Try.pinned (OpenSpec.ofChange protoBackWrong)

/-- 'viaticumlaw6.ProtoRows': WHATEVER THE INPUT: true; the input reads as it did. -/
def protoRowsSpec : ChangeSpec := { name := "protoRows", fn := fun _ => fun
  | [d1, d2] => { results := [.lit (.bool true)], args := [d1, d2] }
  | _ => none }
def protoRowsRow : OpenClaim := { program := "ytcfonifaijeecaa", sum := "526f47990f3711c5b4873dcbcf1133ffbc184868b25211ba966789c25f64fade", func := "viaticum/viaticumlaw6.ProtoRows", spec := "protoRows", unfollowed := true, recurses := true, apart := false }
def ProtoRowsSaid : Prop := protoRowsRow.holds Try.pinned (OpenSpec.ofChange protoRowsSpec)

/-- ITS FALSE NEIGHBOUR: 'it returns false'. Refute it at one input. -/
def protoRowsWrong : ChangeSpec := { name := "protoRows", fn := fun _ => fun
  | [d1, d2] => { results := [.lit (.bool false)], args := [d1, d2] }
  | _ => none }
def ProtoRowsWrongFalsely : Prop := protoRowsRow.holds Try.pinned (OpenSpec.ofChange protoRowsWrong)

/-- 'viaticumlaw6.ProtoCut': WHATEVER THE INPUT: true; the input reads as it did. -/
def protoCutSpec : ChangeSpec := { name := "protoCut", fn := fun _ => fun
  | [d1, d2, d3, d4] => { results := [.lit (.bool true)], args := [d1, d2, d3, d4] }
  | _ => none }
def protoCutRow : OpenClaim := { program := "ytcfonifaijeecaa", sum := "526f47990f3711c5b4873dcbcf1133ffbc184868b25211ba966789c25f64fade", func := "viaticum/viaticumlaw6.ProtoCut", spec := "protoCut", unfollowed := true, recurses := true, apart := false }
def ProtoCutSaid : Prop := protoCutRow.holds Try.pinned (OpenSpec.ofChange protoCutSpec)

/-- ITS FALSE NEIGHBOUR: 'it returns false'. Refute it at one input. -/
def protoCutWrong : ChangeSpec := { name := "protoCut", fn := fun _ => fun
  | [d1, d2, d3, d4] => { results := [.lit (.bool false)], args := [d1, d2, d3, d4] }
  | _ => none }
def ProtoCutWrongFalsely : Prop := protoCutRow.holds Try.pinned (OpenSpec.ofChange protoCutWrong)

/- THE SECOND FORM. 'bulk': how many values and letters a reading holds, each counted each time it is reached (what is shared counts as often as it is met; a slice's spare places count too). A statement '..UptoSaid' is the law's where the arguments, and the package variables that the reading takes, are together of bulk at most 1048576: NARROWER than '..Said'. Prove '..Said' where nothing that the law and all that it calls make is longer than what came in: it says more and counts as full. Else prove '..UptoSaid'. A law counts once. -/
mutual
def uptoBulk {H : Type} : DataW H → Nat
  | .lit (.string bytes) => bytes.length + 1
  | .lit _ => 1
  | .nil => 1
  | .ptr d => uptoBulk d + 1
  | .slice elems spare => uptoBulkAll elems + uptoBulkAll spare + 1
  | .agg parts => uptoBulkAll parts + 1
  | .iface _ d => uptoBulk d + 1
  | .map entries => uptoBulkEntries entries + 1
  | .held _ => 1
def uptoBulkAll {H : Type} : List (DataW H) → Nat
  | [] => 0
  | d :: r => uptoBulk d + uptoBulkAll r
def uptoBulkEntries {H : Type} : List (Lit × DataW H) → Nat
  | [] => 0
  | x :: r => uptoBulkEntry x + uptoBulkEntries r
def uptoBulkEntry {H : Type} : Lit × DataW H → Nat
  | (.string bytes, d) => bytes.length + uptoBulk d + 1
  | (_, d) => uptoBulk d + 1
 end
def uptoSmall : (H : Type) → List (DataW H) → Bool := fun _ ds => decide (uptoBulkAll ds ≤ 1048576)
def OpenSpec.upto (s : _root_.Go.ChangeSpec) : _root_.Go.OpenSpec := { _root_.Go.OpenSpec.ofChange s with cond := some uptoSmall }

/-- 'viaticumlaw6.ProtoForms', WHERE WHAT IT READS IS OF BULK AT MOST 1048576: true; the input reads as it did. -/
def protoFormsUptoRow : OpenClaim := { program := "ytcfonifaijeecaa", sum := "526f47990f3711c5b4873dcbcf1133ffbc184868b25211ba966789c25f64fade", func := "viaticum/viaticumlaw6.ProtoForms", spec := "protoForms", apart := false, narrowed := true }
def ProtoFormsUptoSaid : Prop := protoFormsUptoRow.holds Try.pinned (OpenSpec.upto protoFormsSpec)

/-- 'viaticumlaw6.ProtoReads', WHERE WHAT IT READS IS OF BULK AT MOST 1048576: true; the input reads as it did. -/
def protoReadsUptoRow : OpenClaim := { program := "ytcfonifaijeecaa", sum := "526f47990f3711c5b4873dcbcf1133ffbc184868b25211ba966789c25f64fade", func := "viaticum/viaticumlaw6.ProtoReads", spec := "protoReads", unfollowed := true, recurses := true, apart := false, narrowed := true }
def ProtoReadsUptoSaid : Prop := protoReadsUptoRow.holds Try.pinned (OpenSpec.upto protoReadsSpec)

/-- 'viaticumlaw6.ProtoNumbers', WHERE WHAT IT READS IS OF BULK AT MOST 1048576: true; the input reads as it did. -/
def protoNumbersUptoRow : OpenClaim := { program := "ytcfonifaijeecaa", sum := "526f47990f3711c5b4873dcbcf1133ffbc184868b25211ba966789c25f64fade", func := "viaticum/viaticumlaw6.ProtoNumbers", spec := "protoNumbers", unfollowed := true, recurses := true, apart := false, narrowed := true }
def ProtoNumbersUptoSaid : Prop := protoNumbersUptoRow.holds Try.pinned (OpenSpec.upto protoNumbersSpec)

/-- 'viaticumlaw6.ProtoBack', WHERE WHAT IT READS IS OF BULK AT MOST 1048576: true; the input reads as it did. -/
def protoBackUptoRow : OpenClaim := { program := "ytcfonifaijeecaa", sum := "526f47990f3711c5b4873dcbcf1133ffbc184868b25211ba966789c25f64fade", func := "viaticum/viaticumlaw6.ProtoBack", spec := "protoBack", unfollowed := true, recurses := true, apart := false, narrowed := true }
def ProtoBackUptoSaid : Prop := protoBackUptoRow.holds Try.pinned (OpenSpec.upto protoBackSpec)

/-- 'viaticumlaw6.ProtoRows', WHERE WHAT IT READS IS OF BULK AT MOST 1048576: true; the input reads as it did. -/
def protoRowsUptoRow : OpenClaim := { program := "ytcfonifaijeecaa", sum := "526f47990f3711c5b4873dcbcf1133ffbc184868b25211ba966789c25f64fade", func := "viaticum/viaticumlaw6.ProtoRows", spec := "protoRows", unfollowed := true, recurses := true, apart := false, narrowed := true }
def ProtoRowsUptoSaid : Prop := protoRowsUptoRow.holds Try.pinned (OpenSpec.upto protoRowsSpec)

/-- 'viaticumlaw6.ProtoCut', WHERE WHAT IT READS IS OF BULK AT MOST 1048576: true; the input reads as it did. -/
def protoCutUptoRow : OpenClaim := { program := "ytcfonifaijeecaa", sum := "526f47990f3711c5b4873dcbcf1133ffbc184868b25211ba966789c25f64fade", func := "viaticum/viaticumlaw6.ProtoCut", spec := "protoCut", unfollowed := true, recurses := true, apart := false, narrowed := true }
def ProtoCutUptoSaid : Prop := protoCutUptoRow.holds Try.pinned (OpenSpec.upto protoCutSpec)

end Rows
end Go.Proofs.Ytcfonifaijeecaa
