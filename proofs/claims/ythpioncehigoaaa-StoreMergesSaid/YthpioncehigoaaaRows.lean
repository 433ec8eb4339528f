/-
  NARROWER THAN 'FOR EVERY INPUT', by the rows' own cells (each row's printed sentence says how): StoreOrder: loops · StoreTurned: loops · StorePlays: loops · StoreNil: loops · StoreNamed: loops · StoreMerges: loops.
  DERIVED. THE GIVEN ROWS OF THIS SEAT. 6 by the template 'for every input the law returns true; each argument reads behind the call as it read before'; 0 by the template 'total and deterministic' (their statements: YthpioncehigoaaaTotals.lean).
  GIVEN WITH THE SEED: the statements are not yours to turn. If you find one false, say at which input.
  Laid BY PROGRAM, IN A SANDBOX (cutbox-rows.mjs): the forced cells as the released guide's own fill.sh prints them over the translation 8af26a2dbb8d9d61… (all of the seat's roots in one cut). By AI agents, Wed Nov 11 2026. No macro, syntax, notation, axiom, sorry.
-/
import Derived.Test.YthpioncehigoaaaChecked
import GoSem.Claim
import GoSem.ClaimJoined
import GoSem.ClaimMapViews
import Derived.JoinedTies
import Derived.KernelRfl
namespace Go.Proofs.Ythpioncehigoaaa
/- THE CELL 'sum', in the pinned program and in every row, IS THE sha256 OF THE DUMP (.gsa) THAT YthpioncehigoaaaProg.lean LOADS. Nothing in Lean hashes anything: it is a label: what it is worth is what the hold of that sum in a sandbox is worth. -/
noncomputable def Try.pinned : Pinned := { name := "ythpioncehigoaaa", sum := "8af26a2dbb8d9d61dac6b4dbf78c94b5e96c7e626cd2a71e1ba0cf860f2c54d1", checked := Try.checked }
namespace Rows
def none {H : Type} : Left H := { results := [], args := [] }

/-- 'viaticumlaw18.StoreOrder': WHATEVER THE INPUT: true; the input reads as it did. -/
def storeOrderSpec : ChangeSpec := { name := "storeOrder", fn := fun _ => fun
  | [d1, d2, d3] => { results := [.lit (.bool true)], args := [d1, d2, d3] }
  | _ => none }
def storeOrderRow : OpenClaim := { program := "ythpioncehigoaaa", sum := "8af26a2dbb8d9d61dac6b4dbf78c94b5e96c7e626cd2a71e1ba0cf860f2c54d1", func := "viaticum/viaticumlaw18.StoreOrder", spec := "storeOrder", inPlace := ["slices.overlaps[viaticum/api.Fact]"], unfollowed := true, recurses := true, loops := true, apart := false }
def StoreOrderSaid : Prop := storeOrderRow.holds Try.pinned (OpenSpec.ofChange storeOrderSpec)

/-- ITS FALSE NEIGHBOUR: 'it returns false'. Refute it at one input. -/
def storeOrderWrong : ChangeSpec := { name := "storeOrder", fn := fun _ => fun
  | [d1, d2, d3] => { results := [.lit (.bool false)], args := [d1, d2, d3] }
  | _ => none }
def StoreOrderWrongFalsely : Prop := storeOrderRow.holds Try.pinned (OpenSpec.ofChange storeOrderWrong)

/-- 'viaticumlaw18.StoreTurned': WHATEVER THE INPUT: true; the input reads as it did. -/
def storeTurnedSpec : ChangeSpec := { name := "storeTurned", fn := fun _ => fun
  | [d1, d2] => { results := [.lit (.bool true)], args := [d1, d2] }
  | _ => none }
def storeTurnedRow : OpenClaim := { program := "ythpioncehigoaaa", sum := "8af26a2dbb8d9d61dac6b4dbf78c94b5e96c7e626cd2a71e1ba0cf860f2c54d1", func := "viaticum/viaticumlaw18.StoreTurned", spec := "storeTurned", inPlace := ["slices.overlaps[viaticum/api.Fact]"], unfollowed := true, recurses := true, loops := true, apart := false }
def StoreTurnedSaid : Prop := storeTurnedRow.holds Try.pinned (OpenSpec.ofChange storeTurnedSpec)

/-- ITS FALSE NEIGHBOUR: 'it returns false'. Refute it at one input. -/
def storeTurnedWrong : ChangeSpec := { name := "storeTurned", fn := fun _ => fun
  | [d1, d2] => { results := [.lit (.bool false)], args := [d1, d2] }
  | _ => none }
def StoreTurnedWrongFalsely : Prop := storeTurnedRow.holds Try.pinned (OpenSpec.ofChange storeTurnedWrong)

/-- 'viaticumlaw18.StorePlays': WHATEVER THE INPUT: true; the input reads as it did. -/
def storePlaysSpec : ChangeSpec := { name := "storePlays", fn := fun _ => fun
  | [d1, d2, d3] => { results := [.lit (.bool true)], args := [d1, d2, d3] }
  | _ => none }
def storePlaysRow : OpenClaim := { program := "ythpioncehigoaaa", sum := "8af26a2dbb8d9d61dac6b4dbf78c94b5e96c7e626cd2a71e1ba0cf860f2c54d1", func := "viaticum/viaticumlaw18.StorePlays", spec := "storePlays", inPlace := ["slices.overlaps[viaticum/api.Fact]"], unfollowed := true, recurses := true, loops := true, apart := false }
def StorePlaysSaid : Prop := storePlaysRow.holds Try.pinned (OpenSpec.ofChange storePlaysSpec)

/-- ITS FALSE NEIGHBOUR: 'it returns false'. Refute it at one input. -/
def storePlaysWrong : ChangeSpec := { name := "storePlays", fn := fun _ => fun
  | [d1, d2, d3] => { results := [.lit (.bool false)], args := [d1, d2, d3] }
  | _ => none }
def StorePlaysWrongFalsely : Prop := storePlaysRow.holds Try.pinned (OpenSpec.ofChange storePlaysWrong)

/-- 'viaticumlaw18.StoreNil': WHATEVER THE INPUT: true; the input reads as it did. -/
def storeNilSpec : ChangeSpec := { name := "storeNil", fn := fun _ => fun
  | [d1, d2, d3] => { results := [.lit (.bool true)], args := [d1, d2, d3] }
  | _ => none }
def storeNilRow : OpenClaim := { program := "ythpioncehigoaaa", sum := "8af26a2dbb8d9d61dac6b4dbf78c94b5e96c7e626cd2a71e1ba0cf860f2c54d1", func := "viaticum/viaticumlaw18.StoreNil", spec := "storeNil", inPlace := ["slices.overlaps[viaticum/api.Fact]"], unfollowed := true, recurses := true, loops := true, apart := false }
def StoreNilSaid : Prop := storeNilRow.holds Try.pinned (OpenSpec.ofChange storeNilSpec)

/-- ITS FALSE NEIGHBOUR: 'it returns false'. Refute it at one input. -/
def storeNilWrong : ChangeSpec := { name := "storeNil", fn := fun _ => fun
  | [d1, d2, d3] => { results := [.lit (.bool false)], args := [d1, d2, d3] }
  | _ => none }
def StoreNilWrongFalsely : Prop := storeNilRow.holds Try.pinned (OpenSpec.ofChange storeNilWrong)

/-- 'viaticumlaw18.StoreNamed': WHATEVER THE INPUT: true; the input reads as it did. -/
def storeNamedSpec : ChangeSpec := { name := "storeNamed", fn := fun _ => fun
  | [d] => { results := [.lit (.bool true)], args := [d] }
  | _ => none }
def storeNamedRow : OpenClaim := { program := "ythpioncehigoaaa", sum := "8af26a2dbb8d9d61dac6b4dbf78c94b5e96c7e626cd2a71e1ba0cf860f2c54d1", func := "viaticum/viaticumlaw18.StoreNamed", spec := "storeNamed", inPlace := ["slices.overlaps[viaticum/api.Fact]"], unfollowed := true, recurses := true, loops := true, apart := false }
def StoreNamedSaid : Prop := storeNamedRow.holds Try.pinned (OpenSpec.ofChange storeNamedSpec)

/-- ITS FALSE NEIGHBOUR: 'it returns false'. Refute it at one input. -/
def storeNamedWrong : ChangeSpec := { name := "storeNamed", fn := fun _ => fun
  | [d] => { results := [.lit (.bool false)], args := [d] }
  | _ => none }
def StoreNamedWrongFalsely : Prop := storeNamedRow.holds Try.pinned (OpenSpec.ofChange storeNamedWrong)

/-- 'viaticumlaw18.StoreMerges': WHATEVER THE INPUT: true; the input reads as it did. -/
def storeMergesSpec : ChangeSpec := { name := "storeMerges", fn := fun _ => fun
  | [d1, d2, d3] => { results := [.lit (.bool true)], args := [d1, d2, d3] }
  | _ => none }
def storeMergesRow : OpenClaim := { program := "ythpioncehigoaaa", sum := "8af26a2dbb8d9d61dac6b4dbf78c94b5e96c7e626cd2a71e1ba0cf860f2c54d1", func := "viaticum/viaticumlaw18.StoreMerges", spec := "storeMerges", inPlace := ["slices.overlaps[viaticum/api.Fact]"], unfollowed := true, recurses := true, loops := true, apart := false }
def StoreMergesSaid : Prop := storeMergesRow.holds Try.pinned (OpenSpec.ofChange storeMergesSpec)

/-- ITS FALSE NEIGHBOUR: 'it returns false'. Refute it at one input. -/
def storeMergesWrong : ChangeSpec := { name := "storeMerges", fn := fun _ => fun
  | [d1, d2, d3] => { results := [.lit (.bool false)], args := [d1, d2, d3] }
  | _ => none }
def StoreMergesWrongFalsely : Prop := storeMergesRow.holds Try.pinned (OpenSpec.ofChange storeMergesWrong)

/- THE SECOND FORM. 'bulk': how many values and letters a reading holds, each counted each time it is reached (what is shared counts as often as it is met; a slice's spare places count too). A statement '..UptoSaid' is the law's where the arguments, and the package variables that the reading takes, are together of bulk at most 1048576: NARROWER than '..Said'. Prove '..Said' where nothing that the law and all that it calls make is longer than what came in: it says more and counts as full. Else prove '..UptoSaid'. A law counts once. -/
mutual
def uptoBulk {H : Type} : DataW H → Nat
  | .lit (.string bytes) => bytes.length + 1
  | .lit _ => 1
  | .nil => 1
  | .ptr d => uptoBulk d + 1
  | .slice elems spare => uptoBulkAll elems + uptoBulkAll spare + 1
  | .agg parts => uptoBulkAll parts + 1
  | .iface _ d => uptoBulk d + 1
  | .map entries => uptoBulkEntries entries + 1
  | .held _ => 1
def uptoBulkAll {H : Type} : List (DataW H) → Nat
  | [] => 0
  | d :: r => uptoBulk d + uptoBulkAll r
def uptoBulkEntries {H : Type} : List (Lit × DataW H) → Nat
  | [] => 0
  | x :: r => uptoBulkEntry x + uptoBulkEntries r
def uptoBulkEntry {H : Type} : Lit × DataW H → Nat
  | (.string bytes, d) => bytes.length + uptoBulk d + 1
  | (_, d) => uptoBulk d + 1
 end
def uptoSmall : (H : Type) → List (DataW H) → Bool := fun _ ds => decide (uptoBulkAll ds ≤ 1048576)
def OpenSpec.upto (s : _root_.Go.ChangeSpec) : _root_.Go.OpenSpec := { _root_.Go.OpenSpec.ofChange s with cond := some uptoSmall }

/-- 'viaticumlaw18.StoreOrder', WHERE WHAT IT READS IS OF BULK AT MOST 1048576: true; the input reads as it did. -/
def storeOrderUptoRow : OpenClaim := { program := "ythpioncehigoaaa", sum := "8af26a2dbb8d9d61dac6b4dbf78c94b5e96c7e626cd2a71e1ba0cf860f2c54d1", func := "viaticum/viaticumlaw18.StoreOrder", spec := "storeOrder", inPlace := ["slices.overlaps[viaticum/api.Fact]"], unfollowed := true, recurses := true, loops := true, apart := false, narrowed := true }
def StoreOrderUptoSaid : Prop := storeOrderUptoRow.holds Try.pinned (OpenSpec.upto storeOrderSpec)

/-- 'viaticumlaw18.StoreTurned', WHERE WHAT IT READS IS OF BULK AT MOST 1048576: true; the input reads as it did. -/
def storeTurnedUptoRow : OpenClaim := { program := "ythpioncehigoaaa", sum := "8af26a2dbb8d9d61dac6b4dbf78c94b5e96c7e626cd2a71e1ba0cf860f2c54d1", func := "viaticum/viaticumlaw18.StoreTurned", spec := "storeTurned", inPlace := ["slices.overlaps[viaticum/api.Fact]"], unfollowed := true, recurses := true, loops := true, apart := false, narrowed := true }
def StoreTurnedUptoSaid : Prop := storeTurnedUptoRow.holds Try.pinned (OpenSpec.upto storeTurnedSpec)

/-- 'viaticumlaw18.StorePlays', WHERE WHAT IT READS IS OF BULK AT MOST 1048576: true; the input reads as it did. -/
def storePlaysUptoRow : OpenClaim := { program := "ythpioncehigoaaa", sum := "8af26a2dbb8d9d61dac6b4dbf78c94b5e96c7e626cd2a71e1ba0cf860f2c54d1", func := "viaticum/viaticumlaw18.StorePlays", spec := "storePlays", inPlace := ["slices.overlaps[viaticum/api.Fact]"], unfollowed := true, recurses := true, loops := true, apart := false, narrowed := true }
def StorePlaysUptoSaid : Prop := storePlaysUptoRow.holds Try.pinned (OpenSpec.upto storePlaysSpec)

/-- 'viaticumlaw18.StoreNil', WHERE WHAT IT READS IS OF BULK AT MOST 1048576: true; the input reads as it did. -/
def storeNilUptoRow : OpenClaim := { program := "ythpioncehigoaaa", sum := "8af26a2dbb8d9d61dac6b4dbf78c94b5e96c7e626cd2a71e1ba0cf860f2c54d1", func := "viaticum/viaticumlaw18.StoreNil", spec := "storeNil", inPlace := ["slices.overlaps[viaticum/api.Fact]"], unfollowed := true, recurses := true, loops := true, apart := false, narrowed := true }
def StoreNilUptoSaid : Prop := storeNilUptoRow.holds Try.pinned (OpenSpec.upto storeNilSpec)

/-- 'viaticumlaw18.StoreNamed', WHERE WHAT IT READS IS OF BULK AT MOST 1048576: true; the input reads as it did. -/
def storeNamedUptoRow : OpenClaim := { program := "ythpioncehigoaaa", sum := "8af26a2dbb8d9d61dac6b4dbf78c94b5e96c7e626cd2a71e1ba0cf860f2c54d1", func := "viaticum/viaticumlaw18.StoreNamed", spec := "storeNamed", inPlace := ["slices.overlaps[viaticum/api.Fact]"], unfollowed := true, recurses := true, loops := true, apart := false, narrowed := true }
def StoreNamedUptoSaid : Prop := storeNamedUptoRow.holds Try.pinned (OpenSpec.upto storeNamedSpec)

/-- 'viaticumlaw18.StoreMerges', WHERE WHAT IT READS IS OF BULK AT MOST 1048576: true; the input reads as it did. -/
def storeMergesUptoRow : OpenClaim := { program := "ythpioncehigoaaa", sum := "8af26a2dbb8d9d61dac6b4dbf78c94b5e96c7e626cd2a71e1ba0cf860f2c54d1", func := "viaticum/viaticumlaw18.StoreMerges", spec := "storeMerges", inPlace := ["slices.overlaps[viaticum/api.Fact]"], unfollowed := true, recurses := true, loops := true, apart := false, narrowed := true }
def StoreMergesUptoSaid : Prop := storeMergesUptoRow.holds Try.pinned (OpenSpec.upto storeMergesSpec)

end Rows
end Go.Proofs.Ythpioncehigoaaa
