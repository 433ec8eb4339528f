/-
  DERIVED. GIVEN WITH THE SEED: THE CARDS: each row of YtnohmgpmmhlloaaDoorRows.lean that lists a variable, with what it lists TIED to the program's text (the seventh form; the later family's looks); each row that meets fmt, with fmt's text TOLD by the authors' own Lean function (tested against real Go, not proved from fmt's source: count such statements apart). THE CARD IS WHAT COUNTS. Prove the row's statement (the work); the ties are given (YtnohmgpmmhlloaaDoorTie.lean); close each card by the builder's one call (the guide's Derived/Test/ToyasCard.lean, 'card_holds'). Laid BY PROGRAM, IN A SANDBOX (cutbox-door.mjs). By AI agents, Wed Nov 11 2026. No macro, syntax, notation, axiom, sorry.
-/
import Derived.Test.YtnohmgpmmhlloaaDoorRows
import GoSem.ClaimSeven
namespace Go.Proofs.YtnohmgpmmhlloaaDoor
namespace Rows

/-- THE TIED CARD OF 'viaticumlaw24.ChainBlocks'. -/
def chainBlocksCard : Claim7 := { stood := { row := chainBlocksRow, standIns := [], harness := (true, "9aa92f11b7a5b2b8eff6ef88d48d93f8aff51a8782ad6d2263a8982710827471"), looks := true }, kinds := [], alts := [], laidByText := true, laidKinds := [.data, .data, .data, .sentinel, .sentinel], laidTests := true, laidLooks := .later }
def ChainBlocksCardSaid : Prop := Claim7.holds Tryd.pinned (.plain (OpenSpec.ofChange chainBlocksSpec)) chainBlocksCard

/-- THE SECOND FORM's CARD OF 'viaticumlaw24.ChainBlocks'. -/
def chainBlocksUptoCard : Claim7 := { stood := { row := chainBlocksUptoRow, standIns := [], harness := (true, "9aa92f11b7a5b2b8eff6ef88d48d93f8aff51a8782ad6d2263a8982710827471"), looks := true }, kinds := [], alts := [], laidByText := true, laidKinds := [.data, .data, .data, .sentinel, .sentinel], laidTests := true, laidLooks := .later }
def ChainBlocksUptoCardSaid : Prop := Claim7.holds Tryd.pinned (.plain (OpenSpec.upto chainBlocksSpec)) chainBlocksUptoCard
end Rows
end Go.Proofs.YtnohmgpmmhlloaaDoor
