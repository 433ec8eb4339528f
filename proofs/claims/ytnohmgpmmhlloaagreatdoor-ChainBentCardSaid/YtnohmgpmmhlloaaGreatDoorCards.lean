/-
  DERIVED. GIVEN WITH THE SEED: THE CARDS: each row of YtnohmgpmmhlloaaGreatDoorRows.lean that lists a variable, with what it lists TIED to the program's text (the seventh form; the later family's looks); each row that meets fmt, with fmt's text TOLD by the authors' own Lean function (tested against real Go, not proved from fmt's source: count such statements apart). THE CARD IS WHAT COUNTS. Prove the row's statement (the work); the ties are given (YtnohmgpmmhlloaaGreatDoorTie.lean); close each card by the builder's one call (the guide's Derived/Test/ToyasCard.lean, 'card_holds'). Laid BY PROGRAM, IN A SANDBOX (cutbox-door.mjs). By AI agents, Wed Nov 11 2026. No macro, syntax, notation, axiom, sorry.
-/
import Derived.Test.YtnohmgpmmhlloaaGreatDoorRows
import GoSem.ClaimSeven
namespace Go.Proofs.YtnohmgpmmhlloaaGreatDoor
namespace Rows

/-- THE TIED CARD OF 'viaticumlaw24.ChainKeys'. -/
def chainKeysCard : Claim7 := { stood := { row := chainKeysRow, standIns := [], harness := (true, "5307a9007335d7c83d3ec3980db5ef60e9a38f7de7da356abba6370d761985cc"), looks := true }, kinds := [], alts := [], laidByText := true, laidKinds := [.data, .data, .data, .sentinel, .sentinel], laidTests := true, laidLooks := .later }
def ChainKeysCardSaid : Prop := Claim7.holds Tryz.pinned (.plain (OpenSpec.ofChange chainKeysSpec)) chainKeysCard

/-- THE TIED CARD OF 'viaticumlaw24.ChainIssues'. -/
def chainIssuesCard : Claim7 := { stood := { row := chainIssuesRow, standIns := [], harness := (true, "5307a9007335d7c83d3ec3980db5ef60e9a38f7de7da356abba6370d761985cc"), looks := true }, kinds := [], alts := [], laidByText := true, laidKinds := [.data, .data, .data, .sentinel, .sentinel], laidTests := true, laidLooks := .later }
def ChainIssuesCardSaid : Prop := Claim7.holds Tryz.pinned (.plain (OpenSpec.ofChange chainIssuesSpec)) chainIssuesCard

/-- THE TIED CARD OF 'viaticumlaw24.ChainReads'. -/
def chainReadsCard : Claim7 := { stood := { row := chainReadsRow, standIns := [], harness := (true, "5307a9007335d7c83d3ec3980db5ef60e9a38f7de7da356abba6370d761985cc"), looks := true }, kinds := [], alts := [], laidByText := true, laidKinds := [.data, .data, .data, .sentinel, .sentinel], laidTests := true, laidLooks := .later }
def ChainReadsCardSaid : Prop := Claim7.holds Tryz.pinned (.plain (OpenSpec.ofChange chainReadsSpec)) chainReadsCard

/-- THE TIED CARD OF 'viaticumlaw24.ChainBent'. -/
def chainBentCard : Claim7 := { stood := { row := chainBentRow, standIns := [], harness := (true, "5307a9007335d7c83d3ec3980db5ef60e9a38f7de7da356abba6370d761985cc"), looks := true }, kinds := [], alts := [], laidByText := true, laidKinds := [.data, .data, .data, .sentinel, .sentinel], laidTests := true, laidLooks := .later }
def ChainBentCardSaid : Prop := Claim7.holds Tryz.pinned (.plain (OpenSpec.ofChange chainBentSpec)) chainBentCard

/-- THE TIED CARD OF 'viaticumlaw24.ChainVerifies'. -/
def chainVerifiesCard : Claim7 := { stood := { row := chainVerifiesRow, standIns := [], harness := (true, "5307a9007335d7c83d3ec3980db5ef60e9a38f7de7da356abba6370d761985cc"), looks := true }, kinds := [], alts := [], laidByText := true, laidKinds := [.data, .data, .data, .sentinel, .sentinel], laidTests := true, laidLooks := .later }
def ChainVerifiesCardSaid : Prop := Claim7.holds Tryz.pinned (.plain (OpenSpec.ofChange chainVerifiesSpec)) chainVerifiesCard

/-- THE SECOND FORM's CARD OF 'viaticumlaw24.ChainKeys'. -/
def chainKeysUptoCard : Claim7 := { stood := { row := chainKeysUptoRow, standIns := [], harness := (true, "5307a9007335d7c83d3ec3980db5ef60e9a38f7de7da356abba6370d761985cc"), looks := true }, kinds := [], alts := [], laidByText := true, laidKinds := [.data, .data, .data, .sentinel, .sentinel], laidTests := true, laidLooks := .later }
def ChainKeysUptoCardSaid : Prop := Claim7.holds Tryz.pinned (.plain (OpenSpec.upto chainKeysSpec)) chainKeysUptoCard

/-- THE SECOND FORM's CARD OF 'viaticumlaw24.ChainIssues'. -/
def chainIssuesUptoCard : Claim7 := { stood := { row := chainIssuesUptoRow, standIns := [], harness := (true, "5307a9007335d7c83d3ec3980db5ef60e9a38f7de7da356abba6370d761985cc"), looks := true }, kinds := [], alts := [], laidByText := true, laidKinds := [.data, .data, .data, .sentinel, .sentinel], laidTests := true, laidLooks := .later }
def ChainIssuesUptoCardSaid : Prop := Claim7.holds Tryz.pinned (.plain (OpenSpec.upto chainIssuesSpec)) chainIssuesUptoCard

/-- THE SECOND FORM's CARD OF 'viaticumlaw24.ChainReads'. -/
def chainReadsUptoCard : Claim7 := { stood := { row := chainReadsUptoRow, standIns := [], harness := (true, "5307a9007335d7c83d3ec3980db5ef60e9a38f7de7da356abba6370d761985cc"), looks := true }, kinds := [], alts := [], laidByText := true, laidKinds := [.data, .data, .data, .sentinel, .sentinel], laidTests := true, laidLooks := .later }
def ChainReadsUptoCardSaid : Prop := Claim7.holds Tryz.pinned (.plain (OpenSpec.upto chainReadsSpec)) chainReadsUptoCard

/-- THE SECOND FORM's CARD OF 'viaticumlaw24.ChainBent'. -/
def chainBentUptoCard : Claim7 := { stood := { row := chainBentUptoRow, standIns := [], harness := (true, "5307a9007335d7c83d3ec3980db5ef60e9a38f7de7da356abba6370d761985cc"), looks := true }, kinds := [], alts := [], laidByText := true, laidKinds := [.data, .data, .data, .sentinel, .sentinel], laidTests := true, laidLooks := .later }
def ChainBentUptoCardSaid : Prop := Claim7.holds Tryz.pinned (.plain (OpenSpec.upto chainBentSpec)) chainBentUptoCard

/-- THE SECOND FORM's CARD OF 'viaticumlaw24.ChainVerifies'. -/
def chainVerifiesUptoCard : Claim7 := { stood := { row := chainVerifiesUptoRow, standIns := [], harness := (true, "5307a9007335d7c83d3ec3980db5ef60e9a38f7de7da356abba6370d761985cc"), looks := true }, kinds := [], alts := [], laidByText := true, laidKinds := [.data, .data, .data, .sentinel, .sentinel], laidTests := true, laidLooks := .later }
def ChainVerifiesUptoCardSaid : Prop := Claim7.holds Tryz.pinned (.plain (OpenSpec.upto chainVerifiesSpec)) chainVerifiesUptoCard
end Rows
end Go.Proofs.YtnohmgpmmhlloaaGreatDoor
