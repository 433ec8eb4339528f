/-
  DERIVED. GIVEN WITH THE SEED: THE CARDS: each row of YtkelegjppnfoaaaDoorRows.lean that lists a variable, with what it lists TIED to the program's text (the seventh form; the later family's looks); each row that meets fmt, with fmt's text TOLD by the authors' own Lean function (tested against real Go, not proved from fmt's source: count such statements apart). THE CARD IS WHAT COUNTS. Prove the row's statement (the work); the ties are given (YtkelegjppnfoaaaDoorTie.lean); close each card by the builder's one call (the guide's Derived/Test/ToyasCard.lean, 'card_holds'). Laid BY PROGRAM, IN A SANDBOX (cutbox-door.mjs). By AI agents, Wed Nov 11 2026. No macro, syntax, notation, axiom, sorry.
-/
import Derived.Test.YtkelegjppnfoaaaDoorRows
import GoSem.ClaimSeven
namespace Go.Proofs.YtkelegjppnfoaaaDoor
namespace Rows

/-- THE TIED CARD OF 'viaticumlaw5.SignSame'. -/
def signSameCard : Claim7 := { stood := { row := signSameRow, standIns := [], harness := (true, "4b076d0d7ce315a0586ad79c6325206cf43d3d69a9373ae6ca14387e75c1f393"), looks := true }, kinds := [], alts := [], laidByText := true, laidKinds := [.data, .data, .data, .sentinel, .sentinel], laidTests := true, laidLooks := .later }
def SignSameCardSaid : Prop := Claim7.holds Tryd.pinned (.plain (OpenSpec.ofChange signSameSpec)) signSameCard

/-- THE TIED CARD OF 'viaticumlaw5.SignRight'. -/
def signRightCard : Claim7 := { stood := { row := signRightRow, standIns := [], harness := (true, "4b076d0d7ce315a0586ad79c6325206cf43d3d69a9373ae6ca14387e75c1f393"), looks := true }, kinds := [], alts := [], laidByText := true, laidKinds := [.data, .data, .data, .sentinel, .sentinel], laidTests := true, laidLooks := .later }
def SignRightCardSaid : Prop := Claim7.holds Tryd.pinned (.plain (OpenSpec.ofChange signRightSpec)) signRightCard

/-- THE SECOND FORM's CARD OF 'viaticumlaw5.SignSame'. -/
def signSameUptoCard : Claim7 := { stood := { row := signSameUptoRow, standIns := [], harness := (true, "4b076d0d7ce315a0586ad79c6325206cf43d3d69a9373ae6ca14387e75c1f393"), looks := true }, kinds := [], alts := [], laidByText := true, laidKinds := [.data, .data, .data, .sentinel, .sentinel], laidTests := true, laidLooks := .later }
def SignSameUptoCardSaid : Prop := Claim7.holds Tryd.pinned (.plain (OpenSpec.upto signSameSpec)) signSameUptoCard

/-- THE SECOND FORM's CARD OF 'viaticumlaw5.SignRight'. -/
def signRightUptoCard : Claim7 := { stood := { row := signRightUptoRow, standIns := [], harness := (true, "4b076d0d7ce315a0586ad79c6325206cf43d3d69a9373ae6ca14387e75c1f393"), looks := true }, kinds := [], alts := [], laidByText := true, laidKinds := [.data, .data, .data, .sentinel, .sentinel], laidTests := true, laidLooks := .later }
def SignRightUptoCardSaid : Prop := Claim7.holds Tryd.pinned (.plain (OpenSpec.upto signRightSpec)) signRightUptoCard
end Rows
end Go.Proofs.YtkelegjppnfoaaaDoor
