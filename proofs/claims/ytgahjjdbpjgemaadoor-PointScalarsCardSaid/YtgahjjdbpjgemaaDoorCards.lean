/-
  DERIVED. GIVEN WITH THE SEED: THE CARDS: each row of YtgahjjdbpjgemaaDoorRows.lean that lists a variable, with what it lists TIED to the program's text (the seventh form; the later family's looks); each row that meets fmt, with fmt's text TOLD by the authors' own Lean function (tested against real Go, not proved from fmt's source: count such statements apart). THE CARD IS WHAT COUNTS. Prove the row's statement (the work); the ties are given (YtgahjjdbpjgemaaDoorTie.lean); close each card by the builder's one call (the guide's Derived/Test/ToyasCard.lean, 'card_holds'). Laid BY PROGRAM, IN A SANDBOX (cutbox-door.mjs). By AI agents, Wed Nov 11 2026. No macro, syntax, notation, axiom, sorry.
-/
import Derived.Test.YtgahjjdbpjgemaaDoorRows
import GoSem.ClaimSeven
namespace Go.Proofs.YtgahjjdbpjgemaaDoor
namespace Rows

/-- THE TIED CARD OF 'viaticumlaw4.PointForms'. -/
def pointFormsCard : Claim7 := { stood := { row := pointFormsRow, standIns := [], harness := (true, "c9b40510c079d1e14051804e9f3aa55b2e8148c7fdf3450800e1e5f47c4ae7be"), looks := true }, kinds := [], alts := [], laidByText := true, laidKinds := [.data, .data, .data, .sentinel, .sentinel], laidTests := true, laidLooks := .later }
def PointFormsCardSaid : Prop := Claim7.holds Tryd.pinned (.plain (OpenSpec.ofChange pointFormsSpec)) pointFormsCard

/-- THE TIED CARD OF 'viaticumlaw4.PointGroup'. -/
def pointGroupCard : Claim7 := { stood := { row := pointGroupRow, standIns := [], harness := (true, "c9b40510c079d1e14051804e9f3aa55b2e8148c7fdf3450800e1e5f47c4ae7be"), looks := true }, kinds := [], alts := [], laidByText := true, laidKinds := [.data, .data, .data, .sentinel, .sentinel], laidTests := true, laidLooks := .later }
def PointGroupCardSaid : Prop := Claim7.holds Tryd.pinned (.plain (OpenSpec.ofChange pointGroupSpec)) pointGroupCard

/-- THE TIED CARD OF 'viaticumlaw4.PointReads'. -/
def pointReadsCard : Claim7 := { stood := { row := pointReadsRow, standIns := [], harness := (true, "c9b40510c079d1e14051804e9f3aa55b2e8148c7fdf3450800e1e5f47c4ae7be"), looks := true }, kinds := [], alts := [], laidByText := true, laidKinds := [.data, .data, .data, .sentinel, .sentinel], laidTests := true, laidLooks := .later }
def PointReadsCardSaid : Prop := Claim7.holds Tryd.pinned (.plain (OpenSpec.ofChange pointReadsSpec)) pointReadsCard

/-- THE TIED CARD OF 'viaticumlaw4.PointScalars'. -/
def pointScalarsCard : Claim7 := { stood := { row := pointScalarsRow, standIns := [], harness := (true, "c9b40510c079d1e14051804e9f3aa55b2e8148c7fdf3450800e1e5f47c4ae7be"), looks := true }, kinds := [], alts := [], laidByText := true, laidKinds := [.data, .data, .data, .sentinel, .sentinel], laidTests := true, laidLooks := .later }
def PointScalarsCardSaid : Prop := Claim7.holds Tryd.pinned (.plain (OpenSpec.ofChange pointScalarsSpec)) pointScalarsCard

/-- THE TIED CARD OF 'viaticumlaw4.PointBytes'. -/
def pointBytesCard : Claim7 := { stood := { row := pointBytesRow, standIns := [], harness := (true, "c9b40510c079d1e14051804e9f3aa55b2e8148c7fdf3450800e1e5f47c4ae7be"), looks := true }, kinds := [], alts := [], laidByText := true, laidKinds := [.data, .data, .data, .sentinel, .sentinel], laidTests := true, laidLooks := .later }
def PointBytesCardSaid : Prop := Claim7.holds Tryd.pinned (.plain (OpenSpec.ofChange pointBytesSpec)) pointBytesCard

/-- THE TIED CARD OF 'viaticumlaw4.PointSmall'. -/
def pointSmallCard : Claim7 := { stood := { row := pointSmallRow, standIns := [], harness := (true, "c9b40510c079d1e14051804e9f3aa55b2e8148c7fdf3450800e1e5f47c4ae7be"), looks := true }, kinds := [], alts := [], laidByText := true, laidKinds := [.data, .data, .data, .sentinel, .sentinel], laidTests := true, laidLooks := .later }
def PointSmallCardSaid : Prop := Claim7.holds Tryd.pinned (.plain (OpenSpec.ofChange pointSmallSpec)) pointSmallCard

/-- THE SECOND FORM's CARD OF 'viaticumlaw4.PointForms'. -/
def pointFormsUptoCard : Claim7 := { stood := { row := pointFormsUptoRow, standIns := [], harness := (true, "c9b40510c079d1e14051804e9f3aa55b2e8148c7fdf3450800e1e5f47c4ae7be"), looks := true }, kinds := [], alts := [], laidByText := true, laidKinds := [.data, .data, .data, .sentinel, .sentinel], laidTests := true, laidLooks := .later }
def PointFormsUptoCardSaid : Prop := Claim7.holds Tryd.pinned (.plain (OpenSpec.upto pointFormsSpec)) pointFormsUptoCard

/-- THE SECOND FORM's CARD OF 'viaticumlaw4.PointGroup'. -/
def pointGroupUptoCard : Claim7 := { stood := { row := pointGroupUptoRow, standIns := [], harness := (true, "c9b40510c079d1e14051804e9f3aa55b2e8148c7fdf3450800e1e5f47c4ae7be"), looks := true }, kinds := [], alts := [], laidByText := true, laidKinds := [.data, .data, .data, .sentinel, .sentinel], laidTests := true, laidLooks := .later }
def PointGroupUptoCardSaid : Prop := Claim7.holds Tryd.pinned (.plain (OpenSpec.upto pointGroupSpec)) pointGroupUptoCard

/-- THE SECOND FORM's CARD OF 'viaticumlaw4.PointReads'. -/
def pointReadsUptoCard : Claim7 := { stood := { row := pointReadsUptoRow, standIns := [], harness := (true, "c9b40510c079d1e14051804e9f3aa55b2e8148c7fdf3450800e1e5f47c4ae7be"), looks := true }, kinds := [], alts := [], laidByText := true, laidKinds := [.data, .data, .data, .sentinel, .sentinel], laidTests := true, laidLooks := .later }
def PointReadsUptoCardSaid : Prop := Claim7.holds Tryd.pinned (.plain (OpenSpec.upto pointReadsSpec)) pointReadsUptoCard

/-- THE SECOND FORM's CARD OF 'viaticumlaw4.PointScalars'. -/
def pointScalarsUptoCard : Claim7 := { stood := { row := pointScalarsUptoRow, standIns := [], harness := (true, "c9b40510c079d1e14051804e9f3aa55b2e8148c7fdf3450800e1e5f47c4ae7be"), looks := true }, kinds := [], alts := [], laidByText := true, laidKinds := [.data, .data, .data, .sentinel, .sentinel], laidTests := true, laidLooks := .later }
def PointScalarsUptoCardSaid : Prop := Claim7.holds Tryd.pinned (.plain (OpenSpec.upto pointScalarsSpec)) pointScalarsUptoCard

/-- THE SECOND FORM's CARD OF 'viaticumlaw4.PointBytes'. -/
def pointBytesUptoCard : Claim7 := { stood := { row := pointBytesUptoRow, standIns := [], harness := (true, "c9b40510c079d1e14051804e9f3aa55b2e8148c7fdf3450800e1e5f47c4ae7be"), looks := true }, kinds := [], alts := [], laidByText := true, laidKinds := [.data, .data, .data, .sentinel, .sentinel], laidTests := true, laidLooks := .later }
def PointBytesUptoCardSaid : Prop := Claim7.holds Tryd.pinned (.plain (OpenSpec.upto pointBytesSpec)) pointBytesUptoCard

/-- THE SECOND FORM's CARD OF 'viaticumlaw4.PointSmall'. -/
def pointSmallUptoCard : Claim7 := { stood := { row := pointSmallUptoRow, standIns := [], harness := (true, "c9b40510c079d1e14051804e9f3aa55b2e8148c7fdf3450800e1e5f47c4ae7be"), looks := true }, kinds := [], alts := [], laidByText := true, laidKinds := [.data, .data, .data, .sentinel, .sentinel], laidTests := true, laidLooks := .later }
def PointSmallUptoCardSaid : Prop := Claim7.holds Tryd.pinned (.plain (OpenSpec.upto pointSmallSpec)) pointSmallUptoCard
end Rows
end Go.Proofs.YtgahjjdbpjgemaaDoor
