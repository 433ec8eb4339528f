/-
  DERIVED. GIVEN WITH THE SEED: THE CARDS: each row of YtbogjebipnmckaaDoorRows.lean that lists a variable, with what it lists TIED to the program's text (the seventh form; the later family's looks); each row that meets fmt, with fmt's text TOLD by the authors' own Lean function (tested against real Go, not proved from fmt's source: count such statements apart). THE CARD IS WHAT COUNTS. Prove the row's statement (the work); the ties are given (YtbogjebipnmckaaDoorTie.lean); close each card by the builder's one call (the guide's Derived/Test/ToyasCard.lean, 'card_holds'). Laid BY PROGRAM, IN A SANDBOX (cutbox-door.mjs). By AI agents, Wed Nov 11 2026. No macro, syntax, notation, axiom, sorry.
-/
import Derived.Test.YtbogjebipnmckaaDoorRows
import GoSem.ClaimSeven
namespace Go.Proofs.YtbogjebipnmckaaDoor
namespace Rows

/-- THE TIED CARD OF 'viaticumlaw8.DateForms'. -/
def dateFormsCard : Claim7 := { stood := { row := dateFormsRow, standIns := [], harness := (true, "728cd619d9f9e8db49ca0ee8002dc998bae1fde23659c9234e9f4a71a63c5a52"), looks := false }, kinds := [], alts := [], laidByText := true, laidKinds := [.data, .data, .data], laidTests := true, laidLooks := .later }
def DateFormsCardSaid : Prop := Claim7.holds Tryd.pinned (.plain (OpenSpec.ofChange dateFormsSpec)) dateFormsCard

/-- THE TIED CARD OF 'viaticumlaw8.DateBack'. -/
def dateBackCard : Claim7 := { stood := { row := dateBackRow, standIns := [], harness := (true, "728cd619d9f9e8db49ca0ee8002dc998bae1fde23659c9234e9f4a71a63c5a52"), looks := false }, kinds := [], alts := [], laidByText := true, laidKinds := [.data, .data, .data], laidTests := true, laidLooks := .later }
def DateBackCardSaid : Prop := Claim7.holds Tryd.pinned (.plain (OpenSpec.ofChange dateBackSpec)) dateBackCard

/-- THE TIED CARD OF 'viaticumlaw8.DateSteps'. -/
def dateStepsCard : Claim7 := { stood := { row := dateStepsRow, standIns := [], harness := (true, "728cd619d9f9e8db49ca0ee8002dc998bae1fde23659c9234e9f4a71a63c5a52"), looks := false }, kinds := [], alts := [], laidByText := true, laidKinds := [.data, .data, .data], laidTests := true, laidLooks := .later }
def DateStepsCardSaid : Prop := Claim7.holds Tryd.pinned (.plain (OpenSpec.ofChange dateStepsSpec)) dateStepsCard

/-- THE TIED CARD OF 'viaticumlaw8.DateOffsets'. -/
def dateOffsetsCard : Claim7 := { stood := { row := dateOffsetsRow, standIns := [], harness := (true, "728cd619d9f9e8db49ca0ee8002dc998bae1fde23659c9234e9f4a71a63c5a52"), looks := false }, kinds := [], alts := [], laidByText := true, laidKinds := [.data, .data, .data], laidTests := true, laidLooks := .later }
def DateOffsetsCardSaid : Prop := Claim7.holds Tryd.pinned (.plain (OpenSpec.ofChange dateOffsetsSpec)) dateOffsetsCard

/-- THE TIED CARD OF 'viaticumlaw8.DateOrder'. -/
def dateOrderCard : Claim7 := { stood := { row := dateOrderRow, standIns := [], harness := (true, "728cd619d9f9e8db49ca0ee8002dc998bae1fde23659c9234e9f4a71a63c5a52"), looks := false }, kinds := [], alts := [], laidByText := true, laidKinds := [.data, .data, .data], laidTests := true, laidLooks := .later }
def DateOrderCardSaid : Prop := Claim7.holds Tryd.pinned (.plain (OpenSpec.ofChange dateOrderSpec)) dateOrderCard

/-- THE TIED CARD OF 'viaticumlaw8.DateNone'. -/
def dateNoneCard : Claim7 := { stood := { row := dateNoneRow, standIns := [], harness := (true, "728cd619d9f9e8db49ca0ee8002dc998bae1fde23659c9234e9f4a71a63c5a52"), looks := false }, kinds := [], alts := [], laidByText := true, laidKinds := [.data, .data, .data], laidTests := true, laidLooks := .later }
def DateNoneCardSaid : Prop := Claim7.holds Tryd.pinned (.plain (OpenSpec.ofChange dateNoneSpec)) dateNoneCard

/-- THE SECOND FORM's CARD OF 'viaticumlaw8.DateForms'. -/
def dateFormsUptoCard : Claim7 := { stood := { row := dateFormsUptoRow, standIns := [], harness := (true, "728cd619d9f9e8db49ca0ee8002dc998bae1fde23659c9234e9f4a71a63c5a52"), looks := false }, kinds := [], alts := [], laidByText := true, laidKinds := [.data, .data, .data], laidTests := true, laidLooks := .later }
def DateFormsUptoCardSaid : Prop := Claim7.holds Tryd.pinned (.plain (OpenSpec.upto dateFormsSpec)) dateFormsUptoCard

/-- THE SECOND FORM's CARD OF 'viaticumlaw8.DateBack'. -/
def dateBackUptoCard : Claim7 := { stood := { row := dateBackUptoRow, standIns := [], harness := (true, "728cd619d9f9e8db49ca0ee8002dc998bae1fde23659c9234e9f4a71a63c5a52"), looks := false }, kinds := [], alts := [], laidByText := true, laidKinds := [.data, .data, .data], laidTests := true, laidLooks := .later }
def DateBackUptoCardSaid : Prop := Claim7.holds Tryd.pinned (.plain (OpenSpec.upto dateBackSpec)) dateBackUptoCard

/-- THE SECOND FORM's CARD OF 'viaticumlaw8.DateSteps'. -/
def dateStepsUptoCard : Claim7 := { stood := { row := dateStepsUptoRow, standIns := [], harness := (true, "728cd619d9f9e8db49ca0ee8002dc998bae1fde23659c9234e9f4a71a63c5a52"), looks := false }, kinds := [], alts := [], laidByText := true, laidKinds := [.data, .data, .data], laidTests := true, laidLooks := .later }
def DateStepsUptoCardSaid : Prop := Claim7.holds Tryd.pinned (.plain (OpenSpec.upto dateStepsSpec)) dateStepsUptoCard

/-- THE SECOND FORM's CARD OF 'viaticumlaw8.DateOffsets'. -/
def dateOffsetsUptoCard : Claim7 := { stood := { row := dateOffsetsUptoRow, standIns := [], harness := (true, "728cd619d9f9e8db49ca0ee8002dc998bae1fde23659c9234e9f4a71a63c5a52"), looks := false }, kinds := [], alts := [], laidByText := true, laidKinds := [.data, .data, .data], laidTests := true, laidLooks := .later }
def DateOffsetsUptoCardSaid : Prop := Claim7.holds Tryd.pinned (.plain (OpenSpec.upto dateOffsetsSpec)) dateOffsetsUptoCard

/-- THE SECOND FORM's CARD OF 'viaticumlaw8.DateOrder'. -/
def dateOrderUptoCard : Claim7 := { stood := { row := dateOrderUptoRow, standIns := [], harness := (true, "728cd619d9f9e8db49ca0ee8002dc998bae1fde23659c9234e9f4a71a63c5a52"), looks := false }, kinds := [], alts := [], laidByText := true, laidKinds := [.data, .data, .data], laidTests := true, laidLooks := .later }
def DateOrderUptoCardSaid : Prop := Claim7.holds Tryd.pinned (.plain (OpenSpec.upto dateOrderSpec)) dateOrderUptoCard

/-- THE SECOND FORM's CARD OF 'viaticumlaw8.DateNone'. -/
def dateNoneUptoCard : Claim7 := { stood := { row := dateNoneUptoRow, standIns := [], harness := (true, "728cd619d9f9e8db49ca0ee8002dc998bae1fde23659c9234e9f4a71a63c5a52"), looks := false }, kinds := [], alts := [], laidByText := true, laidKinds := [.data, .data, .data], laidTests := true, laidLooks := .later }
def DateNoneUptoCardSaid : Prop := Claim7.holds Tryd.pinned (.plain (OpenSpec.upto dateNoneSpec)) dateNoneUptoCard
end Rows
end Go.Proofs.YtbogjebipnmckaaDoor
