/-
  DERIVED. GIVEN WITH THE SEED: THE CARDS: each row of YtkelegjppnfoaaaGreatDoorRows.lean that lists a variable, with what it lists TIED to the program's text (the seventh form; the later family's looks); each row that meets fmt, with fmt's text TOLD by the authors' own Lean function (tested against real Go, not proved from fmt's source: count such statements apart). THE CARD IS WHAT COUNTS. Prove the row's statement (the work); the ties are given (YtkelegjppnfoaaaGreatDoorTie.lean); close each card by the builder's one call (the guide's Derived/Test/ToyasCard.lean, 'card_holds'). Laid BY PROGRAM, IN A SANDBOX (cutbox-door.mjs). By AI agents, Wed Nov 11 2026. No macro, syntax, notation, axiom, sorry.
-/
import Derived.Test.YtkelegjppnfoaaaGreatDoorRows
import GoSem.ClaimSeven
namespace Go.Proofs.YtkelegjppnfoaaaGreatDoor
namespace Rows

/-- THE TIED CARD OF 'viaticumlaw5.SignForms'. -/
def signFormsCard : Claim7 := { stood := { row := signFormsRow, standIns := [], harness := (true, "7003d9b50d55c6d2fed4347a7bade3dcb36ecb997c3259e6f03536ea5d78e684"), looks := true }, kinds := [], alts := [], laidByText := true, laidKinds := [.data, .data, .data, .sentinel, .sentinel], laidTests := true, laidLooks := .later }
def SignFormsCardSaid : Prop := Claim7.holds Tryz.pinned (.plain (OpenSpec.ofChange signFormsSpec)) signFormsCard

/-- THE TIED CARD OF 'viaticumlaw5.SignVerifies'. -/
def signVerifiesCard : Claim7 := { stood := { row := signVerifiesRow, standIns := [], harness := (true, "7003d9b50d55c6d2fed4347a7bade3dcb36ecb997c3259e6f03536ea5d78e684"), looks := true }, kinds := [], alts := [], laidByText := true, laidKinds := [.data, .data, .data, .sentinel, .sentinel], laidTests := true, laidLooks := .later }
def SignVerifiesCardSaid : Prop := Claim7.holds Tryz.pinned (.plain (OpenSpec.ofChange signVerifiesSpec)) signVerifiesCard

/-- THE TIED CARD OF 'viaticumlaw5.SignStrict'. -/
def signStrictCard : Claim7 := { stood := { row := signStrictRow, standIns := [], harness := (true, "7003d9b50d55c6d2fed4347a7bade3dcb36ecb997c3259e6f03536ea5d78e684"), looks := true }, kinds := [], alts := [], laidByText := true, laidKinds := [.data, .data, .data, .sentinel, .sentinel], laidTests := true, laidLooks := .later }
def SignStrictCardSaid : Prop := Claim7.holds Tryz.pinned (.plain (OpenSpec.ofChange signStrictSpec)) signStrictCard

/-- THE SECOND FORM's CARD OF 'viaticumlaw5.SignForms'. -/
def signFormsUptoCard : Claim7 := { stood := { row := signFormsUptoRow, standIns := [], harness := (true, "7003d9b50d55c6d2fed4347a7bade3dcb36ecb997c3259e6f03536ea5d78e684"), looks := true }, kinds := [], alts := [], laidByText := true, laidKinds := [.data, .data, .data, .sentinel, .sentinel], laidTests := true, laidLooks := .later }
def SignFormsUptoCardSaid : Prop := Claim7.holds Tryz.pinned (.plain (OpenSpec.upto signFormsSpec)) signFormsUptoCard

/-- THE SECOND FORM's CARD OF 'viaticumlaw5.SignVerifies'. -/
def signVerifiesUptoCard : Claim7 := { stood := { row := signVerifiesUptoRow, standIns := [], harness := (true, "7003d9b50d55c6d2fed4347a7bade3dcb36ecb997c3259e6f03536ea5d78e684"), looks := true }, kinds := [], alts := [], laidByText := true, laidKinds := [.data, .data, .data, .sentinel, .sentinel], laidTests := true, laidLooks := .later }
def SignVerifiesUptoCardSaid : Prop := Claim7.holds Tryz.pinned (.plain (OpenSpec.upto signVerifiesSpec)) signVerifiesUptoCard

/-- THE SECOND FORM's CARD OF 'viaticumlaw5.SignStrict'. -/
def signStrictUptoCard : Claim7 := { stood := { row := signStrictUptoRow, standIns := [], harness := (true, "7003d9b50d55c6d2fed4347a7bade3dcb36ecb997c3259e6f03536ea5d78e684"), looks := true }, kinds := [], alts := [], laidByText := true, laidKinds := [.data, .data, .data, .sentinel, .sentinel], laidTests := true, laidLooks := .later }
def SignStrictUptoCardSaid : Prop := Claim7.holds Tryz.pinned (.plain (OpenSpec.upto signStrictSpec)) signStrictUptoCard
end Rows
end Go.Proofs.YtkelegjppnfoaaaGreatDoor
