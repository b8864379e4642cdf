/-
  DERIVED. GIVEN WITH THE SEED: THE CARDS: each row of YtealcoghiaeiiaaGreatDoorRows.lean that lists a variable, with what it lists TIED to the program's text (the seventh form; the later family's looks); each row that meets fmt, with fmt's text TOLD by the authors' own Lean function (tested against real Go, not proved from fmt's source: count such statements apart). THE CARD IS WHAT COUNTS. Prove the row's statement (the work); the ties are given (YtealcoghiaeiiaaGreatDoorTie.lean); close each card by the builder's one call (the guide's Derived/Test/ToyasCard.lean, 'card_holds'). Laid BY PROGRAM, IN A SANDBOX (cutbox-door.mjs). By AI agents, Wed Nov 11 2026. No macro, syntax, notation, axiom, sorry.
-/
import Derived.Test.YtealcoghiaeiiaaGreatDoorRows
import GoSem.ClaimSeven
namespace Go.Proofs.YtealcoghiaeiiaaGreatDoor
namespace Rows

/-- THE TIED CARD OF 'ladingtop.TopTimes'. -/
def topTimesCard : Claim7 := { stood := { row := topTimesRow, standIns := [], harness := (true, "49fc9f42896224e4287f477ab7f72a03334ec039dbca9a48492e3816d8a17c5c"), looks := false }, kinds := [], alts := [], laidByText := true, laidKinds := [.data, .data, .data], laidTests := true, laidLooks := .later }
def TopTimesCardSaid : Prop := Claim7.holds Tryz.pinned (.plain (OpenSpec.ofChange topTimesSpec)) topTimesCard

/-- THE SECOND FORM's CARD OF 'ladingtop.TopTimes'. -/
def topTimesUptoCard : Claim7 := { stood := { row := topTimesUptoRow, standIns := [], harness := (true, "49fc9f42896224e4287f477ab7f72a03334ec039dbca9a48492e3816d8a17c5c"), looks := false }, kinds := [], alts := [], laidByText := true, laidKinds := [.data, .data, .data], laidTests := true, laidLooks := .later }
def TopTimesUptoCardSaid : Prop := Claim7.holds Tryz.pinned (.plain (OpenSpec.upto topTimesSpec)) topTimesUptoCard
end Rows
end Go.Proofs.YtealcoghiaeiiaaGreatDoor
