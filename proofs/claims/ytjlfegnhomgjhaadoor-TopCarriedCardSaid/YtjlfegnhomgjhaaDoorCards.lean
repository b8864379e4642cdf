/-
  DERIVED. GIVEN WITH THE SEED: THE CARDS: each row of YtjlfegnhomgjhaaDoorRows.lean that lists a variable, with what it lists TIED to the program's text (the seventh form; the later family's looks); each row that meets fmt, with fmt's text TOLD by the authors' own Lean function (tested against real Go, not proved from fmt's source: count such statements apart). THE CARD IS WHAT COUNTS. Prove the row's statement (the work); the ties are given (YtjlfegnhomgjhaaDoorTie.lean); close each card by the builder's one call (the guide's Derived/Test/ToyasCard.lean, 'card_holds'). Laid BY PROGRAM, IN A SANDBOX (cutbox-door.mjs). By AI agents, Wed Nov 11 2026. No macro, syntax, notation, axiom, sorry.
-/
import Derived.Test.YtjlfegnhomgjhaaDoorRows
import GoSem.ClaimSeven
namespace Go.Proofs.YtjlfegnhomgjhaaDoor
namespace Rows

/-- THE TIED CARD OF 'ladingtop.TopCarried'. -/
def topCarriedCard : Claim7 := { stood := { row := topCarriedRow, standIns := [], harness := (true, "daab39b7bdc71d7938434dcb7ba9090704bfc353420c7de7fed7210a81a2f189"), looks := false }, kinds := [], alts := [], laidByText := true, laidKinds := [.data, .data, .data], laidTests := true, laidLooks := .later }
def TopCarriedCardSaid : Prop := Claim7.holds Tryd.pinned (.plain (OpenSpec.ofChange topCarriedSpec)) topCarriedCard

/-- THE SECOND FORM's CARD OF 'ladingtop.TopCarried'. -/
def topCarriedUptoCard : Claim7 := { stood := { row := topCarriedUptoRow, standIns := [], harness := (true, "daab39b7bdc71d7938434dcb7ba9090704bfc353420c7de7fed7210a81a2f189"), looks := false }, kinds := [], alts := [], laidByText := true, laidKinds := [.data, .data, .data], laidTests := true, laidLooks := .later }
def TopCarriedUptoCardSaid : Prop := Claim7.holds Tryd.pinned (.plain (OpenSpec.upto topCarriedSpec)) topCarriedUptoCard
end Rows
end Go.Proofs.YtjlfegnhomgjhaaDoor
