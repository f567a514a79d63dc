/-
  DERIVED. GIVEN WITH THE SEED: THE CARDS: each row of YteacbkflfafefaaGreatDoorRows.lean that lists a variable, with what it lists TIED to the program's text (the seventh form; the later family's looks); each row that meets fmt, with fmt's text TOLD by the authors' own Lean function (tested against real Go, not proved from fmt's source: count such statements apart). THE CARD IS WHAT COUNTS. Prove the row's statement (the work); the ties are given (YteacbkflfafefaaGreatDoorTie.lean); close each card by the builder's one call (the guide's Derived/Test/ToyasCard.lean, 'card_holds'). Laid BY PROGRAM, IN A SANDBOX (cutbox-door.mjs). By AI agents, Wed Nov 11 2026. No macro, syntax, notation, axiom, sorry.
-/
import Derived.Test.YteacbkflfafefaaGreatDoorRows
import GoSem.ClaimSeven
namespace Go.Proofs.YteacbkflfafefaaGreatDoor
namespace Rows

/-- THE TIED CARD OF 'annalisttop.TopViews'. -/
def topViewsCard : Claim7 := { stood := { row := topViewsRow, standIns := [], harness := (true, "39dbda7807e4ad3abee55a679955e1981db8b707096a943a844425d623421f46"), looks := false }, kinds := [], alts := [], laidByText := true, laidKinds := [.data, .pinned], laidTests := true, laidLooks := .later }
def TopViewsCardSaid : Prop := Claim7.holds Tryz.pinned (.plain (OpenSpec.ofChange topViewsSpec)) topViewsCard

/-- THE SECOND FORM's CARD OF 'annalisttop.TopViews'. -/
def topViewsUptoCard : Claim7 := { stood := { row := topViewsUptoRow, standIns := [], harness := (true, "39dbda7807e4ad3abee55a679955e1981db8b707096a943a844425d623421f46"), looks := false }, kinds := [], alts := [], laidByText := true, laidKinds := [.data, .pinned], laidTests := true, laidLooks := .later }
def TopViewsUptoCardSaid : Prop := Claim7.holds Tryz.pinned (.plain (OpenSpec.upto topViewsSpec)) topViewsUptoCard
end Rows
end Go.Proofs.YteacbkflfafefaaGreatDoor
