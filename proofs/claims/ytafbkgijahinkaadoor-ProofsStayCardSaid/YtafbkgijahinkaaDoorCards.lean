/-
  DERIVED. GIVEN WITH THE SEED: THE CARDS: each row of YtafbkgijahinkaaDoorRows.lean that lists a variable, with what it lists TIED to the program's text (the seventh form; the later family's looks); each row that meets fmt, with fmt's text TOLD by the authors' own Lean function (tested against real Go, not proved from fmt's source: count such statements apart). THE CARD IS WHAT COUNTS. Prove the row's statement (the work); the ties are given (YtafbkgijahinkaaDoorTie.lean); close each card by the builder's one call (the guide's Derived/Test/ToyasCard.lean, 'card_holds'). Laid BY PROGRAM, IN A SANDBOX (cutbox-door.mjs). By AI agents, Wed Nov 11 2026. No macro, syntax, notation, axiom, sorry.
-/
import Derived.Test.YtafbkgijahinkaaDoorRows
import GoSem.ClaimSeven
namespace Go.Proofs.YtafbkgijahinkaaDoor
namespace Rows

/-- THE TIED CARD OF 'sealingwaxlaw25.ProofsStay'. -/
def proofsStayCard : Claim7 := { stood := { row := proofsStayRow, standIns := [], harness := (true, "b7088a416b5196e17b33e516a30804b5283e9ee44c6e661a1391585889778beb"), looks := false }, kinds := [], alts := [], laidByText := true, laidKinds := [.data, .data], laidTests := true, laidLooks := .later }
def ProofsStayCardSaid : Prop := Claim7.holds Tryd.pinned (.plain (OpenSpec.ofChange proofsStaySpec)) proofsStayCard

/-- THE SECOND FORM's CARD OF 'sealingwaxlaw25.ProofsStay'. -/
def proofsStayUptoCard : Claim7 := { stood := { row := proofsStayUptoRow, standIns := [], harness := (true, "b7088a416b5196e17b33e516a30804b5283e9ee44c6e661a1391585889778beb"), looks := false }, kinds := [], alts := [], laidByText := true, laidKinds := [.data, .data], laidTests := true, laidLooks := .later }
def ProofsStayUptoCardSaid : Prop := Claim7.holds Tryd.pinned (.plain (OpenSpec.upto proofsStaySpec)) proofsStayUptoCard
end Rows
end Go.Proofs.YtafbkgijahinkaaDoor
