/-
  DERIVED. GIVEN WITH THE SEED: THE CARDS: each row of YtedbfcabblhccaaDoorRows.lean that lists a variable, with what it lists TIED to the program's text (the seventh form; the later family's looks); each row that meets fmt, with fmt's text TOLD by the authors' own Lean function (tested against real Go, not proved from fmt's source: count such statements apart). THE CARD IS WHAT COUNTS. Prove the row's statement (the work); the ties are given (YtedbfcabblhccaaDoorTie.lean); close each card by the builder's one call (the guide's Derived/Test/ToyasCard.lean, 'card_holds'). Laid BY PROGRAM, IN A SANDBOX (cutbox-door.mjs). By AI agents, Wed Nov 11 2026. No macro, syntax, notation, axiom, sorry.
-/
import Derived.Test.YtedbfcabblhccaaDoorRows
import GoSem.ClaimSeven
namespace Go.Proofs.YtedbfcabblhccaaDoor
namespace Rows

/-- THE TIED CARD OF 'sealingwaxlaw08.LeavesTell'. -/
def leavesTellCard : Claim7 := { stood := { row := leavesTellRow, standIns := [], harness := (true, "da87265de9212ff6a087812e27df6a560304885cf63034d0196cd953e6f92d25"), looks := false }, kinds := [], alts := [], laidByText := true, laidKinds := [.data, .data, .data], laidTests := true, laidLooks := .later }
def LeavesTellCardSaid : Prop := Claim7.holds Tryd.pinned (.plain (OpenSpec.ofChange leavesTellSpec)) leavesTellCard

/-- THE TIED CARD OF 'sealingwaxlaw08.LeavesSha'. -/
def leavesShaCard : Claim7 := { stood := { row := leavesShaRow, standIns := [], harness := (true, "da87265de9212ff6a087812e27df6a560304885cf63034d0196cd953e6f92d25"), looks := false }, kinds := [], alts := [], laidByText := true, laidKinds := [.data, .data], laidTests := true, laidLooks := .later }
def LeavesShaCardSaid : Prop := Claim7.holds Tryd.pinned (.plain (OpenSpec.ofChange leavesShaSpec)) leavesShaCard

/-- THE SECOND FORM's CARD OF 'sealingwaxlaw08.LeavesTell'. -/
def leavesTellUptoCard : Claim7 := { stood := { row := leavesTellUptoRow, standIns := [], harness := (true, "da87265de9212ff6a087812e27df6a560304885cf63034d0196cd953e6f92d25"), looks := false }, kinds := [], alts := [], laidByText := true, laidKinds := [.data, .data, .data], laidTests := true, laidLooks := .later }
def LeavesTellUptoCardSaid : Prop := Claim7.holds Tryd.pinned (.plain (OpenSpec.upto leavesTellSpec)) leavesTellUptoCard

/-- THE SECOND FORM's CARD OF 'sealingwaxlaw08.LeavesSha'. -/
def leavesShaUptoCard : Claim7 := { stood := { row := leavesShaUptoRow, standIns := [], harness := (true, "da87265de9212ff6a087812e27df6a560304885cf63034d0196cd953e6f92d25"), looks := false }, kinds := [], alts := [], laidByText := true, laidKinds := [.data, .data], laidTests := true, laidLooks := .later }
def LeavesShaUptoCardSaid : Prop := Claim7.holds Tryd.pinned (.plain (OpenSpec.upto leavesShaSpec)) leavesShaUptoCard
end Rows
end Go.Proofs.YtedbfcabblhccaaDoor
