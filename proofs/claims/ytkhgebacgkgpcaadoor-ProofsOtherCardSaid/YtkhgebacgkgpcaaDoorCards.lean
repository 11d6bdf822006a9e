/-
  DERIVED. GIVEN WITH THE SEED: THE CARDS: each row of YtkhgebacgkgpcaaDoorRows.lean that lists a variable, with what it lists TIED to the program's text (the seventh form; the later family's looks); each row that meets fmt, with fmt's text TOLD by the authors' own Lean function (tested against real Go, not proved from fmt's source: count such statements apart). THE CARD IS WHAT COUNTS. Prove the row's statement (the work); the ties are given (YtkhgebacgkgpcaaDoorTie.lean); close each card by the builder's one call (the guide's Derived/Test/ToyasCard.lean, 'card_holds'). Laid BY PROGRAM, IN A SANDBOX (cutbox-door.mjs). By AI agents, Wed Nov 11 2026. No macro, syntax, notation, axiom, sorry.
-/
import Derived.Test.YtkhgebacgkgpcaaDoorRows
import GoSem.ClaimSeven
namespace Go.Proofs.YtkhgebacgkgpcaaDoor
namespace Rows

/-- THE TIED CARD OF 'sealingwaxlaw25.ProofsTell'. -/
def proofsTellCard : Claim7 := { stood := { row := proofsTellRow, standIns := [], harness := (true, "548b8a26b3fd51b05a019323046a1eb0200a96504710894350519611130f14e3"), looks := false }, kinds := [], alts := [], laidByText := true, laidKinds := [.data, .data, .data], laidTests := true, laidLooks := .later }
def ProofsTellCardSaid : Prop := Claim7.holds Tryd.pinned (.plain (OpenSpec.ofChange proofsTellSpec)) proofsTellCard

/-- THE TIED CARD OF 'sealingwaxlaw25.ProofsEnds'. -/
def proofsEndsCard : Claim7 := { stood := { row := proofsEndsRow, standIns := [], harness := (true, "548b8a26b3fd51b05a019323046a1eb0200a96504710894350519611130f14e3"), looks := false }, kinds := [], alts := [], laidByText := true, laidKinds := [.data, .data], laidTests := true, laidLooks := .later }
def ProofsEndsCardSaid : Prop := Claim7.holds Tryd.pinned (.plain (OpenSpec.ofChange proofsEndsSpec)) proofsEndsCard

/-- THE TIED CARD OF 'sealingwaxlaw25.ProofsCheck'. -/
def proofsCheckCard : Claim7 := { stood := { row := proofsCheckRow, standIns := [], harness := (true, "548b8a26b3fd51b05a019323046a1eb0200a96504710894350519611130f14e3"), looks := false }, kinds := [], alts := [], laidByText := true, laidKinds := [.data, .data], laidTests := true, laidLooks := .later }
def ProofsCheckCardSaid : Prop := Claim7.holds Tryd.pinned (.plain (OpenSpec.ofChange proofsCheckSpec)) proofsCheckCard

/-- THE TIED CARD OF 'sealingwaxlaw25.ProofsOther'. -/
def proofsOtherCard : Claim7 := { stood := { row := proofsOtherRow, standIns := [], harness := (true, "548b8a26b3fd51b05a019323046a1eb0200a96504710894350519611130f14e3"), looks := false }, kinds := [], alts := [], laidByText := true, laidKinds := [.data, .data], laidTests := true, laidLooks := .later }
def ProofsOtherCardSaid : Prop := Claim7.holds Tryd.pinned (.plain (OpenSpec.ofChange proofsOtherSpec)) proofsOtherCard

/-- THE SECOND FORM's CARD OF 'sealingwaxlaw25.ProofsTell'. -/
def proofsTellUptoCard : Claim7 := { stood := { row := proofsTellUptoRow, standIns := [], harness := (true, "548b8a26b3fd51b05a019323046a1eb0200a96504710894350519611130f14e3"), looks := false }, kinds := [], alts := [], laidByText := true, laidKinds := [.data, .data, .data], laidTests := true, laidLooks := .later }
def ProofsTellUptoCardSaid : Prop := Claim7.holds Tryd.pinned (.plain (OpenSpec.upto proofsTellSpec)) proofsTellUptoCard

/-- THE SECOND FORM's CARD OF 'sealingwaxlaw25.ProofsEnds'. -/
def proofsEndsUptoCard : Claim7 := { stood := { row := proofsEndsUptoRow, standIns := [], harness := (true, "548b8a26b3fd51b05a019323046a1eb0200a96504710894350519611130f14e3"), looks := false }, kinds := [], alts := [], laidByText := true, laidKinds := [.data, .data], laidTests := true, laidLooks := .later }
def ProofsEndsUptoCardSaid : Prop := Claim7.holds Tryd.pinned (.plain (OpenSpec.upto proofsEndsSpec)) proofsEndsUptoCard

/-- THE SECOND FORM's CARD OF 'sealingwaxlaw25.ProofsCheck'. -/
def proofsCheckUptoCard : Claim7 := { stood := { row := proofsCheckUptoRow, standIns := [], harness := (true, "548b8a26b3fd51b05a019323046a1eb0200a96504710894350519611130f14e3"), looks := false }, kinds := [], alts := [], laidByText := true, laidKinds := [.data, .data], laidTests := true, laidLooks := .later }
def ProofsCheckUptoCardSaid : Prop := Claim7.holds Tryd.pinned (.plain (OpenSpec.upto proofsCheckSpec)) proofsCheckUptoCard

/-- THE SECOND FORM's CARD OF 'sealingwaxlaw25.ProofsOther'. -/
def proofsOtherUptoCard : Claim7 := { stood := { row := proofsOtherUptoRow, standIns := [], harness := (true, "548b8a26b3fd51b05a019323046a1eb0200a96504710894350519611130f14e3"), looks := false }, kinds := [], alts := [], laidByText := true, laidKinds := [.data, .data], laidTests := true, laidLooks := .later }
def ProofsOtherUptoCardSaid : Prop := Claim7.holds Tryd.pinned (.plain (OpenSpec.upto proofsOtherSpec)) proofsOtherUptoCard
end Rows
end Go.Proofs.YtkhgebacgkgpcaaDoor
