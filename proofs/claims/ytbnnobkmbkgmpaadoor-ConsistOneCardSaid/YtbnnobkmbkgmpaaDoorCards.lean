/-
  DERIVED. GIVEN WITH THE SEED: THE CARDS: each row of YtbnnobkmbkgmpaaDoorRows.lean that lists a variable, with what it lists TIED to the program's text (the seventh form; the later family's looks); each row that meets fmt, with fmt's text TOLD by the authors' own Lean function (tested against real Go, not proved from fmt's source: count such statements apart). THE CARD IS WHAT COUNTS. Prove the row's statement (the work); the ties are given (YtbnnobkmbkgmpaaDoorTie.lean); close each card by the builder's one call (the guide's Derived/Test/ToyasCard.lean, 'card_holds'). Laid BY PROGRAM, IN A SANDBOX (cutbox-door.mjs). By AI agents, Wed Nov 11 2026. No macro, syntax, notation, axiom, sorry.
-/
import Derived.Test.YtbnnobkmbkgmpaaDoorRows
import GoSem.ClaimSeven
namespace Go.Proofs.YtbnnobkmbkgmpaaDoor
namespace Rows

/-- THE TIED CARD OF 'sealingwaxlaw12.ConsistProve'. -/
def consistProveCard : Claim7 := { stood := { row := consistProveRow, standIns := [], harness := (true, "81b68a09b8db274a48f91d71509fa7594ced9fd7b7f1c7d305c7f697779bc66c"), looks := false }, kinds := [], alts := [], laidByText := true, laidKinds := [.data, .data, .data], laidTests := true, laidLooks := .later }
def ConsistProveCardSaid : Prop := Claim7.holds Tryd.pinned (.plain (OpenSpec.ofChange consistProveSpec)) consistProveCard

/-- THE TIED CARD OF 'sealingwaxlaw12.ConsistCheck'. -/
def consistCheckCard : Claim7 := { stood := { row := consistCheckRow, standIns := [], harness := (true, "81b68a09b8db274a48f91d71509fa7594ced9fd7b7f1c7d305c7f697779bc66c"), looks := false }, kinds := [], alts := [], laidByText := true, laidKinds := [.data, .data, .data], laidTests := true, laidLooks := .later }
def ConsistCheckCardSaid : Prop := Claim7.holds Tryd.pinned (.plain (OpenSpec.ofChange consistCheckSpec)) consistCheckCard

/-- THE TIED CARD OF 'sealingwaxlaw12.ConsistAll'. -/
def consistAllCard : Claim7 := { stood := { row := consistAllRow, standIns := [], harness := (true, "81b68a09b8db274a48f91d71509fa7594ced9fd7b7f1c7d305c7f697779bc66c"), looks := false }, kinds := [], alts := [], laidByText := true, laidKinds := [.data, .data], laidTests := true, laidLooks := .later }
def ConsistAllCardSaid : Prop := Claim7.holds Tryd.pinned (.plain (OpenSpec.ofChange consistAllSpec)) consistAllCard

/-- THE TIED CARD OF 'sealingwaxlaw12.ConsistRoots'. -/
def consistRootsCard : Claim7 := { stood := { row := consistRootsRow, standIns := [], harness := (true, "81b68a09b8db274a48f91d71509fa7594ced9fd7b7f1c7d305c7f697779bc66c"), looks := false }, kinds := [], alts := [], laidByText := true, laidKinds := [.data, .data], laidTests := true, laidLooks := .later }
def ConsistRootsCardSaid : Prop := Claim7.holds Tryd.pinned (.plain (OpenSpec.ofChange consistRootsSpec)) consistRootsCard

/-- THE TIED CARD OF 'sealingwaxlaw12.ConsistOn'. -/
def consistOnCard : Claim7 := { stood := { row := consistOnRow, standIns := [], harness := (true, "81b68a09b8db274a48f91d71509fa7594ced9fd7b7f1c7d305c7f697779bc66c"), looks := false }, kinds := [], alts := [], laidByText := true, laidKinds := [.data, .data], laidTests := true, laidLooks := .later }
def ConsistOnCardSaid : Prop := Claim7.holds Tryd.pinned (.plain (OpenSpec.ofChange consistOnSpec)) consistOnCard

/-- THE TIED CARD OF 'sealingwaxlaw12.ConsistHalf'. -/
def consistHalfCard : Claim7 := { stood := { row := consistHalfRow, standIns := [], harness := (true, "81b68a09b8db274a48f91d71509fa7594ced9fd7b7f1c7d305c7f697779bc66c"), looks := false }, kinds := [], alts := [], laidByText := true, laidKinds := [.data, .data], laidTests := true, laidLooks := .later }
def ConsistHalfCardSaid : Prop := Claim7.holds Tryd.pinned (.plain (OpenSpec.ofChange consistHalfSpec)) consistHalfCard

/-- THE TIED CARD OF 'sealingwaxlaw12.ConsistOne'. -/
def consistOneCard : Claim7 := { stood := { row := consistOneRow, standIns := [], harness := (true, "81b68a09b8db274a48f91d71509fa7594ced9fd7b7f1c7d305c7f697779bc66c"), looks := false }, kinds := [], alts := [], laidByText := true, laidKinds := [.data, .data], laidTests := true, laidLooks := .later }
def ConsistOneCardSaid : Prop := Claim7.holds Tryd.pinned (.plain (OpenSpec.ofChange consistOneSpec)) consistOneCard

/-- THE SECOND FORM's CARD OF 'sealingwaxlaw12.ConsistProve'. -/
def consistProveUptoCard : Claim7 := { stood := { row := consistProveUptoRow, standIns := [], harness := (true, "81b68a09b8db274a48f91d71509fa7594ced9fd7b7f1c7d305c7f697779bc66c"), looks := false }, kinds := [], alts := [], laidByText := true, laidKinds := [.data, .data, .data], laidTests := true, laidLooks := .later }
def ConsistProveUptoCardSaid : Prop := Claim7.holds Tryd.pinned (.plain (OpenSpec.upto consistProveSpec)) consistProveUptoCard

/-- THE SECOND FORM's CARD OF 'sealingwaxlaw12.ConsistCheck'. -/
def consistCheckUptoCard : Claim7 := { stood := { row := consistCheckUptoRow, standIns := [], harness := (true, "81b68a09b8db274a48f91d71509fa7594ced9fd7b7f1c7d305c7f697779bc66c"), looks := false }, kinds := [], alts := [], laidByText := true, laidKinds := [.data, .data, .data], laidTests := true, laidLooks := .later }
def ConsistCheckUptoCardSaid : Prop := Claim7.holds Tryd.pinned (.plain (OpenSpec.upto consistCheckSpec)) consistCheckUptoCard

/-- THE SECOND FORM's CARD OF 'sealingwaxlaw12.ConsistAll'. -/
def consistAllUptoCard : Claim7 := { stood := { row := consistAllUptoRow, standIns := [], harness := (true, "81b68a09b8db274a48f91d71509fa7594ced9fd7b7f1c7d305c7f697779bc66c"), looks := false }, kinds := [], alts := [], laidByText := true, laidKinds := [.data, .data], laidTests := true, laidLooks := .later }
def ConsistAllUptoCardSaid : Prop := Claim7.holds Tryd.pinned (.plain (OpenSpec.upto consistAllSpec)) consistAllUptoCard

/-- THE SECOND FORM's CARD OF 'sealingwaxlaw12.ConsistRoots'. -/
def consistRootsUptoCard : Claim7 := { stood := { row := consistRootsUptoRow, standIns := [], harness := (true, "81b68a09b8db274a48f91d71509fa7594ced9fd7b7f1c7d305c7f697779bc66c"), looks := false }, kinds := [], alts := [], laidByText := true, laidKinds := [.data, .data], laidTests := true, laidLooks := .later }
def ConsistRootsUptoCardSaid : Prop := Claim7.holds Tryd.pinned (.plain (OpenSpec.upto consistRootsSpec)) consistRootsUptoCard

/-- THE SECOND FORM's CARD OF 'sealingwaxlaw12.ConsistOn'. -/
def consistOnUptoCard : Claim7 := { stood := { row := consistOnUptoRow, standIns := [], harness := (true, "81b68a09b8db274a48f91d71509fa7594ced9fd7b7f1c7d305c7f697779bc66c"), looks := false }, kinds := [], alts := [], laidByText := true, laidKinds := [.data, .data], laidTests := true, laidLooks := .later }
def ConsistOnUptoCardSaid : Prop := Claim7.holds Tryd.pinned (.plain (OpenSpec.upto consistOnSpec)) consistOnUptoCard

/-- THE SECOND FORM's CARD OF 'sealingwaxlaw12.ConsistHalf'. -/
def consistHalfUptoCard : Claim7 := { stood := { row := consistHalfUptoRow, standIns := [], harness := (true, "81b68a09b8db274a48f91d71509fa7594ced9fd7b7f1c7d305c7f697779bc66c"), looks := false }, kinds := [], alts := [], laidByText := true, laidKinds := [.data, .data], laidTests := true, laidLooks := .later }
def ConsistHalfUptoCardSaid : Prop := Claim7.holds Tryd.pinned (.plain (OpenSpec.upto consistHalfSpec)) consistHalfUptoCard

/-- THE SECOND FORM's CARD OF 'sealingwaxlaw12.ConsistOne'. -/
def consistOneUptoCard : Claim7 := { stood := { row := consistOneUptoRow, standIns := [], harness := (true, "81b68a09b8db274a48f91d71509fa7594ced9fd7b7f1c7d305c7f697779bc66c"), looks := false }, kinds := [], alts := [], laidByText := true, laidKinds := [.data, .data], laidTests := true, laidLooks := .later }
def ConsistOneUptoCardSaid : Prop := Claim7.holds Tryd.pinned (.plain (OpenSpec.upto consistOneSpec)) consistOneUptoCard
end Rows
end Go.Proofs.YtbnnobkmbkgmpaaDoor
