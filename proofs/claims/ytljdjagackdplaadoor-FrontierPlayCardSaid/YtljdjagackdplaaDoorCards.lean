/-
  DERIVED. GIVEN WITH THE SEED: THE CARDS: each row of YtljdjagackdplaaDoorRows.lean that lists a variable, with what it lists TIED to the program's text (the seventh form; the later family's looks); each row that meets fmt, with fmt's text TOLD by the authors' own Lean function (tested against real Go, not proved from fmt's source: count such statements apart). THE CARD IS WHAT COUNTS. Prove the row's statement (the work); the ties are given (YtljdjagackdplaaDoorTie.lean); close each card by the builder's one call (the guide's Derived/Test/ToyasCard.lean, 'card_holds'). Laid BY PROGRAM, IN A SANDBOX (cutbox-door.mjs). By AI agents, Wed Nov 11 2026. No macro, syntax, notation, axiom, sorry.
-/
import Derived.Test.YtljdjagackdplaaDoorRows
import GoSem.ClaimSeven
namespace Go.Proofs.YtljdjagackdplaaDoor
namespace Rows

/-- THE TIED CARD OF 'sealingwaxlaw09.RootsTell'. -/
def rootsTellCard : Claim7 := { stood := { row := rootsTellRow, standIns := [], harness := (true, "0693055cf055890378b639930c75799d0580659516a37821072e355072ce9f21"), looks := false }, kinds := [], alts := [], laidByText := true, laidKinds := [.data, .data, .data], laidTests := true, laidLooks := .later }
def RootsTellCardSaid : Prop := Claim7.holds Tryd.pinned (.plain (OpenSpec.ofChange rootsTellSpec)) rootsTellCard

/-- THE TIED CARD OF 'sealingwaxlaw09.RootsSplit'. -/
def rootsSplitCard : Claim7 := { stood := { row := rootsSplitRow, standIns := [], harness := (true, "0693055cf055890378b639930c75799d0580659516a37821072e355072ce9f21"), looks := false }, kinds := [], alts := [], laidByText := true, laidKinds := [.data, .data], laidTests := true, laidLooks := .later }
def RootsSplitCardSaid : Prop := Claim7.holds Tryd.pinned (.plain (OpenSpec.ofChange rootsSplitSpec)) rootsSplitCard

/-- THE TIED CARD OF 'sealingwaxlaw09.RootsParts'. -/
def rootsPartsCard : Claim7 := { stood := { row := rootsPartsRow, standIns := [], harness := (true, "0693055cf055890378b639930c75799d0580659516a37821072e355072ce9f21"), looks := false }, kinds := [], alts := [], laidByText := true, laidKinds := [.data, .data], laidTests := true, laidLooks := .later }
def RootsPartsCardSaid : Prop := Claim7.holds Tryd.pinned (.plain (OpenSpec.ofChange rootsPartsSpec)) rootsPartsCard

/-- THE TIED CARD OF 'sealingwaxlaw09.RootsApart'. -/
def rootsApartCard : Claim7 := { stood := { row := rootsApartRow, standIns := [], harness := (true, "0693055cf055890378b639930c75799d0580659516a37821072e355072ce9f21"), looks := false }, kinds := [], alts := [], laidByText := true, laidKinds := [.data, .data], laidTests := true, laidLooks := .later }
def RootsApartCardSaid : Prop := Claim7.holds Tryd.pinned (.plain (OpenSpec.ofChange rootsApartSpec)) rootsApartCard

/-- THE TIED CARD OF 'sealingwaxlaw09.RootsGrown'. -/
def rootsGrownCard : Claim7 := { stood := { row := rootsGrownRow, standIns := [], harness := (true, "0693055cf055890378b639930c75799d0580659516a37821072e355072ce9f21"), looks := false }, kinds := [], alts := [], laidByText := true, laidKinds := [.data, .data], laidTests := true, laidLooks := .later }
def RootsGrownCardSaid : Prop := Claim7.holds Tryd.pinned (.plain (OpenSpec.ofChange rootsGrownSpec)) rootsGrownCard

/-- THE TIED CARD OF 'sealingwaxlaw09.RootsLevels'. -/
def rootsLevelsCard : Claim7 := { stood := { row := rootsLevelsRow, standIns := [], harness := (true, "0693055cf055890378b639930c75799d0580659516a37821072e355072ce9f21"), looks := false }, kinds := [], alts := [], laidByText := true, laidKinds := [.data, .data], laidTests := true, laidLooks := .later }
def RootsLevelsCardSaid : Prop := Claim7.holds Tryd.pinned (.plain (OpenSpec.ofChange rootsLevelsSpec)) rootsLevelsCard

/-- THE TIED CARD OF 'sealingwaxlaw10.FrontierPlay'. -/
def frontierPlayCard : Claim7 := { stood := { row := frontierPlayRow, standIns := [], harness := (true, "0693055cf055890378b639930c75799d0580659516a37821072e355072ce9f21"), looks := false }, kinds := [], alts := [], laidByText := true, laidKinds := [.data, .data, .data], laidTests := true, laidLooks := .later }
def FrontierPlayCardSaid : Prop := Claim7.holds Tryd.pinned (.plain (OpenSpec.ofChange frontierPlaySpec)) frontierPlayCard

/-- THE TIED CARD OF 'sealingwaxlaw10.FrontierNone'. -/
def frontierNoneCard : Claim7 := { stood := { row := frontierNoneRow, standIns := [], harness := (true, "0693055cf055890378b639930c75799d0580659516a37821072e355072ce9f21"), looks := false }, kinds := [], alts := [], laidByText := true, laidKinds := [.data, .data], laidTests := true, laidLooks := .later }
def FrontierNoneCardSaid : Prop := Claim7.holds Tryd.pinned (.plain (OpenSpec.ofChange frontierNoneSpec)) frontierNoneCard

/-- THE TIED CARD OF 'sealingwaxlaw10.FrontierRoot'. -/
def frontierRootCard : Claim7 := { stood := { row := frontierRootRow, standIns := [], harness := (true, "0693055cf055890378b639930c75799d0580659516a37821072e355072ce9f21"), looks := false }, kinds := [], alts := [], laidByText := true, laidKinds := [.data, .data], laidTests := true, laidLooks := .later }
def FrontierRootCardSaid : Prop := Claim7.holds Tryd.pinned (.plain (OpenSpec.ofChange frontierRootSpec)) frontierRootCard

/-- THE TIED CARD OF 'sealingwaxlaw10.FrontierOn'. -/
def frontierOnCard : Claim7 := { stood := { row := frontierOnRow, standIns := [], harness := (true, "0693055cf055890378b639930c75799d0580659516a37821072e355072ce9f21"), looks := false }, kinds := [], alts := [], laidByText := true, laidKinds := [.data, .data], laidTests := true, laidLooks := .later }
def FrontierOnCardSaid : Prop := Claim7.holds Tryd.pinned (.plain (OpenSpec.ofChange frontierOnSpec)) frontierOnCard

/-- THE TIED CARD OF 'sealingwaxlaw10.FrontierFull'. -/
def frontierFullCard : Claim7 := { stood := { row := frontierFullRow, standIns := [], harness := (true, "0693055cf055890378b639930c75799d0580659516a37821072e355072ce9f21"), looks := false }, kinds := [], alts := [], laidByText := true, laidKinds := [.data, .data], laidTests := true, laidLooks := .later }
def FrontierFullCardSaid : Prop := Claim7.holds Tryd.pinned (.plain (OpenSpec.ofChange frontierFullSpec)) frontierFullCard

/-- THE SECOND FORM's CARD OF 'sealingwaxlaw09.RootsTell'. -/
def rootsTellUptoCard : Claim7 := { stood := { row := rootsTellUptoRow, standIns := [], harness := (true, "0693055cf055890378b639930c75799d0580659516a37821072e355072ce9f21"), looks := false }, kinds := [], alts := [], laidByText := true, laidKinds := [.data, .data, .data], laidTests := true, laidLooks := .later }
def RootsTellUptoCardSaid : Prop := Claim7.holds Tryd.pinned (.plain (OpenSpec.upto rootsTellSpec)) rootsTellUptoCard

/-- THE SECOND FORM's CARD OF 'sealingwaxlaw09.RootsSplit'. -/
def rootsSplitUptoCard : Claim7 := { stood := { row := rootsSplitUptoRow, standIns := [], harness := (true, "0693055cf055890378b639930c75799d0580659516a37821072e355072ce9f21"), looks := false }, kinds := [], alts := [], laidByText := true, laidKinds := [.data, .data], laidTests := true, laidLooks := .later }
def RootsSplitUptoCardSaid : Prop := Claim7.holds Tryd.pinned (.plain (OpenSpec.upto rootsSplitSpec)) rootsSplitUptoCard

/-- THE SECOND FORM's CARD OF 'sealingwaxlaw09.RootsParts'. -/
def rootsPartsUptoCard : Claim7 := { stood := { row := rootsPartsUptoRow, standIns := [], harness := (true, "0693055cf055890378b639930c75799d0580659516a37821072e355072ce9f21"), looks := false }, kinds := [], alts := [], laidByText := true, laidKinds := [.data, .data], laidTests := true, laidLooks := .later }
def RootsPartsUptoCardSaid : Prop := Claim7.holds Tryd.pinned (.plain (OpenSpec.upto rootsPartsSpec)) rootsPartsUptoCard

/-- THE SECOND FORM's CARD OF 'sealingwaxlaw09.RootsApart'. -/
def rootsApartUptoCard : Claim7 := { stood := { row := rootsApartUptoRow, standIns := [], harness := (true, "0693055cf055890378b639930c75799d0580659516a37821072e355072ce9f21"), looks := false }, kinds := [], alts := [], laidByText := true, laidKinds := [.data, .data], laidTests := true, laidLooks := .later }
def RootsApartUptoCardSaid : Prop := Claim7.holds Tryd.pinned (.plain (OpenSpec.upto rootsApartSpec)) rootsApartUptoCard

/-- THE SECOND FORM's CARD OF 'sealingwaxlaw09.RootsGrown'. -/
def rootsGrownUptoCard : Claim7 := { stood := { row := rootsGrownUptoRow, standIns := [], harness := (true, "0693055cf055890378b639930c75799d0580659516a37821072e355072ce9f21"), looks := false }, kinds := [], alts := [], laidByText := true, laidKinds := [.data, .data], laidTests := true, laidLooks := .later }
def RootsGrownUptoCardSaid : Prop := Claim7.holds Tryd.pinned (.plain (OpenSpec.upto rootsGrownSpec)) rootsGrownUptoCard

/-- THE SECOND FORM's CARD OF 'sealingwaxlaw09.RootsLevels'. -/
def rootsLevelsUptoCard : Claim7 := { stood := { row := rootsLevelsUptoRow, standIns := [], harness := (true, "0693055cf055890378b639930c75799d0580659516a37821072e355072ce9f21"), looks := false }, kinds := [], alts := [], laidByText := true, laidKinds := [.data, .data], laidTests := true, laidLooks := .later }
def RootsLevelsUptoCardSaid : Prop := Claim7.holds Tryd.pinned (.plain (OpenSpec.upto rootsLevelsSpec)) rootsLevelsUptoCard

/-- THE SECOND FORM's CARD OF 'sealingwaxlaw10.FrontierPlay'. -/
def frontierPlayUptoCard : Claim7 := { stood := { row := frontierPlayUptoRow, standIns := [], harness := (true, "0693055cf055890378b639930c75799d0580659516a37821072e355072ce9f21"), looks := false }, kinds := [], alts := [], laidByText := true, laidKinds := [.data, .data, .data], laidTests := true, laidLooks := .later }
def FrontierPlayUptoCardSaid : Prop := Claim7.holds Tryd.pinned (.plain (OpenSpec.upto frontierPlaySpec)) frontierPlayUptoCard

/-- THE SECOND FORM's CARD OF 'sealingwaxlaw10.FrontierNone'. -/
def frontierNoneUptoCard : Claim7 := { stood := { row := frontierNoneUptoRow, standIns := [], harness := (true, "0693055cf055890378b639930c75799d0580659516a37821072e355072ce9f21"), looks := false }, kinds := [], alts := [], laidByText := true, laidKinds := [.data, .data], laidTests := true, laidLooks := .later }
def FrontierNoneUptoCardSaid : Prop := Claim7.holds Tryd.pinned (.plain (OpenSpec.upto frontierNoneSpec)) frontierNoneUptoCard

/-- THE SECOND FORM's CARD OF 'sealingwaxlaw10.FrontierRoot'. -/
def frontierRootUptoCard : Claim7 := { stood := { row := frontierRootUptoRow, standIns := [], harness := (true, "0693055cf055890378b639930c75799d0580659516a37821072e355072ce9f21"), looks := false }, kinds := [], alts := [], laidByText := true, laidKinds := [.data, .data], laidTests := true, laidLooks := .later }
def FrontierRootUptoCardSaid : Prop := Claim7.holds Tryd.pinned (.plain (OpenSpec.upto frontierRootSpec)) frontierRootUptoCard

/-- THE SECOND FORM's CARD OF 'sealingwaxlaw10.FrontierOn'. -/
def frontierOnUptoCard : Claim7 := { stood := { row := frontierOnUptoRow, standIns := [], harness := (true, "0693055cf055890378b639930c75799d0580659516a37821072e355072ce9f21"), looks := false }, kinds := [], alts := [], laidByText := true, laidKinds := [.data, .data], laidTests := true, laidLooks := .later }
def FrontierOnUptoCardSaid : Prop := Claim7.holds Tryd.pinned (.plain (OpenSpec.upto frontierOnSpec)) frontierOnUptoCard

/-- THE SECOND FORM's CARD OF 'sealingwaxlaw10.FrontierFull'. -/
def frontierFullUptoCard : Claim7 := { stood := { row := frontierFullUptoRow, standIns := [], harness := (true, "0693055cf055890378b639930c75799d0580659516a37821072e355072ce9f21"), looks := false }, kinds := [], alts := [], laidByText := true, laidKinds := [.data, .data], laidTests := true, laidLooks := .later }
def FrontierFullUptoCardSaid : Prop := Claim7.holds Tryd.pinned (.plain (OpenSpec.upto frontierFullSpec)) frontierFullUptoCard
end Rows
end Go.Proofs.YtljdjagackdplaaDoor
