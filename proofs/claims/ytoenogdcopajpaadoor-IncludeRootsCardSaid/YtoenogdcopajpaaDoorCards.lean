/-
  DERIVED. GIVEN WITH THE SEED: THE CARDS: each row of YtoenogdcopajpaaDoorRows.lean that lists a variable, with what it lists TIED to the program's text (the seventh form; the later family's looks); each row that meets fmt, with fmt's text TOLD by the authors' own Lean function (tested against real Go, not proved from fmt's source: count such statements apart). THE CARD IS WHAT COUNTS. Prove the row's statement (the work); the ties are given (YtoenogdcopajpaaDoorTie.lean); close each card by the builder's one call (the guide's Derived/Test/ToyasCard.lean, 'card_holds'). Laid BY PROGRAM, IN A SANDBOX (cutbox-door.mjs). By AI agents, Wed Nov 11 2026. No macro, syntax, notation, axiom, sorry.
-/
import Derived.Test.YtoenogdcopajpaaDoorRows
import GoSem.ClaimSeven
namespace Go.Proofs.YtoenogdcopajpaaDoor
namespace Rows

/-- THE TIED CARD OF 'sealingwaxlaw11.IncludeProve'. -/
def includeProveCard : Claim7 := { stood := { row := includeProveRow, standIns := [], harness := (true, "4fd60a1f7f0d16a3e8232289c9be18dcbe3194f2fd0c88b1e0db9df871f7cdc1"), looks := false }, kinds := [], alts := [], laidByText := true, laidKinds := [.data, .data, .data], laidTests := true, laidLooks := .later }
def IncludeProveCardSaid : Prop := Claim7.holds Tryd.pinned (.plain (OpenSpec.ofChange includeProveSpec)) includeProveCard

/-- THE TIED CARD OF 'sealingwaxlaw11.IncludeCheck'. -/
def includeCheckCard : Claim7 := { stood := { row := includeCheckRow, standIns := [], harness := (true, "4fd60a1f7f0d16a3e8232289c9be18dcbe3194f2fd0c88b1e0db9df871f7cdc1"), looks := false }, kinds := [], alts := [], laidByText := true, laidKinds := [.data, .data, .data], laidTests := true, laidLooks := .later }
def IncludeCheckCardSaid : Prop := Claim7.holds Tryd.pinned (.plain (OpenSpec.ofChange includeCheckSpec)) includeCheckCard

/-- THE TIED CARD OF 'sealingwaxlaw11.IncludeAll'. -/
def includeAllCard : Claim7 := { stood := { row := includeAllRow, standIns := [], harness := (true, "4fd60a1f7f0d16a3e8232289c9be18dcbe3194f2fd0c88b1e0db9df871f7cdc1"), looks := false }, kinds := [], alts := [], laidByText := true, laidKinds := [.data, .data], laidTests := true, laidLooks := .later }
def IncludeAllCardSaid : Prop := Claim7.holds Tryd.pinned (.plain (OpenSpec.ofChange includeAllSpec)) includeAllCard

/-- THE TIED CARD OF 'sealingwaxlaw11.IncludeSpoilt'. -/
def includeSpoiltCard : Claim7 := { stood := { row := includeSpoiltRow, standIns := [], harness := (true, "4fd60a1f7f0d16a3e8232289c9be18dcbe3194f2fd0c88b1e0db9df871f7cdc1"), looks := false }, kinds := [], alts := [], laidByText := true, laidKinds := [.data, .data], laidTests := true, laidLooks := .later }
def IncludeSpoiltCardSaid : Prop := Claim7.holds Tryd.pinned (.plain (OpenSpec.ofChange includeSpoiltSpec)) includeSpoiltCard

/-- THE TIED CARD OF 'sealingwaxlaw11.IncludeRoots'. -/
def includeRootsCard : Claim7 := { stood := { row := includeRootsRow, standIns := [], harness := (true, "4fd60a1f7f0d16a3e8232289c9be18dcbe3194f2fd0c88b1e0db9df871f7cdc1"), looks := false }, kinds := [], alts := [], laidByText := true, laidKinds := [.data, .data], laidTests := true, laidLooks := .later }
def IncludeRootsCardSaid : Prop := Claim7.holds Tryd.pinned (.plain (OpenSpec.ofChange includeRootsSpec)) includeRootsCard

/-- THE TIED CARD OF 'sealingwaxlaw11.IncludeLength'. -/
def includeLengthCard : Claim7 := { stood := { row := includeLengthRow, standIns := [], harness := (true, "4fd60a1f7f0d16a3e8232289c9be18dcbe3194f2fd0c88b1e0db9df871f7cdc1"), looks := false }, kinds := [], alts := [], laidByText := true, laidKinds := [.data, .data], laidTests := true, laidLooks := .later }
def IncludeLengthCardSaid : Prop := Claim7.holds Tryd.pinned (.plain (OpenSpec.ofChange includeLengthSpec)) includeLengthCard

/-- THE TIED CARD OF 'sealingwaxlaw11.IncludeWhole'. -/
def includeWholeCard : Claim7 := { stood := { row := includeWholeRow, standIns := [], harness := (true, "4fd60a1f7f0d16a3e8232289c9be18dcbe3194f2fd0c88b1e0db9df871f7cdc1"), looks := false }, kinds := [], alts := [], laidByText := true, laidKinds := [.data, .data], laidTests := true, laidLooks := .later }
def IncludeWholeCardSaid : Prop := Claim7.holds Tryd.pinned (.plain (OpenSpec.ofChange includeWholeSpec)) includeWholeCard

/-- THE SECOND FORM's CARD OF 'sealingwaxlaw11.IncludeProve'. -/
def includeProveUptoCard : Claim7 := { stood := { row := includeProveUptoRow, standIns := [], harness := (true, "4fd60a1f7f0d16a3e8232289c9be18dcbe3194f2fd0c88b1e0db9df871f7cdc1"), looks := false }, kinds := [], alts := [], laidByText := true, laidKinds := [.data, .data, .data], laidTests := true, laidLooks := .later }
def IncludeProveUptoCardSaid : Prop := Claim7.holds Tryd.pinned (.plain (OpenSpec.upto includeProveSpec)) includeProveUptoCard

/-- THE SECOND FORM's CARD OF 'sealingwaxlaw11.IncludeCheck'. -/
def includeCheckUptoCard : Claim7 := { stood := { row := includeCheckUptoRow, standIns := [], harness := (true, "4fd60a1f7f0d16a3e8232289c9be18dcbe3194f2fd0c88b1e0db9df871f7cdc1"), looks := false }, kinds := [], alts := [], laidByText := true, laidKinds := [.data, .data, .data], laidTests := true, laidLooks := .later }
def IncludeCheckUptoCardSaid : Prop := Claim7.holds Tryd.pinned (.plain (OpenSpec.upto includeCheckSpec)) includeCheckUptoCard

/-- THE SECOND FORM's CARD OF 'sealingwaxlaw11.IncludeAll'. -/
def includeAllUptoCard : Claim7 := { stood := { row := includeAllUptoRow, standIns := [], harness := (true, "4fd60a1f7f0d16a3e8232289c9be18dcbe3194f2fd0c88b1e0db9df871f7cdc1"), looks := false }, kinds := [], alts := [], laidByText := true, laidKinds := [.data, .data], laidTests := true, laidLooks := .later }
def IncludeAllUptoCardSaid : Prop := Claim7.holds Tryd.pinned (.plain (OpenSpec.upto includeAllSpec)) includeAllUptoCard

/-- THE SECOND FORM's CARD OF 'sealingwaxlaw11.IncludeSpoilt'. -/
def includeSpoiltUptoCard : Claim7 := { stood := { row := includeSpoiltUptoRow, standIns := [], harness := (true, "4fd60a1f7f0d16a3e8232289c9be18dcbe3194f2fd0c88b1e0db9df871f7cdc1"), looks := false }, kinds := [], alts := [], laidByText := true, laidKinds := [.data, .data], laidTests := true, laidLooks := .later }
def IncludeSpoiltUptoCardSaid : Prop := Claim7.holds Tryd.pinned (.plain (OpenSpec.upto includeSpoiltSpec)) includeSpoiltUptoCard

/-- THE SECOND FORM's CARD OF 'sealingwaxlaw11.IncludeRoots'. -/
def includeRootsUptoCard : Claim7 := { stood := { row := includeRootsUptoRow, standIns := [], harness := (true, "4fd60a1f7f0d16a3e8232289c9be18dcbe3194f2fd0c88b1e0db9df871f7cdc1"), looks := false }, kinds := [], alts := [], laidByText := true, laidKinds := [.data, .data], laidTests := true, laidLooks := .later }
def IncludeRootsUptoCardSaid : Prop := Claim7.holds Tryd.pinned (.plain (OpenSpec.upto includeRootsSpec)) includeRootsUptoCard

/-- THE SECOND FORM's CARD OF 'sealingwaxlaw11.IncludeLength'. -/
def includeLengthUptoCard : Claim7 := { stood := { row := includeLengthUptoRow, standIns := [], harness := (true, "4fd60a1f7f0d16a3e8232289c9be18dcbe3194f2fd0c88b1e0db9df871f7cdc1"), looks := false }, kinds := [], alts := [], laidByText := true, laidKinds := [.data, .data], laidTests := true, laidLooks := .later }
def IncludeLengthUptoCardSaid : Prop := Claim7.holds Tryd.pinned (.plain (OpenSpec.upto includeLengthSpec)) includeLengthUptoCard

/-- THE SECOND FORM's CARD OF 'sealingwaxlaw11.IncludeWhole'. -/
def includeWholeUptoCard : Claim7 := { stood := { row := includeWholeUptoRow, standIns := [], harness := (true, "4fd60a1f7f0d16a3e8232289c9be18dcbe3194f2fd0c88b1e0db9df871f7cdc1"), looks := false }, kinds := [], alts := [], laidByText := true, laidKinds := [.data, .data], laidTests := true, laidLooks := .later }
def IncludeWholeUptoCardSaid : Prop := Claim7.holds Tryd.pinned (.plain (OpenSpec.upto includeWholeSpec)) includeWholeUptoCard
end Rows
end Go.Proofs.YtoenogdcopajpaaDoor
