/-
  DERIVED. GIVEN WITH THE SEED: THE CARDS: each row of YtljbbajelkkafaaDoorRows.lean that lists a variable, with what it lists TIED to the program's text (the seventh form; the later family's looks); each row that meets fmt, with fmt's text TOLD by the authors' own Lean function (tested against real Go, not proved from fmt's source: count such statements apart). THE CARD IS WHAT COUNTS. Prove the row's statement (the work); the ties are given (YtljbbajelkkafaaDoorTie.lean); close each card by the builder's one call (the guide's Derived/Test/ToyasCard.lean, 'card_holds'). Laid BY PROGRAM, IN A SANDBOX (cutbox-door.mjs). By AI agents, Wed Nov 11 2026. No macro, syntax, notation, axiom, sorry.
-/
import Derived.Test.YtljbbajelkkafaaDoorRows
import GoSem.ClaimSeven
namespace Go.Proofs.YtljbbajelkkafaaDoor
namespace Rows

/-- THE TIED CARD OF 'sealingwaxlaw26.ModelBytes'. -/
def modelBytesCard : Claim7 := { stood := { row := modelBytesRow, standIns := [], harness := (true, "5fd865d2b2fe0d3072cbdf75eca7729a79b8a129e701582240c78119c42abe62"), looks := false }, kinds := [], alts := [], laidByText := true, laidKinds := [.data, .data], laidTests := true, laidLooks := .later }
def ModelBytesCardSaid : Prop := Claim7.holds Tryd.pinned (.plain (OpenSpec.ofChange modelBytesSpec)) modelBytesCard

/-- THE TIED CARD OF 'sealingwaxlaw26.ModelSure'. -/
def modelSureCard : Claim7 := { stood := { row := modelSureRow, standIns := [], harness := (true, "5fd865d2b2fe0d3072cbdf75eca7729a79b8a129e701582240c78119c42abe62"), looks := false }, kinds := [], alts := [], laidByText := true, laidKinds := [.data, .data], laidTests := true, laidLooks := .later }
def ModelSureCardSaid : Prop := Claim7.holds Tryd.pinned (.plain (OpenSpec.ofChange modelSureSpec)) modelSureCard

/-- THE TIED CARD OF 'sealingwaxlaw26.ModelPlays'. -/
def modelPlaysCard : Claim7 := { stood := { row := modelPlaysRow, standIns := [], harness := (true, "5fd865d2b2fe0d3072cbdf75eca7729a79b8a129e701582240c78119c42abe62"), looks := false }, kinds := [], alts := [], laidByText := true, laidKinds := [.data, .data, .data], laidTests := true, laidLooks := .later }
def ModelPlaysCardSaid : Prop := Claim7.holds Tryd.pinned (.plain (OpenSpec.ofChange modelPlaysSpec)) modelPlaysCard

/-- THE TIED CARD OF 'sealingwaxlaw26.ModelMany'. -/
def modelManyCard : Claim7 := { stood := { row := modelManyRow, standIns := [], harness := (true, "5fd865d2b2fe0d3072cbdf75eca7729a79b8a129e701582240c78119c42abe62"), looks := false }, kinds := [], alts := [], laidByText := true, laidKinds := [.data, .data, .data], laidTests := true, laidLooks := .later }
def ModelManyCardSaid : Prop := Claim7.holds Tryd.pinned (.plain (OpenSpec.ofChange modelManySpec)) modelManyCard

/-- THE TIED CARD OF 'sealingwaxlaw26.ModelNone'. -/
def modelNoneCard : Claim7 := { stood := { row := modelNoneRow, standIns := [], harness := (true, "5fd865d2b2fe0d3072cbdf75eca7729a79b8a129e701582240c78119c42abe62"), looks := false }, kinds := [], alts := [], laidByText := true, laidKinds := [.data, .data], laidTests := true, laidLooks := .later }
def ModelNoneCardSaid : Prop := Claim7.holds Tryd.pinned (.plain (OpenSpec.ofChange modelNoneSpec)) modelNoneCard

/-- THE TIED CARD OF 'sealingwaxlaw26.ModelSame'. -/
def modelSameCard : Claim7 := { stood := { row := modelSameRow, standIns := [], harness := (true, "5fd865d2b2fe0d3072cbdf75eca7729a79b8a129e701582240c78119c42abe62"), looks := false }, kinds := [], alts := [], laidByText := true, laidKinds := [.data, .data], laidTests := true, laidLooks := .later }
def ModelSameCardSaid : Prop := Claim7.holds Tryd.pinned (.plain (OpenSpec.ofChange modelSameSpec)) modelSameCard

/-- THE SECOND FORM's CARD OF 'sealingwaxlaw26.ModelBytes'. -/
def modelBytesUptoCard : Claim7 := { stood := { row := modelBytesUptoRow, standIns := [], harness := (true, "5fd865d2b2fe0d3072cbdf75eca7729a79b8a129e701582240c78119c42abe62"), looks := false }, kinds := [], alts := [], laidByText := true, laidKinds := [.data, .data], laidTests := true, laidLooks := .later }
def ModelBytesUptoCardSaid : Prop := Claim7.holds Tryd.pinned (.plain (OpenSpec.upto modelBytesSpec)) modelBytesUptoCard

/-- THE SECOND FORM's CARD OF 'sealingwaxlaw26.ModelSure'. -/
def modelSureUptoCard : Claim7 := { stood := { row := modelSureUptoRow, standIns := [], harness := (true, "5fd865d2b2fe0d3072cbdf75eca7729a79b8a129e701582240c78119c42abe62"), looks := false }, kinds := [], alts := [], laidByText := true, laidKinds := [.data, .data], laidTests := true, laidLooks := .later }
def ModelSureUptoCardSaid : Prop := Claim7.holds Tryd.pinned (.plain (OpenSpec.upto modelSureSpec)) modelSureUptoCard

/-- THE SECOND FORM's CARD OF 'sealingwaxlaw26.ModelPlays'. -/
def modelPlaysUptoCard : Claim7 := { stood := { row := modelPlaysUptoRow, standIns := [], harness := (true, "5fd865d2b2fe0d3072cbdf75eca7729a79b8a129e701582240c78119c42abe62"), looks := false }, kinds := [], alts := [], laidByText := true, laidKinds := [.data, .data, .data], laidTests := true, laidLooks := .later }
def ModelPlaysUptoCardSaid : Prop := Claim7.holds Tryd.pinned (.plain (OpenSpec.upto modelPlaysSpec)) modelPlaysUptoCard

/-- THE SECOND FORM's CARD OF 'sealingwaxlaw26.ModelMany'. -/
def modelManyUptoCard : Claim7 := { stood := { row := modelManyUptoRow, standIns := [], harness := (true, "5fd865d2b2fe0d3072cbdf75eca7729a79b8a129e701582240c78119c42abe62"), looks := false }, kinds := [], alts := [], laidByText := true, laidKinds := [.data, .data, .data], laidTests := true, laidLooks := .later }
def ModelManyUptoCardSaid : Prop := Claim7.holds Tryd.pinned (.plain (OpenSpec.upto modelManySpec)) modelManyUptoCard

/-- THE SECOND FORM's CARD OF 'sealingwaxlaw26.ModelNone'. -/
def modelNoneUptoCard : Claim7 := { stood := { row := modelNoneUptoRow, standIns := [], harness := (true, "5fd865d2b2fe0d3072cbdf75eca7729a79b8a129e701582240c78119c42abe62"), looks := false }, kinds := [], alts := [], laidByText := true, laidKinds := [.data, .data], laidTests := true, laidLooks := .later }
def ModelNoneUptoCardSaid : Prop := Claim7.holds Tryd.pinned (.plain (OpenSpec.upto modelNoneSpec)) modelNoneUptoCard

/-- THE SECOND FORM's CARD OF 'sealingwaxlaw26.ModelSame'. -/
def modelSameUptoCard : Claim7 := { stood := { row := modelSameUptoRow, standIns := [], harness := (true, "5fd865d2b2fe0d3072cbdf75eca7729a79b8a129e701582240c78119c42abe62"), looks := false }, kinds := [], alts := [], laidByText := true, laidKinds := [.data, .data], laidTests := true, laidLooks := .later }
def ModelSameUptoCardSaid : Prop := Claim7.holds Tryd.pinned (.plain (OpenSpec.upto modelSameSpec)) modelSameUptoCard
end Rows
end Go.Proofs.YtljbbajelkkafaaDoor
