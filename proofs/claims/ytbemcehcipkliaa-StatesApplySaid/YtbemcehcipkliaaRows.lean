/-
  No cell of these rows narrows 'for every input' (looked for: loops, veiled, ifaces, maps, wideKeys, modest, calm, conditions, laid).
  DERIVED. THE GIVEN ROWS OF THIS SEAT. 6 by the template 'for every input the law returns true; each argument reads behind the call as it read before'; 0 by the template 'total and deterministic' (their statements: YtbemcehcipkliaaTotals.lean).
  GIVEN WITH THE SEED: the statements are not yours to turn. If you find one false, say at which input.
  Laid BY PROGRAM, IN A SANDBOX (cutbox-rows.mjs): the forced cells as the released guide's own fill.sh prints them over the translation af56f61b37a39dc5… (all of the seat's roots in one cut). By AI agents, Wed Nov 11 2026. No macro, syntax, notation, axiom, sorry.
-/
import Derived.Test.YtbemcehcipkliaaChecked
import GoSem.Claim
import GoSem.ClaimJoined
import GoSem.ClaimMapViews
import Derived.JoinedTies
import Derived.KernelRfl
namespace Go.Proofs.Ytbemcehcipkliaa
/- THE CELL 'sum', in the pinned program and in every row, IS THE sha256 OF THE DUMP (.gsa) THAT YtbemcehcipkliaaProg.lean LOADS. Nothing in Lean hashes anything: it is a label: what it is worth is what the hold of that sum in a sandbox is worth. -/
noncomputable def Try.pinned : Pinned := { name := "ytbemcehcipkliaa", sum := "af56f61b37a39dc5b104af6c33dac3812d27d7e20ccabdfd52dd917de3a37d82", checked := Try.checked }
namespace Rows
def none {H : Type} : Left H := { results := [], args := [] }

/-- 'sealingwaxlaw17.StatesApply': WHATEVER THE INPUT: true; the input reads as it did. -/
def statesApplySpec : ChangeSpec := { name := "statesApply", fn := fun _ => fun
  | [d1, d2, d3] => { results := [.lit (.bool true)], args := [d1, d2, d3] }
  | _ => none }
def statesApplyRow : OpenClaim := { program := "ytbemcehcipkliaa", sum := "af56f61b37a39dc5b104af6c33dac3812d27d7e20ccabdfd52dd917de3a37d82", func := "sealingwax/sealingwaxlaw17.StatesApply", spec := "statesApply", unfollowed := true, recurses := true, apart := false }
def StatesApplySaid : Prop := statesApplyRow.holds Try.pinned (OpenSpec.ofChange statesApplySpec)

/-- ITS FALSE NEIGHBOUR: 'it returns false'. Refute it at one input. -/
def statesApplyWrong : ChangeSpec := { name := "statesApply", fn := fun _ => fun
  | [d1, d2, d3] => { results := [.lit (.bool false)], args := [d1, d2, d3] }
  | _ => none }
def StatesApplyWrongFalsely : Prop := statesApplyRow.holds Try.pinned (OpenSpec.ofChange statesApplyWrong)

/-- 'sealingwaxlaw17.StatesBack': WHATEVER THE INPUT: true; the input reads as it did. -/
def statesBackSpec : ChangeSpec := { name := "statesBack", fn := fun _ => fun
  | [d1, d2, d3] => { results := [.lit (.bool true)], args := [d1, d2, d3] }
  | _ => none }
def statesBackRow : OpenClaim := { program := "ytbemcehcipkliaa", sum := "af56f61b37a39dc5b104af6c33dac3812d27d7e20ccabdfd52dd917de3a37d82", func := "sealingwax/sealingwaxlaw17.StatesBack", spec := "statesBack", unfollowed := true, recurses := true, apart := false }
def StatesBackSaid : Prop := statesBackRow.holds Try.pinned (OpenSpec.ofChange statesBackSpec)

/-- ITS FALSE NEIGHBOUR: 'it returns false'. Refute it at one input. -/
def statesBackWrong : ChangeSpec := { name := "statesBack", fn := fun _ => fun
  | [d1, d2, d3] => { results := [.lit (.bool false)], args := [d1, d2, d3] }
  | _ => none }
def StatesBackWrongFalsely : Prop := statesBackRow.holds Try.pinned (OpenSpec.ofChange statesBackWrong)

/-- 'sealingwaxlaw17.StatesParts': WHATEVER THE INPUT: true; the input reads as it did. -/
def statesPartsSpec : ChangeSpec := { name := "statesParts", fn := fun _ => fun
  | [d1, d2, d3] => { results := [.lit (.bool true)], args := [d1, d2, d3] }
  | _ => none }
def statesPartsRow : OpenClaim := { program := "ytbemcehcipkliaa", sum := "af56f61b37a39dc5b104af6c33dac3812d27d7e20ccabdfd52dd917de3a37d82", func := "sealingwax/sealingwaxlaw17.StatesParts", spec := "statesParts", unfollowed := true, recurses := true, apart := false }
def StatesPartsSaid : Prop := statesPartsRow.holds Try.pinned (OpenSpec.ofChange statesPartsSpec)

/-- ITS FALSE NEIGHBOUR: 'it returns false'. Refute it at one input. -/
def statesPartsWrong : ChangeSpec := { name := "statesParts", fn := fun _ => fun
  | [d1, d2, d3] => { results := [.lit (.bool false)], args := [d1, d2, d3] }
  | _ => none }
def StatesPartsWrongFalsely : Prop := statesPartsRow.holds Try.pinned (OpenSpec.ofChange statesPartsWrong)

/-- 'sealingwaxlaw17.StatesFind': WHATEVER THE INPUT: true; the input reads as it did. -/
def statesFindSpec : ChangeSpec := { name := "statesFind", fn := fun _ => fun
  | [d1, d2] => { results := [.lit (.bool true)], args := [d1, d2] }
  | _ => none }
def statesFindRow : OpenClaim := { program := "ytbemcehcipkliaa", sum := "af56f61b37a39dc5b104af6c33dac3812d27d7e20ccabdfd52dd917de3a37d82", func := "sealingwax/sealingwaxlaw17.StatesFind", spec := "statesFind", unfollowed := true, recurses := true, apart := false }
def StatesFindSaid : Prop := statesFindRow.holds Try.pinned (OpenSpec.ofChange statesFindSpec)

/-- ITS FALSE NEIGHBOUR: 'it returns false'. Refute it at one input. -/
def statesFindWrong : ChangeSpec := { name := "statesFind", fn := fun _ => fun
  | [d1, d2] => { results := [.lit (.bool false)], args := [d1, d2] }
  | _ => none }
def StatesFindWrongFalsely : Prop := statesFindRow.holds Try.pinned (OpenSpec.ofChange statesFindWrong)

/-- 'sealingwaxlaw17.StatesApart': WHATEVER THE INPUT: true; the input reads as it did. -/
def statesApartSpec : ChangeSpec := { name := "statesApart", fn := fun _ => fun
  | [d1, d2] => { results := [.lit (.bool true)], args := [d1, d2] }
  | _ => none }
def statesApartRow : OpenClaim := { program := "ytbemcehcipkliaa", sum := "af56f61b37a39dc5b104af6c33dac3812d27d7e20ccabdfd52dd917de3a37d82", func := "sealingwax/sealingwaxlaw17.StatesApart", spec := "statesApart", unfollowed := true, recurses := true, apart := false }
def StatesApartSaid : Prop := statesApartRow.holds Try.pinned (OpenSpec.ofChange statesApartSpec)

/-- ITS FALSE NEIGHBOUR: 'it returns false'. Refute it at one input. -/
def statesApartWrong : ChangeSpec := { name := "statesApart", fn := fun _ => fun
  | [d1, d2] => { results := [.lit (.bool false)], args := [d1, d2] }
  | _ => none }
def StatesApartWrongFalsely : Prop := statesApartRow.holds Try.pinned (OpenSpec.ofChange statesApartWrong)

/-- 'sealingwaxlaw17.StatesGrow': WHATEVER THE INPUT: true; the input reads as it did. -/
def statesGrowSpec : ChangeSpec := { name := "statesGrow", fn := fun _ => fun
  | [d1, d2] => { results := [.lit (.bool true)], args := [d1, d2] }
  | _ => none }
def statesGrowRow : OpenClaim := { program := "ytbemcehcipkliaa", sum := "af56f61b37a39dc5b104af6c33dac3812d27d7e20ccabdfd52dd917de3a37d82", func := "sealingwax/sealingwaxlaw17.StatesGrow", spec := "statesGrow", unfollowed := true, recurses := true, apart := false }
def StatesGrowSaid : Prop := statesGrowRow.holds Try.pinned (OpenSpec.ofChange statesGrowSpec)

/-- ITS FALSE NEIGHBOUR: 'it returns false'. Refute it at one input. -/
def statesGrowWrong : ChangeSpec := { name := "statesGrow", fn := fun _ => fun
  | [d1, d2] => { results := [.lit (.bool false)], args := [d1, d2] }
  | _ => none }
def StatesGrowWrongFalsely : Prop := statesGrowRow.holds Try.pinned (OpenSpec.ofChange statesGrowWrong)

/- THE SECOND FORM. 'bulk': how many values and letters a reading holds, each counted each time it is reached (what is shared counts as often as it is met; a slice's spare places count too). A statement '..UptoSaid' is the law's where the arguments, and the package variables that the reading takes, are together of bulk at most 1048576: NARROWER than '..Said'. Prove '..Said' where nothing that the law and all that it calls make is longer than what came in: it says more and counts as full. Else prove '..UptoSaid'. A law counts once. -/
mutual
def uptoBulk {H : Type} : DataW H → Nat
  | .lit (.string bytes) => bytes.length + 1
  | .lit _ => 1
  | .nil => 1
  | .ptr d => uptoBulk d + 1
  | .slice elems spare => uptoBulkAll elems + uptoBulkAll spare + 1
  | .agg parts => uptoBulkAll parts + 1
  | .iface _ d => uptoBulk d + 1
  | .map entries => uptoBulkEntries entries + 1
  | .held _ => 1
def uptoBulkAll {H : Type} : List (DataW H) → Nat
  | [] => 0
  | d :: r => uptoBulk d + uptoBulkAll r
def uptoBulkEntries {H : Type} : List (Lit × DataW H) → Nat
  | [] => 0
  | x :: r => uptoBulkEntry x + uptoBulkEntries r
def uptoBulkEntry {H : Type} : Lit × DataW H → Nat
  | (.string bytes, d) => bytes.length + uptoBulk d + 1
  | (_, d) => uptoBulk d + 1
 end
def uptoSmall : (H : Type) → List (DataW H) → Bool := fun _ ds => decide (uptoBulkAll ds ≤ 1048576)
def OpenSpec.upto (s : _root_.Go.ChangeSpec) : _root_.Go.OpenSpec := { _root_.Go.OpenSpec.ofChange s with cond := some uptoSmall }

/-- 'sealingwaxlaw17.StatesApply', WHERE WHAT IT READS IS OF BULK AT MOST 1048576: true; the input reads as it did. -/
def statesApplyUptoRow : OpenClaim := { program := "ytbemcehcipkliaa", sum := "af56f61b37a39dc5b104af6c33dac3812d27d7e20ccabdfd52dd917de3a37d82", func := "sealingwax/sealingwaxlaw17.StatesApply", spec := "statesApply", unfollowed := true, recurses := true, apart := false, narrowed := true }
def StatesApplyUptoSaid : Prop := statesApplyUptoRow.holds Try.pinned (OpenSpec.upto statesApplySpec)

/-- 'sealingwaxlaw17.StatesBack', WHERE WHAT IT READS IS OF BULK AT MOST 1048576: true; the input reads as it did. -/
def statesBackUptoRow : OpenClaim := { program := "ytbemcehcipkliaa", sum := "af56f61b37a39dc5b104af6c33dac3812d27d7e20ccabdfd52dd917de3a37d82", func := "sealingwax/sealingwaxlaw17.StatesBack", spec := "statesBack", unfollowed := true, recurses := true, apart := false, narrowed := true }
def StatesBackUptoSaid : Prop := statesBackUptoRow.holds Try.pinned (OpenSpec.upto statesBackSpec)

/-- 'sealingwaxlaw17.StatesParts', WHERE WHAT IT READS IS OF BULK AT MOST 1048576: true; the input reads as it did. -/
def statesPartsUptoRow : OpenClaim := { program := "ytbemcehcipkliaa", sum := "af56f61b37a39dc5b104af6c33dac3812d27d7e20ccabdfd52dd917de3a37d82", func := "sealingwax/sealingwaxlaw17.StatesParts", spec := "statesParts", unfollowed := true, recurses := true, apart := false, narrowed := true }
def StatesPartsUptoSaid : Prop := statesPartsUptoRow.holds Try.pinned (OpenSpec.upto statesPartsSpec)

/-- 'sealingwaxlaw17.StatesFind', WHERE WHAT IT READS IS OF BULK AT MOST 1048576: true; the input reads as it did. -/
def statesFindUptoRow : OpenClaim := { program := "ytbemcehcipkliaa", sum := "af56f61b37a39dc5b104af6c33dac3812d27d7e20ccabdfd52dd917de3a37d82", func := "sealingwax/sealingwaxlaw17.StatesFind", spec := "statesFind", unfollowed := true, recurses := true, apart := false, narrowed := true }
def StatesFindUptoSaid : Prop := statesFindUptoRow.holds Try.pinned (OpenSpec.upto statesFindSpec)

/-- 'sealingwaxlaw17.StatesApart', WHERE WHAT IT READS IS OF BULK AT MOST 1048576: true; the input reads as it did. -/
def statesApartUptoRow : OpenClaim := { program := "ytbemcehcipkliaa", sum := "af56f61b37a39dc5b104af6c33dac3812d27d7e20ccabdfd52dd917de3a37d82", func := "sealingwax/sealingwaxlaw17.StatesApart", spec := "statesApart", unfollowed := true, recurses := true, apart := false, narrowed := true }
def StatesApartUptoSaid : Prop := statesApartUptoRow.holds Try.pinned (OpenSpec.upto statesApartSpec)

/-- 'sealingwaxlaw17.StatesGrow', WHERE WHAT IT READS IS OF BULK AT MOST 1048576: true; the input reads as it did. -/
def statesGrowUptoRow : OpenClaim := { program := "ytbemcehcipkliaa", sum := "af56f61b37a39dc5b104af6c33dac3812d27d7e20ccabdfd52dd917de3a37d82", func := "sealingwax/sealingwaxlaw17.StatesGrow", spec := "statesGrow", unfollowed := true, recurses := true, apart := false, narrowed := true }
def StatesGrowUptoSaid : Prop := statesGrowUptoRow.holds Try.pinned (OpenSpec.upto statesGrowSpec)

end Rows
end Go.Proofs.Ytbemcehcipkliaa
