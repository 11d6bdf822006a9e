/-
  No cell of these rows narrows 'for every input' (looked for: loops, veiled, ifaces, maps, wideKeys, modest, calm, conditions, laid).
  DERIVED. THE GIVEN ROWS OF THIS SEAT. 6 by the template 'for every input the law returns true; each argument reads behind the call as it read before'; 0 by the template 'total and deterministic' (their statements: YtafbkgijahinkaaTotals.lean).
  GIVEN WITH THE SEED: the statements are not yours to turn. If you find one false, say at which input.
  Laid BY PROGRAM, IN A SANDBOX (cutbox-rows.mjs): the forced cells as the released guide's own fill.sh prints them over the translation 5b84303923c1c030… (all of the seat's roots in one cut). By AI agents, Wed Nov 11 2026. No macro, syntax, notation, axiom, sorry.
-/
import Derived.Test.YtafbkgijahinkaaChecked
import GoSem.Claim
import GoSem.ClaimJoined
import GoSem.ClaimMapViews
import Derived.JoinedTies
import Derived.KernelRfl
namespace Go.Proofs.Ytafbkgijahinkaa
/- THE CELL 'sum', in the pinned program and in every row, IS THE sha256 OF THE DUMP (.gsa) THAT YtafbkgijahinkaaProg.lean LOADS. Nothing in Lean hashes anything: it is a label: what it is worth is what the hold of that sum in a sandbox is worth. -/
noncomputable def Try.pinned : Pinned := { name := "ytafbkgijahinkaa", sum := "5b84303923c1c030ab665e8fdae5bd9adead8ca6f7e0f3b8896902c62afe672e", checked := Try.checked }
namespace Rows
def none {H : Type} : Left H := { results := [], args := [] }

/-- 'sealingwaxlaw16.StreamsShred': WHATEVER THE INPUT: true; the input reads as it did. -/
def streamsShredSpec : ChangeSpec := { name := "streamsShred", fn := fun _ => fun
  | [d1, d2] => { results := [.lit (.bool true)], args := [d1, d2] }
  | _ => none }
def streamsShredRow : OpenClaim := { program := "ytafbkgijahinkaa", sum := "5b84303923c1c030ab665e8fdae5bd9adead8ca6f7e0f3b8896902c62afe672e", func := "sealingwax/sealingwaxlaw16.StreamsShred", spec := "streamsShred", unfollowed := true, recurses := true, apart := false }
def StreamsShredSaid : Prop := streamsShredRow.holds Try.pinned (OpenSpec.ofChange streamsShredSpec)

/-- ITS FALSE NEIGHBOUR: 'it returns false'. Refute it at one input. -/
def streamsShredWrong : ChangeSpec := { name := "streamsShred", fn := fun _ => fun
  | [d1, d2] => { results := [.lit (.bool false)], args := [d1, d2] }
  | _ => none }
def StreamsShredWrongFalsely : Prop := streamsShredRow.holds Try.pinned (OpenSpec.ofChange streamsShredWrong)

/-- 'sealingwaxlaw16.StreamsHolds': WHATEVER THE INPUT: true; the input reads as it did. -/
def streamsHoldsSpec : ChangeSpec := { name := "streamsHolds", fn := fun _ => fun
  | [d1, d2] => { results := [.lit (.bool true)], args := [d1, d2] }
  | _ => none }
def streamsHoldsRow : OpenClaim := { program := "ytafbkgijahinkaa", sum := "5b84303923c1c030ab665e8fdae5bd9adead8ca6f7e0f3b8896902c62afe672e", func := "sealingwax/sealingwaxlaw16.StreamsHolds", spec := "streamsHolds", unfollowed := true, recurses := true, apart := false }
def StreamsHoldsSaid : Prop := streamsHoldsRow.holds Try.pinned (OpenSpec.ofChange streamsHoldsSpec)

/-- ITS FALSE NEIGHBOUR: 'it returns false'. Refute it at one input. -/
def streamsHoldsWrong : ChangeSpec := { name := "streamsHolds", fn := fun _ => fun
  | [d1, d2] => { results := [.lit (.bool false)], args := [d1, d2] }
  | _ => none }
def StreamsHoldsWrongFalsely : Prop := streamsHoldsRow.holds Try.pinned (OpenSpec.ofChange streamsHoldsWrong)

/-- 'sealingwaxlaw16.StreamsGrow': WHATEVER THE INPUT: true; the input reads as it did. -/
def streamsGrowSpec : ChangeSpec := { name := "streamsGrow", fn := fun _ => fun
  | [d] => { results := [.lit (.bool true)], args := [d] }
  | _ => none }
def streamsGrowRow : OpenClaim := { program := "ytafbkgijahinkaa", sum := "5b84303923c1c030ab665e8fdae5bd9adead8ca6f7e0f3b8896902c62afe672e", func := "sealingwax/sealingwaxlaw16.StreamsGrow", spec := "streamsGrow", unfollowed := true, recurses := true, apart := false }
def StreamsGrowSaid : Prop := streamsGrowRow.holds Try.pinned (OpenSpec.ofChange streamsGrowSpec)

/-- ITS FALSE NEIGHBOUR: 'it returns false'. Refute it at one input. -/
def streamsGrowWrong : ChangeSpec := { name := "streamsGrow", fn := fun _ => fun
  | [d] => { results := [.lit (.bool false)], args := [d] }
  | _ => none }
def StreamsGrowWrongFalsely : Prop := streamsGrowRow.holds Try.pinned (OpenSpec.ofChange streamsGrowWrong)

/-- 'sealingwaxlaw16.StreamsSame': WHATEVER THE INPUT: true; the input reads as it did. -/
def streamsSameSpec : ChangeSpec := { name := "streamsSame", fn := fun _ => fun
  | [d1, d2] => { results := [.lit (.bool true)], args := [d1, d2] }
  | _ => none }
def streamsSameRow : OpenClaim := { program := "ytafbkgijahinkaa", sum := "5b84303923c1c030ab665e8fdae5bd9adead8ca6f7e0f3b8896902c62afe672e", func := "sealingwax/sealingwaxlaw16.StreamsSame", spec := "streamsSame", unfollowed := true, recurses := true, apart := false }
def StreamsSameSaid : Prop := streamsSameRow.holds Try.pinned (OpenSpec.ofChange streamsSameSpec)

/-- ITS FALSE NEIGHBOUR: 'it returns false'. Refute it at one input. -/
def streamsSameWrong : ChangeSpec := { name := "streamsSame", fn := fun _ => fun
  | [d1, d2] => { results := [.lit (.bool false)], args := [d1, d2] }
  | _ => none }
def StreamsSameWrongFalsely : Prop := streamsSameRow.holds Try.pinned (OpenSpec.ofChange streamsSameWrong)

/-- 'sealingwaxlaw16.StreamsNew': WHATEVER THE INPUT: true; the input reads as it did. -/
def streamsNewSpec : ChangeSpec := { name := "streamsNew", fn := fun _ => fun
  | [d] => { results := [.lit (.bool true)], args := [d] }
  | _ => none }
def streamsNewRow : OpenClaim := { program := "ytafbkgijahinkaa", sum := "5b84303923c1c030ab665e8fdae5bd9adead8ca6f7e0f3b8896902c62afe672e", func := "sealingwax/sealingwaxlaw16.StreamsNew", spec := "streamsNew", unfollowed := true, recurses := true, apart := false }
def StreamsNewSaid : Prop := streamsNewRow.holds Try.pinned (OpenSpec.ofChange streamsNewSpec)

/-- ITS FALSE NEIGHBOUR: 'it returns false'. Refute it at one input. -/
def streamsNewWrong : ChangeSpec := { name := "streamsNew", fn := fun _ => fun
  | [d] => { results := [.lit (.bool false)], args := [d] }
  | _ => none }
def StreamsNewWrongFalsely : Prop := streamsNewRow.holds Try.pinned (OpenSpec.ofChange streamsNewWrong)

/-- 'sealingwaxlaw16.StreamsApply': WHATEVER THE INPUT: true; the input reads as it did. -/
def streamsApplySpec : ChangeSpec := { name := "streamsApply", fn := fun _ => fun
  | [d1, d2] => { results := [.lit (.bool true)], args := [d1, d2] }
  | _ => none }
def streamsApplyRow : OpenClaim := { program := "ytafbkgijahinkaa", sum := "5b84303923c1c030ab665e8fdae5bd9adead8ca6f7e0f3b8896902c62afe672e", func := "sealingwax/sealingwaxlaw16.StreamsApply", spec := "streamsApply", unfollowed := true, recurses := true, apart := false }
def StreamsApplySaid : Prop := streamsApplyRow.holds Try.pinned (OpenSpec.ofChange streamsApplySpec)

/-- ITS FALSE NEIGHBOUR: 'it returns false'. Refute it at one input. -/
def streamsApplyWrong : ChangeSpec := { name := "streamsApply", fn := fun _ => fun
  | [d1, d2] => { results := [.lit (.bool false)], args := [d1, d2] }
  | _ => none }
def StreamsApplyWrongFalsely : Prop := streamsApplyRow.holds Try.pinned (OpenSpec.ofChange streamsApplyWrong)

/- THE SECOND FORM. 'bulk': how many values and letters a reading holds, each counted each time it is reached (what is shared counts as often as it is met; a slice's spare places count too). A statement '..UptoSaid' is the law's where the arguments, and the package variables that the reading takes, are together of bulk at most 1048576: NARROWER than '..Said'. Prove '..Said' where nothing that the law and all that it calls make is longer than what came in: it says more and counts as full. Else prove '..UptoSaid'. A law counts once. -/
mutual
def uptoBulk {H : Type} : DataW H → Nat
  | .lit (.string bytes) => bytes.length + 1
  | .lit _ => 1
  | .nil => 1
  | .ptr d => uptoBulk d + 1
  | .slice elems spare => uptoBulkAll elems + uptoBulkAll spare + 1
  | .agg parts => uptoBulkAll parts + 1
  | .iface _ d => uptoBulk d + 1
  | .map entries => uptoBulkEntries entries + 1
  | .held _ => 1
def uptoBulkAll {H : Type} : List (DataW H) → Nat
  | [] => 0
  | d :: r => uptoBulk d + uptoBulkAll r
def uptoBulkEntries {H : Type} : List (Lit × DataW H) → Nat
  | [] => 0
  | x :: r => uptoBulkEntry x + uptoBulkEntries r
def uptoBulkEntry {H : Type} : Lit × DataW H → Nat
  | (.string bytes, d) => bytes.length + uptoBulk d + 1
  | (_, d) => uptoBulk d + 1
 end
def uptoSmall : (H : Type) → List (DataW H) → Bool := fun _ ds => decide (uptoBulkAll ds ≤ 1048576)
def OpenSpec.upto (s : _root_.Go.ChangeSpec) : _root_.Go.OpenSpec := { _root_.Go.OpenSpec.ofChange s with cond := some uptoSmall }

/-- 'sealingwaxlaw16.StreamsShred', WHERE WHAT IT READS IS OF BULK AT MOST 1048576: true; the input reads as it did. -/
def streamsShredUptoRow : OpenClaim := { program := "ytafbkgijahinkaa", sum := "5b84303923c1c030ab665e8fdae5bd9adead8ca6f7e0f3b8896902c62afe672e", func := "sealingwax/sealingwaxlaw16.StreamsShred", spec := "streamsShred", unfollowed := true, recurses := true, apart := false, narrowed := true }
def StreamsShredUptoSaid : Prop := streamsShredUptoRow.holds Try.pinned (OpenSpec.upto streamsShredSpec)

/-- 'sealingwaxlaw16.StreamsHolds', WHERE WHAT IT READS IS OF BULK AT MOST 1048576: true; the input reads as it did. -/
def streamsHoldsUptoRow : OpenClaim := { program := "ytafbkgijahinkaa", sum := "5b84303923c1c030ab665e8fdae5bd9adead8ca6f7e0f3b8896902c62afe672e", func := "sealingwax/sealingwaxlaw16.StreamsHolds", spec := "streamsHolds", unfollowed := true, recurses := true, apart := false, narrowed := true }
def StreamsHoldsUptoSaid : Prop := streamsHoldsUptoRow.holds Try.pinned (OpenSpec.upto streamsHoldsSpec)

/-- 'sealingwaxlaw16.StreamsGrow', WHERE WHAT IT READS IS OF BULK AT MOST 1048576: true; the input reads as it did. -/
def streamsGrowUptoRow : OpenClaim := { program := "ytafbkgijahinkaa", sum := "5b84303923c1c030ab665e8fdae5bd9adead8ca6f7e0f3b8896902c62afe672e", func := "sealingwax/sealingwaxlaw16.StreamsGrow", spec := "streamsGrow", unfollowed := true, recurses := true, apart := false, narrowed := true }
def StreamsGrowUptoSaid : Prop := streamsGrowUptoRow.holds Try.pinned (OpenSpec.upto streamsGrowSpec)

/-- 'sealingwaxlaw16.StreamsSame', WHERE WHAT IT READS IS OF BULK AT MOST 1048576: true; the input reads as it did. -/
def streamsSameUptoRow : OpenClaim := { program := "ytafbkgijahinkaa", sum := "5b84303923c1c030ab665e8fdae5bd9adead8ca6f7e0f3b8896902c62afe672e", func := "sealingwax/sealingwaxlaw16.StreamsSame", spec := "streamsSame", unfollowed := true, recurses := true, apart := false, narrowed := true }
def StreamsSameUptoSaid : Prop := streamsSameUptoRow.holds Try.pinned (OpenSpec.upto streamsSameSpec)

/-- 'sealingwaxlaw16.StreamsNew', WHERE WHAT IT READS IS OF BULK AT MOST 1048576: true; the input reads as it did. -/
def streamsNewUptoRow : OpenClaim := { program := "ytafbkgijahinkaa", sum := "5b84303923c1c030ab665e8fdae5bd9adead8ca6f7e0f3b8896902c62afe672e", func := "sealingwax/sealingwaxlaw16.StreamsNew", spec := "streamsNew", unfollowed := true, recurses := true, apart := false, narrowed := true }
def StreamsNewUptoSaid : Prop := streamsNewUptoRow.holds Try.pinned (OpenSpec.upto streamsNewSpec)

/-- 'sealingwaxlaw16.StreamsApply', WHERE WHAT IT READS IS OF BULK AT MOST 1048576: true; the input reads as it did. -/
def streamsApplyUptoRow : OpenClaim := { program := "ytafbkgijahinkaa", sum := "5b84303923c1c030ab665e8fdae5bd9adead8ca6f7e0f3b8896902c62afe672e", func := "sealingwax/sealingwaxlaw16.StreamsApply", spec := "streamsApply", unfollowed := true, recurses := true, apart := false, narrowed := true }
def StreamsApplyUptoSaid : Prop := streamsApplyUptoRow.holds Try.pinned (OpenSpec.upto streamsApplySpec)

end Rows
end Go.Proofs.Ytafbkgijahinkaa
