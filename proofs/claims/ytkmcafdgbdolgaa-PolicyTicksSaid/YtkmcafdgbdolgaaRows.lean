/-
  No cell of these rows narrows 'for every input' (looked for: loops, veiled, ifaces, maps, wideKeys, modest, calm, conditions, laid).
  DERIVED. THE GIVEN ROWS OF THIS SEAT. 5 by the template 'for every input the law returns true; each argument reads behind the call as it read before'; 0 by the template 'total and deterministic' (their statements: YtkmcafdgbdolgaaTotals.lean).
  GIVEN WITH THE SEED: the statements are not yours to turn. If you find one false, say at which input.
  Laid BY PROGRAM, IN A SANDBOX (cutbox-rows.mjs): the forced cells as the released guide's own fill.sh prints them over the translation f4d764636212a695… (all of the seat's roots in one cut). By AI agents, Wed Nov 11 2026. No macro, syntax, notation, axiom, sorry.
-/
import Derived.Test.YtkmcafdgbdolgaaChecked
import GoSem.Claim
import GoSem.ClaimJoined
import GoSem.ClaimMapViews
import Derived.JoinedTies
import Derived.KernelRfl
namespace Go.Proofs.Ytkmcafdgbdolgaa
/- THE CELL 'sum', in the pinned program and in every row, IS THE sha256 OF THE DUMP (.gsa) THAT YtkmcafdgbdolgaaProg.lean LOADS. Nothing in Lean hashes anything: it is a label: what it is worth is what the hold of that sum in a sandbox is worth. -/
noncomputable def Try.pinned : Pinned := { name := "ytkmcafdgbdolgaa", sum := "f4d764636212a695552d0d2cc595f8dc08566723779b4af61ec7a622e3a12436", checked := Try.checked }
namespace Rows
def none {H : Type} : Left H := { results := [], args := [] }

/-- 'sealingwaxlaw14.PolicyTell': WHATEVER THE INPUT: true; the input reads as it did. -/
def policyTellSpec : ChangeSpec := { name := "policyTell", fn := fun _ => fun
  | [d1, d2, d3] => { results := [.lit (.bool true)], args := [d1, d2, d3] }
  | _ => none }
def policyTellRow : OpenClaim := { program := "ytkmcafdgbdolgaa", sum := "f4d764636212a695552d0d2cc595f8dc08566723779b4af61ec7a622e3a12436", func := "sealingwax/sealingwaxlaw14.PolicyTell", spec := "policyTell", apart := false }
def PolicyTellSaid : Prop := policyTellRow.holds Try.pinned (OpenSpec.ofChange policyTellSpec)

/-- ITS FALSE NEIGHBOUR: 'it returns false'. Refute it at one input. -/
def policyTellWrong : ChangeSpec := { name := "policyTell", fn := fun _ => fun
  | [d1, d2, d3] => { results := [.lit (.bool false)], args := [d1, d2, d3] }
  | _ => none }
def PolicyTellWrongFalsely : Prop := policyTellRow.holds Try.pinned (OpenSpec.ofChange policyTellWrong)

/-- 'sealingwaxlaw14.PolicyOn': WHATEVER THE INPUT: true; the input reads as it did. -/
def policyOnSpec : ChangeSpec := { name := "policyOn", fn := fun _ => fun
  | [d] => { results := [.lit (.bool true)], args := [d] }
  | _ => none }
def policyOnRow : OpenClaim := { program := "ytkmcafdgbdolgaa", sum := "f4d764636212a695552d0d2cc595f8dc08566723779b4af61ec7a622e3a12436", func := "sealingwax/sealingwaxlaw14.PolicyOn", spec := "policyOn", apart := false }
def PolicyOnSaid : Prop := policyOnRow.holds Try.pinned (OpenSpec.ofChange policyOnSpec)

/-- ITS FALSE NEIGHBOUR: 'it returns false'. Refute it at one input. -/
def policyOnWrong : ChangeSpec := { name := "policyOn", fn := fun _ => fun
  | [d] => { results := [.lit (.bool false)], args := [d] }
  | _ => none }
def PolicyOnWrongFalsely : Prop := policyOnRow.holds Try.pinned (OpenSpec.ofChange policyOnWrong)

/-- 'sealingwaxlaw14.PolicyLonger': WHATEVER THE INPUT: true; the input reads as it did. -/
def policyLongerSpec : ChangeSpec := { name := "policyLonger", fn := fun _ => fun
  | [d] => { results := [.lit (.bool true)], args := [d] }
  | _ => none }
def policyLongerRow : OpenClaim := { program := "ytkmcafdgbdolgaa", sum := "f4d764636212a695552d0d2cc595f8dc08566723779b4af61ec7a622e3a12436", func := "sealingwax/sealingwaxlaw14.PolicyLonger", spec := "policyLonger", apart := false }
def PolicyLongerSaid : Prop := policyLongerRow.holds Try.pinned (OpenSpec.ofChange policyLongerSpec)

/-- ITS FALSE NEIGHBOUR: 'it returns false'. Refute it at one input. -/
def policyLongerWrong : ChangeSpec := { name := "policyLonger", fn := fun _ => fun
  | [d] => { results := [.lit (.bool false)], args := [d] }
  | _ => none }
def PolicyLongerWrongFalsely : Prop := policyLongerRow.holds Try.pinned (OpenSpec.ofChange policyLongerWrong)

/-- 'sealingwaxlaw14.PolicyBorder': WHATEVER THE INPUT: true; the input reads as it did. -/
def policyBorderSpec : ChangeSpec := { name := "policyBorder", fn := fun _ => fun
  | [d] => { results := [.lit (.bool true)], args := [d] }
  | _ => none }
def policyBorderRow : OpenClaim := { program := "ytkmcafdgbdolgaa", sum := "f4d764636212a695552d0d2cc595f8dc08566723779b4af61ec7a622e3a12436", func := "sealingwax/sealingwaxlaw14.PolicyBorder", spec := "policyBorder", apart := false }
def PolicyBorderSaid : Prop := policyBorderRow.holds Try.pinned (OpenSpec.ofChange policyBorderSpec)

/-- ITS FALSE NEIGHBOUR: 'it returns false'. Refute it at one input. -/
def policyBorderWrong : ChangeSpec := { name := "policyBorder", fn := fun _ => fun
  | [d] => { results := [.lit (.bool false)], args := [d] }
  | _ => none }
def PolicyBorderWrongFalsely : Prop := policyBorderRow.holds Try.pinned (OpenSpec.ofChange policyBorderWrong)

/-- 'sealingwaxlaw14.PolicyTicks': WHATEVER THE INPUT: true; the input reads as it did. -/
def policyTicksSpec : ChangeSpec := { name := "policyTicks", fn := fun _ => fun
  | [d] => { results := [.lit (.bool true)], args := [d] }
  | _ => none }
def policyTicksRow : OpenClaim := { program := "ytkmcafdgbdolgaa", sum := "f4d764636212a695552d0d2cc595f8dc08566723779b4af61ec7a622e3a12436", func := "sealingwax/sealingwaxlaw14.PolicyTicks", spec := "policyTicks", apart := false }
def PolicyTicksSaid : Prop := policyTicksRow.holds Try.pinned (OpenSpec.ofChange policyTicksSpec)

/-- ITS FALSE NEIGHBOUR: 'it returns false'. Refute it at one input. -/
def policyTicksWrong : ChangeSpec := { name := "policyTicks", fn := fun _ => fun
  | [d] => { results := [.lit (.bool false)], args := [d] }
  | _ => none }
def PolicyTicksWrongFalsely : Prop := policyTicksRow.holds Try.pinned (OpenSpec.ofChange policyTicksWrong)

/- THE SECOND FORM. 'bulk': how many values and letters a reading holds, each counted each time it is reached (what is shared counts as often as it is met; a slice's spare places count too). A statement '..UptoSaid' is the law's where the arguments, and the package variables that the reading takes, are together of bulk at most 1048576: NARROWER than '..Said'. Prove '..Said' where nothing that the law and all that it calls make is longer than what came in: it says more and counts as full. Else prove '..UptoSaid'. A law counts once. -/
mutual
def uptoBulk {H : Type} : DataW H → Nat
  | .lit (.string bytes) => bytes.length + 1
  | .lit _ => 1
  | .nil => 1
  | .ptr d => uptoBulk d + 1
  | .slice elems spare => uptoBulkAll elems + uptoBulkAll spare + 1
  | .agg parts => uptoBulkAll parts + 1
  | .iface _ d => uptoBulk d + 1
  | .map entries => uptoBulkEntries entries + 1
  | .held _ => 1
def uptoBulkAll {H : Type} : List (DataW H) → Nat
  | [] => 0
  | d :: r => uptoBulk d + uptoBulkAll r
def uptoBulkEntries {H : Type} : List (Lit × DataW H) → Nat
  | [] => 0
  | x :: r => uptoBulkEntry x + uptoBulkEntries r
def uptoBulkEntry {H : Type} : Lit × DataW H → Nat
  | (.string bytes, d) => bytes.length + uptoBulk d + 1
  | (_, d) => uptoBulk d + 1
 end
def uptoSmall : (H : Type) → List (DataW H) → Bool := fun _ ds => decide (uptoBulkAll ds ≤ 1048576)
def OpenSpec.upto (s : _root_.Go.ChangeSpec) : _root_.Go.OpenSpec := { _root_.Go.OpenSpec.ofChange s with cond := some uptoSmall }

/-- 'sealingwaxlaw14.PolicyTell', WHERE WHAT IT READS IS OF BULK AT MOST 1048576: true; the input reads as it did. -/
def policyTellUptoRow : OpenClaim := { program := "ytkmcafdgbdolgaa", sum := "f4d764636212a695552d0d2cc595f8dc08566723779b4af61ec7a622e3a12436", func := "sealingwax/sealingwaxlaw14.PolicyTell", spec := "policyTell", apart := false, narrowed := true }
def PolicyTellUptoSaid : Prop := policyTellUptoRow.holds Try.pinned (OpenSpec.upto policyTellSpec)

/-- 'sealingwaxlaw14.PolicyOn', WHERE WHAT IT READS IS OF BULK AT MOST 1048576: true; the input reads as it did. -/
def policyOnUptoRow : OpenClaim := { program := "ytkmcafdgbdolgaa", sum := "f4d764636212a695552d0d2cc595f8dc08566723779b4af61ec7a622e3a12436", func := "sealingwax/sealingwaxlaw14.PolicyOn", spec := "policyOn", apart := false, narrowed := true }
def PolicyOnUptoSaid : Prop := policyOnUptoRow.holds Try.pinned (OpenSpec.upto policyOnSpec)

/-- 'sealingwaxlaw14.PolicyLonger', WHERE WHAT IT READS IS OF BULK AT MOST 1048576: true; the input reads as it did. -/
def policyLongerUptoRow : OpenClaim := { program := "ytkmcafdgbdolgaa", sum := "f4d764636212a695552d0d2cc595f8dc08566723779b4af61ec7a622e3a12436", func := "sealingwax/sealingwaxlaw14.PolicyLonger", spec := "policyLonger", apart := false, narrowed := true }
def PolicyLongerUptoSaid : Prop := policyLongerUptoRow.holds Try.pinned (OpenSpec.upto policyLongerSpec)

/-- 'sealingwaxlaw14.PolicyBorder', WHERE WHAT IT READS IS OF BULK AT MOST 1048576: true; the input reads as it did. -/
def policyBorderUptoRow : OpenClaim := { program := "ytkmcafdgbdolgaa", sum := "f4d764636212a695552d0d2cc595f8dc08566723779b4af61ec7a622e3a12436", func := "sealingwax/sealingwaxlaw14.PolicyBorder", spec := "policyBorder", apart := false, narrowed := true }
def PolicyBorderUptoSaid : Prop := policyBorderUptoRow.holds Try.pinned (OpenSpec.upto policyBorderSpec)

/-- 'sealingwaxlaw14.PolicyTicks', WHERE WHAT IT READS IS OF BULK AT MOST 1048576: true; the input reads as it did. -/
def policyTicksUptoRow : OpenClaim := { program := "ytkmcafdgbdolgaa", sum := "f4d764636212a695552d0d2cc595f8dc08566723779b4af61ec7a622e3a12436", func := "sealingwax/sealingwaxlaw14.PolicyTicks", spec := "policyTicks", apart := false, narrowed := true }
def PolicyTicksUptoSaid : Prop := policyTicksUptoRow.holds Try.pinned (OpenSpec.upto policyTicksSpec)

end Rows
end Go.Proofs.Ytkmcafdgbdolgaa
