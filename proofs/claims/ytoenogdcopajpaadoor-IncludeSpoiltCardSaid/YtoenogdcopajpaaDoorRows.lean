/-
  NARROWER THAN 'FOR EVERY INPUT', by the rows' own cells (each row's printed sentence says how): IncludeProve: laid · IncludeCheck: laid · IncludeAll: laid · IncludeSpoilt: laid · IncludeRoots: laid · IncludeLength: laid · IncludeWhole: laid.
  DERIVED. THE GIVEN ROWS OF THIS SEAT. 7 by the template 'for every input the law returns true; each argument reads behind the call as it read before'; 0 by the template 'total and deterministic' (their statements: YtoenogdcopajpaaDoorTotals.lean).
  GIVEN WITH THE SEED: the statements are not yours to turn. If you find one false, say at which input.
  Laid BY PROGRAM, IN A SANDBOX (cutbox-rows.mjs): the forced cells as the released guide's own fill.sh prints them over the translation 28b9670494a45933… (all of the seat's roots in one cut). By AI agents, Wed Nov 11 2026. No macro, syntax, notation, axiom, sorry.
-/
import Derived.Test.YtoenogdcopajpaaDoorChecked
import GoSem.Claim
import GoSem.ClaimJoined
import GoSem.ClaimMapViews
import Derived.JoinedTies
import Derived.KernelRfl
namespace Go.Proofs.YtoenogdcopajpaaDoor
/- THE CELL 'sum', in the pinned program and in every row, IS THE sha256 OF THE DUMP (.gsa) THAT YtoenogdcopajpaaDoorProg.lean LOADS. Nothing in Lean hashes anything: it is a label: what it is worth is what the hold of that sum in a sandbox is worth. -/
noncomputable def Tryd.pinned : Pinned := { name := "ytoenogdcopajpaadoor", sum := "28b9670494a45933b7577888dff8666aa5b8cd27e7ee70f784163935f864c25a", checked := Tryd.checked }
namespace Rows
def none {H : Type} : Left H := { results := [], args := [] }

/- WHAT THE LISTED PACKAGE-LEVEL VARIABLES READ AS WHEN THE CALL BEGINS. Each datum BY PROGRAM (the guide's laid-datum.mjs) off the statement by which the dump's own 'gosem.cut.vars' lays the variable. In a bare row this is a premise. The card (YtoenogdcopajpaaDoorCards.lean) ties it to the program's text. -/
def laid_sealingwax_sealingwaxref02_k {H : Type} : DataW H := .agg [.lit (.int .u32 1116352408), .lit (.int .u32 1899447441), .lit (.int .u32 3049323471), .lit (.int .u32 3921009573), .lit (.int .u32 961987163), .lit (.int .u32 1508970993), .lit (.int .u32 2453635748), .lit (.int .u32 2870763221), .lit (.int .u32 3624381080), .lit (.int .u32 310598401), .lit (.int .u32 607225278), .lit (.int .u32 1426881987), .lit (.int .u32 1925078388), .lit (.int .u32 2162078206), .lit (.int .u32 2614888103), .lit (.int .u32 3248222580), .lit (.int .u32 3835390401), .lit (.int .u32 4022224774), .lit (.int .u32 264347078), .lit (.int .u32 604807628), .lit (.int .u32 770255983), .lit (.int .u32 1249150122), .lit (.int .u32 1555081692), .lit (.int .u32 1996064986), .lit (.int .u32 2554220882), .lit (.int .u32 2821834349), .lit (.int .u32 2952996808), .lit (.int .u32 3210313671), .lit (.int .u32 3336571891), .lit (.int .u32 3584528711), .lit (.int .u32 113926993), .lit (.int .u32 338241895), .lit (.int .u32 666307205), .lit (.int .u32 773529912), .lit (.int .u32 1294757372), .lit (.int .u32 1396182291), .lit (.int .u32 1695183700), .lit (.int .u32 1986661051), .lit (.int .u32 2177026350), .lit (.int .u32 2456956037), .lit (.int .u32 2730485921), .lit (.int .u32 2820302411), .lit (.int .u32 3259730800), .lit (.int .u32 3345764771), .lit (.int .u32 3516065817), .lit (.int .u32 3600352804), .lit (.int .u32 4094571909), .lit (.int .u32 275423344), .lit (.int .u32 430227734), .lit (.int .u32 506948616), .lit (.int .u32 659060556), .lit (.int .u32 883997877), .lit (.int .u32 958139571), .lit (.int .u32 1322822218), .lit (.int .u32 1537002063), .lit (.int .u32 1747873779), .lit (.int .u32 1955562222), .lit (.int .u32 2024104815), .lit (.int .u32 2227730452), .lit (.int .u32 2361852424), .lit (.int .u32 2428436474), .lit (.int .u32 2756734187), .lit (.int .u32 3204031479), .lit (.int .u32 3329325298)]
def laid_sealingwax_sha_table {H : Type} : DataW H := .agg [.lit (.int .u32 1116352408), .lit (.int .u32 1899447441), .lit (.int .u32 3049323471), .lit (.int .u32 3921009573), .lit (.int .u32 961987163), .lit (.int .u32 1508970993), .lit (.int .u32 2453635748), .lit (.int .u32 2870763221), .lit (.int .u32 3624381080), .lit (.int .u32 310598401), .lit (.int .u32 607225278), .lit (.int .u32 1426881987), .lit (.int .u32 1925078388), .lit (.int .u32 2162078206), .lit (.int .u32 2614888103), .lit (.int .u32 3248222580), .lit (.int .u32 3835390401), .lit (.int .u32 4022224774), .lit (.int .u32 264347078), .lit (.int .u32 604807628), .lit (.int .u32 770255983), .lit (.int .u32 1249150122), .lit (.int .u32 1555081692), .lit (.int .u32 1996064986), .lit (.int .u32 2554220882), .lit (.int .u32 2821834349), .lit (.int .u32 2952996808), .lit (.int .u32 3210313671), .lit (.int .u32 3336571891), .lit (.int .u32 3584528711), .lit (.int .u32 113926993), .lit (.int .u32 338241895), .lit (.int .u32 666307205), .lit (.int .u32 773529912), .lit (.int .u32 1294757372), .lit (.int .u32 1396182291), .lit (.int .u32 1695183700), .lit (.int .u32 1986661051), .lit (.int .u32 2177026350), .lit (.int .u32 2456956037), .lit (.int .u32 2730485921), .lit (.int .u32 2820302411), .lit (.int .u32 3259730800), .lit (.int .u32 3345764771), .lit (.int .u32 3516065817), .lit (.int .u32 3600352804), .lit (.int .u32 4094571909), .lit (.int .u32 275423344), .lit (.int .u32 430227734), .lit (.int .u32 506948616), .lit (.int .u32 659060556), .lit (.int .u32 883997877), .lit (.int .u32 958139571), .lit (.int .u32 1322822218), .lit (.int .u32 1537002063), .lit (.int .u32 1747873779), .lit (.int .u32 1955562222), .lit (.int .u32 2024104815), .lit (.int .u32 2227730452), .lit (.int .u32 2361852424), .lit (.int .u32 2428436474), .lit (.int .u32 2756734187), .lit (.int .u32 3204031479), .lit (.int .u32 3329325298)]
def laid_sealingwax_sha_begin {H : Type} : DataW H := .agg [.lit (.int .u32 1779033703), .lit (.int .u32 3144134277), .lit (.int .u32 1013904242), .lit (.int .u32 2773480762), .lit (.int .u32 1359893119), .lit (.int .u32 2600822924), .lit (.int .u32 528734635), .lit (.int .u32 1541459225)]

/-- 'sealingwaxlaw11.IncludeProve': WHATEVER THE INPUT: true; the input reads as it did. -/
def includeProveSpec : ChangeSpec := { name := "includeProve", fn := fun _ => fun
  | [d1, d2] => { results := [.lit (.bool true)], args := [d1, d2] }
  | _ => none }
def includeProveRow : OpenClaim := { program := "ytoenogdcopajpaadoor", sum := "28b9670494a45933b7577888dff8666aa5b8cd27e7ee70f784163935f864c25a", func := "sealingwax/sealingwaxlaw11.IncludeProve", spec := "includeProve", unfollowed := true, recurses := true, named := ["sealingwax/sha.begin", "sealingwax/sha.table", "sealingwax/sealingwaxref02.k"], apart := false, laid := [("sealingwax/sealingwaxref02.k", laid_sealingwax_sealingwaxref02_k), ("sealingwax/sha.table", laid_sealingwax_sha_table), ("sealingwax/sha.begin", laid_sealingwax_sha_begin)] }
def IncludeProveSaid : Prop := includeProveRow.holds Tryd.pinned (OpenSpec.ofChange includeProveSpec)

/-- ITS FALSE NEIGHBOUR: 'it returns false'. Refute it at one input. -/
def includeProveWrong : ChangeSpec := { name := "includeProve", fn := fun _ => fun
  | [d1, d2] => { results := [.lit (.bool false)], args := [d1, d2] }
  | _ => none }
def IncludeProveWrongFalsely : Prop := includeProveRow.holds Tryd.pinned (OpenSpec.ofChange includeProveWrong)

/-- 'sealingwaxlaw11.IncludeCheck': WHATEVER THE INPUT: true; the input reads as it did. -/
def includeCheckSpec : ChangeSpec := { name := "includeCheck", fn := fun _ => fun
  | [d] => { results := [.lit (.bool true)], args := [d] }
  | _ => none }
def includeCheckRow : OpenClaim := { program := "ytoenogdcopajpaadoor", sum := "28b9670494a45933b7577888dff8666aa5b8cd27e7ee70f784163935f864c25a", func := "sealingwax/sealingwaxlaw11.IncludeCheck", spec := "includeCheck", unfollowed := true, recurses := true, named := ["sealingwax/sha.begin", "sealingwax/sha.table", "sealingwax/sealingwaxref02.k"], apart := false, laid := [("sealingwax/sealingwaxref02.k", laid_sealingwax_sealingwaxref02_k), ("sealingwax/sha.table", laid_sealingwax_sha_table), ("sealingwax/sha.begin", laid_sealingwax_sha_begin)] }
def IncludeCheckSaid : Prop := includeCheckRow.holds Tryd.pinned (OpenSpec.ofChange includeCheckSpec)

/-- ITS FALSE NEIGHBOUR: 'it returns false'. Refute it at one input. -/
def includeCheckWrong : ChangeSpec := { name := "includeCheck", fn := fun _ => fun
  | [d] => { results := [.lit (.bool false)], args := [d] }
  | _ => none }
def IncludeCheckWrongFalsely : Prop := includeCheckRow.holds Tryd.pinned (OpenSpec.ofChange includeCheckWrong)

/-- 'sealingwaxlaw11.IncludeAll': WHATEVER THE INPUT: true; the input reads as it did. -/
def includeAllSpec : ChangeSpec := { name := "includeAll", fn := fun _ => fun
  | [d1, d2] => { results := [.lit (.bool true)], args := [d1, d2] }
  | _ => none }
def includeAllRow : OpenClaim := { program := "ytoenogdcopajpaadoor", sum := "28b9670494a45933b7577888dff8666aa5b8cd27e7ee70f784163935f864c25a", func := "sealingwax/sealingwaxlaw11.IncludeAll", spec := "includeAll", unfollowed := true, recurses := true, named := ["sealingwax/sha.begin", "sealingwax/sha.table"], apart := false, laid := [("sealingwax/sha.table", laid_sealingwax_sha_table), ("sealingwax/sha.begin", laid_sealingwax_sha_begin)] }
def IncludeAllSaid : Prop := includeAllRow.holds Tryd.pinned (OpenSpec.ofChange includeAllSpec)

/-- ITS FALSE NEIGHBOUR: 'it returns false'. Refute it at one input. -/
def includeAllWrong : ChangeSpec := { name := "includeAll", fn := fun _ => fun
  | [d1, d2] => { results := [.lit (.bool false)], args := [d1, d2] }
  | _ => none }
def IncludeAllWrongFalsely : Prop := includeAllRow.holds Tryd.pinned (OpenSpec.ofChange includeAllWrong)

/-- 'sealingwaxlaw11.IncludeSpoilt': WHATEVER THE INPUT: true; the input reads as it did. -/
def includeSpoiltSpec : ChangeSpec := { name := "includeSpoilt", fn := fun _ => fun
  | [d1, d2, d3] => { results := [.lit (.bool true)], args := [d1, d2, d3] }
  | _ => none }
def includeSpoiltRow : OpenClaim := { program := "ytoenogdcopajpaadoor", sum := "28b9670494a45933b7577888dff8666aa5b8cd27e7ee70f784163935f864c25a", func := "sealingwax/sealingwaxlaw11.IncludeSpoilt", spec := "includeSpoilt", unfollowed := true, recurses := true, named := ["sealingwax/sha.begin", "sealingwax/sha.table"], apart := false, laid := [("sealingwax/sha.table", laid_sealingwax_sha_table), ("sealingwax/sha.begin", laid_sealingwax_sha_begin)] }
def IncludeSpoiltSaid : Prop := includeSpoiltRow.holds Tryd.pinned (OpenSpec.ofChange includeSpoiltSpec)

/-- ITS FALSE NEIGHBOUR: 'it returns false'. Refute it at one input. -/
def includeSpoiltWrong : ChangeSpec := { name := "includeSpoilt", fn := fun _ => fun
  | [d1, d2, d3] => { results := [.lit (.bool false)], args := [d1, d2, d3] }
  | _ => none }
def IncludeSpoiltWrongFalsely : Prop := includeSpoiltRow.holds Tryd.pinned (OpenSpec.ofChange includeSpoiltWrong)

/-- 'sealingwaxlaw11.IncludeRoots': WHATEVER THE INPUT: true; the input reads as it did. -/
def includeRootsSpec : ChangeSpec := { name := "includeRoots", fn := fun _ => fun
  | [d1, d2] => { results := [.lit (.bool true)], args := [d1, d2] }
  | _ => none }
def includeRootsRow : OpenClaim := { program := "ytoenogdcopajpaadoor", sum := "28b9670494a45933b7577888dff8666aa5b8cd27e7ee70f784163935f864c25a", func := "sealingwax/sealingwaxlaw11.IncludeRoots", spec := "includeRoots", unfollowed := true, recurses := true, named := ["sealingwax/sha.begin", "sealingwax/sha.table"], apart := false, laid := [("sealingwax/sha.table", laid_sealingwax_sha_table), ("sealingwax/sha.begin", laid_sealingwax_sha_begin)] }
def IncludeRootsSaid : Prop := includeRootsRow.holds Tryd.pinned (OpenSpec.ofChange includeRootsSpec)

/-- ITS FALSE NEIGHBOUR: 'it returns false'. Refute it at one input. -/
def includeRootsWrong : ChangeSpec := { name := "includeRoots", fn := fun _ => fun
  | [d1, d2] => { results := [.lit (.bool false)], args := [d1, d2] }
  | _ => none }
def IncludeRootsWrongFalsely : Prop := includeRootsRow.holds Tryd.pinned (OpenSpec.ofChange includeRootsWrong)

/-- 'sealingwaxlaw11.IncludeLength': WHATEVER THE INPUT: true; the input reads as it did. -/
def includeLengthSpec : ChangeSpec := { name := "includeLength", fn := fun _ => fun
  | [d1, d2] => { results := [.lit (.bool true)], args := [d1, d2] }
  | _ => none }
def includeLengthRow : OpenClaim := { program := "ytoenogdcopajpaadoor", sum := "28b9670494a45933b7577888dff8666aa5b8cd27e7ee70f784163935f864c25a", func := "sealingwax/sealingwaxlaw11.IncludeLength", spec := "includeLength", unfollowed := true, recurses := true, named := ["sealingwax/sha.begin", "sealingwax/sha.table"], apart := false, laid := [("sealingwax/sha.table", laid_sealingwax_sha_table), ("sealingwax/sha.begin", laid_sealingwax_sha_begin)] }
def IncludeLengthSaid : Prop := includeLengthRow.holds Tryd.pinned (OpenSpec.ofChange includeLengthSpec)

/-- ITS FALSE NEIGHBOUR: 'it returns false'. Refute it at one input. -/
def includeLengthWrong : ChangeSpec := { name := "includeLength", fn := fun _ => fun
  | [d1, d2] => { results := [.lit (.bool false)], args := [d1, d2] }
  | _ => none }
def IncludeLengthWrongFalsely : Prop := includeLengthRow.holds Tryd.pinned (OpenSpec.ofChange includeLengthWrong)

/-- 'sealingwaxlaw11.IncludeWhole': WHATEVER THE INPUT: true; the input reads as it did. -/
def includeWholeSpec : ChangeSpec := { name := "includeWhole", fn := fun _ => fun
  | [d1, d2] => { results := [.lit (.bool true)], args := [d1, d2] }
  | _ => none }
def includeWholeRow : OpenClaim := { program := "ytoenogdcopajpaadoor", sum := "28b9670494a45933b7577888dff8666aa5b8cd27e7ee70f784163935f864c25a", func := "sealingwax/sealingwaxlaw11.IncludeWhole", spec := "includeWhole", unfollowed := true, recurses := true, named := ["sealingwax/sha.begin", "sealingwax/sha.table"], apart := false, laid := [("sealingwax/sha.table", laid_sealingwax_sha_table), ("sealingwax/sha.begin", laid_sealingwax_sha_begin)] }
def IncludeWholeSaid : Prop := includeWholeRow.holds Tryd.pinned (OpenSpec.ofChange includeWholeSpec)

/-- ITS FALSE NEIGHBOUR: 'it returns false'. Refute it at one input. -/
def includeWholeWrong : ChangeSpec := { name := "includeWhole", fn := fun _ => fun
  | [d1, d2] => { results := [.lit (.bool false)], args := [d1, d2] }
  | _ => none }
def IncludeWholeWrongFalsely : Prop := includeWholeRow.holds Tryd.pinned (OpenSpec.ofChange includeWholeWrong)

/- THE SECOND FORM. 'bulk': how many values and letters a reading holds, each counted each time it is reached (what is shared counts as often as it is met; a slice's spare places count too). A statement '..UptoSaid' is the law's where the arguments, and the package variables that the reading takes, are together of bulk at most 1048576: NARROWER than '..Said'. Prove '..Said' where nothing that the law and all that it calls make is longer than what came in: it says more and counts as full. Else prove '..UptoSaid'. A law counts once. -/
mutual
def uptoBulk {H : Type} : DataW H → Nat
  | .lit (.string bytes) => bytes.length + 1
  | .lit _ => 1
  | .nil => 1
  | .ptr d => uptoBulk d + 1
  | .slice elems spare => uptoBulkAll elems + uptoBulkAll spare + 1
  | .agg parts => uptoBulkAll parts + 1
  | .iface _ d => uptoBulk d + 1
  | .map entries => uptoBulkEntries entries + 1
  | .held _ => 1
def uptoBulkAll {H : Type} : List (DataW H) → Nat
  | [] => 0
  | d :: r => uptoBulk d + uptoBulkAll r
def uptoBulkEntries {H : Type} : List (Lit × DataW H) → Nat
  | [] => 0
  | x :: r => uptoBulkEntry x + uptoBulkEntries r
def uptoBulkEntry {H : Type} : Lit × DataW H → Nat
  | (.string bytes, d) => bytes.length + uptoBulk d + 1
  | (_, d) => uptoBulk d + 1
 end
def uptoSmall : (H : Type) → List (DataW H) → Bool := fun _ ds => decide (uptoBulkAll ds ≤ 1048576)
def OpenSpec.upto (s : _root_.Go.ChangeSpec) : _root_.Go.OpenSpec := { _root_.Go.OpenSpec.ofChange s with cond := some uptoSmall }

/-- 'sealingwaxlaw11.IncludeProve', WHERE WHAT IT READS IS OF BULK AT MOST 1048576: true; the input reads as it did. -/
def includeProveUptoRow : OpenClaim := { program := "ytoenogdcopajpaadoor", sum := "28b9670494a45933b7577888dff8666aa5b8cd27e7ee70f784163935f864c25a", func := "sealingwax/sealingwaxlaw11.IncludeProve", spec := "includeProve", unfollowed := true, recurses := true, named := ["sealingwax/sha.begin", "sealingwax/sha.table", "sealingwax/sealingwaxref02.k"], apart := false, laid := [("sealingwax/sealingwaxref02.k", laid_sealingwax_sealingwaxref02_k), ("sealingwax/sha.table", laid_sealingwax_sha_table), ("sealingwax/sha.begin", laid_sealingwax_sha_begin)], narrowed := true }
def IncludeProveUptoSaid : Prop := includeProveUptoRow.holds Tryd.pinned (OpenSpec.upto includeProveSpec)

/-- 'sealingwaxlaw11.IncludeCheck', WHERE WHAT IT READS IS OF BULK AT MOST 1048576: true; the input reads as it did. -/
def includeCheckUptoRow : OpenClaim := { program := "ytoenogdcopajpaadoor", sum := "28b9670494a45933b7577888dff8666aa5b8cd27e7ee70f784163935f864c25a", func := "sealingwax/sealingwaxlaw11.IncludeCheck", spec := "includeCheck", unfollowed := true, recurses := true, named := ["sealingwax/sha.begin", "sealingwax/sha.table", "sealingwax/sealingwaxref02.k"], apart := false, laid := [("sealingwax/sealingwaxref02.k", laid_sealingwax_sealingwaxref02_k), ("sealingwax/sha.table", laid_sealingwax_sha_table), ("sealingwax/sha.begin", laid_sealingwax_sha_begin)], narrowed := true }
def IncludeCheckUptoSaid : Prop := includeCheckUptoRow.holds Tryd.pinned (OpenSpec.upto includeCheckSpec)

/-- 'sealingwaxlaw11.IncludeAll', WHERE WHAT IT READS IS OF BULK AT MOST 1048576: true; the input reads as it did. -/
def includeAllUptoRow : OpenClaim := { program := "ytoenogdcopajpaadoor", sum := "28b9670494a45933b7577888dff8666aa5b8cd27e7ee70f784163935f864c25a", func := "sealingwax/sealingwaxlaw11.IncludeAll", spec := "includeAll", unfollowed := true, recurses := true, named := ["sealingwax/sha.begin", "sealingwax/sha.table"], apart := false, laid := [("sealingwax/sha.table", laid_sealingwax_sha_table), ("sealingwax/sha.begin", laid_sealingwax_sha_begin)], narrowed := true }
def IncludeAllUptoSaid : Prop := includeAllUptoRow.holds Tryd.pinned (OpenSpec.upto includeAllSpec)

/-- 'sealingwaxlaw11.IncludeSpoilt', WHERE WHAT IT READS IS OF BULK AT MOST 1048576: true; the input reads as it did. -/
def includeSpoiltUptoRow : OpenClaim := { program := "ytoenogdcopajpaadoor", sum := "28b9670494a45933b7577888dff8666aa5b8cd27e7ee70f784163935f864c25a", func := "sealingwax/sealingwaxlaw11.IncludeSpoilt", spec := "includeSpoilt", unfollowed := true, recurses := true, named := ["sealingwax/sha.begin", "sealingwax/sha.table"], apart := false, laid := [("sealingwax/sha.table", laid_sealingwax_sha_table), ("sealingwax/sha.begin", laid_sealingwax_sha_begin)], narrowed := true }
def IncludeSpoiltUptoSaid : Prop := includeSpoiltUptoRow.holds Tryd.pinned (OpenSpec.upto includeSpoiltSpec)

/-- 'sealingwaxlaw11.IncludeRoots', WHERE WHAT IT READS IS OF BULK AT MOST 1048576: true; the input reads as it did. -/
def includeRootsUptoRow : OpenClaim := { program := "ytoenogdcopajpaadoor", sum := "28b9670494a45933b7577888dff8666aa5b8cd27e7ee70f784163935f864c25a", func := "sealingwax/sealingwaxlaw11.IncludeRoots", spec := "includeRoots", unfollowed := true, recurses := true, named := ["sealingwax/sha.begin", "sealingwax/sha.table"], apart := false, laid := [("sealingwax/sha.table", laid_sealingwax_sha_table), ("sealingwax/sha.begin", laid_sealingwax_sha_begin)], narrowed := true }
def IncludeRootsUptoSaid : Prop := includeRootsUptoRow.holds Tryd.pinned (OpenSpec.upto includeRootsSpec)

/-- 'sealingwaxlaw11.IncludeLength', WHERE WHAT IT READS IS OF BULK AT MOST 1048576: true; the input reads as it did. -/
def includeLengthUptoRow : OpenClaim := { program := "ytoenogdcopajpaadoor", sum := "28b9670494a45933b7577888dff8666aa5b8cd27e7ee70f784163935f864c25a", func := "sealingwax/sealingwaxlaw11.IncludeLength", spec := "includeLength", unfollowed := true, recurses := true, named := ["sealingwax/sha.begin", "sealingwax/sha.table"], apart := false, laid := [("sealingwax/sha.table", laid_sealingwax_sha_table), ("sealingwax/sha.begin", laid_sealingwax_sha_begin)], narrowed := true }
def IncludeLengthUptoSaid : Prop := includeLengthUptoRow.holds Tryd.pinned (OpenSpec.upto includeLengthSpec)

/-- 'sealingwaxlaw11.IncludeWhole', WHERE WHAT IT READS IS OF BULK AT MOST 1048576: true; the input reads as it did. -/
def includeWholeUptoRow : OpenClaim := { program := "ytoenogdcopajpaadoor", sum := "28b9670494a45933b7577888dff8666aa5b8cd27e7ee70f784163935f864c25a", func := "sealingwax/sealingwaxlaw11.IncludeWhole", spec := "includeWhole", unfollowed := true, recurses := true, named := ["sealingwax/sha.begin", "sealingwax/sha.table"], apart := false, laid := [("sealingwax/sha.table", laid_sealingwax_sha_table), ("sealingwax/sha.begin", laid_sealingwax_sha_begin)], narrowed := true }
def IncludeWholeUptoSaid : Prop := includeWholeUptoRow.holds Tryd.pinned (OpenSpec.upto includeWholeSpec)

end Rows
end Go.Proofs.YtoenogdcopajpaaDoor
