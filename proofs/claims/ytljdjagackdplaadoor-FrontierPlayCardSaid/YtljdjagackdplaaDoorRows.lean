/-
  NARROWER THAN 'FOR EVERY INPUT', by the rows' own cells (each row's printed sentence says how): RootsTell: laid · RootsSplit: laid · RootsParts: laid · RootsApart: laid · RootsGrown: laid · RootsLevels: laid · FrontierPlay: laid · FrontierNone: laid · FrontierRoot: laid · FrontierOn: laid · FrontierFull: laid.
  DERIVED. THE GIVEN ROWS OF THIS SEAT. 11 by the template 'for every input the law returns true; each argument reads behind the call as it read before'; 0 by the template 'total and deterministic' (their statements: YtljdjagackdplaaDoorTotals.lean).
  GIVEN WITH THE SEED: the statements are not yours to turn. If you find one false, say at which input.
  Laid BY PROGRAM, IN A SANDBOX (cutbox-rows.mjs): the forced cells as the released guide's own fill.sh prints them over the translation 33330fabe83f10f2… (all of the seat's roots in one cut). By AI agents, Wed Nov 11 2026. No macro, syntax, notation, axiom, sorry.
-/
import Derived.Test.YtljdjagackdplaaDoorChecked
import GoSem.Claim
import GoSem.ClaimJoined
import GoSem.ClaimMapViews
import Derived.JoinedTies
import Derived.KernelRfl
namespace Go.Proofs.YtljdjagackdplaaDoor
/- THE CELL 'sum', in the pinned program and in every row, IS THE sha256 OF THE DUMP (.gsa) THAT YtljdjagackdplaaDoorProg.lean LOADS. Nothing in Lean hashes anything: it is a label: what it is worth is what the hold of that sum in a sandbox is worth. -/
noncomputable def Tryd.pinned : Pinned := { name := "ytljdjagackdplaadoor", sum := "33330fabe83f10f28d2d9ef98f7e8bdfc68ee5d9de69f8deb4e69ed5065359e9", checked := Tryd.checked }
namespace Rows
def none {H : Type} : Left H := { results := [], args := [] }

/- WHAT THE LISTED PACKAGE-LEVEL VARIABLES READ AS WHEN THE CALL BEGINS. Each datum BY PROGRAM (the guide's laid-datum.mjs) off the statement by which the dump's own 'gosem.cut.vars' lays the variable. In a bare row this is a premise. The card (YtljdjagackdplaaDoorCards.lean) ties it to the program's text. -/
def laid_sealingwax_sealingwaxref02_k {H : Type} : DataW H := .agg [.lit (.int .u32 1116352408), .lit (.int .u32 1899447441), .lit (.int .u32 3049323471), .lit (.int .u32 3921009573), .lit (.int .u32 961987163), .lit (.int .u32 1508970993), .lit (.int .u32 2453635748), .lit (.int .u32 2870763221), .lit (.int .u32 3624381080), .lit (.int .u32 310598401), .lit (.int .u32 607225278), .lit (.int .u32 1426881987), .lit (.int .u32 1925078388), .lit (.int .u32 2162078206), .lit (.int .u32 2614888103), .lit (.int .u32 3248222580), .lit (.int .u32 3835390401), .lit (.int .u32 4022224774), .lit (.int .u32 264347078), .lit (.int .u32 604807628), .lit (.int .u32 770255983), .lit (.int .u32 1249150122), .lit (.int .u32 1555081692), .lit (.int .u32 1996064986), .lit (.int .u32 2554220882), .lit (.int .u32 2821834349), .lit (.int .u32 2952996808), .lit (.int .u32 3210313671), .lit (.int .u32 3336571891), .lit (.int .u32 3584528711), .lit (.int .u32 113926993), .lit (.int .u32 338241895), .lit (.int .u32 666307205), .lit (.int .u32 773529912), .lit (.int .u32 1294757372), .lit (.int .u32 1396182291), .lit (.int .u32 1695183700), .lit (.int .u32 1986661051), .lit (.int .u32 2177026350), .lit (.int .u32 2456956037), .lit (.int .u32 2730485921), .lit (.int .u32 2820302411), .lit (.int .u32 3259730800), .lit (.int .u32 3345764771), .lit (.int .u32 3516065817), .lit (.int .u32 3600352804), .lit (.int .u32 4094571909), .lit (.int .u32 275423344), .lit (.int .u32 430227734), .lit (.int .u32 506948616), .lit (.int .u32 659060556), .lit (.int .u32 883997877), .lit (.int .u32 958139571), .lit (.int .u32 1322822218), .lit (.int .u32 1537002063), .lit (.int .u32 1747873779), .lit (.int .u32 1955562222), .lit (.int .u32 2024104815), .lit (.int .u32 2227730452), .lit (.int .u32 2361852424), .lit (.int .u32 2428436474), .lit (.int .u32 2756734187), .lit (.int .u32 3204031479), .lit (.int .u32 3329325298)]
def laid_sealingwax_sha_table {H : Type} : DataW H := .agg [.lit (.int .u32 1116352408), .lit (.int .u32 1899447441), .lit (.int .u32 3049323471), .lit (.int .u32 3921009573), .lit (.int .u32 961987163), .lit (.int .u32 1508970993), .lit (.int .u32 2453635748), .lit (.int .u32 2870763221), .lit (.int .u32 3624381080), .lit (.int .u32 310598401), .lit (.int .u32 607225278), .lit (.int .u32 1426881987), .lit (.int .u32 1925078388), .lit (.int .u32 2162078206), .lit (.int .u32 2614888103), .lit (.int .u32 3248222580), .lit (.int .u32 3835390401), .lit (.int .u32 4022224774), .lit (.int .u32 264347078), .lit (.int .u32 604807628), .lit (.int .u32 770255983), .lit (.int .u32 1249150122), .lit (.int .u32 1555081692), .lit (.int .u32 1996064986), .lit (.int .u32 2554220882), .lit (.int .u32 2821834349), .lit (.int .u32 2952996808), .lit (.int .u32 3210313671), .lit (.int .u32 3336571891), .lit (.int .u32 3584528711), .lit (.int .u32 113926993), .lit (.int .u32 338241895), .lit (.int .u32 666307205), .lit (.int .u32 773529912), .lit (.int .u32 1294757372), .lit (.int .u32 1396182291), .lit (.int .u32 1695183700), .lit (.int .u32 1986661051), .lit (.int .u32 2177026350), .lit (.int .u32 2456956037), .lit (.int .u32 2730485921), .lit (.int .u32 2820302411), .lit (.int .u32 3259730800), .lit (.int .u32 3345764771), .lit (.int .u32 3516065817), .lit (.int .u32 3600352804), .lit (.int .u32 4094571909), .lit (.int .u32 275423344), .lit (.int .u32 430227734), .lit (.int .u32 506948616), .lit (.int .u32 659060556), .lit (.int .u32 883997877), .lit (.int .u32 958139571), .lit (.int .u32 1322822218), .lit (.int .u32 1537002063), .lit (.int .u32 1747873779), .lit (.int .u32 1955562222), .lit (.int .u32 2024104815), .lit (.int .u32 2227730452), .lit (.int .u32 2361852424), .lit (.int .u32 2428436474), .lit (.int .u32 2756734187), .lit (.int .u32 3204031479), .lit (.int .u32 3329325298)]
def laid_sealingwax_sha_begin {H : Type} : DataW H := .agg [.lit (.int .u32 1779033703), .lit (.int .u32 3144134277), .lit (.int .u32 1013904242), .lit (.int .u32 2773480762), .lit (.int .u32 1359893119), .lit (.int .u32 2600822924), .lit (.int .u32 528734635), .lit (.int .u32 1541459225)]

/-- 'sealingwaxlaw09.RootsTell': WHATEVER THE INPUT: true; the input reads as it did. -/
def rootsTellSpec : ChangeSpec := { name := "rootsTell", fn := fun _ => fun
  | [d] => { results := [.lit (.bool true)], args := [d] }
  | _ => none }
def rootsTellRow : OpenClaim := { program := "ytljdjagackdplaadoor", sum := "33330fabe83f10f28d2d9ef98f7e8bdfc68ee5d9de69f8deb4e69ed5065359e9", func := "sealingwax/sealingwaxlaw09.RootsTell", spec := "rootsTell", recurses := true, named := ["sealingwax/sha.begin", "sealingwax/sha.table", "sealingwax/sealingwaxref02.k"], apart := false, laid := [("sealingwax/sealingwaxref02.k", laid_sealingwax_sealingwaxref02_k), ("sealingwax/sha.table", laid_sealingwax_sha_table), ("sealingwax/sha.begin", laid_sealingwax_sha_begin)] }
def RootsTellSaid : Prop := rootsTellRow.holds Tryd.pinned (OpenSpec.ofChange rootsTellSpec)

/-- ITS FALSE NEIGHBOUR: 'it returns false'. Refute it at one input. -/
def rootsTellWrong : ChangeSpec := { name := "rootsTell", fn := fun _ => fun
  | [d] => { results := [.lit (.bool false)], args := [d] }
  | _ => none }
def RootsTellWrongFalsely : Prop := rootsTellRow.holds Tryd.pinned (OpenSpec.ofChange rootsTellWrong)

/-- 'sealingwaxlaw09.RootsSplit': WHATEVER THE INPUT: true; the input reads as it did. -/
def rootsSplitSpec : ChangeSpec := { name := "rootsSplit", fn := fun _ => fun
  | [d] => { results := [.lit (.bool true)], args := [d] }
  | _ => none }
def rootsSplitRow : OpenClaim := { program := "ytljdjagackdplaadoor", sum := "33330fabe83f10f28d2d9ef98f7e8bdfc68ee5d9de69f8deb4e69ed5065359e9", func := "sealingwax/sealingwaxlaw09.RootsSplit", spec := "rootsSplit", named := ["sealingwax/sha.begin", "sealingwax/sha.table"], apart := false, laid := [("sealingwax/sha.table", laid_sealingwax_sha_table), ("sealingwax/sha.begin", laid_sealingwax_sha_begin)] }
def RootsSplitSaid : Prop := rootsSplitRow.holds Tryd.pinned (OpenSpec.ofChange rootsSplitSpec)

/-- ITS FALSE NEIGHBOUR: 'it returns false'. Refute it at one input. -/
def rootsSplitWrong : ChangeSpec := { name := "rootsSplit", fn := fun _ => fun
  | [d] => { results := [.lit (.bool false)], args := [d] }
  | _ => none }
def RootsSplitWrongFalsely : Prop := rootsSplitRow.holds Tryd.pinned (OpenSpec.ofChange rootsSplitWrong)

/-- 'sealingwaxlaw09.RootsParts': WHATEVER THE INPUT: true; the input reads as it did. -/
def rootsPartsSpec : ChangeSpec := { name := "rootsParts", fn := fun _ => fun
  | [d] => { results := [.lit (.bool true)], args := [d] }
  | _ => none }
def rootsPartsRow : OpenClaim := { program := "ytljdjagackdplaadoor", sum := "33330fabe83f10f28d2d9ef98f7e8bdfc68ee5d9de69f8deb4e69ed5065359e9", func := "sealingwax/sealingwaxlaw09.RootsParts", spec := "rootsParts", named := ["sealingwax/sha.begin", "sealingwax/sha.table"], apart := false, laid := [("sealingwax/sha.table", laid_sealingwax_sha_table), ("sealingwax/sha.begin", laid_sealingwax_sha_begin)] }
def RootsPartsSaid : Prop := rootsPartsRow.holds Tryd.pinned (OpenSpec.ofChange rootsPartsSpec)

/-- ITS FALSE NEIGHBOUR: 'it returns false'. Refute it at one input. -/
def rootsPartsWrong : ChangeSpec := { name := "rootsParts", fn := fun _ => fun
  | [d] => { results := [.lit (.bool false)], args := [d] }
  | _ => none }
def RootsPartsWrongFalsely : Prop := rootsPartsRow.holds Tryd.pinned (OpenSpec.ofChange rootsPartsWrong)

/-- 'sealingwaxlaw09.RootsApart': WHATEVER THE INPUT: true; the input reads as it did. -/
def rootsApartSpec : ChangeSpec := { name := "rootsApart", fn := fun _ => fun
  | [d1, d2, d3] => { results := [.lit (.bool true)], args := [d1, d2, d3] }
  | _ => none }
def rootsApartRow : OpenClaim := { program := "ytljdjagackdplaadoor", sum := "33330fabe83f10f28d2d9ef98f7e8bdfc68ee5d9de69f8deb4e69ed5065359e9", func := "sealingwax/sealingwaxlaw09.RootsApart", spec := "rootsApart", named := ["sealingwax/sha.begin", "sealingwax/sha.table"], apart := false, laid := [("sealingwax/sha.table", laid_sealingwax_sha_table), ("sealingwax/sha.begin", laid_sealingwax_sha_begin)] }
def RootsApartSaid : Prop := rootsApartRow.holds Tryd.pinned (OpenSpec.ofChange rootsApartSpec)

/-- ITS FALSE NEIGHBOUR: 'it returns false'. Refute it at one input. -/
def rootsApartWrong : ChangeSpec := { name := "rootsApart", fn := fun _ => fun
  | [d1, d2, d3] => { results := [.lit (.bool false)], args := [d1, d2, d3] }
  | _ => none }
def RootsApartWrongFalsely : Prop := rootsApartRow.holds Tryd.pinned (OpenSpec.ofChange rootsApartWrong)

/-- 'sealingwaxlaw09.RootsGrown': WHATEVER THE INPUT: true; the input reads as it did. -/
def rootsGrownSpec : ChangeSpec := { name := "rootsGrown", fn := fun _ => fun
  | [d1, d2, d3] => { results := [.lit (.bool true)], args := [d1, d2, d3] }
  | _ => none }
def rootsGrownRow : OpenClaim := { program := "ytljdjagackdplaadoor", sum := "33330fabe83f10f28d2d9ef98f7e8bdfc68ee5d9de69f8deb4e69ed5065359e9", func := "sealingwax/sealingwaxlaw09.RootsGrown", spec := "rootsGrown", named := ["sealingwax/sha.begin", "sealingwax/sha.table"], apart := false, laid := [("sealingwax/sha.table", laid_sealingwax_sha_table), ("sealingwax/sha.begin", laid_sealingwax_sha_begin)] }
def RootsGrownSaid : Prop := rootsGrownRow.holds Tryd.pinned (OpenSpec.ofChange rootsGrownSpec)

/-- ITS FALSE NEIGHBOUR: 'it returns false'. Refute it at one input. -/
def rootsGrownWrong : ChangeSpec := { name := "rootsGrown", fn := fun _ => fun
  | [d1, d2, d3] => { results := [.lit (.bool false)], args := [d1, d2, d3] }
  | _ => none }
def RootsGrownWrongFalsely : Prop := rootsGrownRow.holds Tryd.pinned (OpenSpec.ofChange rootsGrownWrong)

/-- 'sealingwaxlaw09.RootsLevels': WHATEVER THE INPUT: true; the input reads as it did. -/
def rootsLevelsSpec : ChangeSpec := { name := "rootsLevels", fn := fun _ => fun
  | [d] => { results := [.lit (.bool true)], args := [d] }
  | _ => none }
def rootsLevelsRow : OpenClaim := { program := "ytljdjagackdplaadoor", sum := "33330fabe83f10f28d2d9ef98f7e8bdfc68ee5d9de69f8deb4e69ed5065359e9", func := "sealingwax/sealingwaxlaw09.RootsLevels", spec := "rootsLevels", named := ["sealingwax/sha.begin", "sealingwax/sha.table"], apart := false, laid := [("sealingwax/sha.table", laid_sealingwax_sha_table), ("sealingwax/sha.begin", laid_sealingwax_sha_begin)] }
def RootsLevelsSaid : Prop := rootsLevelsRow.holds Tryd.pinned (OpenSpec.ofChange rootsLevelsSpec)

/-- ITS FALSE NEIGHBOUR: 'it returns false'. Refute it at one input. -/
def rootsLevelsWrong : ChangeSpec := { name := "rootsLevels", fn := fun _ => fun
  | [d] => { results := [.lit (.bool false)], args := [d] }
  | _ => none }
def RootsLevelsWrongFalsely : Prop := rootsLevelsRow.holds Tryd.pinned (OpenSpec.ofChange rootsLevelsWrong)

/-- 'sealingwaxlaw10.FrontierPlay': WHATEVER THE INPUT: true; the input reads as it did. -/
def frontierPlaySpec : ChangeSpec := { name := "frontierPlay", fn := fun _ => fun
  | [d1, d2, d3] => { results := [.lit (.bool true)], args := [d1, d2, d3] }
  | _ => none }
def frontierPlayRow : OpenClaim := { program := "ytljdjagackdplaadoor", sum := "33330fabe83f10f28d2d9ef98f7e8bdfc68ee5d9de69f8deb4e69ed5065359e9", func := "sealingwax/sealingwaxlaw10.FrontierPlay", spec := "frontierPlay", unfollowed := true, recurses := true, named := ["sealingwax/sha.begin", "sealingwax/sha.table", "sealingwax/sealingwaxref02.k"], apart := false, laid := [("sealingwax/sealingwaxref02.k", laid_sealingwax_sealingwaxref02_k), ("sealingwax/sha.table", laid_sealingwax_sha_table), ("sealingwax/sha.begin", laid_sealingwax_sha_begin)] }
def FrontierPlaySaid : Prop := frontierPlayRow.holds Tryd.pinned (OpenSpec.ofChange frontierPlaySpec)

/-- ITS FALSE NEIGHBOUR: 'it returns false'. Refute it at one input. -/
def frontierPlayWrong : ChangeSpec := { name := "frontierPlay", fn := fun _ => fun
  | [d1, d2, d3] => { results := [.lit (.bool false)], args := [d1, d2, d3] }
  | _ => none }
def FrontierPlayWrongFalsely : Prop := frontierPlayRow.holds Tryd.pinned (OpenSpec.ofChange frontierPlayWrong)

/-- 'sealingwaxlaw10.FrontierNone': WHATEVER THE INPUT: true; the input reads as it did. -/
def frontierNoneSpec : ChangeSpec := { name := "frontierNone", fn := fun _ => fun
  | [d] => { results := [.lit (.bool true)], args := [d] }
  | _ => none }
def frontierNoneRow : OpenClaim := { program := "ytljdjagackdplaadoor", sum := "33330fabe83f10f28d2d9ef98f7e8bdfc68ee5d9de69f8deb4e69ed5065359e9", func := "sealingwax/sealingwaxlaw10.FrontierNone", spec := "frontierNone", unfollowed := true, recurses := true, named := ["sealingwax/sha.begin", "sealingwax/sha.table"], apart := false, laid := [("sealingwax/sha.table", laid_sealingwax_sha_table), ("sealingwax/sha.begin", laid_sealingwax_sha_begin)] }
def FrontierNoneSaid : Prop := frontierNoneRow.holds Tryd.pinned (OpenSpec.ofChange frontierNoneSpec)

/-- ITS FALSE NEIGHBOUR: 'it returns false'. Refute it at one input. -/
def frontierNoneWrong : ChangeSpec := { name := "frontierNone", fn := fun _ => fun
  | [d] => { results := [.lit (.bool false)], args := [d] }
  | _ => none }
def FrontierNoneWrongFalsely : Prop := frontierNoneRow.holds Tryd.pinned (OpenSpec.ofChange frontierNoneWrong)

/-- 'sealingwaxlaw10.FrontierRoot': WHATEVER THE INPUT: true; the input reads as it did. -/
def frontierRootSpec : ChangeSpec := { name := "frontierRoot", fn := fun _ => fun
  | [d] => { results := [.lit (.bool true)], args := [d] }
  | _ => none }
def frontierRootRow : OpenClaim := { program := "ytljdjagackdplaadoor", sum := "33330fabe83f10f28d2d9ef98f7e8bdfc68ee5d9de69f8deb4e69ed5065359e9", func := "sealingwax/sealingwaxlaw10.FrontierRoot", spec := "frontierRoot", unfollowed := true, recurses := true, named := ["sealingwax/sha.begin", "sealingwax/sha.table"], apart := false, laid := [("sealingwax/sha.table", laid_sealingwax_sha_table), ("sealingwax/sha.begin", laid_sealingwax_sha_begin)] }
def FrontierRootSaid : Prop := frontierRootRow.holds Tryd.pinned (OpenSpec.ofChange frontierRootSpec)

/-- ITS FALSE NEIGHBOUR: 'it returns false'. Refute it at one input. -/
def frontierRootWrong : ChangeSpec := { name := "frontierRoot", fn := fun _ => fun
  | [d] => { results := [.lit (.bool false)], args := [d] }
  | _ => none }
def FrontierRootWrongFalsely : Prop := frontierRootRow.holds Tryd.pinned (OpenSpec.ofChange frontierRootWrong)

/-- 'sealingwaxlaw10.FrontierOn': WHATEVER THE INPUT: true; the input reads as it did. -/
def frontierOnSpec : ChangeSpec := { name := "frontierOn", fn := fun _ => fun
  | [d1, d2] => { results := [.lit (.bool true)], args := [d1, d2] }
  | _ => none }
def frontierOnRow : OpenClaim := { program := "ytljdjagackdplaadoor", sum := "33330fabe83f10f28d2d9ef98f7e8bdfc68ee5d9de69f8deb4e69ed5065359e9", func := "sealingwax/sealingwaxlaw10.FrontierOn", spec := "frontierOn", unfollowed := true, recurses := true, named := ["sealingwax/sha.begin", "sealingwax/sha.table"], apart := false, laid := [("sealingwax/sha.table", laid_sealingwax_sha_table), ("sealingwax/sha.begin", laid_sealingwax_sha_begin)] }
def FrontierOnSaid : Prop := frontierOnRow.holds Tryd.pinned (OpenSpec.ofChange frontierOnSpec)

/-- ITS FALSE NEIGHBOUR: 'it returns false'. Refute it at one input. -/
def frontierOnWrong : ChangeSpec := { name := "frontierOn", fn := fun _ => fun
  | [d1, d2] => { results := [.lit (.bool false)], args := [d1, d2] }
  | _ => none }
def FrontierOnWrongFalsely : Prop := frontierOnRow.holds Tryd.pinned (OpenSpec.ofChange frontierOnWrong)

/-- 'sealingwaxlaw10.FrontierFull': WHATEVER THE INPUT: true; the input reads as it did. -/
def frontierFullSpec : ChangeSpec := { name := "frontierFull", fn := fun _ => fun
  | [d1, d2] => { results := [.lit (.bool true)], args := [d1, d2] }
  | _ => none }
def frontierFullRow : OpenClaim := { program := "ytljdjagackdplaadoor", sum := "33330fabe83f10f28d2d9ef98f7e8bdfc68ee5d9de69f8deb4e69ed5065359e9", func := "sealingwax/sealingwaxlaw10.FrontierFull", spec := "frontierFull", unfollowed := true, recurses := true, named := ["sealingwax/sha.begin", "sealingwax/sha.table"], apart := false, laid := [("sealingwax/sha.table", laid_sealingwax_sha_table), ("sealingwax/sha.begin", laid_sealingwax_sha_begin)] }
def FrontierFullSaid : Prop := frontierFullRow.holds Tryd.pinned (OpenSpec.ofChange frontierFullSpec)

/-- ITS FALSE NEIGHBOUR: 'it returns false'. Refute it at one input. -/
def frontierFullWrong : ChangeSpec := { name := "frontierFull", fn := fun _ => fun
  | [d1, d2] => { results := [.lit (.bool false)], args := [d1, d2] }
  | _ => none }
def FrontierFullWrongFalsely : Prop := frontierFullRow.holds Tryd.pinned (OpenSpec.ofChange frontierFullWrong)

/- THE SECOND FORM. 'bulk': how many values and letters a reading holds, each counted each time it is reached (what is shared counts as often as it is met; a slice's spare places count too). A statement '..UptoSaid' is the law's where the arguments, and the package variables that the reading takes, are together of bulk at most 1048576: NARROWER than '..Said'. Prove '..Said' where nothing that the law and all that it calls make is longer than what came in: it says more and counts as full. Else prove '..UptoSaid'. A law counts once. -/
mutual
def uptoBulk {H : Type} : DataW H → Nat
  | .lit (.string bytes) => bytes.length + 1
  | .lit _ => 1
  | .nil => 1
  | .ptr d => uptoBulk d + 1
  | .slice elems spare => uptoBulkAll elems + uptoBulkAll spare + 1
  | .agg parts => uptoBulkAll parts + 1
  | .iface _ d => uptoBulk d + 1
  | .map entries => uptoBulkEntries entries + 1
  | .held _ => 1
def uptoBulkAll {H : Type} : List (DataW H) → Nat
  | [] => 0
  | d :: r => uptoBulk d + uptoBulkAll r
def uptoBulkEntries {H : Type} : List (Lit × DataW H) → Nat
  | [] => 0
  | x :: r => uptoBulkEntry x + uptoBulkEntries r
def uptoBulkEntry {H : Type} : Lit × DataW H → Nat
  | (.string bytes, d) => bytes.length + uptoBulk d + 1
  | (_, d) => uptoBulk d + 1
 end
def uptoSmall : (H : Type) → List (DataW H) → Bool := fun _ ds => decide (uptoBulkAll ds ≤ 1048576)
def OpenSpec.upto (s : _root_.Go.ChangeSpec) : _root_.Go.OpenSpec := { _root_.Go.OpenSpec.ofChange s with cond := some uptoSmall }

/-- 'sealingwaxlaw09.RootsTell', WHERE WHAT IT READS IS OF BULK AT MOST 1048576: true; the input reads as it did. -/
def rootsTellUptoRow : OpenClaim := { program := "ytljdjagackdplaadoor", sum := "33330fabe83f10f28d2d9ef98f7e8bdfc68ee5d9de69f8deb4e69ed5065359e9", func := "sealingwax/sealingwaxlaw09.RootsTell", spec := "rootsTell", recurses := true, named := ["sealingwax/sha.begin", "sealingwax/sha.table", "sealingwax/sealingwaxref02.k"], apart := false, laid := [("sealingwax/sealingwaxref02.k", laid_sealingwax_sealingwaxref02_k), ("sealingwax/sha.table", laid_sealingwax_sha_table), ("sealingwax/sha.begin", laid_sealingwax_sha_begin)], narrowed := true }
def RootsTellUptoSaid : Prop := rootsTellUptoRow.holds Tryd.pinned (OpenSpec.upto rootsTellSpec)

/-- 'sealingwaxlaw09.RootsSplit', WHERE WHAT IT READS IS OF BULK AT MOST 1048576: true; the input reads as it did. -/
def rootsSplitUptoRow : OpenClaim := { program := "ytljdjagackdplaadoor", sum := "33330fabe83f10f28d2d9ef98f7e8bdfc68ee5d9de69f8deb4e69ed5065359e9", func := "sealingwax/sealingwaxlaw09.RootsSplit", spec := "rootsSplit", named := ["sealingwax/sha.begin", "sealingwax/sha.table"], apart := false, laid := [("sealingwax/sha.table", laid_sealingwax_sha_table), ("sealingwax/sha.begin", laid_sealingwax_sha_begin)], narrowed := true }
def RootsSplitUptoSaid : Prop := rootsSplitUptoRow.holds Tryd.pinned (OpenSpec.upto rootsSplitSpec)

/-- 'sealingwaxlaw09.RootsParts', WHERE WHAT IT READS IS OF BULK AT MOST 1048576: true; the input reads as it did. -/
def rootsPartsUptoRow : OpenClaim := { program := "ytljdjagackdplaadoor", sum := "33330fabe83f10f28d2d9ef98f7e8bdfc68ee5d9de69f8deb4e69ed5065359e9", func := "sealingwax/sealingwaxlaw09.RootsParts", spec := "rootsParts", named := ["sealingwax/sha.begin", "sealingwax/sha.table"], apart := false, laid := [("sealingwax/sha.table", laid_sealingwax_sha_table), ("sealingwax/sha.begin", laid_sealingwax_sha_begin)], narrowed := true }
def RootsPartsUptoSaid : Prop := rootsPartsUptoRow.holds Tryd.pinned (OpenSpec.upto rootsPartsSpec)

/-- 'sealingwaxlaw09.RootsApart', WHERE WHAT IT READS IS OF BULK AT MOST 1048576: true; the input reads as it did. -/
def rootsApartUptoRow : OpenClaim := { program := "ytljdjagackdplaadoor", sum := "33330fabe83f10f28d2d9ef98f7e8bdfc68ee5d9de69f8deb4e69ed5065359e9", func := "sealingwax/sealingwaxlaw09.RootsApart", spec := "rootsApart", named := ["sealingwax/sha.begin", "sealingwax/sha.table"], apart := false, laid := [("sealingwax/sha.table", laid_sealingwax_sha_table), ("sealingwax/sha.begin", laid_sealingwax_sha_begin)], narrowed := true }
def RootsApartUptoSaid : Prop := rootsApartUptoRow.holds Tryd.pinned (OpenSpec.upto rootsApartSpec)

/-- 'sealingwaxlaw09.RootsGrown', WHERE WHAT IT READS IS OF BULK AT MOST 1048576: true; the input reads as it did. -/
def rootsGrownUptoRow : OpenClaim := { program := "ytljdjagackdplaadoor", sum := "33330fabe83f10f28d2d9ef98f7e8bdfc68ee5d9de69f8deb4e69ed5065359e9", func := "sealingwax/sealingwaxlaw09.RootsGrown", spec := "rootsGrown", named := ["sealingwax/sha.begin", "sealingwax/sha.table"], apart := false, laid := [("sealingwax/sha.table", laid_sealingwax_sha_table), ("sealingwax/sha.begin", laid_sealingwax_sha_begin)], narrowed := true }
def RootsGrownUptoSaid : Prop := rootsGrownUptoRow.holds Tryd.pinned (OpenSpec.upto rootsGrownSpec)

/-- 'sealingwaxlaw09.RootsLevels', WHERE WHAT IT READS IS OF BULK AT MOST 1048576: true; the input reads as it did. -/
def rootsLevelsUptoRow : OpenClaim := { program := "ytljdjagackdplaadoor", sum := "33330fabe83f10f28d2d9ef98f7e8bdfc68ee5d9de69f8deb4e69ed5065359e9", func := "sealingwax/sealingwaxlaw09.RootsLevels", spec := "rootsLevels", named := ["sealingwax/sha.begin", "sealingwax/sha.table"], apart := false, laid := [("sealingwax/sha.table", laid_sealingwax_sha_table), ("sealingwax/sha.begin", laid_sealingwax_sha_begin)], narrowed := true }
def RootsLevelsUptoSaid : Prop := rootsLevelsUptoRow.holds Tryd.pinned (OpenSpec.upto rootsLevelsSpec)

/-- 'sealingwaxlaw10.FrontierPlay', WHERE WHAT IT READS IS OF BULK AT MOST 1048576: true; the input reads as it did. -/
def frontierPlayUptoRow : OpenClaim := { program := "ytljdjagackdplaadoor", sum := "33330fabe83f10f28d2d9ef98f7e8bdfc68ee5d9de69f8deb4e69ed5065359e9", func := "sealingwax/sealingwaxlaw10.FrontierPlay", spec := "frontierPlay", unfollowed := true, recurses := true, named := ["sealingwax/sha.begin", "sealingwax/sha.table", "sealingwax/sealingwaxref02.k"], apart := false, laid := [("sealingwax/sealingwaxref02.k", laid_sealingwax_sealingwaxref02_k), ("sealingwax/sha.table", laid_sealingwax_sha_table), ("sealingwax/sha.begin", laid_sealingwax_sha_begin)], narrowed := true }
def FrontierPlayUptoSaid : Prop := frontierPlayUptoRow.holds Tryd.pinned (OpenSpec.upto frontierPlaySpec)

/-- 'sealingwaxlaw10.FrontierNone', WHERE WHAT IT READS IS OF BULK AT MOST 1048576: true; the input reads as it did. -/
def frontierNoneUptoRow : OpenClaim := { program := "ytljdjagackdplaadoor", sum := "33330fabe83f10f28d2d9ef98f7e8bdfc68ee5d9de69f8deb4e69ed5065359e9", func := "sealingwax/sealingwaxlaw10.FrontierNone", spec := "frontierNone", unfollowed := true, recurses := true, named := ["sealingwax/sha.begin", "sealingwax/sha.table"], apart := false, laid := [("sealingwax/sha.table", laid_sealingwax_sha_table), ("sealingwax/sha.begin", laid_sealingwax_sha_begin)], narrowed := true }
def FrontierNoneUptoSaid : Prop := frontierNoneUptoRow.holds Tryd.pinned (OpenSpec.upto frontierNoneSpec)

/-- 'sealingwaxlaw10.FrontierRoot', WHERE WHAT IT READS IS OF BULK AT MOST 1048576: true; the input reads as it did. -/
def frontierRootUptoRow : OpenClaim := { program := "ytljdjagackdplaadoor", sum := "33330fabe83f10f28d2d9ef98f7e8bdfc68ee5d9de69f8deb4e69ed5065359e9", func := "sealingwax/sealingwaxlaw10.FrontierRoot", spec := "frontierRoot", unfollowed := true, recurses := true, named := ["sealingwax/sha.begin", "sealingwax/sha.table"], apart := false, laid := [("sealingwax/sha.table", laid_sealingwax_sha_table), ("sealingwax/sha.begin", laid_sealingwax_sha_begin)], narrowed := true }
def FrontierRootUptoSaid : Prop := frontierRootUptoRow.holds Tryd.pinned (OpenSpec.upto frontierRootSpec)

/-- 'sealingwaxlaw10.FrontierOn', WHERE WHAT IT READS IS OF BULK AT MOST 1048576: true; the input reads as it did. -/
def frontierOnUptoRow : OpenClaim := { program := "ytljdjagackdplaadoor", sum := "33330fabe83f10f28d2d9ef98f7e8bdfc68ee5d9de69f8deb4e69ed5065359e9", func := "sealingwax/sealingwaxlaw10.FrontierOn", spec := "frontierOn", unfollowed := true, recurses := true, named := ["sealingwax/sha.begin", "sealingwax/sha.table"], apart := false, laid := [("sealingwax/sha.table", laid_sealingwax_sha_table), ("sealingwax/sha.begin", laid_sealingwax_sha_begin)], narrowed := true }
def FrontierOnUptoSaid : Prop := frontierOnUptoRow.holds Tryd.pinned (OpenSpec.upto frontierOnSpec)

/-- 'sealingwaxlaw10.FrontierFull', WHERE WHAT IT READS IS OF BULK AT MOST 1048576: true; the input reads as it did. -/
def frontierFullUptoRow : OpenClaim := { program := "ytljdjagackdplaadoor", sum := "33330fabe83f10f28d2d9ef98f7e8bdfc68ee5d9de69f8deb4e69ed5065359e9", func := "sealingwax/sealingwaxlaw10.FrontierFull", spec := "frontierFull", unfollowed := true, recurses := true, named := ["sealingwax/sha.begin", "sealingwax/sha.table"], apart := false, laid := [("sealingwax/sha.table", laid_sealingwax_sha_table), ("sealingwax/sha.begin", laid_sealingwax_sha_begin)], narrowed := true }
def FrontierFullUptoSaid : Prop := frontierFullUptoRow.holds Tryd.pinned (OpenSpec.upto frontierFullSpec)

end Rows
end Go.Proofs.YtljdjagackdplaaDoor
