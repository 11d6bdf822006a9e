/-
  NARROWER THAN 'FOR EVERY INPUT', by the rows' own cells (each row's printed sentence says how): ModelBytes: laid · ModelSure: laid · ModelPlays: laid · ModelMany: laid · ModelNone: laid · ModelSame: laid.
  DERIVED. THE GIVEN ROWS OF THIS SEAT. 6 by the template 'for every input the law returns true; each argument reads behind the call as it read before'; 0 by the template 'total and deterministic' (their statements: YtljbbajelkkafaaDoorTotals.lean).
  GIVEN WITH THE SEED: the statements are not yours to turn. If you find one false, say at which input.
  Laid BY PROGRAM, IN A SANDBOX (cutbox-rows.mjs): the forced cells as the released guide's own fill.sh prints them over the translation b5ad74a64b10b0d7… (all of the seat's roots in one cut). By AI agents, Wed Nov 11 2026. No macro, syntax, notation, axiom, sorry.
-/
import Derived.Test.YtljbbajelkkafaaDoorChecked
import GoSem.Claim
import GoSem.ClaimJoined
import GoSem.ClaimMapViews
import Derived.JoinedTies
import Derived.KernelRfl
namespace Go.Proofs.YtljbbajelkkafaaDoor
/- THE CELL 'sum', in the pinned program and in every row, IS THE sha256 OF THE DUMP (.gsa) THAT YtljbbajelkkafaaDoorProg.lean LOADS. Nothing in Lean hashes anything: it is a label: what it is worth is what the hold of that sum in a sandbox is worth. -/
noncomputable def Tryd.pinned : Pinned := { name := "ytljbbajelkkafaadoor", sum := "b5ad74a64b10b0d77775bd509c935f3e0bd2e2491674e286d999985ea0a70d58", checked := Tryd.checked }
namespace Rows
def none {H : Type} : Left H := { results := [], args := [] }

/- WHAT THE LISTED PACKAGE-LEVEL VARIABLES READ AS WHEN THE CALL BEGINS. Each datum BY PROGRAM (the guide's laid-datum.mjs) off the statement by which the dump's own 'gosem.cut.vars' lays the variable. In a bare row this is a premise. The card (YtljbbajelkkafaaDoorCards.lean) ties it to the program's text. -/
def laid_sealingwax_sha_table {H : Type} : DataW H := .agg [.lit (.int .u32 1116352408), .lit (.int .u32 1899447441), .lit (.int .u32 3049323471), .lit (.int .u32 3921009573), .lit (.int .u32 961987163), .lit (.int .u32 1508970993), .lit (.int .u32 2453635748), .lit (.int .u32 2870763221), .lit (.int .u32 3624381080), .lit (.int .u32 310598401), .lit (.int .u32 607225278), .lit (.int .u32 1426881987), .lit (.int .u32 1925078388), .lit (.int .u32 2162078206), .lit (.int .u32 2614888103), .lit (.int .u32 3248222580), .lit (.int .u32 3835390401), .lit (.int .u32 4022224774), .lit (.int .u32 264347078), .lit (.int .u32 604807628), .lit (.int .u32 770255983), .lit (.int .u32 1249150122), .lit (.int .u32 1555081692), .lit (.int .u32 1996064986), .lit (.int .u32 2554220882), .lit (.int .u32 2821834349), .lit (.int .u32 2952996808), .lit (.int .u32 3210313671), .lit (.int .u32 3336571891), .lit (.int .u32 3584528711), .lit (.int .u32 113926993), .lit (.int .u32 338241895), .lit (.int .u32 666307205), .lit (.int .u32 773529912), .lit (.int .u32 1294757372), .lit (.int .u32 1396182291), .lit (.int .u32 1695183700), .lit (.int .u32 1986661051), .lit (.int .u32 2177026350), .lit (.int .u32 2456956037), .lit (.int .u32 2730485921), .lit (.int .u32 2820302411), .lit (.int .u32 3259730800), .lit (.int .u32 3345764771), .lit (.int .u32 3516065817), .lit (.int .u32 3600352804), .lit (.int .u32 4094571909), .lit (.int .u32 275423344), .lit (.int .u32 430227734), .lit (.int .u32 506948616), .lit (.int .u32 659060556), .lit (.int .u32 883997877), .lit (.int .u32 958139571), .lit (.int .u32 1322822218), .lit (.int .u32 1537002063), .lit (.int .u32 1747873779), .lit (.int .u32 1955562222), .lit (.int .u32 2024104815), .lit (.int .u32 2227730452), .lit (.int .u32 2361852424), .lit (.int .u32 2428436474), .lit (.int .u32 2756734187), .lit (.int .u32 3204031479), .lit (.int .u32 3329325298)]
def laid_sealingwax_sha_begin {H : Type} : DataW H := .agg [.lit (.int .u32 1779033703), .lit (.int .u32 3144134277), .lit (.int .u32 1013904242), .lit (.int .u32 2773480762), .lit (.int .u32 1359893119), .lit (.int .u32 2600822924), .lit (.int .u32 528734635), .lit (.int .u32 1541459225)]
def laid_sealingwax_sealingwaxref02_k {H : Type} : DataW H := .agg [.lit (.int .u32 1116352408), .lit (.int .u32 1899447441), .lit (.int .u32 3049323471), .lit (.int .u32 3921009573), .lit (.int .u32 961987163), .lit (.int .u32 1508970993), .lit (.int .u32 2453635748), .lit (.int .u32 2870763221), .lit (.int .u32 3624381080), .lit (.int .u32 310598401), .lit (.int .u32 607225278), .lit (.int .u32 1426881987), .lit (.int .u32 1925078388), .lit (.int .u32 2162078206), .lit (.int .u32 2614888103), .lit (.int .u32 3248222580), .lit (.int .u32 3835390401), .lit (.int .u32 4022224774), .lit (.int .u32 264347078), .lit (.int .u32 604807628), .lit (.int .u32 770255983), .lit (.int .u32 1249150122), .lit (.int .u32 1555081692), .lit (.int .u32 1996064986), .lit (.int .u32 2554220882), .lit (.int .u32 2821834349), .lit (.int .u32 2952996808), .lit (.int .u32 3210313671), .lit (.int .u32 3336571891), .lit (.int .u32 3584528711), .lit (.int .u32 113926993), .lit (.int .u32 338241895), .lit (.int .u32 666307205), .lit (.int .u32 773529912), .lit (.int .u32 1294757372), .lit (.int .u32 1396182291), .lit (.int .u32 1695183700), .lit (.int .u32 1986661051), .lit (.int .u32 2177026350), .lit (.int .u32 2456956037), .lit (.int .u32 2730485921), .lit (.int .u32 2820302411), .lit (.int .u32 3259730800), .lit (.int .u32 3345764771), .lit (.int .u32 3516065817), .lit (.int .u32 3600352804), .lit (.int .u32 4094571909), .lit (.int .u32 275423344), .lit (.int .u32 430227734), .lit (.int .u32 506948616), .lit (.int .u32 659060556), .lit (.int .u32 883997877), .lit (.int .u32 958139571), .lit (.int .u32 1322822218), .lit (.int .u32 1537002063), .lit (.int .u32 1747873779), .lit (.int .u32 1955562222), .lit (.int .u32 2024104815), .lit (.int .u32 2227730452), .lit (.int .u32 2361852424), .lit (.int .u32 2428436474), .lit (.int .u32 2756734187), .lit (.int .u32 3204031479), .lit (.int .u32 3329325298)]

/-- 'sealingwaxlaw26.ModelBytes': WHATEVER THE INPUT: true; the input reads as it did. -/
def modelBytesSpec : ChangeSpec := { name := "modelBytes", fn := fun _ => fun
  | [d1, d2] => { results := [.lit (.bool true)], args := [d1, d2] }
  | _ => none }
def modelBytesRow : OpenClaim := { program := "ytljbbajelkkafaadoor", sum := "b5ad74a64b10b0d77775bd509c935f3e0bd2e2491674e286d999985ea0a70d58", func := "sealingwax/sealingwaxlaw26.ModelBytes", spec := "modelBytes", unfollowed := true, recurses := true, named := ["sealingwax/sha.begin", "sealingwax/sha.table"], apart := false, laid := [("sealingwax/sha.table", laid_sealingwax_sha_table), ("sealingwax/sha.begin", laid_sealingwax_sha_begin)] }
def ModelBytesSaid : Prop := modelBytesRow.holds Tryd.pinned (OpenSpec.ofChange modelBytesSpec)

/-- ITS FALSE NEIGHBOUR: 'it returns false'. Refute it at one input. -/
def modelBytesWrong : ChangeSpec := { name := "modelBytes", fn := fun _ => fun
  | [d1, d2] => { results := [.lit (.bool false)], args := [d1, d2] }
  | _ => none }
def ModelBytesWrongFalsely : Prop := modelBytesRow.holds Tryd.pinned (OpenSpec.ofChange modelBytesWrong)

/-- 'sealingwaxlaw26.ModelSure': WHATEVER THE INPUT: true; the input reads as it did. -/
def modelSureSpec : ChangeSpec := { name := "modelSure", fn := fun _ => fun
  | [d1, d2] => { results := [.lit (.bool true)], args := [d1, d2] }
  | _ => none }
def modelSureRow : OpenClaim := { program := "ytljbbajelkkafaadoor", sum := "b5ad74a64b10b0d77775bd509c935f3e0bd2e2491674e286d999985ea0a70d58", func := "sealingwax/sealingwaxlaw26.ModelSure", spec := "modelSure", unfollowed := true, recurses := true, named := ["sealingwax/sha.begin", "sealingwax/sha.table"], apart := false, laid := [("sealingwax/sha.table", laid_sealingwax_sha_table), ("sealingwax/sha.begin", laid_sealingwax_sha_begin)] }
def ModelSureSaid : Prop := modelSureRow.holds Tryd.pinned (OpenSpec.ofChange modelSureSpec)

/-- ITS FALSE NEIGHBOUR: 'it returns false'. Refute it at one input. -/
def modelSureWrong : ChangeSpec := { name := "modelSure", fn := fun _ => fun
  | [d1, d2] => { results := [.lit (.bool false)], args := [d1, d2] }
  | _ => none }
def ModelSureWrongFalsely : Prop := modelSureRow.holds Tryd.pinned (OpenSpec.ofChange modelSureWrong)

/-- 'sealingwaxlaw26.ModelPlays': WHATEVER THE INPUT: true; the input reads as it did. -/
def modelPlaysSpec : ChangeSpec := { name := "modelPlays", fn := fun _ => fun
  | [d1, d2] => { results := [.lit (.bool true)], args := [d1, d2] }
  | _ => none }
def modelPlaysRow : OpenClaim := { program := "ytljbbajelkkafaadoor", sum := "b5ad74a64b10b0d77775bd509c935f3e0bd2e2491674e286d999985ea0a70d58", func := "sealingwax/sealingwaxlaw26.ModelPlays", spec := "modelPlays", unfollowed := true, recurses := true, named := ["sealingwax/sha.begin", "sealingwax/sha.table", "sealingwax/sealingwaxref02.k"], apart := false, laid := [("sealingwax/sealingwaxref02.k", laid_sealingwax_sealingwaxref02_k), ("sealingwax/sha.table", laid_sealingwax_sha_table), ("sealingwax/sha.begin", laid_sealingwax_sha_begin)] }
def ModelPlaysSaid : Prop := modelPlaysRow.holds Tryd.pinned (OpenSpec.ofChange modelPlaysSpec)

/-- ITS FALSE NEIGHBOUR: 'it returns false'. Refute it at one input. -/
def modelPlaysWrong : ChangeSpec := { name := "modelPlays", fn := fun _ => fun
  | [d1, d2] => { results := [.lit (.bool false)], args := [d1, d2] }
  | _ => none }
def ModelPlaysWrongFalsely : Prop := modelPlaysRow.holds Tryd.pinned (OpenSpec.ofChange modelPlaysWrong)

/-- 'sealingwaxlaw26.ModelMany': WHATEVER THE INPUT: true; the input reads as it did. -/
def modelManySpec : ChangeSpec := { name := "modelMany", fn := fun _ => fun
  | [d] => { results := [.lit (.bool true)], args := [d] }
  | _ => none }
def modelManyRow : OpenClaim := { program := "ytljbbajelkkafaadoor", sum := "b5ad74a64b10b0d77775bd509c935f3e0bd2e2491674e286d999985ea0a70d58", func := "sealingwax/sealingwaxlaw26.ModelMany", spec := "modelMany", unfollowed := true, recurses := true, named := ["sealingwax/sha.begin", "sealingwax/sha.table", "sealingwax/sealingwaxref02.k"], apart := false, laid := [("sealingwax/sealingwaxref02.k", laid_sealingwax_sealingwaxref02_k), ("sealingwax/sha.table", laid_sealingwax_sha_table), ("sealingwax/sha.begin", laid_sealingwax_sha_begin)] }
def ModelManySaid : Prop := modelManyRow.holds Tryd.pinned (OpenSpec.ofChange modelManySpec)

/-- ITS FALSE NEIGHBOUR: 'it returns false'. Refute it at one input. -/
def modelManyWrong : ChangeSpec := { name := "modelMany", fn := fun _ => fun
  | [d] => { results := [.lit (.bool false)], args := [d] }
  | _ => none }
def ModelManyWrongFalsely : Prop := modelManyRow.holds Tryd.pinned (OpenSpec.ofChange modelManyWrong)

/-- 'sealingwaxlaw26.ModelNone': WHATEVER THE INPUT: true; the input reads as it did. -/
def modelNoneSpec : ChangeSpec := { name := "modelNone", fn := fun _ => fun
  | [d1, d2] => { results := [.lit (.bool true)], args := [d1, d2] }
  | _ => none }
def modelNoneRow : OpenClaim := { program := "ytljbbajelkkafaadoor", sum := "b5ad74a64b10b0d77775bd509c935f3e0bd2e2491674e286d999985ea0a70d58", func := "sealingwax/sealingwaxlaw26.ModelNone", spec := "modelNone", unfollowed := true, recurses := true, named := ["sealingwax/sha.begin", "sealingwax/sha.table"], apart := false, laid := [("sealingwax/sha.table", laid_sealingwax_sha_table), ("sealingwax/sha.begin", laid_sealingwax_sha_begin)] }
def ModelNoneSaid : Prop := modelNoneRow.holds Tryd.pinned (OpenSpec.ofChange modelNoneSpec)

/-- ITS FALSE NEIGHBOUR: 'it returns false'. Refute it at one input. -/
def modelNoneWrong : ChangeSpec := { name := "modelNone", fn := fun _ => fun
  | [d1, d2] => { results := [.lit (.bool false)], args := [d1, d2] }
  | _ => none }
def ModelNoneWrongFalsely : Prop := modelNoneRow.holds Tryd.pinned (OpenSpec.ofChange modelNoneWrong)

/-- 'sealingwaxlaw26.ModelSame': WHATEVER THE INPUT: true; the input reads as it did. -/
def modelSameSpec : ChangeSpec := { name := "modelSame", fn := fun _ => fun
  | [d1, d2] => { results := [.lit (.bool true)], args := [d1, d2] }
  | _ => none }
def modelSameRow : OpenClaim := { program := "ytljbbajelkkafaadoor", sum := "b5ad74a64b10b0d77775bd509c935f3e0bd2e2491674e286d999985ea0a70d58", func := "sealingwax/sealingwaxlaw26.ModelSame", spec := "modelSame", unfollowed := true, recurses := true, named := ["sealingwax/sha.begin", "sealingwax/sha.table"], apart := false, laid := [("sealingwax/sha.table", laid_sealingwax_sha_table), ("sealingwax/sha.begin", laid_sealingwax_sha_begin)] }
def ModelSameSaid : Prop := modelSameRow.holds Tryd.pinned (OpenSpec.ofChange modelSameSpec)

/-- ITS FALSE NEIGHBOUR: 'it returns false'. Refute it at one input. -/
def modelSameWrong : ChangeSpec := { name := "modelSame", fn := fun _ => fun
  | [d1, d2] => { results := [.lit (.bool false)], args := [d1, d2] }
  | _ => none }
def ModelSameWrongFalsely : Prop := modelSameRow.holds Tryd.pinned (OpenSpec.ofChange modelSameWrong)

/- THE SECOND FORM. 'bulk': how many values and letters a reading holds, each counted each time it is reached (what is shared counts as often as it is met; a slice's spare places count too). A statement '..UptoSaid' is the law's where the arguments, and the package variables that the reading takes, are together of bulk at most 1048576: NARROWER than '..Said'. Prove '..Said' where nothing that the law and all that it calls make is longer than what came in: it says more and counts as full. Else prove '..UptoSaid'. A law counts once. -/
mutual
def uptoBulk {H : Type} : DataW H → Nat
  | .lit (.string bytes) => bytes.length + 1
  | .lit _ => 1
  | .nil => 1
  | .ptr d => uptoBulk d + 1
  | .slice elems spare => uptoBulkAll elems + uptoBulkAll spare + 1
  | .agg parts => uptoBulkAll parts + 1
  | .iface _ d => uptoBulk d + 1
  | .map entries => uptoBulkEntries entries + 1
  | .held _ => 1
def uptoBulkAll {H : Type} : List (DataW H) → Nat
  | [] => 0
  | d :: r => uptoBulk d + uptoBulkAll r
def uptoBulkEntries {H : Type} : List (Lit × DataW H) → Nat
  | [] => 0
  | x :: r => uptoBulkEntry x + uptoBulkEntries r
def uptoBulkEntry {H : Type} : Lit × DataW H → Nat
  | (.string bytes, d) => bytes.length + uptoBulk d + 1
  | (_, d) => uptoBulk d + 1
 end
def uptoSmall : (H : Type) → List (DataW H) → Bool := fun _ ds => decide (uptoBulkAll ds ≤ 1048576)
def OpenSpec.upto (s : _root_.Go.ChangeSpec) : _root_.Go.OpenSpec := { _root_.Go.OpenSpec.ofChange s with cond := some uptoSmall }

/-- 'sealingwaxlaw26.ModelBytes', WHERE WHAT IT READS IS OF BULK AT MOST 1048576: true; the input reads as it did. -/
def modelBytesUptoRow : OpenClaim := { program := "ytljbbajelkkafaadoor", sum := "b5ad74a64b10b0d77775bd509c935f3e0bd2e2491674e286d999985ea0a70d58", func := "sealingwax/sealingwaxlaw26.ModelBytes", spec := "modelBytes", unfollowed := true, recurses := true, named := ["sealingwax/sha.begin", "sealingwax/sha.table"], apart := false, laid := [("sealingwax/sha.table", laid_sealingwax_sha_table), ("sealingwax/sha.begin", laid_sealingwax_sha_begin)], narrowed := true }
def ModelBytesUptoSaid : Prop := modelBytesUptoRow.holds Tryd.pinned (OpenSpec.upto modelBytesSpec)

/-- 'sealingwaxlaw26.ModelSure', WHERE WHAT IT READS IS OF BULK AT MOST 1048576: true; the input reads as it did. -/
def modelSureUptoRow : OpenClaim := { program := "ytljbbajelkkafaadoor", sum := "b5ad74a64b10b0d77775bd509c935f3e0bd2e2491674e286d999985ea0a70d58", func := "sealingwax/sealingwaxlaw26.ModelSure", spec := "modelSure", unfollowed := true, recurses := true, named := ["sealingwax/sha.begin", "sealingwax/sha.table"], apart := false, laid := [("sealingwax/sha.table", laid_sealingwax_sha_table), ("sealingwax/sha.begin", laid_sealingwax_sha_begin)], narrowed := true }
def ModelSureUptoSaid : Prop := modelSureUptoRow.holds Tryd.pinned (OpenSpec.upto modelSureSpec)

/-- 'sealingwaxlaw26.ModelPlays', WHERE WHAT IT READS IS OF BULK AT MOST 1048576: true; the input reads as it did. -/
def modelPlaysUptoRow : OpenClaim := { program := "ytljbbajelkkafaadoor", sum := "b5ad74a64b10b0d77775bd509c935f3e0bd2e2491674e286d999985ea0a70d58", func := "sealingwax/sealingwaxlaw26.ModelPlays", spec := "modelPlays", unfollowed := true, recurses := true, named := ["sealingwax/sha.begin", "sealingwax/sha.table", "sealingwax/sealingwaxref02.k"], apart := false, laid := [("sealingwax/sealingwaxref02.k", laid_sealingwax_sealingwaxref02_k), ("sealingwax/sha.table", laid_sealingwax_sha_table), ("sealingwax/sha.begin", laid_sealingwax_sha_begin)], narrowed := true }
def ModelPlaysUptoSaid : Prop := modelPlaysUptoRow.holds Tryd.pinned (OpenSpec.upto modelPlaysSpec)

/-- 'sealingwaxlaw26.ModelMany', WHERE WHAT IT READS IS OF BULK AT MOST 1048576: true; the input reads as it did. -/
def modelManyUptoRow : OpenClaim := { program := "ytljbbajelkkafaadoor", sum := "b5ad74a64b10b0d77775bd509c935f3e0bd2e2491674e286d999985ea0a70d58", func := "sealingwax/sealingwaxlaw26.ModelMany", spec := "modelMany", unfollowed := true, recurses := true, named := ["sealingwax/sha.begin", "sealingwax/sha.table", "sealingwax/sealingwaxref02.k"], apart := false, laid := [("sealingwax/sealingwaxref02.k", laid_sealingwax_sealingwaxref02_k), ("sealingwax/sha.table", laid_sealingwax_sha_table), ("sealingwax/sha.begin", laid_sealingwax_sha_begin)], narrowed := true }
def ModelManyUptoSaid : Prop := modelManyUptoRow.holds Tryd.pinned (OpenSpec.upto modelManySpec)

/-- 'sealingwaxlaw26.ModelNone', WHERE WHAT IT READS IS OF BULK AT MOST 1048576: true; the input reads as it did. -/
def modelNoneUptoRow : OpenClaim := { program := "ytljbbajelkkafaadoor", sum := "b5ad74a64b10b0d77775bd509c935f3e0bd2e2491674e286d999985ea0a70d58", func := "sealingwax/sealingwaxlaw26.ModelNone", spec := "modelNone", unfollowed := true, recurses := true, named := ["sealingwax/sha.begin", "sealingwax/sha.table"], apart := false, laid := [("sealingwax/sha.table", laid_sealingwax_sha_table), ("sealingwax/sha.begin", laid_sealingwax_sha_begin)], narrowed := true }
def ModelNoneUptoSaid : Prop := modelNoneUptoRow.holds Tryd.pinned (OpenSpec.upto modelNoneSpec)

/-- 'sealingwaxlaw26.ModelSame', WHERE WHAT IT READS IS OF BULK AT MOST 1048576: true; the input reads as it did. -/
def modelSameUptoRow : OpenClaim := { program := "ytljbbajelkkafaadoor", sum := "b5ad74a64b10b0d77775bd509c935f3e0bd2e2491674e286d999985ea0a70d58", func := "sealingwax/sealingwaxlaw26.ModelSame", spec := "modelSame", unfollowed := true, recurses := true, named := ["sealingwax/sha.begin", "sealingwax/sha.table"], apart := false, laid := [("sealingwax/sha.table", laid_sealingwax_sha_table), ("sealingwax/sha.begin", laid_sealingwax_sha_begin)], narrowed := true }
def ModelSameUptoSaid : Prop := modelSameUptoRow.holds Tryd.pinned (OpenSpec.upto modelSameSpec)

end Rows
end Go.Proofs.YtljbbajelkkafaaDoor
