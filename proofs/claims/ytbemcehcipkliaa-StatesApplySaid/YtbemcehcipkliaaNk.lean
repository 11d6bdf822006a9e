/-
  The leaves of a stream, walked.
-/
import Derived.Test.YtbemcehcipkliaaNs
import Derived.Test.YtbemcehcipkliaaLu
import Derived.Test.YtbemcehcipkliaaLz
namespace Go.Proofs.Ytbemcehcipkliaa.L
open Go
set_option linter.unusedSectionVars false
variable [Globs]
set_option linter.unusedVariables false
/-- The leaves of a stream. -/
def lvs (s : StreamS) : List Hash := s.recs.map Rec.hash
theorem lvs_len (s : StreamS) : (lvs s).length = s.recs.length := List.length_map _
theorem lvs_at {s : StreamS} {i : Nat} {r : Rec} (h : s.recs[i]? = some r) : (lvs s)[i]? = some r.hash := by unfold lvs; rw [List.getElem?_map, h]; rfl
theorem lvs_take {s : StreamS} {i : Nat} {r : Rec} (h : s.recs[i]? = some r) : (lvs s).take i ++ [r.hash] = (lvs s).take (i + 1) := by rw [List.take_add_one, lvs_at h]; rfl
theorem at_rec (r : Rec) : ((recT.cells r).drop (0 + 2)).take hashT.sz = hashT.cells r.hash := by
  show (hashT.cells r.hash ++ _).take 32 = _
  exact List.take_left' (hashT.len _)
theorem wrap_le {i n : Nat} (h : i < n) (hn : n ≤ 100000) : IntKind.i64.wrap ((i : Int) + 1) = ((i + 1 : Nat) : Int) := by
  rw [show (i : Int) + 1 = ((i + 1 : Nat) : Int) by omega]; apply wrapi <;> omega
set_option linter.unusedVariables false
set_option linter.unusedSimpArgs false
attribute [local irreducible] J Lq E OpP PRun is any agg tup ptr sl PRunW OpE
attribute [local irreducible] ownAt row lvs
end Go.Proofs.Ytbemcehcipkliaa.L
