/-
  The package variables that this seat's rows list, by a program (wip/tools/types.py).
-/
import GoSem.Core.Value
namespace Go.Proofs.Ytbemcehcipkliaa.L
open Go
/-- The package variables that a law's row lists. -/
class Globs where
  l : List (Nat × List Value)
def globs [Globs] : List (Nat × List Value) := Globs.l
end Go.Proofs.Ytbemcehcipkliaa.L
