/-
  The logic, whole.
-/
import Derived.Test.YtljdjagackdplaaDoorTy
import Derived.Test.YtljdjagackdplaaDoorDt
import Derived.Test.YtljdjagackdplaaDoorLm
namespace Go.Proofs.YtljdjagackdplaaDoor.L
open Go
set_option linter.unusedSectionVars false
variable [Globs]

end Go.Proofs.YtljdjagackdplaaDoor.L
