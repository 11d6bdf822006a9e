/-
  The logic, whole.
-/
import Derived.Test.YtedbfcabblhccaaDoorTy
import Derived.Test.YtedbfcabblhccaaDoorDt
import Derived.Test.YtedbfcabblhccaaDoorLm
namespace Go.Proofs.YtedbfcabblhccaaDoor.L
open Go
set_option linter.unusedSectionVars false
variable [Globs]

end Go.Proofs.YtedbfcabblhccaaDoor.L
