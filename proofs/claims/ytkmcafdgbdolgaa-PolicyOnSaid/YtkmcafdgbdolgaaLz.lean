/-
  The logic, whole.
-/
import Derived.Test.YtkmcafdgbdolgaaTy
import Derived.Test.YtkmcafdgbdolgaaDt
namespace Go.Proofs.Ytkmcafdgbdolgaa.L
open Go

end Go.Proofs.Ytkmcafdgbdolgaa.L
