/-
  Streams, as data: beside the trees.
-/
import Derived.Test.YtafbkgijahinkaaDoorNs
import Derived.Test.YtafbkgijahinkaaDoorUh
namespace Go.Proofs.YtafbkgijahinkaaDoor.L
open Go Go.RowKit
set_option linter.unusedSectionVars false
variable [Globs] [Has_sha_table] [Has_sha_begin]
end Go.Proofs.YtafbkgijahinkaaDoor.L
