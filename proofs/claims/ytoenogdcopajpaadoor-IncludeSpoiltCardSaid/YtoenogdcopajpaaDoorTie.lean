/-
  DERIVED. GIVEN WITH THE SEED: THE PROGRAM's TIES (one call each: nine closed facts by the kernel) AND EACH ROW's TIE, after the 31st guide's Derived/Test/Toyas{Tie, Card}.lean. No idea stands in it: it is a product of the set-up. Laid BY PROGRAM, IN A SANDBOX (cutbox-door.mjs). By AI agents, Wed Nov 11 2026. No macro, syntax, notation, axiom, sorry.
-/
import Derived.Test.YtoenogdcopajpaaDoorRows
import Derived.LaidByTextLater
import Derived.SevenTiedAt
import Derived.LaidSub
import Derived.LaidOnce
namespace Go.Proofs.YtoenogdcopajpaaDoor
open Go
set_option maxRecDepth 100000
theorem seatTie1 : Tryd.prog.laidByTextLater [("sealingwax/sealingwaxref02.k", Rows.laid_sealingwax_sealingwaxref02_k), ("sealingwax/sha.table", Rows.laid_sealingwax_sha_table), ("sealingwax/sha.begin", Rows.laid_sealingwax_sha_begin)] [.data, .data, .data] true :=
  Program.laidByTextLater_by_one 24 8 65 (by kernel_rfl) (by kernel_rfl) (by kernel_rfl) (by kernel_rfl) (by kernel_rfl) (by kernel_rfl) (fun _ _ => by kernel_rfl)
theorem noOwnUnsafe : Tryd.pinned.checked.prog.headLifts.contains "ownunsafe" = false := by kernel_rfl
theorem tie : Tryd.prog.laidByTextLater [("sealingwax/sealingwaxref02.k", Rows.laid_sealingwax_sealingwaxref02_k), ("sealingwax/sha.table", Rows.laid_sealingwax_sha_table), ("sealingwax/sha.begin", Rows.laid_sealingwax_sha_begin)] [.data, .data, .data] true :=
  Program.laidByTextLater.sub seatTie1 ["sealingwax/sealingwaxref02.k", "sealingwax/sha.table", "sealingwax/sha.begin"] (by kernel_rfl) (by kernel_rfl)
theorem includeProve_row_tie : Rows.includeProveRow.laidByTextAt .later Tryd.pinned [.data, .data, .data] true :=
  OpenClaim.laidByTextAt_later rfl rfl tie noOwnUnsafe
theorem includeCheck_row_tie : Rows.includeCheckRow.laidByTextAt .later Tryd.pinned [.data, .data, .data] true :=
  OpenClaim.laidByTextAt_later rfl rfl tie noOwnUnsafe
theorem tie2 : Tryd.prog.laidByTextLater [("sealingwax/sha.table", Rows.laid_sealingwax_sha_table), ("sealingwax/sha.begin", Rows.laid_sealingwax_sha_begin)] [.data, .data] true :=
  Program.laidByTextLater.sub seatTie1 ["sealingwax/sha.table", "sealingwax/sha.begin"] (by kernel_rfl) (by kernel_rfl)
theorem includeAll_row_tie : Rows.includeAllRow.laidByTextAt .later Tryd.pinned [.data, .data] true :=
  OpenClaim.laidByTextAt_later rfl rfl tie2 noOwnUnsafe
theorem includeSpoilt_row_tie : Rows.includeSpoiltRow.laidByTextAt .later Tryd.pinned [.data, .data] true :=
  OpenClaim.laidByTextAt_later rfl rfl tie2 noOwnUnsafe
theorem includeRoots_row_tie : Rows.includeRootsRow.laidByTextAt .later Tryd.pinned [.data, .data] true :=
  OpenClaim.laidByTextAt_later rfl rfl tie2 noOwnUnsafe
theorem includeLength_row_tie : Rows.includeLengthRow.laidByTextAt .later Tryd.pinned [.data, .data] true :=
  OpenClaim.laidByTextAt_later rfl rfl tie2 noOwnUnsafe
theorem includeWhole_row_tie : Rows.includeWholeRow.laidByTextAt .later Tryd.pinned [.data, .data] true :=
  OpenClaim.laidByTextAt_later rfl rfl tie2 noOwnUnsafe
theorem includeProveUpto_row_tie : Rows.includeProveUptoRow.laidByTextAt .later Tryd.pinned [.data, .data, .data] true :=
  OpenClaim.laidByTextAt_later rfl rfl tie noOwnUnsafe
theorem includeCheckUpto_row_tie : Rows.includeCheckUptoRow.laidByTextAt .later Tryd.pinned [.data, .data, .data] true :=
  OpenClaim.laidByTextAt_later rfl rfl tie noOwnUnsafe
theorem includeAllUpto_row_tie : Rows.includeAllUptoRow.laidByTextAt .later Tryd.pinned [.data, .data] true :=
  OpenClaim.laidByTextAt_later rfl rfl tie2 noOwnUnsafe
theorem includeSpoiltUpto_row_tie : Rows.includeSpoiltUptoRow.laidByTextAt .later Tryd.pinned [.data, .data] true :=
  OpenClaim.laidByTextAt_later rfl rfl tie2 noOwnUnsafe
theorem includeRootsUpto_row_tie : Rows.includeRootsUptoRow.laidByTextAt .later Tryd.pinned [.data, .data] true :=
  OpenClaim.laidByTextAt_later rfl rfl tie2 noOwnUnsafe
theorem includeLengthUpto_row_tie : Rows.includeLengthUptoRow.laidByTextAt .later Tryd.pinned [.data, .data] true :=
  OpenClaim.laidByTextAt_later rfl rfl tie2 noOwnUnsafe
theorem includeWholeUpto_row_tie : Rows.includeWholeUptoRow.laidByTextAt .later Tryd.pinned [.data, .data] true :=
  OpenClaim.laidByTextAt_later rfl rfl tie2 noOwnUnsafe
end Go.Proofs.YtoenogdcopajpaaDoor
