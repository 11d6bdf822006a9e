/-
  DERIVED. GIVEN WITH THE SEED: THE PROGRAM's TIES (one call each: nine closed facts by the kernel) AND EACH ROW's TIE, after the 31st guide's Derived/Test/Toyas{Tie, Card}.lean. No idea stands in it: it is a product of the set-up. Laid BY PROGRAM, IN A SANDBOX (cutbox-door.mjs). By AI agents, Wed Nov 11 2026. No macro, syntax, notation, axiom, sorry.
-/
import Derived.Test.YtljbbajelkkafaaDoorRows
import Derived.LaidByTextLater
import Derived.SevenTiedAt
import Derived.LaidSub
import Derived.LaidOnce
namespace Go.Proofs.YtljbbajelkkafaaDoor
open Go
set_option maxRecDepth 100000
theorem seatTie1 : Tryd.prog.laidByTextLater [("sealingwax/sealingwaxref02.k", Rows.laid_sealingwax_sealingwaxref02_k), ("sealingwax/sha.table", Rows.laid_sealingwax_sha_table), ("sealingwax/sha.begin", Rows.laid_sealingwax_sha_begin)] [.data, .data, .data] true :=
  Program.laidByTextLater_by_one 24 8 65 (by kernel_rfl) (by kernel_rfl) (by kernel_rfl) (by kernel_rfl) (by kernel_rfl) (by kernel_rfl) (fun _ _ => by kernel_rfl)
theorem noOwnUnsafe : Tryd.pinned.checked.prog.headLifts.contains "ownunsafe" = false := by kernel_rfl
theorem tie : Tryd.prog.laidByTextLater [("sealingwax/sha.table", Rows.laid_sealingwax_sha_table), ("sealingwax/sha.begin", Rows.laid_sealingwax_sha_begin)] [.data, .data] true :=
  Program.laidByTextLater.sub seatTie1 ["sealingwax/sha.table", "sealingwax/sha.begin"] (by kernel_rfl) (by kernel_rfl)
theorem modelBytes_row_tie : Rows.modelBytesRow.laidByTextAt .later Tryd.pinned [.data, .data] true :=
  OpenClaim.laidByTextAt_later rfl rfl tie noOwnUnsafe
theorem modelSure_row_tie : Rows.modelSureRow.laidByTextAt .later Tryd.pinned [.data, .data] true :=
  OpenClaim.laidByTextAt_later rfl rfl tie noOwnUnsafe
theorem modelNone_row_tie : Rows.modelNoneRow.laidByTextAt .later Tryd.pinned [.data, .data] true :=
  OpenClaim.laidByTextAt_later rfl rfl tie noOwnUnsafe
theorem modelSame_row_tie : Rows.modelSameRow.laidByTextAt .later Tryd.pinned [.data, .data] true :=
  OpenClaim.laidByTextAt_later rfl rfl tie noOwnUnsafe
theorem tie2 : Tryd.prog.laidByTextLater [("sealingwax/sealingwaxref02.k", Rows.laid_sealingwax_sealingwaxref02_k), ("sealingwax/sha.table", Rows.laid_sealingwax_sha_table), ("sealingwax/sha.begin", Rows.laid_sealingwax_sha_begin)] [.data, .data, .data] true :=
  Program.laidByTextLater.sub seatTie1 ["sealingwax/sealingwaxref02.k", "sealingwax/sha.table", "sealingwax/sha.begin"] (by kernel_rfl) (by kernel_rfl)
theorem modelPlays_row_tie : Rows.modelPlaysRow.laidByTextAt .later Tryd.pinned [.data, .data, .data] true :=
  OpenClaim.laidByTextAt_later rfl rfl tie2 noOwnUnsafe
theorem modelMany_row_tie : Rows.modelManyRow.laidByTextAt .later Tryd.pinned [.data, .data, .data] true :=
  OpenClaim.laidByTextAt_later rfl rfl tie2 noOwnUnsafe
theorem modelBytesUpto_row_tie : Rows.modelBytesUptoRow.laidByTextAt .later Tryd.pinned [.data, .data] true :=
  OpenClaim.laidByTextAt_later rfl rfl tie noOwnUnsafe
theorem modelSureUpto_row_tie : Rows.modelSureUptoRow.laidByTextAt .later Tryd.pinned [.data, .data] true :=
  OpenClaim.laidByTextAt_later rfl rfl tie noOwnUnsafe
theorem modelPlaysUpto_row_tie : Rows.modelPlaysUptoRow.laidByTextAt .later Tryd.pinned [.data, .data, .data] true :=
  OpenClaim.laidByTextAt_later rfl rfl tie2 noOwnUnsafe
theorem modelManyUpto_row_tie : Rows.modelManyUptoRow.laidByTextAt .later Tryd.pinned [.data, .data, .data] true :=
  OpenClaim.laidByTextAt_later rfl rfl tie2 noOwnUnsafe
theorem modelNoneUpto_row_tie : Rows.modelNoneUptoRow.laidByTextAt .later Tryd.pinned [.data, .data] true :=
  OpenClaim.laidByTextAt_later rfl rfl tie noOwnUnsafe
theorem modelSameUpto_row_tie : Rows.modelSameUptoRow.laidByTextAt .later Tryd.pinned [.data, .data] true :=
  OpenClaim.laidByTextAt_later rfl rfl tie noOwnUnsafe
end Go.Proofs.YtljbbajelkkafaaDoor
