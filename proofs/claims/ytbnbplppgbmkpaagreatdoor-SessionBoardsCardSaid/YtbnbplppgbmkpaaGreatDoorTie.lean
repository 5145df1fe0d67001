/-
  DERIVED. GIVEN WITH THE SEED: THE PROGRAM's TIES (one call each: nine closed facts by the kernel) AND EACH ROW's TIE, after the 31st guide's Derived/Test/Toyas{Tie, Card}.lean. No idea stands in it: it is a product of the set-up. Laid BY PROGRAM, IN A SANDBOX (cutbox-door.mjs). By AI agents, Wed Nov 11 2026. No macro, syntax, notation, axiom, sorry.
-/
import Derived.Test.YtbnbplppgbmkpaaGreatDoorRows
import Derived.LaidByTextLater
import Derived.SevenTiedAt
import Derived.LaidSub
import Derived.LaidOnce
namespace Go.Proofs.YtbnbplppgbmkpaaGreatDoor
open Go
set_option maxRecDepth 100000
theorem seatTie1 : Tryz.prog.laidByTextLater [("math/bits.deBruijn32tab", Rows.laid_math_bits_deBruijn32tab), ("math/bits.deBruijn64tab", Rows.laid_math_bits_deBruijn64tab), ("groat/sha.rounds", Rows.laid_groat_sha_rounds), ("internal/strconv.uint64pow10", Rows.laid_internal_strconv_uint64pow10), ("errors.errorType", Rows.laid_errors_errorType), ("groat/message.fields", Rows.laid_groat_message_fields), ("groat/message.types", Rows.laid_groat_message_types), ("groat/message.dialects", Rows.laid_groat_message_dialects)] [.data, .data, .data, .data, .handle, .widerDeep, .widerDeep, .wider] true :=
  Program.laidByTextLater_by_one 72 8 65 (by kernel_rfl) (by kernel_rfl) (by kernel_rfl) (by kernel_rfl) (by kernel_rfl) (by kernel_rfl) (fun _ _ => by kernel_rfl)
theorem noOwnUnsafe : Tryz.pinned.checked.prog.headLifts.contains "ownunsafe" = false := by kernel_rfl
theorem tie : Tryz.prog.laidByTextLater [("math/bits.deBruijn32tab", Rows.laid_math_bits_deBruijn32tab), ("math/bits.deBruijn64tab", Rows.laid_math_bits_deBruijn64tab), ("groat/sha.rounds", Rows.laid_groat_sha_rounds), ("internal/strconv.uint64pow10", Rows.laid_internal_strconv_uint64pow10), ("errors.errorType", Rows.laid_errors_errorType), ("groat/message.fields", Rows.laid_groat_message_fields), ("groat/message.types", Rows.laid_groat_message_types), ("groat/message.dialects", Rows.laid_groat_message_dialects)] [.data, .data, .data, .data, .handle, .widerDeep, .widerDeep, .wider] true :=
  Program.laidByTextLater.sub seatTie1 ["math/bits.deBruijn32tab", "math/bits.deBruijn64tab", "groat/sha.rounds", "internal/strconv.uint64pow10", "errors.errorType", "groat/message.fields", "groat/message.types", "groat/message.dialects"] (by kernel_rfl) (by kernel_rfl)
theorem sessionSeals_row_tie : Rows.sessionSealsRow.laidByTextAt .later Tryz.pinned [.data, .data, .data, .data, .handle, .widerDeep, .widerDeep, .wider] true :=
  OpenClaim.laidByTextAt_later rfl rfl tie noOwnUnsafe
theorem sessionHolds_row_tie : Rows.sessionHoldsRow.laidByTextAt .later Tryz.pinned [.data, .data, .data, .data, .handle, .widerDeep, .widerDeep, .wider] true :=
  OpenClaim.laidByTextAt_later rfl rfl tie noOwnUnsafe
theorem sessionAgain_row_tie : Rows.sessionAgainRow.laidByTextAt .later Tryz.pinned [.data, .data, .data, .data, .handle, .widerDeep, .widerDeep, .wider] true :=
  OpenClaim.laidByTextAt_later rfl rfl tie noOwnUnsafe
theorem sessionBoards_row_tie : Rows.sessionBoardsRow.laidByTextAt .later Tryz.pinned [.data, .data, .data, .data, .handle, .widerDeep, .widerDeep, .wider] true :=
  OpenClaim.laidByTextAt_later rfl rfl tie noOwnUnsafe
theorem sessionSealsUpto_row_tie : Rows.sessionSealsUptoRow.laidByTextAt .later Tryz.pinned [.data, .data, .data, .data, .handle, .widerDeep, .widerDeep, .wider] true :=
  OpenClaim.laidByTextAt_later rfl rfl tie noOwnUnsafe
theorem sessionHoldsUpto_row_tie : Rows.sessionHoldsUptoRow.laidByTextAt .later Tryz.pinned [.data, .data, .data, .data, .handle, .widerDeep, .widerDeep, .wider] true :=
  OpenClaim.laidByTextAt_later rfl rfl tie noOwnUnsafe
theorem sessionAgainUpto_row_tie : Rows.sessionAgainUptoRow.laidByTextAt .later Tryz.pinned [.data, .data, .data, .data, .handle, .widerDeep, .widerDeep, .wider] true :=
  OpenClaim.laidByTextAt_later rfl rfl tie noOwnUnsafe
theorem sessionBoardsUpto_row_tie : Rows.sessionBoardsUptoRow.laidByTextAt .later Tryz.pinned [.data, .data, .data, .data, .handle, .widerDeep, .widerDeep, .wider] true :=
  OpenClaim.laidByTextAt_later rfl rfl tie noOwnUnsafe
end Go.Proofs.YtbnbplppgbmkpaaGreatDoor
