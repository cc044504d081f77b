/-
  DERIVED. GIVEN WITH THE SEED: THE PROGRAM's TIES (one call each: nine closed facts by the kernel) AND EACH ROW's TIE, after the 31st guide's Derived/Test/Toyas{Tie, Card}.lean. No idea stands in it: it is a product of the set-up. Laid BY PROGRAM, IN A SANDBOX (cutbox-door.mjs). By AI agents, Wed Nov 11 2026. No macro, syntax, notation, axiom, sorry.
-/
import Derived.Test.YtdlfdmbaejhaaaaDoorRows
import Derived.LaidByTextLater
import Derived.SevenTiedAt
import Derived.LaidSub
import Derived.LaidOnce
namespace Go.Proofs.YtdlfdmbaejhaaaaDoor
open Go
set_option maxRecDepth 100000
theorem seatTie1 : Tryd.prog.laidByTextLater [("math/bits.deBruijn32tab", Rows.laid_math_bits_deBruijn32tab), ("math/bits.deBruijn64tab", Rows.laid_math_bits_deBruijn64tab), ("internal/strconv.uint64pow10", Rows.laid_internal_strconv_uint64pow10), ("usher/api.ErrArg", Rows.laid_usher_api_ErrArg), ("usher/api.ErrText", Rows.laid_usher_api_ErrText), ("usher/api.ErrMany", Rows.laid_usher_api_ErrMany), ("usher/api.ErrTwice", Rows.laid_usher_api_ErrTwice), ("usher/api.ErrScheme", Rows.laid_usher_api_ErrScheme), ("usher/api.ErrShort", Rows.laid_usher_api_ErrShort), ("usher/api.ErrDry", Rows.laid_usher_api_ErrDry), ("usher/api.ErrTaken", Rows.laid_usher_api_ErrTaken), ("usher/api.ErrFull", Rows.laid_usher_api_ErrFull), ("usher/api.ErrDead", Rows.laid_usher_api_ErrDead), ("usher/api.ErrLog", Rows.laid_usher_api_ErrLog), ("usher/api.ErrLost", Rows.laid_usher_api_ErrLost), ("usher/api.ErrDenied", Rows.laid_usher_api_ErrDenied), ("usher/field.kinds", Rows.laid_usher_field_kinds), ("usher/reply.phrases", Rows.laid_usher_reply_phrases), ("usher/reply.own", Rows.laid_usher_reply_own)] [.data, .data, .data, .sentinel, .sentinel, .sentinel, .sentinel, .sentinel, .sentinel, .sentinel, .sentinel, .sentinel, .sentinel, .sentinel, .sentinel, .sentinel, .data, .data, .data] true :=
  Program.laidByTextLater_by_one 323 8 257 (by kernel_rfl) (by kernel_rfl) (by kernel_rfl) (by kernel_rfl) (by kernel_rfl) (by kernel_rfl) (fun _ _ => by kernel_rfl)
theorem seatTie2 : Tryd.prog.laidByTextLater [("math/bits.deBruijn32tab", Rows.laid_math_bits_deBruijn32tab), ("math/bits.deBruijn64tab", Rows.laid_math_bits_deBruijn64tab), ("internal/strconv.uint64pow10", Rows.laid_internal_strconv_uint64pow10), ("usher/api.ErrArg", Rows.laid_usher_api_ErrArg), ("usher/api.ErrText", Rows.laid_usher_api_ErrText), ("usher/api.ErrMany", Rows.laid_usher_api_ErrMany), ("usher/api.ErrTwice", Rows.laid_usher_api_ErrTwice), ("usher/api.ErrScheme", Rows.laid_usher_api_ErrScheme), ("usher/api.ErrShort", Rows.laid_usher_api_ErrShort), ("usher/api.ErrDry", Rows.laid_usher_api_ErrDry), ("usher/api.ErrTaken", Rows.laid_usher_api_ErrTaken), ("usher/api.ErrFull", Rows.laid_usher_api_ErrFull), ("usher/api.ErrDead", Rows.laid_usher_api_ErrDead), ("usher/api.ErrLog", Rows.laid_usher_api_ErrLog), ("usher/api.ErrLost", Rows.laid_usher_api_ErrLost), ("usher/api.ErrDenied", Rows.laid_usher_api_ErrDenied), ("usher/field.kinds", Rows.laid_usher_field_kinds), ("usher/reply.phrases", Rows.laid_usher_reply_phrases), ("usher/reply.own", Rows.laid_usher_reply_own), ("usher/usherlaw8.statuses", Rows.laid_usher_usherlaw8_statuses)] [.data, .data, .data, .sentinel, .sentinel, .sentinel, .sentinel, .sentinel, .sentinel, .sentinel, .sentinel, .sentinel, .sentinel, .sentinel, .sentinel, .sentinel, .data, .data, .data, .data] true :=
  Program.laidByTextLater_by_one 323 8 257 (by kernel_rfl) (by kernel_rfl) (by kernel_rfl) (by kernel_rfl) (by kernel_rfl) (by kernel_rfl) (fun _ _ => by kernel_rfl)
theorem seatTie3 : Tryd.prog.laidByTextLater [("unicode/utf8.acceptRanges", Rows.laid_unicode_utf8_acceptRanges), ("usher/api.ErrText", Rows.laid_usher_api_ErrText), ("usher/api.ErrMany", Rows.laid_usher_api_ErrMany), ("usher/field.kinds", Rows.laid_usher_field_kinds)] [.data, .sentinel, .sentinel, .data] true :=
  Program.laidByTextLater_by_one 323 8 257 (by kernel_rfl) (by kernel_rfl) (by kernel_rfl) (by kernel_rfl) (by kernel_rfl) (by kernel_rfl) (fun _ _ => by kernel_rfl)
theorem seatTie4 : Tryd.prog.laidByTextLater [("math/bits.deBruijn32tab", Rows.laid_math_bits_deBruijn32tab), ("math/bits.deBruijn64tab", Rows.laid_math_bits_deBruijn64tab), ("internal/strconv.uint64pow10", Rows.laid_internal_strconv_uint64pow10), ("usher/api.ErrText", Rows.laid_usher_api_ErrText), ("usher/api.ErrMany", Rows.laid_usher_api_ErrMany), ("usher/pct.unreserved", Rows.laid_usher_pct_unreserved), ("usher/field.kinds", Rows.laid_usher_field_kinds)] [.data, .data, .data, .sentinel, .sentinel, .data, .data] true :=
  Program.laidByTextLater_by_one 323 8 257 (by kernel_rfl) (by kernel_rfl) (by kernel_rfl) (by kernel_rfl) (by kernel_rfl) (by kernel_rfl) (fun _ _ => by kernel_rfl)
theorem seatTie5 : Tryd.prog.laidByTextLater [("math/bits.deBruijn32tab", Rows.laid_math_bits_deBruijn32tab), ("math/bits.deBruijn64tab", Rows.laid_math_bits_deBruijn64tab), ("internal/strconv.uint64pow10", Rows.laid_internal_strconv_uint64pow10), ("unicode/utf8.acceptRanges", Rows.laid_unicode_utf8_acceptRanges), ("usher/api.ErrArg", Rows.laid_usher_api_ErrArg), ("usher/api.ErrText", Rows.laid_usher_api_ErrText), ("usher/api.ErrMany", Rows.laid_usher_api_ErrMany), ("usher/api.ErrTwice", Rows.laid_usher_api_ErrTwice), ("usher/api.ErrScheme", Rows.laid_usher_api_ErrScheme), ("usher/api.ErrShort", Rows.laid_usher_api_ErrShort), ("usher/api.ErrDry", Rows.laid_usher_api_ErrDry), ("usher/api.ErrTaken", Rows.laid_usher_api_ErrTaken), ("usher/api.ErrFull", Rows.laid_usher_api_ErrFull), ("usher/api.ErrDead", Rows.laid_usher_api_ErrDead), ("usher/api.ErrLog", Rows.laid_usher_api_ErrLog), ("usher/api.ErrLost", Rows.laid_usher_api_ErrLost), ("usher/api.ErrDenied", Rows.laid_usher_api_ErrDenied), ("usher/field.kinds", Rows.laid_usher_field_kinds), ("usher/reply.phrases", Rows.laid_usher_reply_phrases), ("usher/reply.own", Rows.laid_usher_reply_own)] [.data, .data, .data, .data, .sentinel, .sentinel, .sentinel, .sentinel, .sentinel, .sentinel, .sentinel, .sentinel, .sentinel, .sentinel, .sentinel, .sentinel, .sentinel, .data, .data, .data] true :=
  Program.laidByTextLater_by_one 323 8 257 (by kernel_rfl) (by kernel_rfl) (by kernel_rfl) (by kernel_rfl) (by kernel_rfl) (by kernel_rfl) (fun _ _ => by kernel_rfl)
theorem seatTie6 : Tryd.prog.laidByTextLater [("math/bits.deBruijn32tab", Rows.laid_math_bits_deBruijn32tab), ("math/bits.deBruijn64tab", Rows.laid_math_bits_deBruijn64tab), ("internal/strconv.uint64pow10", Rows.laid_internal_strconv_uint64pow10), ("unicode/utf8.acceptRanges", Rows.laid_unicode_utf8_acceptRanges), ("usher/api.ErrArg", Rows.laid_usher_api_ErrArg), ("usher/api.ErrText", Rows.laid_usher_api_ErrText), ("usher/api.ErrMany", Rows.laid_usher_api_ErrMany), ("usher/api.ErrShort", Rows.laid_usher_api_ErrShort), ("usher/field.kinds", Rows.laid_usher_field_kinds), ("usher/reply.phrases", Rows.laid_usher_reply_phrases), ("usher/reply.own", Rows.laid_usher_reply_own), ("usher/usherlaw8.statuses", Rows.laid_usher_usherlaw8_statuses)] [.data, .data, .data, .data, .sentinel, .sentinel, .sentinel, .sentinel, .data, .data, .data, .data] true :=
  Program.laidByTextLater_by_one 323 8 257 (by kernel_rfl) (by kernel_rfl) (by kernel_rfl) (by kernel_rfl) (by kernel_rfl) (by kernel_rfl) (fun _ _ => by kernel_rfl)
theorem seatTie7 : Tryd.prog.laidByTextLater [("math/bits.deBruijn32tab", Rows.laid_math_bits_deBruijn32tab), ("math/bits.deBruijn64tab", Rows.laid_math_bits_deBruijn64tab), ("internal/strconv.uint64pow10", Rows.laid_internal_strconv_uint64pow10), ("unicode/utf8.acceptRanges", Rows.laid_unicode_utf8_acceptRanges), ("usher/api.ErrArg", Rows.laid_usher_api_ErrArg), ("usher/api.ErrText", Rows.laid_usher_api_ErrText), ("usher/api.ErrMany", Rows.laid_usher_api_ErrMany), ("usher/api.ErrTwice", Rows.laid_usher_api_ErrTwice), ("usher/api.ErrScheme", Rows.laid_usher_api_ErrScheme), ("usher/api.ErrShort", Rows.laid_usher_api_ErrShort), ("usher/api.ErrDry", Rows.laid_usher_api_ErrDry), ("usher/api.ErrTaken", Rows.laid_usher_api_ErrTaken), ("usher/api.ErrFull", Rows.laid_usher_api_ErrFull), ("usher/api.ErrDead", Rows.laid_usher_api_ErrDead), ("usher/api.ErrLog", Rows.laid_usher_api_ErrLog), ("usher/api.ErrLost", Rows.laid_usher_api_ErrLost), ("usher/api.ErrDenied", Rows.laid_usher_api_ErrDenied), ("usher/field.kinds", Rows.laid_usher_field_kinds), ("usher/reply.phrases", Rows.laid_usher_reply_phrases), ("usher/reply.own", Rows.laid_usher_reply_own), ("usher/usherlaw8.statuses", Rows.laid_usher_usherlaw8_statuses)] [.data, .data, .data, .data, .sentinel, .sentinel, .sentinel, .sentinel, .sentinel, .sentinel, .sentinel, .sentinel, .sentinel, .sentinel, .sentinel, .sentinel, .sentinel, .data, .data, .data, .data] true :=
  Program.laidByTextLater_by_one 323 8 257 (by kernel_rfl) (by kernel_rfl) (by kernel_rfl) (by kernel_rfl) (by kernel_rfl) (by kernel_rfl) (fun _ _ => by kernel_rfl)
theorem pin_laid_unicode_utf8_first : Tryd.pinned.checked.prog.pinnedFits "unicode/utf8.first" = true := by kernel_rfl
theorem noOwnUnsafe : Tryd.pinned.checked.prog.headLifts.contains "ownunsafe" = false := by kernel_rfl
theorem tie : Tryd.prog.laidByTextLater [("math/bits.deBruijn32tab", Rows.laid_math_bits_deBruijn32tab), ("math/bits.deBruijn64tab", Rows.laid_math_bits_deBruijn64tab), ("internal/strconv.uint64pow10", Rows.laid_internal_strconv_uint64pow10), ("usher/api.ErrArg", Rows.laid_usher_api_ErrArg), ("usher/api.ErrText", Rows.laid_usher_api_ErrText), ("usher/api.ErrMany", Rows.laid_usher_api_ErrMany), ("usher/api.ErrTwice", Rows.laid_usher_api_ErrTwice), ("usher/api.ErrScheme", Rows.laid_usher_api_ErrScheme), ("usher/api.ErrShort", Rows.laid_usher_api_ErrShort), ("usher/api.ErrDry", Rows.laid_usher_api_ErrDry), ("usher/api.ErrTaken", Rows.laid_usher_api_ErrTaken), ("usher/api.ErrFull", Rows.laid_usher_api_ErrFull), ("usher/api.ErrDead", Rows.laid_usher_api_ErrDead), ("usher/api.ErrLog", Rows.laid_usher_api_ErrLog), ("usher/api.ErrLost", Rows.laid_usher_api_ErrLost), ("usher/api.ErrDenied", Rows.laid_usher_api_ErrDenied), ("usher/field.kinds", Rows.laid_usher_field_kinds), ("usher/reply.phrases", Rows.laid_usher_reply_phrases), ("usher/reply.own", Rows.laid_usher_reply_own)] [.data, .data, .data, .sentinel, .sentinel, .sentinel, .sentinel, .sentinel, .sentinel, .sentinel, .sentinel, .sentinel, .sentinel, .sentinel, .sentinel, .sentinel, .data, .data, .data] true :=
  Program.laidByTextLater.sub seatTie1 ["math/bits.deBruijn32tab", "math/bits.deBruijn64tab", "internal/strconv.uint64pow10", "usher/api.ErrArg", "usher/api.ErrText", "usher/api.ErrMany", "usher/api.ErrTwice", "usher/api.ErrScheme", "usher/api.ErrShort", "usher/api.ErrDry", "usher/api.ErrTaken", "usher/api.ErrFull", "usher/api.ErrDead", "usher/api.ErrLog", "usher/api.ErrLost", "usher/api.ErrDenied", "usher/field.kinds", "usher/reply.phrases", "usher/reply.own"] (by kernel_rfl) (by kernel_rfl)
theorem replyRenderExact_row_tie : Rows.replyRenderExactRow.laidByTextAt .later Tryd.pinned [.data, .data, .data, .sentinel, .sentinel, .sentinel, .sentinel, .sentinel, .sentinel, .sentinel, .sentinel, .sentinel, .sentinel, .sentinel, .sentinel, .sentinel, .data, .data, .data] true :=
  OpenClaim.laidByTextAt_later rfl rfl tie noOwnUnsafe
theorem tie2 : Tryd.prog.laidByTextLater [("math/bits.deBruijn32tab", Rows.laid_math_bits_deBruijn32tab), ("math/bits.deBruijn64tab", Rows.laid_math_bits_deBruijn64tab), ("internal/strconv.uint64pow10", Rows.laid_internal_strconv_uint64pow10), ("usher/api.ErrArg", Rows.laid_usher_api_ErrArg), ("usher/api.ErrText", Rows.laid_usher_api_ErrText), ("usher/api.ErrMany", Rows.laid_usher_api_ErrMany), ("usher/api.ErrTwice", Rows.laid_usher_api_ErrTwice), ("usher/api.ErrScheme", Rows.laid_usher_api_ErrScheme), ("usher/api.ErrShort", Rows.laid_usher_api_ErrShort), ("usher/api.ErrDry", Rows.laid_usher_api_ErrDry), ("usher/api.ErrTaken", Rows.laid_usher_api_ErrTaken), ("usher/api.ErrFull", Rows.laid_usher_api_ErrFull), ("usher/api.ErrDead", Rows.laid_usher_api_ErrDead), ("usher/api.ErrLog", Rows.laid_usher_api_ErrLog), ("usher/api.ErrLost", Rows.laid_usher_api_ErrLost), ("usher/api.ErrDenied", Rows.laid_usher_api_ErrDenied), ("usher/field.kinds", Rows.laid_usher_field_kinds), ("usher/reply.phrases", Rows.laid_usher_reply_phrases), ("usher/reply.own", Rows.laid_usher_reply_own), ("usher/usherlaw8.statuses", Rows.laid_usher_usherlaw8_statuses)] [.data, .data, .data, .sentinel, .sentinel, .sentinel, .sentinel, .sentinel, .sentinel, .sentinel, .sentinel, .sentinel, .sentinel, .sentinel, .sentinel, .sentinel, .data, .data, .data, .data] true :=
  Program.laidByTextLater.sub seatTie2 ["math/bits.deBruijn32tab", "math/bits.deBruijn64tab", "internal/strconv.uint64pow10", "usher/api.ErrArg", "usher/api.ErrText", "usher/api.ErrMany", "usher/api.ErrTwice", "usher/api.ErrScheme", "usher/api.ErrShort", "usher/api.ErrDry", "usher/api.ErrTaken", "usher/api.ErrFull", "usher/api.ErrDead", "usher/api.ErrLog", "usher/api.ErrLost", "usher/api.ErrDenied", "usher/field.kinds", "usher/reply.phrases", "usher/reply.own", "usher/usherlaw8.statuses"] (by kernel_rfl) (by kernel_rfl)
theorem replyLines_row_tie : Rows.replyLinesRow.laidByTextAt .later Tryd.pinned [.data, .data, .data, .sentinel, .sentinel, .sentinel, .sentinel, .sentinel, .sentinel, .sentinel, .sentinel, .sentinel, .sentinel, .sentinel, .sentinel, .sentinel, .data, .data, .data, .data] true :=
  OpenClaim.laidByTextAt_later rfl rfl tie2 noOwnUnsafe
theorem fits3 : Tryd.pinned.checked.prog.listedFits [("unicode/utf8.acceptRanges", Rows.laid_unicode_utf8_acceptRanges), ("usher/api.ErrText", Rows.laid_usher_api_ErrText), ("usher/api.ErrMany", Rows.laid_usher_api_ErrMany), ("usher/field.kinds", Rows.laid_usher_field_kinds), ("unicode/utf8.first", Rows.laid_unicode_utf8_first)] = true := by
  unfold Program.listedFits
  rw [noOwnUnsafe]
  kernel_rfl
theorem tie3 : Tryd.prog.laidByTextLater [("unicode/utf8.acceptRanges", Rows.laid_unicode_utf8_acceptRanges), ("usher/api.ErrText", Rows.laid_usher_api_ErrText), ("usher/api.ErrMany", Rows.laid_usher_api_ErrMany), ("usher/field.kinds", Rows.laid_usher_field_kinds)] [.data, .sentinel, .sentinel, .data] true :=
  Program.laidByTextLater.sub seatTie3 ["unicode/utf8.acceptRanges", "usher/api.ErrText", "usher/api.ErrMany", "usher/field.kinds"] (by kernel_rfl) (by kernel_rfl)
theorem fieldCookieBack_row_tie : Rows.fieldCookieBackRow.laidByTextAt .later Tryd.pinned [.data, .sentinel, .sentinel, .data, .pinned] true :=
  OpenClaim.laidByTextAt_pinned rfl rfl tie3 rfl rfl rfl rfl (fun y hy _e => by
    simp only [Rows.fieldCookieBackRow, List.zip_cons_cons, List.zip_nil_right, List.mem_cons, List.mem_nil_iff, or_false] at hy
    rcases hy with rfl | rfl | rfl | rfl | rfl
    · cases _e
    · cases _e
    · cases _e
    · cases _e
    · exact ⟨pin_laid_unicode_utf8_first, by kernel_rfl⟩) fits3
theorem tie4 : Tryd.prog.laidByTextLater [("math/bits.deBruijn32tab", Rows.laid_math_bits_deBruijn32tab), ("math/bits.deBruijn64tab", Rows.laid_math_bits_deBruijn64tab), ("internal/strconv.uint64pow10", Rows.laid_internal_strconv_uint64pow10), ("usher/api.ErrText", Rows.laid_usher_api_ErrText), ("usher/api.ErrMany", Rows.laid_usher_api_ErrMany), ("usher/pct.unreserved", Rows.laid_usher_pct_unreserved), ("usher/field.kinds", Rows.laid_usher_field_kinds)] [.data, .data, .data, .sentinel, .sentinel, .data, .data] true :=
  Program.laidByTextLater.sub seatTie4 ["math/bits.deBruijn32tab", "math/bits.deBruijn64tab", "internal/strconv.uint64pow10", "usher/api.ErrText", "usher/api.ErrMany", "usher/pct.unreserved", "usher/field.kinds"] (by kernel_rfl) (by kernel_rfl)
theorem fieldSafe_row_tie : Rows.fieldSafeRow.laidByTextAt .later Tryd.pinned [.data, .data, .data, .sentinel, .sentinel, .data, .data] true :=
  OpenClaim.laidByTextAt_later rfl rfl tie4 noOwnUnsafe
theorem fits5 : Tryd.pinned.checked.prog.listedFits [("math/bits.deBruijn32tab", Rows.laid_math_bits_deBruijn32tab), ("math/bits.deBruijn64tab", Rows.laid_math_bits_deBruijn64tab), ("internal/strconv.uint64pow10", Rows.laid_internal_strconv_uint64pow10), ("unicode/utf8.acceptRanges", Rows.laid_unicode_utf8_acceptRanges), ("usher/api.ErrArg", Rows.laid_usher_api_ErrArg), ("usher/api.ErrText", Rows.laid_usher_api_ErrText), ("usher/api.ErrMany", Rows.laid_usher_api_ErrMany), ("usher/api.ErrTwice", Rows.laid_usher_api_ErrTwice), ("usher/api.ErrScheme", Rows.laid_usher_api_ErrScheme), ("usher/api.ErrShort", Rows.laid_usher_api_ErrShort), ("usher/api.ErrDry", Rows.laid_usher_api_ErrDry), ("usher/api.ErrTaken", Rows.laid_usher_api_ErrTaken), ("usher/api.ErrFull", Rows.laid_usher_api_ErrFull), ("usher/api.ErrDead", Rows.laid_usher_api_ErrDead), ("usher/api.ErrLog", Rows.laid_usher_api_ErrLog), ("usher/api.ErrLost", Rows.laid_usher_api_ErrLost), ("usher/api.ErrDenied", Rows.laid_usher_api_ErrDenied), ("usher/field.kinds", Rows.laid_usher_field_kinds), ("usher/reply.phrases", Rows.laid_usher_reply_phrases), ("usher/reply.own", Rows.laid_usher_reply_own), ("unicode/utf8.first", Rows.laid_unicode_utf8_first)] = true := by
  unfold Program.listedFits
  rw [noOwnUnsafe]
  kernel_rfl
theorem tie5 : Tryd.prog.laidByTextLater [("math/bits.deBruijn32tab", Rows.laid_math_bits_deBruijn32tab), ("math/bits.deBruijn64tab", Rows.laid_math_bits_deBruijn64tab), ("internal/strconv.uint64pow10", Rows.laid_internal_strconv_uint64pow10), ("unicode/utf8.acceptRanges", Rows.laid_unicode_utf8_acceptRanges), ("usher/api.ErrArg", Rows.laid_usher_api_ErrArg), ("usher/api.ErrText", Rows.laid_usher_api_ErrText), ("usher/api.ErrMany", Rows.laid_usher_api_ErrMany), ("usher/api.ErrTwice", Rows.laid_usher_api_ErrTwice), ("usher/api.ErrScheme", Rows.laid_usher_api_ErrScheme), ("usher/api.ErrShort", Rows.laid_usher_api_ErrShort), ("usher/api.ErrDry", Rows.laid_usher_api_ErrDry), ("usher/api.ErrTaken", Rows.laid_usher_api_ErrTaken), ("usher/api.ErrFull", Rows.laid_usher_api_ErrFull), ("usher/api.ErrDead", Rows.laid_usher_api_ErrDead), ("usher/api.ErrLog", Rows.laid_usher_api_ErrLog), ("usher/api.ErrLost", Rows.laid_usher_api_ErrLost), ("usher/api.ErrDenied", Rows.laid_usher_api_ErrDenied), ("usher/field.kinds", Rows.laid_usher_field_kinds), ("usher/reply.phrases", Rows.laid_usher_reply_phrases), ("usher/reply.own", Rows.laid_usher_reply_own)] [.data, .data, .data, .data, .sentinel, .sentinel, .sentinel, .sentinel, .sentinel, .sentinel, .sentinel, .sentinel, .sentinel, .sentinel, .sentinel, .sentinel, .sentinel, .data, .data, .data] true :=
  Program.laidByTextLater.sub seatTie5 ["math/bits.deBruijn32tab", "math/bits.deBruijn64tab", "internal/strconv.uint64pow10", "unicode/utf8.acceptRanges", "usher/api.ErrArg", "usher/api.ErrText", "usher/api.ErrMany", "usher/api.ErrTwice", "usher/api.ErrScheme", "usher/api.ErrShort", "usher/api.ErrDry", "usher/api.ErrTaken", "usher/api.ErrFull", "usher/api.ErrDead", "usher/api.ErrLog", "usher/api.ErrLost", "usher/api.ErrDenied", "usher/field.kinds", "usher/reply.phrases", "usher/reply.own"] (by kernel_rfl) (by kernel_rfl)
theorem replyReadExact_row_tie : Rows.replyReadExactRow.laidByTextAt .later Tryd.pinned [.data, .data, .data, .data, .sentinel, .sentinel, .sentinel, .sentinel, .sentinel, .sentinel, .sentinel, .sentinel, .sentinel, .sentinel, .sentinel, .sentinel, .sentinel, .data, .data, .data, .pinned] true :=
  OpenClaim.laidByTextAt_pinned rfl rfl tie5 rfl rfl rfl rfl (fun y hy _e => by
    simp only [Rows.replyReadExactRow, List.zip_cons_cons, List.zip_nil_right, List.mem_cons, List.mem_nil_iff, or_false] at hy
    rcases hy with rfl | rfl | rfl | rfl | rfl | rfl | rfl | rfl | rfl | rfl | rfl | rfl | rfl | rfl | rfl | rfl | rfl | rfl | rfl | rfl | rfl
    · cases _e
    · cases _e
    · cases _e
    · cases _e
    · cases _e
    · cases _e
    · cases _e
    · cases _e
    · cases _e
    · cases _e
    · cases _e
    · cases _e
    · cases _e
    · cases _e
    · cases _e
    · cases _e
    · cases _e
    · cases _e
    · cases _e
    · cases _e
    · exact ⟨pin_laid_unicode_utf8_first, by kernel_rfl⟩) fits5
theorem replyLimits_row_tie : Rows.replyLimitsRow.laidByTextAt .later Tryd.pinned [.data, .data, .data, .data, .sentinel, .sentinel, .sentinel, .sentinel, .sentinel, .sentinel, .sentinel, .sentinel, .sentinel, .sentinel, .sentinel, .sentinel, .sentinel, .data, .data, .data, .pinned] true :=
  OpenClaim.laidByTextAt_pinned rfl rfl tie5 rfl rfl rfl rfl (fun y hy _e => by
    simp only [Rows.replyLimitsRow, List.zip_cons_cons, List.zip_nil_right, List.mem_cons, List.mem_nil_iff, or_false] at hy
    rcases hy with rfl | rfl | rfl | rfl | rfl | rfl | rfl | rfl | rfl | rfl | rfl | rfl | rfl | rfl | rfl | rfl | rfl | rfl | rfl | rfl | rfl
    · cases _e
    · cases _e
    · cases _e
    · cases _e
    · cases _e
    · cases _e
    · cases _e
    · cases _e
    · cases _e
    · cases _e
    · cases _e
    · cases _e
    · cases _e
    · cases _e
    · cases _e
    · cases _e
    · cases _e
    · cases _e
    · cases _e
    · cases _e
    · exact ⟨pin_laid_unicode_utf8_first, by kernel_rfl⟩) fits5
theorem replyOnly_row_tie : Rows.replyOnlyRow.laidByTextAt .later Tryd.pinned [.data, .data, .data, .data, .sentinel, .sentinel, .sentinel, .sentinel, .sentinel, .sentinel, .sentinel, .sentinel, .sentinel, .sentinel, .sentinel, .sentinel, .sentinel, .data, .data, .data, .pinned] true :=
  OpenClaim.laidByTextAt_pinned rfl rfl tie5 rfl rfl rfl rfl (fun y hy _e => by
    simp only [Rows.replyOnlyRow, List.zip_cons_cons, List.zip_nil_right, List.mem_cons, List.mem_nil_iff, or_false] at hy
    rcases hy with rfl | rfl | rfl | rfl | rfl | rfl | rfl | rfl | rfl | rfl | rfl | rfl | rfl | rfl | rfl | rfl | rfl | rfl | rfl | rfl | rfl
    · cases _e
    · cases _e
    · cases _e
    · cases _e
    · cases _e
    · cases _e
    · cases _e
    · cases _e
    · cases _e
    · cases _e
    · cases _e
    · cases _e
    · cases _e
    · cases _e
    · cases _e
    · cases _e
    · cases _e
    · cases _e
    · cases _e
    · cases _e
    · exact ⟨pin_laid_unicode_utf8_first, by kernel_rfl⟩) fits5
theorem fits6 : Tryd.pinned.checked.prog.listedFits [("math/bits.deBruijn32tab", Rows.laid_math_bits_deBruijn32tab), ("math/bits.deBruijn64tab", Rows.laid_math_bits_deBruijn64tab), ("internal/strconv.uint64pow10", Rows.laid_internal_strconv_uint64pow10), ("unicode/utf8.acceptRanges", Rows.laid_unicode_utf8_acceptRanges), ("usher/api.ErrArg", Rows.laid_usher_api_ErrArg), ("usher/api.ErrText", Rows.laid_usher_api_ErrText), ("usher/api.ErrMany", Rows.laid_usher_api_ErrMany), ("usher/api.ErrShort", Rows.laid_usher_api_ErrShort), ("usher/field.kinds", Rows.laid_usher_field_kinds), ("usher/reply.phrases", Rows.laid_usher_reply_phrases), ("usher/reply.own", Rows.laid_usher_reply_own), ("usher/usherlaw8.statuses", Rows.laid_usher_usherlaw8_statuses), ("unicode/utf8.first", Rows.laid_unicode_utf8_first)] = true := by
  unfold Program.listedFits
  rw [noOwnUnsafe]
  kernel_rfl
theorem tie6 : Tryd.prog.laidByTextLater [("math/bits.deBruijn32tab", Rows.laid_math_bits_deBruijn32tab), ("math/bits.deBruijn64tab", Rows.laid_math_bits_deBruijn64tab), ("internal/strconv.uint64pow10", Rows.laid_internal_strconv_uint64pow10), ("unicode/utf8.acceptRanges", Rows.laid_unicode_utf8_acceptRanges), ("usher/api.ErrArg", Rows.laid_usher_api_ErrArg), ("usher/api.ErrText", Rows.laid_usher_api_ErrText), ("usher/api.ErrMany", Rows.laid_usher_api_ErrMany), ("usher/api.ErrShort", Rows.laid_usher_api_ErrShort), ("usher/field.kinds", Rows.laid_usher_field_kinds), ("usher/reply.phrases", Rows.laid_usher_reply_phrases), ("usher/reply.own", Rows.laid_usher_reply_own), ("usher/usherlaw8.statuses", Rows.laid_usher_usherlaw8_statuses)] [.data, .data, .data, .data, .sentinel, .sentinel, .sentinel, .sentinel, .data, .data, .data, .data] true :=
  Program.laidByTextLater.sub seatTie6 ["math/bits.deBruijn32tab", "math/bits.deBruijn64tab", "internal/strconv.uint64pow10", "unicode/utf8.acceptRanges", "usher/api.ErrArg", "usher/api.ErrText", "usher/api.ErrMany", "usher/api.ErrShort", "usher/field.kinds", "usher/reply.phrases", "usher/reply.own", "usher/usherlaw8.statuses"] (by kernel_rfl) (by kernel_rfl)
theorem replyBack_row_tie : Rows.replyBackRow.laidByTextAt .later Tryd.pinned [.data, .data, .data, .data, .sentinel, .sentinel, .sentinel, .sentinel, .data, .data, .data, .data, .pinned] true :=
  OpenClaim.laidByTextAt_pinned rfl rfl tie6 rfl rfl rfl rfl (fun y hy _e => by
    simp only [Rows.replyBackRow, List.zip_cons_cons, List.zip_nil_right, List.mem_cons, List.mem_nil_iff, or_false] at hy
    rcases hy with rfl | rfl | rfl | rfl | rfl | rfl | rfl | rfl | rfl | rfl | rfl | rfl | rfl
    · cases _e
    · cases _e
    · cases _e
    · cases _e
    · cases _e
    · cases _e
    · cases _e
    · cases _e
    · cases _e
    · cases _e
    · cases _e
    · cases _e
    · exact ⟨pin_laid_unicode_utf8_first, by kernel_rfl⟩) fits6
theorem replyStream_row_tie : Rows.replyStreamRow.laidByTextAt .later Tryd.pinned [.data, .data, .data, .data, .sentinel, .sentinel, .sentinel, .sentinel, .data, .data, .data, .data, .pinned] true :=
  OpenClaim.laidByTextAt_pinned rfl rfl tie6 rfl rfl rfl rfl (fun y hy _e => by
    simp only [Rows.replyStreamRow, List.zip_cons_cons, List.zip_nil_right, List.mem_cons, List.mem_nil_iff, or_false] at hy
    rcases hy with rfl | rfl | rfl | rfl | rfl | rfl | rfl | rfl | rfl | rfl | rfl | rfl | rfl
    · cases _e
    · cases _e
    · cases _e
    · cases _e
    · cases _e
    · cases _e
    · cases _e
    · cases _e
    · cases _e
    · cases _e
    · cases _e
    · cases _e
    · exact ⟨pin_laid_unicode_utf8_first, by kernel_rfl⟩) fits6
theorem replyMemory_row_tie : Rows.replyMemoryRow.laidByTextAt .later Tryd.pinned [.data, .data, .data, .data, .sentinel, .sentinel, .sentinel, .sentinel, .data, .data, .data, .data, .pinned] true :=
  OpenClaim.laidByTextAt_pinned rfl rfl tie6 rfl rfl rfl rfl (fun y hy _e => by
    simp only [Rows.replyMemoryRow, List.zip_cons_cons, List.zip_nil_right, List.mem_cons, List.mem_nil_iff, or_false] at hy
    rcases hy with rfl | rfl | rfl | rfl | rfl | rfl | rfl | rfl | rfl | rfl | rfl | rfl | rfl
    · cases _e
    · cases _e
    · cases _e
    · cases _e
    · cases _e
    · cases _e
    · cases _e
    · cases _e
    · cases _e
    · cases _e
    · cases _e
    · cases _e
    · exact ⟨pin_laid_unicode_utf8_first, by kernel_rfl⟩) fits6
theorem fits7 : Tryd.pinned.checked.prog.listedFits [("math/bits.deBruijn32tab", Rows.laid_math_bits_deBruijn32tab), ("math/bits.deBruijn64tab", Rows.laid_math_bits_deBruijn64tab), ("internal/strconv.uint64pow10", Rows.laid_internal_strconv_uint64pow10), ("unicode/utf8.acceptRanges", Rows.laid_unicode_utf8_acceptRanges), ("usher/api.ErrArg", Rows.laid_usher_api_ErrArg), ("usher/api.ErrText", Rows.laid_usher_api_ErrText), ("usher/api.ErrMany", Rows.laid_usher_api_ErrMany), ("usher/api.ErrTwice", Rows.laid_usher_api_ErrTwice), ("usher/api.ErrScheme", Rows.laid_usher_api_ErrScheme), ("usher/api.ErrShort", Rows.laid_usher_api_ErrShort), ("usher/api.ErrDry", Rows.laid_usher_api_ErrDry), ("usher/api.ErrTaken", Rows.laid_usher_api_ErrTaken), ("usher/api.ErrFull", Rows.laid_usher_api_ErrFull), ("usher/api.ErrDead", Rows.laid_usher_api_ErrDead), ("usher/api.ErrLog", Rows.laid_usher_api_ErrLog), ("usher/api.ErrLost", Rows.laid_usher_api_ErrLost), ("usher/api.ErrDenied", Rows.laid_usher_api_ErrDenied), ("usher/field.kinds", Rows.laid_usher_field_kinds), ("usher/reply.phrases", Rows.laid_usher_reply_phrases), ("usher/reply.own", Rows.laid_usher_reply_own), ("usher/usherlaw8.statuses", Rows.laid_usher_usherlaw8_statuses), ("unicode/utf8.first", Rows.laid_unicode_utf8_first)] = true := by
  unfold Program.listedFits
  rw [noOwnUnsafe]
  kernel_rfl
theorem tie7 : Tryd.prog.laidByTextLater [("math/bits.deBruijn32tab", Rows.laid_math_bits_deBruijn32tab), ("math/bits.deBruijn64tab", Rows.laid_math_bits_deBruijn64tab), ("internal/strconv.uint64pow10", Rows.laid_internal_strconv_uint64pow10), ("unicode/utf8.acceptRanges", Rows.laid_unicode_utf8_acceptRanges), ("usher/api.ErrArg", Rows.laid_usher_api_ErrArg), ("usher/api.ErrText", Rows.laid_usher_api_ErrText), ("usher/api.ErrMany", Rows.laid_usher_api_ErrMany), ("usher/api.ErrTwice", Rows.laid_usher_api_ErrTwice), ("usher/api.ErrScheme", Rows.laid_usher_api_ErrScheme), ("usher/api.ErrShort", Rows.laid_usher_api_ErrShort), ("usher/api.ErrDry", Rows.laid_usher_api_ErrDry), ("usher/api.ErrTaken", Rows.laid_usher_api_ErrTaken), ("usher/api.ErrFull", Rows.laid_usher_api_ErrFull), ("usher/api.ErrDead", Rows.laid_usher_api_ErrDead), ("usher/api.ErrLog", Rows.laid_usher_api_ErrLog), ("usher/api.ErrLost", Rows.laid_usher_api_ErrLost), ("usher/api.ErrDenied", Rows.laid_usher_api_ErrDenied), ("usher/field.kinds", Rows.laid_usher_field_kinds), ("usher/reply.phrases", Rows.laid_usher_reply_phrases), ("usher/reply.own", Rows.laid_usher_reply_own), ("usher/usherlaw8.statuses", Rows.laid_usher_usherlaw8_statuses)] [.data, .data, .data, .data, .sentinel, .sentinel, .sentinel, .sentinel, .sentinel, .sentinel, .sentinel, .sentinel, .sentinel, .sentinel, .sentinel, .sentinel, .sentinel, .data, .data, .data, .data] true :=
  Program.laidByTextLater.sub seatTie7 ["math/bits.deBruijn32tab", "math/bits.deBruijn64tab", "internal/strconv.uint64pow10", "unicode/utf8.acceptRanges", "usher/api.ErrArg", "usher/api.ErrText", "usher/api.ErrMany", "usher/api.ErrTwice", "usher/api.ErrScheme", "usher/api.ErrShort", "usher/api.ErrDry", "usher/api.ErrTaken", "usher/api.ErrFull", "usher/api.ErrDead", "usher/api.ErrLog", "usher/api.ErrLost", "usher/api.ErrDenied", "usher/field.kinds", "usher/reply.phrases", "usher/reply.own", "usher/usherlaw8.statuses"] (by kernel_rfl) (by kernel_rfl)
theorem replyCut_row_tie : Rows.replyCutRow.laidByTextAt .later Tryd.pinned [.data, .data, .data, .data, .sentinel, .sentinel, .sentinel, .sentinel, .sentinel, .sentinel, .sentinel, .sentinel, .sentinel, .sentinel, .sentinel, .sentinel, .sentinel, .data, .data, .data, .data, .pinned] true :=
  OpenClaim.laidByTextAt_pinned rfl rfl tie7 rfl rfl rfl rfl (fun y hy _e => by
    simp only [Rows.replyCutRow, List.zip_cons_cons, List.zip_nil_right, List.mem_cons, List.mem_nil_iff, or_false] at hy
    rcases hy with rfl | rfl | rfl | rfl | rfl | rfl | rfl | rfl | rfl | rfl | rfl | rfl | rfl | rfl | rfl | rfl | rfl | rfl | rfl | rfl | rfl | rfl
    · cases _e
    · cases _e
    · cases _e
    · cases _e
    · cases _e
    · cases _e
    · cases _e
    · cases _e
    · cases _e
    · cases _e
    · cases _e
    · cases _e
    · cases _e
    · cases _e
    · cases _e
    · cases _e
    · cases _e
    · cases _e
    · cases _e
    · cases _e
    · cases _e
    · exact ⟨pin_laid_unicode_utf8_first, by kernel_rfl⟩) fits7
theorem replyBare_row_tie : Rows.replyBareRow.laidByTextAt .later Tryd.pinned [.data, .data, .data, .data, .sentinel, .sentinel, .sentinel, .sentinel, .sentinel, .sentinel, .sentinel, .sentinel, .sentinel, .sentinel, .sentinel, .sentinel, .sentinel, .data, .data, .data, .data, .pinned] true :=
  OpenClaim.laidByTextAt_pinned rfl rfl tie7 rfl rfl rfl rfl (fun y hy _e => by
    simp only [Rows.replyBareRow, List.zip_cons_cons, List.zip_nil_right, List.mem_cons, List.mem_nil_iff, or_false] at hy
    rcases hy with rfl | rfl | rfl | rfl | rfl | rfl | rfl | rfl | rfl | rfl | rfl | rfl | rfl | rfl | rfl | rfl | rfl | rfl | rfl | rfl | rfl | rfl
    · cases _e
    · cases _e
    · cases _e
    · cases _e
    · cases _e
    · cases _e
    · cases _e
    · cases _e
    · cases _e
    · cases _e
    · cases _e
    · cases _e
    · cases _e
    · cases _e
    · cases _e
    · cases _e
    · cases _e
    · cases _e
    · cases _e
    · cases _e
    · cases _e
    · exact ⟨pin_laid_unicode_utf8_first, by kernel_rfl⟩) fits7
theorem replyRenderExactUpto_row_tie : Rows.replyRenderExactUptoRow.laidByTextAt .later Tryd.pinned [.data, .data, .data, .sentinel, .sentinel, .sentinel, .sentinel, .sentinel, .sentinel, .sentinel, .sentinel, .sentinel, .sentinel, .sentinel, .sentinel, .sentinel, .data, .data, .data] true :=
  OpenClaim.laidByTextAt_later rfl rfl tie noOwnUnsafe
theorem replyLinesUpto_row_tie : Rows.replyLinesUptoRow.laidByTextAt .later Tryd.pinned [.data, .data, .data, .sentinel, .sentinel, .sentinel, .sentinel, .sentinel, .sentinel, .sentinel, .sentinel, .sentinel, .sentinel, .sentinel, .sentinel, .sentinel, .data, .data, .data, .data] true :=
  OpenClaim.laidByTextAt_later rfl rfl tie2 noOwnUnsafe
theorem fieldCookieBackUpto_row_tie : Rows.fieldCookieBackUptoRow.laidByTextAt .later Tryd.pinned [.data, .sentinel, .sentinel, .data, .pinned] true :=
  OpenClaim.laidByTextAt_pinned rfl rfl tie3 rfl rfl rfl rfl (fun y hy _e => by
    simp only [Rows.fieldCookieBackUptoRow, List.zip_cons_cons, List.zip_nil_right, List.mem_cons, List.mem_nil_iff, or_false] at hy
    rcases hy with rfl | rfl | rfl | rfl | rfl
    · cases _e
    · cases _e
    · cases _e
    · cases _e
    · exact ⟨pin_laid_unicode_utf8_first, by kernel_rfl⟩) fits3
theorem fieldSafeUpto_row_tie : Rows.fieldSafeUptoRow.laidByTextAt .later Tryd.pinned [.data, .data, .data, .sentinel, .sentinel, .data, .data] true :=
  OpenClaim.laidByTextAt_later rfl rfl tie4 noOwnUnsafe
theorem replyReadExactUpto_row_tie : Rows.replyReadExactUptoRow.laidByTextAt .later Tryd.pinned [.data, .data, .data, .data, .sentinel, .sentinel, .sentinel, .sentinel, .sentinel, .sentinel, .sentinel, .sentinel, .sentinel, .sentinel, .sentinel, .sentinel, .sentinel, .data, .data, .data, .pinned] true :=
  OpenClaim.laidByTextAt_pinned rfl rfl tie5 rfl rfl rfl rfl (fun y hy _e => by
    simp only [Rows.replyReadExactUptoRow, List.zip_cons_cons, List.zip_nil_right, List.mem_cons, List.mem_nil_iff, or_false] at hy
    rcases hy with rfl | rfl | rfl | rfl | rfl | rfl | rfl | rfl | rfl | rfl | rfl | rfl | rfl | rfl | rfl | rfl | rfl | rfl | rfl | rfl | rfl
    · cases _e
    · cases _e
    · cases _e
    · cases _e
    · cases _e
    · cases _e
    · cases _e
    · cases _e
    · cases _e
    · cases _e
    · cases _e
    · cases _e
    · cases _e
    · cases _e
    · cases _e
    · cases _e
    · cases _e
    · cases _e
    · cases _e
    · cases _e
    · exact ⟨pin_laid_unicode_utf8_first, by kernel_rfl⟩) fits5
theorem replyLimitsUpto_row_tie : Rows.replyLimitsUptoRow.laidByTextAt .later Tryd.pinned [.data, .data, .data, .data, .sentinel, .sentinel, .sentinel, .sentinel, .sentinel, .sentinel, .sentinel, .sentinel, .sentinel, .sentinel, .sentinel, .sentinel, .sentinel, .data, .data, .data, .pinned] true :=
  OpenClaim.laidByTextAt_pinned rfl rfl tie5 rfl rfl rfl rfl (fun y hy _e => by
    simp only [Rows.replyLimitsUptoRow, List.zip_cons_cons, List.zip_nil_right, List.mem_cons, List.mem_nil_iff, or_false] at hy
    rcases hy with rfl | rfl | rfl | rfl | rfl | rfl | rfl | rfl | rfl | rfl | rfl | rfl | rfl | rfl | rfl | rfl | rfl | rfl | rfl | rfl | rfl
    · cases _e
    · cases _e
    · cases _e
    · cases _e
    · cases _e
    · cases _e
    · cases _e
    · cases _e
    · cases _e
    · cases _e
    · cases _e
    · cases _e
    · cases _e
    · cases _e
    · cases _e
    · cases _e
    · cases _e
    · cases _e
    · cases _e
    · cases _e
    · exact ⟨pin_laid_unicode_utf8_first, by kernel_rfl⟩) fits5
theorem replyBackUpto_row_tie : Rows.replyBackUptoRow.laidByTextAt .later Tryd.pinned [.data, .data, .data, .data, .sentinel, .sentinel, .sentinel, .sentinel, .data, .data, .data, .data, .pinned] true :=
  OpenClaim.laidByTextAt_pinned rfl rfl tie6 rfl rfl rfl rfl (fun y hy _e => by
    simp only [Rows.replyBackUptoRow, List.zip_cons_cons, List.zip_nil_right, List.mem_cons, List.mem_nil_iff, or_false] at hy
    rcases hy with rfl | rfl | rfl | rfl | rfl | rfl | rfl | rfl | rfl | rfl | rfl | rfl | rfl
    · cases _e
    · cases _e
    · cases _e
    · cases _e
    · cases _e
    · cases _e
    · cases _e
    · cases _e
    · cases _e
    · cases _e
    · cases _e
    · cases _e
    · exact ⟨pin_laid_unicode_utf8_first, by kernel_rfl⟩) fits6
theorem replyCutUpto_row_tie : Rows.replyCutUptoRow.laidByTextAt .later Tryd.pinned [.data, .data, .data, .data, .sentinel, .sentinel, .sentinel, .sentinel, .sentinel, .sentinel, .sentinel, .sentinel, .sentinel, .sentinel, .sentinel, .sentinel, .sentinel, .data, .data, .data, .data, .pinned] true :=
  OpenClaim.laidByTextAt_pinned rfl rfl tie7 rfl rfl rfl rfl (fun y hy _e => by
    simp only [Rows.replyCutUptoRow, List.zip_cons_cons, List.zip_nil_right, List.mem_cons, List.mem_nil_iff, or_false] at hy
    rcases hy with rfl | rfl | rfl | rfl | rfl | rfl | rfl | rfl | rfl | rfl | rfl | rfl | rfl | rfl | rfl | rfl | rfl | rfl | rfl | rfl | rfl | rfl
    · cases _e
    · cases _e
    · cases _e
    · cases _e
    · cases _e
    · cases _e
    · cases _e
    · cases _e
    · cases _e
    · cases _e
    · cases _e
    · cases _e
    · cases _e
    · cases _e
    · cases _e
    · cases _e
    · cases _e
    · cases _e
    · cases _e
    · cases _e
    · cases _e
    · exact ⟨pin_laid_unicode_utf8_first, by kernel_rfl⟩) fits7
theorem replyOnlyUpto_row_tie : Rows.replyOnlyUptoRow.laidByTextAt .later Tryd.pinned [.data, .data, .data, .data, .sentinel, .sentinel, .sentinel, .sentinel, .sentinel, .sentinel, .sentinel, .sentinel, .sentinel, .sentinel, .sentinel, .sentinel, .sentinel, .data, .data, .data, .pinned] true :=
  OpenClaim.laidByTextAt_pinned rfl rfl tie5 rfl rfl rfl rfl (fun y hy _e => by
    simp only [Rows.replyOnlyUptoRow, List.zip_cons_cons, List.zip_nil_right, List.mem_cons, List.mem_nil_iff, or_false] at hy
    rcases hy with rfl | rfl | rfl | rfl | rfl | rfl | rfl | rfl | rfl | rfl | rfl | rfl | rfl | rfl | rfl | rfl | rfl | rfl | rfl | rfl | rfl
    · cases _e
    · cases _e
    · cases _e
    · cases _e
    · cases _e
    · cases _e
    · cases _e
    · cases _e
    · cases _e
    · cases _e
    · cases _e
    · cases _e
    · cases _e
    · cases _e
    · cases _e
    · cases _e
    · cases _e
    · cases _e
    · cases _e
    · cases _e
    · exact ⟨pin_laid_unicode_utf8_first, by kernel_rfl⟩) fits5
theorem replyStreamUpto_row_tie : Rows.replyStreamUptoRow.laidByTextAt .later Tryd.pinned [.data, .data, .data, .data, .sentinel, .sentinel, .sentinel, .sentinel, .data, .data, .data, .data, .pinned] true :=
  OpenClaim.laidByTextAt_pinned rfl rfl tie6 rfl rfl rfl rfl (fun y hy _e => by
    simp only [Rows.replyStreamUptoRow, List.zip_cons_cons, List.zip_nil_right, List.mem_cons, List.mem_nil_iff, or_false] at hy
    rcases hy with rfl | rfl | rfl | rfl | rfl | rfl | rfl | rfl | rfl | rfl | rfl | rfl | rfl
    · cases _e
    · cases _e
    · cases _e
    · cases _e
    · cases _e
    · cases _e
    · cases _e
    · cases _e
    · cases _e
    · cases _e
    · cases _e
    · cases _e
    · exact ⟨pin_laid_unicode_utf8_first, by kernel_rfl⟩) fits6
theorem replyBareUpto_row_tie : Rows.replyBareUptoRow.laidByTextAt .later Tryd.pinned [.data, .data, .data, .data, .sentinel, .sentinel, .sentinel, .sentinel, .sentinel, .sentinel, .sentinel, .sentinel, .sentinel, .sentinel, .sentinel, .sentinel, .sentinel, .data, .data, .data, .data, .pinned] true :=
  OpenClaim.laidByTextAt_pinned rfl rfl tie7 rfl rfl rfl rfl (fun y hy _e => by
    simp only [Rows.replyBareUptoRow, List.zip_cons_cons, List.zip_nil_right, List.mem_cons, List.mem_nil_iff, or_false] at hy
    rcases hy with rfl | rfl | rfl | rfl | rfl | rfl | rfl | rfl | rfl | rfl | rfl | rfl | rfl | rfl | rfl | rfl | rfl | rfl | rfl | rfl | rfl | rfl
    · cases _e
    · cases _e
    · cases _e
    · cases _e
    · cases _e
    · cases _e
    · cases _e
    · cases _e
    · cases _e
    · cases _e
    · cases _e
    · cases _e
    · cases _e
    · cases _e
    · cases _e
    · cases _e
    · cases _e
    · cases _e
    · cases _e
    · cases _e
    · cases _e
    · exact ⟨pin_laid_unicode_utf8_first, by kernel_rfl⟩) fits7
theorem replyMemoryUpto_row_tie : Rows.replyMemoryUptoRow.laidByTextAt .later Tryd.pinned [.data, .data, .data, .data, .sentinel, .sentinel, .sentinel, .sentinel, .data, .data, .data, .data, .pinned] true :=
  OpenClaim.laidByTextAt_pinned rfl rfl tie6 rfl rfl rfl rfl (fun y hy _e => by
    simp only [Rows.replyMemoryUptoRow, List.zip_cons_cons, List.zip_nil_right, List.mem_cons, List.mem_nil_iff, or_false] at hy
    rcases hy with rfl | rfl | rfl | rfl | rfl | rfl | rfl | rfl | rfl | rfl | rfl | rfl | rfl
    · cases _e
    · cases _e
    · cases _e
    · cases _e
    · cases _e
    · cases _e
    · cases _e
    · cases _e
    · cases _e
    · cases _e
    · cases _e
    · cases _e
    · exact ⟨pin_laid_unicode_utf8_first, by kernel_rfl⟩) fits6
end Go.Proofs.YtdlfdmbaejhaaaaDoor
