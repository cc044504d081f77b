/-
  DERIVED. GIVEN WITH THE SEED: THE PROGRAM's TIES (one call each: nine closed facts by the kernel) AND EACH ROW's TIE, after the 31st guide's Derived/Test/Toyas{Tie, Card}.lean. No idea stands in it: it is a product of the set-up. Laid BY PROGRAM, IN A SANDBOX (cutbox-door.mjs). By AI agents, Wed Nov 11 2026. No macro, syntax, notation, axiom, sorry.
-/
import Derived.Test.YtbkhgmmlacdhoaaDoorRows
import Derived.LaidByTextLater
import Derived.SevenTiedAt
import Derived.LaidSub
import Derived.LaidOnce
namespace Go.Proofs.YtbkhgmmlacdhoaaDoor
open Go
set_option maxRecDepth 100000
theorem seatTie1 : Tryd.prog.laidByTextLater [("usher/pct.unreserved", Rows.laid_usher_pct_unreserved), ("usher/field.kinds", Rows.laid_usher_field_kinds), ("usher/reply.phrases", Rows.laid_usher_reply_phrases)] [.data, .data, .data] true :=
  Program.laidByTextLater_by_one 325 8 257 (by kernel_rfl) (by kernel_rfl) (by kernel_rfl) (by kernel_rfl) (by kernel_rfl) (by kernel_rfl) (fun _ _ => by kernel_rfl)
theorem seatTie2 : Tryd.prog.laidByTextLater [("unicode/utf8.acceptRanges", Rows.laid_unicode_utf8_acceptRanges), ("usher/api.ErrArg", Rows.laid_usher_api_ErrArg), ("usher/api.ErrText", Rows.laid_usher_api_ErrText), ("usher/api.ErrMany", Rows.laid_usher_api_ErrMany), ("usher/api.ErrTwice", Rows.laid_usher_api_ErrTwice), ("usher/api.ErrScheme", Rows.laid_usher_api_ErrScheme), ("usher/api.ErrShort", Rows.laid_usher_api_ErrShort), ("usher/api.ErrDry", Rows.laid_usher_api_ErrDry), ("usher/api.ErrTaken", Rows.laid_usher_api_ErrTaken), ("usher/api.ErrFull", Rows.laid_usher_api_ErrFull), ("usher/api.ErrDead", Rows.laid_usher_api_ErrDead), ("usher/api.ErrLog", Rows.laid_usher_api_ErrLog), ("usher/api.ErrLost", Rows.laid_usher_api_ErrLost), ("usher/api.ErrDenied", Rows.laid_usher_api_ErrDenied), ("usher/field.kinds", Rows.laid_usher_field_kinds)] [.data, .sentinel, .sentinel, .sentinel, .sentinel, .sentinel, .sentinel, .sentinel, .sentinel, .sentinel, .sentinel, .sentinel, .sentinel, .sentinel, .data] true :=
  Program.laidByTextLater_by_one 325 8 257 (by kernel_rfl) (by kernel_rfl) (by kernel_rfl) (by kernel_rfl) (by kernel_rfl) (by kernel_rfl) (fun _ _ => by kernel_rfl)
theorem seatTie3 : Tryd.prog.laidByTextLater [("unicode/utf8.acceptRanges", Rows.laid_unicode_utf8_acceptRanges), ("usher/api.ErrArg", Rows.laid_usher_api_ErrArg), ("usher/api.ErrText", Rows.laid_usher_api_ErrText), ("usher/api.ErrMany", Rows.laid_usher_api_ErrMany), ("usher/api.ErrTwice", Rows.laid_usher_api_ErrTwice), ("usher/api.ErrScheme", Rows.laid_usher_api_ErrScheme), ("usher/api.ErrShort", Rows.laid_usher_api_ErrShort), ("usher/api.ErrDry", Rows.laid_usher_api_ErrDry), ("usher/api.ErrTaken", Rows.laid_usher_api_ErrTaken), ("usher/api.ErrFull", Rows.laid_usher_api_ErrFull), ("usher/api.ErrDead", Rows.laid_usher_api_ErrDead), ("usher/api.ErrLog", Rows.laid_usher_api_ErrLog), ("usher/api.ErrLost", Rows.laid_usher_api_ErrLost), ("usher/api.ErrDenied", Rows.laid_usher_api_ErrDenied), ("usher/jsonobj.shorts", Rows.laid_usher_jsonobj_shorts)] [.data, .sentinel, .sentinel, .sentinel, .sentinel, .sentinel, .sentinel, .sentinel, .sentinel, .sentinel, .sentinel, .sentinel, .sentinel, .sentinel, .data] true :=
  Program.laidByTextLater_by_one 325 8 257 (by kernel_rfl) (by kernel_rfl) (by kernel_rfl) (by kernel_rfl) (by kernel_rfl) (by kernel_rfl) (fun _ _ => by kernel_rfl)
theorem seatTie4 : Tryd.prog.laidByTextLater [("math/bits.deBruijn32tab", Rows.laid_math_bits_deBruijn32tab), ("math/bits.deBruijn64tab", Rows.laid_math_bits_deBruijn64tab), ("internal/strconv.uint64pow10", Rows.laid_internal_strconv_uint64pow10), ("usher/api.ErrArg", Rows.laid_usher_api_ErrArg), ("usher/api.ErrText", Rows.laid_usher_api_ErrText), ("usher/api.ErrMany", Rows.laid_usher_api_ErrMany), ("usher/api.ErrTwice", Rows.laid_usher_api_ErrTwice), ("usher/api.ErrScheme", Rows.laid_usher_api_ErrScheme), ("usher/api.ErrShort", Rows.laid_usher_api_ErrShort), ("usher/api.ErrDry", Rows.laid_usher_api_ErrDry), ("usher/api.ErrTaken", Rows.laid_usher_api_ErrTaken), ("usher/api.ErrFull", Rows.laid_usher_api_ErrFull), ("usher/api.ErrDead", Rows.laid_usher_api_ErrDead), ("usher/api.ErrLog", Rows.laid_usher_api_ErrLog), ("usher/api.ErrLost", Rows.laid_usher_api_ErrLost), ("usher/api.ErrDenied", Rows.laid_usher_api_ErrDenied), ("usher/field.kinds", Rows.laid_usher_field_kinds)] [.data, .data, .data, .sentinel, .sentinel, .sentinel, .sentinel, .sentinel, .sentinel, .sentinel, .sentinel, .sentinel, .sentinel, .sentinel, .sentinel, .sentinel, .data] true :=
  Program.laidByTextLater_by_one 325 8 257 (by kernel_rfl) (by kernel_rfl) (by kernel_rfl) (by kernel_rfl) (by kernel_rfl) (by kernel_rfl) (fun _ _ => by kernel_rfl)
theorem pin_laid_unicode_utf8_first : Tryd.pinned.checked.prog.pinnedFits "unicode/utf8.first" = true := by kernel_rfl
theorem noOwnUnsafe : Tryd.pinned.checked.prog.headLifts.contains "ownunsafe" = false := by kernel_rfl
theorem tie : Tryd.prog.laidByTextLater [("usher/reply.phrases", Rows.laid_usher_reply_phrases)] [.data] true :=
  Program.laidByTextLater.sub seatTie1 ["usher/reply.phrases"] (by kernel_rfl) (by kernel_rfl)
theorem replyReasonExact_row_tie : Rows.replyReasonExactRow.laidByTextAt .later Tryd.pinned [.data] true :=
  OpenClaim.laidByTextAt_later rfl rfl tie noOwnUnsafe
theorem tie2 : Tryd.prog.laidByTextLater [("usher/field.kinds", Rows.laid_usher_field_kinds)] [.data] true :=
  Program.laidByTextLater.sub seatTie1 ["usher/field.kinds"] (by kernel_rfl) (by kernel_rfl)
theorem fieldGrammars_row_tie : Rows.fieldGrammarsRow.laidByTextAt .later Tryd.pinned [.data] true :=
  OpenClaim.laidByTextAt_later rfl rfl tie2 noOwnUnsafe
theorem tie3 : Tryd.prog.laidByTextLater [("usher/api.ErrArg", Rows.laid_usher_api_ErrArg), ("usher/api.ErrText", Rows.laid_usher_api_ErrText), ("usher/api.ErrMany", Rows.laid_usher_api_ErrMany), ("usher/api.ErrTwice", Rows.laid_usher_api_ErrTwice), ("usher/api.ErrScheme", Rows.laid_usher_api_ErrScheme), ("usher/api.ErrShort", Rows.laid_usher_api_ErrShort), ("usher/api.ErrDry", Rows.laid_usher_api_ErrDry), ("usher/api.ErrTaken", Rows.laid_usher_api_ErrTaken), ("usher/api.ErrFull", Rows.laid_usher_api_ErrFull), ("usher/api.ErrDead", Rows.laid_usher_api_ErrDead), ("usher/api.ErrLog", Rows.laid_usher_api_ErrLog), ("usher/api.ErrLost", Rows.laid_usher_api_ErrLost), ("usher/api.ErrDenied", Rows.laid_usher_api_ErrDenied), ("usher/field.kinds", Rows.laid_usher_field_kinds)] [.sentinel, .sentinel, .sentinel, .sentinel, .sentinel, .sentinel, .sentinel, .sentinel, .sentinel, .sentinel, .sentinel, .sentinel, .sentinel, .data] true :=
  Program.laidByTextLater.sub seatTie2 ["usher/api.ErrArg", "usher/api.ErrText", "usher/api.ErrMany", "usher/api.ErrTwice", "usher/api.ErrScheme", "usher/api.ErrShort", "usher/api.ErrDry", "usher/api.ErrTaken", "usher/api.ErrFull", "usher/api.ErrDead", "usher/api.ErrLog", "usher/api.ErrLost", "usher/api.ErrDenied", "usher/field.kinds"] (by kernel_rfl) (by kernel_rfl)
theorem fieldCookieTexts_row_tie : Rows.fieldCookieTextsRow.laidByTextAt .later Tryd.pinned [.sentinel, .sentinel, .sentinel, .sentinel, .sentinel, .sentinel, .sentinel, .sentinel, .sentinel, .sentinel, .sentinel, .sentinel, .sentinel, .data] true :=
  OpenClaim.laidByTextAt_later rfl rfl tie3 noOwnUnsafe
theorem fieldMedias_row_tie : Rows.fieldMediasRow.laidByTextAt .later Tryd.pinned [.sentinel, .sentinel, .sentinel, .sentinel, .sentinel, .sentinel, .sentinel, .sentinel, .sentinel, .sentinel, .sentinel, .sentinel, .sentinel, .data] true :=
  OpenClaim.laidByTextAt_later rfl rfl tie3 noOwnUnsafe
theorem fieldBasics_row_tie : Rows.fieldBasicsRow.laidByTextAt .later Tryd.pinned [.sentinel, .sentinel, .sentinel, .sentinel, .sentinel, .sentinel, .sentinel, .sentinel, .sentinel, .sentinel, .sentinel, .sentinel, .sentinel, .data] true :=
  OpenClaim.laidByTextAt_later rfl rfl tie3 noOwnUnsafe
theorem tie4 : Tryd.prog.laidByTextLater [("usher/pct.unreserved", Rows.laid_usher_pct_unreserved)] [.data] true :=
  Program.laidByTextLater.sub seatTie1 ["usher/pct.unreserved"] (by kernel_rfl) (by kernel_rfl)
theorem fieldBasicOfs_row_tie : Rows.fieldBasicOfsRow.laidByTextAt .later Tryd.pinned [.data] true :=
  OpenClaim.laidByTextAt_later rfl rfl tie4 noOwnUnsafe
theorem tie5 : Tryd.prog.laidByTextLater [("usher/api.ErrText", Rows.laid_usher_api_ErrText), ("usher/field.kinds", Rows.laid_usher_field_kinds)] [.sentinel, .data] true :=
  Program.laidByTextLater.sub seatTie2 ["usher/api.ErrText", "usher/field.kinds"] (by kernel_rfl) (by kernel_rfl)
theorem fieldMediaQuoted_row_tie : Rows.fieldMediaQuotedRow.laidByTextAt .later Tryd.pinned [.sentinel, .data] true :=
  OpenClaim.laidByTextAt_later rfl rfl tie5 noOwnUnsafe
theorem fits6 : Tryd.pinned.checked.prog.listedFits [("unicode/utf8.acceptRanges", Rows.laid_unicode_utf8_acceptRanges), ("usher/api.ErrArg", Rows.laid_usher_api_ErrArg), ("usher/api.ErrText", Rows.laid_usher_api_ErrText), ("usher/api.ErrMany", Rows.laid_usher_api_ErrMany), ("usher/api.ErrTwice", Rows.laid_usher_api_ErrTwice), ("usher/api.ErrScheme", Rows.laid_usher_api_ErrScheme), ("usher/api.ErrShort", Rows.laid_usher_api_ErrShort), ("usher/api.ErrDry", Rows.laid_usher_api_ErrDry), ("usher/api.ErrTaken", Rows.laid_usher_api_ErrTaken), ("usher/api.ErrFull", Rows.laid_usher_api_ErrFull), ("usher/api.ErrDead", Rows.laid_usher_api_ErrDead), ("usher/api.ErrLog", Rows.laid_usher_api_ErrLog), ("usher/api.ErrLost", Rows.laid_usher_api_ErrLost), ("usher/api.ErrDenied", Rows.laid_usher_api_ErrDenied), ("usher/jsonobj.shorts", Rows.laid_usher_jsonobj_shorts), ("unicode/utf8.first", Rows.laid_unicode_utf8_first)] = true := by
  unfold Program.listedFits
  rw [noOwnUnsafe]
  kernel_rfl
theorem tie6 : Tryd.prog.laidByTextLater [("unicode/utf8.acceptRanges", Rows.laid_unicode_utf8_acceptRanges), ("usher/api.ErrArg", Rows.laid_usher_api_ErrArg), ("usher/api.ErrText", Rows.laid_usher_api_ErrText), ("usher/api.ErrMany", Rows.laid_usher_api_ErrMany), ("usher/api.ErrTwice", Rows.laid_usher_api_ErrTwice), ("usher/api.ErrScheme", Rows.laid_usher_api_ErrScheme), ("usher/api.ErrShort", Rows.laid_usher_api_ErrShort), ("usher/api.ErrDry", Rows.laid_usher_api_ErrDry), ("usher/api.ErrTaken", Rows.laid_usher_api_ErrTaken), ("usher/api.ErrFull", Rows.laid_usher_api_ErrFull), ("usher/api.ErrDead", Rows.laid_usher_api_ErrDead), ("usher/api.ErrLog", Rows.laid_usher_api_ErrLog), ("usher/api.ErrLost", Rows.laid_usher_api_ErrLost), ("usher/api.ErrDenied", Rows.laid_usher_api_ErrDenied), ("usher/jsonobj.shorts", Rows.laid_usher_jsonobj_shorts)] [.data, .sentinel, .sentinel, .sentinel, .sentinel, .sentinel, .sentinel, .sentinel, .sentinel, .sentinel, .sentinel, .sentinel, .sentinel, .sentinel, .data] true :=
  Program.laidByTextLater.sub seatTie3 ["unicode/utf8.acceptRanges", "usher/api.ErrArg", "usher/api.ErrText", "usher/api.ErrMany", "usher/api.ErrTwice", "usher/api.ErrScheme", "usher/api.ErrShort", "usher/api.ErrDry", "usher/api.ErrTaken", "usher/api.ErrFull", "usher/api.ErrDead", "usher/api.ErrLog", "usher/api.ErrLost", "usher/api.ErrDenied", "usher/jsonobj.shorts"] (by kernel_rfl) (by kernel_rfl)
theorem jsonQuote_row_tie : Rows.jsonQuoteRow.laidByTextAt .later Tryd.pinned [.data, .sentinel, .sentinel, .sentinel, .sentinel, .sentinel, .sentinel, .sentinel, .sentinel, .sentinel, .sentinel, .sentinel, .sentinel, .sentinel, .data, .pinned] true :=
  OpenClaim.laidByTextAt_pinned rfl rfl tie6 rfl rfl rfl rfl (fun y hy _e => by
    simp only [Rows.jsonQuoteRow, List.zip_cons_cons, List.zip_nil_right, List.mem_cons, List.mem_nil_iff, or_false] at hy
    rcases hy with rfl | rfl | rfl | rfl | rfl | rfl | rfl | rfl | rfl | rfl | rfl | rfl | rfl | rfl | rfl | rfl
    · cases _e
    · cases _e
    · cases _e
    · cases _e
    · cases _e
    · cases _e
    · cases _e
    · cases _e
    · cases _e
    · cases _e
    · cases _e
    · cases _e
    · cases _e
    · cases _e
    · cases _e
    · exact ⟨pin_laid_unicode_utf8_first, by kernel_rfl⟩) fits6
theorem tie7 : Tryd.prog.laidByTextLater [("math/bits.deBruijn32tab", Rows.laid_math_bits_deBruijn32tab), ("math/bits.deBruijn64tab", Rows.laid_math_bits_deBruijn64tab), ("internal/strconv.uint64pow10", Rows.laid_internal_strconv_uint64pow10), ("usher/api.ErrArg", Rows.laid_usher_api_ErrArg), ("usher/api.ErrText", Rows.laid_usher_api_ErrText), ("usher/api.ErrMany", Rows.laid_usher_api_ErrMany), ("usher/api.ErrTwice", Rows.laid_usher_api_ErrTwice), ("usher/api.ErrScheme", Rows.laid_usher_api_ErrScheme), ("usher/api.ErrShort", Rows.laid_usher_api_ErrShort), ("usher/api.ErrDry", Rows.laid_usher_api_ErrDry), ("usher/api.ErrTaken", Rows.laid_usher_api_ErrTaken), ("usher/api.ErrFull", Rows.laid_usher_api_ErrFull), ("usher/api.ErrDead", Rows.laid_usher_api_ErrDead), ("usher/api.ErrLog", Rows.laid_usher_api_ErrLog), ("usher/api.ErrLost", Rows.laid_usher_api_ErrLost), ("usher/api.ErrDenied", Rows.laid_usher_api_ErrDenied), ("usher/field.kinds", Rows.laid_usher_field_kinds)] [.data, .data, .data, .sentinel, .sentinel, .sentinel, .sentinel, .sentinel, .sentinel, .sentinel, .sentinel, .sentinel, .sentinel, .sentinel, .sentinel, .sentinel, .data] true :=
  Program.laidByTextLater.sub seatTie4 ["math/bits.deBruijn32tab", "math/bits.deBruijn64tab", "internal/strconv.uint64pow10", "usher/api.ErrArg", "usher/api.ErrText", "usher/api.ErrMany", "usher/api.ErrTwice", "usher/api.ErrScheme", "usher/api.ErrShort", "usher/api.ErrDry", "usher/api.ErrTaken", "usher/api.ErrFull", "usher/api.ErrDead", "usher/api.ErrLog", "usher/api.ErrLost", "usher/api.ErrDenied", "usher/field.kinds"] (by kernel_rfl) (by kernel_rfl)
theorem fieldSets_row_tie : Rows.fieldSetsRow.laidByTextAt .later Tryd.pinned [.data, .data, .data, .sentinel, .sentinel, .sentinel, .sentinel, .sentinel, .sentinel, .sentinel, .sentinel, .sentinel, .sentinel, .sentinel, .sentinel, .sentinel, .data] true :=
  OpenClaim.laidByTextAt_later rfl rfl tie7 noOwnUnsafe
theorem fits8 : Tryd.pinned.checked.prog.listedFits [("unicode/utf8.acceptRanges", Rows.laid_unicode_utf8_acceptRanges), ("usher/api.ErrArg", Rows.laid_usher_api_ErrArg), ("usher/api.ErrText", Rows.laid_usher_api_ErrText), ("usher/api.ErrMany", Rows.laid_usher_api_ErrMany), ("usher/api.ErrTwice", Rows.laid_usher_api_ErrTwice), ("usher/api.ErrScheme", Rows.laid_usher_api_ErrScheme), ("usher/api.ErrShort", Rows.laid_usher_api_ErrShort), ("usher/api.ErrDry", Rows.laid_usher_api_ErrDry), ("usher/api.ErrTaken", Rows.laid_usher_api_ErrTaken), ("usher/api.ErrFull", Rows.laid_usher_api_ErrFull), ("usher/api.ErrDead", Rows.laid_usher_api_ErrDead), ("usher/api.ErrLog", Rows.laid_usher_api_ErrLog), ("usher/api.ErrLost", Rows.laid_usher_api_ErrLost), ("usher/api.ErrDenied", Rows.laid_usher_api_ErrDenied), ("usher/field.kinds", Rows.laid_usher_field_kinds), ("unicode/utf8.first", Rows.laid_unicode_utf8_first)] = true := by
  unfold Program.listedFits
  rw [noOwnUnsafe]
  kernel_rfl
theorem tie8 : Tryd.prog.laidByTextLater [("unicode/utf8.acceptRanges", Rows.laid_unicode_utf8_acceptRanges), ("usher/api.ErrArg", Rows.laid_usher_api_ErrArg), ("usher/api.ErrText", Rows.laid_usher_api_ErrText), ("usher/api.ErrMany", Rows.laid_usher_api_ErrMany), ("usher/api.ErrTwice", Rows.laid_usher_api_ErrTwice), ("usher/api.ErrScheme", Rows.laid_usher_api_ErrScheme), ("usher/api.ErrShort", Rows.laid_usher_api_ErrShort), ("usher/api.ErrDry", Rows.laid_usher_api_ErrDry), ("usher/api.ErrTaken", Rows.laid_usher_api_ErrTaken), ("usher/api.ErrFull", Rows.laid_usher_api_ErrFull), ("usher/api.ErrDead", Rows.laid_usher_api_ErrDead), ("usher/api.ErrLog", Rows.laid_usher_api_ErrLog), ("usher/api.ErrLost", Rows.laid_usher_api_ErrLost), ("usher/api.ErrDenied", Rows.laid_usher_api_ErrDenied), ("usher/field.kinds", Rows.laid_usher_field_kinds)] [.data, .sentinel, .sentinel, .sentinel, .sentinel, .sentinel, .sentinel, .sentinel, .sentinel, .sentinel, .sentinel, .sentinel, .sentinel, .sentinel, .data] true :=
  Program.laidByTextLater.sub seatTie2 ["unicode/utf8.acceptRanges", "usher/api.ErrArg", "usher/api.ErrText", "usher/api.ErrMany", "usher/api.ErrTwice", "usher/api.ErrScheme", "usher/api.ErrShort", "usher/api.ErrDry", "usher/api.ErrTaken", "usher/api.ErrFull", "usher/api.ErrDead", "usher/api.ErrLog", "usher/api.ErrLost", "usher/api.ErrDenied", "usher/field.kinds"] (by kernel_rfl) (by kernel_rfl)
theorem fieldCookies_row_tie : Rows.fieldCookiesRow.laidByTextAt .later Tryd.pinned [.data, .sentinel, .sentinel, .sentinel, .sentinel, .sentinel, .sentinel, .sentinel, .sentinel, .sentinel, .sentinel, .sentinel, .sentinel, .sentinel, .data, .pinned] true :=
  OpenClaim.laidByTextAt_pinned rfl rfl tie8 rfl rfl rfl rfl (fun y hy _e => by
    simp only [Rows.fieldCookiesRow, List.zip_cons_cons, List.zip_nil_right, List.mem_cons, List.mem_nil_iff, or_false] at hy
    rcases hy with rfl | rfl | rfl | rfl | rfl | rfl | rfl | rfl | rfl | rfl | rfl | rfl | rfl | rfl | rfl | rfl
    · cases _e
    · cases _e
    · cases _e
    · cases _e
    · cases _e
    · cases _e
    · cases _e
    · cases _e
    · cases _e
    · cases _e
    · cases _e
    · cases _e
    · cases _e
    · cases _e
    · cases _e
    · exact ⟨pin_laid_unicode_utf8_first, by kernel_rfl⟩) fits8
theorem replyReasonExactUpto_row_tie : Rows.replyReasonExactUptoRow.laidByTextAt .later Tryd.pinned [.data] true :=
  OpenClaim.laidByTextAt_later rfl rfl tie noOwnUnsafe
theorem fieldGrammarsUpto_row_tie : Rows.fieldGrammarsUptoRow.laidByTextAt .later Tryd.pinned [.data] true :=
  OpenClaim.laidByTextAt_later rfl rfl tie2 noOwnUnsafe
theorem fieldCookieTextsUpto_row_tie : Rows.fieldCookieTextsUptoRow.laidByTextAt .later Tryd.pinned [.sentinel, .sentinel, .sentinel, .sentinel, .sentinel, .sentinel, .sentinel, .sentinel, .sentinel, .sentinel, .sentinel, .sentinel, .sentinel, .data] true :=
  OpenClaim.laidByTextAt_later rfl rfl tie3 noOwnUnsafe
theorem fieldBasicOfsUpto_row_tie : Rows.fieldBasicOfsUptoRow.laidByTextAt .later Tryd.pinned [.data] true :=
  OpenClaim.laidByTextAt_later rfl rfl tie4 noOwnUnsafe
theorem fieldMediasUpto_row_tie : Rows.fieldMediasUptoRow.laidByTextAt .later Tryd.pinned [.sentinel, .sentinel, .sentinel, .sentinel, .sentinel, .sentinel, .sentinel, .sentinel, .sentinel, .sentinel, .sentinel, .sentinel, .sentinel, .data] true :=
  OpenClaim.laidByTextAt_later rfl rfl tie3 noOwnUnsafe
theorem fieldMediaQuotedUpto_row_tie : Rows.fieldMediaQuotedUptoRow.laidByTextAt .later Tryd.pinned [.sentinel, .data] true :=
  OpenClaim.laidByTextAt_later rfl rfl tie5 noOwnUnsafe
theorem jsonQuoteUpto_row_tie : Rows.jsonQuoteUptoRow.laidByTextAt .later Tryd.pinned [.data, .sentinel, .sentinel, .sentinel, .sentinel, .sentinel, .sentinel, .sentinel, .sentinel, .sentinel, .sentinel, .sentinel, .sentinel, .sentinel, .data, .pinned] true :=
  OpenClaim.laidByTextAt_pinned rfl rfl tie6 rfl rfl rfl rfl (fun y hy _e => by
    simp only [Rows.jsonQuoteUptoRow, List.zip_cons_cons, List.zip_nil_right, List.mem_cons, List.mem_nil_iff, or_false] at hy
    rcases hy with rfl | rfl | rfl | rfl | rfl | rfl | rfl | rfl | rfl | rfl | rfl | rfl | rfl | rfl | rfl | rfl
    · cases _e
    · cases _e
    · cases _e
    · cases _e
    · cases _e
    · cases _e
    · cases _e
    · cases _e
    · cases _e
    · cases _e
    · cases _e
    · cases _e
    · cases _e
    · cases _e
    · cases _e
    · exact ⟨pin_laid_unicode_utf8_first, by kernel_rfl⟩) fits6
theorem fieldSetsUpto_row_tie : Rows.fieldSetsUptoRow.laidByTextAt .later Tryd.pinned [.data, .data, .data, .sentinel, .sentinel, .sentinel, .sentinel, .sentinel, .sentinel, .sentinel, .sentinel, .sentinel, .sentinel, .sentinel, .sentinel, .sentinel, .data] true :=
  OpenClaim.laidByTextAt_later rfl rfl tie7 noOwnUnsafe
theorem fieldCookiesUpto_row_tie : Rows.fieldCookiesUptoRow.laidByTextAt .later Tryd.pinned [.data, .sentinel, .sentinel, .sentinel, .sentinel, .sentinel, .sentinel, .sentinel, .sentinel, .sentinel, .sentinel, .sentinel, .sentinel, .sentinel, .data, .pinned] true :=
  OpenClaim.laidByTextAt_pinned rfl rfl tie8 rfl rfl rfl rfl (fun y hy _e => by
    simp only [Rows.fieldCookiesUptoRow, List.zip_cons_cons, List.zip_nil_right, List.mem_cons, List.mem_nil_iff, or_false] at hy
    rcases hy with rfl | rfl | rfl | rfl | rfl | rfl | rfl | rfl | rfl | rfl | rfl | rfl | rfl | rfl | rfl | rfl
    · cases _e
    · cases _e
    · cases _e
    · cases _e
    · cases _e
    · cases _e
    · cases _e
    · cases _e
    · cases _e
    · cases _e
    · cases _e
    · cases _e
    · cases _e
    · cases _e
    · cases _e
    · exact ⟨pin_laid_unicode_utf8_first, by kernel_rfl⟩) fits8
theorem fieldBasicsUpto_row_tie : Rows.fieldBasicsUptoRow.laidByTextAt .later Tryd.pinned [.sentinel, .sentinel, .sentinel, .sentinel, .sentinel, .sentinel, .sentinel, .sentinel, .sentinel, .sentinel, .sentinel, .sentinel, .sentinel, .data] true :=
  OpenClaim.laidByTextAt_later rfl rfl tie3 noOwnUnsafe
end Go.Proofs.YtbkhgmmlacdhoaaDoor
