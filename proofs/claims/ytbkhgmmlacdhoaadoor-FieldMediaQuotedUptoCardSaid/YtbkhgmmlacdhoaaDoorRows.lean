/-
  NARROWER THAN 'FOR EVERY INPUT', by the rows' own cells (each row's printed sentence says how): ReplyReasonExact: laid · FieldGrammars: laid · FieldCookieTexts: laid · FieldBasicOfs: laid · FieldMedias: laid · FieldMediaQuoted: laid · JsonQuote: laid · FieldSets: laid · FieldCookies: laid · FieldBasics: laid.
  DERIVED. THE GIVEN ROWS OF THIS SEAT. 10 by the template 'for every input the law returns true; each argument reads behind the call as it read before'; 0 by the template 'total and deterministic' (their statements: YtbkhgmmlacdhoaaDoorTotals.lean).
  GIVEN WITH THE SEED: the statements are not yours to turn. If you find one false, say at which input.
  Laid BY PROGRAM, IN A SANDBOX (cutbox-rows.mjs): the forced cells as the released guide's own fill.sh prints them over the translation 2c62f41933213272… (all of the seat's roots in one cut). By AI agents, Wed Nov 11 2026. No macro, syntax, notation, axiom, sorry.
-/
import Derived.Test.YtbkhgmmlacdhoaaDoorChecked
import GoSem.PinnedTables
import GoSem.Claim
import GoSem.ClaimJoined
import GoSem.ClaimMapViews
import Derived.JoinedTies
import Derived.KernelRfl
namespace Go.Proofs.YtbkhgmmlacdhoaaDoor
/- THE CELL 'sum', in the pinned program and in every row, IS THE sha256 OF THE DUMP (.gsa) THAT YtbkhgmmlacdhoaaDoorProg.lean LOADS. Nothing in Lean hashes anything: it is a label: what it is worth is what the hold of that sum in a sandbox is worth. -/
noncomputable def Tryd.pinned : Pinned := { name := "ytbkhgmmlacdhoaadoor", sum := "2c62f41933213272fcbdcc0105ef654604b2d77173d8816fe6a2fbe441eeaec9", checked := Tryd.checked }
namespace Rows
def none {H : Type} : Left H := { results := [], args := [] }

/- WHAT THE LISTED PACKAGE-LEVEL VARIABLES READ AS WHEN THE CALL BEGINS. Each datum BY PROGRAM (the guide's laid-datum.mjs) off the statement by which the dump's own 'gosem.cut.vars' lays the variable. In a bare row this is a premise. The card (YtbkhgmmlacdhoaaDoorCards.lean) ties it to the program's text. -/
def laid_usher_reply_phrases {H : Type} : DataW H := .agg [.agg [.lit (.int .i64 200), .lit (.string [79, 75])], .agg [.lit (.int .i64 302), .lit (.string [70, 111, 117, 110, 100])], .agg [.lit (.int .i64 303), .lit (.string [83, 101, 101, 32, 79, 116, 104, 101, 114])], .agg [.lit (.int .i64 400), .lit (.string [66, 97, 100, 32, 82, 101, 113, 117, 101, 115, 116])], .agg [.lit (.int .i64 401), .lit (.string [85, 110, 97, 117, 116, 104, 111, 114, 105, 122, 101, 100])], .agg [.lit (.int .i64 403), .lit (.string [70, 111, 114, 98, 105, 100, 100, 101, 110])], .agg [.lit (.int .i64 404), .lit (.string [78, 111, 116, 32, 70, 111, 117, 110, 100])], .agg [.lit (.int .i64 405), .lit (.string [77, 101, 116, 104, 111, 100, 32, 78, 111, 116, 32, 65, 108, 108, 111, 119, 101, 100])], .agg [.lit (.int .i64 413), .lit (.string [67, 111, 110, 116, 101, 110, 116, 32, 84, 111, 111, 32, 76, 97, 114, 103, 101])], .agg [.lit (.int .i64 415), .lit (.string [85, 110, 115, 117, 112, 112, 111, 114, 116, 101, 100, 32, 77, 101, 100, 105, 97, 32, 84, 121, 112, 101])], .agg [.lit (.int .i64 417), .lit (.string [69, 120, 112, 101, 99, 116, 97, 116, 105, 111, 110, 32, 70, 97, 105, 108, 101, 100])], .agg [.lit (.int .i64 429), .lit (.string [84, 111, 111, 32, 77, 97, 110, 121, 32, 82, 101, 113, 117, 101, 115, 116, 115])], .agg [.lit (.int .i64 431), .lit (.string [82, 101, 113, 117, 101, 115, 116, 32, 72, 101, 97, 100, 101, 114, 32, 70, 105, 101, 108, 100, 115, 32, 84, 111, 111, 32, 76, 97, 114, 103, 101])], .agg [.lit (.int .i64 500), .lit (.string [73, 110, 116, 101, 114, 110, 97, 108, 32, 83, 101, 114, 118, 101, 114, 32, 69, 114, 114, 111, 114])], .agg [.lit (.int .i64 501), .lit (.string [78, 111, 116, 32, 73, 109, 112, 108, 101, 109, 101, 110, 116, 101, 100])], .agg [.lit (.int .i64 503), .lit (.string [83, 101, 114, 118, 105, 99, 101, 32, 85, 110, 97, 118, 97, 105, 108, 97, 98, 108, 101])], .agg [.lit (.int .i64 505), .lit (.string [72, 84, 84, 80, 32, 86, 101, 114, 115, 105, 111, 110, 32, 78, 111, 116, 32, 83, 117, 112, 112, 111, 114, 116, 101, 100])]]
def laid_usher_field_kinds {H : Type} : DataW H := .agg [.lit (.int .u8 0), .lit (.int .u8 0), .lit (.int .u8 0), .lit (.int .u8 0), .lit (.int .u8 0), .lit (.int .u8 0), .lit (.int .u8 0), .lit (.int .u8 0), .lit (.int .u8 0), .lit (.int .u8 12), .lit (.int .u8 0), .lit (.int .u8 0), .lit (.int .u8 0), .lit (.int .u8 0), .lit (.int .u8 0), .lit (.int .u8 0), .lit (.int .u8 0), .lit (.int .u8 0), .lit (.int .u8 0), .lit (.int .u8 0), .lit (.int .u8 0), .lit (.int .u8 0), .lit (.int .u8 0), .lit (.int .u8 0), .lit (.int .u8 0), .lit (.int .u8 0), .lit (.int .u8 0), .lit (.int .u8 0), .lit (.int .u8 0), .lit (.int .u8 0), .lit (.int .u8 0), .lit (.int .u8 0), .lit (.int .u8 12), .lit (.int .u8 7), .lit (.int .u8 4), .lit (.int .u8 7), .lit (.int .u8 7), .lit (.int .u8 7), .lit (.int .u8 7), .lit (.int .u8 7), .lit (.int .u8 6), .lit (.int .u8 6), .lit (.int .u8 7), .lit (.int .u8 7), .lit (.int .u8 4), .lit (.int .u8 7), .lit (.int .u8 7), .lit (.int .u8 6), .lit (.int .u8 7), .lit (.int .u8 7), .lit (.int .u8 7), .lit (.int .u8 7), .lit (.int .u8 7), .lit (.int .u8 7), .lit (.int .u8 7), .lit (.int .u8 7), .lit (.int .u8 7), .lit (.int .u8 7), .lit (.int .u8 6), .lit (.int .u8 4), .lit (.int .u8 6), .lit (.int .u8 6), .lit (.int .u8 6), .lit (.int .u8 6), .lit (.int .u8 6), .lit (.int .u8 7), .lit (.int .u8 7), .lit (.int .u8 7), .lit (.int .u8 7), .lit (.int .u8 7), .lit (.int .u8 7), .lit (.int .u8 7), .lit (.int .u8 7), .lit (.int .u8 7), .lit (.int .u8 7), .lit (.int .u8 7), .lit (.int .u8 7), .lit (.int .u8 7), .lit (.int .u8 7), .lit (.int .u8 7), .lit (.int .u8 7), .lit (.int .u8 7), .lit (.int .u8 7), .lit (.int .u8 7), .lit (.int .u8 7), .lit (.int .u8 7), .lit (.int .u8 7), .lit (.int .u8 7), .lit (.int .u8 7), .lit (.int .u8 7), .lit (.int .u8 7), .lit (.int .u8 6), .lit (.int .u8 4), .lit (.int .u8 6), .lit (.int .u8 7), .lit (.int .u8 7), .lit (.int .u8 7), .lit (.int .u8 7), .lit (.int .u8 7), .lit (.int .u8 7), .lit (.int .u8 7), .lit (.int .u8 7), .lit (.int .u8 7), .lit (.int .u8 7), .lit (.int .u8 7), .lit (.int .u8 7), .lit (.int .u8 7), .lit (.int .u8 7), .lit (.int .u8 7), .lit (.int .u8 7), .lit (.int .u8 7), .lit (.int .u8 7), .lit (.int .u8 7), .lit (.int .u8 7), .lit (.int .u8 7), .lit (.int .u8 7), .lit (.int .u8 7), .lit (.int .u8 7), .lit (.int .u8 7), .lit (.int .u8 7), .lit (.int .u8 7), .lit (.int .u8 7), .lit (.int .u8 7), .lit (.int .u8 6), .lit (.int .u8 7), .lit (.int .u8 6), .lit (.int .u8 7), .lit (.int .u8 0), .lit (.int .u8 4), .lit (.int .u8 4), .lit (.int .u8 4), .lit (.int .u8 4), .lit (.int .u8 4), .lit (.int .u8 4), .lit (.int .u8 4), .lit (.int .u8 4), .lit (.int .u8 4), .lit (.int .u8 4), .lit (.int .u8 4), .lit (.int .u8 4), .lit (.int .u8 4), .lit (.int .u8 4), .lit (.int .u8 4), .lit (.int .u8 4), .lit (.int .u8 4), .lit (.int .u8 4), .lit (.int .u8 4), .lit (.int .u8 4), .lit (.int .u8 4), .lit (.int .u8 4), .lit (.int .u8 4), .lit (.int .u8 4), .lit (.int .u8 4), .lit (.int .u8 4), .lit (.int .u8 4), .lit (.int .u8 4), .lit (.int .u8 4), .lit (.int .u8 4), .lit (.int .u8 4), .lit (.int .u8 4), .lit (.int .u8 4), .lit (.int .u8 4), .lit (.int .u8 4), .lit (.int .u8 4), .lit (.int .u8 4), .lit (.int .u8 4), .lit (.int .u8 4), .lit (.int .u8 4), .lit (.int .u8 4), .lit (.int .u8 4), .lit (.int .u8 4), .lit (.int .u8 4), .lit (.int .u8 4), .lit (.int .u8 4), .lit (.int .u8 4), .lit (.int .u8 4), .lit (.int .u8 4), .lit (.int .u8 4), .lit (.int .u8 4), .lit (.int .u8 4), .lit (.int .u8 4), .lit (.int .u8 4), .lit (.int .u8 4), .lit (.int .u8 4), .lit (.int .u8 4), .lit (.int .u8 4), .lit (.int .u8 4), .lit (.int .u8 4), .lit (.int .u8 4), .lit (.int .u8 4), .lit (.int .u8 4), .lit (.int .u8 4), .lit (.int .u8 4), .lit (.int .u8 4), .lit (.int .u8 4), .lit (.int .u8 4), .lit (.int .u8 4), .lit (.int .u8 4), .lit (.int .u8 4), .lit (.int .u8 4), .lit (.int .u8 4), .lit (.int .u8 4), .lit (.int .u8 4), .lit (.int .u8 4), .lit (.int .u8 4), .lit (.int .u8 4), .lit (.int .u8 4), .lit (.int .u8 4), .lit (.int .u8 4), .lit (.int .u8 4), .lit (.int .u8 4), .lit (.int .u8 4), .lit (.int .u8 4), .lit (.int .u8 4), .lit (.int .u8 4), .lit (.int .u8 4), .lit (.int .u8 4), .lit (.int .u8 4), .lit (.int .u8 4), .lit (.int .u8 4), .lit (.int .u8 4), .lit (.int .u8 4), .lit (.int .u8 4), .lit (.int .u8 4), .lit (.int .u8 4), .lit (.int .u8 4), .lit (.int .u8 4), .lit (.int .u8 4), .lit (.int .u8 4), .lit (.int .u8 4), .lit (.int .u8 4), .lit (.int .u8 4), .lit (.int .u8 4), .lit (.int .u8 4), .lit (.int .u8 4), .lit (.int .u8 4), .lit (.int .u8 4), .lit (.int .u8 4), .lit (.int .u8 4), .lit (.int .u8 4), .lit (.int .u8 4), .lit (.int .u8 4), .lit (.int .u8 4), .lit (.int .u8 4), .lit (.int .u8 4), .lit (.int .u8 4), .lit (.int .u8 4), .lit (.int .u8 4), .lit (.int .u8 4), .lit (.int .u8 4), .lit (.int .u8 4), .lit (.int .u8 4), .lit (.int .u8 4), .lit (.int .u8 4), .lit (.int .u8 4), .lit (.int .u8 4)]
def laid_usher_api_ErrArg {H : Type} : DataW H := .iface "*errors.errorString" (.ptr (.agg [.lit (.string [97, 114, 103, 117, 109, 101, 110, 116])]))
def laid_usher_api_ErrText {H : Type} : DataW H := .iface "*errors.errorString" (.ptr (.agg [.lit (.string [116, 101, 120, 116])]))
def laid_usher_api_ErrMany {H : Type} : DataW H := .iface "*errors.errorString" (.ptr (.agg [.lit (.string [109, 97, 110, 121])]))
def laid_usher_api_ErrTwice {H : Type} : DataW H := .iface "*errors.errorString" (.ptr (.agg [.lit (.string [116, 119, 105, 99, 101])]))
def laid_usher_api_ErrScheme {H : Type} : DataW H := .iface "*errors.errorString" (.ptr (.agg [.lit (.string [115, 99, 104, 101, 109, 101])]))
def laid_usher_api_ErrShort {H : Type} : DataW H := .iface "*errors.errorString" (.ptr (.agg [.lit (.string [115, 104, 111, 114, 116])]))
def laid_usher_api_ErrDry {H : Type} : DataW H := .iface "*errors.errorString" (.ptr (.agg [.lit (.string [100, 114, 121])]))
def laid_usher_api_ErrTaken {H : Type} : DataW H := .iface "*errors.errorString" (.ptr (.agg [.lit (.string [116, 97, 107, 101, 110])]))
def laid_usher_api_ErrFull {H : Type} : DataW H := .iface "*errors.errorString" (.ptr (.agg [.lit (.string [102, 117, 108, 108])]))
def laid_usher_api_ErrDead {H : Type} : DataW H := .iface "*errors.errorString" (.ptr (.agg [.lit (.string [100, 101, 97, 100])]))
def laid_usher_api_ErrLog {H : Type} : DataW H := .iface "*errors.errorString" (.ptr (.agg [.lit (.string [108, 111, 103])]))
def laid_usher_api_ErrLost {H : Type} : DataW H := .iface "*errors.errorString" (.ptr (.agg [.lit (.string [108, 111, 115, 116])]))
def laid_usher_api_ErrDenied {H : Type} : DataW H := .iface "*errors.errorString" (.ptr (.agg [.lit (.string [100, 101, 110, 105, 101, 100])]))
def laid_usher_pct_unreserved {H : Type} : DataW H := .agg [.lit (.int .u32 0), .lit (.int .u32 67067904), .lit (.int .u32 2281701374), .lit (.int .u32 1207959550)]
def laid_unicode_utf8_acceptRanges {H : Type} : DataW H := .agg [.agg [.lit (.int .u8 128), .lit (.int .u8 191)], .agg [.lit (.int .u8 160), .lit (.int .u8 191)], .agg [.lit (.int .u8 128), .lit (.int .u8 159)], .agg [.lit (.int .u8 144), .lit (.int .u8 191)], .agg [.lit (.int .u8 128), .lit (.int .u8 143)], .agg [.lit (.int .u8 0), .lit (.int .u8 0)], .agg [.lit (.int .u8 0), .lit (.int .u8 0)], .agg [.lit (.int .u8 0), .lit (.int .u8 0)], .agg [.lit (.int .u8 0), .lit (.int .u8 0)], .agg [.lit (.int .u8 0), .lit (.int .u8 0)], .agg [.lit (.int .u8 0), .lit (.int .u8 0)], .agg [.lit (.int .u8 0), .lit (.int .u8 0)], .agg [.lit (.int .u8 0), .lit (.int .u8 0)], .agg [.lit (.int .u8 0), .lit (.int .u8 0)], .agg [.lit (.int .u8 0), .lit (.int .u8 0)], .agg [.lit (.int .u8 0), .lit (.int .u8 0)]]
def laid_usher_jsonobj_shorts {H : Type} : DataW H := .agg [.agg [.lit (.int .u8 34), .lit (.int .u8 34)], .agg [.lit (.int .u8 92), .lit (.int .u8 92)], .agg [.lit (.int .u8 8), .lit (.int .u8 98)], .agg [.lit (.int .u8 9), .lit (.int .u8 116)], .agg [.lit (.int .u8 10), .lit (.int .u8 110)], .agg [.lit (.int .u8 12), .lit (.int .u8 102)], .agg [.lit (.int .u8 13), .lit (.int .u8 114)]]
/-- One of Go's own tables, pinned by name: the form's constant. -/
def laid_unicode_utf8_first : DataW Unit := Go.Pinned.utf8First
def laid_math_bits_deBruijn32tab {H : Type} : DataW H := .agg [.lit (.int .u8 0), .lit (.int .u8 1), .lit (.int .u8 28), .lit (.int .u8 2), .lit (.int .u8 29), .lit (.int .u8 14), .lit (.int .u8 24), .lit (.int .u8 3), .lit (.int .u8 30), .lit (.int .u8 22), .lit (.int .u8 20), .lit (.int .u8 15), .lit (.int .u8 25), .lit (.int .u8 17), .lit (.int .u8 4), .lit (.int .u8 8), .lit (.int .u8 31), .lit (.int .u8 27), .lit (.int .u8 13), .lit (.int .u8 23), .lit (.int .u8 21), .lit (.int .u8 19), .lit (.int .u8 16), .lit (.int .u8 7), .lit (.int .u8 26), .lit (.int .u8 12), .lit (.int .u8 18), .lit (.int .u8 6), .lit (.int .u8 11), .lit (.int .u8 5), .lit (.int .u8 10), .lit (.int .u8 9)]
def laid_math_bits_deBruijn64tab {H : Type} : DataW H := .agg [.lit (.int .u8 0), .lit (.int .u8 1), .lit (.int .u8 56), .lit (.int .u8 2), .lit (.int .u8 57), .lit (.int .u8 49), .lit (.int .u8 28), .lit (.int .u8 3), .lit (.int .u8 61), .lit (.int .u8 58), .lit (.int .u8 42), .lit (.int .u8 50), .lit (.int .u8 38), .lit (.int .u8 29), .lit (.int .u8 17), .lit (.int .u8 4), .lit (.int .u8 62), .lit (.int .u8 47), .lit (.int .u8 59), .lit (.int .u8 36), .lit (.int .u8 45), .lit (.int .u8 43), .lit (.int .u8 51), .lit (.int .u8 22), .lit (.int .u8 53), .lit (.int .u8 39), .lit (.int .u8 33), .lit (.int .u8 30), .lit (.int .u8 24), .lit (.int .u8 18), .lit (.int .u8 12), .lit (.int .u8 5), .lit (.int .u8 63), .lit (.int .u8 55), .lit (.int .u8 48), .lit (.int .u8 27), .lit (.int .u8 60), .lit (.int .u8 41), .lit (.int .u8 37), .lit (.int .u8 16), .lit (.int .u8 46), .lit (.int .u8 35), .lit (.int .u8 44), .lit (.int .u8 21), .lit (.int .u8 52), .lit (.int .u8 32), .lit (.int .u8 23), .lit (.int .u8 11), .lit (.int .u8 54), .lit (.int .u8 26), .lit (.int .u8 40), .lit (.int .u8 15), .lit (.int .u8 34), .lit (.int .u8 20), .lit (.int .u8 31), .lit (.int .u8 10), .lit (.int .u8 25), .lit (.int .u8 14), .lit (.int .u8 19), .lit (.int .u8 9), .lit (.int .u8 13), .lit (.int .u8 8), .lit (.int .u8 7), .lit (.int .u8 6)]
def laid_internal_strconv_uint64pow10 {H : Type} : DataW H := .agg [.lit (.int .u64 1), .lit (.int .u64 10), .lit (.int .u64 100), .lit (.int .u64 1000), .lit (.int .u64 10000), .lit (.int .u64 100000), .lit (.int .u64 1000000), .lit (.int .u64 10000000), .lit (.int .u64 100000000), .lit (.int .u64 1000000000), .lit (.int .u64 10000000000), .lit (.int .u64 100000000000), .lit (.int .u64 1000000000000), .lit (.int .u64 10000000000000), .lit (.int .u64 100000000000000), .lit (.int .u64 1000000000000000), .lit (.int .u64 10000000000000000), .lit (.int .u64 100000000000000000), .lit (.int .u64 1000000000000000000), .lit (.int .u64 10000000000000000000)]

/-- 'usherlaw8.ReplyReasonExact': WHATEVER THE INPUT: true; the input reads as it did. -/
def replyReasonExactSpec : ChangeSpec := { name := "replyReasonExact", fn := fun _ => fun
  | [d] => { results := [.lit (.bool true)], args := [d] }
  | _ => none }
def replyReasonExactRow : OpenClaim := { program := "ytbkhgmmlacdhoaadoor", sum := "2c62f41933213272fcbdcc0105ef654604b2d77173d8816fe6a2fbe441eeaec9", func := "usher/usherlaw8.ReplyReasonExact", spec := "replyReasonExact", named := ["usher/reply.phrases"], apart := false, laid := [("usher/reply.phrases", laid_usher_reply_phrases)] }
def ReplyReasonExactSaid : Prop := replyReasonExactRow.holds Tryd.pinned (OpenSpec.ofChange replyReasonExactSpec)

/-- ITS FALSE NEIGHBOUR: 'it returns false'. Refute it at one input. -/
def replyReasonExactWrong : ChangeSpec := { name := "replyReasonExact", fn := fun _ => fun
  | [d] => { results := [.lit (.bool false)], args := [d] }
  | _ => none }
def ReplyReasonExactWrongFalsely : Prop := replyReasonExactRow.holds Tryd.pinned (OpenSpec.ofChange replyReasonExactWrong)

/-- 'usherlaw6.FieldGrammars': WHATEVER THE INPUT: true; the input reads as it did. -/
def fieldGrammarsSpec : ChangeSpec := { name := "fieldGrammars", fn := fun _ => fun
  | [d] => { results := [.lit (.bool true)], args := [d] }
  | _ => none }
def fieldGrammarsRow : OpenClaim := { program := "ytbkhgmmlacdhoaadoor", sum := "2c62f41933213272fcbdcc0105ef654604b2d77173d8816fe6a2fbe441eeaec9", func := "usher/usherlaw6.FieldGrammars", spec := "fieldGrammars", named := ["usher/field.kinds"], apart := false, laid := [("usher/field.kinds", laid_usher_field_kinds)] }
def FieldGrammarsSaid : Prop := fieldGrammarsRow.holds Tryd.pinned (OpenSpec.ofChange fieldGrammarsSpec)

/-- ITS FALSE NEIGHBOUR: 'it returns false'. Refute it at one input. -/
def fieldGrammarsWrong : ChangeSpec := { name := "fieldGrammars", fn := fun _ => fun
  | [d] => { results := [.lit (.bool false)], args := [d] }
  | _ => none }
def FieldGrammarsWrongFalsely : Prop := fieldGrammarsRow.holds Tryd.pinned (OpenSpec.ofChange fieldGrammarsWrong)

/-- 'usherlaw6.FieldCookieTexts': WHATEVER THE INPUT: true; the input reads as it did. -/
def fieldCookieTextsSpec : ChangeSpec := { name := "fieldCookieTexts", fn := fun _ => fun
  | [d] => { results := [.lit (.bool true)], args := [d] }
  | _ => none }
def fieldCookieTextsRow : OpenClaim := { program := "ytbkhgmmlacdhoaadoor", sum := "2c62f41933213272fcbdcc0105ef654604b2d77173d8816fe6a2fbe441eeaec9", func := "usher/usherlaw6.FieldCookieTexts", spec := "fieldCookieTexts", inPlace := ["internal/abi.NoEscape"], named := ["usher/api.ErrMany", "usher/api.ErrText", "usher/field.kinds", "usher/api.ErrArg", "usher/api.ErrTwice", "usher/api.ErrScheme", "usher/api.ErrShort", "usher/api.ErrDry", "usher/api.ErrTaken", "usher/api.ErrFull", "usher/api.ErrDead", "usher/api.ErrLog", "usher/api.ErrLost", "usher/api.ErrDenied"], apart := false, laid := [("usher/api.ErrArg", laid_usher_api_ErrArg), ("usher/api.ErrText", laid_usher_api_ErrText), ("usher/api.ErrMany", laid_usher_api_ErrMany), ("usher/api.ErrTwice", laid_usher_api_ErrTwice), ("usher/api.ErrScheme", laid_usher_api_ErrScheme), ("usher/api.ErrShort", laid_usher_api_ErrShort), ("usher/api.ErrDry", laid_usher_api_ErrDry), ("usher/api.ErrTaken", laid_usher_api_ErrTaken), ("usher/api.ErrFull", laid_usher_api_ErrFull), ("usher/api.ErrDead", laid_usher_api_ErrDead), ("usher/api.ErrLog", laid_usher_api_ErrLog), ("usher/api.ErrLost", laid_usher_api_ErrLost), ("usher/api.ErrDenied", laid_usher_api_ErrDenied), ("usher/field.kinds", laid_usher_field_kinds)] }
def FieldCookieTextsSaid : Prop := fieldCookieTextsRow.holds Tryd.pinned (OpenSpec.ofChange fieldCookieTextsSpec)

/-- ITS FALSE NEIGHBOUR: 'it returns false'. Refute it at one input. -/
def fieldCookieTextsWrong : ChangeSpec := { name := "fieldCookieTexts", fn := fun _ => fun
  | [d] => { results := [.lit (.bool false)], args := [d] }
  | _ => none }
def FieldCookieTextsWrongFalsely : Prop := fieldCookieTextsRow.holds Tryd.pinned (OpenSpec.ofChange fieldCookieTextsWrong)

/-- 'usherlaw6.FieldBasicOfs': WHATEVER THE INPUT: true; the input reads as it did. -/
def fieldBasicOfsSpec : ChangeSpec := { name := "fieldBasicOfs", fn := fun _ => fun
  | [d] => { results := [.lit (.bool true)], args := [d] }
  | _ => none }
def fieldBasicOfsRow : OpenClaim := { program := "ytbkhgmmlacdhoaadoor", sum := "2c62f41933213272fcbdcc0105ef654604b2d77173d8816fe6a2fbe441eeaec9", func := "usher/usherlaw6.FieldBasicOfs", spec := "fieldBasicOfs", inPlace := ["internal/abi.NoEscape"], named := ["usher/pct.unreserved"], apart := false, laid := [("usher/pct.unreserved", laid_usher_pct_unreserved)] }
def FieldBasicOfsSaid : Prop := fieldBasicOfsRow.holds Tryd.pinned (OpenSpec.ofChange fieldBasicOfsSpec)

/-- ITS FALSE NEIGHBOUR: 'it returns false'. Refute it at one input. -/
def fieldBasicOfsWrong : ChangeSpec := { name := "fieldBasicOfs", fn := fun _ => fun
  | [d] => { results := [.lit (.bool false)], args := [d] }
  | _ => none }
def FieldBasicOfsWrongFalsely : Prop := fieldBasicOfsRow.holds Tryd.pinned (OpenSpec.ofChange fieldBasicOfsWrong)

/-- 'usherlaw6.FieldMedias': WHATEVER THE INPUT: true; the input reads as it did. -/
def fieldMediasSpec : ChangeSpec := { name := "fieldMedias", fn := fun _ => fun
  | [d] => { results := [.lit (.bool true)], args := [d] }
  | _ => none }
def fieldMediasRow : OpenClaim := { program := "ytbkhgmmlacdhoaadoor", sum := "2c62f41933213272fcbdcc0105ef654604b2d77173d8816fe6a2fbe441eeaec9", func := "usher/usherlaw6.FieldMedias", spec := "fieldMedias", named := ["usher/api.ErrText", "usher/field.kinds", "usher/api.ErrArg", "usher/api.ErrMany", "usher/api.ErrTwice", "usher/api.ErrScheme", "usher/api.ErrShort", "usher/api.ErrDry", "usher/api.ErrTaken", "usher/api.ErrFull", "usher/api.ErrDead", "usher/api.ErrLog", "usher/api.ErrLost", "usher/api.ErrDenied"], apart := false, laid := [("usher/api.ErrArg", laid_usher_api_ErrArg), ("usher/api.ErrText", laid_usher_api_ErrText), ("usher/api.ErrMany", laid_usher_api_ErrMany), ("usher/api.ErrTwice", laid_usher_api_ErrTwice), ("usher/api.ErrScheme", laid_usher_api_ErrScheme), ("usher/api.ErrShort", laid_usher_api_ErrShort), ("usher/api.ErrDry", laid_usher_api_ErrDry), ("usher/api.ErrTaken", laid_usher_api_ErrTaken), ("usher/api.ErrFull", laid_usher_api_ErrFull), ("usher/api.ErrDead", laid_usher_api_ErrDead), ("usher/api.ErrLog", laid_usher_api_ErrLog), ("usher/api.ErrLost", laid_usher_api_ErrLost), ("usher/api.ErrDenied", laid_usher_api_ErrDenied), ("usher/field.kinds", laid_usher_field_kinds)] }
def FieldMediasSaid : Prop := fieldMediasRow.holds Tryd.pinned (OpenSpec.ofChange fieldMediasSpec)

/-- ITS FALSE NEIGHBOUR: 'it returns false'. Refute it at one input. -/
def fieldMediasWrong : ChangeSpec := { name := "fieldMedias", fn := fun _ => fun
  | [d] => { results := [.lit (.bool false)], args := [d] }
  | _ => none }
def FieldMediasWrongFalsely : Prop := fieldMediasRow.holds Tryd.pinned (OpenSpec.ofChange fieldMediasWrong)

/-- 'usherlaw6.FieldMediaQuoted': WHATEVER THE INPUT: true; the input reads as it did. -/
def fieldMediaQuotedSpec : ChangeSpec := { name := "fieldMediaQuoted", fn := fun _ => fun
  | [d] => { results := [.lit (.bool true)], args := [d] }
  | _ => none }
def fieldMediaQuotedRow : OpenClaim := { program := "ytbkhgmmlacdhoaadoor", sum := "2c62f41933213272fcbdcc0105ef654604b2d77173d8816fe6a2fbe441eeaec9", func := "usher/usherlaw6.FieldMediaQuoted", spec := "fieldMediaQuoted", named := ["usher/api.ErrText", "usher/field.kinds"], apart := false, laid := [("usher/api.ErrText", laid_usher_api_ErrText), ("usher/field.kinds", laid_usher_field_kinds)] }
def FieldMediaQuotedSaid : Prop := fieldMediaQuotedRow.holds Tryd.pinned (OpenSpec.ofChange fieldMediaQuotedSpec)

/-- ITS FALSE NEIGHBOUR: 'it returns false'. Refute it at one input. -/
def fieldMediaQuotedWrong : ChangeSpec := { name := "fieldMediaQuoted", fn := fun _ => fun
  | [d] => { results := [.lit (.bool false)], args := [d] }
  | _ => none }
def FieldMediaQuotedWrongFalsely : Prop := fieldMediaQuotedRow.holds Tryd.pinned (OpenSpec.ofChange fieldMediaQuotedWrong)

/-- 'usherlaw4.JsonQuote': WHATEVER THE INPUT: true; the input reads as it did. -/
def jsonQuoteSpec : ChangeSpec := { name := "jsonQuote", fn := fun _ => fun
  | [d] => { results := [.lit (.bool true)], args := [d] }
  | _ => none }
def jsonQuoteRow : OpenClaim := { program := "ytbkhgmmlacdhoaadoor", sum := "2c62f41933213272fcbdcc0105ef654604b2d77173d8816fe6a2fbe441eeaec9", func := "usher/usherlaw4.JsonQuote", spec := "jsonQuote", inPlace := ["internal/abi.NoEscape"], named := ["usher/api.ErrText", "unicode/utf8.first", "unicode/utf8.acceptRanges", "usher/jsonobj.shorts", "usher/api.ErrArg", "usher/api.ErrMany", "usher/api.ErrTwice", "usher/api.ErrScheme", "usher/api.ErrShort", "usher/api.ErrDry", "usher/api.ErrTaken", "usher/api.ErrFull", "usher/api.ErrDead", "usher/api.ErrLog", "usher/api.ErrLost", "usher/api.ErrDenied"], apart := false, laid := [("unicode/utf8.acceptRanges", laid_unicode_utf8_acceptRanges), ("usher/api.ErrArg", laid_usher_api_ErrArg), ("usher/api.ErrText", laid_usher_api_ErrText), ("usher/api.ErrMany", laid_usher_api_ErrMany), ("usher/api.ErrTwice", laid_usher_api_ErrTwice), ("usher/api.ErrScheme", laid_usher_api_ErrScheme), ("usher/api.ErrShort", laid_usher_api_ErrShort), ("usher/api.ErrDry", laid_usher_api_ErrDry), ("usher/api.ErrTaken", laid_usher_api_ErrTaken), ("usher/api.ErrFull", laid_usher_api_ErrFull), ("usher/api.ErrDead", laid_usher_api_ErrDead), ("usher/api.ErrLog", laid_usher_api_ErrLog), ("usher/api.ErrLost", laid_usher_api_ErrLost), ("usher/api.ErrDenied", laid_usher_api_ErrDenied), ("usher/jsonobj.shorts", laid_usher_jsonobj_shorts), ("unicode/utf8.first", laid_unicode_utf8_first)] }
def JsonQuoteSaid : Prop := jsonQuoteRow.holds Tryd.pinned (OpenSpec.ofChange jsonQuoteSpec)

/-- ITS FALSE NEIGHBOUR: 'it returns false'. Refute it at one input. -/
def jsonQuoteWrong : ChangeSpec := { name := "jsonQuote", fn := fun _ => fun
  | [d] => { results := [.lit (.bool false)], args := [d] }
  | _ => none }
def JsonQuoteWrongFalsely : Prop := jsonQuoteRow.holds Tryd.pinned (OpenSpec.ofChange jsonQuoteWrong)

/-- 'usherlaw6.FieldSets': WHATEVER THE INPUT: true; the input reads as it did. -/
def fieldSetsSpec : ChangeSpec := { name := "fieldSets", fn := fun _ => fun
  | [d] => { results := [.lit (.bool true)], args := [d] }
  | _ => none }
def fieldSetsRow : OpenClaim := { program := "ytbkhgmmlacdhoaadoor", sum := "2c62f41933213272fcbdcc0105ef654604b2d77173d8816fe6a2fbe441eeaec9", func := "usher/usherlaw6.FieldSets", spec := "fieldSets", named := ["usher/api.ErrText", "usher/field.kinds", "internal/strconv.uint64pow10", "math/bits.deBruijn32tab", "math/bits.deBruijn64tab", "usher/api.ErrArg", "usher/api.ErrMany", "usher/api.ErrTwice", "usher/api.ErrScheme", "usher/api.ErrShort", "usher/api.ErrDry", "usher/api.ErrTaken", "usher/api.ErrFull", "usher/api.ErrDead", "usher/api.ErrLog", "usher/api.ErrLost", "usher/api.ErrDenied"], apart := false, laid := [("math/bits.deBruijn32tab", laid_math_bits_deBruijn32tab), ("math/bits.deBruijn64tab", laid_math_bits_deBruijn64tab), ("internal/strconv.uint64pow10", laid_internal_strconv_uint64pow10), ("usher/api.ErrArg", laid_usher_api_ErrArg), ("usher/api.ErrText", laid_usher_api_ErrText), ("usher/api.ErrMany", laid_usher_api_ErrMany), ("usher/api.ErrTwice", laid_usher_api_ErrTwice), ("usher/api.ErrScheme", laid_usher_api_ErrScheme), ("usher/api.ErrShort", laid_usher_api_ErrShort), ("usher/api.ErrDry", laid_usher_api_ErrDry), ("usher/api.ErrTaken", laid_usher_api_ErrTaken), ("usher/api.ErrFull", laid_usher_api_ErrFull), ("usher/api.ErrDead", laid_usher_api_ErrDead), ("usher/api.ErrLog", laid_usher_api_ErrLog), ("usher/api.ErrLost", laid_usher_api_ErrLost), ("usher/api.ErrDenied", laid_usher_api_ErrDenied), ("usher/field.kinds", laid_usher_field_kinds)] }
def FieldSetsSaid : Prop := fieldSetsRow.holds Tryd.pinned (OpenSpec.ofChange fieldSetsSpec)

/-- ITS FALSE NEIGHBOUR: 'it returns false'. Refute it at one input. -/
def fieldSetsWrong : ChangeSpec := { name := "fieldSets", fn := fun _ => fun
  | [d] => { results := [.lit (.bool false)], args := [d] }
  | _ => none }
def FieldSetsWrongFalsely : Prop := fieldSetsRow.holds Tryd.pinned (OpenSpec.ofChange fieldSetsWrong)

/-- 'usherlaw6.FieldCookies': WHATEVER THE INPUT: true; the input reads as it did. -/
def fieldCookiesSpec : ChangeSpec := { name := "fieldCookies", fn := fun _ => fun
  | [d] => { results := [.lit (.bool true)], args := [d] }
  | _ => none }
def fieldCookiesRow : OpenClaim := { program := "ytbkhgmmlacdhoaadoor", sum := "2c62f41933213272fcbdcc0105ef654604b2d77173d8816fe6a2fbe441eeaec9", func := "usher/usherlaw6.FieldCookies", spec := "fieldCookies", inPlace := ["internal/bytealg.CountString", "internal/bytealg.IndexByteString", "internal/bytealg.IndexString"], named := ["usher/api.ErrMany", "usher/api.ErrText", "unicode/utf8.first", "unicode/utf8.acceptRanges", "internal/bytealg.MaxLen", "usher/field.kinds", "usher/api.ErrArg", "usher/api.ErrTwice", "usher/api.ErrScheme", "usher/api.ErrShort", "usher/api.ErrDry", "usher/api.ErrTaken", "usher/api.ErrFull", "usher/api.ErrDead", "usher/api.ErrLog", "usher/api.ErrLost", "usher/api.ErrDenied"], apart := false, laid := [("unicode/utf8.acceptRanges", laid_unicode_utf8_acceptRanges), ("usher/api.ErrArg", laid_usher_api_ErrArg), ("usher/api.ErrText", laid_usher_api_ErrText), ("usher/api.ErrMany", laid_usher_api_ErrMany), ("usher/api.ErrTwice", laid_usher_api_ErrTwice), ("usher/api.ErrScheme", laid_usher_api_ErrScheme), ("usher/api.ErrShort", laid_usher_api_ErrShort), ("usher/api.ErrDry", laid_usher_api_ErrDry), ("usher/api.ErrTaken", laid_usher_api_ErrTaken), ("usher/api.ErrFull", laid_usher_api_ErrFull), ("usher/api.ErrDead", laid_usher_api_ErrDead), ("usher/api.ErrLog", laid_usher_api_ErrLog), ("usher/api.ErrLost", laid_usher_api_ErrLost), ("usher/api.ErrDenied", laid_usher_api_ErrDenied), ("usher/field.kinds", laid_usher_field_kinds), ("unicode/utf8.first", laid_unicode_utf8_first)] }
def FieldCookiesSaid : Prop := fieldCookiesRow.holds Tryd.pinned (OpenSpec.ofChange fieldCookiesSpec)

/-- ITS FALSE NEIGHBOUR: 'it returns false'. Refute it at one input. -/
def fieldCookiesWrong : ChangeSpec := { name := "fieldCookies", fn := fun _ => fun
  | [d] => { results := [.lit (.bool false)], args := [d] }
  | _ => none }
def FieldCookiesWrongFalsely : Prop := fieldCookiesRow.holds Tryd.pinned (OpenSpec.ofChange fieldCookiesWrong)

/-- 'usherlaw6.FieldBasics': WHATEVER THE INPUT: true; the input reads as it did. -/
def fieldBasicsSpec : ChangeSpec := { name := "fieldBasics", fn := fun _ => fun
  | [d] => { results := [.lit (.bool true)], args := [d] }
  | _ => none }
def fieldBasicsRow : OpenClaim := { program := "ytbkhgmmlacdhoaadoor", sum := "2c62f41933213272fcbdcc0105ef654604b2d77173d8816fe6a2fbe441eeaec9", func := "usher/usherlaw6.FieldBasics", spec := "fieldBasics", inPlace := ["internal/abi.NoEscape", "internal/bytealg.IndexByteString", "internal/bytealg.IndexString"], named := ["usher/api.ErrText", "usher/api.ErrScheme", "usher/field.kinds", "internal/bytealg.MaxLen", "usher/api.ErrArg", "usher/api.ErrMany", "usher/api.ErrTwice", "usher/api.ErrShort", "usher/api.ErrDry", "usher/api.ErrTaken", "usher/api.ErrFull", "usher/api.ErrDead", "usher/api.ErrLog", "usher/api.ErrLost", "usher/api.ErrDenied"], apart := false, laid := [("usher/api.ErrArg", laid_usher_api_ErrArg), ("usher/api.ErrText", laid_usher_api_ErrText), ("usher/api.ErrMany", laid_usher_api_ErrMany), ("usher/api.ErrTwice", laid_usher_api_ErrTwice), ("usher/api.ErrScheme", laid_usher_api_ErrScheme), ("usher/api.ErrShort", laid_usher_api_ErrShort), ("usher/api.ErrDry", laid_usher_api_ErrDry), ("usher/api.ErrTaken", laid_usher_api_ErrTaken), ("usher/api.ErrFull", laid_usher_api_ErrFull), ("usher/api.ErrDead", laid_usher_api_ErrDead), ("usher/api.ErrLog", laid_usher_api_ErrLog), ("usher/api.ErrLost", laid_usher_api_ErrLost), ("usher/api.ErrDenied", laid_usher_api_ErrDenied), ("usher/field.kinds", laid_usher_field_kinds)] }
def FieldBasicsSaid : Prop := fieldBasicsRow.holds Tryd.pinned (OpenSpec.ofChange fieldBasicsSpec)

/-- ITS FALSE NEIGHBOUR: 'it returns false'. Refute it at one input. -/
def fieldBasicsWrong : ChangeSpec := { name := "fieldBasics", fn := fun _ => fun
  | [d] => { results := [.lit (.bool false)], args := [d] }
  | _ => none }
def FieldBasicsWrongFalsely : Prop := fieldBasicsRow.holds Tryd.pinned (OpenSpec.ofChange fieldBasicsWrong)

/- THE SECOND FORM. 'bulk': how many values and letters a reading holds, each counted each time it is reached (what is shared counts as often as it is met; a slice's spare places count too). A statement '..UptoSaid' is the law's where the arguments, and the package variables that the reading takes, are together of bulk at most 1048576: NARROWER than '..Said'. Prove '..Said' where nothing that the law and all that it calls make is longer than what came in: it says more and counts as full. Else prove '..UptoSaid'. A law counts once. -/
mutual
def uptoBulk {H : Type} : DataW H → Nat
  | .lit (.string bytes) => bytes.length + 1
  | .lit _ => 1
  | .nil => 1
  | .ptr d => uptoBulk d + 1
  | .slice elems spare => uptoBulkAll elems + uptoBulkAll spare + 1
  | .agg parts => uptoBulkAll parts + 1
  | .iface _ d => uptoBulk d + 1
  | .map entries => uptoBulkEntries entries + 1
  | .held _ => 1
def uptoBulkAll {H : Type} : List (DataW H) → Nat
  | [] => 0
  | d :: r => uptoBulk d + uptoBulkAll r
def uptoBulkEntries {H : Type} : List (Lit × DataW H) → Nat
  | [] => 0
  | x :: r => uptoBulkEntry x + uptoBulkEntries r
def uptoBulkEntry {H : Type} : Lit × DataW H → Nat
  | (.string bytes, d) => bytes.length + uptoBulk d + 1
  | (_, d) => uptoBulk d + 1
 end
def uptoSmall : (H : Type) → List (DataW H) → Bool := fun _ ds => decide (uptoBulkAll ds ≤ 1048576)
def OpenSpec.upto (s : _root_.Go.ChangeSpec) : _root_.Go.OpenSpec := { _root_.Go.OpenSpec.ofChange s with cond := some uptoSmall }

/-- 'usherlaw8.ReplyReasonExact', WHERE WHAT IT READS IS OF BULK AT MOST 1048576: true; the input reads as it did. -/
def replyReasonExactUptoRow : OpenClaim := { program := "ytbkhgmmlacdhoaadoor", sum := "2c62f41933213272fcbdcc0105ef654604b2d77173d8816fe6a2fbe441eeaec9", func := "usher/usherlaw8.ReplyReasonExact", spec := "replyReasonExact", named := ["usher/reply.phrases"], apart := false, laid := [("usher/reply.phrases", laid_usher_reply_phrases)], narrowed := true }
def ReplyReasonExactUptoSaid : Prop := replyReasonExactUptoRow.holds Tryd.pinned (OpenSpec.upto replyReasonExactSpec)

/-- 'usherlaw6.FieldGrammars', WHERE WHAT IT READS IS OF BULK AT MOST 1048576: true; the input reads as it did. -/
def fieldGrammarsUptoRow : OpenClaim := { program := "ytbkhgmmlacdhoaadoor", sum := "2c62f41933213272fcbdcc0105ef654604b2d77173d8816fe6a2fbe441eeaec9", func := "usher/usherlaw6.FieldGrammars", spec := "fieldGrammars", named := ["usher/field.kinds"], apart := false, laid := [("usher/field.kinds", laid_usher_field_kinds)], narrowed := true }
def FieldGrammarsUptoSaid : Prop := fieldGrammarsUptoRow.holds Tryd.pinned (OpenSpec.upto fieldGrammarsSpec)

/-- 'usherlaw6.FieldCookieTexts', WHERE WHAT IT READS IS OF BULK AT MOST 1048576: true; the input reads as it did. -/
def fieldCookieTextsUptoRow : OpenClaim := { program := "ytbkhgmmlacdhoaadoor", sum := "2c62f41933213272fcbdcc0105ef654604b2d77173d8816fe6a2fbe441eeaec9", func := "usher/usherlaw6.FieldCookieTexts", spec := "fieldCookieTexts", inPlace := ["internal/abi.NoEscape"], named := ["usher/api.ErrMany", "usher/api.ErrText", "usher/field.kinds", "usher/api.ErrArg", "usher/api.ErrTwice", "usher/api.ErrScheme", "usher/api.ErrShort", "usher/api.ErrDry", "usher/api.ErrTaken", "usher/api.ErrFull", "usher/api.ErrDead", "usher/api.ErrLog", "usher/api.ErrLost", "usher/api.ErrDenied"], apart := false, laid := [("usher/api.ErrArg", laid_usher_api_ErrArg), ("usher/api.ErrText", laid_usher_api_ErrText), ("usher/api.ErrMany", laid_usher_api_ErrMany), ("usher/api.ErrTwice", laid_usher_api_ErrTwice), ("usher/api.ErrScheme", laid_usher_api_ErrScheme), ("usher/api.ErrShort", laid_usher_api_ErrShort), ("usher/api.ErrDry", laid_usher_api_ErrDry), ("usher/api.ErrTaken", laid_usher_api_ErrTaken), ("usher/api.ErrFull", laid_usher_api_ErrFull), ("usher/api.ErrDead", laid_usher_api_ErrDead), ("usher/api.ErrLog", laid_usher_api_ErrLog), ("usher/api.ErrLost", laid_usher_api_ErrLost), ("usher/api.ErrDenied", laid_usher_api_ErrDenied), ("usher/field.kinds", laid_usher_field_kinds)], narrowed := true }
def FieldCookieTextsUptoSaid : Prop := fieldCookieTextsUptoRow.holds Tryd.pinned (OpenSpec.upto fieldCookieTextsSpec)

/-- 'usherlaw6.FieldBasicOfs', WHERE WHAT IT READS IS OF BULK AT MOST 1048576: true; the input reads as it did. -/
def fieldBasicOfsUptoRow : OpenClaim := { program := "ytbkhgmmlacdhoaadoor", sum := "2c62f41933213272fcbdcc0105ef654604b2d77173d8816fe6a2fbe441eeaec9", func := "usher/usherlaw6.FieldBasicOfs", spec := "fieldBasicOfs", inPlace := ["internal/abi.NoEscape"], named := ["usher/pct.unreserved"], apart := false, laid := [("usher/pct.unreserved", laid_usher_pct_unreserved)], narrowed := true }
def FieldBasicOfsUptoSaid : Prop := fieldBasicOfsUptoRow.holds Tryd.pinned (OpenSpec.upto fieldBasicOfsSpec)

/-- 'usherlaw6.FieldMedias', WHERE WHAT IT READS IS OF BULK AT MOST 1048576: true; the input reads as it did. -/
def fieldMediasUptoRow : OpenClaim := { program := "ytbkhgmmlacdhoaadoor", sum := "2c62f41933213272fcbdcc0105ef654604b2d77173d8816fe6a2fbe441eeaec9", func := "usher/usherlaw6.FieldMedias", spec := "fieldMedias", named := ["usher/api.ErrText", "usher/field.kinds", "usher/api.ErrArg", "usher/api.ErrMany", "usher/api.ErrTwice", "usher/api.ErrScheme", "usher/api.ErrShort", "usher/api.ErrDry", "usher/api.ErrTaken", "usher/api.ErrFull", "usher/api.ErrDead", "usher/api.ErrLog", "usher/api.ErrLost", "usher/api.ErrDenied"], apart := false, laid := [("usher/api.ErrArg", laid_usher_api_ErrArg), ("usher/api.ErrText", laid_usher_api_ErrText), ("usher/api.ErrMany", laid_usher_api_ErrMany), ("usher/api.ErrTwice", laid_usher_api_ErrTwice), ("usher/api.ErrScheme", laid_usher_api_ErrScheme), ("usher/api.ErrShort", laid_usher_api_ErrShort), ("usher/api.ErrDry", laid_usher_api_ErrDry), ("usher/api.ErrTaken", laid_usher_api_ErrTaken), ("usher/api.ErrFull", laid_usher_api_ErrFull), ("usher/api.ErrDead", laid_usher_api_ErrDead), ("usher/api.ErrLog", laid_usher_api_ErrLog), ("usher/api.ErrLost", laid_usher_api_ErrLost), ("usher/api.ErrDenied", laid_usher_api_ErrDenied), ("usher/field.kinds", laid_usher_field_kinds)], narrowed := true }
def FieldMediasUptoSaid : Prop := fieldMediasUptoRow.holds Tryd.pinned (OpenSpec.upto fieldMediasSpec)

/-- 'usherlaw6.FieldMediaQuoted', WHERE WHAT IT READS IS OF BULK AT MOST 1048576: true; the input reads as it did. -/
def fieldMediaQuotedUptoRow : OpenClaim := { program := "ytbkhgmmlacdhoaadoor", sum := "2c62f41933213272fcbdcc0105ef654604b2d77173d8816fe6a2fbe441eeaec9", func := "usher/usherlaw6.FieldMediaQuoted", spec := "fieldMediaQuoted", named := ["usher/api.ErrText", "usher/field.kinds"], apart := false, laid := [("usher/api.ErrText", laid_usher_api_ErrText), ("usher/field.kinds", laid_usher_field_kinds)], narrowed := true }
def FieldMediaQuotedUptoSaid : Prop := fieldMediaQuotedUptoRow.holds Tryd.pinned (OpenSpec.upto fieldMediaQuotedSpec)

/-- 'usherlaw4.JsonQuote', WHERE WHAT IT READS IS OF BULK AT MOST 1048576: true; the input reads as it did. -/
def jsonQuoteUptoRow : OpenClaim := { program := "ytbkhgmmlacdhoaadoor", sum := "2c62f41933213272fcbdcc0105ef654604b2d77173d8816fe6a2fbe441eeaec9", func := "usher/usherlaw4.JsonQuote", spec := "jsonQuote", inPlace := ["internal/abi.NoEscape"], named := ["usher/api.ErrText", "unicode/utf8.first", "unicode/utf8.acceptRanges", "usher/jsonobj.shorts", "usher/api.ErrArg", "usher/api.ErrMany", "usher/api.ErrTwice", "usher/api.ErrScheme", "usher/api.ErrShort", "usher/api.ErrDry", "usher/api.ErrTaken", "usher/api.ErrFull", "usher/api.ErrDead", "usher/api.ErrLog", "usher/api.ErrLost", "usher/api.ErrDenied"], apart := false, laid := [("unicode/utf8.acceptRanges", laid_unicode_utf8_acceptRanges), ("usher/api.ErrArg", laid_usher_api_ErrArg), ("usher/api.ErrText", laid_usher_api_ErrText), ("usher/api.ErrMany", laid_usher_api_ErrMany), ("usher/api.ErrTwice", laid_usher_api_ErrTwice), ("usher/api.ErrScheme", laid_usher_api_ErrScheme), ("usher/api.ErrShort", laid_usher_api_ErrShort), ("usher/api.ErrDry", laid_usher_api_ErrDry), ("usher/api.ErrTaken", laid_usher_api_ErrTaken), ("usher/api.ErrFull", laid_usher_api_ErrFull), ("usher/api.ErrDead", laid_usher_api_ErrDead), ("usher/api.ErrLog", laid_usher_api_ErrLog), ("usher/api.ErrLost", laid_usher_api_ErrLost), ("usher/api.ErrDenied", laid_usher_api_ErrDenied), ("usher/jsonobj.shorts", laid_usher_jsonobj_shorts), ("unicode/utf8.first", laid_unicode_utf8_first)], narrowed := true }
def JsonQuoteUptoSaid : Prop := jsonQuoteUptoRow.holds Tryd.pinned (OpenSpec.upto jsonQuoteSpec)

/-- 'usherlaw6.FieldSets', WHERE WHAT IT READS IS OF BULK AT MOST 1048576: true; the input reads as it did. -/
def fieldSetsUptoRow : OpenClaim := { program := "ytbkhgmmlacdhoaadoor", sum := "2c62f41933213272fcbdcc0105ef654604b2d77173d8816fe6a2fbe441eeaec9", func := "usher/usherlaw6.FieldSets", spec := "fieldSets", named := ["usher/api.ErrText", "usher/field.kinds", "internal/strconv.uint64pow10", "math/bits.deBruijn32tab", "math/bits.deBruijn64tab", "usher/api.ErrArg", "usher/api.ErrMany", "usher/api.ErrTwice", "usher/api.ErrScheme", "usher/api.ErrShort", "usher/api.ErrDry", "usher/api.ErrTaken", "usher/api.ErrFull", "usher/api.ErrDead", "usher/api.ErrLog", "usher/api.ErrLost", "usher/api.ErrDenied"], apart := false, laid := [("math/bits.deBruijn32tab", laid_math_bits_deBruijn32tab), ("math/bits.deBruijn64tab", laid_math_bits_deBruijn64tab), ("internal/strconv.uint64pow10", laid_internal_strconv_uint64pow10), ("usher/api.ErrArg", laid_usher_api_ErrArg), ("usher/api.ErrText", laid_usher_api_ErrText), ("usher/api.ErrMany", laid_usher_api_ErrMany), ("usher/api.ErrTwice", laid_usher_api_ErrTwice), ("usher/api.ErrScheme", laid_usher_api_ErrScheme), ("usher/api.ErrShort", laid_usher_api_ErrShort), ("usher/api.ErrDry", laid_usher_api_ErrDry), ("usher/api.ErrTaken", laid_usher_api_ErrTaken), ("usher/api.ErrFull", laid_usher_api_ErrFull), ("usher/api.ErrDead", laid_usher_api_ErrDead), ("usher/api.ErrLog", laid_usher_api_ErrLog), ("usher/api.ErrLost", laid_usher_api_ErrLost), ("usher/api.ErrDenied", laid_usher_api_ErrDenied), ("usher/field.kinds", laid_usher_field_kinds)], narrowed := true }
def FieldSetsUptoSaid : Prop := fieldSetsUptoRow.holds Tryd.pinned (OpenSpec.upto fieldSetsSpec)

/-- 'usherlaw6.FieldCookies', WHERE WHAT IT READS IS OF BULK AT MOST 1048576: true; the input reads as it did. -/
def fieldCookiesUptoRow : OpenClaim := { program := "ytbkhgmmlacdhoaadoor", sum := "2c62f41933213272fcbdcc0105ef654604b2d77173d8816fe6a2fbe441eeaec9", func := "usher/usherlaw6.FieldCookies", spec := "fieldCookies", inPlace := ["internal/bytealg.CountString", "internal/bytealg.IndexByteString", "internal/bytealg.IndexString"], named := ["usher/api.ErrMany", "usher/api.ErrText", "unicode/utf8.first", "unicode/utf8.acceptRanges", "internal/bytealg.MaxLen", "usher/field.kinds", "usher/api.ErrArg", "usher/api.ErrTwice", "usher/api.ErrScheme", "usher/api.ErrShort", "usher/api.ErrDry", "usher/api.ErrTaken", "usher/api.ErrFull", "usher/api.ErrDead", "usher/api.ErrLog", "usher/api.ErrLost", "usher/api.ErrDenied"], apart := false, laid := [("unicode/utf8.acceptRanges", laid_unicode_utf8_acceptRanges), ("usher/api.ErrArg", laid_usher_api_ErrArg), ("usher/api.ErrText", laid_usher_api_ErrText), ("usher/api.ErrMany", laid_usher_api_ErrMany), ("usher/api.ErrTwice", laid_usher_api_ErrTwice), ("usher/api.ErrScheme", laid_usher_api_ErrScheme), ("usher/api.ErrShort", laid_usher_api_ErrShort), ("usher/api.ErrDry", laid_usher_api_ErrDry), ("usher/api.ErrTaken", laid_usher_api_ErrTaken), ("usher/api.ErrFull", laid_usher_api_ErrFull), ("usher/api.ErrDead", laid_usher_api_ErrDead), ("usher/api.ErrLog", laid_usher_api_ErrLog), ("usher/api.ErrLost", laid_usher_api_ErrLost), ("usher/api.ErrDenied", laid_usher_api_ErrDenied), ("usher/field.kinds", laid_usher_field_kinds), ("unicode/utf8.first", laid_unicode_utf8_first)], narrowed := true }
def FieldCookiesUptoSaid : Prop := fieldCookiesUptoRow.holds Tryd.pinned (OpenSpec.upto fieldCookiesSpec)

/-- 'usherlaw6.FieldBasics', WHERE WHAT IT READS IS OF BULK AT MOST 1048576: true; the input reads as it did. -/
def fieldBasicsUptoRow : OpenClaim := { program := "ytbkhgmmlacdhoaadoor", sum := "2c62f41933213272fcbdcc0105ef654604b2d77173d8816fe6a2fbe441eeaec9", func := "usher/usherlaw6.FieldBasics", spec := "fieldBasics", inPlace := ["internal/abi.NoEscape", "internal/bytealg.IndexByteString", "internal/bytealg.IndexString"], named := ["usher/api.ErrText", "usher/api.ErrScheme", "usher/field.kinds", "internal/bytealg.MaxLen", "usher/api.ErrArg", "usher/api.ErrMany", "usher/api.ErrTwice", "usher/api.ErrShort", "usher/api.ErrDry", "usher/api.ErrTaken", "usher/api.ErrFull", "usher/api.ErrDead", "usher/api.ErrLog", "usher/api.ErrLost", "usher/api.ErrDenied"], apart := false, laid := [("usher/api.ErrArg", laid_usher_api_ErrArg), ("usher/api.ErrText", laid_usher_api_ErrText), ("usher/api.ErrMany", laid_usher_api_ErrMany), ("usher/api.ErrTwice", laid_usher_api_ErrTwice), ("usher/api.ErrScheme", laid_usher_api_ErrScheme), ("usher/api.ErrShort", laid_usher_api_ErrShort), ("usher/api.ErrDry", laid_usher_api_ErrDry), ("usher/api.ErrTaken", laid_usher_api_ErrTaken), ("usher/api.ErrFull", laid_usher_api_ErrFull), ("usher/api.ErrDead", laid_usher_api_ErrDead), ("usher/api.ErrLog", laid_usher_api_ErrLog), ("usher/api.ErrLost", laid_usher_api_ErrLost), ("usher/api.ErrDenied", laid_usher_api_ErrDenied), ("usher/field.kinds", laid_usher_field_kinds)], narrowed := true }
def FieldBasicsUptoSaid : Prop := fieldBasicsUptoRow.holds Tryd.pinned (OpenSpec.upto fieldBasicsSpec)

end Rows
end Go.Proofs.YtbkhgmmlacdhoaaDoor
