/-
  DERIVED. GIVEN WITH THE SEED: THE CARDS: each row of YtbkhgmmlacdhoaaDoorRows.lean that lists a variable, with what it lists TIED to the program's text (the seventh form; the later family's looks); each row that meets fmt, with fmt's text TOLD by the authors' own Lean function (tested against real Go, not proved from fmt's source: count such statements apart). THE CARD IS WHAT COUNTS. Prove the row's statement (the work); the ties are given (YtbkhgmmlacdhoaaDoorTie.lean); close each card by the builder's one call (the guide's Derived/Test/ToyasCard.lean, 'card_holds'). Laid BY PROGRAM, IN A SANDBOX (cutbox-door.mjs). By AI agents, Wed Nov 11 2026. No macro, syntax, notation, axiom, sorry.
-/
import Derived.Test.YtbkhgmmlacdhoaaDoorRows
import GoSem.ClaimSeven
namespace Go.Proofs.YtbkhgmmlacdhoaaDoor
namespace Rows

/-- THE TIED CARD OF 'usherlaw8.ReplyReasonExact'. -/
def replyReasonExactCard : Claim7 := { stood := { row := replyReasonExactRow, standIns := [], harness := (true, "8c44d72cd86d496058dd69d4dddc5cebfe8995768322513e648033bf54027330"), looks := true }, kinds := [], alts := [], laidByText := true, laidKinds := [.data], laidTests := true, laidLooks := .later }
def ReplyReasonExactCardSaid : Prop := Claim7.holds Tryd.pinned (.plain (OpenSpec.ofChange replyReasonExactSpec)) replyReasonExactCard

/-- THE TIED CARD OF 'usherlaw6.FieldGrammars'. -/
def fieldGrammarsCard : Claim7 := { stood := { row := fieldGrammarsRow, standIns := [], harness := (true, "8c44d72cd86d496058dd69d4dddc5cebfe8995768322513e648033bf54027330"), looks := true }, kinds := [], alts := [], laidByText := true, laidKinds := [.data], laidTests := true, laidLooks := .later }
def FieldGrammarsCardSaid : Prop := Claim7.holds Tryd.pinned (.plain (OpenSpec.ofChange fieldGrammarsSpec)) fieldGrammarsCard

/-- THE TIED CARD OF 'usherlaw6.FieldCookieTexts'. -/
def fieldCookieTextsCard : Claim7 := { stood := { row := fieldCookieTextsRow, standIns := [], harness := (true, "8c44d72cd86d496058dd69d4dddc5cebfe8995768322513e648033bf54027330"), looks := true }, kinds := [], alts := [], laidByText := true, laidKinds := [.sentinel, .sentinel, .sentinel, .sentinel, .sentinel, .sentinel, .sentinel, .sentinel, .sentinel, .sentinel, .sentinel, .sentinel, .sentinel, .data], laidTests := true, laidLooks := .later }
def FieldCookieTextsCardSaid : Prop := Claim7.holds Tryd.pinned (.plain (OpenSpec.ofChange fieldCookieTextsSpec)) fieldCookieTextsCard

/-- THE TIED CARD OF 'usherlaw6.FieldBasicOfs'. -/
def fieldBasicOfsCard : Claim7 := { stood := { row := fieldBasicOfsRow, standIns := [], harness := (true, "8c44d72cd86d496058dd69d4dddc5cebfe8995768322513e648033bf54027330"), looks := true }, kinds := [], alts := [], laidByText := true, laidKinds := [.data], laidTests := true, laidLooks := .later }
def FieldBasicOfsCardSaid : Prop := Claim7.holds Tryd.pinned (.plain (OpenSpec.ofChange fieldBasicOfsSpec)) fieldBasicOfsCard

/-- THE TIED CARD OF 'usherlaw6.FieldMedias'. -/
def fieldMediasCard : Claim7 := { stood := { row := fieldMediasRow, standIns := [], harness := (true, "8c44d72cd86d496058dd69d4dddc5cebfe8995768322513e648033bf54027330"), looks := true }, kinds := [], alts := [], laidByText := true, laidKinds := [.sentinel, .sentinel, .sentinel, .sentinel, .sentinel, .sentinel, .sentinel, .sentinel, .sentinel, .sentinel, .sentinel, .sentinel, .sentinel, .data], laidTests := true, laidLooks := .later }
def FieldMediasCardSaid : Prop := Claim7.holds Tryd.pinned (.plain (OpenSpec.ofChange fieldMediasSpec)) fieldMediasCard

/-- THE TIED CARD OF 'usherlaw6.FieldMediaQuoted'. -/
def fieldMediaQuotedCard : Claim7 := { stood := { row := fieldMediaQuotedRow, standIns := [], harness := (true, "8c44d72cd86d496058dd69d4dddc5cebfe8995768322513e648033bf54027330"), looks := true }, kinds := [], alts := [], laidByText := true, laidKinds := [.sentinel, .data], laidTests := true, laidLooks := .later }
def FieldMediaQuotedCardSaid : Prop := Claim7.holds Tryd.pinned (.plain (OpenSpec.ofChange fieldMediaQuotedSpec)) fieldMediaQuotedCard

/-- THE TIED CARD OF 'usherlaw4.JsonQuote'. -/
def jsonQuoteCard : Claim7 := { stood := { row := jsonQuoteRow, standIns := [], harness := (true, "8c44d72cd86d496058dd69d4dddc5cebfe8995768322513e648033bf54027330"), looks := true }, kinds := [], alts := [], laidByText := true, laidKinds := [.data, .sentinel, .sentinel, .sentinel, .sentinel, .sentinel, .sentinel, .sentinel, .sentinel, .sentinel, .sentinel, .sentinel, .sentinel, .sentinel, .data, .pinned], laidTests := true, laidLooks := .later }
def JsonQuoteCardSaid : Prop := Claim7.holds Tryd.pinned (.plain (OpenSpec.ofChange jsonQuoteSpec)) jsonQuoteCard

/-- THE TIED CARD OF 'usherlaw6.FieldSets'. -/
def fieldSetsCard : Claim7 := { stood := { row := fieldSetsRow, standIns := [], harness := (true, "8c44d72cd86d496058dd69d4dddc5cebfe8995768322513e648033bf54027330"), looks := true }, kinds := [], alts := [], laidByText := true, laidKinds := [.data, .data, .data, .sentinel, .sentinel, .sentinel, .sentinel, .sentinel, .sentinel, .sentinel, .sentinel, .sentinel, .sentinel, .sentinel, .sentinel, .sentinel, .data], laidTests := true, laidLooks := .later }
def FieldSetsCardSaid : Prop := Claim7.holds Tryd.pinned (.plain (OpenSpec.ofChange fieldSetsSpec)) fieldSetsCard

/-- THE TIED CARD OF 'usherlaw6.FieldCookies'. -/
def fieldCookiesCard : Claim7 := { stood := { row := fieldCookiesRow, standIns := [], harness := (true, "8c44d72cd86d496058dd69d4dddc5cebfe8995768322513e648033bf54027330"), looks := true }, kinds := [], alts := [], laidByText := true, laidKinds := [.data, .sentinel, .sentinel, .sentinel, .sentinel, .sentinel, .sentinel, .sentinel, .sentinel, .sentinel, .sentinel, .sentinel, .sentinel, .sentinel, .data, .pinned], laidTests := true, laidLooks := .later }
def FieldCookiesCardSaid : Prop := Claim7.holds Tryd.pinned (.plain (OpenSpec.ofChange fieldCookiesSpec)) fieldCookiesCard

/-- THE TIED CARD OF 'usherlaw6.FieldBasics'. -/
def fieldBasicsCard : Claim7 := { stood := { row := fieldBasicsRow, standIns := [], harness := (true, "8c44d72cd86d496058dd69d4dddc5cebfe8995768322513e648033bf54027330"), looks := true }, kinds := [], alts := [], laidByText := true, laidKinds := [.sentinel, .sentinel, .sentinel, .sentinel, .sentinel, .sentinel, .sentinel, .sentinel, .sentinel, .sentinel, .sentinel, .sentinel, .sentinel, .data], laidTests := true, laidLooks := .later }
def FieldBasicsCardSaid : Prop := Claim7.holds Tryd.pinned (.plain (OpenSpec.ofChange fieldBasicsSpec)) fieldBasicsCard

/-- THE SECOND FORM's CARD OF 'usherlaw8.ReplyReasonExact'. -/
def replyReasonExactUptoCard : Claim7 := { stood := { row := replyReasonExactUptoRow, standIns := [], harness := (true, "8c44d72cd86d496058dd69d4dddc5cebfe8995768322513e648033bf54027330"), looks := true }, kinds := [], alts := [], laidByText := true, laidKinds := [.data], laidTests := true, laidLooks := .later }
def ReplyReasonExactUptoCardSaid : Prop := Claim7.holds Tryd.pinned (.plain (OpenSpec.upto replyReasonExactSpec)) replyReasonExactUptoCard

/-- THE SECOND FORM's CARD OF 'usherlaw6.FieldGrammars'. -/
def fieldGrammarsUptoCard : Claim7 := { stood := { row := fieldGrammarsUptoRow, standIns := [], harness := (true, "8c44d72cd86d496058dd69d4dddc5cebfe8995768322513e648033bf54027330"), looks := true }, kinds := [], alts := [], laidByText := true, laidKinds := [.data], laidTests := true, laidLooks := .later }
def FieldGrammarsUptoCardSaid : Prop := Claim7.holds Tryd.pinned (.plain (OpenSpec.upto fieldGrammarsSpec)) fieldGrammarsUptoCard

/-- THE SECOND FORM's CARD OF 'usherlaw6.FieldCookieTexts'. -/
def fieldCookieTextsUptoCard : Claim7 := { stood := { row := fieldCookieTextsUptoRow, standIns := [], harness := (true, "8c44d72cd86d496058dd69d4dddc5cebfe8995768322513e648033bf54027330"), looks := true }, kinds := [], alts := [], laidByText := true, laidKinds := [.sentinel, .sentinel, .sentinel, .sentinel, .sentinel, .sentinel, .sentinel, .sentinel, .sentinel, .sentinel, .sentinel, .sentinel, .sentinel, .data], laidTests := true, laidLooks := .later }
def FieldCookieTextsUptoCardSaid : Prop := Claim7.holds Tryd.pinned (.plain (OpenSpec.upto fieldCookieTextsSpec)) fieldCookieTextsUptoCard

/-- THE SECOND FORM's CARD OF 'usherlaw6.FieldBasicOfs'. -/
def fieldBasicOfsUptoCard : Claim7 := { stood := { row := fieldBasicOfsUptoRow, standIns := [], harness := (true, "8c44d72cd86d496058dd69d4dddc5cebfe8995768322513e648033bf54027330"), looks := true }, kinds := [], alts := [], laidByText := true, laidKinds := [.data], laidTests := true, laidLooks := .later }
def FieldBasicOfsUptoCardSaid : Prop := Claim7.holds Tryd.pinned (.plain (OpenSpec.upto fieldBasicOfsSpec)) fieldBasicOfsUptoCard

/-- THE SECOND FORM's CARD OF 'usherlaw6.FieldMedias'. -/
def fieldMediasUptoCard : Claim7 := { stood := { row := fieldMediasUptoRow, standIns := [], harness := (true, "8c44d72cd86d496058dd69d4dddc5cebfe8995768322513e648033bf54027330"), looks := true }, kinds := [], alts := [], laidByText := true, laidKinds := [.sentinel, .sentinel, .sentinel, .sentinel, .sentinel, .sentinel, .sentinel, .sentinel, .sentinel, .sentinel, .sentinel, .sentinel, .sentinel, .data], laidTests := true, laidLooks := .later }
def FieldMediasUptoCardSaid : Prop := Claim7.holds Tryd.pinned (.plain (OpenSpec.upto fieldMediasSpec)) fieldMediasUptoCard

/-- THE SECOND FORM's CARD OF 'usherlaw6.FieldMediaQuoted'. -/
def fieldMediaQuotedUptoCard : Claim7 := { stood := { row := fieldMediaQuotedUptoRow, standIns := [], harness := (true, "8c44d72cd86d496058dd69d4dddc5cebfe8995768322513e648033bf54027330"), looks := true }, kinds := [], alts := [], laidByText := true, laidKinds := [.sentinel, .data], laidTests := true, laidLooks := .later }
def FieldMediaQuotedUptoCardSaid : Prop := Claim7.holds Tryd.pinned (.plain (OpenSpec.upto fieldMediaQuotedSpec)) fieldMediaQuotedUptoCard

/-- THE SECOND FORM's CARD OF 'usherlaw4.JsonQuote'. -/
def jsonQuoteUptoCard : Claim7 := { stood := { row := jsonQuoteUptoRow, standIns := [], harness := (true, "8c44d72cd86d496058dd69d4dddc5cebfe8995768322513e648033bf54027330"), looks := true }, kinds := [], alts := [], laidByText := true, laidKinds := [.data, .sentinel, .sentinel, .sentinel, .sentinel, .sentinel, .sentinel, .sentinel, .sentinel, .sentinel, .sentinel, .sentinel, .sentinel, .sentinel, .data, .pinned], laidTests := true, laidLooks := .later }
def JsonQuoteUptoCardSaid : Prop := Claim7.holds Tryd.pinned (.plain (OpenSpec.upto jsonQuoteSpec)) jsonQuoteUptoCard

/-- THE SECOND FORM's CARD OF 'usherlaw6.FieldSets'. -/
def fieldSetsUptoCard : Claim7 := { stood := { row := fieldSetsUptoRow, standIns := [], harness := (true, "8c44d72cd86d496058dd69d4dddc5cebfe8995768322513e648033bf54027330"), looks := true }, kinds := [], alts := [], laidByText := true, laidKinds := [.data, .data, .data, .sentinel, .sentinel, .sentinel, .sentinel, .sentinel, .sentinel, .sentinel, .sentinel, .sentinel, .sentinel, .sentinel, .sentinel, .sentinel, .data], laidTests := true, laidLooks := .later }
def FieldSetsUptoCardSaid : Prop := Claim7.holds Tryd.pinned (.plain (OpenSpec.upto fieldSetsSpec)) fieldSetsUptoCard

/-- THE SECOND FORM's CARD OF 'usherlaw6.FieldCookies'. -/
def fieldCookiesUptoCard : Claim7 := { stood := { row := fieldCookiesUptoRow, standIns := [], harness := (true, "8c44d72cd86d496058dd69d4dddc5cebfe8995768322513e648033bf54027330"), looks := true }, kinds := [], alts := [], laidByText := true, laidKinds := [.data, .sentinel, .sentinel, .sentinel, .sentinel, .sentinel, .sentinel, .sentinel, .sentinel, .sentinel, .sentinel, .sentinel, .sentinel, .sentinel, .data, .pinned], laidTests := true, laidLooks := .later }
def FieldCookiesUptoCardSaid : Prop := Claim7.holds Tryd.pinned (.plain (OpenSpec.upto fieldCookiesSpec)) fieldCookiesUptoCard

/-- THE SECOND FORM's CARD OF 'usherlaw6.FieldBasics'. -/
def fieldBasicsUptoCard : Claim7 := { stood := { row := fieldBasicsUptoRow, standIns := [], harness := (true, "8c44d72cd86d496058dd69d4dddc5cebfe8995768322513e648033bf54027330"), looks := true }, kinds := [], alts := [], laidByText := true, laidKinds := [.sentinel, .sentinel, .sentinel, .sentinel, .sentinel, .sentinel, .sentinel, .sentinel, .sentinel, .sentinel, .sentinel, .sentinel, .sentinel, .data], laidTests := true, laidLooks := .later }
def FieldBasicsUptoCardSaid : Prop := Claim7.holds Tryd.pinned (.plain (OpenSpec.upto fieldBasicsSpec)) fieldBasicsUptoCard
end Rows
end Go.Proofs.YtbkhgmmlacdhoaaDoor
