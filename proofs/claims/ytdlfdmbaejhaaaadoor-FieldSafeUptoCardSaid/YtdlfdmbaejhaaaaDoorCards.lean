/-
  DERIVED. GIVEN WITH THE SEED: THE CARDS: each row of YtdlfdmbaejhaaaaDoorRows.lean that lists a variable, with what it lists TIED to the program's text (the seventh form; the later family's looks); each row that meets fmt, with fmt's text TOLD by the authors' own Lean function (tested against real Go, not proved from fmt's source: count such statements apart). THE CARD IS WHAT COUNTS. Prove the row's statement (the work); the ties are given (YtdlfdmbaejhaaaaDoorTie.lean); close each card by the builder's one call (the guide's Derived/Test/ToyasCard.lean, 'card_holds'). Laid BY PROGRAM, IN A SANDBOX (cutbox-door.mjs). By AI agents, Wed Nov 11 2026. No macro, syntax, notation, axiom, sorry.
-/
import Derived.Test.YtdlfdmbaejhaaaaDoorRows
import GoSem.ClaimSeven
namespace Go.Proofs.YtdlfdmbaejhaaaaDoor
namespace Rows

/-- THE TIED CARD OF 'usherlaw8.ReplyRenderExact'. -/
def replyRenderExactCard : Claim7 := { stood := { row := replyRenderExactRow, standIns := [], harness := (true, "ba3ec8ecc31b6131b4d72352c86cf3463b51c2a018242ae3d651b0529cb9575b"), looks := true }, kinds := [], alts := [], laidByText := true, laidKinds := [.data, .data, .data, .sentinel, .sentinel, .sentinel, .sentinel, .sentinel, .sentinel, .sentinel, .sentinel, .sentinel, .sentinel, .sentinel, .sentinel, .sentinel, .data, .data, .data], laidTests := true, laidLooks := .later }
def ReplyRenderExactCardSaid : Prop := Claim7.holds Tryd.pinned (.plain (OpenSpec.ofChange replyRenderExactSpec)) replyRenderExactCard

/-- THE TIED CARD OF 'usherlaw8.ReplyLines'. -/
def replyLinesCard : Claim7 := { stood := { row := replyLinesRow, standIns := [], harness := (true, "ba3ec8ecc31b6131b4d72352c86cf3463b51c2a018242ae3d651b0529cb9575b"), looks := true }, kinds := [], alts := [], laidByText := true, laidKinds := [.data, .data, .data, .sentinel, .sentinel, .sentinel, .sentinel, .sentinel, .sentinel, .sentinel, .sentinel, .sentinel, .sentinel, .sentinel, .sentinel, .sentinel, .data, .data, .data, .data], laidTests := true, laidLooks := .later }
def ReplyLinesCardSaid : Prop := Claim7.holds Tryd.pinned (.plain (OpenSpec.ofChange replyLinesSpec)) replyLinesCard

/-- THE TIED CARD OF 'usherlaw6.FieldCookieBack'. -/
def fieldCookieBackCard : Claim7 := { stood := { row := fieldCookieBackRow, standIns := [], harness := (true, "ba3ec8ecc31b6131b4d72352c86cf3463b51c2a018242ae3d651b0529cb9575b"), looks := true }, kinds := [], alts := [], laidByText := true, laidKinds := [.data, .sentinel, .sentinel, .data, .pinned], laidTests := true, laidLooks := .later }
def FieldCookieBackCardSaid : Prop := Claim7.holds Tryd.pinned (.plain (OpenSpec.ofChange fieldCookieBackSpec)) fieldCookieBackCard

/-- THE TIED CARD OF 'usherlaw6.FieldSafe'. -/
def fieldSafeCard : Claim7 := { stood := { row := fieldSafeRow, standIns := [], harness := (true, "ba3ec8ecc31b6131b4d72352c86cf3463b51c2a018242ae3d651b0529cb9575b"), looks := true }, kinds := [], alts := [], laidByText := true, laidKinds := [.data, .data, .data, .sentinel, .sentinel, .data, .data], laidTests := true, laidLooks := .later }
def FieldSafeCardSaid : Prop := Claim7.holds Tryd.pinned (.plain (OpenSpec.ofChange fieldSafeSpec)) fieldSafeCard

/-- THE TIED CARD OF 'usherlaw8.ReplyReadExact'. -/
def replyReadExactCard : Claim7 := { stood := { row := replyReadExactRow, standIns := [], harness := (true, "ba3ec8ecc31b6131b4d72352c86cf3463b51c2a018242ae3d651b0529cb9575b"), looks := true }, kinds := [], alts := [], laidByText := true, laidKinds := [.data, .data, .data, .data, .sentinel, .sentinel, .sentinel, .sentinel, .sentinel, .sentinel, .sentinel, .sentinel, .sentinel, .sentinel, .sentinel, .sentinel, .sentinel, .data, .data, .data, .pinned], laidTests := true, laidLooks := .later }
def ReplyReadExactCardSaid : Prop := Claim7.holds Tryd.pinned (.plain (OpenSpec.ofChange replyReadExactSpec)) replyReadExactCard

/-- THE TIED CARD OF 'usherlaw8.ReplyLimits'. -/
def replyLimitsCard : Claim7 := { stood := { row := replyLimitsRow, standIns := [], harness := (true, "ba3ec8ecc31b6131b4d72352c86cf3463b51c2a018242ae3d651b0529cb9575b"), looks := true }, kinds := [], alts := [], laidByText := true, laidKinds := [.data, .data, .data, .data, .sentinel, .sentinel, .sentinel, .sentinel, .sentinel, .sentinel, .sentinel, .sentinel, .sentinel, .sentinel, .sentinel, .sentinel, .sentinel, .data, .data, .data, .pinned], laidTests := true, laidLooks := .later }
def ReplyLimitsCardSaid : Prop := Claim7.holds Tryd.pinned (.plain (OpenSpec.ofChange replyLimitsSpec)) replyLimitsCard

/-- THE TIED CARD OF 'usherlaw8.ReplyBack'. -/
def replyBackCard : Claim7 := { stood := { row := replyBackRow, standIns := [], harness := (true, "ba3ec8ecc31b6131b4d72352c86cf3463b51c2a018242ae3d651b0529cb9575b"), looks := true }, kinds := [], alts := [], laidByText := true, laidKinds := [.data, .data, .data, .data, .sentinel, .sentinel, .sentinel, .sentinel, .data, .data, .data, .data, .pinned], laidTests := true, laidLooks := .later }
def ReplyBackCardSaid : Prop := Claim7.holds Tryd.pinned (.plain (OpenSpec.ofChange replyBackSpec)) replyBackCard

/-- THE TIED CARD OF 'usherlaw8.ReplyCut'. -/
def replyCutCard : Claim7 := { stood := { row := replyCutRow, standIns := [], harness := (true, "ba3ec8ecc31b6131b4d72352c86cf3463b51c2a018242ae3d651b0529cb9575b"), looks := true }, kinds := [], alts := [], laidByText := true, laidKinds := [.data, .data, .data, .data, .sentinel, .sentinel, .sentinel, .sentinel, .sentinel, .sentinel, .sentinel, .sentinel, .sentinel, .sentinel, .sentinel, .sentinel, .sentinel, .data, .data, .data, .data, .pinned], laidTests := true, laidLooks := .later }
def ReplyCutCardSaid : Prop := Claim7.holds Tryd.pinned (.plain (OpenSpec.ofChange replyCutSpec)) replyCutCard

/-- THE TIED CARD OF 'usherlaw8.ReplyOnly'. -/
def replyOnlyCard : Claim7 := { stood := { row := replyOnlyRow, standIns := [], harness := (true, "ba3ec8ecc31b6131b4d72352c86cf3463b51c2a018242ae3d651b0529cb9575b"), looks := true }, kinds := [], alts := [], laidByText := true, laidKinds := [.data, .data, .data, .data, .sentinel, .sentinel, .sentinel, .sentinel, .sentinel, .sentinel, .sentinel, .sentinel, .sentinel, .sentinel, .sentinel, .sentinel, .sentinel, .data, .data, .data, .pinned], laidTests := true, laidLooks := .later }
def ReplyOnlyCardSaid : Prop := Claim7.holds Tryd.pinned (.plain (OpenSpec.ofChange replyOnlySpec)) replyOnlyCard

/-- THE TIED CARD OF 'usherlaw8.ReplyStream'. -/
def replyStreamCard : Claim7 := { stood := { row := replyStreamRow, standIns := [], harness := (true, "ba3ec8ecc31b6131b4d72352c86cf3463b51c2a018242ae3d651b0529cb9575b"), looks := true }, kinds := [], alts := [], laidByText := true, laidKinds := [.data, .data, .data, .data, .sentinel, .sentinel, .sentinel, .sentinel, .data, .data, .data, .data, .pinned], laidTests := true, laidLooks := .later }
def ReplyStreamCardSaid : Prop := Claim7.holds Tryd.pinned (.plain (OpenSpec.ofChange replyStreamSpec)) replyStreamCard

/-- THE TIED CARD OF 'usherlaw8.ReplyBare'. -/
def replyBareCard : Claim7 := { stood := { row := replyBareRow, standIns := [], harness := (true, "ba3ec8ecc31b6131b4d72352c86cf3463b51c2a018242ae3d651b0529cb9575b"), looks := true }, kinds := [], alts := [], laidByText := true, laidKinds := [.data, .data, .data, .data, .sentinel, .sentinel, .sentinel, .sentinel, .sentinel, .sentinel, .sentinel, .sentinel, .sentinel, .sentinel, .sentinel, .sentinel, .sentinel, .data, .data, .data, .data, .pinned], laidTests := true, laidLooks := .later }
def ReplyBareCardSaid : Prop := Claim7.holds Tryd.pinned (.plain (OpenSpec.ofChange replyBareSpec)) replyBareCard

/-- THE TIED CARD OF 'usherlaw8.ReplyMemory'. -/
def replyMemoryCard : Claim7 := { stood := { row := replyMemoryRow, standIns := [], harness := (true, "ba3ec8ecc31b6131b4d72352c86cf3463b51c2a018242ae3d651b0529cb9575b"), looks := true }, kinds := [], alts := [], laidByText := true, laidKinds := [.data, .data, .data, .data, .sentinel, .sentinel, .sentinel, .sentinel, .data, .data, .data, .data, .pinned], laidTests := true, laidLooks := .later }
def ReplyMemoryCardSaid : Prop := Claim7.holds Tryd.pinned (.plain (OpenSpec.ofChange replyMemorySpec)) replyMemoryCard

/-- THE SECOND FORM's CARD OF 'usherlaw8.ReplyRenderExact'. -/
def replyRenderExactUptoCard : Claim7 := { stood := { row := replyRenderExactUptoRow, standIns := [], harness := (true, "ba3ec8ecc31b6131b4d72352c86cf3463b51c2a018242ae3d651b0529cb9575b"), looks := true }, kinds := [], alts := [], laidByText := true, laidKinds := [.data, .data, .data, .sentinel, .sentinel, .sentinel, .sentinel, .sentinel, .sentinel, .sentinel, .sentinel, .sentinel, .sentinel, .sentinel, .sentinel, .sentinel, .data, .data, .data], laidTests := true, laidLooks := .later }
def ReplyRenderExactUptoCardSaid : Prop := Claim7.holds Tryd.pinned (.plain (OpenSpec.upto replyRenderExactSpec)) replyRenderExactUptoCard

/-- THE SECOND FORM's CARD OF 'usherlaw8.ReplyLines'. -/
def replyLinesUptoCard : Claim7 := { stood := { row := replyLinesUptoRow, standIns := [], harness := (true, "ba3ec8ecc31b6131b4d72352c86cf3463b51c2a018242ae3d651b0529cb9575b"), looks := true }, kinds := [], alts := [], laidByText := true, laidKinds := [.data, .data, .data, .sentinel, .sentinel, .sentinel, .sentinel, .sentinel, .sentinel, .sentinel, .sentinel, .sentinel, .sentinel, .sentinel, .sentinel, .sentinel, .data, .data, .data, .data], laidTests := true, laidLooks := .later }
def ReplyLinesUptoCardSaid : Prop := Claim7.holds Tryd.pinned (.plain (OpenSpec.upto replyLinesSpec)) replyLinesUptoCard

/-- THE SECOND FORM's CARD OF 'usherlaw6.FieldCookieBack'. -/
def fieldCookieBackUptoCard : Claim7 := { stood := { row := fieldCookieBackUptoRow, standIns := [], harness := (true, "ba3ec8ecc31b6131b4d72352c86cf3463b51c2a018242ae3d651b0529cb9575b"), looks := true }, kinds := [], alts := [], laidByText := true, laidKinds := [.data, .sentinel, .sentinel, .data, .pinned], laidTests := true, laidLooks := .later }
def FieldCookieBackUptoCardSaid : Prop := Claim7.holds Tryd.pinned (.plain (OpenSpec.upto fieldCookieBackSpec)) fieldCookieBackUptoCard

/-- THE SECOND FORM's CARD OF 'usherlaw6.FieldSafe'. -/
def fieldSafeUptoCard : Claim7 := { stood := { row := fieldSafeUptoRow, standIns := [], harness := (true, "ba3ec8ecc31b6131b4d72352c86cf3463b51c2a018242ae3d651b0529cb9575b"), looks := true }, kinds := [], alts := [], laidByText := true, laidKinds := [.data, .data, .data, .sentinel, .sentinel, .data, .data], laidTests := true, laidLooks := .later }
def FieldSafeUptoCardSaid : Prop := Claim7.holds Tryd.pinned (.plain (OpenSpec.upto fieldSafeSpec)) fieldSafeUptoCard

/-- THE SECOND FORM's CARD OF 'usherlaw8.ReplyReadExact'. -/
def replyReadExactUptoCard : Claim7 := { stood := { row := replyReadExactUptoRow, standIns := [], harness := (true, "ba3ec8ecc31b6131b4d72352c86cf3463b51c2a018242ae3d651b0529cb9575b"), looks := true }, kinds := [], alts := [], laidByText := true, laidKinds := [.data, .data, .data, .data, .sentinel, .sentinel, .sentinel, .sentinel, .sentinel, .sentinel, .sentinel, .sentinel, .sentinel, .sentinel, .sentinel, .sentinel, .sentinel, .data, .data, .data, .pinned], laidTests := true, laidLooks := .later }
def ReplyReadExactUptoCardSaid : Prop := Claim7.holds Tryd.pinned (.plain (OpenSpec.upto replyReadExactSpec)) replyReadExactUptoCard

/-- THE SECOND FORM's CARD OF 'usherlaw8.ReplyLimits'. -/
def replyLimitsUptoCard : Claim7 := { stood := { row := replyLimitsUptoRow, standIns := [], harness := (true, "ba3ec8ecc31b6131b4d72352c86cf3463b51c2a018242ae3d651b0529cb9575b"), looks := true }, kinds := [], alts := [], laidByText := true, laidKinds := [.data, .data, .data, .data, .sentinel, .sentinel, .sentinel, .sentinel, .sentinel, .sentinel, .sentinel, .sentinel, .sentinel, .sentinel, .sentinel, .sentinel, .sentinel, .data, .data, .data, .pinned], laidTests := true, laidLooks := .later }
def ReplyLimitsUptoCardSaid : Prop := Claim7.holds Tryd.pinned (.plain (OpenSpec.upto replyLimitsSpec)) replyLimitsUptoCard

/-- THE SECOND FORM's CARD OF 'usherlaw8.ReplyBack'. -/
def replyBackUptoCard : Claim7 := { stood := { row := replyBackUptoRow, standIns := [], harness := (true, "ba3ec8ecc31b6131b4d72352c86cf3463b51c2a018242ae3d651b0529cb9575b"), looks := true }, kinds := [], alts := [], laidByText := true, laidKinds := [.data, .data, .data, .data, .sentinel, .sentinel, .sentinel, .sentinel, .data, .data, .data, .data, .pinned], laidTests := true, laidLooks := .later }
def ReplyBackUptoCardSaid : Prop := Claim7.holds Tryd.pinned (.plain (OpenSpec.upto replyBackSpec)) replyBackUptoCard

/-- THE SECOND FORM's CARD OF 'usherlaw8.ReplyCut'. -/
def replyCutUptoCard : Claim7 := { stood := { row := replyCutUptoRow, standIns := [], harness := (true, "ba3ec8ecc31b6131b4d72352c86cf3463b51c2a018242ae3d651b0529cb9575b"), looks := true }, kinds := [], alts := [], laidByText := true, laidKinds := [.data, .data, .data, .data, .sentinel, .sentinel, .sentinel, .sentinel, .sentinel, .sentinel, .sentinel, .sentinel, .sentinel, .sentinel, .sentinel, .sentinel, .sentinel, .data, .data, .data, .data, .pinned], laidTests := true, laidLooks := .later }
def ReplyCutUptoCardSaid : Prop := Claim7.holds Tryd.pinned (.plain (OpenSpec.upto replyCutSpec)) replyCutUptoCard

/-- THE SECOND FORM's CARD OF 'usherlaw8.ReplyOnly'. -/
def replyOnlyUptoCard : Claim7 := { stood := { row := replyOnlyUptoRow, standIns := [], harness := (true, "ba3ec8ecc31b6131b4d72352c86cf3463b51c2a018242ae3d651b0529cb9575b"), looks := true }, kinds := [], alts := [], laidByText := true, laidKinds := [.data, .data, .data, .data, .sentinel, .sentinel, .sentinel, .sentinel, .sentinel, .sentinel, .sentinel, .sentinel, .sentinel, .sentinel, .sentinel, .sentinel, .sentinel, .data, .data, .data, .pinned], laidTests := true, laidLooks := .later }
def ReplyOnlyUptoCardSaid : Prop := Claim7.holds Tryd.pinned (.plain (OpenSpec.upto replyOnlySpec)) replyOnlyUptoCard

/-- THE SECOND FORM's CARD OF 'usherlaw8.ReplyStream'. -/
def replyStreamUptoCard : Claim7 := { stood := { row := replyStreamUptoRow, standIns := [], harness := (true, "ba3ec8ecc31b6131b4d72352c86cf3463b51c2a018242ae3d651b0529cb9575b"), looks := true }, kinds := [], alts := [], laidByText := true, laidKinds := [.data, .data, .data, .data, .sentinel, .sentinel, .sentinel, .sentinel, .data, .data, .data, .data, .pinned], laidTests := true, laidLooks := .later }
def ReplyStreamUptoCardSaid : Prop := Claim7.holds Tryd.pinned (.plain (OpenSpec.upto replyStreamSpec)) replyStreamUptoCard

/-- THE SECOND FORM's CARD OF 'usherlaw8.ReplyBare'. -/
def replyBareUptoCard : Claim7 := { stood := { row := replyBareUptoRow, standIns := [], harness := (true, "ba3ec8ecc31b6131b4d72352c86cf3463b51c2a018242ae3d651b0529cb9575b"), looks := true }, kinds := [], alts := [], laidByText := true, laidKinds := [.data, .data, .data, .data, .sentinel, .sentinel, .sentinel, .sentinel, .sentinel, .sentinel, .sentinel, .sentinel, .sentinel, .sentinel, .sentinel, .sentinel, .sentinel, .data, .data, .data, .data, .pinned], laidTests := true, laidLooks := .later }
def ReplyBareUptoCardSaid : Prop := Claim7.holds Tryd.pinned (.plain (OpenSpec.upto replyBareSpec)) replyBareUptoCard

/-- THE SECOND FORM's CARD OF 'usherlaw8.ReplyMemory'. -/
def replyMemoryUptoCard : Claim7 := { stood := { row := replyMemoryUptoRow, standIns := [], harness := (true, "ba3ec8ecc31b6131b4d72352c86cf3463b51c2a018242ae3d651b0529cb9575b"), looks := true }, kinds := [], alts := [], laidByText := true, laidKinds := [.data, .data, .data, .data, .sentinel, .sentinel, .sentinel, .sentinel, .data, .data, .data, .data, .pinned], laidTests := true, laidLooks := .later }
def ReplyMemoryUptoCardSaid : Prop := Claim7.holds Tryd.pinned (.plain (OpenSpec.upto replyMemorySpec)) replyMemoryUptoCard
end Rows
end Go.Proofs.YtdlfdmbaejhaaaaDoor
