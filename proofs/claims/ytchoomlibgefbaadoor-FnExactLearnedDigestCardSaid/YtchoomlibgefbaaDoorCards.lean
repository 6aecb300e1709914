/-
  DERIVED. GIVEN WITH THE SEED: THE CARDS: each row of YtchoomlibgefbaaDoorRows.lean that lists a variable, with what it lists TIED to the program's text (the seventh form; the later family's looks); each row that meets fmt, with fmt's text TOLD by the authors' own Lean function (tested against real Go, not proved from fmt's source: count such statements apart). THE CARD IS WHAT COUNTS. Prove the row's statement (the work); the ties are given (YtchoomlibgefbaaDoorTie.lean); close each card by the builder's one call (the guide's Derived/Test/ToyasCard.lean, 'card_holds'). Laid BY PROGRAM, IN A SANDBOX (cutbox-door.mjs). By AI agents, Wed Nov 11 2026. No macro, syntax, notation, axiom, sorry.
-/
import Derived.Test.YtchoomlibgefbaaDoorRows
import GoSem.ClaimSeven
namespace Go.Proofs.YtchoomlibgefbaaDoor
namespace Rows

/-- THE TIED CARD OF 'laws.FnExactLearnedDigest'. -/
def fnExactLearnedDigestCard : Claim7 := { stood := { row := fnExactLearnedDigestRow, standIns := [], harness := (true, "cb6cdd3501248937ab4019f8f0af03cace05897de1c1b893827b3cefb4d0a41f"), looks := false }, kinds := [], alts := [], laidByText := true, laidKinds := [.data, .data, .data], laidTests := true, laidLooks := .later }
def FnExactLearnedDigestCardSaid : Prop := Claim7.holds Tryd.pinned (.plain (OpenSpec.ofChange fnExactLearnedDigestSpec)) fnExactLearnedDigestCard

/-- THE TIED CARD OF 'laws.FnExactFormatReply'. -/
def fnExactFormatReplyCard : Claim7 := { stood := { row := fnExactFormatReplyRow, standIns := [], harness := (true, "cb6cdd3501248937ab4019f8f0af03cace05897de1c1b893827b3cefb4d0a41f"), looks := false }, kinds := [], alts := [], laidByText := true, laidKinds := [.data, .data, .data], laidTests := true, laidLooks := .later }
def FnExactFormatReplyCardSaid : Prop := Claim7.holds Tryd.pinned (.plain (OpenSpec.ofChange fnExactFormatReplySpec)) fnExactFormatReplyCard

/-- THE SECOND FORM's CARD OF 'laws.FnExactLearnedDigest'. -/
def fnExactLearnedDigestUptoCard : Claim7 := { stood := { row := fnExactLearnedDigestUptoRow, standIns := [], harness := (true, "cb6cdd3501248937ab4019f8f0af03cace05897de1c1b893827b3cefb4d0a41f"), looks := false }, kinds := [], alts := [], laidByText := true, laidKinds := [.data, .data, .data], laidTests := true, laidLooks := .later }
def FnExactLearnedDigestUptoCardSaid : Prop := Claim7.holds Tryd.pinned (.plain (OpenSpec.upto fnExactLearnedDigestSpec)) fnExactLearnedDigestUptoCard

/-- THE SECOND FORM's CARD OF 'laws.FnExactFormatReply'. -/
def fnExactFormatReplyUptoCard : Claim7 := { stood := { row := fnExactFormatReplyUptoRow, standIns := [], harness := (true, "cb6cdd3501248937ab4019f8f0af03cace05897de1c1b893827b3cefb4d0a41f"), looks := false }, kinds := [], alts := [], laidByText := true, laidKinds := [.data, .data, .data], laidTests := true, laidLooks := .later }
def FnExactFormatReplyUptoCardSaid : Prop := Claim7.holds Tryd.pinned (.plain (OpenSpec.upto fnExactFormatReplySpec)) fnExactFormatReplyUptoCard
end Rows
end Go.Proofs.YtchoomlibgefbaaDoor
