/-
  DERIVED. GIVEN WITH THE SEED: THE CARDS: each row of YtchoomlibgefbaaGreatDoorRows.lean that lists a variable, with what it lists TIED to the program's text (the seventh form; the later family's looks); each row that meets fmt, with fmt's text TOLD by the authors' own Lean function (tested against real Go, not proved from fmt's source: count such statements apart). THE CARD IS WHAT COUNTS. Prove the row's statement (the work); the ties are given (YtchoomlibgefbaaGreatDoorTie.lean); close each card by the builder's one call (the guide's Derived/Test/ToyasCard.lean, 'card_holds'). Laid BY PROGRAM, IN A SANDBOX (cutbox-door.mjs). By AI agents, Wed Nov 11 2026. No macro, syntax, notation, axiom, sorry.
-/
import Derived.Test.YtchoomlibgefbaaGreatDoorRows
import GoSem.ClaimSeven
namespace Go.Proofs.YtchoomlibgefbaaGreatDoor
namespace Rows

/-- THE TIED CARD OF 'laws.FnExactCatchUpLeft'. -/
def fnExactCatchUpLeftCard : Claim7 := { stood := { row := fnExactCatchUpLeftRow, standIns := [], harness := (true, "4cce1a3b19856ee623a6dc9d9b01a02fea81d2a094da0de52781ba65e1e83923"), looks := false }, kinds := [], alts := [], laidByText := true, laidKinds := [.data, .data, .data], laidTests := true, laidLooks := .later }
def FnExactCatchUpLeftCardSaid : Prop := Claim7.holds Tryz.pinned (.plain (OpenSpec.ofChange fnExactCatchUpLeftSpec)) fnExactCatchUpLeftCard

/-- THE TIED CARD OF 'laws.FnExactIsCaughtUp'. -/
def fnExactIsCaughtUpCard : Claim7 := { stood := { row := fnExactIsCaughtUpRow, standIns := [], harness := (true, "4cce1a3b19856ee623a6dc9d9b01a02fea81d2a094da0de52781ba65e1e83923"), looks := false }, kinds := [], alts := [], laidByText := true, laidKinds := [.data, .data, .data], laidTests := true, laidLooks := .later }
def FnExactIsCaughtUpCardSaid : Prop := Claim7.holds Tryz.pinned (.plain (OpenSpec.ofChange fnExactIsCaughtUpSpec)) fnExactIsCaughtUpCard

/-- THE TIED CARD OF 'laws.FnExactCatchUpStep'. -/
def fnExactCatchUpStepCard : Claim7 := { stood := { row := fnExactCatchUpStepRow, standIns := [], harness := (true, "4cce1a3b19856ee623a6dc9d9b01a02fea81d2a094da0de52781ba65e1e83923"), looks := false }, kinds := [], alts := [], laidByText := true, laidKinds := [.data, .data, .data], laidTests := true, laidLooks := .later }
def FnExactCatchUpStepCardSaid : Prop := Claim7.holds Tryz.pinned (.plain (OpenSpec.ofChange fnExactCatchUpStepSpec)) fnExactCatchUpStepCard

/-- THE TIED CARD OF 'laws.FnExactIsClean'. -/
def fnExactIsCleanCard : Claim7 := { stood := { row := fnExactIsCleanRow, standIns := [], harness := (true, "4cce1a3b19856ee623a6dc9d9b01a02fea81d2a094da0de52781ba65e1e83923"), looks := false }, kinds := [], alts := [], laidByText := true, laidKinds := [.data, .data, .data], laidTests := true, laidLooks := .later }
def FnExactIsCleanCardSaid : Prop := Claim7.holds Tryz.pinned (.plain (OpenSpec.ofChange fnExactIsCleanSpec)) fnExactIsCleanCard

/-- THE SECOND FORM's CARD OF 'laws.FnExactCatchUpLeft'. -/
def fnExactCatchUpLeftUptoCard : Claim7 := { stood := { row := fnExactCatchUpLeftUptoRow, standIns := [], harness := (true, "4cce1a3b19856ee623a6dc9d9b01a02fea81d2a094da0de52781ba65e1e83923"), looks := false }, kinds := [], alts := [], laidByText := true, laidKinds := [.data, .data, .data], laidTests := true, laidLooks := .later }
def FnExactCatchUpLeftUptoCardSaid : Prop := Claim7.holds Tryz.pinned (.plain (OpenSpec.upto fnExactCatchUpLeftSpec)) fnExactCatchUpLeftUptoCard

/-- THE SECOND FORM's CARD OF 'laws.FnExactIsCaughtUp'. -/
def fnExactIsCaughtUpUptoCard : Claim7 := { stood := { row := fnExactIsCaughtUpUptoRow, standIns := [], harness := (true, "4cce1a3b19856ee623a6dc9d9b01a02fea81d2a094da0de52781ba65e1e83923"), looks := false }, kinds := [], alts := [], laidByText := true, laidKinds := [.data, .data, .data], laidTests := true, laidLooks := .later }
def FnExactIsCaughtUpUptoCardSaid : Prop := Claim7.holds Tryz.pinned (.plain (OpenSpec.upto fnExactIsCaughtUpSpec)) fnExactIsCaughtUpUptoCard

/-- THE SECOND FORM's CARD OF 'laws.FnExactCatchUpStep'. -/
def fnExactCatchUpStepUptoCard : Claim7 := { stood := { row := fnExactCatchUpStepUptoRow, standIns := [], harness := (true, "4cce1a3b19856ee623a6dc9d9b01a02fea81d2a094da0de52781ba65e1e83923"), looks := false }, kinds := [], alts := [], laidByText := true, laidKinds := [.data, .data, .data], laidTests := true, laidLooks := .later }
def FnExactCatchUpStepUptoCardSaid : Prop := Claim7.holds Tryz.pinned (.plain (OpenSpec.upto fnExactCatchUpStepSpec)) fnExactCatchUpStepUptoCard

/-- THE SECOND FORM's CARD OF 'laws.FnExactIsClean'. -/
def fnExactIsCleanUptoCard : Claim7 := { stood := { row := fnExactIsCleanUptoRow, standIns := [], harness := (true, "4cce1a3b19856ee623a6dc9d9b01a02fea81d2a094da0de52781ba65e1e83923"), looks := false }, kinds := [], alts := [], laidByText := true, laidKinds := [.data, .data, .data], laidTests := true, laidLooks := .later }
def FnExactIsCleanUptoCardSaid : Prop := Claim7.holds Tryz.pinned (.plain (OpenSpec.upto fnExactIsCleanSpec)) fnExactIsCleanUptoCard
end Rows
end Go.Proofs.YtchoomlibgefbaaGreatDoor
