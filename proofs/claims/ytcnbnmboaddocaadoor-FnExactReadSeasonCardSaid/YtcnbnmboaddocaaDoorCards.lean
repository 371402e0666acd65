/-
  DERIVED. GIVEN WITH THE SEED: THE CARDS: each row of YtcnbnmboaddocaaDoorRows.lean that lists a variable, with what it lists TIED to the program's text (the seventh form; the later family's looks); each row that meets fmt, with fmt's text TOLD by the authors' own Lean function (tested against real Go, not proved from fmt's source: count such statements apart). THE CARD IS WHAT COUNTS. Prove the row's statement (the work); the ties are given (YtcnbnmboaddocaaDoorTie.lean); close each card by the builder's one call (the guide's Derived/Test/ToyasCard.lean, 'card_holds'). Laid BY PROGRAM, IN A SANDBOX (cutbox-door.mjs). By AI agents, Wed Nov 11 2026. No macro, syntax, notation, axiom, sorry.
-/
import Derived.Test.YtcnbnmboaddocaaDoorRows
import GoSem.ClaimSeven
namespace Go.Proofs.YtcnbnmboaddocaaDoor
namespace Rows

/-- THE TIED CARD OF 'laws.FnExactReadAct'. -/
def fnExactReadActCard : Claim7 := { stood := { row := fnExactReadActRow, standIns := [], harness := (true, "d50944d44c6cfb7529ea33136f3d22a438110792dda9c6cbc181b6f662fc93a2"), looks := true }, kinds := [], alts := [], laidByText := true, laidKinds := [.data, .data, .data, .data, .sentinel, .sentinel, .pinned], laidTests := true, laidLooks := .later }
def FnExactReadActCardSaid : Prop := Claim7.holds Tryd.pinned (.plain (OpenSpec.ofChange fnExactReadActSpec)) fnExactReadActCard

/-- THE TIED CARD OF 'laws.FnExactReadSeason'. -/
def fnExactReadSeasonCard : Claim7 := { stood := { row := fnExactReadSeasonRow, standIns := [], harness := (true, "d50944d44c6cfb7529ea33136f3d22a438110792dda9c6cbc181b6f662fc93a2"), looks := true }, kinds := [], alts := [], laidByText := true, laidKinds := [.data, .data, .data, .data, .sentinel, .sentinel, .pinned], laidTests := true, laidLooks := .later }
def FnExactReadSeasonCardSaid : Prop := Claim7.holds Tryd.pinned (.plain (OpenSpec.ofChange fnExactReadSeasonSpec)) fnExactReadSeasonCard

/-- THE SECOND FORM's CARD OF 'laws.FnExactReadAct'. -/
def fnExactReadActUptoCard : Claim7 := { stood := { row := fnExactReadActUptoRow, standIns := [], harness := (true, "d50944d44c6cfb7529ea33136f3d22a438110792dda9c6cbc181b6f662fc93a2"), looks := true }, kinds := [], alts := [], laidByText := true, laidKinds := [.data, .data, .data, .data, .sentinel, .sentinel, .pinned], laidTests := true, laidLooks := .later }
def FnExactReadActUptoCardSaid : Prop := Claim7.holds Tryd.pinned (.plain (OpenSpec.upto fnExactReadActSpec)) fnExactReadActUptoCard

/-- THE SECOND FORM's CARD OF 'laws.FnExactReadSeason'. -/
def fnExactReadSeasonUptoCard : Claim7 := { stood := { row := fnExactReadSeasonUptoRow, standIns := [], harness := (true, "d50944d44c6cfb7529ea33136f3d22a438110792dda9c6cbc181b6f662fc93a2"), looks := true }, kinds := [], alts := [], laidByText := true, laidKinds := [.data, .data, .data, .data, .sentinel, .sentinel, .pinned], laidTests := true, laidLooks := .later }
def FnExactReadSeasonUptoCardSaid : Prop := Claim7.holds Tryd.pinned (.plain (OpenSpec.upto fnExactReadSeasonSpec)) fnExactReadSeasonUptoCard
end Rows
end Go.Proofs.YtcnbnmboaddocaaDoor
