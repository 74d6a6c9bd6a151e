/-
  DERIVED. GIVEN WITH THE SEED: THE CARDS: each row of YtpohhnihgegmfaaDoorRows.lean that lists a variable, with what it lists TIED to the program's text (the seventh form; the later family's looks); each row that meets fmt, with fmt's text TOLD by the authors' own Lean function (tested against real Go, not proved from fmt's source: count such statements apart). THE CARD IS WHAT COUNTS. Prove the row's statement (the work); the ties are given (YtpohhnihgegmfaaDoorTie.lean); close each card by the builder's one call (the guide's Derived/Test/ToyasCard.lean, 'card_holds'). Laid BY PROGRAM, IN A SANDBOX (cutbox-door.mjs). By AI agents, Wed Nov 11 2026. No macro, syntax, notation, axiom, sorry.
-/
import Derived.Test.YtpohhnihgegmfaaDoorRows
import GoSem.ClaimSeven
namespace Go.Proofs.YtpohhnihgegmfaaDoor
namespace Rows

/-- THE TIED CARD OF 'laws.FnExactReadDate'. -/
def fnExactReadDateCard : Claim7 := { stood := { row := fnExactReadDateRow, standIns := [], harness := (true, "ceaa0bb54375fc402e36c8155063ee0883907ae2e267ad4e3d21312cfe6fe000"), looks := true }, kinds := [], alts := [], laidByText := true, laidKinds := [.data, .data, .data, .data, .sentinel, .sentinel, .pinned], laidTests := true, laidLooks := .later }
def FnExactReadDateCardSaid : Prop := Claim7.holds Tryd.pinned (.plain (OpenSpec.ofChange fnExactReadDateSpec)) fnExactReadDateCard

/-- THE TIED CARD OF 'laws.FnExactReadCalendar'. -/
def fnExactReadCalendarCard : Claim7 := { stood := { row := fnExactReadCalendarRow, standIns := [], harness := (true, "ceaa0bb54375fc402e36c8155063ee0883907ae2e267ad4e3d21312cfe6fe000"), looks := true }, kinds := [], alts := [], laidByText := true, laidKinds := [.data, .data, .data, .data, .sentinel, .sentinel, .pinned], laidTests := true, laidLooks := .later }
def FnExactReadCalendarCardSaid : Prop := Claim7.holds Tryd.pinned (.plain (OpenSpec.ofChange fnExactReadCalendarSpec)) fnExactReadCalendarCard

/-- THE SECOND FORM's CARD OF 'laws.FnExactReadDate'. -/
def fnExactReadDateUptoCard : Claim7 := { stood := { row := fnExactReadDateUptoRow, standIns := [], harness := (true, "ceaa0bb54375fc402e36c8155063ee0883907ae2e267ad4e3d21312cfe6fe000"), looks := true }, kinds := [], alts := [], laidByText := true, laidKinds := [.data, .data, .data, .data, .sentinel, .sentinel, .pinned], laidTests := true, laidLooks := .later }
def FnExactReadDateUptoCardSaid : Prop := Claim7.holds Tryd.pinned (.plain (OpenSpec.upto fnExactReadDateSpec)) fnExactReadDateUptoCard

/-- THE SECOND FORM's CARD OF 'laws.FnExactReadCalendar'. -/
def fnExactReadCalendarUptoCard : Claim7 := { stood := { row := fnExactReadCalendarUptoRow, standIns := [], harness := (true, "ceaa0bb54375fc402e36c8155063ee0883907ae2e267ad4e3d21312cfe6fe000"), looks := true }, kinds := [], alts := [], laidByText := true, laidKinds := [.data, .data, .data, .data, .sentinel, .sentinel, .pinned], laidTests := true, laidLooks := .later }
def FnExactReadCalendarUptoCardSaid : Prop := Claim7.holds Tryd.pinned (.plain (OpenSpec.upto fnExactReadCalendarSpec)) fnExactReadCalendarUptoCard
end Rows
end Go.Proofs.YtpohhnihgegmfaaDoor
