/-
  DERIVED. GIVEN WITH THE SEED: THE CARDS: each row of YtppphpnimecgpaaDoorRows.lean that lists a variable, with what it lists TIED to the program's text (the seventh form; the later family's looks); each row that meets fmt, with fmt's text TOLD by the authors' own Lean function (tested against real Go, not proved from fmt's source: count such statements apart). THE CARD IS WHAT COUNTS. Prove the row's statement (the work); the ties are given (YtppphpnimecgpaaDoorTie.lean); close each card by the builder's one call (the guide's Derived/Test/ToyasCard.lean, 'card_holds'). Laid BY PROGRAM, IN A SANDBOX (cutbox-door.mjs). By AI agents, Wed Nov 11 2026. No macro, syntax, notation, axiom, sorry.
-/
import Derived.Test.YtppphpnimecgpaaDoorRows
import GoSem.ClaimSeven
namespace Go.Proofs.YtppphpnimecgpaaDoor
namespace Rows

/-- THE TIED CARD OF 'laws.FnExactFaultText'. -/
def fnExactFaultTextCard : Claim7 := { stood := { row := fnExactFaultTextRow, standIns := [], harness := (true, "a596cc12cbf9e954b4b94334d8f7ef27087753959452f3fe3d01086f9002a10f"), looks := false }, kinds := [], alts := [], laidByText := true, laidKinds := [.data, .data, .data], laidTests := true, laidLooks := .later }
def FnExactFaultTextCardSaid : Prop := Claim7.holds Tryd.pinned (.plain (OpenSpec.ofChange fnExactFaultTextSpec)) fnExactFaultTextCard

/-- THE TIED CARD OF 'laws.FnExactDateText'. -/
def fnExactDateTextCard : Claim7 := { stood := { row := fnExactDateTextRow, standIns := [], harness := (true, "a596cc12cbf9e954b4b94334d8f7ef27087753959452f3fe3d01086f9002a10f"), looks := false }, kinds := [], alts := [], laidByText := true, laidKinds := [.data, .data, .data], laidTests := true, laidLooks := .later }
def FnExactDateTextCardSaid : Prop := Claim7.holds Tryd.pinned (.plain (OpenSpec.ofChange fnExactDateTextSpec)) fnExactDateTextCard

/-- THE TIED CARD OF 'laws.FnExactCamText'. -/
def fnExactCamTextCard : Claim7 := { stood := { row := fnExactCamTextRow, standIns := [], harness := (true, "a596cc12cbf9e954b4b94334d8f7ef27087753959452f3fe3d01086f9002a10f"), looks := false }, kinds := [], alts := [], laidByText := true, laidKinds := [.data, .data, .data], laidTests := true, laidLooks := .later }
def FnExactCamTextCardSaid : Prop := Claim7.holds Tryd.pinned (.plain (OpenSpec.ofChange fnExactCamTextSpec)) fnExactCamTextCard

/-- THE TIED CARD OF 'laws.FnExactCalendarNamed'. -/
def fnExactCalendarNamedCard : Claim7 := { stood := { row := fnExactCalendarNamedRow, standIns := [], harness := (true, "a596cc12cbf9e954b4b94334d8f7ef27087753959452f3fe3d01086f9002a10f"), looks := false }, kinds := [], alts := [], laidByText := true, laidKinds := [.data, .data, .data], laidTests := true, laidLooks := .later }
def FnExactCalendarNamedCardSaid : Prop := Claim7.holds Tryd.pinned (.plain (OpenSpec.ofChange fnExactCalendarNamedSpec)) fnExactCalendarNamedCard

/-- THE TIED CARD OF 'laws.FnExactCalendarText'. -/
def fnExactCalendarTextCard : Claim7 := { stood := { row := fnExactCalendarTextRow, standIns := [], harness := (true, "a596cc12cbf9e954b4b94334d8f7ef27087753959452f3fe3d01086f9002a10f"), looks := false }, kinds := [], alts := [], laidByText := true, laidKinds := [.data, .data, .data], laidTests := true, laidLooks := .later }
def FnExactCalendarTextCardSaid : Prop := Claim7.holds Tryd.pinned (.plain (OpenSpec.ofChange fnExactCalendarTextSpec)) fnExactCalendarTextCard

/-- THE SECOND FORM's CARD OF 'laws.FnExactFaultText'. -/
def fnExactFaultTextUptoCard : Claim7 := { stood := { row := fnExactFaultTextUptoRow, standIns := [], harness := (true, "a596cc12cbf9e954b4b94334d8f7ef27087753959452f3fe3d01086f9002a10f"), looks := false }, kinds := [], alts := [], laidByText := true, laidKinds := [.data, .data, .data], laidTests := true, laidLooks := .later }
def FnExactFaultTextUptoCardSaid : Prop := Claim7.holds Tryd.pinned (.plain (OpenSpec.upto fnExactFaultTextSpec)) fnExactFaultTextUptoCard

/-- THE SECOND FORM's CARD OF 'laws.FnExactDateText'. -/
def fnExactDateTextUptoCard : Claim7 := { stood := { row := fnExactDateTextUptoRow, standIns := [], harness := (true, "a596cc12cbf9e954b4b94334d8f7ef27087753959452f3fe3d01086f9002a10f"), looks := false }, kinds := [], alts := [], laidByText := true, laidKinds := [.data, .data, .data], laidTests := true, laidLooks := .later }
def FnExactDateTextUptoCardSaid : Prop := Claim7.holds Tryd.pinned (.plain (OpenSpec.upto fnExactDateTextSpec)) fnExactDateTextUptoCard

/-- THE SECOND FORM's CARD OF 'laws.FnExactCamText'. -/
def fnExactCamTextUptoCard : Claim7 := { stood := { row := fnExactCamTextUptoRow, standIns := [], harness := (true, "a596cc12cbf9e954b4b94334d8f7ef27087753959452f3fe3d01086f9002a10f"), looks := false }, kinds := [], alts := [], laidByText := true, laidKinds := [.data, .data, .data], laidTests := true, laidLooks := .later }
def FnExactCamTextUptoCardSaid : Prop := Claim7.holds Tryd.pinned (.plain (OpenSpec.upto fnExactCamTextSpec)) fnExactCamTextUptoCard

/-- THE SECOND FORM's CARD OF 'laws.FnExactCalendarNamed'. -/
def fnExactCalendarNamedUptoCard : Claim7 := { stood := { row := fnExactCalendarNamedUptoRow, standIns := [], harness := (true, "a596cc12cbf9e954b4b94334d8f7ef27087753959452f3fe3d01086f9002a10f"), looks := false }, kinds := [], alts := [], laidByText := true, laidKinds := [.data, .data, .data], laidTests := true, laidLooks := .later }
def FnExactCalendarNamedUptoCardSaid : Prop := Claim7.holds Tryd.pinned (.plain (OpenSpec.upto fnExactCalendarNamedSpec)) fnExactCalendarNamedUptoCard

/-- THE SECOND FORM's CARD OF 'laws.FnExactCalendarText'. -/
def fnExactCalendarTextUptoCard : Claim7 := { stood := { row := fnExactCalendarTextUptoRow, standIns := [], harness := (true, "a596cc12cbf9e954b4b94334d8f7ef27087753959452f3fe3d01086f9002a10f"), looks := false }, kinds := [], alts := [], laidByText := true, laidKinds := [.data, .data, .data], laidTests := true, laidLooks := .later }
def FnExactCalendarTextUptoCardSaid : Prop := Claim7.holds Tryd.pinned (.plain (OpenSpec.upto fnExactCalendarTextSpec)) fnExactCalendarTextUptoCard
end Rows
end Go.Proofs.YtppphpnimecgpaaDoor
