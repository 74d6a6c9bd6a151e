/-
  No cell of these rows narrows 'for every input' (looked for: loops, veiled, ifaces, maps, wideKeys, modest, calm, conditions, laid).
  DERIVED. THE GIVEN ROWS OF THIS SEAT. 22 by the template 'for every input the law returns true; each argument reads behind the call as it read before'; 0 by the template 'total and deterministic' (their statements: YthlfnpgohbaonaaTotals.lean).
  GIVEN WITH THE SEED: the statements are not yours to turn. If you find one false, say at which input.
  Laid BY PROGRAM, IN A SANDBOX (cutbox-rows.mjs): the forced cells as the released guide's own fill.sh prints them over the translation f86c5e78104765ab… (all of the seat's roots in one cut). By AI agents, Wed Nov 11 2026. No macro, syntax, notation, axiom, sorry.
-/
import Derived.Test.YthlfnpgohbaonaaChecked
import GoSem.Claim
import GoSem.ClaimJoined
import GoSem.ClaimMapViews
import Derived.JoinedTies
import Derived.KernelRfl
namespace Go.Proofs.Ythlfnpgohbaonaa
/- THE CELL 'sum', in the pinned program and in every row, IS THE sha256 OF THE DUMP (.gsa) THAT YthlfnpgohbaonaaProg.lean LOADS. Nothing in Lean hashes anything: it is a label: what it is worth is what the hold of that sum in a sandbox is worth. -/
noncomputable def Try.pinned : Pinned := { name := "ythlfnpgohbaonaa", sum := "f86c5e78104765abd26081c9d5afdee102ffa69621d49baefb8add04e0ed0f88", checked := Try.checked }
namespace Rows
def none {H : Type} : Left H := { results := [], args := [] }

/-- 'laws.FnExactValidCam': WHATEVER THE INPUT: true; the input reads as it did. -/
def fnExactValidCamSpec : ChangeSpec := { name := "fnExactValidCam", fn := fun _ => fun
  | [d] => { results := [.lit (.bool true)], args := [d] }
  | _ => none }
def fnExactValidCamRow : OpenClaim := { program := "ythlfnpgohbaonaa", sum := "f86c5e78104765abd26081c9d5afdee102ffa69621d49baefb8add04e0ed0f88", func := "loop.example/g00921/laws.FnExactValidCam", spec := "fnExactValidCam", apart := false }
def FnExactValidCamSaid : Prop := fnExactValidCamRow.holds Try.pinned (OpenSpec.ofChange fnExactValidCamSpec)

/-- ITS FALSE NEIGHBOUR: 'it returns false'. Refute it at one input. -/
def fnExactValidCamWrong : ChangeSpec := { name := "fnExactValidCam", fn := fun _ => fun
  | [d] => { results := [.lit (.bool false)], args := [d] }
  | _ => none }
def FnExactValidCamWrongFalsely : Prop := fnExactValidCamRow.holds Try.pinned (OpenSpec.ofChange fnExactValidCamWrong)

/-- 'laws.FnExactCalendarNames': WHATEVER THE INPUT: true; the input reads as it did. -/
def fnExactCalendarNamesSpec : ChangeSpec := { name := "fnExactCalendarNames", fn := fun _ => fun
  | [] => { results := [.lit (.bool true)], args := [] }
  | _ => none }
def fnExactCalendarNamesRow : OpenClaim := { program := "ythlfnpgohbaonaa", sum := "f86c5e78104765abd26081c9d5afdee102ffa69621d49baefb8add04e0ed0f88", func := "loop.example/g00921/laws.FnExactCalendarNames", spec := "fnExactCalendarNames", apart := false }
def FnExactCalendarNamesSaid : Prop := fnExactCalendarNamesRow.holds Try.pinned (OpenSpec.ofChange fnExactCalendarNamesSpec)

/-- ITS FALSE NEIGHBOUR: 'it returns false'. Refute it at one input. -/
def fnExactCalendarNamesWrong : ChangeSpec := { name := "fnExactCalendarNames", fn := fun _ => fun
  | [] => { results := [.lit (.bool false)], args := [] }
  | _ => none }
def FnExactCalendarNamesWrongFalsely : Prop := fnExactCalendarNamesRow.holds Try.pinned (OpenSpec.ofChange fnExactCalendarNamesWrong)

/-- 'laws.FnExactCompareDate': WHATEVER THE INPUT: true; the input reads as it did. -/
def fnExactCompareDateSpec : ChangeSpec := { name := "fnExactCompareDate", fn := fun _ => fun
  | [d1, d2] => { results := [.lit (.bool true)], args := [d1, d2] }
  | _ => none }
def fnExactCompareDateRow : OpenClaim := { program := "ythlfnpgohbaonaa", sum := "f86c5e78104765abd26081c9d5afdee102ffa69621d49baefb8add04e0ed0f88", func := "loop.example/g00921/laws.FnExactCompareDate", spec := "fnExactCompareDate", apart := false }
def FnExactCompareDateSaid : Prop := fnExactCompareDateRow.holds Try.pinned (OpenSpec.ofChange fnExactCompareDateSpec)

/-- ITS FALSE NEIGHBOUR: 'it returns false'. Refute it at one input. -/
def fnExactCompareDateWrong : ChangeSpec := { name := "fnExactCompareDate", fn := fun _ => fun
  | [d1, d2] => { results := [.lit (.bool false)], args := [d1, d2] }
  | _ => none }
def FnExactCompareDateWrongFalsely : Prop := fnExactCompareDateRow.holds Try.pinned (OpenSpec.ofChange fnExactCompareDateWrong)

/-- 'laws.FnExactCamPeriod': WHATEVER THE INPUT: true; the input reads as it did. -/
def fnExactCamPeriodSpec : ChangeSpec := { name := "fnExactCamPeriod", fn := fun _ => fun
  | [d] => { results := [.lit (.bool true)], args := [d] }
  | _ => none }
def fnExactCamPeriodRow : OpenClaim := { program := "ythlfnpgohbaonaa", sum := "f86c5e78104765abd26081c9d5afdee102ffa69621d49baefb8add04e0ed0f88", func := "loop.example/g00921/laws.FnExactCamPeriod", spec := "fnExactCamPeriod", apart := false }
def FnExactCamPeriodSaid : Prop := fnExactCamPeriodRow.holds Try.pinned (OpenSpec.ofChange fnExactCamPeriodSpec)

/-- ITS FALSE NEIGHBOUR: 'it returns false'. Refute it at one input. -/
def fnExactCamPeriodWrong : ChangeSpec := { name := "fnExactCamPeriod", fn := fun _ => fun
  | [d] => { results := [.lit (.bool false)], args := [d] }
  | _ => none }
def FnExactCamPeriodWrongFalsely : Prop := fnExactCamPeriodRow.holds Try.pinned (OpenSpec.ofChange fnExactCamPeriodWrong)

/-- 'laws.FnExactSameCalendar': WHATEVER THE INPUT: true; the input reads as it did. -/
def fnExactSameCalendarSpec : ChangeSpec := { name := "fnExactSameCalendar", fn := fun _ => fun
  | [d1, d2] => { results := [.lit (.bool true)], args := [d1, d2] }
  | _ => none }
def fnExactSameCalendarRow : OpenClaim := { program := "ythlfnpgohbaonaa", sum := "f86c5e78104765abd26081c9d5afdee102ffa69621d49baefb8add04e0ed0f88", func := "loop.example/g00921/laws.FnExactSameCalendar", spec := "fnExactSameCalendar", apart := false }
def FnExactSameCalendarSaid : Prop := fnExactSameCalendarRow.holds Try.pinned (OpenSpec.ofChange fnExactSameCalendarSpec)

/-- ITS FALSE NEIGHBOUR: 'it returns false'. Refute it at one input. -/
def fnExactSameCalendarWrong : ChangeSpec := { name := "fnExactSameCalendar", fn := fun _ => fun
  | [d1, d2] => { results := [.lit (.bool false)], args := [d1, d2] }
  | _ => none }
def FnExactSameCalendarWrongFalsely : Prop := fnExactSameCalendarRow.holds Try.pinned (OpenSpec.ofChange fnExactSameCalendarWrong)

/-- 'laws.FnExactValidCalendar': WHATEVER THE INPUT: true; the input reads as it did. -/
def fnExactValidCalendarSpec : ChangeSpec := { name := "fnExactValidCalendar", fn := fun _ => fun
  | [d] => { results := [.lit (.bool true)], args := [d] }
  | _ => none }
def fnExactValidCalendarRow : OpenClaim := { program := "ythlfnpgohbaonaa", sum := "f86c5e78104765abd26081c9d5afdee102ffa69621d49baefb8add04e0ed0f88", func := "loop.example/g00921/laws.FnExactValidCalendar", spec := "fnExactValidCalendar", unfollowed := true, recurses := true, apart := false }
def FnExactValidCalendarSaid : Prop := fnExactValidCalendarRow.holds Try.pinned (OpenSpec.ofChange fnExactValidCalendarSpec)

/-- ITS FALSE NEIGHBOUR: 'it returns false'. Refute it at one input. -/
def fnExactValidCalendarWrong : ChangeSpec := { name := "fnExactValidCalendar", fn := fun _ => fun
  | [d] => { results := [.lit (.bool false)], args := [d] }
  | _ => none }
def FnExactValidCalendarWrongFalsely : Prop := fnExactValidCalendarRow.holds Try.pinned (OpenSpec.ofChange fnExactValidCalendarWrong)

/-- 'laws.FnExactIsLeapYear': WHATEVER THE INPUT: true; the input reads as it did. -/
def fnExactIsLeapYearSpec : ChangeSpec := { name := "fnExactIsLeapYear", fn := fun _ => fun
  | [d1, d2] => { results := [.lit (.bool true)], args := [d1, d2] }
  | _ => none }
def fnExactIsLeapYearRow : OpenClaim := { program := "ythlfnpgohbaonaa", sum := "f86c5e78104765abd26081c9d5afdee102ffa69621d49baefb8add04e0ed0f88", func := "loop.example/g00921/laws.FnExactIsLeapYear", spec := "fnExactIsLeapYear", unfollowed := true, recurses := true, apart := false }
def FnExactIsLeapYearSaid : Prop := fnExactIsLeapYearRow.holds Try.pinned (OpenSpec.ofChange fnExactIsLeapYearSpec)

/-- ITS FALSE NEIGHBOUR: 'it returns false'. Refute it at one input. -/
def fnExactIsLeapYearWrong : ChangeSpec := { name := "fnExactIsLeapYear", fn := fun _ => fun
  | [d1, d2] => { results := [.lit (.bool false)], args := [d1, d2] }
  | _ => none }
def FnExactIsLeapYearWrongFalsely : Prop := fnExactIsLeapYearRow.holds Try.pinned (OpenSpec.ofChange fnExactIsLeapYearWrong)

/-- 'laws.FnExactValidDate': WHATEVER THE INPUT: true; the input reads as it did. -/
def fnExactValidDateSpec : ChangeSpec := { name := "fnExactValidDate", fn := fun _ => fun
  | [d1, d2] => { results := [.lit (.bool true)], args := [d1, d2] }
  | _ => none }
def fnExactValidDateRow : OpenClaim := { program := "ythlfnpgohbaonaa", sum := "f86c5e78104765abd26081c9d5afdee102ffa69621d49baefb8add04e0ed0f88", func := "loop.example/g00921/laws.FnExactValidDate", spec := "fnExactValidDate", unfollowed := true, recurses := true, apart := false }
def FnExactValidDateSaid : Prop := fnExactValidDateRow.holds Try.pinned (OpenSpec.ofChange fnExactValidDateSpec)

/-- ITS FALSE NEIGHBOUR: 'it returns false'. Refute it at one input. -/
def fnExactValidDateWrong : ChangeSpec := { name := "fnExactValidDate", fn := fun _ => fun
  | [d1, d2] => { results := [.lit (.bool false)], args := [d1, d2] }
  | _ => none }
def FnExactValidDateWrongFalsely : Prop := fnExactValidDateRow.holds Try.pinned (OpenSpec.ofChange fnExactValidDateWrong)

/-- 'laws.FnExactDaysInMonth': WHATEVER THE INPUT: true; the input reads as it did. -/
def fnExactDaysInMonthSpec : ChangeSpec := { name := "fnExactDaysInMonth", fn := fun _ => fun
  | [d1, d2, d3] => { results := [.lit (.bool true)], args := [d1, d2, d3] }
  | _ => none }
def fnExactDaysInMonthRow : OpenClaim := { program := "ythlfnpgohbaonaa", sum := "f86c5e78104765abd26081c9d5afdee102ffa69621d49baefb8add04e0ed0f88", func := "loop.example/g00921/laws.FnExactDaysInMonth", spec := "fnExactDaysInMonth", unfollowed := true, recurses := true, apart := false }
def FnExactDaysInMonthSaid : Prop := fnExactDaysInMonthRow.holds Try.pinned (OpenSpec.ofChange fnExactDaysInMonthSpec)

/-- ITS FALSE NEIGHBOUR: 'it returns false'. Refute it at one input. -/
def fnExactDaysInMonthWrong : ChangeSpec := { name := "fnExactDaysInMonth", fn := fun _ => fun
  | [d1, d2, d3] => { results := [.lit (.bool false)], args := [d1, d2, d3] }
  | _ => none }
def FnExactDaysInMonthWrongFalsely : Prop := fnExactDaysInMonthRow.holds Try.pinned (OpenSpec.ofChange fnExactDaysInMonthWrong)

/-- 'laws.FnExactDaysInYear': WHATEVER THE INPUT: true; the input reads as it did. -/
def fnExactDaysInYearSpec : ChangeSpec := { name := "fnExactDaysInYear", fn := fun _ => fun
  | [d1, d2] => { results := [.lit (.bool true)], args := [d1, d2] }
  | _ => none }
def fnExactDaysInYearRow : OpenClaim := { program := "ythlfnpgohbaonaa", sum := "f86c5e78104765abd26081c9d5afdee102ffa69621d49baefb8add04e0ed0f88", func := "loop.example/g00921/laws.FnExactDaysInYear", spec := "fnExactDaysInYear", unfollowed := true, recurses := true, apart := false }
def FnExactDaysInYearSaid : Prop := fnExactDaysInYearRow.holds Try.pinned (OpenSpec.ofChange fnExactDaysInYearSpec)

/-- ITS FALSE NEIGHBOUR: 'it returns false'. Refute it at one input. -/
def fnExactDaysInYearWrong : ChangeSpec := { name := "fnExactDaysInYear", fn := fun _ => fun
  | [d1, d2] => { results := [.lit (.bool false)], args := [d1, d2] }
  | _ => none }
def FnExactDaysInYearWrongFalsely : Prop := fnExactDaysInYearRow.holds Try.pinned (OpenSpec.ofChange fnExactDaysInYearWrong)

/-- 'laws.FnExactCycleOf': WHATEVER THE INPUT: true; the input reads as it did. -/
def fnExactCycleOfSpec : ChangeSpec := { name := "fnExactCycleOf", fn := fun _ => fun
  | [d] => { results := [.lit (.bool true)], args := [d] }
  | _ => none }
def fnExactCycleOfRow : OpenClaim := { program := "ythlfnpgohbaonaa", sum := "f86c5e78104765abd26081c9d5afdee102ffa69621d49baefb8add04e0ed0f88", func := "loop.example/g00921/laws.FnExactCycleOf", spec := "fnExactCycleOf", unfollowed := true, recurses := true, apart := false }
def FnExactCycleOfSaid : Prop := fnExactCycleOfRow.holds Try.pinned (OpenSpec.ofChange fnExactCycleOfSpec)

/-- ITS FALSE NEIGHBOUR: 'it returns false'. Refute it at one input. -/
def fnExactCycleOfWrong : ChangeSpec := { name := "fnExactCycleOf", fn := fun _ => fun
  | [d] => { results := [.lit (.bool false)], args := [d] }
  | _ => none }
def FnExactCycleOfWrongFalsely : Prop := fnExactCycleOfRow.holds Try.pinned (OpenSpec.ofChange fnExactCycleOfWrong)

/-- 'laws.FnExactLastDay': WHATEVER THE INPUT: true; the input reads as it did. -/
def fnExactLastDaySpec : ChangeSpec := { name := "fnExactLastDay", fn := fun _ => fun
  | [d] => { results := [.lit (.bool true)], args := [d] }
  | _ => none }
def fnExactLastDayRow : OpenClaim := { program := "ythlfnpgohbaonaa", sum := "f86c5e78104765abd26081c9d5afdee102ffa69621d49baefb8add04e0ed0f88", func := "loop.example/g00921/laws.FnExactLastDay", spec := "fnExactLastDay", unfollowed := true, recurses := true, apart := false }
def FnExactLastDaySaid : Prop := fnExactLastDayRow.holds Try.pinned (OpenSpec.ofChange fnExactLastDaySpec)

/-- ITS FALSE NEIGHBOUR: 'it returns false'. Refute it at one input. -/
def fnExactLastDayWrong : ChangeSpec := { name := "fnExactLastDay", fn := fun _ => fun
  | [d] => { results := [.lit (.bool false)], args := [d] }
  | _ => none }
def FnExactLastDayWrongFalsely : Prop := fnExactLastDayRow.holds Try.pinned (OpenSpec.ofChange fnExactLastDayWrong)

/-- 'laws.FnExactDayOf': WHATEVER THE INPUT: true; the input reads as it did. -/
def fnExactDayOfSpec : ChangeSpec := { name := "fnExactDayOf", fn := fun _ => fun
  | [d1, d2] => { results := [.lit (.bool true)], args := [d1, d2] }
  | _ => none }
def fnExactDayOfRow : OpenClaim := { program := "ythlfnpgohbaonaa", sum := "f86c5e78104765abd26081c9d5afdee102ffa69621d49baefb8add04e0ed0f88", func := "loop.example/g00921/laws.FnExactDayOf", spec := "fnExactDayOf", unfollowed := true, recurses := true, apart := false }
def FnExactDayOfSaid : Prop := fnExactDayOfRow.holds Try.pinned (OpenSpec.ofChange fnExactDayOfSpec)

/-- ITS FALSE NEIGHBOUR: 'it returns false'. Refute it at one input. -/
def fnExactDayOfWrong : ChangeSpec := { name := "fnExactDayOf", fn := fun _ => fun
  | [d1, d2] => { results := [.lit (.bool false)], args := [d1, d2] }
  | _ => none }
def FnExactDayOfWrongFalsely : Prop := fnExactDayOfRow.holds Try.pinned (OpenSpec.ofChange fnExactDayOfWrong)

/-- 'laws.FnExactDaysBetween': WHATEVER THE INPUT: true; the input reads as it did. -/
def fnExactDaysBetweenSpec : ChangeSpec := { name := "fnExactDaysBetween", fn := fun _ => fun
  | [d1, d2, d3] => { results := [.lit (.bool true)], args := [d1, d2, d3] }
  | _ => none }
def fnExactDaysBetweenRow : OpenClaim := { program := "ythlfnpgohbaonaa", sum := "f86c5e78104765abd26081c9d5afdee102ffa69621d49baefb8add04e0ed0f88", func := "loop.example/g00921/laws.FnExactDaysBetween", spec := "fnExactDaysBetween", unfollowed := true, recurses := true, apart := false }
def FnExactDaysBetweenSaid : Prop := fnExactDaysBetweenRow.holds Try.pinned (OpenSpec.ofChange fnExactDaysBetweenSpec)

/-- ITS FALSE NEIGHBOUR: 'it returns false'. Refute it at one input. -/
def fnExactDaysBetweenWrong : ChangeSpec := { name := "fnExactDaysBetween", fn := fun _ => fun
  | [d1, d2, d3] => { results := [.lit (.bool false)], args := [d1, d2, d3] }
  | _ => none }
def FnExactDaysBetweenWrongFalsely : Prop := fnExactDaysBetweenRow.holds Try.pinned (OpenSpec.ofChange fnExactDaysBetweenWrong)

/-- 'laws.FnExactCamOf': WHATEVER THE INPUT: true; the input reads as it did. -/
def fnExactCamOfSpec : ChangeSpec := { name := "fnExactCamOf", fn := fun _ => fun
  | [d1, d2, d3] => { results := [.lit (.bool true)], args := [d1, d2, d3] }
  | _ => none }
def fnExactCamOfRow : OpenClaim := { program := "ythlfnpgohbaonaa", sum := "f86c5e78104765abd26081c9d5afdee102ffa69621d49baefb8add04e0ed0f88", func := "loop.example/g00921/laws.FnExactCamOf", spec := "fnExactCamOf", unfollowed := true, recurses := true, apart := false }
def FnExactCamOfSaid : Prop := fnExactCamOfRow.holds Try.pinned (OpenSpec.ofChange fnExactCamOfSpec)

/-- ITS FALSE NEIGHBOUR: 'it returns false'. Refute it at one input. -/
def fnExactCamOfWrong : ChangeSpec := { name := "fnExactCamOf", fn := fun _ => fun
  | [d1, d2, d3] => { results := [.lit (.bool false)], args := [d1, d2, d3] }
  | _ => none }
def FnExactCamOfWrongFalsely : Prop := fnExactCamOfRow.holds Try.pinned (OpenSpec.ofChange fnExactCamOfWrong)

/-- 'laws.FnExactWeekdayOf': WHATEVER THE INPUT: true; the input reads as it did. -/
def fnExactWeekdayOfSpec : ChangeSpec := { name := "fnExactWeekdayOf", fn := fun _ => fun
  | [d1, d2, d3] => { results := [.lit (.bool true)], args := [d1, d2, d3] }
  | _ => none }
def fnExactWeekdayOfRow : OpenClaim := { program := "ythlfnpgohbaonaa", sum := "f86c5e78104765abd26081c9d5afdee102ffa69621d49baefb8add04e0ed0f88", func := "loop.example/g00921/laws.FnExactWeekdayOf", spec := "fnExactWeekdayOf", unfollowed := true, recurses := true, apart := false }
def FnExactWeekdayOfSaid : Prop := fnExactWeekdayOfRow.holds Try.pinned (OpenSpec.ofChange fnExactWeekdayOfSpec)

/-- ITS FALSE NEIGHBOUR: 'it returns false'. Refute it at one input. -/
def fnExactWeekdayOfWrong : ChangeSpec := { name := "fnExactWeekdayOf", fn := fun _ => fun
  | [d1, d2, d3] => { results := [.lit (.bool false)], args := [d1, d2, d3] }
  | _ => none }
def FnExactWeekdayOfWrongFalsely : Prop := fnExactWeekdayOfRow.holds Try.pinned (OpenSpec.ofChange fnExactWeekdayOfWrong)

/-- 'laws.FnExactFaultCount': WHATEVER THE INPUT: true; the input reads as it did. -/
def fnExactFaultCountSpec : ChangeSpec := { name := "fnExactFaultCount", fn := fun _ => fun
  | [d1, d2] => { results := [.lit (.bool true)], args := [d1, d2] }
  | _ => none }
def fnExactFaultCountRow : OpenClaim := { program := "ythlfnpgohbaonaa", sum := "f86c5e78104765abd26081c9d5afdee102ffa69621d49baefb8add04e0ed0f88", func := "loop.example/g00921/laws.FnExactFaultCount", spec := "fnExactFaultCount", unfollowed := true, recurses := true, apart := false }
def FnExactFaultCountSaid : Prop := fnExactFaultCountRow.holds Try.pinned (OpenSpec.ofChange fnExactFaultCountSpec)

/-- ITS FALSE NEIGHBOUR: 'it returns false'. Refute it at one input. -/
def fnExactFaultCountWrong : ChangeSpec := { name := "fnExactFaultCount", fn := fun _ => fun
  | [d1, d2] => { results := [.lit (.bool false)], args := [d1, d2] }
  | _ => none }
def FnExactFaultCountWrongFalsely : Prop := fnExactFaultCountRow.holds Try.pinned (OpenSpec.ofChange fnExactFaultCountWrong)

/-- 'laws.FnExactDateOf': WHATEVER THE INPUT: true; the input reads as it did. -/
def fnExactDateOfSpec : ChangeSpec := { name := "fnExactDateOf", fn := fun _ => fun
  | [d1, d2] => { results := [.lit (.bool true)], args := [d1, d2] }
  | _ => none }
def fnExactDateOfRow : OpenClaim := { program := "ythlfnpgohbaonaa", sum := "f86c5e78104765abd26081c9d5afdee102ffa69621d49baefb8add04e0ed0f88", func := "loop.example/g00921/laws.FnExactDateOf", spec := "fnExactDateOf", unfollowed := true, recurses := true, apart := false }
def FnExactDateOfSaid : Prop := fnExactDateOfRow.holds Try.pinned (OpenSpec.ofChange fnExactDateOfSpec)

/-- ITS FALSE NEIGHBOUR: 'it returns false'. Refute it at one input. -/
def fnExactDateOfWrong : ChangeSpec := { name := "fnExactDateOf", fn := fun _ => fun
  | [d1, d2] => { results := [.lit (.bool false)], args := [d1, d2] }
  | _ => none }
def FnExactDateOfWrongFalsely : Prop := fnExactDateOfRow.holds Try.pinned (OpenSpec.ofChange fnExactDateOfWrong)

/-- 'laws.FnExactNextFault': WHATEVER THE INPUT: true; the input reads as it did. -/
def fnExactNextFaultSpec : ChangeSpec := { name := "fnExactNextFault", fn := fun _ => fun
  | [d1, d2, d3] => { results := [.lit (.bool true)], args := [d1, d2, d3] }
  | _ => none }
def fnExactNextFaultRow : OpenClaim := { program := "ythlfnpgohbaonaa", sum := "f86c5e78104765abd26081c9d5afdee102ffa69621d49baefb8add04e0ed0f88", func := "loop.example/g00921/laws.FnExactNextFault", spec := "fnExactNextFault", unfollowed := true, recurses := true, apart := false }
def FnExactNextFaultSaid : Prop := fnExactNextFaultRow.holds Try.pinned (OpenSpec.ofChange fnExactNextFaultSpec)

/-- ITS FALSE NEIGHBOUR: 'it returns false'. Refute it at one input. -/
def fnExactNextFaultWrong : ChangeSpec := { name := "fnExactNextFault", fn := fun _ => fun
  | [d1, d2, d3] => { results := [.lit (.bool false)], args := [d1, d2, d3] }
  | _ => none }
def FnExactNextFaultWrongFalsely : Prop := fnExactNextFaultRow.holds Try.pinned (OpenSpec.ofChange fnExactNextFaultWrong)

/-- 'laws.FnExactMeanYear': WHATEVER THE INPUT: true; the input reads as it did. -/
def fnExactMeanYearSpec : ChangeSpec := { name := "fnExactMeanYear", fn := fun _ => fun
  | [d] => { results := [.lit (.bool true)], args := [d] }
  | _ => none }
def fnExactMeanYearRow : OpenClaim := { program := "ythlfnpgohbaonaa", sum := "f86c5e78104765abd26081c9d5afdee102ffa69621d49baefb8add04e0ed0f88", func := "loop.example/g00921/laws.FnExactMeanYear", spec := "fnExactMeanYear", unfollowed := true, recurses := true, apart := false }
def FnExactMeanYearSaid : Prop := fnExactMeanYearRow.holds Try.pinned (OpenSpec.ofChange fnExactMeanYearSpec)

/-- ITS FALSE NEIGHBOUR: 'it returns false'. Refute it at one input. -/
def fnExactMeanYearWrong : ChangeSpec := { name := "fnExactMeanYear", fn := fun _ => fun
  | [d] => { results := [.lit (.bool false)], args := [d] }
  | _ => none }
def FnExactMeanYearWrongFalsely : Prop := fnExactMeanYearRow.holds Try.pinned (OpenSpec.ofChange fnExactMeanYearWrong)

/-- 'laws.FnExactAddDays': WHATEVER THE INPUT: true; the input reads as it did. -/
def fnExactAddDaysSpec : ChangeSpec := { name := "fnExactAddDays", fn := fun _ => fun
  | [d1, d2, d3] => { results := [.lit (.bool true)], args := [d1, d2, d3] }
  | _ => none }
def fnExactAddDaysRow : OpenClaim := { program := "ythlfnpgohbaonaa", sum := "f86c5e78104765abd26081c9d5afdee102ffa69621d49baefb8add04e0ed0f88", func := "loop.example/g00921/laws.FnExactAddDays", spec := "fnExactAddDays", unfollowed := true, recurses := true, apart := false }
def FnExactAddDaysSaid : Prop := fnExactAddDaysRow.holds Try.pinned (OpenSpec.ofChange fnExactAddDaysSpec)

/-- ITS FALSE NEIGHBOUR: 'it returns false'. Refute it at one input. -/
def fnExactAddDaysWrong : ChangeSpec := { name := "fnExactAddDays", fn := fun _ => fun
  | [d1, d2, d3] => { results := [.lit (.bool false)], args := [d1, d2, d3] }
  | _ => none }
def FnExactAddDaysWrongFalsely : Prop := fnExactAddDaysRow.holds Try.pinned (OpenSpec.ofChange fnExactAddDaysWrong)

/-- 'laws.FnExactConvertDate': WHATEVER THE INPUT: true; the input reads as it did. -/
def fnExactConvertDateSpec : ChangeSpec := { name := "fnExactConvertDate", fn := fun _ => fun
  | [d1, d2, d3, d4] => { results := [.lit (.bool true)], args := [d1, d2, d3, d4] }
  | _ => none }
def fnExactConvertDateRow : OpenClaim := { program := "ythlfnpgohbaonaa", sum := "f86c5e78104765abd26081c9d5afdee102ffa69621d49baefb8add04e0ed0f88", func := "loop.example/g00921/laws.FnExactConvertDate", spec := "fnExactConvertDate", unfollowed := true, recurses := true, apart := false }
def FnExactConvertDateSaid : Prop := fnExactConvertDateRow.holds Try.pinned (OpenSpec.ofChange fnExactConvertDateSpec)

/-- ITS FALSE NEIGHBOUR: 'it returns false'. Refute it at one input. -/
def fnExactConvertDateWrong : ChangeSpec := { name := "fnExactConvertDate", fn := fun _ => fun
  | [d1, d2, d3, d4] => { results := [.lit (.bool false)], args := [d1, d2, d3, d4] }
  | _ => none }
def FnExactConvertDateWrongFalsely : Prop := fnExactConvertDateRow.holds Try.pinned (OpenSpec.ofChange fnExactConvertDateWrong)

/- THE SECOND FORM. 'bulk': how many values and letters a reading holds, each counted each time it is reached (what is shared counts as often as it is met; a slice's spare places count too). A statement '..UptoSaid' is the law's where the arguments, and the package variables that the reading takes, are together of bulk at most 1048576: NARROWER than '..Said'. Prove '..Said' where nothing that the law and all that it calls make is longer than what came in: it says more and counts as full. Else prove '..UptoSaid'. A law counts once. -/
mutual
def uptoBulk {H : Type} : DataW H → Nat
  | .lit (.string bytes) => bytes.length + 1
  | .lit _ => 1
  | .nil => 1
  | .ptr d => uptoBulk d + 1
  | .slice elems spare => uptoBulkAll elems + uptoBulkAll spare + 1
  | .agg parts => uptoBulkAll parts + 1
  | .iface _ d => uptoBulk d + 1
  | .map entries => uptoBulkEntries entries + 1
  | .held _ => 1
def uptoBulkAll {H : Type} : List (DataW H) → Nat
  | [] => 0
  | d :: r => uptoBulk d + uptoBulkAll r
def uptoBulkEntries {H : Type} : List (Lit × DataW H) → Nat
  | [] => 0
  | x :: r => uptoBulkEntry x + uptoBulkEntries r
def uptoBulkEntry {H : Type} : Lit × DataW H → Nat
  | (.string bytes, d) => bytes.length + uptoBulk d + 1
  | (_, d) => uptoBulk d + 1
 end
def uptoSmall : (H : Type) → List (DataW H) → Bool := fun _ ds => decide (uptoBulkAll ds ≤ 1048576)
def OpenSpec.upto (s : _root_.Go.ChangeSpec) : _root_.Go.OpenSpec := { _root_.Go.OpenSpec.ofChange s with cond := some uptoSmall }

/-- 'laws.FnExactValidCam', WHERE WHAT IT READS IS OF BULK AT MOST 1048576: true; the input reads as it did. -/
def fnExactValidCamUptoRow : OpenClaim := { program := "ythlfnpgohbaonaa", sum := "f86c5e78104765abd26081c9d5afdee102ffa69621d49baefb8add04e0ed0f88", func := "loop.example/g00921/laws.FnExactValidCam", spec := "fnExactValidCam", apart := false, narrowed := true }
def FnExactValidCamUptoSaid : Prop := fnExactValidCamUptoRow.holds Try.pinned (OpenSpec.upto fnExactValidCamSpec)

/-- 'laws.FnExactCalendarNames', WHERE WHAT IT READS IS OF BULK AT MOST 1048576: true; the input reads as it did. -/
def fnExactCalendarNamesUptoRow : OpenClaim := { program := "ythlfnpgohbaonaa", sum := "f86c5e78104765abd26081c9d5afdee102ffa69621d49baefb8add04e0ed0f88", func := "loop.example/g00921/laws.FnExactCalendarNames", spec := "fnExactCalendarNames", apart := false, narrowed := true }
def FnExactCalendarNamesUptoSaid : Prop := fnExactCalendarNamesUptoRow.holds Try.pinned (OpenSpec.upto fnExactCalendarNamesSpec)

/-- 'laws.FnExactCompareDate', WHERE WHAT IT READS IS OF BULK AT MOST 1048576: true; the input reads as it did. -/
def fnExactCompareDateUptoRow : OpenClaim := { program := "ythlfnpgohbaonaa", sum := "f86c5e78104765abd26081c9d5afdee102ffa69621d49baefb8add04e0ed0f88", func := "loop.example/g00921/laws.FnExactCompareDate", spec := "fnExactCompareDate", apart := false, narrowed := true }
def FnExactCompareDateUptoSaid : Prop := fnExactCompareDateUptoRow.holds Try.pinned (OpenSpec.upto fnExactCompareDateSpec)

/-- 'laws.FnExactCamPeriod', WHERE WHAT IT READS IS OF BULK AT MOST 1048576: true; the input reads as it did. -/
def fnExactCamPeriodUptoRow : OpenClaim := { program := "ythlfnpgohbaonaa", sum := "f86c5e78104765abd26081c9d5afdee102ffa69621d49baefb8add04e0ed0f88", func := "loop.example/g00921/laws.FnExactCamPeriod", spec := "fnExactCamPeriod", apart := false, narrowed := true }
def FnExactCamPeriodUptoSaid : Prop := fnExactCamPeriodUptoRow.holds Try.pinned (OpenSpec.upto fnExactCamPeriodSpec)

/-- 'laws.FnExactSameCalendar', WHERE WHAT IT READS IS OF BULK AT MOST 1048576: true; the input reads as it did. -/
def fnExactSameCalendarUptoRow : OpenClaim := { program := "ythlfnpgohbaonaa", sum := "f86c5e78104765abd26081c9d5afdee102ffa69621d49baefb8add04e0ed0f88", func := "loop.example/g00921/laws.FnExactSameCalendar", spec := "fnExactSameCalendar", apart := false, narrowed := true }
def FnExactSameCalendarUptoSaid : Prop := fnExactSameCalendarUptoRow.holds Try.pinned (OpenSpec.upto fnExactSameCalendarSpec)

/-- 'laws.FnExactValidCalendar', WHERE WHAT IT READS IS OF BULK AT MOST 1048576: true; the input reads as it did. -/
def fnExactValidCalendarUptoRow : OpenClaim := { program := "ythlfnpgohbaonaa", sum := "f86c5e78104765abd26081c9d5afdee102ffa69621d49baefb8add04e0ed0f88", func := "loop.example/g00921/laws.FnExactValidCalendar", spec := "fnExactValidCalendar", unfollowed := true, recurses := true, apart := false, narrowed := true }
def FnExactValidCalendarUptoSaid : Prop := fnExactValidCalendarUptoRow.holds Try.pinned (OpenSpec.upto fnExactValidCalendarSpec)

/-- 'laws.FnExactIsLeapYear', WHERE WHAT IT READS IS OF BULK AT MOST 1048576: true; the input reads as it did. -/
def fnExactIsLeapYearUptoRow : OpenClaim := { program := "ythlfnpgohbaonaa", sum := "f86c5e78104765abd26081c9d5afdee102ffa69621d49baefb8add04e0ed0f88", func := "loop.example/g00921/laws.FnExactIsLeapYear", spec := "fnExactIsLeapYear", unfollowed := true, recurses := true, apart := false, narrowed := true }
def FnExactIsLeapYearUptoSaid : Prop := fnExactIsLeapYearUptoRow.holds Try.pinned (OpenSpec.upto fnExactIsLeapYearSpec)

/-- 'laws.FnExactValidDate', WHERE WHAT IT READS IS OF BULK AT MOST 1048576: true; the input reads as it did. -/
def fnExactValidDateUptoRow : OpenClaim := { program := "ythlfnpgohbaonaa", sum := "f86c5e78104765abd26081c9d5afdee102ffa69621d49baefb8add04e0ed0f88", func := "loop.example/g00921/laws.FnExactValidDate", spec := "fnExactValidDate", unfollowed := true, recurses := true, apart := false, narrowed := true }
def FnExactValidDateUptoSaid : Prop := fnExactValidDateUptoRow.holds Try.pinned (OpenSpec.upto fnExactValidDateSpec)

/-- 'laws.FnExactDaysInMonth', WHERE WHAT IT READS IS OF BULK AT MOST 1048576: true; the input reads as it did. -/
def fnExactDaysInMonthUptoRow : OpenClaim := { program := "ythlfnpgohbaonaa", sum := "f86c5e78104765abd26081c9d5afdee102ffa69621d49baefb8add04e0ed0f88", func := "loop.example/g00921/laws.FnExactDaysInMonth", spec := "fnExactDaysInMonth", unfollowed := true, recurses := true, apart := false, narrowed := true }
def FnExactDaysInMonthUptoSaid : Prop := fnExactDaysInMonthUptoRow.holds Try.pinned (OpenSpec.upto fnExactDaysInMonthSpec)

/-- 'laws.FnExactDaysInYear', WHERE WHAT IT READS IS OF BULK AT MOST 1048576: true; the input reads as it did. -/
def fnExactDaysInYearUptoRow : OpenClaim := { program := "ythlfnpgohbaonaa", sum := "f86c5e78104765abd26081c9d5afdee102ffa69621d49baefb8add04e0ed0f88", func := "loop.example/g00921/laws.FnExactDaysInYear", spec := "fnExactDaysInYear", unfollowed := true, recurses := true, apart := false, narrowed := true }
def FnExactDaysInYearUptoSaid : Prop := fnExactDaysInYearUptoRow.holds Try.pinned (OpenSpec.upto fnExactDaysInYearSpec)

/-- 'laws.FnExactCycleOf', WHERE WHAT IT READS IS OF BULK AT MOST 1048576: true; the input reads as it did. -/
def fnExactCycleOfUptoRow : OpenClaim := { program := "ythlfnpgohbaonaa", sum := "f86c5e78104765abd26081c9d5afdee102ffa69621d49baefb8add04e0ed0f88", func := "loop.example/g00921/laws.FnExactCycleOf", spec := "fnExactCycleOf", unfollowed := true, recurses := true, apart := false, narrowed := true }
def FnExactCycleOfUptoSaid : Prop := fnExactCycleOfUptoRow.holds Try.pinned (OpenSpec.upto fnExactCycleOfSpec)

/-- 'laws.FnExactLastDay', WHERE WHAT IT READS IS OF BULK AT MOST 1048576: true; the input reads as it did. -/
def fnExactLastDayUptoRow : OpenClaim := { program := "ythlfnpgohbaonaa", sum := "f86c5e78104765abd26081c9d5afdee102ffa69621d49baefb8add04e0ed0f88", func := "loop.example/g00921/laws.FnExactLastDay", spec := "fnExactLastDay", unfollowed := true, recurses := true, apart := false, narrowed := true }
def FnExactLastDayUptoSaid : Prop := fnExactLastDayUptoRow.holds Try.pinned (OpenSpec.upto fnExactLastDaySpec)

/-- 'laws.FnExactDayOf', WHERE WHAT IT READS IS OF BULK AT MOST 1048576: true; the input reads as it did. -/
def fnExactDayOfUptoRow : OpenClaim := { program := "ythlfnpgohbaonaa", sum := "f86c5e78104765abd26081c9d5afdee102ffa69621d49baefb8add04e0ed0f88", func := "loop.example/g00921/laws.FnExactDayOf", spec := "fnExactDayOf", unfollowed := true, recurses := true, apart := false, narrowed := true }
def FnExactDayOfUptoSaid : Prop := fnExactDayOfUptoRow.holds Try.pinned (OpenSpec.upto fnExactDayOfSpec)

/-- 'laws.FnExactDaysBetween', WHERE WHAT IT READS IS OF BULK AT MOST 1048576: true; the input reads as it did. -/
def fnExactDaysBetweenUptoRow : OpenClaim := { program := "ythlfnpgohbaonaa", sum := "f86c5e78104765abd26081c9d5afdee102ffa69621d49baefb8add04e0ed0f88", func := "loop.example/g00921/laws.FnExactDaysBetween", spec := "fnExactDaysBetween", unfollowed := true, recurses := true, apart := false, narrowed := true }
def FnExactDaysBetweenUptoSaid : Prop := fnExactDaysBetweenUptoRow.holds Try.pinned (OpenSpec.upto fnExactDaysBetweenSpec)

/-- 'laws.FnExactCamOf', WHERE WHAT IT READS IS OF BULK AT MOST 1048576: true; the input reads as it did. -/
def fnExactCamOfUptoRow : OpenClaim := { program := "ythlfnpgohbaonaa", sum := "f86c5e78104765abd26081c9d5afdee102ffa69621d49baefb8add04e0ed0f88", func := "loop.example/g00921/laws.FnExactCamOf", spec := "fnExactCamOf", unfollowed := true, recurses := true, apart := false, narrowed := true }
def FnExactCamOfUptoSaid : Prop := fnExactCamOfUptoRow.holds Try.pinned (OpenSpec.upto fnExactCamOfSpec)

/-- 'laws.FnExactWeekdayOf', WHERE WHAT IT READS IS OF BULK AT MOST 1048576: true; the input reads as it did. -/
def fnExactWeekdayOfUptoRow : OpenClaim := { program := "ythlfnpgohbaonaa", sum := "f86c5e78104765abd26081c9d5afdee102ffa69621d49baefb8add04e0ed0f88", func := "loop.example/g00921/laws.FnExactWeekdayOf", spec := "fnExactWeekdayOf", unfollowed := true, recurses := true, apart := false, narrowed := true }
def FnExactWeekdayOfUptoSaid : Prop := fnExactWeekdayOfUptoRow.holds Try.pinned (OpenSpec.upto fnExactWeekdayOfSpec)

/-- 'laws.FnExactFaultCount', WHERE WHAT IT READS IS OF BULK AT MOST 1048576: true; the input reads as it did. -/
def fnExactFaultCountUptoRow : OpenClaim := { program := "ythlfnpgohbaonaa", sum := "f86c5e78104765abd26081c9d5afdee102ffa69621d49baefb8add04e0ed0f88", func := "loop.example/g00921/laws.FnExactFaultCount", spec := "fnExactFaultCount", unfollowed := true, recurses := true, apart := false, narrowed := true }
def FnExactFaultCountUptoSaid : Prop := fnExactFaultCountUptoRow.holds Try.pinned (OpenSpec.upto fnExactFaultCountSpec)

/-- 'laws.FnExactDateOf', WHERE WHAT IT READS IS OF BULK AT MOST 1048576: true; the input reads as it did. -/
def fnExactDateOfUptoRow : OpenClaim := { program := "ythlfnpgohbaonaa", sum := "f86c5e78104765abd26081c9d5afdee102ffa69621d49baefb8add04e0ed0f88", func := "loop.example/g00921/laws.FnExactDateOf", spec := "fnExactDateOf", unfollowed := true, recurses := true, apart := false, narrowed := true }
def FnExactDateOfUptoSaid : Prop := fnExactDateOfUptoRow.holds Try.pinned (OpenSpec.upto fnExactDateOfSpec)

/-- 'laws.FnExactNextFault', WHERE WHAT IT READS IS OF BULK AT MOST 1048576: true; the input reads as it did. -/
def fnExactNextFaultUptoRow : OpenClaim := { program := "ythlfnpgohbaonaa", sum := "f86c5e78104765abd26081c9d5afdee102ffa69621d49baefb8add04e0ed0f88", func := "loop.example/g00921/laws.FnExactNextFault", spec := "fnExactNextFault", unfollowed := true, recurses := true, apart := false, narrowed := true }
def FnExactNextFaultUptoSaid : Prop := fnExactNextFaultUptoRow.holds Try.pinned (OpenSpec.upto fnExactNextFaultSpec)

/-- 'laws.FnExactMeanYear', WHERE WHAT IT READS IS OF BULK AT MOST 1048576: true; the input reads as it did. -/
def fnExactMeanYearUptoRow : OpenClaim := { program := "ythlfnpgohbaonaa", sum := "f86c5e78104765abd26081c9d5afdee102ffa69621d49baefb8add04e0ed0f88", func := "loop.example/g00921/laws.FnExactMeanYear", spec := "fnExactMeanYear", unfollowed := true, recurses := true, apart := false, narrowed := true }
def FnExactMeanYearUptoSaid : Prop := fnExactMeanYearUptoRow.holds Try.pinned (OpenSpec.upto fnExactMeanYearSpec)

/-- 'laws.FnExactAddDays', WHERE WHAT IT READS IS OF BULK AT MOST 1048576: true; the input reads as it did. -/
def fnExactAddDaysUptoRow : OpenClaim := { program := "ythlfnpgohbaonaa", sum := "f86c5e78104765abd26081c9d5afdee102ffa69621d49baefb8add04e0ed0f88", func := "loop.example/g00921/laws.FnExactAddDays", spec := "fnExactAddDays", unfollowed := true, recurses := true, apart := false, narrowed := true }
def FnExactAddDaysUptoSaid : Prop := fnExactAddDaysUptoRow.holds Try.pinned (OpenSpec.upto fnExactAddDaysSpec)

/-- 'laws.FnExactConvertDate', WHERE WHAT IT READS IS OF BULK AT MOST 1048576: true; the input reads as it did. -/
def fnExactConvertDateUptoRow : OpenClaim := { program := "ythlfnpgohbaonaa", sum := "f86c5e78104765abd26081c9d5afdee102ffa69621d49baefb8add04e0ed0f88", func := "loop.example/g00921/laws.FnExactConvertDate", spec := "fnExactConvertDate", unfollowed := true, recurses := true, apart := false, narrowed := true }
def FnExactConvertDateUptoSaid : Prop := fnExactConvertDateUptoRow.holds Try.pinned (OpenSpec.upto fnExactConvertDateSpec)

end Rows
end Go.Proofs.Ythlfnpgohbaonaa
