/-
  No cell of these rows narrows 'for every input' (looked for: loops, veiled, ifaces, maps, wideKeys, modest, calm, conditions, laid).
  DERIVED. THE GIVEN ROWS OF THIS SEAT. 6 by the template 'for every input the law returns true; each argument reads behind the call as it read before'; 0 by the template 'total and deterministic' (their statements: YtaamnmpbkdinpaaTotals.lean).
  GIVEN WITH THE SEED: the statements are not yours to turn. If you find one false, say at which input.
  Laid BY PROGRAM, IN A SANDBOX (cutbox-rows.mjs): the forced cells as the released guide's own fill.sh prints them over the translation bb749dc45e231258… (all of the seat's roots in one cut). By AI agents, Wed Nov 11 2026. No macro, syntax, notation, axiom, sorry.
-/
import Derived.Test.YtaamnmpbkdinpaaChecked
import GoSem.Claim
import GoSem.ClaimJoined
import GoSem.ClaimMapViews
import Derived.JoinedTies
import Derived.KernelRfl
namespace Go.Proofs.Ytaamnmpbkdinpaa
/- THE CELL 'sum', in the pinned program and in every row, IS THE sha256 OF THE DUMP (.gsa) THAT YtaamnmpbkdinpaaProg.lean LOADS. Nothing in Lean hashes anything: it is a label: what it is worth is what the hold of that sum in a sandbox is worth. -/
noncomputable def Try.pinned : Pinned := { name := "ytaamnmpbkdinpaa", sum := "bb749dc45e2312588c5d5553f4d5b657d2c2e3331393f0d668bc87e2e6a24be1", checked := Try.checked }
namespace Rows
def none {H : Type} : Left H := { results := [], args := [] }

/-- 'laws.FnExactSameCalendar': WHATEVER THE INPUT: true; the input reads as it did. -/
def fnExactSameCalendarSpec : ChangeSpec := { name := "fnExactSameCalendar", fn := fun _ => fun
  | [d1, d2] => { results := [.lit (.bool true)], args := [d1, d2] }
  | _ => none }
def fnExactSameCalendarRow : OpenClaim := { program := "ytaamnmpbkdinpaa", sum := "bb749dc45e2312588c5d5553f4d5b657d2c2e3331393f0d668bc87e2e6a24be1", func := "loop.example/g00921/laws.FnExactSameCalendar", spec := "fnExactSameCalendar", apart := false }
def FnExactSameCalendarSaid : Prop := fnExactSameCalendarRow.holds Try.pinned (OpenSpec.ofChange fnExactSameCalendarSpec)

/-- ITS FALSE NEIGHBOUR: 'it returns false'. Refute it at one input. -/
def fnExactSameCalendarWrong : ChangeSpec := { name := "fnExactSameCalendar", fn := fun _ => fun
  | [d1, d2] => { results := [.lit (.bool false)], args := [d1, d2] }
  | _ => none }
def FnExactSameCalendarWrongFalsely : Prop := fnExactSameCalendarRow.holds Try.pinned (OpenSpec.ofChange fnExactSameCalendarWrong)

/-- 'laws.FnExactValidCalendar': WHATEVER THE INPUT: true; the input reads as it did. -/
def fnExactValidCalendarSpec : ChangeSpec := { name := "fnExactValidCalendar", fn := fun _ => fun
  | [d] => { results := [.lit (.bool true)], args := [d] }
  | _ => none }
def fnExactValidCalendarRow : OpenClaim := { program := "ytaamnmpbkdinpaa", sum := "bb749dc45e2312588c5d5553f4d5b657d2c2e3331393f0d668bc87e2e6a24be1", func := "loop.example/g00921/laws.FnExactValidCalendar", spec := "fnExactValidCalendar", unfollowed := true, recurses := true, apart := false }
def FnExactValidCalendarSaid : Prop := fnExactValidCalendarRow.holds Try.pinned (OpenSpec.ofChange fnExactValidCalendarSpec)

/-- ITS FALSE NEIGHBOUR: 'it returns false'. Refute it at one input. -/
def fnExactValidCalendarWrong : ChangeSpec := { name := "fnExactValidCalendar", fn := fun _ => fun
  | [d] => { results := [.lit (.bool false)], args := [d] }
  | _ => none }
def FnExactValidCalendarWrongFalsely : Prop := fnExactValidCalendarRow.holds Try.pinned (OpenSpec.ofChange fnExactValidCalendarWrong)

/-- 'laws.FnExactIsLeapYear': WHATEVER THE INPUT: true; the input reads as it did. -/
def fnExactIsLeapYearSpec : ChangeSpec := { name := "fnExactIsLeapYear", fn := fun _ => fun
  | [d1, d2] => { results := [.lit (.bool true)], args := [d1, d2] }
  | _ => none }
def fnExactIsLeapYearRow : OpenClaim := { program := "ytaamnmpbkdinpaa", sum := "bb749dc45e2312588c5d5553f4d5b657d2c2e3331393f0d668bc87e2e6a24be1", func := "loop.example/g00921/laws.FnExactIsLeapYear", spec := "fnExactIsLeapYear", unfollowed := true, recurses := true, apart := false }
def FnExactIsLeapYearSaid : Prop := fnExactIsLeapYearRow.holds Try.pinned (OpenSpec.ofChange fnExactIsLeapYearSpec)

/-- ITS FALSE NEIGHBOUR: 'it returns false'. Refute it at one input. -/
def fnExactIsLeapYearWrong : ChangeSpec := { name := "fnExactIsLeapYear", fn := fun _ => fun
  | [d1, d2] => { results := [.lit (.bool false)], args := [d1, d2] }
  | _ => none }
def FnExactIsLeapYearWrongFalsely : Prop := fnExactIsLeapYearRow.holds Try.pinned (OpenSpec.ofChange fnExactIsLeapYearWrong)

/-- 'laws.FnExactDaysInMonth': WHATEVER THE INPUT: true; the input reads as it did. -/
def fnExactDaysInMonthSpec : ChangeSpec := { name := "fnExactDaysInMonth", fn := fun _ => fun
  | [d1, d2, d3] => { results := [.lit (.bool true)], args := [d1, d2, d3] }
  | _ => none }
def fnExactDaysInMonthRow : OpenClaim := { program := "ytaamnmpbkdinpaa", sum := "bb749dc45e2312588c5d5553f4d5b657d2c2e3331393f0d668bc87e2e6a24be1", func := "loop.example/g00921/laws.FnExactDaysInMonth", spec := "fnExactDaysInMonth", unfollowed := true, recurses := true, apart := false }
def FnExactDaysInMonthSaid : Prop := fnExactDaysInMonthRow.holds Try.pinned (OpenSpec.ofChange fnExactDaysInMonthSpec)

/-- ITS FALSE NEIGHBOUR: 'it returns false'. Refute it at one input. -/
def fnExactDaysInMonthWrong : ChangeSpec := { name := "fnExactDaysInMonth", fn := fun _ => fun
  | [d1, d2, d3] => { results := [.lit (.bool false)], args := [d1, d2, d3] }
  | _ => none }
def FnExactDaysInMonthWrongFalsely : Prop := fnExactDaysInMonthRow.holds Try.pinned (OpenSpec.ofChange fnExactDaysInMonthWrong)

/-- 'laws.FnExactValidDate': WHATEVER THE INPUT: true; the input reads as it did. -/
def fnExactValidDateSpec : ChangeSpec := { name := "fnExactValidDate", fn := fun _ => fun
  | [d1, d2] => { results := [.lit (.bool true)], args := [d1, d2] }
  | _ => none }
def fnExactValidDateRow : OpenClaim := { program := "ytaamnmpbkdinpaa", sum := "bb749dc45e2312588c5d5553f4d5b657d2c2e3331393f0d668bc87e2e6a24be1", func := "loop.example/g00921/laws.FnExactValidDate", spec := "fnExactValidDate", unfollowed := true, recurses := true, apart := false }
def FnExactValidDateSaid : Prop := fnExactValidDateRow.holds Try.pinned (OpenSpec.ofChange fnExactValidDateSpec)

/-- ITS FALSE NEIGHBOUR: 'it returns false'. Refute it at one input. -/
def fnExactValidDateWrong : ChangeSpec := { name := "fnExactValidDate", fn := fun _ => fun
  | [d1, d2] => { results := [.lit (.bool false)], args := [d1, d2] }
  | _ => none }
def FnExactValidDateWrongFalsely : Prop := fnExactValidDateRow.holds Try.pinned (OpenSpec.ofChange fnExactValidDateWrong)

/-- 'laws.FnExactDaysInYear': WHATEVER THE INPUT: true; the input reads as it did. -/
def fnExactDaysInYearSpec : ChangeSpec := { name := "fnExactDaysInYear", fn := fun _ => fun
  | [d1, d2] => { results := [.lit (.bool true)], args := [d1, d2] }
  | _ => none }
def fnExactDaysInYearRow : OpenClaim := { program := "ytaamnmpbkdinpaa", sum := "bb749dc45e2312588c5d5553f4d5b657d2c2e3331393f0d668bc87e2e6a24be1", func := "loop.example/g00921/laws.FnExactDaysInYear", spec := "fnExactDaysInYear", unfollowed := true, recurses := true, apart := false }
def FnExactDaysInYearSaid : Prop := fnExactDaysInYearRow.holds Try.pinned (OpenSpec.ofChange fnExactDaysInYearSpec)

/-- ITS FALSE NEIGHBOUR: 'it returns false'. Refute it at one input. -/
def fnExactDaysInYearWrong : ChangeSpec := { name := "fnExactDaysInYear", fn := fun _ => fun
  | [d1, d2] => { results := [.lit (.bool false)], args := [d1, d2] }
  | _ => none }
def FnExactDaysInYearWrongFalsely : Prop := fnExactDaysInYearRow.holds Try.pinned (OpenSpec.ofChange fnExactDaysInYearWrong)

/- THE SECOND FORM. 'bulk': how many values and letters a reading holds, each counted each time it is reached (what is shared counts as often as it is met; a slice's spare places count too). A statement '..UptoSaid' is the law's where the arguments, and the package variables that the reading takes, are together of bulk at most 1048576: NARROWER than '..Said'. Prove '..Said' where nothing that the law and all that it calls make is longer than what came in: it says more and counts as full. Else prove '..UptoSaid'. A law counts once. -/
mutual
def uptoBulk {H : Type} : DataW H → Nat
  | .lit (.string bytes) => bytes.length + 1
  | .lit _ => 1
  | .nil => 1
  | .ptr d => uptoBulk d + 1
  | .slice elems spare => uptoBulkAll elems + uptoBulkAll spare + 1
  | .agg parts => uptoBulkAll parts + 1
  | .iface _ d => uptoBulk d + 1
  | .map entries => uptoBulkEntries entries + 1
  | .held _ => 1
def uptoBulkAll {H : Type} : List (DataW H) → Nat
  | [] => 0
  | d :: r => uptoBulk d + uptoBulkAll r
def uptoBulkEntries {H : Type} : List (Lit × DataW H) → Nat
  | [] => 0
  | x :: r => uptoBulkEntry x + uptoBulkEntries r
def uptoBulkEntry {H : Type} : Lit × DataW H → Nat
  | (.string bytes, d) => bytes.length + uptoBulk d + 1
  | (_, d) => uptoBulk d + 1
 end
def uptoSmall : (H : Type) → List (DataW H) → Bool := fun _ ds => decide (uptoBulkAll ds ≤ 1048576)
def OpenSpec.upto (s : _root_.Go.ChangeSpec) : _root_.Go.OpenSpec := { _root_.Go.OpenSpec.ofChange s with cond := some uptoSmall }

/-- 'laws.FnExactSameCalendar', WHERE WHAT IT READS IS OF BULK AT MOST 1048576: true; the input reads as it did. -/
def fnExactSameCalendarUptoRow : OpenClaim := { program := "ytaamnmpbkdinpaa", sum := "bb749dc45e2312588c5d5553f4d5b657d2c2e3331393f0d668bc87e2e6a24be1", func := "loop.example/g00921/laws.FnExactSameCalendar", spec := "fnExactSameCalendar", apart := false, narrowed := true }
def FnExactSameCalendarUptoSaid : Prop := fnExactSameCalendarUptoRow.holds Try.pinned (OpenSpec.upto fnExactSameCalendarSpec)

/-- 'laws.FnExactValidCalendar', WHERE WHAT IT READS IS OF BULK AT MOST 1048576: true; the input reads as it did. -/
def fnExactValidCalendarUptoRow : OpenClaim := { program := "ytaamnmpbkdinpaa", sum := "bb749dc45e2312588c5d5553f4d5b657d2c2e3331393f0d668bc87e2e6a24be1", func := "loop.example/g00921/laws.FnExactValidCalendar", spec := "fnExactValidCalendar", unfollowed := true, recurses := true, apart := false, narrowed := true }
def FnExactValidCalendarUptoSaid : Prop := fnExactValidCalendarUptoRow.holds Try.pinned (OpenSpec.upto fnExactValidCalendarSpec)

/-- 'laws.FnExactIsLeapYear', WHERE WHAT IT READS IS OF BULK AT MOST 1048576: true; the input reads as it did. -/
def fnExactIsLeapYearUptoRow : OpenClaim := { program := "ytaamnmpbkdinpaa", sum := "bb749dc45e2312588c5d5553f4d5b657d2c2e3331393f0d668bc87e2e6a24be1", func := "loop.example/g00921/laws.FnExactIsLeapYear", spec := "fnExactIsLeapYear", unfollowed := true, recurses := true, apart := false, narrowed := true }
def FnExactIsLeapYearUptoSaid : Prop := fnExactIsLeapYearUptoRow.holds Try.pinned (OpenSpec.upto fnExactIsLeapYearSpec)

/-- 'laws.FnExactDaysInMonth', WHERE WHAT IT READS IS OF BULK AT MOST 1048576: true; the input reads as it did. -/
def fnExactDaysInMonthUptoRow : OpenClaim := { program := "ytaamnmpbkdinpaa", sum := "bb749dc45e2312588c5d5553f4d5b657d2c2e3331393f0d668bc87e2e6a24be1", func := "loop.example/g00921/laws.FnExactDaysInMonth", spec := "fnExactDaysInMonth", unfollowed := true, recurses := true, apart := false, narrowed := true }
def FnExactDaysInMonthUptoSaid : Prop := fnExactDaysInMonthUptoRow.holds Try.pinned (OpenSpec.upto fnExactDaysInMonthSpec)

/-- 'laws.FnExactValidDate', WHERE WHAT IT READS IS OF BULK AT MOST 1048576: true; the input reads as it did. -/
def fnExactValidDateUptoRow : OpenClaim := { program := "ytaamnmpbkdinpaa", sum := "bb749dc45e2312588c5d5553f4d5b657d2c2e3331393f0d668bc87e2e6a24be1", func := "loop.example/g00921/laws.FnExactValidDate", spec := "fnExactValidDate", unfollowed := true, recurses := true, apart := false, narrowed := true }
def FnExactValidDateUptoSaid : Prop := fnExactValidDateUptoRow.holds Try.pinned (OpenSpec.upto fnExactValidDateSpec)

/-- 'laws.FnExactDaysInYear', WHERE WHAT IT READS IS OF BULK AT MOST 1048576: true; the input reads as it did. -/
def fnExactDaysInYearUptoRow : OpenClaim := { program := "ytaamnmpbkdinpaa", sum := "bb749dc45e2312588c5d5553f4d5b657d2c2e3331393f0d668bc87e2e6a24be1", func := "loop.example/g00921/laws.FnExactDaysInYear", spec := "fnExactDaysInYear", unfollowed := true, recurses := true, apart := false, narrowed := true }
def FnExactDaysInYearUptoSaid : Prop := fnExactDaysInYearUptoRow.holds Try.pinned (OpenSpec.upto fnExactDaysInYearSpec)

end Rows
end Go.Proofs.Ytaamnmpbkdinpaa
