/-
  No cell of these rows narrows 'for every input' (looked for: loops, veiled, ifaces, maps, wideKeys, modest, calm, conditions, laid).
  DERIVED. THE GIVEN ROWS OF THIS SEAT. 9 by the template 'for every input the law returns true; each argument reads behind the call as it read before'; 0 by the template 'total and deterministic' (their statements: YtggkemiklknmkaaTotals.lean).
  GIVEN WITH THE SEED: the statements are not yours to turn. If you find one false, say at which input.
  Laid BY PROGRAM, IN A SANDBOX (cutbox-rows.mjs): the forced cells as the released guide's own fill.sh prints them over the translation 40083fcf7f3b0409… (all of the seat's roots in one cut). By AI agents, Wed Nov 11 2026. No macro, syntax, notation, axiom, sorry.
-/
import Derived.Test.YtggkemiklknmkaaChecked
import GoSem.Claim
import GoSem.ClaimJoined
import GoSem.ClaimMapViews
import Derived.JoinedTies
import Derived.KernelRfl
namespace Go.Proofs.Ytggkemiklknmkaa
/- THE CELL 'sum', in the pinned program and in every row, IS THE sha256 OF THE DUMP (.gsa) THAT YtggkemiklknmkaaProg.lean LOADS. Nothing in Lean hashes anything: it is a label: what it is worth is what the hold of that sum in a sandbox is worth. -/
noncomputable def Try.pinned : Pinned := { name := "ytggkemiklknmkaa", sum := "40083fcf7f3b0409f7cfb06c8e662252818e84f15d14ee7840e67655b0fe4b72", checked := Try.checked }
namespace Rows
def none {H : Type} : Left H := { results := [], args := [] }

/-- 'laws.FnExactCycleOf': WHATEVER THE INPUT: true; the input reads as it did. -/
def fnExactCycleOfSpec : ChangeSpec := { name := "fnExactCycleOf", fn := fun _ => fun
  | [d] => { results := [.lit (.bool true)], args := [d] }
  | _ => none }
def fnExactCycleOfRow : OpenClaim := { program := "ytggkemiklknmkaa", sum := "40083fcf7f3b0409f7cfb06c8e662252818e84f15d14ee7840e67655b0fe4b72", func := "loop.example/g00921/laws.FnExactCycleOf", spec := "fnExactCycleOf", unfollowed := true, recurses := true, apart := false }
def FnExactCycleOfSaid : Prop := fnExactCycleOfRow.holds Try.pinned (OpenSpec.ofChange fnExactCycleOfSpec)

/-- ITS FALSE NEIGHBOUR: 'it returns false'. Refute it at one input. -/
def fnExactCycleOfWrong : ChangeSpec := { name := "fnExactCycleOf", fn := fun _ => fun
  | [d] => { results := [.lit (.bool false)], args := [d] }
  | _ => none }
def FnExactCycleOfWrongFalsely : Prop := fnExactCycleOfRow.holds Try.pinned (OpenSpec.ofChange fnExactCycleOfWrong)

/-- 'laws.FnExactLastDay': WHATEVER THE INPUT: true; the input reads as it did. -/
def fnExactLastDaySpec : ChangeSpec := { name := "fnExactLastDay", fn := fun _ => fun
  | [d] => { results := [.lit (.bool true)], args := [d] }
  | _ => none }
def fnExactLastDayRow : OpenClaim := { program := "ytggkemiklknmkaa", sum := "40083fcf7f3b0409f7cfb06c8e662252818e84f15d14ee7840e67655b0fe4b72", func := "loop.example/g00921/laws.FnExactLastDay", spec := "fnExactLastDay", unfollowed := true, recurses := true, apart := false }
def FnExactLastDaySaid : Prop := fnExactLastDayRow.holds Try.pinned (OpenSpec.ofChange fnExactLastDaySpec)

/-- ITS FALSE NEIGHBOUR: 'it returns false'. Refute it at one input. -/
def fnExactLastDayWrong : ChangeSpec := { name := "fnExactLastDay", fn := fun _ => fun
  | [d] => { results := [.lit (.bool false)], args := [d] }
  | _ => none }
def FnExactLastDayWrongFalsely : Prop := fnExactLastDayRow.holds Try.pinned (OpenSpec.ofChange fnExactLastDayWrong)

/-- 'laws.FnExactDayOf': WHATEVER THE INPUT: true; the input reads as it did. -/
def fnExactDayOfSpec : ChangeSpec := { name := "fnExactDayOf", fn := fun _ => fun
  | [d1, d2] => { results := [.lit (.bool true)], args := [d1, d2] }
  | _ => none }
def fnExactDayOfRow : OpenClaim := { program := "ytggkemiklknmkaa", sum := "40083fcf7f3b0409f7cfb06c8e662252818e84f15d14ee7840e67655b0fe4b72", func := "loop.example/g00921/laws.FnExactDayOf", spec := "fnExactDayOf", unfollowed := true, recurses := true, apart := false }
def FnExactDayOfSaid : Prop := fnExactDayOfRow.holds Try.pinned (OpenSpec.ofChange fnExactDayOfSpec)

/-- ITS FALSE NEIGHBOUR: 'it returns false'. Refute it at one input. -/
def fnExactDayOfWrong : ChangeSpec := { name := "fnExactDayOf", fn := fun _ => fun
  | [d1, d2] => { results := [.lit (.bool false)], args := [d1, d2] }
  | _ => none }
def FnExactDayOfWrongFalsely : Prop := fnExactDayOfRow.holds Try.pinned (OpenSpec.ofChange fnExactDayOfWrong)

/-- 'laws.FnExactDaysBetween': WHATEVER THE INPUT: true; the input reads as it did. -/
def fnExactDaysBetweenSpec : ChangeSpec := { name := "fnExactDaysBetween", fn := fun _ => fun
  | [d1, d2, d3] => { results := [.lit (.bool true)], args := [d1, d2, d3] }
  | _ => none }
def fnExactDaysBetweenRow : OpenClaim := { program := "ytggkemiklknmkaa", sum := "40083fcf7f3b0409f7cfb06c8e662252818e84f15d14ee7840e67655b0fe4b72", func := "loop.example/g00921/laws.FnExactDaysBetween", spec := "fnExactDaysBetween", unfollowed := true, recurses := true, apart := false }
def FnExactDaysBetweenSaid : Prop := fnExactDaysBetweenRow.holds Try.pinned (OpenSpec.ofChange fnExactDaysBetweenSpec)

/-- ITS FALSE NEIGHBOUR: 'it returns false'. Refute it at one input. -/
def fnExactDaysBetweenWrong : ChangeSpec := { name := "fnExactDaysBetween", fn := fun _ => fun
  | [d1, d2, d3] => { results := [.lit (.bool false)], args := [d1, d2, d3] }
  | _ => none }
def FnExactDaysBetweenWrongFalsely : Prop := fnExactDaysBetweenRow.holds Try.pinned (OpenSpec.ofChange fnExactDaysBetweenWrong)

/-- 'laws.FnExactWeekdayOf': WHATEVER THE INPUT: true; the input reads as it did. -/
def fnExactWeekdayOfSpec : ChangeSpec := { name := "fnExactWeekdayOf", fn := fun _ => fun
  | [d1, d2, d3] => { results := [.lit (.bool true)], args := [d1, d2, d3] }
  | _ => none }
def fnExactWeekdayOfRow : OpenClaim := { program := "ytggkemiklknmkaa", sum := "40083fcf7f3b0409f7cfb06c8e662252818e84f15d14ee7840e67655b0fe4b72", func := "loop.example/g00921/laws.FnExactWeekdayOf", spec := "fnExactWeekdayOf", unfollowed := true, recurses := true, apart := false }
def FnExactWeekdayOfSaid : Prop := fnExactWeekdayOfRow.holds Try.pinned (OpenSpec.ofChange fnExactWeekdayOfSpec)

/-- ITS FALSE NEIGHBOUR: 'it returns false'. Refute it at one input. -/
def fnExactWeekdayOfWrong : ChangeSpec := { name := "fnExactWeekdayOf", fn := fun _ => fun
  | [d1, d2, d3] => { results := [.lit (.bool false)], args := [d1, d2, d3] }
  | _ => none }
def FnExactWeekdayOfWrongFalsely : Prop := fnExactWeekdayOfRow.holds Try.pinned (OpenSpec.ofChange fnExactWeekdayOfWrong)

/-- 'laws.FnExactDateOf': WHATEVER THE INPUT: true; the input reads as it did. -/
def fnExactDateOfSpec : ChangeSpec := { name := "fnExactDateOf", fn := fun _ => fun
  | [d1, d2] => { results := [.lit (.bool true)], args := [d1, d2] }
  | _ => none }
def fnExactDateOfRow : OpenClaim := { program := "ytggkemiklknmkaa", sum := "40083fcf7f3b0409f7cfb06c8e662252818e84f15d14ee7840e67655b0fe4b72", func := "loop.example/g00921/laws.FnExactDateOf", spec := "fnExactDateOf", unfollowed := true, recurses := true, apart := false }
def FnExactDateOfSaid : Prop := fnExactDateOfRow.holds Try.pinned (OpenSpec.ofChange fnExactDateOfSpec)

/-- ITS FALSE NEIGHBOUR: 'it returns false'. Refute it at one input. -/
def fnExactDateOfWrong : ChangeSpec := { name := "fnExactDateOf", fn := fun _ => fun
  | [d1, d2] => { results := [.lit (.bool false)], args := [d1, d2] }
  | _ => none }
def FnExactDateOfWrongFalsely : Prop := fnExactDateOfRow.holds Try.pinned (OpenSpec.ofChange fnExactDateOfWrong)

/-- 'laws.FnExactMeanYear': WHATEVER THE INPUT: true; the input reads as it did. -/
def fnExactMeanYearSpec : ChangeSpec := { name := "fnExactMeanYear", fn := fun _ => fun
  | [d] => { results := [.lit (.bool true)], args := [d] }
  | _ => none }
def fnExactMeanYearRow : OpenClaim := { program := "ytggkemiklknmkaa", sum := "40083fcf7f3b0409f7cfb06c8e662252818e84f15d14ee7840e67655b0fe4b72", func := "loop.example/g00921/laws.FnExactMeanYear", spec := "fnExactMeanYear", unfollowed := true, recurses := true, apart := false }
def FnExactMeanYearSaid : Prop := fnExactMeanYearRow.holds Try.pinned (OpenSpec.ofChange fnExactMeanYearSpec)

/-- ITS FALSE NEIGHBOUR: 'it returns false'. Refute it at one input. -/
def fnExactMeanYearWrong : ChangeSpec := { name := "fnExactMeanYear", fn := fun _ => fun
  | [d] => { results := [.lit (.bool false)], args := [d] }
  | _ => none }
def FnExactMeanYearWrongFalsely : Prop := fnExactMeanYearRow.holds Try.pinned (OpenSpec.ofChange fnExactMeanYearWrong)

/-- 'laws.FnExactAddDays': WHATEVER THE INPUT: true; the input reads as it did. -/
def fnExactAddDaysSpec : ChangeSpec := { name := "fnExactAddDays", fn := fun _ => fun
  | [d1, d2, d3] => { results := [.lit (.bool true)], args := [d1, d2, d3] }
  | _ => none }
def fnExactAddDaysRow : OpenClaim := { program := "ytggkemiklknmkaa", sum := "40083fcf7f3b0409f7cfb06c8e662252818e84f15d14ee7840e67655b0fe4b72", func := "loop.example/g00921/laws.FnExactAddDays", spec := "fnExactAddDays", unfollowed := true, recurses := true, apart := false }
def FnExactAddDaysSaid : Prop := fnExactAddDaysRow.holds Try.pinned (OpenSpec.ofChange fnExactAddDaysSpec)

/-- ITS FALSE NEIGHBOUR: 'it returns false'. Refute it at one input. -/
def fnExactAddDaysWrong : ChangeSpec := { name := "fnExactAddDays", fn := fun _ => fun
  | [d1, d2, d3] => { results := [.lit (.bool false)], args := [d1, d2, d3] }
  | _ => none }
def FnExactAddDaysWrongFalsely : Prop := fnExactAddDaysRow.holds Try.pinned (OpenSpec.ofChange fnExactAddDaysWrong)

/-- 'laws.FnExactConvertDate': WHATEVER THE INPUT: true; the input reads as it did. -/
def fnExactConvertDateSpec : ChangeSpec := { name := "fnExactConvertDate", fn := fun _ => fun
  | [d1, d2, d3, d4] => { results := [.lit (.bool true)], args := [d1, d2, d3, d4] }
  | _ => none }
def fnExactConvertDateRow : OpenClaim := { program := "ytggkemiklknmkaa", sum := "40083fcf7f3b0409f7cfb06c8e662252818e84f15d14ee7840e67655b0fe4b72", func := "loop.example/g00921/laws.FnExactConvertDate", spec := "fnExactConvertDate", unfollowed := true, recurses := true, apart := false }
def FnExactConvertDateSaid : Prop := fnExactConvertDateRow.holds Try.pinned (OpenSpec.ofChange fnExactConvertDateSpec)

/-- ITS FALSE NEIGHBOUR: 'it returns false'. Refute it at one input. -/
def fnExactConvertDateWrong : ChangeSpec := { name := "fnExactConvertDate", fn := fun _ => fun
  | [d1, d2, d3, d4] => { results := [.lit (.bool false)], args := [d1, d2, d3, d4] }
  | _ => none }
def FnExactConvertDateWrongFalsely : Prop := fnExactConvertDateRow.holds Try.pinned (OpenSpec.ofChange fnExactConvertDateWrong)

/- THE SECOND FORM. 'bulk': how many values and letters a reading holds, each counted each time it is reached (what is shared counts as often as it is met; a slice's spare places count too). A statement '..UptoSaid' is the law's where the arguments, and the package variables that the reading takes, are together of bulk at most 1048576: NARROWER than '..Said'. Prove '..Said' where nothing that the law and all that it calls make is longer than what came in: it says more and counts as full. Else prove '..UptoSaid'. A law counts once. -/
mutual
def uptoBulk {H : Type} : DataW H → Nat
  | .lit (.string bytes) => bytes.length + 1
  | .lit _ => 1
  | .nil => 1
  | .ptr d => uptoBulk d + 1
  | .slice elems spare => uptoBulkAll elems + uptoBulkAll spare + 1
  | .agg parts => uptoBulkAll parts + 1
  | .iface _ d => uptoBulk d + 1
  | .map entries => uptoBulkEntries entries + 1
  | .held _ => 1
def uptoBulkAll {H : Type} : List (DataW H) → Nat
  | [] => 0
  | d :: r => uptoBulk d + uptoBulkAll r
def uptoBulkEntries {H : Type} : List (Lit × DataW H) → Nat
  | [] => 0
  | x :: r => uptoBulkEntry x + uptoBulkEntries r
def uptoBulkEntry {H : Type} : Lit × DataW H → Nat
  | (.string bytes, d) => bytes.length + uptoBulk d + 1
  | (_, d) => uptoBulk d + 1
 end
def uptoSmall : (H : Type) → List (DataW H) → Bool := fun _ ds => decide (uptoBulkAll ds ≤ 1048576)
def OpenSpec.upto (s : _root_.Go.ChangeSpec) : _root_.Go.OpenSpec := { _root_.Go.OpenSpec.ofChange s with cond := some uptoSmall }

/-- 'laws.FnExactCycleOf', WHERE WHAT IT READS IS OF BULK AT MOST 1048576: true; the input reads as it did. -/
def fnExactCycleOfUptoRow : OpenClaim := { program := "ytggkemiklknmkaa", sum := "40083fcf7f3b0409f7cfb06c8e662252818e84f15d14ee7840e67655b0fe4b72", func := "loop.example/g00921/laws.FnExactCycleOf", spec := "fnExactCycleOf", unfollowed := true, recurses := true, apart := false, narrowed := true }
def FnExactCycleOfUptoSaid : Prop := fnExactCycleOfUptoRow.holds Try.pinned (OpenSpec.upto fnExactCycleOfSpec)

/-- 'laws.FnExactLastDay', WHERE WHAT IT READS IS OF BULK AT MOST 1048576: true; the input reads as it did. -/
def fnExactLastDayUptoRow : OpenClaim := { program := "ytggkemiklknmkaa", sum := "40083fcf7f3b0409f7cfb06c8e662252818e84f15d14ee7840e67655b0fe4b72", func := "loop.example/g00921/laws.FnExactLastDay", spec := "fnExactLastDay", unfollowed := true, recurses := true, apart := false, narrowed := true }
def FnExactLastDayUptoSaid : Prop := fnExactLastDayUptoRow.holds Try.pinned (OpenSpec.upto fnExactLastDaySpec)

/-- 'laws.FnExactDayOf', WHERE WHAT IT READS IS OF BULK AT MOST 1048576: true; the input reads as it did. -/
def fnExactDayOfUptoRow : OpenClaim := { program := "ytggkemiklknmkaa", sum := "40083fcf7f3b0409f7cfb06c8e662252818e84f15d14ee7840e67655b0fe4b72", func := "loop.example/g00921/laws.FnExactDayOf", spec := "fnExactDayOf", unfollowed := true, recurses := true, apart := false, narrowed := true }
def FnExactDayOfUptoSaid : Prop := fnExactDayOfUptoRow.holds Try.pinned (OpenSpec.upto fnExactDayOfSpec)

/-- 'laws.FnExactDaysBetween', WHERE WHAT IT READS IS OF BULK AT MOST 1048576: true; the input reads as it did. -/
def fnExactDaysBetweenUptoRow : OpenClaim := { program := "ytggkemiklknmkaa", sum := "40083fcf7f3b0409f7cfb06c8e662252818e84f15d14ee7840e67655b0fe4b72", func := "loop.example/g00921/laws.FnExactDaysBetween", spec := "fnExactDaysBetween", unfollowed := true, recurses := true, apart := false, narrowed := true }
def FnExactDaysBetweenUptoSaid : Prop := fnExactDaysBetweenUptoRow.holds Try.pinned (OpenSpec.upto fnExactDaysBetweenSpec)

/-- 'laws.FnExactWeekdayOf', WHERE WHAT IT READS IS OF BULK AT MOST 1048576: true; the input reads as it did. -/
def fnExactWeekdayOfUptoRow : OpenClaim := { program := "ytggkemiklknmkaa", sum := "40083fcf7f3b0409f7cfb06c8e662252818e84f15d14ee7840e67655b0fe4b72", func := "loop.example/g00921/laws.FnExactWeekdayOf", spec := "fnExactWeekdayOf", unfollowed := true, recurses := true, apart := false, narrowed := true }
def FnExactWeekdayOfUptoSaid : Prop := fnExactWeekdayOfUptoRow.holds Try.pinned (OpenSpec.upto fnExactWeekdayOfSpec)

/-- 'laws.FnExactDateOf', WHERE WHAT IT READS IS OF BULK AT MOST 1048576: true; the input reads as it did. -/
def fnExactDateOfUptoRow : OpenClaim := { program := "ytggkemiklknmkaa", sum := "40083fcf7f3b0409f7cfb06c8e662252818e84f15d14ee7840e67655b0fe4b72", func := "loop.example/g00921/laws.FnExactDateOf", spec := "fnExactDateOf", unfollowed := true, recurses := true, apart := false, narrowed := true }
def FnExactDateOfUptoSaid : Prop := fnExactDateOfUptoRow.holds Try.pinned (OpenSpec.upto fnExactDateOfSpec)

/-- 'laws.FnExactMeanYear', WHERE WHAT IT READS IS OF BULK AT MOST 1048576: true; the input reads as it did. -/
def fnExactMeanYearUptoRow : OpenClaim := { program := "ytggkemiklknmkaa", sum := "40083fcf7f3b0409f7cfb06c8e662252818e84f15d14ee7840e67655b0fe4b72", func := "loop.example/g00921/laws.FnExactMeanYear", spec := "fnExactMeanYear", unfollowed := true, recurses := true, apart := false, narrowed := true }
def FnExactMeanYearUptoSaid : Prop := fnExactMeanYearUptoRow.holds Try.pinned (OpenSpec.upto fnExactMeanYearSpec)

/-- 'laws.FnExactAddDays', WHERE WHAT IT READS IS OF BULK AT MOST 1048576: true; the input reads as it did. -/
def fnExactAddDaysUptoRow : OpenClaim := { program := "ytggkemiklknmkaa", sum := "40083fcf7f3b0409f7cfb06c8e662252818e84f15d14ee7840e67655b0fe4b72", func := "loop.example/g00921/laws.FnExactAddDays", spec := "fnExactAddDays", unfollowed := true, recurses := true, apart := false, narrowed := true }
def FnExactAddDaysUptoSaid : Prop := fnExactAddDaysUptoRow.holds Try.pinned (OpenSpec.upto fnExactAddDaysSpec)

/-- 'laws.FnExactConvertDate', WHERE WHAT IT READS IS OF BULK AT MOST 1048576: true; the input reads as it did. -/
def fnExactConvertDateUptoRow : OpenClaim := { program := "ytggkemiklknmkaa", sum := "40083fcf7f3b0409f7cfb06c8e662252818e84f15d14ee7840e67655b0fe4b72", func := "loop.example/g00921/laws.FnExactConvertDate", spec := "fnExactConvertDate", unfollowed := true, recurses := true, apart := false, narrowed := true }
def FnExactConvertDateUptoSaid : Prop := fnExactConvertDateUptoRow.holds Try.pinned (OpenSpec.upto fnExactConvertDateSpec)

end Rows
end Go.Proofs.Ytggkemiklknmkaa
