/-
  No cell of these rows narrows 'for every input' (looked for: loops, veiled, ifaces, maps, wideKeys, modest, calm, conditions, laid).
  DERIVED. THE GIVEN ROWS OF THIS SEAT. 4 by the template 'for every input the law returns true; each argument reads behind the call as it read before'; 0 by the template 'total and deterministic' (their statements: YtjlfniabbahghaaTotals.lean).
  GIVEN WITH THE SEED: the statements are not yours to turn. If you find one false, say at which input.
  Laid BY PROGRAM, IN A SANDBOX (cutbox-rows.mjs): the forced cells as the released guide's own fill.sh prints them over the translation 3d14de53d95ec011… (all of the seat's roots in one cut). By AI agents, Wed Nov 11 2026. No macro, syntax, notation, axiom, sorry.
-/
import Derived.Test.YtjlfniabbahghaaChecked
import GoSem.Claim
import GoSem.ClaimJoined
import GoSem.ClaimMapViews
import Derived.JoinedTies
import Derived.KernelRfl
namespace Go.Proofs.Ytjlfniabbahghaa
/- THE CELL 'sum', in the pinned program and in every row, IS THE sha256 OF THE DUMP (.gsa) THAT YtjlfniabbahghaaProg.lean LOADS. Nothing in Lean hashes anything: it is a label: what it is worth is what the hold of that sum in a sandbox is worth. -/
noncomputable def Try.pinned : Pinned := { name := "ytjlfniabbahghaa", sum := "3d14de53d95ec0114efe084936e31916284e7e6ea8f3569e85b4e3a5ece7363c", checked := Try.checked }
namespace Rows
def none {H : Type} : Left H := { results := [], args := [] }

/-- 'laws.FnExactValidCam': WHATEVER THE INPUT: true; the input reads as it did. -/
def fnExactValidCamSpec : ChangeSpec := { name := "fnExactValidCam", fn := fun _ => fun
  | [d] => { results := [.lit (.bool true)], args := [d] }
  | _ => none }
def fnExactValidCamRow : OpenClaim := { program := "ytjlfniabbahghaa", sum := "3d14de53d95ec0114efe084936e31916284e7e6ea8f3569e85b4e3a5ece7363c", func := "loop.example/g00921/laws.FnExactValidCam", spec := "fnExactValidCam", apart := false }
def FnExactValidCamSaid : Prop := fnExactValidCamRow.holds Try.pinned (OpenSpec.ofChange fnExactValidCamSpec)

/-- ITS FALSE NEIGHBOUR: 'it returns false'. Refute it at one input. -/
def fnExactValidCamWrong : ChangeSpec := { name := "fnExactValidCam", fn := fun _ => fun
  | [d] => { results := [.lit (.bool false)], args := [d] }
  | _ => none }
def FnExactValidCamWrongFalsely : Prop := fnExactValidCamRow.holds Try.pinned (OpenSpec.ofChange fnExactValidCamWrong)

/-- 'laws.FnExactCalendarNames': WHATEVER THE INPUT: true; the input reads as it did. -/
def fnExactCalendarNamesSpec : ChangeSpec := { name := "fnExactCalendarNames", fn := fun _ => fun
  | [] => { results := [.lit (.bool true)], args := [] }
  | _ => none }
def fnExactCalendarNamesRow : OpenClaim := { program := "ytjlfniabbahghaa", sum := "3d14de53d95ec0114efe084936e31916284e7e6ea8f3569e85b4e3a5ece7363c", func := "loop.example/g00921/laws.FnExactCalendarNames", spec := "fnExactCalendarNames", apart := false }
def FnExactCalendarNamesSaid : Prop := fnExactCalendarNamesRow.holds Try.pinned (OpenSpec.ofChange fnExactCalendarNamesSpec)

/-- ITS FALSE NEIGHBOUR: 'it returns false'. Refute it at one input. -/
def fnExactCalendarNamesWrong : ChangeSpec := { name := "fnExactCalendarNames", fn := fun _ => fun
  | [] => { results := [.lit (.bool false)], args := [] }
  | _ => none }
def FnExactCalendarNamesWrongFalsely : Prop := fnExactCalendarNamesRow.holds Try.pinned (OpenSpec.ofChange fnExactCalendarNamesWrong)

/-- 'laws.FnExactCompareDate': WHATEVER THE INPUT: true; the input reads as it did. -/
def fnExactCompareDateSpec : ChangeSpec := { name := "fnExactCompareDate", fn := fun _ => fun
  | [d1, d2] => { results := [.lit (.bool true)], args := [d1, d2] }
  | _ => none }
def fnExactCompareDateRow : OpenClaim := { program := "ytjlfniabbahghaa", sum := "3d14de53d95ec0114efe084936e31916284e7e6ea8f3569e85b4e3a5ece7363c", func := "loop.example/g00921/laws.FnExactCompareDate", spec := "fnExactCompareDate", apart := false }
def FnExactCompareDateSaid : Prop := fnExactCompareDateRow.holds Try.pinned (OpenSpec.ofChange fnExactCompareDateSpec)

/-- ITS FALSE NEIGHBOUR: 'it returns false'. Refute it at one input. -/
def fnExactCompareDateWrong : ChangeSpec := { name := "fnExactCompareDate", fn := fun _ => fun
  | [d1, d2] => { results := [.lit (.bool false)], args := [d1, d2] }
  | _ => none }
def FnExactCompareDateWrongFalsely : Prop := fnExactCompareDateRow.holds Try.pinned (OpenSpec.ofChange fnExactCompareDateWrong)

/-- 'laws.FnExactCamPeriod': WHATEVER THE INPUT: true; the input reads as it did. -/
def fnExactCamPeriodSpec : ChangeSpec := { name := "fnExactCamPeriod", fn := fun _ => fun
  | [d] => { results := [.lit (.bool true)], args := [d] }
  | _ => none }
def fnExactCamPeriodRow : OpenClaim := { program := "ytjlfniabbahghaa", sum := "3d14de53d95ec0114efe084936e31916284e7e6ea8f3569e85b4e3a5ece7363c", func := "loop.example/g00921/laws.FnExactCamPeriod", spec := "fnExactCamPeriod", apart := false }
def FnExactCamPeriodSaid : Prop := fnExactCamPeriodRow.holds Try.pinned (OpenSpec.ofChange fnExactCamPeriodSpec)

/-- ITS FALSE NEIGHBOUR: 'it returns false'. Refute it at one input. -/
def fnExactCamPeriodWrong : ChangeSpec := { name := "fnExactCamPeriod", fn := fun _ => fun
  | [d] => { results := [.lit (.bool false)], args := [d] }
  | _ => none }
def FnExactCamPeriodWrongFalsely : Prop := fnExactCamPeriodRow.holds Try.pinned (OpenSpec.ofChange fnExactCamPeriodWrong)

/- THE SECOND FORM. 'bulk': how many values and letters a reading holds, each counted each time it is reached (what is shared counts as often as it is met; a slice's spare places count too). A statement '..UptoSaid' is the law's where the arguments, and the package variables that the reading takes, are together of bulk at most 1048576: NARROWER than '..Said'. Prove '..Said' where nothing that the law and all that it calls make is longer than what came in: it says more and counts as full. Else prove '..UptoSaid'. A law counts once. -/
mutual
def uptoBulk {H : Type} : DataW H → Nat
  | .lit (.string bytes) => bytes.length + 1
  | .lit _ => 1
  | .nil => 1
  | .ptr d => uptoBulk d + 1
  | .slice elems spare => uptoBulkAll elems + uptoBulkAll spare + 1
  | .agg parts => uptoBulkAll parts + 1
  | .iface _ d => uptoBulk d + 1
  | .map entries => uptoBulkEntries entries + 1
  | .held _ => 1
def uptoBulkAll {H : Type} : List (DataW H) → Nat
  | [] => 0
  | d :: r => uptoBulk d + uptoBulkAll r
def uptoBulkEntries {H : Type} : List (Lit × DataW H) → Nat
  | [] => 0
  | x :: r => uptoBulkEntry x + uptoBulkEntries r
def uptoBulkEntry {H : Type} : Lit × DataW H → Nat
  | (.string bytes, d) => bytes.length + uptoBulk d + 1
  | (_, d) => uptoBulk d + 1
 end
def uptoSmall : (H : Type) → List (DataW H) → Bool := fun _ ds => decide (uptoBulkAll ds ≤ 1048576)
def OpenSpec.upto (s : _root_.Go.ChangeSpec) : _root_.Go.OpenSpec := { _root_.Go.OpenSpec.ofChange s with cond := some uptoSmall }

/-- 'laws.FnExactValidCam', WHERE WHAT IT READS IS OF BULK AT MOST 1048576: true; the input reads as it did. -/
def fnExactValidCamUptoRow : OpenClaim := { program := "ytjlfniabbahghaa", sum := "3d14de53d95ec0114efe084936e31916284e7e6ea8f3569e85b4e3a5ece7363c", func := "loop.example/g00921/laws.FnExactValidCam", spec := "fnExactValidCam", apart := false, narrowed := true }
def FnExactValidCamUptoSaid : Prop := fnExactValidCamUptoRow.holds Try.pinned (OpenSpec.upto fnExactValidCamSpec)

/-- 'laws.FnExactCalendarNames', WHERE WHAT IT READS IS OF BULK AT MOST 1048576: true; the input reads as it did. -/
def fnExactCalendarNamesUptoRow : OpenClaim := { program := "ytjlfniabbahghaa", sum := "3d14de53d95ec0114efe084936e31916284e7e6ea8f3569e85b4e3a5ece7363c", func := "loop.example/g00921/laws.FnExactCalendarNames", spec := "fnExactCalendarNames", apart := false, narrowed := true }
def FnExactCalendarNamesUptoSaid : Prop := fnExactCalendarNamesUptoRow.holds Try.pinned (OpenSpec.upto fnExactCalendarNamesSpec)

/-- 'laws.FnExactCompareDate', WHERE WHAT IT READS IS OF BULK AT MOST 1048576: true; the input reads as it did. -/
def fnExactCompareDateUptoRow : OpenClaim := { program := "ytjlfniabbahghaa", sum := "3d14de53d95ec0114efe084936e31916284e7e6ea8f3569e85b4e3a5ece7363c", func := "loop.example/g00921/laws.FnExactCompareDate", spec := "fnExactCompareDate", apart := false, narrowed := true }
def FnExactCompareDateUptoSaid : Prop := fnExactCompareDateUptoRow.holds Try.pinned (OpenSpec.upto fnExactCompareDateSpec)

/-- 'laws.FnExactCamPeriod', WHERE WHAT IT READS IS OF BULK AT MOST 1048576: true; the input reads as it did. -/
def fnExactCamPeriodUptoRow : OpenClaim := { program := "ytjlfniabbahghaa", sum := "3d14de53d95ec0114efe084936e31916284e7e6ea8f3569e85b4e3a5ece7363c", func := "loop.example/g00921/laws.FnExactCamPeriod", spec := "fnExactCamPeriod", apart := false, narrowed := true }
def FnExactCamPeriodUptoSaid : Prop := fnExactCamPeriodUptoRow.holds Try.pinned (OpenSpec.upto fnExactCamPeriodSpec)

end Rows
end Go.Proofs.Ytjlfniabbahghaa
