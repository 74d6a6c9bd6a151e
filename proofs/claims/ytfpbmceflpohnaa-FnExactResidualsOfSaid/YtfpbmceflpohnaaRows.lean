/-
  No cell of these rows narrows 'for every input' (looked for: loops, veiled, ifaces, maps, wideKeys, modest, calm, conditions, laid).
  DERIVED. THE GIVEN ROWS OF THIS SEAT. 14 by the template 'for every input the law returns true; each argument reads behind the call as it read before'; 0 by the template 'total and deterministic' (their statements: YtfpbmceflpohnaaTotals.lean).
  GIVEN WITH THE SEED: the statements are not yours to turn. If you find one false, say at which input.
  Laid BY PROGRAM, IN A SANDBOX (cutbox-rows.mjs): the forced cells as the released guide's own fill.sh prints them over the translation 1c17f85c71ca852e… (all of the seat's roots in one cut). By AI agents, Wed Nov 11 2026. No macro, syntax, notation, axiom, sorry.
-/
import Derived.Test.YtfpbmceflpohnaaChecked
import GoSem.Claim
import GoSem.ClaimJoined
import GoSem.ClaimMapViews
import Derived.JoinedTies
import Derived.KernelRfl
namespace Go.Proofs.Ytfpbmceflpohnaa
/- THE CELL 'sum', in the pinned program and in every row, IS THE sha256 OF THE DUMP (.gsa) THAT YtfpbmceflpohnaaProg.lean LOADS. Nothing in Lean hashes anything: it is a label: what it is worth is what the hold of that sum in a sandbox is worth. -/
noncomputable def Try.pinned : Pinned := { name := "ytfpbmceflpohnaa", sum := "1c17f85c71ca852e46b8ba79732e55ad4f18290c222d7a19681cbf29dcfdbc98", checked := Try.checked }
namespace Rows
def none {H : Type} : Left H := { results := [], args := [] }

/-- 'laws.FnExactValidFit': WHATEVER THE INPUT: true; the input reads as it did. -/
def fnExactValidFitSpec : ChangeSpec := { name := "fnExactValidFit", fn := fun _ => fun
  | [d] => { results := [.lit (.bool true)], args := [d] }
  | _ => none }
def fnExactValidFitRow : OpenClaim := { program := "ytfpbmceflpohnaa", sum := "1c17f85c71ca852e46b8ba79732e55ad4f18290c222d7a19681cbf29dcfdbc98", func := "loop.example/g00921/laws.FnExactValidFit", spec := "fnExactValidFit", apart := false }
def FnExactValidFitSaid : Prop := fnExactValidFitRow.holds Try.pinned (OpenSpec.ofChange fnExactValidFitSpec)

/-- ITS FALSE NEIGHBOUR: 'it returns false'. Refute it at one input. -/
def fnExactValidFitWrong : ChangeSpec := { name := "fnExactValidFit", fn := fun _ => fun
  | [d] => { results := [.lit (.bool false)], args := [d] }
  | _ => none }
def FnExactValidFitWrongFalsely : Prop := fnExactValidFitRow.holds Try.pinned (OpenSpec.ofChange fnExactValidFitWrong)

/-- 'laws.FnExactValidReadings': WHATEVER THE INPUT: true; the input reads as it did. -/
def fnExactValidReadingsSpec : ChangeSpec := { name := "fnExactValidReadings", fn := fun _ => fun
  | [d] => { results := [.lit (.bool true)], args := [d] }
  | _ => none }
def fnExactValidReadingsRow : OpenClaim := { program := "ytfpbmceflpohnaa", sum := "1c17f85c71ca852e46b8ba79732e55ad4f18290c222d7a19681cbf29dcfdbc98", func := "loop.example/g00921/laws.FnExactValidReadings", spec := "fnExactValidReadings", apart := false }
def FnExactValidReadingsSaid : Prop := fnExactValidReadingsRow.holds Try.pinned (OpenSpec.ofChange fnExactValidReadingsSpec)

/-- ITS FALSE NEIGHBOUR: 'it returns false'. Refute it at one input. -/
def fnExactValidReadingsWrong : ChangeSpec := { name := "fnExactValidReadings", fn := fun _ => fun
  | [d] => { results := [.lit (.bool false)], args := [d] }
  | _ => none }
def FnExactValidReadingsWrongFalsely : Prop := fnExactValidReadingsRow.holds Try.pinned (OpenSpec.ofChange fnExactValidReadingsWrong)

/-- 'laws.FnExactAddFits': WHATEVER THE INPUT: true; the input reads as it did. -/
def fnExactAddFitsSpec : ChangeSpec := { name := "fnExactAddFits", fn := fun _ => fun
  | [d1, d2] => { results := [.lit (.bool true)], args := [d1, d2] }
  | _ => none }
def fnExactAddFitsRow : OpenClaim := { program := "ytfpbmceflpohnaa", sum := "1c17f85c71ca852e46b8ba79732e55ad4f18290c222d7a19681cbf29dcfdbc98", func := "loop.example/g00921/laws.FnExactAddFits", spec := "fnExactAddFits", apart := false }
def FnExactAddFitsSaid : Prop := fnExactAddFitsRow.holds Try.pinned (OpenSpec.ofChange fnExactAddFitsSpec)

/-- ITS FALSE NEIGHBOUR: 'it returns false'. Refute it at one input. -/
def fnExactAddFitsWrong : ChangeSpec := { name := "fnExactAddFits", fn := fun _ => fun
  | [d1, d2] => { results := [.lit (.bool false)], args := [d1, d2] }
  | _ => none }
def FnExactAddFitsWrongFalsely : Prop := fnExactAddFitsRow.holds Try.pinned (OpenSpec.ofChange fnExactAddFitsWrong)

/-- 'laws.FnExactDailyRate': WHATEVER THE INPUT: true; the input reads as it did. -/
def fnExactDailyRateSpec : ChangeSpec := { name := "fnExactDailyRate", fn := fun _ => fun
  | [d] => { results := [.lit (.bool true)], args := [d] }
  | _ => none }
def fnExactDailyRateRow : OpenClaim := { program := "ytfpbmceflpohnaa", sum := "1c17f85c71ca852e46b8ba79732e55ad4f18290c222d7a19681cbf29dcfdbc98", func := "loop.example/g00921/laws.FnExactDailyRate", spec := "fnExactDailyRate", apart := false }
def FnExactDailyRateSaid : Prop := fnExactDailyRateRow.holds Try.pinned (OpenSpec.ofChange fnExactDailyRateSpec)

/-- ITS FALSE NEIGHBOUR: 'it returns false'. Refute it at one input. -/
def fnExactDailyRateWrong : ChangeSpec := { name := "fnExactDailyRate", fn := fun _ => fun
  | [d] => { results := [.lit (.bool false)], args := [d] }
  | _ => none }
def FnExactDailyRateWrongFalsely : Prop := fnExactDailyRateRow.holds Try.pinned (OpenSpec.ofChange fnExactDailyRateWrong)

/-- 'laws.FnExactOffAt': WHATEVER THE INPUT: true; the input reads as it did. -/
def fnExactOffAtSpec : ChangeSpec := { name := "fnExactOffAt", fn := fun _ => fun
  | [d1, d2] => { results := [.lit (.bool true)], args := [d1, d2] }
  | _ => none }
def fnExactOffAtRow : OpenClaim := { program := "ytfpbmceflpohnaa", sum := "1c17f85c71ca852e46b8ba79732e55ad4f18290c222d7a19681cbf29dcfdbc98", func := "loop.example/g00921/laws.FnExactOffAt", spec := "fnExactOffAt", apart := false }
def FnExactOffAtSaid : Prop := fnExactOffAtRow.holds Try.pinned (OpenSpec.ofChange fnExactOffAtSpec)

/-- ITS FALSE NEIGHBOUR: 'it returns false'. Refute it at one input. -/
def fnExactOffAtWrong : ChangeSpec := { name := "fnExactOffAt", fn := fun _ => fun
  | [d1, d2] => { results := [.lit (.bool false)], args := [d1, d2] }
  | _ => none }
def FnExactOffAtWrongFalsely : Prop := fnExactOffAtRow.holds Try.pinned (OpenSpec.ofChange fnExactOffAtWrong)

/-- 'laws.FnExactFitOf': WHATEVER THE INPUT: true; the input reads as it did. -/
def fnExactFitOfSpec : ChangeSpec := { name := "fnExactFitOf", fn := fun _ => fun
  | [d] => { results := [.lit (.bool true)], args := [d] }
  | _ => none }
def fnExactFitOfRow : OpenClaim := { program := "ytfpbmceflpohnaa", sum := "1c17f85c71ca852e46b8ba79732e55ad4f18290c222d7a19681cbf29dcfdbc98", func := "loop.example/g00921/laws.FnExactFitOf", spec := "fnExactFitOf", apart := false }
def FnExactFitOfSaid : Prop := fnExactFitOfRow.holds Try.pinned (OpenSpec.ofChange fnExactFitOfSpec)

/-- ITS FALSE NEIGHBOUR: 'it returns false'. Refute it at one input. -/
def fnExactFitOfWrong : ChangeSpec := { name := "fnExactFitOf", fn := fun _ => fun
  | [d] => { results := [.lit (.bool false)], args := [d] }
  | _ => none }
def FnExactFitOfWrongFalsely : Prop := fnExactFitOfRow.holds Try.pinned (OpenSpec.ofChange fnExactFitOfWrong)

/-- 'laws.FnExactBestChange': WHATEVER THE INPUT: true; the input reads as it did. -/
def fnExactBestChangeSpec : ChangeSpec := { name := "fnExactBestChange", fn := fun _ => fun
  | [d] => { results := [.lit (.bool true)], args := [d] }
  | _ => none }
def fnExactBestChangeRow : OpenClaim := { program := "ytfpbmceflpohnaa", sum := "1c17f85c71ca852e46b8ba79732e55ad4f18290c222d7a19681cbf29dcfdbc98", func := "loop.example/g00921/laws.FnExactBestChange", spec := "fnExactBestChange", apart := false }
def FnExactBestChangeSaid : Prop := fnExactBestChangeRow.holds Try.pinned (OpenSpec.ofChange fnExactBestChangeSpec)

/-- ITS FALSE NEIGHBOUR: 'it returns false'. Refute it at one input. -/
def fnExactBestChangeWrong : ChangeSpec := { name := "fnExactBestChange", fn := fun _ => fun
  | [d] => { results := [.lit (.bool false)], args := [d] }
  | _ => none }
def FnExactBestChangeWrongFalsely : Prop := fnExactBestChangeRow.holds Try.pinned (OpenSpec.ofChange fnExactBestChangeWrong)

/-- 'laws.FnExactJumpsOf': WHATEVER THE INPUT: true; the input reads as it did. -/
def fnExactJumpsOfSpec : ChangeSpec := { name := "fnExactJumpsOf", fn := fun _ => fun
  | [d1, d2] => { results := [.lit (.bool true)], args := [d1, d2] }
  | _ => none }
def fnExactJumpsOfRow : OpenClaim := { program := "ytfpbmceflpohnaa", sum := "1c17f85c71ca852e46b8ba79732e55ad4f18290c222d7a19681cbf29dcfdbc98", func := "loop.example/g00921/laws.FnExactJumpsOf", spec := "fnExactJumpsOf", apart := false }
def FnExactJumpsOfSaid : Prop := fnExactJumpsOfRow.holds Try.pinned (OpenSpec.ofChange fnExactJumpsOfSpec)

/-- ITS FALSE NEIGHBOUR: 'it returns false'. Refute it at one input. -/
def fnExactJumpsOfWrong : ChangeSpec := { name := "fnExactJumpsOf", fn := fun _ => fun
  | [d1, d2] => { results := [.lit (.bool false)], args := [d1, d2] }
  | _ => none }
def FnExactJumpsOfWrongFalsely : Prop := fnExactJumpsOfRow.holds Try.pinned (OpenSpec.ofChange fnExactJumpsOfWrong)

/-- 'laws.FnExactRatesBetween': WHATEVER THE INPUT: true; the input reads as it did. -/
def fnExactRatesBetweenSpec : ChangeSpec := { name := "fnExactRatesBetween", fn := fun _ => fun
  | [d] => { results := [.lit (.bool true)], args := [d] }
  | _ => none }
def fnExactRatesBetweenRow : OpenClaim := { program := "ytfpbmceflpohnaa", sum := "1c17f85c71ca852e46b8ba79732e55ad4f18290c222d7a19681cbf29dcfdbc98", func := "loop.example/g00921/laws.FnExactRatesBetween", spec := "fnExactRatesBetween", apart := false }
def FnExactRatesBetweenSaid : Prop := fnExactRatesBetweenRow.holds Try.pinned (OpenSpec.ofChange fnExactRatesBetweenSpec)

/-- ITS FALSE NEIGHBOUR: 'it returns false'. Refute it at one input. -/
def fnExactRatesBetweenWrong : ChangeSpec := { name := "fnExactRatesBetween", fn := fun _ => fun
  | [d] => { results := [.lit (.bool false)], args := [d] }
  | _ => none }
def FnExactRatesBetweenWrongFalsely : Prop := fnExactRatesBetweenRow.holds Try.pinned (OpenSpec.ofChange fnExactRatesBetweenWrong)

/-- 'laws.FnExactResidualsOf': WHATEVER THE INPUT: true; the input reads as it did. -/
def fnExactResidualsOfSpec : ChangeSpec := { name := "fnExactResidualsOf", fn := fun _ => fun
  | [d] => { results := [.lit (.bool true)], args := [d] }
  | _ => none }
def fnExactResidualsOfRow : OpenClaim := { program := "ytfpbmceflpohnaa", sum := "1c17f85c71ca852e46b8ba79732e55ad4f18290c222d7a19681cbf29dcfdbc98", func := "loop.example/g00921/laws.FnExactResidualsOf", spec := "fnExactResidualsOf", apart := false }
def FnExactResidualsOfSaid : Prop := fnExactResidualsOfRow.holds Try.pinned (OpenSpec.ofChange fnExactResidualsOfSpec)

/-- ITS FALSE NEIGHBOUR: 'it returns false'. Refute it at one input. -/
def fnExactResidualsOfWrong : ChangeSpec := { name := "fnExactResidualsOf", fn := fun _ => fun
  | [d] => { results := [.lit (.bool false)], args := [d] }
  | _ => none }
def FnExactResidualsOfWrongFalsely : Prop := fnExactResidualsOfRow.holds Try.pinned (OpenSpec.ofChange fnExactResidualsOfWrong)

/-- 'laws.FnFits': WHATEVER THE INPUT: true; the input reads as it did. -/
def fnFitsSpec : ChangeSpec := { name := "fnFits", fn := fun _ => fun
  | [d] => { results := [.lit (.bool true)], args := [d] }
  | _ => none }
def fnFitsRow : OpenClaim := { program := "ytfpbmceflpohnaa", sum := "1c17f85c71ca852e46b8ba79732e55ad4f18290c222d7a19681cbf29dcfdbc98", func := "loop.example/g00921/laws.FnFits", spec := "fnFits", apart := false }
def FnFitsSaid : Prop := fnFitsRow.holds Try.pinned (OpenSpec.ofChange fnFitsSpec)

/-- ITS FALSE NEIGHBOUR: 'it returns false'. Refute it at one input. -/
def fnFitsWrong : ChangeSpec := { name := "fnFits", fn := fun _ => fun
  | [d] => { results := [.lit (.bool false)], args := [d] }
  | _ => none }
def FnFitsWrongFalsely : Prop := fnFitsRow.holds Try.pinned (OpenSpec.ofChange fnFitsWrong)

/-- 'laws.FnBestChanges': WHATEVER THE INPUT: true; the input reads as it did. -/
def fnBestChangesSpec : ChangeSpec := { name := "fnBestChanges", fn := fun _ => fun
  | [d] => { results := [.lit (.bool true)], args := [d] }
  | _ => none }
def fnBestChangesRow : OpenClaim := { program := "ytfpbmceflpohnaa", sum := "1c17f85c71ca852e46b8ba79732e55ad4f18290c222d7a19681cbf29dcfdbc98", func := "loop.example/g00921/laws.FnBestChanges", spec := "fnBestChanges", apart := false }
def FnBestChangesSaid : Prop := fnBestChangesRow.holds Try.pinned (OpenSpec.ofChange fnBestChangesSpec)

/-- ITS FALSE NEIGHBOUR: 'it returns false'. Refute it at one input. -/
def fnBestChangesWrong : ChangeSpec := { name := "fnBestChanges", fn := fun _ => fun
  | [d] => { results := [.lit (.bool false)], args := [d] }
  | _ => none }
def FnBestChangesWrongFalsely : Prop := fnBestChangesRow.holds Try.pinned (OpenSpec.ofChange fnBestChangesWrong)

/-- 'laws.FnResidualsOfReadings': WHATEVER THE INPUT: true; the input reads as it did. -/
def fnResidualsOfReadingsSpec : ChangeSpec := { name := "fnResidualsOfReadings", fn := fun _ => fun
  | [d] => { results := [.lit (.bool true)], args := [d] }
  | _ => none }
def fnResidualsOfReadingsRow : OpenClaim := { program := "ytfpbmceflpohnaa", sum := "1c17f85c71ca852e46b8ba79732e55ad4f18290c222d7a19681cbf29dcfdbc98", func := "loop.example/g00921/laws.FnResidualsOfReadings", spec := "fnResidualsOfReadings", apart := false }
def FnResidualsOfReadingsSaid : Prop := fnResidualsOfReadingsRow.holds Try.pinned (OpenSpec.ofChange fnResidualsOfReadingsSpec)

/-- ITS FALSE NEIGHBOUR: 'it returns false'. Refute it at one input. -/
def fnResidualsOfReadingsWrong : ChangeSpec := { name := "fnResidualsOfReadings", fn := fun _ => fun
  | [d] => { results := [.lit (.bool false)], args := [d] }
  | _ => none }
def FnResidualsOfReadingsWrongFalsely : Prop := fnResidualsOfReadingsRow.holds Try.pinned (OpenSpec.ofChange fnResidualsOfReadingsWrong)

/-- 'laws.FnFittedLines': WHATEVER THE INPUT: true; the input reads as it did. -/
def fnFittedLinesSpec : ChangeSpec := { name := "fnFittedLines", fn := fun _ => fun
  | [d] => { results := [.lit (.bool true)], args := [d] }
  | _ => none }
def fnFittedLinesRow : OpenClaim := { program := "ytfpbmceflpohnaa", sum := "1c17f85c71ca852e46b8ba79732e55ad4f18290c222d7a19681cbf29dcfdbc98", func := "loop.example/g00921/laws.FnFittedLines", spec := "fnFittedLines", apart := false }
def FnFittedLinesSaid : Prop := fnFittedLinesRow.holds Try.pinned (OpenSpec.ofChange fnFittedLinesSpec)

/-- ITS FALSE NEIGHBOUR: 'it returns false'. Refute it at one input. -/
def fnFittedLinesWrong : ChangeSpec := { name := "fnFittedLines", fn := fun _ => fun
  | [d] => { results := [.lit (.bool false)], args := [d] }
  | _ => none }
def FnFittedLinesWrongFalsely : Prop := fnFittedLinesRow.holds Try.pinned (OpenSpec.ofChange fnFittedLinesWrong)

/- THE SECOND FORM. 'bulk': how many values and letters a reading holds, each counted each time it is reached (what is shared counts as often as it is met; a slice's spare places count too). A statement '..UptoSaid' is the law's where the arguments, and the package variables that the reading takes, are together of bulk at most 1048576: NARROWER than '..Said'. Prove '..Said' where nothing that the law and all that it calls make is longer than what came in: it says more and counts as full. Else prove '..UptoSaid'. A law counts once. -/
mutual
def uptoBulk {H : Type} : DataW H → Nat
  | .lit (.string bytes) => bytes.length + 1
  | .lit _ => 1
  | .nil => 1
  | .ptr d => uptoBulk d + 1
  | .slice elems spare => uptoBulkAll elems + uptoBulkAll spare + 1
  | .agg parts => uptoBulkAll parts + 1
  | .iface _ d => uptoBulk d + 1
  | .map entries => uptoBulkEntries entries + 1
  | .held _ => 1
def uptoBulkAll {H : Type} : List (DataW H) → Nat
  | [] => 0
  | d :: r => uptoBulk d + uptoBulkAll r
def uptoBulkEntries {H : Type} : List (Lit × DataW H) → Nat
  | [] => 0
  | x :: r => uptoBulkEntry x + uptoBulkEntries r
def uptoBulkEntry {H : Type} : Lit × DataW H → Nat
  | (.string bytes, d) => bytes.length + uptoBulk d + 1
  | (_, d) => uptoBulk d + 1
 end
def uptoSmall : (H : Type) → List (DataW H) → Bool := fun _ ds => decide (uptoBulkAll ds ≤ 1048576)
def OpenSpec.upto (s : _root_.Go.ChangeSpec) : _root_.Go.OpenSpec := { _root_.Go.OpenSpec.ofChange s with cond := some uptoSmall }

/-- 'laws.FnExactValidFit', WHERE WHAT IT READS IS OF BULK AT MOST 1048576: true; the input reads as it did. -/
def fnExactValidFitUptoRow : OpenClaim := { program := "ytfpbmceflpohnaa", sum := "1c17f85c71ca852e46b8ba79732e55ad4f18290c222d7a19681cbf29dcfdbc98", func := "loop.example/g00921/laws.FnExactValidFit", spec := "fnExactValidFit", apart := false, narrowed := true }
def FnExactValidFitUptoSaid : Prop := fnExactValidFitUptoRow.holds Try.pinned (OpenSpec.upto fnExactValidFitSpec)

/-- 'laws.FnExactValidReadings', WHERE WHAT IT READS IS OF BULK AT MOST 1048576: true; the input reads as it did. -/
def fnExactValidReadingsUptoRow : OpenClaim := { program := "ytfpbmceflpohnaa", sum := "1c17f85c71ca852e46b8ba79732e55ad4f18290c222d7a19681cbf29dcfdbc98", func := "loop.example/g00921/laws.FnExactValidReadings", spec := "fnExactValidReadings", apart := false, narrowed := true }
def FnExactValidReadingsUptoSaid : Prop := fnExactValidReadingsUptoRow.holds Try.pinned (OpenSpec.upto fnExactValidReadingsSpec)

/-- 'laws.FnExactAddFits', WHERE WHAT IT READS IS OF BULK AT MOST 1048576: true; the input reads as it did. -/
def fnExactAddFitsUptoRow : OpenClaim := { program := "ytfpbmceflpohnaa", sum := "1c17f85c71ca852e46b8ba79732e55ad4f18290c222d7a19681cbf29dcfdbc98", func := "loop.example/g00921/laws.FnExactAddFits", spec := "fnExactAddFits", apart := false, narrowed := true }
def FnExactAddFitsUptoSaid : Prop := fnExactAddFitsUptoRow.holds Try.pinned (OpenSpec.upto fnExactAddFitsSpec)

/-- 'laws.FnExactDailyRate', WHERE WHAT IT READS IS OF BULK AT MOST 1048576: true; the input reads as it did. -/
def fnExactDailyRateUptoRow : OpenClaim := { program := "ytfpbmceflpohnaa", sum := "1c17f85c71ca852e46b8ba79732e55ad4f18290c222d7a19681cbf29dcfdbc98", func := "loop.example/g00921/laws.FnExactDailyRate", spec := "fnExactDailyRate", apart := false, narrowed := true }
def FnExactDailyRateUptoSaid : Prop := fnExactDailyRateUptoRow.holds Try.pinned (OpenSpec.upto fnExactDailyRateSpec)

/-- 'laws.FnExactOffAt', WHERE WHAT IT READS IS OF BULK AT MOST 1048576: true; the input reads as it did. -/
def fnExactOffAtUptoRow : OpenClaim := { program := "ytfpbmceflpohnaa", sum := "1c17f85c71ca852e46b8ba79732e55ad4f18290c222d7a19681cbf29dcfdbc98", func := "loop.example/g00921/laws.FnExactOffAt", spec := "fnExactOffAt", apart := false, narrowed := true }
def FnExactOffAtUptoSaid : Prop := fnExactOffAtUptoRow.holds Try.pinned (OpenSpec.upto fnExactOffAtSpec)

/-- 'laws.FnExactFitOf', WHERE WHAT IT READS IS OF BULK AT MOST 1048576: true; the input reads as it did. -/
def fnExactFitOfUptoRow : OpenClaim := { program := "ytfpbmceflpohnaa", sum := "1c17f85c71ca852e46b8ba79732e55ad4f18290c222d7a19681cbf29dcfdbc98", func := "loop.example/g00921/laws.FnExactFitOf", spec := "fnExactFitOf", apart := false, narrowed := true }
def FnExactFitOfUptoSaid : Prop := fnExactFitOfUptoRow.holds Try.pinned (OpenSpec.upto fnExactFitOfSpec)

/-- 'laws.FnExactBestChange', WHERE WHAT IT READS IS OF BULK AT MOST 1048576: true; the input reads as it did. -/
def fnExactBestChangeUptoRow : OpenClaim := { program := "ytfpbmceflpohnaa", sum := "1c17f85c71ca852e46b8ba79732e55ad4f18290c222d7a19681cbf29dcfdbc98", func := "loop.example/g00921/laws.FnExactBestChange", spec := "fnExactBestChange", apart := false, narrowed := true }
def FnExactBestChangeUptoSaid : Prop := fnExactBestChangeUptoRow.holds Try.pinned (OpenSpec.upto fnExactBestChangeSpec)

/-- 'laws.FnExactJumpsOf', WHERE WHAT IT READS IS OF BULK AT MOST 1048576: true; the input reads as it did. -/
def fnExactJumpsOfUptoRow : OpenClaim := { program := "ytfpbmceflpohnaa", sum := "1c17f85c71ca852e46b8ba79732e55ad4f18290c222d7a19681cbf29dcfdbc98", func := "loop.example/g00921/laws.FnExactJumpsOf", spec := "fnExactJumpsOf", apart := false, narrowed := true }
def FnExactJumpsOfUptoSaid : Prop := fnExactJumpsOfUptoRow.holds Try.pinned (OpenSpec.upto fnExactJumpsOfSpec)

/-- 'laws.FnExactRatesBetween', WHERE WHAT IT READS IS OF BULK AT MOST 1048576: true; the input reads as it did. -/
def fnExactRatesBetweenUptoRow : OpenClaim := { program := "ytfpbmceflpohnaa", sum := "1c17f85c71ca852e46b8ba79732e55ad4f18290c222d7a19681cbf29dcfdbc98", func := "loop.example/g00921/laws.FnExactRatesBetween", spec := "fnExactRatesBetween", apart := false, narrowed := true }
def FnExactRatesBetweenUptoSaid : Prop := fnExactRatesBetweenUptoRow.holds Try.pinned (OpenSpec.upto fnExactRatesBetweenSpec)

/-- 'laws.FnExactResidualsOf', WHERE WHAT IT READS IS OF BULK AT MOST 1048576: true; the input reads as it did. -/
def fnExactResidualsOfUptoRow : OpenClaim := { program := "ytfpbmceflpohnaa", sum := "1c17f85c71ca852e46b8ba79732e55ad4f18290c222d7a19681cbf29dcfdbc98", func := "loop.example/g00921/laws.FnExactResidualsOf", spec := "fnExactResidualsOf", apart := false, narrowed := true }
def FnExactResidualsOfUptoSaid : Prop := fnExactResidualsOfUptoRow.holds Try.pinned (OpenSpec.upto fnExactResidualsOfSpec)

/-- 'laws.FnFits', WHERE WHAT IT READS IS OF BULK AT MOST 1048576: true; the input reads as it did. -/
def fnFitsUptoRow : OpenClaim := { program := "ytfpbmceflpohnaa", sum := "1c17f85c71ca852e46b8ba79732e55ad4f18290c222d7a19681cbf29dcfdbc98", func := "loop.example/g00921/laws.FnFits", spec := "fnFits", apart := false, narrowed := true }
def FnFitsUptoSaid : Prop := fnFitsUptoRow.holds Try.pinned (OpenSpec.upto fnFitsSpec)

/-- 'laws.FnBestChanges', WHERE WHAT IT READS IS OF BULK AT MOST 1048576: true; the input reads as it did. -/
def fnBestChangesUptoRow : OpenClaim := { program := "ytfpbmceflpohnaa", sum := "1c17f85c71ca852e46b8ba79732e55ad4f18290c222d7a19681cbf29dcfdbc98", func := "loop.example/g00921/laws.FnBestChanges", spec := "fnBestChanges", apart := false, narrowed := true }
def FnBestChangesUptoSaid : Prop := fnBestChangesUptoRow.holds Try.pinned (OpenSpec.upto fnBestChangesSpec)

/-- 'laws.FnResidualsOfReadings', WHERE WHAT IT READS IS OF BULK AT MOST 1048576: true; the input reads as it did. -/
def fnResidualsOfReadingsUptoRow : OpenClaim := { program := "ytfpbmceflpohnaa", sum := "1c17f85c71ca852e46b8ba79732e55ad4f18290c222d7a19681cbf29dcfdbc98", func := "loop.example/g00921/laws.FnResidualsOfReadings", spec := "fnResidualsOfReadings", apart := false, narrowed := true }
def FnResidualsOfReadingsUptoSaid : Prop := fnResidualsOfReadingsUptoRow.holds Try.pinned (OpenSpec.upto fnResidualsOfReadingsSpec)

/-- 'laws.FnFittedLines', WHERE WHAT IT READS IS OF BULK AT MOST 1048576: true; the input reads as it did. -/
def fnFittedLinesUptoRow : OpenClaim := { program := "ytfpbmceflpohnaa", sum := "1c17f85c71ca852e46b8ba79732e55ad4f18290c222d7a19681cbf29dcfdbc98", func := "loop.example/g00921/laws.FnFittedLines", spec := "fnFittedLines", apart := false, narrowed := true }
def FnFittedLinesUptoSaid : Prop := fnFittedLinesUptoRow.holds Try.pinned (OpenSpec.upto fnFittedLinesSpec)

end Rows
end Go.Proofs.Ytfpbmceflpohnaa
