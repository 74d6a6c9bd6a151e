/-
  No cell of these rows narrows 'for every input' (looked for: loops, veiled, ifaces, maps, wideKeys, modest, calm, conditions, laid).
  DERIVED. THE GIVEN ROWS OF THIS SEAT. 6 by the template 'for every input the law returns true; each argument reads behind the call as it read before'; 0 by the template 'total and deterministic' (their statements: YtmbpjlgeneemjaaTotals.lean).
  GIVEN WITH THE SEED: the statements are not yours to turn. If you find one false, say at which input.
  Laid BY PROGRAM, IN A SANDBOX (cutbox-rows.mjs): the forced cells as the released guide's own fill.sh prints them over the translation 47665a707f0b764b… (all of the seat's roots in one cut). By AI agents, Wed Nov 11 2026. No macro, syntax, notation, axiom, sorry.
-/
import Derived.Test.YtmbpjlgeneemjaaChecked
import GoSem.Claim
import GoSem.ClaimJoined
import GoSem.ClaimMapViews
import Derived.JoinedTies
import Derived.KernelRfl
namespace Go.Proofs.Ytmbpjlgeneemjaa
/- THE CELL 'sum', in the pinned program and in every row, IS THE sha256 OF THE DUMP (.gsa) THAT YtmbpjlgeneemjaaProg.lean LOADS. Nothing in Lean hashes anything: it is a label: what it is worth is what the hold of that sum in a sandbox is worth. -/
noncomputable def Try.pinned : Pinned := { name := "ytmbpjlgeneemjaa", sum := "47665a707f0b764bd17f6d25f3977725ce1c237f67eddc5e84c88e9bb8b5c5c1", checked := Try.checked }
namespace Rows
def none {H : Type} : Left H := { results := [], args := [] }

/-- 'laws.FnBestChanges': WHATEVER THE INPUT: true; the input reads as it did. -/
def fnBestChangesSpec : ChangeSpec := { name := "fnBestChanges", fn := fun _ => fun
  | [d] => { results := [.lit (.bool true)], args := [d] }
  | _ => none }
def fnBestChangesRow : OpenClaim := { program := "ytmbpjlgeneemjaa", sum := "47665a707f0b764bd17f6d25f3977725ce1c237f67eddc5e84c88e9bb8b5c5c1", func := "loop.example/g00921/laws.FnBestChanges", spec := "fnBestChanges", apart := false }
def FnBestChangesSaid : Prop := fnBestChangesRow.holds Try.pinned (OpenSpec.ofChange fnBestChangesSpec)

/-- ITS FALSE NEIGHBOUR: 'it returns false'. Refute it at one input. -/
def fnBestChangesWrong : ChangeSpec := { name := "fnBestChanges", fn := fun _ => fun
  | [d] => { results := [.lit (.bool false)], args := [d] }
  | _ => none }
def FnBestChangesWrongFalsely : Prop := fnBestChangesRow.holds Try.pinned (OpenSpec.ofChange fnBestChangesWrong)

/-- 'laws.FnFits': WHATEVER THE INPUT: true; the input reads as it did. -/
def fnFitsSpec : ChangeSpec := { name := "fnFits", fn := fun _ => fun
  | [d] => { results := [.lit (.bool true)], args := [d] }
  | _ => none }
def fnFitsRow : OpenClaim := { program := "ytmbpjlgeneemjaa", sum := "47665a707f0b764bd17f6d25f3977725ce1c237f67eddc5e84c88e9bb8b5c5c1", func := "loop.example/g00921/laws.FnFits", spec := "fnFits", apart := false }
def FnFitsSaid : Prop := fnFitsRow.holds Try.pinned (OpenSpec.ofChange fnFitsSpec)

/-- ITS FALSE NEIGHBOUR: 'it returns false'. Refute it at one input. -/
def fnFitsWrong : ChangeSpec := { name := "fnFits", fn := fun _ => fun
  | [d] => { results := [.lit (.bool false)], args := [d] }
  | _ => none }
def FnFitsWrongFalsely : Prop := fnFitsRow.holds Try.pinned (OpenSpec.ofChange fnFitsWrong)

/-- 'laws.FnResidualsOfReadings': WHATEVER THE INPUT: true; the input reads as it did. -/
def fnResidualsOfReadingsSpec : ChangeSpec := { name := "fnResidualsOfReadings", fn := fun _ => fun
  | [d] => { results := [.lit (.bool true)], args := [d] }
  | _ => none }
def fnResidualsOfReadingsRow : OpenClaim := { program := "ytmbpjlgeneemjaa", sum := "47665a707f0b764bd17f6d25f3977725ce1c237f67eddc5e84c88e9bb8b5c5c1", func := "loop.example/g00921/laws.FnResidualsOfReadings", spec := "fnResidualsOfReadings", apart := false }
def FnResidualsOfReadingsSaid : Prop := fnResidualsOfReadingsRow.holds Try.pinned (OpenSpec.ofChange fnResidualsOfReadingsSpec)

/-- ITS FALSE NEIGHBOUR: 'it returns false'. Refute it at one input. -/
def fnResidualsOfReadingsWrong : ChangeSpec := { name := "fnResidualsOfReadings", fn := fun _ => fun
  | [d] => { results := [.lit (.bool false)], args := [d] }
  | _ => none }
def FnResidualsOfReadingsWrongFalsely : Prop := fnResidualsOfReadingsRow.holds Try.pinned (OpenSpec.ofChange fnResidualsOfReadingsWrong)

/-- 'laws.FnFittedLines': WHATEVER THE INPUT: true; the input reads as it did. -/
def fnFittedLinesSpec : ChangeSpec := { name := "fnFittedLines", fn := fun _ => fun
  | [d] => { results := [.lit (.bool true)], args := [d] }
  | _ => none }
def fnFittedLinesRow : OpenClaim := { program := "ytmbpjlgeneemjaa", sum := "47665a707f0b764bd17f6d25f3977725ce1c237f67eddc5e84c88e9bb8b5c5c1", func := "loop.example/g00921/laws.FnFittedLines", spec := "fnFittedLines", apart := false }
def FnFittedLinesSaid : Prop := fnFittedLinesRow.holds Try.pinned (OpenSpec.ofChange fnFittedLinesSpec)

/-- ITS FALSE NEIGHBOUR: 'it returns false'. Refute it at one input. -/
def fnFittedLinesWrong : ChangeSpec := { name := "fnFittedLines", fn := fun _ => fun
  | [d] => { results := [.lit (.bool false)], args := [d] }
  | _ => none }
def FnFittedLinesWrongFalsely : Prop := fnFittedLinesRow.holds Try.pinned (OpenSpec.ofChange fnFittedLinesWrong)

/-- 'laws.FnExactMedianOff': WHATEVER THE INPUT: true; the input reads as it did. -/
def fnExactMedianOffSpec : ChangeSpec := { name := "fnExactMedianOff", fn := fun _ => fun
  | [d] => { results := [.lit (.bool true)], args := [d] }
  | _ => none }
def fnExactMedianOffRow : OpenClaim := { program := "ytmbpjlgeneemjaa", sum := "47665a707f0b764bd17f6d25f3977725ce1c237f67eddc5e84c88e9bb8b5c5c1", func := "loop.example/g00921/laws.FnExactMedianOff", spec := "fnExactMedianOff", recurses := true, apart := false }
def FnExactMedianOffSaid : Prop := fnExactMedianOffRow.holds Try.pinned (OpenSpec.ofChange fnExactMedianOffSpec)

/-- ITS FALSE NEIGHBOUR: 'it returns false'. Refute it at one input. -/
def fnExactMedianOffWrong : ChangeSpec := { name := "fnExactMedianOff", fn := fun _ => fun
  | [d] => { results := [.lit (.bool false)], args := [d] }
  | _ => none }
def FnExactMedianOffWrongFalsely : Prop := fnExactMedianOffRow.holds Try.pinned (OpenSpec.ofChange fnExactMedianOffWrong)

/-- 'laws.FnMedians': WHATEVER THE INPUT: true; the input reads as it did. -/
def fnMediansSpec : ChangeSpec := { name := "fnMedians", fn := fun _ => fun
  | [d] => { results := [.lit (.bool true)], args := [d] }
  | _ => none }
def fnMediansRow : OpenClaim := { program := "ytmbpjlgeneemjaa", sum := "47665a707f0b764bd17f6d25f3977725ce1c237f67eddc5e84c88e9bb8b5c5c1", func := "loop.example/g00921/laws.FnMedians", spec := "fnMedians", recurses := true, apart := false }
def FnMediansSaid : Prop := fnMediansRow.holds Try.pinned (OpenSpec.ofChange fnMediansSpec)

/-- ITS FALSE NEIGHBOUR: 'it returns false'. Refute it at one input. -/
def fnMediansWrong : ChangeSpec := { name := "fnMedians", fn := fun _ => fun
  | [d] => { results := [.lit (.bool false)], args := [d] }
  | _ => none }
def FnMediansWrongFalsely : Prop := fnMediansRow.holds Try.pinned (OpenSpec.ofChange fnMediansWrong)

/- THE SECOND FORM. 'bulk': how many values and letters a reading holds, each counted each time it is reached (what is shared counts as often as it is met; a slice's spare places count too). A statement '..UptoSaid' is the law's where the arguments, and the package variables that the reading takes, are together of bulk at most 1048576: NARROWER than '..Said'. Prove '..Said' where nothing that the law and all that it calls make is longer than what came in: it says more and counts as full. Else prove '..UptoSaid'. A law counts once. -/
mutual
def uptoBulk {H : Type} : DataW H → Nat
  | .lit (.string bytes) => bytes.length + 1
  | .lit _ => 1
  | .nil => 1
  | .ptr d => uptoBulk d + 1
  | .slice elems spare => uptoBulkAll elems + uptoBulkAll spare + 1
  | .agg parts => uptoBulkAll parts + 1
  | .iface _ d => uptoBulk d + 1
  | .map entries => uptoBulkEntries entries + 1
  | .held _ => 1
def uptoBulkAll {H : Type} : List (DataW H) → Nat
  | [] => 0
  | d :: r => uptoBulk d + uptoBulkAll r
def uptoBulkEntries {H : Type} : List (Lit × DataW H) → Nat
  | [] => 0
  | x :: r => uptoBulkEntry x + uptoBulkEntries r
def uptoBulkEntry {H : Type} : Lit × DataW H → Nat
  | (.string bytes, d) => bytes.length + uptoBulk d + 1
  | (_, d) => uptoBulk d + 1
 end
def uptoSmall : (H : Type) → List (DataW H) → Bool := fun _ ds => decide (uptoBulkAll ds ≤ 1048576)
def OpenSpec.upto (s : _root_.Go.ChangeSpec) : _root_.Go.OpenSpec := { _root_.Go.OpenSpec.ofChange s with cond := some uptoSmall }

/-- 'laws.FnBestChanges', WHERE WHAT IT READS IS OF BULK AT MOST 1048576: true; the input reads as it did. -/
def fnBestChangesUptoRow : OpenClaim := { program := "ytmbpjlgeneemjaa", sum := "47665a707f0b764bd17f6d25f3977725ce1c237f67eddc5e84c88e9bb8b5c5c1", func := "loop.example/g00921/laws.FnBestChanges", spec := "fnBestChanges", apart := false, narrowed := true }
def FnBestChangesUptoSaid : Prop := fnBestChangesUptoRow.holds Try.pinned (OpenSpec.upto fnBestChangesSpec)

/-- 'laws.FnFits', WHERE WHAT IT READS IS OF BULK AT MOST 1048576: true; the input reads as it did. -/
def fnFitsUptoRow : OpenClaim := { program := "ytmbpjlgeneemjaa", sum := "47665a707f0b764bd17f6d25f3977725ce1c237f67eddc5e84c88e9bb8b5c5c1", func := "loop.example/g00921/laws.FnFits", spec := "fnFits", apart := false, narrowed := true }
def FnFitsUptoSaid : Prop := fnFitsUptoRow.holds Try.pinned (OpenSpec.upto fnFitsSpec)

/-- 'laws.FnResidualsOfReadings', WHERE WHAT IT READS IS OF BULK AT MOST 1048576: true; the input reads as it did. -/
def fnResidualsOfReadingsUptoRow : OpenClaim := { program := "ytmbpjlgeneemjaa", sum := "47665a707f0b764bd17f6d25f3977725ce1c237f67eddc5e84c88e9bb8b5c5c1", func := "loop.example/g00921/laws.FnResidualsOfReadings", spec := "fnResidualsOfReadings", apart := false, narrowed := true }
def FnResidualsOfReadingsUptoSaid : Prop := fnResidualsOfReadingsUptoRow.holds Try.pinned (OpenSpec.upto fnResidualsOfReadingsSpec)

/-- 'laws.FnFittedLines', WHERE WHAT IT READS IS OF BULK AT MOST 1048576: true; the input reads as it did. -/
def fnFittedLinesUptoRow : OpenClaim := { program := "ytmbpjlgeneemjaa", sum := "47665a707f0b764bd17f6d25f3977725ce1c237f67eddc5e84c88e9bb8b5c5c1", func := "loop.example/g00921/laws.FnFittedLines", spec := "fnFittedLines", apart := false, narrowed := true }
def FnFittedLinesUptoSaid : Prop := fnFittedLinesUptoRow.holds Try.pinned (OpenSpec.upto fnFittedLinesSpec)

/-- 'laws.FnExactMedianOff', WHERE WHAT IT READS IS OF BULK AT MOST 1048576: true; the input reads as it did. -/
def fnExactMedianOffUptoRow : OpenClaim := { program := "ytmbpjlgeneemjaa", sum := "47665a707f0b764bd17f6d25f3977725ce1c237f67eddc5e84c88e9bb8b5c5c1", func := "loop.example/g00921/laws.FnExactMedianOff", spec := "fnExactMedianOff", recurses := true, apart := false, narrowed := true }
def FnExactMedianOffUptoSaid : Prop := fnExactMedianOffUptoRow.holds Try.pinned (OpenSpec.upto fnExactMedianOffSpec)

/-- 'laws.FnMedians', WHERE WHAT IT READS IS OF BULK AT MOST 1048576: true; the input reads as it did. -/
def fnMediansUptoRow : OpenClaim := { program := "ytmbpjlgeneemjaa", sum := "47665a707f0b764bd17f6d25f3977725ce1c237f67eddc5e84c88e9bb8b5c5c1", func := "loop.example/g00921/laws.FnMedians", spec := "fnMedians", recurses := true, apart := false, narrowed := true }
def FnMediansUptoSaid : Prop := fnMediansUptoRow.holds Try.pinned (OpenSpec.upto fnMediansSpec)

end Rows
end Go.Proofs.Ytmbpjlgeneemjaa
