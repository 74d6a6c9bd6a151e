/-
  No cell of these rows narrows 'for every input' (looked for: loops, veiled, ifaces, maps, wideKeys, modest, calm, conditions, laid).
  DERIVED. THE GIVEN ROWS OF THIS SEAT. 6 by the template 'for every input the law returns true; each argument reads behind the call as it read before'; 0 by the template 'total and deterministic' (their statements: YtglcjnplmhelhaaTotals.lean).
  GIVEN WITH THE SEED: the statements are not yours to turn. If you find one false, say at which input.
  Laid BY PROGRAM, IN A SANDBOX (cutbox-rows.mjs): the forced cells as the released guide's own fill.sh prints them over the translation 3b685b0b33ff9027… (all of the seat's roots in one cut). By AI agents, Wed Nov 11 2026. No macro, syntax, notation, axiom, sorry.
-/
import Derived.Test.YtglcjnplmhelhaaChecked
import GoSem.Claim
import GoSem.ClaimJoined
import GoSem.ClaimMapViews
import Derived.JoinedTies
import Derived.KernelRfl
namespace Go.Proofs.Ytglcjnplmhelhaa
/- THE CELL 'sum', in the pinned program and in every row, IS THE sha256 OF THE DUMP (.gsa) THAT YtglcjnplmhelhaaProg.lean LOADS. Nothing in Lean hashes anything: it is a label: what it is worth is what the hold of that sum in a sandbox is worth. -/
noncomputable def Try.pinned : Pinned := { name := "ytglcjnplmhelhaa", sum := "3b685b0b33ff9027b488e65c536e77eb338baf893864aa7807bcb5292ef4bcfc", checked := Try.checked }
namespace Rows
def none {H : Type} : Left H := { results := [], args := [] }

/-- 'laws.FnPulls': WHATEVER THE INPUT: true; the input reads as it did. -/
def fnPullsSpec : ChangeSpec := { name := "fnPulls", fn := fun _ => fun
  | [d] => { results := [.lit (.bool true)], args := [d] }
  | _ => none }
def fnPullsRow : OpenClaim := { program := "ytglcjnplmhelhaa", sum := "3b685b0b33ff9027b488e65c536e77eb338baf893864aa7807bcb5292ef4bcfc", func := "loop.example/g00921/laws.FnPulls", spec := "fnPulls", apart := false }
def FnPullsSaid : Prop := fnPullsRow.holds Try.pinned (OpenSpec.ofChange fnPullsSpec)

/-- ITS FALSE NEIGHBOUR: 'it returns false'. Refute it at one input. -/
def fnPullsWrong : ChangeSpec := { name := "fnPulls", fn := fun _ => fun
  | [d] => { results := [.lit (.bool false)], args := [d] }
  | _ => none }
def FnPullsWrongFalsely : Prop := fnPullsRow.holds Try.pinned (OpenSpec.ofChange fnPullsWrong)

/-- 'laws.FnWeights': WHATEVER THE INPUT: true; the input reads as it did. -/
def fnWeightsSpec : ChangeSpec := { name := "fnWeights", fn := fun _ => fun
  | [d] => { results := [.lit (.bool true)], args := [d] }
  | _ => none }
def fnWeightsRow : OpenClaim := { program := "ytglcjnplmhelhaa", sum := "3b685b0b33ff9027b488e65c536e77eb338baf893864aa7807bcb5292ef4bcfc", func := "loop.example/g00921/laws.FnWeights", spec := "fnWeights", apart := false }
def FnWeightsSaid : Prop := fnWeightsRow.holds Try.pinned (OpenSpec.ofChange fnWeightsSpec)

/-- ITS FALSE NEIGHBOUR: 'it returns false'. Refute it at one input. -/
def fnWeightsWrong : ChangeSpec := { name := "fnWeights", fn := fun _ => fun
  | [d] => { results := [.lit (.bool false)], args := [d] }
  | _ => none }
def FnWeightsWrongFalsely : Prop := fnWeightsRow.holds Try.pinned (OpenSpec.ofChange fnWeightsWrong)

/-- 'laws.FnSpringEnergy': WHATEVER THE INPUT: true; the input reads as it did. -/
def fnSpringEnergySpec : ChangeSpec := { name := "fnSpringEnergy", fn := fun _ => fun
  | [d] => { results := [.lit (.bool true)], args := [d] }
  | _ => none }
def fnSpringEnergyRow : OpenClaim := { program := "ytglcjnplmhelhaa", sum := "3b685b0b33ff9027b488e65c536e77eb338baf893864aa7807bcb5292ef4bcfc", func := "loop.example/g00921/laws.FnSpringEnergy", spec := "fnSpringEnergy", apart := false }
def FnSpringEnergySaid : Prop := fnSpringEnergyRow.holds Try.pinned (OpenSpec.ofChange fnSpringEnergySpec)

/-- ITS FALSE NEIGHBOUR: 'it returns false'. Refute it at one input. -/
def fnSpringEnergyWrong : ChangeSpec := { name := "fnSpringEnergy", fn := fun _ => fun
  | [d] => { results := [.lit (.bool false)], args := [d] }
  | _ => none }
def FnSpringEnergyWrongFalsely : Prop := fnSpringEnergyRow.holds Try.pinned (OpenSpec.ofChange fnSpringEnergyWrong)

/-- 'laws.FnExactFuseeRadii': WHATEVER THE INPUT: true; the input reads as it did. -/
def fnExactFuseeRadiiSpec : ChangeSpec := { name := "fnExactFuseeRadii", fn := fun _ => fun
  | [d1, d2, d3, d4, d5] => { results := [.lit (.bool true)], args := [d1, d2, d3, d4, d5] }
  | _ => none }
def fnExactFuseeRadiiRow : OpenClaim := { program := "ytglcjnplmhelhaa", sum := "3b685b0b33ff9027b488e65c536e77eb338baf893864aa7807bcb5292ef4bcfc", func := "loop.example/g00921/laws.FnExactFuseeRadii", spec := "fnExactFuseeRadii", apart := false }
def FnExactFuseeRadiiSaid : Prop := fnExactFuseeRadiiRow.holds Try.pinned (OpenSpec.ofChange fnExactFuseeRadiiSpec)

/-- ITS FALSE NEIGHBOUR: 'it returns false'. Refute it at one input. -/
def fnExactFuseeRadiiWrong : ChangeSpec := { name := "fnExactFuseeRadii", fn := fun _ => fun
  | [d1, d2, d3, d4, d5] => { results := [.lit (.bool false)], args := [d1, d2, d3, d4, d5] }
  | _ => none }
def FnExactFuseeRadiiWrongFalsely : Prop := fnExactFuseeRadiiRow.holds Try.pinned (OpenSpec.ofChange fnExactFuseeRadiiWrong)

/-- 'laws.FnFusees': WHATEVER THE INPUT: true; the input reads as it did. -/
def fnFuseesSpec : ChangeSpec := { name := "fnFusees", fn := fun _ => fun
  | [d] => { results := [.lit (.bool true)], args := [d] }
  | _ => none }
def fnFuseesRow : OpenClaim := { program := "ytglcjnplmhelhaa", sum := "3b685b0b33ff9027b488e65c536e77eb338baf893864aa7807bcb5292ef4bcfc", func := "loop.example/g00921/laws.FnFusees", spec := "fnFusees", apart := false }
def FnFuseesSaid : Prop := fnFuseesRow.holds Try.pinned (OpenSpec.ofChange fnFuseesSpec)

/-- ITS FALSE NEIGHBOUR: 'it returns false'. Refute it at one input. -/
def fnFuseesWrong : ChangeSpec := { name := "fnFusees", fn := fun _ => fun
  | [d] => { results := [.lit (.bool false)], args := [d] }
  | _ => none }
def FnFuseesWrongFalsely : Prop := fnFuseesRow.holds Try.pinned (OpenSpec.ofChange fnFuseesWrong)

/-- 'laws.FnRunningTimes': WHATEVER THE INPUT: true; the input reads as it did. -/
def fnRunningTimesSpec : ChangeSpec := { name := "fnRunningTimes", fn := fun _ => fun
  | [d] => { results := [.lit (.bool true)], args := [d] }
  | _ => none }
def fnRunningTimesRow : OpenClaim := { program := "ytglcjnplmhelhaa", sum := "3b685b0b33ff9027b488e65c536e77eb338baf893864aa7807bcb5292ef4bcfc", func := "loop.example/g00921/laws.FnRunningTimes", spec := "fnRunningTimes", apart := false }
def FnRunningTimesSaid : Prop := fnRunningTimesRow.holds Try.pinned (OpenSpec.ofChange fnRunningTimesSpec)

/-- ITS FALSE NEIGHBOUR: 'it returns false'. Refute it at one input. -/
def fnRunningTimesWrong : ChangeSpec := { name := "fnRunningTimes", fn := fun _ => fun
  | [d] => { results := [.lit (.bool false)], args := [d] }
  | _ => none }
def FnRunningTimesWrongFalsely : Prop := fnRunningTimesRow.holds Try.pinned (OpenSpec.ofChange fnRunningTimesWrong)

/- THE SECOND FORM. 'bulk': how many values and letters a reading holds, each counted each time it is reached (what is shared counts as often as it is met; a slice's spare places count too). A statement '..UptoSaid' is the law's where the arguments, and the package variables that the reading takes, are together of bulk at most 1048576: NARROWER than '..Said'. Prove '..Said' where nothing that the law and all that it calls make is longer than what came in: it says more and counts as full. Else prove '..UptoSaid'. A law counts once. -/
mutual
def uptoBulk {H : Type} : DataW H → Nat
  | .lit (.string bytes) => bytes.length + 1
  | .lit _ => 1
  | .nil => 1
  | .ptr d => uptoBulk d + 1
  | .slice elems spare => uptoBulkAll elems + uptoBulkAll spare + 1
  | .agg parts => uptoBulkAll parts + 1
  | .iface _ d => uptoBulk d + 1
  | .map entries => uptoBulkEntries entries + 1
  | .held _ => 1
def uptoBulkAll {H : Type} : List (DataW H) → Nat
  | [] => 0
  | d :: r => uptoBulk d + uptoBulkAll r
def uptoBulkEntries {H : Type} : List (Lit × DataW H) → Nat
  | [] => 0
  | x :: r => uptoBulkEntry x + uptoBulkEntries r
def uptoBulkEntry {H : Type} : Lit × DataW H → Nat
  | (.string bytes, d) => bytes.length + uptoBulk d + 1
  | (_, d) => uptoBulk d + 1
 end
def uptoSmall : (H : Type) → List (DataW H) → Bool := fun _ ds => decide (uptoBulkAll ds ≤ 1048576)
def OpenSpec.upto (s : _root_.Go.ChangeSpec) : _root_.Go.OpenSpec := { _root_.Go.OpenSpec.ofChange s with cond := some uptoSmall }

/-- 'laws.FnPulls', WHERE WHAT IT READS IS OF BULK AT MOST 1048576: true; the input reads as it did. -/
def fnPullsUptoRow : OpenClaim := { program := "ytglcjnplmhelhaa", sum := "3b685b0b33ff9027b488e65c536e77eb338baf893864aa7807bcb5292ef4bcfc", func := "loop.example/g00921/laws.FnPulls", spec := "fnPulls", apart := false, narrowed := true }
def FnPullsUptoSaid : Prop := fnPullsUptoRow.holds Try.pinned (OpenSpec.upto fnPullsSpec)

/-- 'laws.FnWeights', WHERE WHAT IT READS IS OF BULK AT MOST 1048576: true; the input reads as it did. -/
def fnWeightsUptoRow : OpenClaim := { program := "ytglcjnplmhelhaa", sum := "3b685b0b33ff9027b488e65c536e77eb338baf893864aa7807bcb5292ef4bcfc", func := "loop.example/g00921/laws.FnWeights", spec := "fnWeights", apart := false, narrowed := true }
def FnWeightsUptoSaid : Prop := fnWeightsUptoRow.holds Try.pinned (OpenSpec.upto fnWeightsSpec)

/-- 'laws.FnSpringEnergy', WHERE WHAT IT READS IS OF BULK AT MOST 1048576: true; the input reads as it did. -/
def fnSpringEnergyUptoRow : OpenClaim := { program := "ytglcjnplmhelhaa", sum := "3b685b0b33ff9027b488e65c536e77eb338baf893864aa7807bcb5292ef4bcfc", func := "loop.example/g00921/laws.FnSpringEnergy", spec := "fnSpringEnergy", apart := false, narrowed := true }
def FnSpringEnergyUptoSaid : Prop := fnSpringEnergyUptoRow.holds Try.pinned (OpenSpec.upto fnSpringEnergySpec)

/-- 'laws.FnExactFuseeRadii', WHERE WHAT IT READS IS OF BULK AT MOST 1048576: true; the input reads as it did. -/
def fnExactFuseeRadiiUptoRow : OpenClaim := { program := "ytglcjnplmhelhaa", sum := "3b685b0b33ff9027b488e65c536e77eb338baf893864aa7807bcb5292ef4bcfc", func := "loop.example/g00921/laws.FnExactFuseeRadii", spec := "fnExactFuseeRadii", apart := false, narrowed := true }
def FnExactFuseeRadiiUptoSaid : Prop := fnExactFuseeRadiiUptoRow.holds Try.pinned (OpenSpec.upto fnExactFuseeRadiiSpec)

/-- 'laws.FnFusees', WHERE WHAT IT READS IS OF BULK AT MOST 1048576: true; the input reads as it did. -/
def fnFuseesUptoRow : OpenClaim := { program := "ytglcjnplmhelhaa", sum := "3b685b0b33ff9027b488e65c536e77eb338baf893864aa7807bcb5292ef4bcfc", func := "loop.example/g00921/laws.FnFusees", spec := "fnFusees", apart := false, narrowed := true }
def FnFuseesUptoSaid : Prop := fnFuseesUptoRow.holds Try.pinned (OpenSpec.upto fnFuseesSpec)

/-- 'laws.FnRunningTimes', WHERE WHAT IT READS IS OF BULK AT MOST 1048576: true; the input reads as it did. -/
def fnRunningTimesUptoRow : OpenClaim := { program := "ytglcjnplmhelhaa", sum := "3b685b0b33ff9027b488e65c536e77eb338baf893864aa7807bcb5292ef4bcfc", func := "loop.example/g00921/laws.FnRunningTimes", spec := "fnRunningTimes", apart := false, narrowed := true }
def FnRunningTimesUptoSaid : Prop := fnRunningTimesUptoRow.holds Try.pinned (OpenSpec.upto fnRunningTimesSpec)

end Rows
end Go.Proofs.Ytglcjnplmhelhaa
