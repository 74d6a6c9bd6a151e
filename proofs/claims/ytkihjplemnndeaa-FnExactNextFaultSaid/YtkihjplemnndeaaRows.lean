/-
  No cell of these rows narrows 'for every input' (looked for: loops, veiled, ifaces, maps, wideKeys, modest, calm, conditions, laid).
  DERIVED. THE GIVEN ROWS OF THIS SEAT. 3 by the template 'for every input the law returns true; each argument reads behind the call as it read before'; 0 by the template 'total and deterministic' (their statements: YtkihjplemnndeaaTotals.lean).
  GIVEN WITH THE SEED: the statements are not yours to turn. If you find one false, say at which input.
  Laid BY PROGRAM, IN A SANDBOX (cutbox-rows.mjs): the forced cells as the released guide's own fill.sh prints them over the translation 6d19fb941fa837ad… (all of the seat's roots in one cut). By AI agents, Wed Nov 11 2026. No macro, syntax, notation, axiom, sorry.
-/
import Derived.Test.YtkihjplemnndeaaChecked
import GoSem.Claim
import GoSem.ClaimJoined
import GoSem.ClaimMapViews
import Derived.JoinedTies
import Derived.KernelRfl
namespace Go.Proofs.Ytkihjplemnndeaa
/- THE CELL 'sum', in the pinned program and in every row, IS THE sha256 OF THE DUMP (.gsa) THAT YtkihjplemnndeaaProg.lean LOADS. Nothing in Lean hashes anything: it is a label: what it is worth is what the hold of that sum in a sandbox is worth. -/
noncomputable def Try.pinned : Pinned := { name := "ytkihjplemnndeaa", sum := "6d19fb941fa837ad11aace7ad8c886a78c3239ebc3c99f4f54733270893a9a06", checked := Try.checked }
namespace Rows
def none {H : Type} : Left H := { results := [], args := [] }

/-- 'laws.FnExactCamOf': WHATEVER THE INPUT: true; the input reads as it did. -/
def fnExactCamOfSpec : ChangeSpec := { name := "fnExactCamOf", fn := fun _ => fun
  | [d1, d2, d3] => { results := [.lit (.bool true)], args := [d1, d2, d3] }
  | _ => none }
def fnExactCamOfRow : OpenClaim := { program := "ytkihjplemnndeaa", sum := "6d19fb941fa837ad11aace7ad8c886a78c3239ebc3c99f4f54733270893a9a06", func := "loop.example/g00921/laws.FnExactCamOf", spec := "fnExactCamOf", unfollowed := true, recurses := true, apart := false }
def FnExactCamOfSaid : Prop := fnExactCamOfRow.holds Try.pinned (OpenSpec.ofChange fnExactCamOfSpec)

/-- ITS FALSE NEIGHBOUR: 'it returns false'. Refute it at one input. -/
def fnExactCamOfWrong : ChangeSpec := { name := "fnExactCamOf", fn := fun _ => fun
  | [d1, d2, d3] => { results := [.lit (.bool false)], args := [d1, d2, d3] }
  | _ => none }
def FnExactCamOfWrongFalsely : Prop := fnExactCamOfRow.holds Try.pinned (OpenSpec.ofChange fnExactCamOfWrong)

/-- 'laws.FnExactFaultCount': WHATEVER THE INPUT: true; the input reads as it did. -/
def fnExactFaultCountSpec : ChangeSpec := { name := "fnExactFaultCount", fn := fun _ => fun
  | [d1, d2] => { results := [.lit (.bool true)], args := [d1, d2] }
  | _ => none }
def fnExactFaultCountRow : OpenClaim := { program := "ytkihjplemnndeaa", sum := "6d19fb941fa837ad11aace7ad8c886a78c3239ebc3c99f4f54733270893a9a06", func := "loop.example/g00921/laws.FnExactFaultCount", spec := "fnExactFaultCount", unfollowed := true, recurses := true, apart := false }
def FnExactFaultCountSaid : Prop := fnExactFaultCountRow.holds Try.pinned (OpenSpec.ofChange fnExactFaultCountSpec)

/-- ITS FALSE NEIGHBOUR: 'it returns false'. Refute it at one input. -/
def fnExactFaultCountWrong : ChangeSpec := { name := "fnExactFaultCount", fn := fun _ => fun
  | [d1, d2] => { results := [.lit (.bool false)], args := [d1, d2] }
  | _ => none }
def FnExactFaultCountWrongFalsely : Prop := fnExactFaultCountRow.holds Try.pinned (OpenSpec.ofChange fnExactFaultCountWrong)

/-- 'laws.FnExactNextFault': WHATEVER THE INPUT: true; the input reads as it did. -/
def fnExactNextFaultSpec : ChangeSpec := { name := "fnExactNextFault", fn := fun _ => fun
  | [d1, d2, d3] => { results := [.lit (.bool true)], args := [d1, d2, d3] }
  | _ => none }
def fnExactNextFaultRow : OpenClaim := { program := "ytkihjplemnndeaa", sum := "6d19fb941fa837ad11aace7ad8c886a78c3239ebc3c99f4f54733270893a9a06", func := "loop.example/g00921/laws.FnExactNextFault", spec := "fnExactNextFault", unfollowed := true, recurses := true, apart := false }
def FnExactNextFaultSaid : Prop := fnExactNextFaultRow.holds Try.pinned (OpenSpec.ofChange fnExactNextFaultSpec)

/-- ITS FALSE NEIGHBOUR: 'it returns false'. Refute it at one input. -/
def fnExactNextFaultWrong : ChangeSpec := { name := "fnExactNextFault", fn := fun _ => fun
  | [d1, d2, d3] => { results := [.lit (.bool false)], args := [d1, d2, d3] }
  | _ => none }
def FnExactNextFaultWrongFalsely : Prop := fnExactNextFaultRow.holds Try.pinned (OpenSpec.ofChange fnExactNextFaultWrong)

/- THE SECOND FORM. 'bulk': how many values and letters a reading holds, each counted each time it is reached (what is shared counts as often as it is met; a slice's spare places count too). A statement '..UptoSaid' is the law's where the arguments, and the package variables that the reading takes, are together of bulk at most 1048576: NARROWER than '..Said'. Prove '..Said' where nothing that the law and all that it calls make is longer than what came in: it says more and counts as full. Else prove '..UptoSaid'. A law counts once. -/
mutual
def uptoBulk {H : Type} : DataW H → Nat
  | .lit (.string bytes) => bytes.length + 1
  | .lit _ => 1
  | .nil => 1
  | .ptr d => uptoBulk d + 1
  | .slice elems spare => uptoBulkAll elems + uptoBulkAll spare + 1
  | .agg parts => uptoBulkAll parts + 1
  | .iface _ d => uptoBulk d + 1
  | .map entries => uptoBulkEntries entries + 1
  | .held _ => 1
def uptoBulkAll {H : Type} : List (DataW H) → Nat
  | [] => 0
  | d :: r => uptoBulk d + uptoBulkAll r
def uptoBulkEntries {H : Type} : List (Lit × DataW H) → Nat
  | [] => 0
  | x :: r => uptoBulkEntry x + uptoBulkEntries r
def uptoBulkEntry {H : Type} : Lit × DataW H → Nat
  | (.string bytes, d) => bytes.length + uptoBulk d + 1
  | (_, d) => uptoBulk d + 1
 end
def uptoSmall : (H : Type) → List (DataW H) → Bool := fun _ ds => decide (uptoBulkAll ds ≤ 1048576)
def OpenSpec.upto (s : _root_.Go.ChangeSpec) : _root_.Go.OpenSpec := { _root_.Go.OpenSpec.ofChange s with cond := some uptoSmall }

/-- 'laws.FnExactCamOf', WHERE WHAT IT READS IS OF BULK AT MOST 1048576: true; the input reads as it did. -/
def fnExactCamOfUptoRow : OpenClaim := { program := "ytkihjplemnndeaa", sum := "6d19fb941fa837ad11aace7ad8c886a78c3239ebc3c99f4f54733270893a9a06", func := "loop.example/g00921/laws.FnExactCamOf", spec := "fnExactCamOf", unfollowed := true, recurses := true, apart := false, narrowed := true }
def FnExactCamOfUptoSaid : Prop := fnExactCamOfUptoRow.holds Try.pinned (OpenSpec.upto fnExactCamOfSpec)

/-- 'laws.FnExactFaultCount', WHERE WHAT IT READS IS OF BULK AT MOST 1048576: true; the input reads as it did. -/
def fnExactFaultCountUptoRow : OpenClaim := { program := "ytkihjplemnndeaa", sum := "6d19fb941fa837ad11aace7ad8c886a78c3239ebc3c99f4f54733270893a9a06", func := "loop.example/g00921/laws.FnExactFaultCount", spec := "fnExactFaultCount", unfollowed := true, recurses := true, apart := false, narrowed := true }
def FnExactFaultCountUptoSaid : Prop := fnExactFaultCountUptoRow.holds Try.pinned (OpenSpec.upto fnExactFaultCountSpec)

/-- 'laws.FnExactNextFault', WHERE WHAT IT READS IS OF BULK AT MOST 1048576: true; the input reads as it did. -/
def fnExactNextFaultUptoRow : OpenClaim := { program := "ytkihjplemnndeaa", sum := "6d19fb941fa837ad11aace7ad8c886a78c3239ebc3c99f4f54733270893a9a06", func := "loop.example/g00921/laws.FnExactNextFault", spec := "fnExactNextFault", unfollowed := true, recurses := true, apart := false, narrowed := true }
def FnExactNextFaultUptoSaid : Prop := fnExactNextFaultUptoRow.holds Try.pinned (OpenSpec.upto fnExactNextFaultSpec)

end Rows
end Go.Proofs.Ytkihjplemnndeaa
