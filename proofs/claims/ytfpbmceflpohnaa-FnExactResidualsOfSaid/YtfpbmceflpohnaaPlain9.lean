/- Jumps of readings. No program in sight. -/
import Derived.Test.YtfpbmceflpohnaaPlain8
namespace Go.Proofs.Ytfpbmceflpohnaa
set_option linter.unusedVariables false
/-- the jumps among the first j places -/
def jmp (o : Nat → Int) (least : Int) : Nat → List Int
  | 0 => []
  | j + 1 => if least ≤ absI (o (j + 1) - o j) then jmp o least j ++ [(j : Int) + 1] else jmp o least j
theorem jmp_len (o : Nat → Int) (least : Int) (j : Nat) : (jmp o least j).length ≤ j := by
  induction j with
  | zero => simp [jmp]
  | succ j ih =>
    simp only [jmp]; split
    · rw [List.length_append, List.length_singleton]; omega
    · omega
def jmpCode (n : Nat) (f o : Nat → Int) (least : Int) : Int := if rdV n f o then (if inB least 0 200000 then 0 else 2) else 1
def jmpRes (n : Nat) (f o : Nat → Int) (least : Int) : List Int := if jmpCode n f o least = 0 then jmp o least (n - 1) else []
theorem jmpRes_len (n : Nat) (f o : Nat → Int) (least : Int) : (jmpRes n f o least).length ≤ n := by
  unfold jmpRes; split
  · have := jmp_len o least (n - 1); omega
  · simp
end Go.Proofs.Ytfpbmceflpohnaa
