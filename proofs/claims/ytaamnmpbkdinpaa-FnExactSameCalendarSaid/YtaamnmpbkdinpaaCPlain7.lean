/- Rules: when their years are valid. No program in sight. -/
import Derived.Test.YtaamnmpbkdinpaaCPlain2
namespace Go.Proofs.Ytaamnmpbkdinpaa
set_option linter.unusedVariables false
/-- the rules are valid -/
def rulB (ev rs : Nat → Int) (n : Nat) : Bool := rulTo ev rs n && decide (cyY ev n ≤ 2000) && decide (n ≤ 6)
theorem rulB_bad {ev rs : Nat → Int} {n k : Nat} (hk : k < n) (hb : (inB (ev k) 1 1000 && inB (rs k) 0 (ev k - 1)) = false) : rulB ev rs n = false := by rw [rulB, rulTo_ff hk hb]; rfl
theorem rulB_many {ev rs : Nat → Int} {n k : Nat} (hk : k ≤ n) (h : 2000 < cyY ev k) : rulB ev rs n = false := by
  have := cyY_stuck h n hk
  simp only [rulB, show decide (cyY ev n ≤ 2000) = false by simpa using this, Bool.and_false, Bool.false_and]
/-- what l15Years returns -/
structure YrR (ev rs : Nat → Int) (n : Nat) (x : Int) (b : Bool) : Prop where
  ok : b = rulB ev rs n
  yr : b = true → x = cyY ev n
end Go.Proofs.Ytaamnmpbkdinpaa
