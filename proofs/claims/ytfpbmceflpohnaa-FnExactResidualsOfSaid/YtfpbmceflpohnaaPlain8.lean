/- Lists of integers: compared; absolute values. No program in sight. -/
import Derived.Test.YtfpbmceflpohnaaPlain7
namespace Go.Proofs.Ytfpbmceflpohnaa
set_option linter.unusedVariables false
def eq1To (f g : Nat → Int) : Nat → Bool
  | 0 => true
  | k + 1 => eq1To f g k && (f k == g k)
theorem eq1To_ff {f g : Nat → Int} {k n : Nat} (hk : k < n) (hh : f k ≠ g k) : eq1To f g n = false := by
  induction n with
  | zero => omega
  | succ n ih =>
    by_cases e : k = n
    · subst e; simp [eq1To, hh]
    · simp only [eq1To, ih (by omega), Bool.false_and]
theorem eq1To_self {f : Nat → Int} {n : Nat} : eq1To f f n = true := by
  induction n with
  | zero => rfl
  | succ n ih => simp [eq1To, ih]
def absI (n : Int) : Int := if n < 0 then -n else n
end Go.Proofs.Ytfpbmceflpohnaa
