/- Lists of numbers compared; cams. No program in sight. -/
import Derived.Test.YtjlfniabbahghaaCPlain2
namespace Go.Proofs.Ytjlfniabbahghaa
set_option linter.unusedVariables false
def eq1To (f g : Nat → Int) : Nat → Bool
  | 0 => true
  | k + 1 => eq1To f g k && (f k == g k)
theorem eq1To_ff {f g : Nat → Int} {k n : Nat} (hk : k < n) (hh : f k ≠ g k) : eq1To f g n = false := by
  induction n with
  | zero => omega
  | succ n ih =>
    by_cases e : k = n
    · subst e; simp [eq1To, hh]
    · simp only [eq1To, ih (by omega), Bool.false_and]
theorem eq1To_self {f : Nat → Int} {n : Nat} : eq1To f f n = true := by
  induction n with
  | zero => rfl
  | succ n ih => simp [eq1To, ih]
/-- the first k notches of a cam are valid -/
def camTo (z : Nat → Int) : Nat → Bool
  | 0 => true
  | k + 1 => camTo z k && inB (z k) 1 60
theorem camTo_ff {z : Nat → Int} {k n : Nat} (hk : k < n) (hh : inB (z k) 1 60 = false) : camTo z n = false := by
  induction n with
  | zero => omega
  | succ n ih =>
    by_cases e : k = n
    · subst e; simp only [camTo, hh, Bool.and_false]
    · simp only [camTo, ih (by omega), Bool.false_and]
theorem camTo_at {z : Nat → Int} {k n : Nat} (h : camTo z n = true) (hk : k < n) : inB (z k) 1 60 = true := by
  induction n with
  | zero => omega
  | succ n ih =>
    simp only [camTo, Bool.and_eq_true] at h
    by_cases e : k = n
    · subst e; exact h.2
    · exact ih h.1 (by omega)
def camV (n : Nat) (z : Nat → Int) : Bool := camTo z n && inB (n : Int) 1 260
theorem camV_ff {z : Nat → Int} {k n : Nat} (hk : k < n) (hh : inB (z k) 1 60 = false) : false = camV n z := by rw [camV, camTo_ff hk hh]; rfl
end Go.Proofs.Ytjlfniabbahghaa
