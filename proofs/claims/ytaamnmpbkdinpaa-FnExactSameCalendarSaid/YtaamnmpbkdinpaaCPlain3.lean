/- Comparisons of dates. No program in sight. -/
import Derived.Test.YtaamnmpbkdinpaaCPlain2
namespace Go.Proofs.Ytaamnmpbkdinpaa
set_option linter.unusedVariables false
def sgn (a b : Int) : Int := if a < b then -1 else if b < a then 1 else 0
/-- the first number that is not 0, or 0 -/
def orV (z : Nat → Int) : Nat → Int
  | 0 => 0
  | n + 1 => if orV z n ≠ 0 then orV z n else z n
theorem orV_zero {z : Nat → Int} {n : Nat} (h : ∀ k, k < n → z k = 0) : orV z n = 0 := by
  induction n with
  | zero => rfl
  | succ n ih => simp only [orV, ih fun k hk => h k (by omega)]; simpa using h n (by omega)
theorem orV_hit {z : Nat → Int} {j n : Nat} (hj : j < n) (h : ∀ k, k < j → z k = 0) (h1 : z j ≠ 0) : orV z n = z j := by
  induction n with
  | zero => omega
  | succ n ih =>
    by_cases e : j = n
    · subst e; simp only [orV, orV_zero h]; simp
    · have := ih (by omega); simp only [orV, this]; simp [h1]
def cmpD (y m d y' m' d' : Int) : Int := if y ≠ y' then sgn y y' else if m ≠ m' then sgn m m' else sgn d d'
theorem sgn_zero {a b : Int} : sgn a b = 0 ↔ a = b := by unfold sgn; split <;> (try split) <;> omega
theorem cmpD_or {y m d y' m' d' : Int} {z : Nat → Int} (h0 : z 0 = sgn y y') (h1 : z 1 = sgn m m') (h2 : z 2 = sgn d d') : orV z 3 = cmpD y m d y' m' d' := by
  unfold cmpD
  by_cases a : y = y'
  · by_cases b : m = m'
    · have e0 : z 0 = 0 := by rw [h0, sgn_zero]; exact a
      have e1 : z 1 = 0 := by rw [h1, sgn_zero]; exact b
      simp only [orV, e0, e1]; simp [a, b, h2]
    · have e0 : z 0 = 0 := by rw [h0, sgn_zero]; exact a
      have e1 : z 1 ≠ 0 := by rw [h1, Ne, sgn_zero]; exact b
      simp only [orV, e0]; simp [e1]; simp [a, b, h1]
  · have e0 : z 0 ≠ 0 := by rw [h0, Ne, sgn_zero]; exact a
    simp only [orV]; simp [e0]; simp [a, h0]
end Go.Proofs.Ytaamnmpbkdinpaa
