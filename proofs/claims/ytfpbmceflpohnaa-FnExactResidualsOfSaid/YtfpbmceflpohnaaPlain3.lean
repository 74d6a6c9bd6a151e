/- Lists of readings, by index: valid ones. No program in sight. -/
import Derived.Test.YtfpbmceflpohnaaPlain
namespace Go.Proofs.Ytfpbmceflpohnaa
set_option linter.unusedVariables false
/-- reading k fits behind the one before it -/
def rdAt (h o : Nat → Int) (k : Nat) : Bool := inB (h k) 0 10000 && inB (o k) (-100000) 100000 && (k == 0 || decide (h (k - 1) < h k))
def rdTo (h o : Nat → Int) : Nat → Bool
  | 0 => true
  | k + 1 => rdTo h o k && rdAt h o k
/-- a list of readings is valid -/
def rdV (n : Nat) (h o : Nat → Int) : Bool := rdTo h o n && decide (n ≤ 60)
theorem rdTo_ff {h o : Nat → Int} {k n : Nat} (hk : k < n) (hh : rdAt h o k = false) : rdTo h o n = false := by
  induction n with
  | zero => omega
  | succ n ih =>
    by_cases e : k = n
    · subst e; simp only [rdTo, hh, Bool.and_false]
    · simp only [rdTo, ih (by omega), Bool.false_and]
theorem rdV_ff {h o : Nat → Int} {k n : Nat} (hk : k < n) (hh : rdAt h o k = false) : false = rdV n h o := by rw [rdV, rdTo_ff hk hh]; rfl
theorem rdTo_at {h o : Nat → Int} {k n : Nat} (hh : rdTo h o n = true) (hk : k < n) : rdAt h o k = true := by
  cases e : rdAt h o k with
  | true => rfl
  | false => rw [rdTo_ff hk e] at hh; cases hh
theorem rdTo_le {h o : Nat → Int} {k n : Nat} (hh : rdTo h o n = true) (hk : k ≤ n) : rdTo h o k = true := by
  induction n with
  | zero => have : k = 0 := by omega
            subst this; rfl
  | succ n ih =>
    by_cases e : k = n + 1
    · subst e; exact hh
    · simp only [rdTo, Bool.and_eq_true] at hh; exact ih hh.1 (by omega)
/-- five ways through the test of one reading -/
theorem rd_ways (h o : Nat → Int) (k : Nat) :
    (inB (h k) 0 10000 = false ∧ rdAt h o k = false) ∨ (inB (h k) 0 10000 = true ∧ inB (o k) (-100000) 100000 = false ∧ rdAt h o k = false) ∨
    (inB (h k) 0 10000 = true ∧ inB (o k) (-100000) 100000 = true ∧ k = 0 ∧ rdAt h o k = true) ∨
    (inB (h k) 0 10000 = true ∧ inB (o k) (-100000) 100000 = true ∧ 0 < k ∧ h k ≤ h (k - 1) ∧ rdAt h o k = false) ∨
    (inB (h k) 0 10000 = true ∧ inB (o k) (-100000) 100000 = true ∧ 0 < k ∧ h (k - 1) < h k ∧ rdAt h o k = true) := by
  unfold rdAt
  cases h1 : inB (h k) 0 10000 with
  | false => exact .inl ⟨rfl, rfl⟩
  | true =>
    cases h2 : inB (o k) (-100000) 100000 with
    | false => exact .inr (.inl ⟨rfl, rfl, rfl⟩)
    | true =>
      by_cases h3 : k = 0
      · exact .inr (.inr (.inl ⟨rfl, rfl, h3, by simp [h3]⟩))
      · by_cases h4 : h (k - 1) < h k
        · exact .inr (.inr (.inr (.inr ⟨rfl, rfl, by omega, h4, by simp [h4]⟩)))
        · exact .inr (.inr (.inr (.inl ⟨rfl, rfl, by omega, by omega, by simp [h4, h3]⟩)))
end Go.Proofs.Ytfpbmceflpohnaa
