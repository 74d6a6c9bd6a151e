/- The texts of marks. No program in sight. -/
import Derived.Test.YtjlfniabbahghaaCPlain
namespace Go.Proofs.Ytjlfniabbahghaa
set_option linter.unusedVariables false
/-- the decimal digits of k, none of 0 -/
def digs (k : Nat) : List UInt8 := if h : k = 0 then [] else digs (k / 10) ++ [UInt8.ofNat (48 + k % 10)]
  termination_by k
  decreasing_by omega
theorem digs_zero : digs 0 = [] := by rw [digs]; simp
theorem digs_step {k : Nat} (h : k ≠ 0) : digs k = digs (k / 10) ++ [UInt8.ofNat (48 + k % 10)] := by rw [digs]; simp [h]
theorem digs_len (k : Nat) (m : Nat) (h : k < 10 ^ m) : (digs k).length ≤ m := by
  induction m generalizing k with
  | zero => have : k = 0 := by omega
            subst this; rw [digs_zero]; simp
  | succ m ih =>
    by_cases e : k = 0
    · subst e; rw [digs_zero]; simp
    · rw [digs_step e, List.length_append, List.length_singleton]
      have := ih (k / 10) (by rw [Nat.pow_succ] at h; omega)
      omega
/-- the text of mark k -/
def markT (k : Nat) : ByteArray := if k = 0 then ⟨#[109, 48]⟩ else ⟨#[109]⟩ ++ ⟨(digs k).toArray⟩
end Go.Proofs.Ytjlfniabbahghaa
