/- Names. No program in sight. -/
import Derived.Test.YtaamnmpbkdinpaaCPlain7
namespace Go.Proofs.Ytaamnmpbkdinpaa
set_option linter.unusedVariables false
/-- byte i of a text, as a number -/
def btN (s : ByteArray) (i : Nat) : Nat := (s.data.toList.getD i 0).toNat
/-- byte c may stand at place i of a name -/
def chN (i c : Nat) : Bool := decide ((97 ≤ c ∧ c ≤ 122) ∨ (i ≠ 0 ∧ ((48 ≤ c ∧ c ≤ 57) ∨ c = 45)))
def nmTo (s : ByteArray) : Nat → Bool
  | 0 => true
  | k + 1 => nmTo s k && chN k (btN s k)
theorem nmTo_ff {s : ByteArray} {n k : Nat} (hk : k < n) (h : chN k (btN s k) = false) : nmTo s n = false := by
  induction n with
  | zero => omega
  | succ n ih =>
    by_cases e : k = n
    · subst e; simp only [nmTo, h, Bool.and_false]
    · simp only [nmTo, ih (by omega), Bool.false_and]
/-- a text is a name -/
def isNm (s : ByteArray) : Bool := decide (1 ≤ s.size) && decide (s.size ≤ 12) && nmTo s s.size
theorem isNm_0 {s : ByteArray} (h : s.size < 1) : isNm s = false := by simp [isNm]; omega
theorem isNm_12 {s : ByteArray} (h : 12 < s.size) : isNm s = false := by simp [isNm]; omega
theorem isNm_ff {s : ByteArray} {k : Nat} (hk : k < s.size) (h : chN k (btN s k) = false) : isNm s = false := by simp [isNm, nmTo_ff hk h]
theorem isNm_tt {s : ByteArray} (h1 : 1 ≤ s.size) (h2 : s.size ≤ 12) (h : nmTo s s.size = true) : isNm s = true := by simp [isNm, h, h1, h2]
def chS (c : Nat) : Bool := decide (97 ≤ c ∧ c ≤ 122)
def chD (c : Nat) : Bool := decide (48 ≤ c ∧ c ≤ 57)
theorem btN_at {s : ByteArray} {j : Nat} (h : j < s.size) : s[j].toNat = btN s j := by
  have h' : j < s.data.size := h
  unfold btN
  rw [List.getD_eq_getElem?_getD, List.getElem?_eq_getElem (by simpa using h)]
  rfl
theorem chN_S {i c : Nat} (h : chS c = true) : chN i c = true := by simp [chS] at h; simp [chN]; omega
theorem chN_D {i c : Nat} (hi : i ≠ 0) (h : chD c = true) : chN i c = true := by simp [chD] at h; simp [chN]; omega
theorem chN_m {i c : Nat} (hi : i ≠ 0) (h : c = 45) : chN i c = true := by simp [chN]; omega
theorem chN_0 {c : Nat} (h : chS c = false) : chN 0 c = false := by simp [chS] at h; simp [chN]; omega
theorem chN_f {i c : Nat} (h : chS c = false) (h2 : chD c = false) (h3 : c ≠ 45) : chN i c = false := by simp [chS] at h; simp [chD] at h2; simp [chN]; omega
end Go.Proofs.Ytaamnmpbkdinpaa
