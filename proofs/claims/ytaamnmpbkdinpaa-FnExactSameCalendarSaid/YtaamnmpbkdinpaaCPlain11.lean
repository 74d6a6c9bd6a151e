/- Calendars compared. No program in sight. -/
import Derived.Test.YtaamnmpbkdinpaaCPlain10
namespace Go.Proofs.Ytaamnmpbkdinpaa
set_option linter.unusedVariables false
/-- months alike, rules alike, as far as place k -/
def moE (n1 : Nat → ByteArray) (c1 : CalN) (n2 : Nat → ByteArray) (c2 : CalN) (k : Nat) : Bool := decide (n1 k = n2 k) && (decide (c1.dy k = c2.dy k) && decide (c1.lp k = c2.lp k))
def ruE (c1 c2 : CalN) (k : Nat) : Bool := decide (c1.ev k = c2.ev k) && (decide (c1.rs k = c2.rs k) && decide (c1.lf k = c2.lf k))
def upTo (f : Nat → Bool) : Nat → Bool
  | 0 => true
  | k + 1 => upTo f k && f k
theorem upTo_ff {f : Nat → Bool} {n k : Nat} (hk : k < n) (h : f k = false) : upTo f n = false := by
  induction n with
  | zero => omega
  | succ n ih =>
    by_cases e : k = n
    · subst e; simp only [upTo, h, Bool.and_false]
    · simp only [upTo, ih (by omega), Bool.false_and]
theorem moE_f {n1 n2 : Nat → ByteArray} {c1 c2 : CalN} {k : Nat} (h : moE n1 c1 n2 c2 k = false) : (¬ n1 k = n2 k) ∨ (n1 k = n2 k ∧ ¬ c1.dy k = c2.dy k) ∨ (n1 k = n2 k ∧ c1.dy k = c2.dy k ∧ ¬ c1.lp k = c2.lp k) := by
  simp only [moE, Bool.and_eq_false_iff, decide_eq_false_iff_not] at h
  by_cases a : n1 k = n2 k
  · by_cases b : c1.dy k = c2.dy k
    · rcases h with h | h | h
      · exact absurd a h
      · exact absurd b h
      · exact .inr (.inr ⟨a, b, h⟩)
    · exact .inr (.inl ⟨a, b⟩)
  · exact .inl a
theorem moE_t {n1 n2 : Nat → ByteArray} {c1 c2 : CalN} {k : Nat} (h : moE n1 c1 n2 c2 k = true) : n1 k = n2 k ∧ c1.dy k = c2.dy k ∧ c1.lp k = c2.lp k := by
  simpa only [moE, Bool.and_eq_true, decide_eq_true_eq] using h
theorem ruE_f {c1 c2 : CalN} {k : Nat} (h : ruE c1 c2 k = false) : (¬ c1.ev k = c2.ev k) ∨ (c1.ev k = c2.ev k ∧ ¬ c1.rs k = c2.rs k) ∨ (c1.ev k = c2.ev k ∧ c1.rs k = c2.rs k ∧ ¬ c1.lf k = c2.lf k) := by
  simp only [ruE, Bool.and_eq_false_iff, decide_eq_false_iff_not] at h
  by_cases a : c1.ev k = c2.ev k
  · by_cases b : c1.rs k = c2.rs k
    · rcases h with h | h | h
      · exact absurd a h
      · exact absurd b h
      · exact .inr (.inr ⟨a, b, h⟩)
    · exact .inr (.inl ⟨a, b⟩)
  · exact .inl a
theorem ruE_t {c1 c2 : CalN} {k : Nat} (h : ruE c1 c2 k = true) : c1.ev k = c2.ev k ∧ c1.rs k = c2.rs k ∧ c1.lf k = c2.lf k := by
  simpa only [ruE, Bool.and_eq_true, decide_eq_true_eq] using h
/-- two calendars are the same -/
def moS (n1 : Nat → ByteArray) (c1 : CalN) (n2 : Nat → ByteArray) (c2 : CalN) : Bool := decide (c1.n = c2.n) && upTo (moE n1 c1 n2 c2) c1.n
def ruS (c1 c2 : CalN) : Bool := decide (c1.nr = c2.nr) && upTo (ruE c1 c2) c1.nr
def sameB (s1 : ByteArray) (n1 : Nat → ByteArray) (c1 : CalN) (w1 : Int) (s2 : ByteArray) (n2 : Nat → ByteArray) (c2 : CalN) (w2 : Int) : Bool :=
  decide (s1 = s2) && (decide (w1 = w2) && (moS n1 c1 n2 c2 && ruS c1 c2))
end Go.Proofs.Ytaamnmpbkdinpaa
