/- Periods of cams. No program in sight. -/
import Derived.Test.YtjlfniabbahghaaCPlain4
namespace Go.Proofs.Ytjlfniabbahghaa
set_option linter.unusedVariables false
theorem eq1To_comm (f g : Nat → Int) (k : Nat) : eq1To f g k = eq1To g f k := by
  induction k with
  | zero => rfl
  | succ k ih => simp only [eq1To, ih]; rw [show (f k == g k) = (g k == f k) from by rw [Bool.eq_iff_iff, beq_iff_eq, beq_iff_eq]; exact ⟨Eq.symm, Eq.symm⟩]
/-- p is a period -/
def perB (z : Nat → Int) (n p : Nat) : Bool := eq1To (fun i => z (i + p)) z (n - p)
theorem perB_full (z : Nat → Int) (n : Nat) : perB z n n = true := by unfold perB; rw [Nat.sub_self]; rfl
/-- the least period -/
structure Per (z : Nat → Int) (n p : Nat) : Prop where
  p1 : 1 ≤ p
  pn : p ≤ n
  is : perB z n p = true
  no : ∀ q, 1 ≤ q → q < p → perB z n q = false
theorem Per.one {z : Nat → Int} {n p q : Nat} (h : Per z n p) (k : Per z n q) : p = q := by
  rcases Nat.lt_trichotomy p q with e | e | e
  · have := k.no p h.p1 e; rw [h.is] at this; cases this
  · exact e
  · have := h.no q k.p1 e; rw [k.is] at this; cases this
/-- the period of a cam, and the code -/
structure PerR (z : Nat → Int) (n : Nat) (p k : Int) : Prop where
  ok : camV n z = true → ∃ q : Nat, p = q ∧ Per z n q ∧ k = 0
  no : camV n z = false → p = 0 ∧ k = 1
theorem PerR.one {z : Nat → Int} {n : Nat} {p k p' k' : Int} (h : PerR z n p k) (h' : PerR z n p' k') : p = p' ∧ k = k' := by
  cases hv : camV n z with
  | true =>
    obtain ⟨q, rfl, hq, rfl⟩ := h.ok hv
    obtain ⟨q', rfl, hq', rfl⟩ := h'.ok hv
    exact ⟨by rw [hq.one hq'], rfl⟩
  | false =>
    obtain ⟨rfl, rfl⟩ := h.no hv
    obtain ⟨rfl, rfl⟩ := h'.no hv
    exact ⟨rfl, rfl⟩
theorem PerR.yes {z : Nat → Int} {n p : Nat} (hv : camV n z = true) (h : Per z n p) : PerR z n p 0 := ⟨fun _ => ⟨p, rfl, h, rfl⟩, fun e => absurd (hv.symm.trans e) (by decide)⟩
theorem PerR.nope {z : Nat → Int} {n : Nat} (hv : camV n z = false) : PerR z n 0 1 := ⟨fun e => absurd (hv.symm.trans e) (by decide), fun _ => ⟨rfl, rfl⟩⟩
theorem eq1To_swap (z : Nat → Int) (p j : Nat) : (eq1To (fun i => z (i + p)) z j && (z j == z (j + p))) = eq1To (fun i => z (i + p)) z (j + 1) := by
  simp only [eq1To]; congr 1; rw [Bool.eq_iff_iff, beq_iff_eq, beq_iff_eq]; exact ⟨Eq.symm, Eq.symm⟩
end Go.Proofs.Ytjlfniabbahghaa
