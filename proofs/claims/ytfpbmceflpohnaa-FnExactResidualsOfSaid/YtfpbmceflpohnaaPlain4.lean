/- Sums over lists of readings. No program in sight. -/
import Derived.Test.YtfpbmceflpohnaaPlain3
namespace Go.Proofs.Ytfpbmceflpohnaa
set_option linter.unusedVariables false
/-- the sum of the first k -/
def sm (f : Nat → Int) : Nat → Int
  | 0 => 0
  | k + 1 => sm f k + f k
def sXX (h : Nat → Int) (k : Nat) : Int := sm (fun i => h i * h i) k
def sXY (h o : Nat → Int) (k : Nat) : Int := sm (fun i => h i * o i) k
theorem sm_bd {f : Nat → Int} {A B : Int} {k : Nat} (hf : ∀ j, j < k → A ≤ f j ∧ f j ≤ B) : A * k ≤ sm f k ∧ sm f k ≤ B * k := by
  induction k with
  | zero => simp [sm]
  | succ k ih =>
    have h1 := ih (fun j hj => hf j (by omega))
    have h2 := hf k (by omega)
    have e1 : A * ((k + 1 : Nat) : Int) = A * k + A := by rw [Int.natCast_add, Int.mul_add]; simp
    have e2 : B * ((k + 1 : Nat) : Int) = B * k + B := by rw [Int.natCast_add, Int.mul_add]; simp
    rw [e1, e2]
    simp only [sm]
    omega
/-- what a valid list bounds -/
structure RB (n : Nat) (h o : Nat → Int) : Prop where
  n60 : n ≤ 60
  bh : ∀ j, j < n → 0 ≤ h j ∧ h j ≤ 10000
  bo : ∀ j, j < n → -100000 ≤ o j ∧ o j ≤ 100000
  up : ∀ j, j + 1 < n → h j < h (j + 1)
theorem rb_of {n : Nat} {h o : Nat → Int} (hv : rdV n h o = true) : RB n h o := by
  simp only [rdV, Bool.and_eq_true, decide_eq_true_eq] at hv
  have ha : ∀ j, j < n → inB (h j) 0 10000 = true ∧ inB (o j) (-100000) 100000 = true ∧ (j = 0 ∨ h (j - 1) < h j) := fun j hj => by
    have := rdTo_at hv.1 hj
    simp only [rdAt, Bool.and_eq_true, Bool.or_eq_true, decide_eq_true_eq, beq_iff_eq] at this
    exact ⟨this.1.1, this.1.2, this.2⟩
  refine ⟨hv.2, fun j hj => inB_t.1 (ha j hj).1, fun j hj => inB_t.1 (ha j hj).2.1, fun j hj => ?_⟩
  have := (ha (j + 1) hj).2.2
  simpa using this
/-- the bounds on the sums of the first k readings, and on what the next one adds -/
structure SB (h o : Nat → Int) (k : Nat) : Prop where
  x0 : 0 ≤ sm h k
  x1 : sm h k ≤ 600000
  y0 : -6000000 ≤ sm o k
  y1 : sm o k ≤ 6000000
  xx0 : 0 ≤ sXX h k
  xx1 : sXX h k ≤ 6000000000
  xy0 : -60000000000 ≤ sXY h o k
  xy1 : sXY h o k ≤ 60000000000
theorem RB.hh {n : Nat} {h o : Nat → Int} (r : RB n h o) {j : Nat} (hj : j < n) : 0 ≤ h j * h j ∧ h j * h j ≤ 100000000 := by
  have := r.bh j hj; exact mul_nn this.1 this.2 this.1 this.2
theorem RB.ho {n : Nat} {h o : Nat → Int} (r : RB n h o) {j : Nat} (hj : j < n) : -1000000000 ≤ h j * o j ∧ h j * o j ≤ 1000000000 := by
  have h1 := r.bh j hj; have h2 := r.bo j hj
  have := mul_bd (A := 10000) (B := 100000) (by omega) h1.2 (by omega) h2.2
  omega
theorem RB.sb {n : Nat} {h o : Nat → Int} (r : RB n h o) {k : Nat} (hk : k ≤ n) : SB h o k := by
  have a := sm_bd (f := h) (A := 0) (B := 10000) (k := k) (fun j hj => r.bh j (by omega))
  have b := sm_bd (f := o) (A := -100000) (B := 100000) (k := k) (fun j hj => r.bo j (by omega))
  have c := sm_bd (f := fun i => h i * h i) (A := 0) (B := 100000000) (k := k) (fun j hj => r.hh (by omega))
  have d := sm_bd (f := fun i => h i * o i) (A := -1000000000) (B := 1000000000) (k := k) (fun j hj => r.ho (by omega))
  have := r.n60
  constructor <;> (try unfold sXX) <;> (try unfold sXY) <;> omega
/-- a value where a list is valid, else 0; the code -/
def fX (v : Bool) (z : Int) : Int := if v then z else 0
def fC (v : Bool) : Int := if v then 0 else 1
end Go.Proofs.Ytfpbmceflpohnaa
