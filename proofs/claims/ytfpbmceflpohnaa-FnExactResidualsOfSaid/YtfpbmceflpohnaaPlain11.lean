/- Sums of valid readings are valid (Cauchy and Schwarz). No program in sight. -/
import Derived.Test.YtfpbmceflpohnaaPlain10
namespace Go.Proofs.Ytfpbmceflpohnaa
set_option linter.unusedVariables false
theorem sm_nn {f : Nat → Int} {k : Nat} (hf : ∀ j, j < k → 0 ≤ f j) : 0 ≤ sm f k := by
  induction k with
  | zero => simp [sm]
  | succ k ih =>
    have h1 := ih (fun j hj => hf j (by omega))
    have h2 := hf k (by omega)
    simp only [sm]; omega
theorem sm_dev (h : Nat → Int) (x : Int) (k : Nat) : sm (fun i => (h i - x) * (h i - x)) k = sXX h k - 2 * (sm h k * x) + (k : Int) * (x * x) := by
  induction k with
  | zero => simp [sm, sXX]
  | succ k ih =>
    have h1 : (h k - x) * (h k - x) = h k * h k - 2 * (h k * x) + x * x := by
      rw [Int.sub_mul, Int.mul_sub, Int.mul_sub, Int.mul_comm x (h k)]; omega
    have h2 : (sm h k + h k) * x = sm h k * x + h k * x := Int.add_mul _ _ _
    have h3 : ((k + 1 : Nat) : Int) * (x * x) = (k : Int) * (x * x) + x * x := by rw [Int.natCast_add, Int.add_mul]; simp
    have h4 : sXX h (k + 1) = sXX h k + h k * h k := rfl
    simp only [sm]
    rw [ih, h1, h2, h3, h4]
    omega
theorem sm_cs (h : Nat → Int) (k : Nat) : sm h k * sm h k ≤ (k : Int) * sXX h k := by
  induction k with
  | zero => simp [sm]
  | succ k ih =>
    have h1 := sm_dev h (h k) k
    have h2 : 0 ≤ sm (fun i => (h i - h k) * (h i - h k)) k := sm_nn fun j _ => sqr_nn _
    have h3 : (sm h k + h k) * (sm h k + h k) = sm h k * sm h k + 2 * (sm h k * h k) + h k * h k := by
      rw [Int.add_mul, Int.mul_add, Int.mul_add, Int.mul_comm (h k) (sm h k)]; omega
    have h4 : ((k + 1 : Nat) : Int) * (sXX h k + h k * h k) = (k : Int) * sXX h k + (k : Int) * (h k * h k) + sXX h k + h k * h k := by
      rw [Int.natCast_add, Int.add_mul, Int.mul_add]; simp; omega
    have h5 : sXX h (k + 1) = sXX h k + h k * h k := rfl
    simp only [sm]
    rw [h5, h3, h4]
    omega
theorem vF_of {n : Nat} {h o : Nat → Int} (r : RB n h o) : vF n (sm h n) (sm o n) (sXX h n) (sXY h o n) = true := by
  have h60 := r.n60
  have a1 := sm_bd (f := h) (A := 0) (B := 10000) (k := n) r.bh
  have a2 := sm_bd (f := o) (A := -100000) (B := 100000) (k := n) r.bo
  have a3 := sm_bd (f := fun i => h i * h i) (A := 0) (B := 100000000) (k := n) fun j hj => by
    have := r.bh j hj
    exact ⟨sqr_nn _, by have := mul_bd (A := 10000) (B := 10000) (by omega) (r.bh j hj).2 (by omega) (r.bh j hj).2; omega⟩
  have a4 := sm_bd (f := fun i => h i * o i) (A := -1000000000) (B := 1000000000) (k := n) fun j hj => by
    have b1 := r.bh j hj
    have b2 := r.bo j hj
    have := mul_bd (A := 10000) (B := 100000) (by omega) b1.2 (by omega) b2.2
    omega
  have a5 := sm_cs h n
  have e1 : sm (fun i => h i * h i) n = sXX h n := rfl
  have e2 : sm (fun i => h i * o i) n = sXY h o n := rfl
  rw [e1] at a3
  rw [e2] at a4
  simp only [vF, Bool.and_eq_true, inB_t, decide_eq_true_eq]
  refine ⟨⟨⟨⟨⟨?_, ?_⟩, ?_⟩, ?_⟩, ?_⟩, a5⟩ <;> omega
/-- the code of residuals -/
def resCode (n : Nat) (h o : Nat → Int) : Int := if rdV n h o then (if slD n (sm h n) (sm o n) (sXX h n) (sXY h o n) = 0 then 6 else 0) else 1
def lineAt (n : Nat) (h o : Nat → Int) (j : Nat) : Int := offV n (sm h n) (sm o n) (sXX h n) (sXY h o n) (h j)
theorem resCode_f {n : Nat} {h o : Nat → Int} (hv : rdV n h o = true) : codeF n (sm h n) (sm o n) (sXX h n) (sXY h o n) = resCode n h o := by
  rw [codeF, if_pos (vF_of (rb_of hv)), resCode, if_pos hv]
end Go.Proofs.Ytfpbmceflpohnaa
