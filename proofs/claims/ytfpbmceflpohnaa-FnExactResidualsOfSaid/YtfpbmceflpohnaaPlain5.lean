/- The best change of a mean: both ways to it come to the same. No program in sight. -/
import Derived.Test.YtfpbmceflpohnaaPlain4
namespace Go.Proofs.Ytfpbmceflpohnaa
set_option linter.unusedVariables false
set_option linter.unusedSimpArgs false
def sq (o : Nat → Int) (k : Nat) : Int := sm (fun i => o i * o i) k
theorem sm_shift (f : Nat → Int) (k m : Nat) : sm (fun i => f (i + k)) m = sm f (m + k) - sm f k := by
  induction m with
  | zero => simp [sm]
  | succ m ih => simp only [sm, ih, show m + 1 + k = (m + k) + 1 by omega]; omega
theorem sm_rest (f : Nat → Int) {k n : Nat} (h : k ≤ n) : sm (fun i => f (i + k)) (n - k) = sm f n - sm f k := by
  rw [sm_shift, show n - k + k = n by omega]
theorem sq_rest (o : Nat → Int) {k n : Nat} (h : k ≤ n) : sq (fun i => o (i + k)) (n - k) = sq o n - sq o k := sm_rest (fun i => o i * o i) h
/-- what is greatest at the best change, and what it is divided by -/
def bcU (n : Nat) (o : Nat → Int) (k : Nat) : Int := sm o k * sm o k * ((n : Int) - k) + (sm o n - sm o k) * (sm o n - sm o k) * k
def bcD (n : Nat) (k : Nat) : Int := (k : Int) * ((n : Int) - k)
/-- the best so far, behind j places -/
def bc (n : Nat) (o : Nat → Int) : Nat → Int × Int × Int
  | 0 => (0, -1, 1)
  | j + 1 => if (bc n o j).2.1 * bcD n (j + 1) < bcU n o (j + 1) * (bc n o j).2.2 then ((j : Int) + 1, bcU n o (j + 1), bcD n (j + 1)) else bc n o j
structure OffB (n : Nat) (o : Nat → Int) : Prop where
  n60 : n ≤ 60
  bo : ∀ j, j < n → -100000 ≤ o j ∧ o j ≤ 100000
theorem OffB.s {n : Nat} {o : Nat → Int} (b : OffB n o) {k : Nat} (hk : k ≤ n) : -6000000 ≤ sm o k ∧ sm o k ≤ 6000000 := by
  have := sm_bd (f := o) (A := -100000) (B := 100000) (k := k) (fun j hj => b.bo j (by omega))
  have := b.n60; omega
theorem OffB.oo {n : Nat} {o : Nat → Int} (b : OffB n o) {j : Nat} (hj : j < n) : 0 ≤ o j * o j ∧ o j * o j ≤ 10000000000 := by
  have h := b.bo j hj
  have := mul_bd (A := 100000) (B := 100000) (by omega) h.2 (by omega) h.2
  have h2 : 0 ≤ o j * o j := by
    rcases Int.le_total 0 (o j) with h3 | h3
    · exact Int.mul_nonneg h3 h3
    · exact Int.mul_nonneg_of_nonpos_of_nonpos h3 h3
  omega
theorem OffB.q {n : Nat} {o : Nat → Int} (b : OffB n o) {k : Nat} (hk : k ≤ n) : 0 ≤ sq o k ∧ sq o k ≤ 600000000000 := by
  have := sm_bd (f := fun i => o i * o i) (A := 0) (B := 10000000000) (k := k) (fun j hj => b.oo (by omega))
  have := b.n60; unfold sq; omega
theorem sqr_nn (x : Int) : 0 ≤ x * x := by
  rcases Int.le_total 0 x with h3 | h3
  · exact Int.mul_nonneg h3 h3
  · exact Int.mul_nonneg_of_nonpos_of_nonpos h3 h3
theorem OffB.ss {n : Nat} {o : Nat → Int} (b : OffB n o) {k : Nat} (hk : k ≤ n) : 0 ≤ sm o k * sm o k ∧ sm o k * sm o k ≤ 36000000000000 := by
  have h := b.s hk
  have := mul_bd (A := 6000000) (B := 6000000) (by omega) h.2 (by omega) h.2
  exact ⟨sqr_nn _, by omega⟩
theorem OffB.tail {n : Nat} {o : Nat → Int} (b : OffB n o) {k : Nat} (hk : k ≤ n) : OffB (n - k) (fun i => o (i + k)) :=
  ⟨by have := b.n60; omega, fun j hj => b.bo _ (by omega)⟩
theorem OffB.tt {n : Nat} {o : Nat → Int} (b : OffB n o) {k : Nat} (hk : k ≤ n) : 0 ≤ (sm o n - sm o k) * (sm o n - sm o k) ∧ (sm o n - sm o k) * (sm o n - sm o k) ≤ 36000000000000 := by
  rw [← sm_rest o hk]; exact (b.tail hk).ss (Nat.le_refl _)
theorem OffB.t {n : Nat} {o : Nat → Int} (b : OffB n o) {k : Nat} (hk : k ≤ n) : -6000000 ≤ sm o n - sm o k ∧ sm o n - sm o k ≤ 6000000 := by
  rw [← sm_rest o hk]; exact (b.tail hk).s (Nat.le_refl _)
/-- the products on the way -/
structure BCB (n : Nat) (o : Nat → Int) (k : Nat) : Prop where
  a0 : 0 ≤ sm o k * sm o k * ((n : Int) - k)
  a1 : sm o k * sm o k * ((n : Int) - k) ≤ 2160000000000000
  b0 : 0 ≤ (sm o n - sm o k) * (sm o n - sm o k) * k
  b1 : (sm o n - sm o k) * (sm o n - sm o k) * k ≤ 2160000000000000
  d0 : 0 < bcD n k
  d1 : bcD n k ≤ 900
  u0 : 0 ≤ bcU n o k
  u1 : bcU n o k ≤ 4320000000000000
theorem bcb {n : Nat} {o : Nat → Int} (b : OffB n o) {k : Nat} (h1 : 1 ≤ k) (hk : k < n) : BCB n o k := by
  have h60 := b.n60
  have s := b.ss (k := k) (by omega)
  have t := b.tt (k := k) (by omega)
  have a := mul_nn (b := (n : Int) - k) (B := 60) s.1 s.2 (by omega) (by omega)
  have c := mul_nn (b := (k : Int)) (B := 60) t.1 t.2 (by omega) (by omega)
  have d : 0 < bcD n k := Int.mul_pos (by omega) (by omega)
  have d' : bcD n k ≤ 900 := by
    unfold bcD
    have e := sqr_nn (30 - (k : Int))
    have e1 : (30 - (k : Int)) * (30 - k) = 900 - 60 * k + k * k := by simp only [Int.sub_mul, Int.mul_sub]; omega
    have e2 : (k : Int) * n ≤ k * 60 := Int.mul_le_mul_of_nonneg_left (by omega) (by omega)
    rw [Int.mul_sub]; omega
  refine ⟨a.1, by omega, c.1, by omega, d, d', ?_, ?_⟩ <;> unfold bcU <;> omega
/-- the state behind j places -/
structure BSt (n : Nat) (o : Nat → Int) (j : Nat) : Prop where
  d0 : 0 < (bc n o j).2.2
  d1 : (bc n o j).2.2 ≤ 900
  u0 : -1 ≤ (bc n o j).2.1
  u1 : (bc n o j).2.1 ≤ 4320000000000000
  b0 : 0 ≤ (bc n o j).1
  b1 : (bc n o j).1 ≤ j
  z : (bc n o j).1 = 0 ↔ j = 0
  i : j = 0 → bc n o j = (0, -1, 1)
theorem bst {n : Nat} {o : Nat → Int} (b : OffB n o) {j : Nat} (hj : j < n) : BSt n o j := by
  induction j with
  | zero => constructor <;> simp [bc]
  | succ j ih =>
    have s := ih (by omega)
    have c := bcb b (k := j + 1) (by omega) hj
    have hup : ∀ x : Int × Int × Int, x = (if (bc n o j).2.1 * bcD n (j + 1) < bcU n o (j + 1) * (bc n o j).2.2 then ((j : Int) + 1, bcU n o (j + 1), bcD n (j + 1)) else bc n o j) →
        (0 < x.2.2 ∧ x.2.2 ≤ 900 ∧ -1 ≤ x.2.1 ∧ x.2.1 ≤ 4320000000000000 ∧ 0 ≤ x.1 ∧ x.1 ≤ j + 1 ∧ x.1 ≠ 0) := fun x hx => by
      split at hx
      · subst hx; have := c.d0; have := c.d1; have := c.u0; have := c.u1; simp only; omega
      · rename_i hn
        subst hx
        have h0 : j ≠ 0 := fun e => by
          subst e
          have h0' := c.u0; have := c.d0
          simp only [bc] at hn; omega
        have := s.d0; have := s.d1; have := s.u0; have := s.u1; have := s.b0; have := s.b1
        have hz : (bc n o j).1 ≠ 0 := fun e => h0 (s.z.1 e)
        omega
    obtain ⟨x1, x2, x3, x4, x5, x6, x7⟩ := hup (bc n o (j + 1)) rfl
    refine ⟨x1, x2, x3, x4, x5, by omega, ⟨fun e => absurd e x7, fun e => by omega⟩, fun e => by omega⟩
/-- the reference's terms: the spread of both parts -/
def spr (n : Nat) (o : Nat → Int) : Int := (n : Int) * sq o n - sm o n * sm o n
theorem spr_sum {n : Nat} {o : Nat → Int} {k : Nat} (hk : k ≤ n) :
    spr k o * ((n : Int) - k) + spr (n - k) (fun i => o (i + k)) * k = bcD n k * sq o n - bcU n o k := by
  unfold spr bcD bcU
  rw [sm_rest o hk, sq_rest o hk, Int.natCast_sub hk]
  generalize (n : Int) = N
  generalize (k : Int) = K
  generalize sq o n = A
  generalize sq o k = B
  generalize sm o n = S
  generalize sm o k = T
  simp only [Int.sub_mul, Int.mul_sub, Int.add_mul, Int.mul_add, Int.mul_assoc, Int.mul_comm, Int.mul_left_comm]
  omega
theorem offB_of {n : Nat} {h o : Nat → Int} (r : RB n h o) : OffB n o := ⟨r.n60, r.bo⟩
end Go.Proofs.Ytfpbmceflpohnaa
