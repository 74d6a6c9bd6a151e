/- The best change: the products in the spelling of the walks. No program in sight. -/
import Derived.Test.YtfpbmceflpohnaaPlain5
namespace Go.Proofs.Ytfpbmceflpohnaa
set_option linter.unusedVariables false
theorem bcU_succ (n : Nat) (o : Nat → Int) (j : Nat) : bcU n o (j + 1) = (sm o j + o j) * (sm o j + o j) * ((n : Int) - (j + 1)) + (sm o n - (sm o j + o j)) * (sm o n - (sm o j + o j)) * ((j : Int) + 1) := by
  unfold bcU; simp only [sm, Int.natCast_add, Int.natCast_one]
theorem bcD_succ (n : Nat) (j : Nat) : bcD n (j + 1) = ((j : Int) + 1) * ((n : Int) - (j + 1)) := by
  unfold bcD; simp only [Int.natCast_add, Int.natCast_one]
/-- the program's round -/
structure BW (n : Nat) (o : Nat → Int) (j : Nat) : Prop where
  s0 : -6000000 ≤ sm o j
  s1 : sm o j ≤ 6000000
  x0 : -100000 ≤ o j
  x1 : o j ≤ 100000
  a0 : 0 ≤ (sm o j + o j) * (sm o j + o j)
  a1 : (sm o j + o j) * (sm o j + o j) ≤ 36000000000000
  b0 : 0 ≤ (sm o j + o j) * (sm o j + o j) * ((n : Int) - (j + 1))
  b1 : (sm o j + o j) * (sm o j + o j) * ((n : Int) - (j + 1)) ≤ 2160000000000000
  c0 : 0 ≤ (sm o n - (sm o j + o j)) * (sm o n - (sm o j + o j))
  c1 : (sm o n - (sm o j + o j)) * (sm o n - (sm o j + o j)) ≤ 36000000000000
  e0 : 0 ≤ (sm o n - (sm o j + o j)) * (sm o n - (sm o j + o j)) * ((j : Int) + 1)
  e1 : (sm o n - (sm o j + o j)) * (sm o n - (sm o j + o j)) * ((j : Int) + 1) ≤ 2160000000000000
  d0 : 0 ≤ ((j : Int) + 1) * ((n : Int) - (j + 1))
  d1 : ((j : Int) + 1) * ((n : Int) - (j + 1)) ≤ 900
  p0 : -1 ≤ ((sm o j + o j) * (sm o j + o j) * ((n : Int) - (j + 1)) + (sm o n - (sm o j + o j)) * (sm o n - (sm o j + o j)) * ((j : Int) + 1)) * (bc n o j).2.2
  p1 : ((sm o j + o j) * (sm o j + o j) * ((n : Int) - (j + 1)) + (sm o n - (sm o j + o j)) * (sm o n - (sm o j + o j)) * ((j : Int) + 1)) * (bc n o j).2.2 ≤ 3888000000000000000
  q0 : -900 ≤ (bc n o j).2.1 * (((j : Int) + 1) * ((n : Int) - (j + 1)))
  q1 : (bc n o j).2.1 * (((j : Int) + 1) * ((n : Int) - (j + 1))) ≤ 3888000000000000000
  t0 : -6000000 ≤ sm o n
  t1 : sm o n ≤ 6000000
theorem bw_of {n : Nat} {o : Nat → Int} (b : OffB n o) {j : Nat} (hj : j + 1 < n) : BW n o j := by
  have c := bcb b (k := j + 1) (by omega) hj
  have s := bst b (j := j) (by omega)
  have ss := b.ss (k := j + 1) (by omega)
  have tt := b.tt (k := j + 1) (by omega)
  have sj := b.s (k := j) (by omega)
  have sn := b.s (k := n) (Nat.le_refl n)
  have xj := b.bo j (by omega)
  obtain ⟨c1, c2, c3, c4, c5, c6, c7, c8⟩ := c
  have u := s.u0
  have u' := s.u1
  have d := s.d0
  have d' := s.d1
  have p := mul_nn (a := bcU n o (j + 1)) (b := (bc n o j).2.2) c7 c8 (by omega) d'
  have q1 : (bc n o j).2.1 * bcD n (j + 1) ≤ 4320000000000000 * 900 := by
    rcases Int.lt_or_le (bc n o j).2.1 0 with h | h
    · have := Int.mul_nonneg (a := -(bc n o j).2.1) (b := bcD n (j + 1)) (by omega) (by omega)
      rw [Int.neg_mul] at this; omega
    · exact (mul_nn h u' (by omega) c6).2
  have q0 : -900 ≤ (bc n o j).2.1 * bcD n (j + 1) := by
    rcases Int.lt_or_le (bc n o j).2.1 0 with h | h
    · have e : (bc n o j).2.1 = -1 := by omega
      rw [e]; omega
    · have := Int.mul_nonneg h (show 0 ≤ bcD n (j + 1) by omega); omega
  rw [bcU_succ] at p
  rw [bcD_succ] at q0 q1 c5 c6
  simp only [sm, Int.natCast_add, Int.natCast_one] at c1 c2 c3 c4 ss tt
  constructor <;> omega
theorem bc_t {n : Nat} {o : Nat → Int} {j : Nat} (h : (bc n o j).2.1 * (((j : Int) + 1) * ((n : Int) - (j + 1))) < ((sm o j + o j) * (sm o j + o j) * ((n : Int) - (j + 1)) + (sm o n - (sm o j + o j)) * (sm o n - (sm o j + o j)) * ((j : Int) + 1)) * (bc n o j).2.2) :
    (bc n o (j + 1)).1 = (j : Int) + 1 ∧ (bc n o (j + 1)).2.1 = (sm o j + o j) * (sm o j + o j) * ((n : Int) - (j + 1)) + (sm o n - (sm o j + o j)) * (sm o n - (sm o j + o j)) * ((j : Int) + 1) ∧ (bc n o (j + 1)).2.2 = ((j : Int) + 1) * ((n : Int) - (j + 1)) := by
  simp only [bc]; rw [bcU_succ, bcD_succ, if_pos h]; exact ⟨rfl, rfl, rfl⟩
theorem bc_f {n : Nat} {o : Nat → Int} {j : Nat} (h : ¬ (bc n o j).2.1 * (((j : Int) + 1) * ((n : Int) - (j + 1))) < ((sm o j + o j) * (sm o j + o j) * ((n : Int) - (j + 1)) + (sm o n - (sm o j + o j)) * (sm o n - (sm o j + o j)) * ((j : Int) + 1)) * (bc n o j).2.2) :
    bc n o (j + 1) = bc n o j := by
  simp only [bc]; rw [bcU_succ, bcD_succ, if_neg h]
theorem bc_f' {n : Nat} {o : Nat → Int} {j : Nat} (h : ((sm o j + o j) * (sm o j + o j) * ((n : Int) - (j + 1)) + (sm o n - (sm o j + o j)) * (sm o n - (sm o j + o j)) * ((j : Int) + 1)) * (bc n o j).2.2 ≤ (bc n o j).2.1 * (((j : Int) + 1) * ((n : Int) - (j + 1)))) :
    bc n o (j + 1) = bc n o j := bc_f (by omega)
/-- code and place of the best change -/
def bcCode (n : Nat) (f o : Nat → Int) : Int := if rdV n f o then (if n < 2 then 6 else 0) else 1
def bcRes (n : Nat) (f o : Nat → Int) : Int := if bcCode n f o = 0 then (bc n o (n - 1)).1 else 0
/-- the reference's round -/
def bcN (n : Nat) (o : Nat → Int) (j : Nat) : Int := if j = 0 then 0 else (bc n o j).2.2 * sq o n - (bc n o j).2.1
end Go.Proofs.Ytfpbmceflpohnaa
