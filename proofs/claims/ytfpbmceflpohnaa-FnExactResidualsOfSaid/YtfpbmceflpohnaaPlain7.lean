/- The best change: the reference's round. No program in sight. -/
import Derived.Test.YtfpbmceflpohnaaPlain6
namespace Go.Proofs.Ytfpbmceflpohnaa
set_option linter.unusedVariables false
set_option linter.unusedSimpArgs false
theorem OffB.le {n : Nat} {o : Nat → Int} (b : OffB n o) {k : Nat} (hk : k ≤ n) : OffB k o := ⟨by have := b.n60; omega, fun j hj => b.bo j (by omega)⟩
theorem spr_bd {n : Nat} {o : Nat → Int} (b : OffB n o) : -36000000000000 ≤ spr n o ∧ spr n o ≤ 36000000000000 := by
  have s := b.ss (Nat.le_refl n)
  have q := b.q (Nat.le_refl n)
  have h60 := b.n60
  have := mul_nn (a := (n : Int)) (A := 60) (by omega) (by omega) q.1 q.2
  unfold spr; omega
/-- the reference's term of a place -/
def rN (n : Nat) (o : Nat → Int) (j : Nat) : Int := spr (j + 1) o * ((n : Int) - (j + 1)) + spr (n - (j + 1)) (fun i => o (i + (j + 1))) * ((j : Int) + 1)
theorem rN_eq {n : Nat} {o : Nat → Int} {j : Nat} (hj : j + 1 < n) : rN n o j = ((j : Int) + 1) * ((n : Int) - (j + 1)) * sq o n - ((sm o j + o j) * (sm o j + o j) * ((n : Int) - (j + 1)) + (sm o n - (sm o j + o j)) * (sm o n - (sm o j + o j)) * ((j : Int) + 1)) := by
  have h := spr_sum (n := n) (o := o) (k := j + 1) (by omega)
  rw [bcD_succ, bcU_succ] at h
  simpa only [rN, Int.natCast_add, Int.natCast_one] using h
theorem bcN_bd {n : Nat} {o : Nat → Int} (b : OffB n o) {j : Nat} (hj : j < n) : -5000000000000000 ≤ bcN n o j ∧ bcN n o j ≤ 5000000000000000 := by
  have s := bst b hj
  have q := b.q (Nat.le_refl n)
  unfold bcN
  split
  · omega
  · have := mul_nn (by have := s.d0; omega) s.d1 q.1 q.2
    have := s.u0; have := s.u1
    omega
structure BR (n : Nat) (o : Nat → Int) (j : Nat) : Prop where
  a0 : -36000000000000 ≤ spr (j + 1) o
  a1 : spr (j + 1) o ≤ 36000000000000
  b0 : -36000000000000 ≤ spr (n - (j + 1)) (fun i => o (i + (j + 1)))
  b1 : spr (n - (j + 1)) (fun i => o (i + (j + 1))) ≤ 36000000000000
  c0 : -2160000000000000 ≤ spr (j + 1) o * ((n : Int) - (j + 1))
  c1 : spr (j + 1) o * ((n : Int) - (j + 1)) ≤ 2160000000000000
  d0 : -2160000000000000 ≤ spr (n - (j + 1)) (fun i => o (i + (j + 1))) * ((j : Int) + 1)
  d1 : spr (n - (j + 1)) (fun i => o (i + (j + 1))) * ((j : Int) + 1) ≤ 2160000000000000
  e0 : 0 ≤ ((j : Int) + 1) * ((n : Int) - (j + 1))
  e1 : ((j : Int) + 1) * ((n : Int) - (j + 1)) ≤ 900
  p0 : -4500000000000000000 ≤ (spr (j + 1) o * ((n : Int) - (j + 1)) + spr (n - (j + 1)) (fun i => o (i + (j + 1))) * ((j : Int) + 1)) * (bc n o j).2.2
  p1 : (spr (j + 1) o * ((n : Int) - (j + 1)) + spr (n - (j + 1)) (fun i => o (i + (j + 1))) * ((j : Int) + 1)) * (bc n o j).2.2 ≤ 4500000000000000000
  q0 : -4500000000000000000 ≤ bcN n o j * (((j : Int) + 1) * ((n : Int) - (j + 1)))
  q1 : bcN n o j * (((j : Int) + 1) * ((n : Int) - (j + 1))) ≤ 4500000000000000000
theorem br_of {n : Nat} {o : Nat → Int} (b : OffB n o) {j : Nat} (hj : j + 1 < n) : BR n o j := by
  have w := bw_of b hj
  have s := bst b (j := j) (by omega)
  have a := spr_bd (b.le (k := j + 1) (by omega))
  have c := spr_bd (b.tail (k := j + 1) (by omega))
  have h60 := b.n60
  have p := mul_bd (a := spr (j + 1) o) (b := (n : Int) - (j + 1)) (A := 36000000000000) (B := 60) (by omega) a.2 (by omega) (by omega)
  have q := mul_bd (a := spr (n - (j + 1)) (fun i => o (i + (j + 1)))) (b := (j : Int) + 1) (A := 36000000000000) (B := 60) (by omega) c.2 (by omega) (by omega)
  have d0 := s.d0
  have x := mul_bd (a := spr (j + 1) o * ((n : Int) - (j + 1)) + spr (n - (j + 1)) (fun i => o (i + (j + 1))) * ((j : Int) + 1)) (b := (bc n o j).2.2) (A := 4320000000000000) (B := 900) (by omega) (by omega) (by omega) s.d1
  have nb := bcN_bd b (j := j) (by omega)
  have y := mul_bd (a := bcN n o j) (b := ((j : Int) + 1) * ((n : Int) - (j + 1))) (A := 5000000000000000) (B := 900) (by omega) nb.2 (by have := w.d0; omega) w.d1
  exact ⟨a.1, a.2, c.1, c.2, by omega, by omega, by omega, by omega, w.d0, w.d1, by omega, by omega, by omega, by omega⟩
theorem bc_one {n : Nat} {o : Nat → Int} (b : OffB n o) (h1 : 0 + 1 < n) : (bc n o 0).2.1 * (((0 : Nat) : Int) + 1) * ((n : Int) - (((0 : Nat) : Int) + 1)) < 0 := by
  simp [bc]; omega
/-- which of the two is less: the reference's test and the program's -/
theorem cmp_eq {D S U d u : Int} : (D * S - U) * d < (d * S - u) * D ↔ u * D < U * d := by
  have e1 : (D * S - U) * d = D * S * d - U * d := Int.sub_mul _ _ _
  have e2 : (d * S - u) * D = d * S * D - u * D := Int.sub_mul _ _ _
  have e3 : D * S * d = d * S * D := by rw [Int.mul_comm (D * S) d, Int.mul_comm D S, ← Int.mul_assoc]
  omega
theorem bcN_succ_t {n : Nat} {o : Nat → Int} {j : Nat} (hj : j + 1 < n) (e2 : (bc n o (j + 1)).2.1 = (sm o j + o j) * (sm o j + o j) * ((n : Int) - (j + 1)) + (sm o n - (sm o j + o j)) * (sm o n - (sm o j + o j)) * ((j : Int) + 1)) (e3 : (bc n o (j + 1)).2.2 = ((j : Int) + 1) * ((n : Int) - (j + 1))) :
    spr (j + 1) o * ((n : Int) - (j + 1)) + spr (n - (j + 1)) (fun i => o (i + (j + 1))) * ((j : Int) + 1) = bcN n o (j + 1) := by
  have := rN_eq (o := o) hj
  unfold bcN; rw [if_neg (by omega), e2, e3]
  simpa only [rN] using this
/-- the round's outcomes: the first place; a better one; no better one -/
theorem r_first {n : Nat} {o : Nat → Int} (b : OffB n o) {j : Nat} (hj : j + 1 < n) (h0 : j = 0) :
    (bc n o (j + 1)).1 = (j : Int) + 1 ∧ (bc n o (j + 1)).2.2 = ((j : Int) + 1) * ((n : Int) - (j + 1)) ∧ spr (j + 1) o * ((n : Int) - (j + 1)) + spr (n - (j + 1)) (fun i => o (i + (j + 1))) * ((j : Int) + 1) = bcN n o (j + 1) := by
  have w := bw_of b hj
  have hlt : (bc n o j).2.1 * (((j : Int) + 1) * ((n : Int) - (j + 1))) < ((sm o j + o j) * (sm o j + o j) * ((n : Int) - (j + 1)) + (sm o n - (sm o j + o j)) * (sm o n - (sm o j + o j)) * ((j : Int) + 1)) * (bc n o j).2.2 := by
    have e := (bst b (j := j) (by omega)).i h0
    rw [e]
    have := w.b0; have := w.e0
    have : 0 < ((j : Int) + 1) * ((n : Int) - (j + 1)) := Int.mul_pos (by omega) (by omega)
    simp only [Int.mul_one]; omega
  obtain ⟨e1, e2, e3⟩ := bc_t hlt
  exact ⟨e1, e3, bcN_succ_t hj e2 e3⟩
theorem r_better {n : Nat} {o : Nat → Int} {j : Nat} (hj : j + 1 < n) (h0 : j ≠ 0)
    (h : (spr (j + 1) o * ((n : Int) - (j + 1)) + spr (n - (j + 1)) (fun i => o (i + (j + 1))) * ((j : Int) + 1)) * (bc n o j).2.2 < bcN n o j * (((j : Int) + 1) * ((n : Int) - (j + 1)))) :
    (bc n o (j + 1)).1 = (j : Int) + 1 ∧ (bc n o (j + 1)).2.2 = ((j : Int) + 1) * ((n : Int) - (j + 1)) ∧ spr (j + 1) o * ((n : Int) - (j + 1)) + spr (n - (j + 1)) (fun i => o (i + (j + 1))) * ((j : Int) + 1) = bcN n o (j + 1) := by
  have e := rN_eq (o := o) hj
  unfold rN at e
  rw [e] at h
  unfold bcN at h
  rw [if_neg h0] at h
  obtain ⟨e1, e2, e3⟩ := bc_t (cmp_eq.1 h)
  exact ⟨e1, e3, bcN_succ_t hj e2 e3⟩
theorem r_not {n : Nat} {o : Nat → Int} {j : Nat} (hj : j + 1 < n) (h0 : j ≠ 0)
    (h : bcN n o j * (((j : Int) + 1) * ((n : Int) - (j + 1))) ≤ (spr (j + 1) o * ((n : Int) - (j + 1)) + spr (n - (j + 1)) (fun i => o (i + (j + 1))) * ((j : Int) + 1)) * (bc n o j).2.2) :
    bc n o (j + 1) = bc n o j ∧ bcN n o (j + 1) = bcN n o j := by
  have e := rN_eq (o := o) hj
  unfold rN at e
  rw [e] at h
  have hb : bc n o (j + 1) = bc n o j := bc_f fun h2 => by
    have := cmp_eq (D := ((j : Int) + 1) * ((n : Int) - (j + 1))) (S := sq o n) (d := (bc n o j).2.2) (u := (bc n o j).2.1) |>.2 h2
    unfold bcN at h
    rw [if_neg h0] at h
    omega
  refine ⟨hb, ?_⟩
  unfold bcN; rw [hb, if_neg h0, if_neg (by omega)]
end Go.Proofs.Ytfpbmceflpohnaa
