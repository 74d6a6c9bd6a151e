/- Calendars: rules, leap years, cycles. No program in sight. -/
namespace Go.Proofs.Ytaamnmpbkdinpaa
set_option linter.unusedVariables false

/-- n lies from l to h -/
def inB (n l h : Int) : Bool := decide (l ≤ n) && decide (n ≤ h)
theorem inB_t {n l h : Int} : inB n l h = true ↔ l ≤ n ∧ n ≤ h := by simp [inB]
theorem inB_f {n l h : Int} : inB n l h = false ↔ ¬ (l ≤ n ∧ n ≤ h) := by rw [← inB_t]; simp

/-- the greatest common divisor -/
def gcdI (a b : Int) : Int := (Int.gcd a b : Nat)
theorem gcdI_step {a b : Int} (ha : 0 ≤ a) (hb : 0 < b) : gcdI b (a.tmod b) = gcdI a b := by
  obtain ⟨m, rfl⟩ := Int.eq_ofNat_of_zero_le ha
  obtain ⟨n, rfl⟩ := Int.eq_ofNat_of_zero_le (Int.le_of_lt hb)
  have h1 : (m : Int).tmod n = ((m % n : Nat) : Int) := by rw [Int.tmod_eq_emod_of_nonneg (by omega)]; rfl
  rw [h1]
  simp only [gcdI, Int.gcd, Int.natAbs_natCast]
  rw [Nat.gcd_comm n (m % n), ← Nat.gcd_rec, Nat.gcd_comm]
theorem gcdI_zero {a : Int} (ha : 0 ≤ a) : gcdI a 0 = a := by
  simp only [gcdI, Int.gcd, Int.natAbs_zero, Nat.gcd_zero_right]; omega
theorem gcdI_bd {a b : Int} (ha : 1 ≤ a) (hb : 1 ≤ b) : 1 ≤ gcdI a b ∧ gcdI a b ≤ b ∧ gcdI a b ≤ a := by
  have h1 : 0 < Int.gcd a b := Int.gcd_pos_of_ne_zero_left _ (by omega)
  have h2 : (Int.gcd a b : Int) ≤ b := Int.le_of_dvd (by omega) (Int.gcd_dvd_right ..)
  have h3 : (Int.gcd a b : Int) ≤ a := Int.le_of_dvd (by omega) (Int.gcd_dvd_left ..)
  exact ⟨by unfold gcdI; omega, h2, h3⟩
theorem gcdI_dl {a b : Int} : gcdI a b ∣ a := Int.gcd_dvd_left ..
theorem gcdI_dr {a b : Int} : gcdI a b ∣ b := Int.gcd_dvd_right ..

/-- the years of the cycle of the first k rules; more than 2000 if there are more -/
def cyY (ev : Nat → Int) : Nat → Int
  | 0 => 1
  | k + 1 => if cyY ev k ≤ 2000 then cyY ev k / gcdI (cyY ev k) (ev k) * ev k else cyY ev k
theorem cyY_bd {ev : Nat → Int} {k : Nat} (he : ∀ j, j < k → 1 ≤ ev j ∧ ev j ≤ 1000) : 1 ≤ cyY ev k ∧ cyY ev k ≤ 2000000 := by
  induction k with
  | zero => simp [cyY]
  | succ k ih =>
    have h1 := ih fun j hj => he j (by omega)
    have h2 := he k (by omega)
    simp only [cyY]
    split
    · have h3 := gcdI_bd h1.1 h2.1
      have h4 : 1 ≤ cyY ev k / gcdI (cyY ev k) (ev k) := by
        apply Int.le_ediv_of_mul_le (by omega); omega
      have h5 : cyY ev k / gcdI (cyY ev k) (ev k) ≤ 2000 := by
        have := Int.ediv_le_self (gcdI (cyY ev k) (ev k)) (show 0 ≤ cyY ev k by omega); omega
      have h6 := Int.mul_le_mul h5 h2.2 (by omega) (by omega)
      have h7 := Int.mul_le_mul h4 h2.1 (by omega) (by omega)
      omega
    · exact h1
/-- the step, as both programs reckon it -/
structure CyS (ev : Nat → Int) (k : Nat) : Prop where
  y0 : 1 ≤ cyY ev k
  y1 : cyY ev k ≤ 2000000
  g0 : 1 ≤ gcdI (cyY ev k) (ev k)
  q0 : 0 ≤ cyY ev k / gcdI (cyY ev k) (ev k)
  q1 : cyY ev k ≤ 2000 → cyY ev k / gcdI (cyY ev k) (ev k) ≤ 2000
  p0 : 0 ≤ cyY ev k / gcdI (cyY ev k) (ev k) * ev k
  p1 : cyY ev k ≤ 2000 → cyY ev k / gcdI (cyY ev k) (ev k) * ev k ≤ 2000000
theorem cyS {ev : Nat → Int} {k : Nat} (he : ∀ j, j < k + 1 → 1 ≤ ev j ∧ ev j ≤ 1000) : CyS ev k := by
  have h1 := cyY_bd (ev := ev) (k := k) fun j hj => he j (by omega)
  have h2 := he k (by omega)
  have h3 := gcdI_bd h1.1 h2.1
  have h4 : 0 ≤ cyY ev k / gcdI (cyY ev k) (ev k) := Int.ediv_nonneg (by omega) (by omega)
  have h5 := Int.ediv_le_self (gcdI (cyY ev k) (ev k)) (show 0 ≤ cyY ev k by omega)
  refine ⟨h1.1, h1.2, h3.1, h4, fun h => by omega, Int.mul_nonneg h4 (by omega), fun h => ?_⟩
  have := Int.mul_le_mul (show cyY ev k / gcdI (cyY ev k) (ev k) ≤ 2000 by omega) h2.2 (by omega) (by omega)
  omega
/-- behind more than 2000 years nothing changes -/
theorem cyY_stuck {ev : Nat → Int} {k : Nat} (h : 2000 < cyY ev k) (n : Nat) (hn : k ≤ n) : 2000 < cyY ev n := by
  induction n with
  | zero => have : k = 0 := by omega
            subst this; exact h
  | succ n ih =>
    by_cases e : k = n + 1
    · subst e; exact h
    · have := ih (by omega)
      simp only [cyY]; rw [if_neg (by omega)]; exact this
theorem cyY_dvd {ev : Nat → Int} {n : Nat} (h : cyY ev n ≤ 2000) {k : Nat} (hk : k < n) : ev k ∣ cyY ev n := by
  induction n with
  | zero => omega
  | succ n ih =>
    have h1 : cyY ev n ≤ 2000 := by
      rcases Int.lt_or_le 2000 (cyY ev n) with h2 | h2
      · have := cyY_stuck h2 (n + 1) (by omega); omega
      · exact h2
    have h3 : cyY ev (n + 1) = cyY ev n / gcdI (cyY ev n) (ev n) * ev n := by simp only [cyY]; rw [if_pos h1]
    by_cases e : k = n
    · subst e; rw [h3]; exact Int.dvd_mul_left _ _
    · have h4 := ih h1 (by omega)
      refine Int.dvd_trans h4 ?_
      rw [h3]
      obtain ⟨c, hc⟩ := gcdI_dr (a := cyY ev n) (b := ev n)
      have h5 : cyY ev n / gcdI (cyY ev n) (ev n) * gcdI (cyY ev n) (ev n) = cyY ev n := Int.ediv_mul_cancel gcdI_dl
      refine ⟨c, ?_⟩
      calc cyY ev n / gcdI (cyY ev n) (ev n) * ev n = cyY ev n / gcdI (cyY ev n) (ev n) * (gcdI (cyY ev n) (ev n) * c) := by rw [← hc]
        _ = cyY ev n / gcdI (cyY ev n) (ev n) * gcdI (cyY ev n) (ev n) * c := by rw [Int.mul_assoc]
        _ = cyY ev n * c := by rw [h5]
/-- all of the first k rules are valid -/
def rulTo (ev rs : Nat → Int) : Nat → Bool
  | 0 => true
  | k + 1 => rulTo ev rs k && (inB (ev k) 1 1000 && inB (rs k) 0 (ev k - 1))
theorem rulTo_at {ev rs : Nat → Int} {n k : Nat} (h : rulTo ev rs n = true) (hk : k < n) : (1 ≤ ev k ∧ ev k ≤ 1000) ∧ 0 ≤ rs k ∧ rs k ≤ ev k - 1 := by
  induction n with
  | zero => omega
  | succ n ih =>
    simp only [rulTo, Bool.and_eq_true, inB_t] at h
    by_cases e : k = n
    · subst e; exact h.2
    · exact ih h.1 (by omega)
theorem rulTo_ff {ev rs : Nat → Int} {n k : Nat} (hk : k < n) (hb : (inB (ev k) 1 1000 && inB (rs k) 0 (ev k - 1)) = false) : rulTo ev rs n = false := by
  induction n with
  | zero => omega
  | succ n ih =>
    by_cases e : k = n
    · subst e; simp only [rulTo, hb, Bool.and_false]
    · simp only [rulTo, ih (by omega), Bool.false_and]
theorem rulTo_le {ev rs : Nat → Int} {n k : Nat} (h : rulTo ev rs n = true) (hk : k ≤ n) : rulTo ev rs k = true := by
  induction n with
  | zero => have : k = 0 := by omega
            subst this; exact h
  | succ n ih =>
    by_cases e : k = n + 1
    · subst e; exact h
    · simp only [rulTo, Bool.and_eq_true] at h
      exact ih h.1 (by omega)
/-- a leap year, by the first k rules -/
def lpTo (ev rs : Nat → Int) (lf : Nat → Bool) (y : Int) : Nat → Bool
  | 0 => false
  | k + 1 => if y % ev k = rs k then lf k else lpTo ev rs lf y k
theorem lpTo_add {ev rs : Nat → Int} {lf : Nat → Bool} {n : Nat} {c : Int} (hd : ∀ k, k < n → ev k ∣ c) (y : Int) : lpTo ev rs lf (y + c) n = lpTo ev rs lf y n := by
  induction n with
  | zero => rfl
  | succ n ih =>
    have h1 := hd n (by omega)
    have h2 : (y + c) % ev n = y % ev n := by
      obtain ⟨d, rfl⟩ := h1
      exact Int.add_mul_emod_self_left y (ev n) d
    simp only [lpTo, h2]
    rw [ih fun k hk => hd k (by omega)]
end Go.Proofs.Ytaamnmpbkdinpaa
