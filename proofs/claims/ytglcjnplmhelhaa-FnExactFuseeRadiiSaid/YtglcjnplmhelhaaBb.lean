/- Springs: torque at a position. No program in sight. Springs: the torque as a function, energies. No program in sight. Springs: fusees, running times, stopworks; weights. No program in sight. Springs: what the small functions return. Springs: the torque at a position. Springs: the torque at a position, the reference. Springs: valid ones. PullAt. -/
import Derived.Test.YtglcjnplmhelhaaBa

namespace Go.Proofs.Ytglcjnplmhelhaa
set_option linter.unusedVariables false
theorem nearD_mono {n n' d : Int} (hd : 0 < d) (h : n ≤ n') : nearD n d ≤ nearD n' d := Int.ediv_le_ediv (by omega) (by omega)
theorem nearD_mul {a d : Int} (hd : 0 < d) : nearD (a * d) d = a := by
  unfold nearD
  have e : 2 * (a * d) + d = d + a * (2 * d) := by grind
  rw [e, Int.add_mul_ediv_right _ _ (by omega), Int.ediv_eq_zero_of_lt (by omega) (by omega)]; omega
theorem nearD_add {n a d : Int} (hd : 0 < d) : nearD (a * d + n) d = a + nearD n d := by
  unfold nearD
  have e : 2 * (a * d + n) + d = (2 * n + d) + a * (2 * d) := by grind
  rw [e, Int.add_mul_ediv_right _ _ (by omega)]; omega
/-- what a rounded quotient is -/
theorem nearD_bd {n d : Int} (hd : 0 < d) : 2 * (nearD n d * d - n) ≤ d ∧ 2 * (n - nearD n d * d) < d := by
  unfold nearD
  have h1 := Int.mul_ediv_add_emod (2 * n + d) (2 * d)
  have h2 := Int.emod_nonneg (2 * n + d) (show 2 * d ≠ 0 by omega)
  have h3 := Int.emod_lt_of_pos (2 * n + d) (show 0 < 2 * d by omega)
  have h4 : 2 * d * ((2 * n + d) / (2 * d)) = 2 * ((2 * n + d) / (2 * d) * d) := by grind
  omega
theorem nearD_anti {m p q : Int} (hp : 0 < p) (hq : p ≤ q) (hm : 0 ≤ m) : nearD m q ≤ nearD m p := by
  unfold nearD
  rw [Int.le_ediv_iff_mul_le (by omega)]
  have h1 := Int.mul_ediv_add_emod (2 * m + q) (2 * q)
  have h2 := Int.emod_nonneg (2 * m + q) (show 2 * q ≠ 0 by omega)
  obtain ⟨x, hx⟩ : ∃ x, x = (2 * m + q) / (2 * q) := ⟨_, rfl⟩
  rw [← hx] at h1 ⊢
  have h3 : q * (2 * x - 1) ≤ 2 * m := by
    have : q * (2 * x - 1) = 2 * q * x - q := by grind
    omega
  have h4 : p * (2 * x - 1) ≤ 2 * m := by
    rcases Int.lt_or_le (2 * x - 1) 0 with h | h
    · have := Int.mul_nonneg (show 0 ≤ p by omega) (show 0 ≤ -(2 * x - 1) by omega)
      have e : p * -(2 * x - 1) = -(p * (2 * x - 1)) := by grind
      omega
    · exact Int.le_trans (Int.mul_le_mul_of_nonneg_right hq h) h3
  have e : x * (2 * p) = p * (2 * x - 1) + p := by grind
  omega
/-- bend k of a spring is valid -/
def bdA (w p : Nat → Int) (k : Nat) : Bool := inB (w k) 0 2000 && (inB (p k) 0 1000000 && (k == 0 || (decide (w (k - 1) < w k) && decide (p (k - 1) ≤ p k))))
def bdTo (w p : Nat → Int) : Nat → Bool
  | 0 => true
  | k + 1 => bdTo w p k && bdA w p k
theorem bdTo_ff {w p : Nat → Int} {n k : Nat} (hk : k < n) (h : bdA w p k = false) : bdTo w p n = false := by
  induction n with
  | zero => omega
  | succ n ih =>
    by_cases e : k = n
    · subst e; simp only [bdTo, h, Bool.and_false]
    · simp only [bdTo, ih (by omega), Bool.false_and]
theorem bdTo_at {w p : Nat → Int} {n k : Nat} (h : bdTo w p n = true) (hk : k < n) : bdA w p k = true := by
  cases e : bdA w p k
  · rw [bdTo_ff hk e] at h; cases h
  · rfl
/-- a spring is valid -/
def spV (n : Nat) (w p : Nat → Int) : Bool := bdTo w p n && (decide (2 ≤ n) && decide (n ≤ 20))
structure SpB (n : Nat) (w p : Nat → Int) : Prop where
  n2 : 2 ≤ n
  n20 : n ≤ 20
  wb : ∀ k, k < n → 0 ≤ w k ∧ w k ≤ 2000
  pb : ∀ k, k < n → 0 ≤ p k ∧ p k ≤ 1000000
  wi : ∀ k, k + 1 < n → w k < w (k + 1)
  pi : ∀ k, k + 1 < n → p k ≤ p (k + 1)
theorem spV_b {n : Nat} {w p : Nat → Int} (h : spV n w p = true) : SpB n w p := by
  simp only [spV, Bool.and_eq_true, decide_eq_true_eq] at h
  obtain ⟨h1, h2, h3⟩ := h
  have ha : ∀ k, k < n → inB (w k) 0 2000 = true ∧ inB (p k) 0 1000000 = true ∧ (k = 0 ∨ (w (k - 1) < w k ∧ p (k - 1) ≤ p k)) := fun k hk => by
    have := bdTo_at h1 hk
    simpa only [bdA, Bool.and_eq_true, Bool.or_eq_true, beq_iff_eq, decide_eq_true_eq] using this
  refine ⟨h2, h3, fun k hk => inB_t.1 (ha k hk).1, fun k hk => inB_t.1 (ha k hk).2.1, fun k hk => ?_, fun k hk => ?_⟩
  · rcases (ha (k + 1) hk).2.2 with e | ⟨e, _⟩
    · omega
    · simpa using e
  · rcases (ha (k + 1) hk).2.2 with e | ⟨_, e⟩
    · omega
    · simpa using e
theorem SpB.wm {n : Nat} {w p : Nat → Int} (b : SpB n w p) {i j : Nat} (h : i ≤ j) (hj : j < n) : w i ≤ w j := by
  induction j with
  | zero => have : i = 0 := by omega
            subst this; exact Int.le_refl _
  | succ j ih =>
    by_cases e : i = j + 1
    · subst e; exact Int.le_refl _
    · have := ih (by omega) (by omega); have := b.wi j hj; omega
theorem SpB.wl {n : Nat} {w p : Nat → Int} (b : SpB n w p) {i j : Nat} (h : i < j) (hj : j < n) : w i < w j := by
  have h1 := b.wm (show i + 1 ≤ j from h) hj
  have h2 := b.wi i (by omega)
  omega
theorem SpB.pm {n : Nat} {w p : Nat → Int} (b : SpB n w p) {i j : Nat} (h : i ≤ j) (hj : j < n) : p i ≤ p j := by
  induction j with
  | zero => have : i = 0 := by omega
            subst this; exact Int.le_refl _
  | succ j ih =>
    by_cases e : i = j + 1
    · subst e; exact Int.le_refl _
    · have := ih (by omega) (by omega); have := b.pi j hj; omega
/-- t lies in the part between bends k - 1 and k -/
structure Seg (n : Nat) (w : Nat → Int) (t : Int) (k : Nat) : Prop where
  k1 : 1 ≤ k
  kn : k < n
  hi : t ≤ w k
  lo : w (k - 1) ≤ t
  st : ∀ j, 1 ≤ j → j < k → w j < t
theorem Seg.one {n : Nat} {w p : Nat → Int} (b : SpB n w p) {t : Int} {k j : Nat} (h : Seg n w t k) (g : Seg n w t j) : k = j := by
  rcases Nat.lt_trichotomy k j with a | a | a
  · have := g.st k h.k1 a; have := h.hi; omega
  · exact a
  · have := h.st j g.k1 a; have := g.hi; omega
theorem Seg.ex {n : Nat} {w p : Nat → Int} (b : SpB n w p) {t : Int} (h0 : w 0 ≤ t) (h1 : t ≤ w (n - 1)) : ∃ k, Seg n w t k := by
  have h2 := b.n2
  -- the first bend from 1 on that is not below t
  have : ∀ m, m < n → t ≤ w m → 1 ≤ m → ∃ k, Seg n w t k := by
    intro m
    induction m with
    | zero => intro _ _ h; omega
    | succ m ih =>
      intro hm ht _
      by_cases a : m = 0
      · subst a
        exact ⟨1, Nat.le_refl _, hm, ht, h0, fun j h1 h2 => by omega⟩
      · by_cases c : t ≤ w m
        · exact ih (by omega) c (by omega)
        · exact ⟨m + 1, by omega, hm, ht, by simp; omega, fun j h1 h2 => by have := b.wm (show j ≤ m by omega) (by omega); omega⟩
  exact this (n - 1) (by omega) h1 (by omega)
/-- the torque in part k -/
def segV (w p : Nat → Int) (k : Nat) (t : Int) : Int := nearD (p (k - 1) * (w k - t) + p k * (t - w (k - 1))) (w k - w (k - 1))
theorem Seg.d {n : Nat} {w p : Nat → Int} (b : SpB n w p) {t : Int} {k : Nat} (h : Seg n w t k) : 0 < w k - w (k - 1) := by
  have := b.wl (show k - 1 < k by have := h.k1; omega) h.kn; omega
theorem segV_alt (w p : Nat → Int) (k : Nat) (t : Int) (hd : 0 < w k - w (k - 1)) : segV w p k t = p (k - 1) + nearD ((p k - p (k - 1)) * (t - w (k - 1))) (w k - w (k - 1)) := by
  unfold segV
  rw [← nearD_add hd]; congr 1; grind
theorem Seg.bd {n : Nat} {w p : Nat → Int} (b : SpB n w p) {t : Int} {k : Nat} (h : Seg n w t k) : p (k - 1) ≤ segV w p k t ∧ segV w p k t ≤ p k := by
  have hd := h.d b
  have hp := b.pm (show k - 1 ≤ k by omega) h.kn
  have h1 := h.lo
  have h2 := h.hi
  have e1 := Int.mul_nonneg (show 0 ≤ p k - p (k - 1) by omega) (show 0 ≤ t - w (k - 1) by omega)
  have e2 := Int.mul_nonneg (show 0 ≤ p k - p (k - 1) by omega) (show 0 ≤ w k - t by omega)
  constructor
  · have := nearD_mono hd (show p (k - 1) * (w k - w (k - 1)) ≤ p (k - 1) * (w k - t) + p k * (t - w (k - 1)) by grind)
    rw [nearD_mul hd] at this; exact this
  · have := nearD_mono hd (show p (k - 1) * (w k - t) + p k * (t - w (k - 1)) ≤ p k * (w k - w (k - 1)) by grind)
    rw [nearD_mul hd] at this; exact this
theorem Seg.mono {n : Nat} {w p : Nat → Int} (b : SpB n w p) {t t' : Int} {k k' : Nat} (h : Seg n w t k) (h' : Seg n w t' k') (ht : t ≤ t') : segV w p k t ≤ segV w p k' t' := by
  rcases Nat.lt_trichotomy k k' with a | a | a
  · have h1 := (h.bd b).2
    have h2 := (h'.bd b).1
    have h3 := b.pm (show k ≤ k' - 1 by omega) (by have := h'.kn; omega)
    omega
  · subst a
    have hp := b.pm (show k - 1 ≤ k by omega) h.kn
    have e1 := Int.mul_nonneg (show 0 ≤ p k - p (k - 1) by omega) (show 0 ≤ t' - t by omega)
    exact nearD_mono (h.d b) (by grind)
  · have h1 := h.st k' h'.k1 a
    have h2 := h'.hi
    omega
theorem Seg.bend {n : Nat} {w p : Nat → Int} (b : SpB n w p) {i k : Nat} (h : Seg n w (w i) k) (hi : i < n) : segV w p k (w i) = p i := by
  have hd := h.d b
  have hk := h.k1
  have : i = k ∨ i = k - 1 := by
    rcases Nat.lt_trichotomy i k with a | a | a
    · rcases Nat.lt_or_ge i (k - 1) with c | c
      · have := h.lo; have := b.wl c (by have := h.kn; omega); omega
      · right; omega
    · exact .inl a
    · have := b.wl a hi; have := h.hi; omega
  rcases this with rfl | rfl
  · unfold segV
    rw [show p (i - 1) * (w i - w i) + p i * (w i - w (i - 1)) = p i * (w i - w (i - 1)) by grind, nearD_mul hd]
  · unfold segV
    rw [show p (k - 1) * (w k - w (k - 1)) + p k * (w (k - 1) - w (k - 1)) = p (k - 1) * (w k - w (k - 1)) by grind, nearD_mul hd]
end Go.Proofs.Ytglcjnplmhelhaa

namespace Go.Proofs.Ytglcjnplmhelhaa
set_option linter.unusedVariables false
/-- the part in which t lies, sought from the first on -/
def segK (w : Nat → Int) (t : Int) : Nat → Nat
  | 0 => 1
  | f + 1 => if w (segK w t f) < t then segK w t f + 1 else segK w t f
theorem Seg.segK {n : Nat} {w : Nat → Int} {t : Int} {k : Nat} (h : Seg n w t k) (f : Nat) : segK w t f = if f + 1 ≤ k then f + 1 else k := by
  induction f with
  | zero =>
    have := h.k1
    simp only [Go.Proofs.Ytglcjnplmhelhaa.segK]; rw [if_pos (by omega)]
  | succ f ih =>
    simp only [Go.Proofs.Ytglcjnplmhelhaa.segK, ih]
    by_cases a : f + 1 + 1 ≤ k
    · rw [if_pos (show f + 1 ≤ k by omega), if_pos a, if_pos (h.st _ (by omega) (by omega))]
    · rw [if_neg a]
      by_cases c : f + 1 ≤ k
      · have e : f + 1 = k := by omega
        rw [if_pos c, e, if_neg (by have := h.hi; omega)]
      · rw [if_neg c, if_neg (by have := h.hi; omega)]
/-- the torque at t -/
def pullF (w p : Nat → Int) (t : Int) : Int := segV w p (segK w t 20) t
theorem pull_seg {n : Nat} {w p : Nat → Int} (b : SpB n w p) {t : Int} {k : Nat} (h : Seg n w t k) : pullF w p t = segV w p k t := by
  unfold pullF; rw [h.segK, if_neg (by have := h.kn; have := b.n20; omega)]
/-- t is a position -/
def inS (n : Nat) (w : Nat → Int) (t : Int) : Bool := inB t (w 0) (w (n - 1))
section
variable {n : Nat} {w p : Nat → Int}
theorem SpB.seg (b : SpB n w p) {t : Int} (h : inS n w t = true) : ∃ k, Seg n w t k := Seg.ex b (inB_t.1 h).1 (inB_t.1 h).2
theorem SpB.inS (b : SpB n w p) {t : Int} (h : inS n w t = true) : 0 ≤ t ∧ t ≤ 2000 := by
  have h1 := inB_t.1 h
  have h2 := b.wb 0 (by have := b.n2; omega)
  have h3 := b.wb (n - 1) (by have := b.n2; omega)
  omega
theorem SpB.pull (b : SpB n w p) {t : Int} (h : Go.Proofs.Ytglcjnplmhelhaa.inS n w t = true) : 0 ≤ pullF w p t ∧ pullF w p t ≤ 1000000 := by
  obtain ⟨k, hk⟩ := b.seg h
  rw [pull_seg b hk]
  have h1 := hk.bd b
  have h2 := b.pb (k - 1) (by have := hk.kn; omega)
  have h3 := b.pb k hk.kn
  omega
theorem SpB.mono (b : SpB n w p) {t t' : Int} (h : Go.Proofs.Ytglcjnplmhelhaa.inS n w t = true) (h' : Go.Proofs.Ytglcjnplmhelhaa.inS n w t' = true) (ht : t ≤ t') : pullF w p t ≤ pullF w p t' := by
  obtain ⟨k, hk⟩ := b.seg h
  obtain ⟨k', hk'⟩ := b.seg h'
  rw [pull_seg b hk, pull_seg b hk']
  exact hk.mono b hk' ht
theorem SpB.inW (b : SpB n w p) {i : Nat} (hi : i < n) : Go.Proofs.Ytglcjnplmhelhaa.inS n w (w i) = true := by
  unfold Go.Proofs.Ytglcjnplmhelhaa.inS; rw [inB_t]
  exact ⟨b.wm (Nat.zero_le _) hi, b.wm (show i ≤ n - 1 by omega) (by omega)⟩
theorem SpB.bend (b : SpB n w p) {i : Nat} (hi : i < n) : pullF w p (w i) = p i := by
  obtain ⟨k, hk⟩ := b.seg (b.inW hi)
  rw [pull_seg b hk]
  exact hk.bend b hi
end
/-- twice the energy from a on, over k steps -/
def eng (w p : Nat → Int) (a : Int) : Nat → Int
  | 0 => 0
  | k + 1 => eng w p a k + (pullF w p (a + k) + pullF w p (a + k + 1))
theorem eng_add (w p : Nat → Int) (a : Int) (m k : Nat) : eng w p a (m + k) = eng w p a m + eng w p (a + m) k := by
  induction k with
  | zero => simp [eng]
  | succ k ih =>
    rw [← Nat.add_assoc]
    simp only [eng, ih]
    have e : a + ((m + k : Nat) : Int) = a + (m : Int) + (k : Int) := by omega
    rw [e]; omega
theorem eng_bd {n : Nat} {w p : Nat → Int} (b : SpB n w p) {a : Int} (ha : inS n w a = true) {m : Nat} (hm : inS n w (a + m) = true) {k : Nat} (hk : k ≤ m) :
    2 * (k : Int) * pullF w p a ≤ eng w p a k ∧ eng w p a k ≤ 2 * (k : Int) * pullF w p (a + m) := by
  induction k with
  | zero => simp [eng]
  | succ k ih =>
    have h := ih (by omega)
    have h1 := inB_t.1 ha
    have h2 := inB_t.1 hm
    have i1 : inS n w (a + k) = true := inB_t.2 (by omega)
    have i2 : inS n w (a + k + 1) = true := inB_t.2 (by omega)
    have m1 := b.mono ha i1 (by omega)
    have m2 := b.mono ha i2 (by omega)
    have m3 := b.mono i1 hm (by omega)
    have m4 := b.mono i2 hm (by omega)
    have e1 : 2 * ((k + 1 : Nat) : Int) * pullF w p a = 2 * (k : Int) * pullF w p a + 2 * pullF w p a := by grind
    have e2 : 2 * ((k + 1 : Nat) : Int) * pullF w p (a + m) = 2 * (k : Int) * pullF w p (a + m) + 2 * pullF w p (a + m) := by grind
    simp only [eng]
    omega
end Go.Proofs.Ytglcjnplmhelhaa

namespace Go.Proofs.Ytglcjnplmhelhaa
set_option linter.unusedVariables false
/-- how far a spring runs down from t while its torque suffices, at most f steps -/
def runN (n : Nat) (w p : Nat → Int) (t need : Int) : Nat → Nat
  | 0 => 0
  | f + 1 => if inS n w (t - (runN n w p t need f : Nat) - 1) = true ∧ need ≤ pullF w p (t - (runN n w p t need f : Nat) - 1) then runN n w p t need f + 1 else runN n w p t need f
/-- it has stopped at j steps -/
structure RunE (n : Nat) (w p : Nat → Int) (t need : Int) (j : Nat) : Prop where
  ok : ∀ i : Nat, i ≤ j → inS n w (t - i) = true ∧ need ≤ pullF w p (t - i)
  no : ¬ (inS n w (t - j - 1) = true ∧ need ≤ pullF w p (t - j - 1))
theorem runN_le (n : Nat) (w p : Nat → Int) (t need : Int) (f : Nat) : runN n w p t need f ≤ f := by
  induction f with
  | zero => exact Nat.le_refl _
  | succ f ih => simp only [runN]; split <;> omega
/-- the steps so far all suffice -/
theorem runN_ok {n : Nat} {w p : Nat → Int} {t need : Int} (h : inS n w t = true) (hn : need ≤ pullF w p t) (f : Nat) : ∀ i : Nat, i ≤ runN n w p t need f → inS n w (t - i) = true ∧ need ≤ pullF w p (t - i) := by
  induction f with
  | zero => intro i hi; have : i = 0 := by simp [runN] at hi; exact hi
            subst this; simpa using ⟨h, hn⟩
  | succ f ih =>
    intro i hi
    simp only [runN] at hi
    split at hi
    · rename_i hc
      by_cases e : i = runN n w p t need f + 1
      · subst e
        have e2 : t - ((runN n w p t need f + 1 : Nat) : Int) = t - (runN n w p t need f : Nat) - 1 := by omega
        rw [e2]; exact hc
      · exact ih i (by omega)
    · exact ih i hi
theorem runN_stop {n : Nat} {w p : Nat → Int} {t need : Int} {f : Nat} (h : runN n w p t need (f + 1) = runN n w p t need f) (k : Nat) : runN n w p t need (f + k) = runN n w p t need f := by
  induction k with
  | zero => rfl
  | succ k ih =>
    have e : f + (k + 1) = (f + k) + 1 := by omega
    rw [e]; simp only [runN]; rw [ih]
    simp only [runN] at h
    split at h
    · omega
    · rename_i hc; rw [if_neg hc]
/-- in 2001 steps every spring has stopped -/
theorem runN_end {n : Nat} {w p : Nat → Int} (b : SpB n w p) {t need : Int} (h : inS n w t = true) (hn : need ≤ pullF w p t) : RunE n w p t need (runN n w p t need 2001) := by
  refine ⟨runN_ok h hn _, fun hc => ?_⟩
  -- if it still ran, all of 2002 positions would be some
  have hgrow : ∀ f, f ≤ 2001 → (∀ g, g < f → runN n w p t need (g + 1) = runN n w p t need g + 1) ∨ runN n w p t need 2001 = runN n w p t need f ∧ ∃ g, g < f ∧ runN n w p t need (g + 1) = runN n w p t need g := by
    intro f hf
    by_cases a : ∀ g, g < f → runN n w p t need (g + 1) = runN n w p t need g + 1
    · exact .inl a
    · right
      obtain ⟨g, hg⟩ := Classical.not_forall.1 a
      obtain ⟨hgf, hg2⟩ := Classical.not_imp.1 hg
      have h3 : runN n w p t need (g + 1) = runN n w p t need g := by
        have : runN n w p t need (g + 1) = runN n w p t need g ∨ runN n w p t need (g + 1) = runN n w p t need g + 1 := by
          simp only [runN]; split <;> simp
        rcases this with h | h
        · exact h
        · exact absurd h hg2
      have h4 := runN_stop h3 (2001 - g)
      have h5 := runN_stop h3 (f - g)
      rw [show g + (2001 - g) = 2001 by omega] at h4
      rw [show g + (f - g) = f by omega] at h5
      exact ⟨by rw [h4, h5], g, hgf, h3⟩
  rcases hgrow 2001 (Nat.le_refl _) with a | ⟨_, g, hg, h3⟩
  · have h6 : ∀ f, f ≤ 2001 → runN n w p t need f = f := by
      intro f hf
      induction f with
      | zero => rfl
      | succ f ih => rw [a f (by omega), ih (by omega)]
    have h7 := h6 2001 (Nat.le_refl _)
    have h8 := b.inS (runN_ok h hn 2001 2001 (by omega)).1
    have h9 := b.inS h
    omega
  · have h4 := runN_stop h3 (2001 - g)
    rw [show g + (2001 - g) = 2001 by omega] at h4
    have h5 := runN_stop h3 1
    simp only [runN] at h3
    rw [h4] at hc
    rw [if_pos hc] at h3
    omega
/-- the difference over a width -/
def winD (w p : Nat → Int) (wd t : Int) : Int := pullF w p (t + wd) - pullF w p t
/-- the best of the positions a, a + 1 .. a + j -/
def bstF (w p : Nat → Int) (wd a : Int) : Nat → Int
  | 0 => a
  | j + 1 => if winD w p wd (a + (j : Int) + 1) < winD w p wd (bstF w p wd a j) then a + (j : Int) + 1 else bstF w p wd a j
theorem bstF_in (w p : Nat → Int) (wd a : Int) (j : Nat) : a ≤ bstF w p wd a j ∧ bstF w p wd a j ≤ a + j := by
  induction j with
  | zero => simp [bstF]
  | succ j ih => simp only [bstF]; split <;> omega
theorem bstF_least (w p : Nat → Int) (wd a : Int) (j : Nat) : ∀ i : Nat, i ≤ j → winD w p wd (bstF w p wd a j) ≤ winD w p wd (a + i) ∧ (winD w p wd (a + i) = winD w p wd (bstF w p wd a j) → bstF w p wd a j ≤ a + i) := by
  induction j with
  | zero => intro i hi; have : i = 0 := by omega
            subst this; simp [bstF]
  | succ j ih =>
    intro i hi
    have hb := bstF_in w p wd a j
    simp only [bstF]
    split
    · rename_i hc
      by_cases e : i = j + 1
      · subst e
        have e2 : a + ((j + 1 : Nat) : Int) = a + (j : Int) + 1 := by omega
        rw [e2]; omega
      · have := ih i (by omega)
        omega
    · rename_i hc
      by_cases e : i = j + 1
      · subst e
        have e2 : a + ((j + 1 : Nat) : Int) = a + (j : Int) + 1 := by omega
        rw [e2]; omega
      · exact ih i (by omega)
end Go.Proofs.Ytglcjnplmhelhaa

namespace Go.Proofs.Ytglcjnplmhelhaa
open Go.RowKit
set_option linter.unusedVariables false
set_option linter.unusedSimpArgs false

section
variable {a : Option Addr} {n c : Nat} {wd pl : Nat → Int} {w : World}
theorem firstOf_c (hn : 1 ≤ n) (hs : S2 w a n wd pl) :
    Calls Try.prog 71 #[.agg #[.slice a n c]] w fun e w' => e = .returned (.int .i64 (wd 0)) ∧ Ext w w' := by
  obtain ⟨b, o, rfl, hb, q1, q2⟩ := hs.at (show 0 < n by omega)
  simp only [Nat.zero_mul, Nat.add_zero] at q1
  clear hs
  go_enter Try.func71, Try.ntmps71
  go_wp2_with fail
  go_ret
  exact ⟨rfl, (by repeat (first | with_reducible exact Ext.refl _ | with_reducible assumption | with_reducible refine Ext.alloc ?_ _ | with_reducible refine Ext.drew ?_ | (with_reducible refine Ext.setAt ?_ _ _ _ ?_; rotate_left; omega) | with_reducible refine Ext.trans ?_ (by assumption) | with_reducible exact Past.bel _ | with_reducible refine Ext.trans ?_ (Past.bel _)))⟩
theorem l13First_c (hn : 1 ≤ n) (hs : S2 w a n wd pl) :
    Calls Try.prog 68 #[.agg #[.slice a n c]] w fun e w' => e = .returned (.int .i64 (wd 0)) ∧ Ext w w' := by
  obtain ⟨b, o, rfl, hb, q1, q2⟩ := hs.at (show 0 < n by omega)
  simp only [Nat.zero_mul, Nat.add_zero] at q1
  clear hs
  go_enter Try.func68, Try.ntmps68
  go_wp2_with fail
  go_ret
  exact ⟨rfl, (by repeat (first | with_reducible exact Ext.refl _ | with_reducible assumption | with_reducible refine Ext.alloc ?_ _ | with_reducible refine Ext.drew ?_ | (with_reducible refine Ext.setAt ?_ _ _ _ ?_; rotate_left; omega) | with_reducible refine Ext.trans ?_ (by assumption) | with_reducible exact Past.bel _ | with_reducible refine Ext.trans ?_ (Past.bel _)))⟩
theorem lastOf_c (hn : 1 ≤ n) (hn2 : n ≤ 1048576) (hs : S2 w a n wd pl) :
    Calls Try.prog 70 #[.agg #[.slice a n c]] w fun e w' => e = .returned (.int .i64 (wd (n - 1))) ∧ Ext w w' := by
  obtain ⟨j, rfl⟩ : ∃ j, n = j + 1 := ⟨n - 1, by omega⟩
  obtain ⟨b, o, rfl, hb, q1, q2⟩ := hs.at (show j < j + 1 by omega)
  have x0 : ((j + 1 : Nat) : Int) - 1 = (j : Int) := by omega
  have x1 : (0 : Int) ≤ (j : Int) := by omega
  clear hs
  go_enter Try.func70, Try.ntmps70
  go_wp2_with fail
  trace_state
  go_ret
  exact ⟨rfl, (by repeat (first | with_reducible exact Ext.refl _ | with_reducible assumption | with_reducible refine Ext.alloc ?_ _ | with_reducible refine Ext.drew ?_ | (with_reducible refine Ext.setAt ?_ _ _ _ ?_; rotate_left; omega) | with_reducible refine Ext.trans ?_ (by assumption) | with_reducible exact Past.bel _ | with_reducible refine Ext.trans ?_ (Past.bel _)))⟩
theorem l13Last_c (hn : 1 ≤ n) (hn2 : n ≤ 1048576) (hs : S2 w a n wd pl) :
    Calls Try.prog 69 #[.agg #[.slice a n c]] w fun e w' => e = .returned (.int .i64 (wd (n - 1))) ∧ Ext w w' := by
  obtain ⟨j, rfl⟩ : ∃ j, n = j + 1 := ⟨n - 1, by omega⟩
  obtain ⟨b, o, rfl, hb, q1, q2⟩ := hs.at (show j < j + 1 by omega)
  have x0 : ((j + 1 : Nat) : Int) - 1 = (j : Int) := by omega
  have x1 : (0 : Int) ≤ (j : Int) := by omega
  clear hs
  go_enter Try.func69, Try.ntmps69
  go_wp2_with fail
  trace_state
  go_ret
  exact ⟨rfl, (by repeat (first | with_reducible exact Ext.refl _ | with_reducible assumption | with_reducible refine Ext.alloc ?_ _ | with_reducible refine Ext.drew ?_ | (with_reducible refine Ext.setAt ?_ _ _ _ ?_; rotate_left; omega) | with_reducible refine Ext.trans ?_ (by assumption) | with_reducible exact Past.bel _ | with_reducible refine Ext.trans ?_ (Past.bel _)))⟩
theorem isPosition_c (hn : 1 ≤ n) (hn2 : n ≤ 1048576) (hs : S2 w a n wd pl) (t : Int) :
    Calls Try.prog 47 #[.agg #[.slice a n c], .int .i64 t] w fun e w' => e = .returned (.bool (inS n wd t)) ∧ Ext w w' := by
  have HS := Lib.hid hs
  clear hs
  go_enter Try.func47, Try.ntmps47
  go_wp2_with fail
  refine wp_region_past (by kernel_rfl) (by kernel_rfl) ?_
  repeat (go_big_quiet_step (first | (go_at_call 71; exact Calls.past (firstOf_c hn (HS.out.ext (by repeat (first | with_reducible exact Ext.refl _ | with_reducible assumption | with_reducible refine Ext.alloc ?_ _ | with_reducible refine Ext.drew ?_ | (with_reducible refine Ext.setAt ?_ _ _ _ ?_; rotate_left; omega) | with_reducible refine Ext.trans ?_ (by assumption) | with_reducible exact Past.bel _ | with_reducible refine Ext.trans ?_ (Past.bel _)))))) | (go_at_call 70; exact Calls.past (lastOf_c hn hn2 (HS.out.ext (by repeat (first | with_reducible exact Ext.refl _ | with_reducible assumption | with_reducible refine Ext.alloc ?_ _ | with_reducible refine Ext.drew ?_ | (with_reducible refine Ext.setAt ?_ _ _ _ ?_; rotate_left; omega) | with_reducible refine Ext.trans ?_ (by assumption) | with_reducible exact Past.bel _ | with_reducible refine Ext.trans ?_ (Past.bel _)))))) | (go_at_call 52; exact Calls.past_same (within_c _ _ _ _))))
  refine wpQuiet_nil ?_
  rintro _ ⟨wx, rfl⟩
  go_wp2_with fail
  go_ret
  exact ⟨rfl, (by repeat (first | with_reducible exact Ext.refl _ | with_reducible assumption | with_reducible refine Ext.alloc ?_ _ | with_reducible refine Ext.drew ?_ | (with_reducible refine Ext.setAt ?_ _ _ _ ?_; rotate_left; omega) | with_reducible refine Ext.trans ?_ (by assumption) | with_reducible exact Past.bel _ | with_reducible refine Ext.trans ?_ (Past.bel _)))⟩
theorem l13In_c (hn : 1 ≤ n) (hn2 : n ≤ 1048576) (hs : S2 w a n wd pl) (t : Int) :
    Calls Try.prog 50 #[.agg #[.slice a n c], .int .i64 t] w fun e w' => e = .returned (.bool (inS n wd t)) ∧ Ext w w' := by
  have HS := Lib.hid hs
  clear hs
  go_enter Try.func50, Try.ntmps50
  go_wp2_with fail
  refine wp_region_past (by kernel_rfl) (by kernel_rfl) ?_
  repeat (go_big_quiet_step (first | (go_at_call 68; exact Calls.past (l13First_c hn (HS.out.ext (by repeat (first | with_reducible exact Ext.refl _ | with_reducible assumption | with_reducible refine Ext.alloc ?_ _ | with_reducible refine Ext.drew ?_ | (with_reducible refine Ext.setAt ?_ _ _ _ ?_; rotate_left; omega) | with_reducible refine Ext.trans ?_ (by assumption) | with_reducible exact Past.bel _ | with_reducible refine Ext.trans ?_ (Past.bel _)))))) | (go_at_call 69; exact Calls.past (l13Last_c hn hn2 (HS.out.ext (by repeat (first | with_reducible exact Ext.refl _ | with_reducible assumption | with_reducible refine Ext.alloc ?_ _ | with_reducible refine Ext.drew ?_ | (with_reducible refine Ext.setAt ?_ _ _ _ ?_; rotate_left; omega) | with_reducible refine Ext.trans ?_ (by assumption) | with_reducible exact Past.bel _ | with_reducible refine Ext.trans ?_ (Past.bel _)))))) | (go_at_call 57; exact Calls.past_same (l00In_c _ _ _ _))))
  refine wpQuiet_nil ?_
  rintro _ ⟨wx, rfl⟩
  go_wp2_with fail
  go_ret
  exact ⟨rfl, (by repeat (first | with_reducible exact Ext.refl _ | with_reducible assumption | with_reducible refine Ext.alloc ?_ _ | with_reducible refine Ext.drew ?_ | (with_reducible refine Ext.setAt ?_ _ _ _ ?_; rotate_left; omega) | with_reducible refine Ext.trans ?_ (by assumption) | with_reducible exact Past.bel _ | with_reducible refine Ext.trans ?_ (Past.bel _)))⟩
theorem isPull_c (t : Int) (w : World) : Calls Try.prog 53 #[.int .i64 t] w fun e w' => e = .returned (.bool (inB t 0 1000000)) ∧ w = w' := by
  go_enter Try.func53, Try.ntmps53
  go_wp2_with (go_at_call 52; ((with_reducible refine (within_c _ _ _ _).mono ?_); rintro e w' ⟨rfl, rfl⟩))
  go_ret
  exact ⟨rfl, rfl⟩
end
end Go.Proofs.Ytglcjnplmhelhaa

namespace Go.Proofs.Ytglcjnplmhelhaa
open Go.RowKit
set_option linter.unusedVariables false
set_option linter.unusedSimpArgs false

section
variable {a : Option Addr} {n c : Nat} {wd pl : Nat → Int} {w : World}
set_option maxHeartbeats 1000000 in
theorem pullAt_c (b : SpB n wd pl) (hs : S2 w a n wd pl) {t : Int} (ht : inS n wd t = true) :
    Calls Try.prog 48 #[.agg #[.slice a n c], .int .i64 t] w fun e w' => e = .returned (.int .i64 (pullF wd pl t)) ∧ Ext w w' := by
  obtain ⟨K, hK⟩ := b.seg ht
  rw [pull_seg b hK]
  obtain ⟨m, rfl⟩ : ∃ m, K = m + 1 := ⟨K - 1, by have := hK.k1; omega⟩
  have hkn := hK.kn
  have n20 := b.n20
  obtain ⟨tb0, tb1⟩ := b.inS ht
  have hw1 := b.wb m (by omega)
  have hw2 := b.wb (m + 1) hkn
  have hp1 := b.pb m (by omega)
  have hp2 := b.pb (m + 1) hkn
  have hlo := hK.lo
  have hhi := hK.hi
  have hd := hK.d b
  simp only [Nat.add_sub_cancel] at hlo hd
  have hst := Lib.hid hK.st
  unfold segV
  simp only [Nat.add_sub_cancel]
  obtain ⟨b1, o1, rfl, hb1, q1, q2⟩ := hs.at (show m < n by omega)
  obtain ⟨b2, o2, e2, -, q3, q4⟩ := hs.at hkn
  obtain ⟨rfl, rfl⟩ : b1 = b2 ∧ o1 = o2 := by simpa using e2
  have HW := Lib.hid (fun j (hj : j < n) => show w.cell? ⟨b1, o1 + j * 2, none⟩ = some (.int .i64 (wd j)) from by
    obtain ⟨b3, o3, e3, -, q5, -⟩ := hs.at hj
    obtain ⟨rfl, rfl⟩ : b1 = b3 ∧ o1 = o3 := by simpa using e3
    exact q5)
  clear e2 hs b hK ht
  obtain ⟨A, hA⟩ : ∃ A, A = pl m := ⟨_, rfl⟩
  obtain ⟨B, hB⟩ : ∃ B, B = pl (m + 1) := ⟨_, rfl⟩
  obtain ⟨U, hU⟩ : ∃ U, U = wd m := ⟨_, rfl⟩
  obtain ⟨V, hV⟩ : ∃ V, V = wd (m + 1) := ⟨_, rfl⟩
  rw [← hA] at q2 hp1 ⊢
  rw [← hB] at q4 hp2 ⊢
  rw [← hU] at q1 hw1 hlo hd ⊢
  rw [← hV] at q3 hw2 hhi hd ⊢
  obtain ⟨K, hKm⟩ : ∃ K, K = m + 1 := ⟨_, rfl⟩
  rw [← hKm] at q3 q4 hst hkn
  have x2 : (K : Int) - 1 = (m : Int) := by omega
  have x5 : 1 ≤ K := by omega
  clear hA hB hU hV hKm
  obtain ⟨m1, m2⟩ := mul_nn (A := 1000000) (B := 2000) hp1.1 hp1.2 (show 0 ≤ V - t by omega) (by omega)
  obtain ⟨m3, m4⟩ := mul_nn (A := 1000000) (B := 2000) hp2.1 hp2.2 (show 0 ≤ t - U by omega) (by omega)
  go_enter Try.func48, Try.ntmps48
  go_wp2_with fail
  go_loop [5] (fun i => ∃ k : Nat, 1 ≤ k ∧ k ≤ K ∧ i = .int .i64 k) (fun i => K - (intOf i).toNat)
  case atStart => exact ⟨1, by omega, by omega, rfl⟩
  case round =>
    obtain ⟨k, hk1, hk2, rfl⟩ := hrel
    have x0 : (0 : Int) ≤ (k : Int) := by omega
    have x1 : (k : Int) < (n : Int) := by omega
    by_cases hlt : k < K
    · have hwk := hst.out k hk1 hlt
      have qk := HW.out k (by omega)
      go_wp2_with fail
      exact ⟨⟨k + 1, by omega, by omega, by go_num⟩, by simp [intOf]; omega⟩
    · obtain rfl : k = K := by omega
      have y1 : b1 < w.heap.size + 1 := by omega
      have y2 : b1 < w.heap.size + 1 + 1 := by omega
      have y3 : b1 < w.heap.size + 1 + 1 + 1 := by omega
      have y4 : ¬ b1 = w.heap.size := by omega
      have y5 : ¬ b1 = w.heap.size + 1 := by omega
      have y6 : ¬ b1 = w.heap.size + 1 + 1 := by omega
      have x3 : (0 : Int) ≤ (m : Int) := by omega
      go_wp2_with fail
      go_region
      all_goals
        go_wp2_with (go_at_call 65; ((with_reducible refine (nearestDiv_c _ _ _ (by omega) (by omega) (by omega) (by omega)).mono ?_); rintro e w' ⟨rfl, rfl⟩))
        go_ret
        exact ⟨rfl, (by repeat (first | with_reducible exact Ext.refl _ | with_reducible assumption | with_reducible refine Ext.alloc ?_ _ | with_reducible refine Ext.drew ?_ | (with_reducible refine Ext.setAt ?_ _ _ _ ?_; rotate_left; omega) | with_reducible refine Ext.trans ?_ (by assumption) | with_reducible exact Past.bel _ | with_reducible refine Ext.trans ?_ (Past.bel _)))⟩
end
end Go.Proofs.Ytglcjnplmhelhaa

namespace Go.Proofs.Ytglcjnplmhelhaa
open Go.RowKit
set_option linter.unusedVariables false
set_option linter.unusedSimpArgs false

section
variable {a : Option Addr} {n c : Nat} {wd pl : Nat → Int} {w : World}
set_option maxHeartbeats 1000000 in
theorem l13At_c (b : SpB n wd pl) (hs : S2 w a n wd pl) {t : Int} (ht : inS n wd t = true) :
    Calls Try.prog 51 #[.agg #[.slice a n c], .int .i64 t] w fun e w' => e = .returned (.int .i64 (pullF wd pl t)) ∧ Ext w w' := by
  obtain ⟨K, hK⟩ := b.seg ht
  rw [pull_seg b hK]
  obtain ⟨m, rfl⟩ : ∃ m, K = m + 1 := ⟨K - 1, by have := hK.k1; omega⟩
  have hkn := hK.kn
  have n20 := b.n20
  obtain ⟨tb0, tb1⟩ := b.inS ht
  have hw1 := b.wb m (by omega)
  have hw2 := b.wb (m + 1) hkn
  have hp1 := b.pb m (by omega)
  have hp2 := b.pb (m + 1) hkn
  have hlo := hK.lo
  have hhi := hK.hi
  have hd := hK.d b
  simp only [Nat.add_sub_cancel] at hlo hd
  have hst := Lib.hid hK.st
  rw [segV_alt _ _ _ _ (by simpa using hd)]
  simp only [Nat.add_sub_cancel]
  have hpm := b.pm (show m ≤ m + 1 by omega) hkn
  obtain ⟨b1, o1, rfl, hb1, q1, q2⟩ := hs.at (show m < n by omega)
  obtain ⟨b2, o2, e2, -, q3, q4⟩ := hs.at hkn
  obtain ⟨rfl, rfl⟩ : b1 = b2 ∧ o1 = o2 := by simpa using e2
  have HW := Lib.hid (fun j (hj : j < n) => show w.cell? ⟨b1, o1 + j * 2, none⟩ = some (.int .i64 (wd j)) from by
    obtain ⟨b3, o3, e3, -, q5, -⟩ := hs.at hj
    obtain ⟨rfl, rfl⟩ : b1 = b3 ∧ o1 = o3 := by simpa using e3
    exact q5)
  clear e2 hs b hK ht
  obtain ⟨A, hA⟩ : ∃ A, A = pl m := ⟨_, rfl⟩
  obtain ⟨B, hB⟩ : ∃ B, B = pl (m + 1) := ⟨_, rfl⟩
  obtain ⟨U, hU⟩ : ∃ U, U = wd m := ⟨_, rfl⟩
  obtain ⟨V, hV⟩ : ∃ V, V = wd (m + 1) := ⟨_, rfl⟩
  rw [← hA] at q2 hp1 hpm ⊢
  rw [← hB] at q4 hp2 hpm ⊢
  rw [← hU] at q1 hw1 hlo hd ⊢
  rw [← hV] at q3 hw2 hhi hd ⊢
  obtain ⟨K, hKm⟩ : ∃ K, K = m + 1 := ⟨_, rfl⟩
  rw [← hKm] at q3 q4 hst hkn
  have x2 : (K : Int) - 1 = (m : Int) := by omega
  have x5 : 1 ≤ K := by omega
  clear hA hB hU hV hKm
  obtain ⟨m1, m2⟩ := mul_nn (A := 1000000) (B := 2000) (show 0 ≤ B - A by omega) (by omega) (show 0 ≤ t - U by omega) (by omega)
  obtain ⟨D, hD⟩ : ∃ D, D = nearD ((B - A) * (t - U)) (V - U) := ⟨_, rfl⟩
  have dd0 : 0 ≤ D := by
    have h := nearD_mono (d := V - U) (show 0 < V - U by omega) (show 0 * (V - U) ≤ (B - A) * (t - U) by omega)
    rw [nearD_mul (by omega)] at h; omega
  have dd1 : D ≤ 1000000 := by
    have h5 : (B - A) * (t - U) ≤ (B - A) * (V - U) := Int.mul_le_mul_of_nonneg_left (by omega) (by omega)
    have h := nearD_mono (d := V - U) (show 0 < V - U by omega) h5
    rw [nearD_mul (by omega)] at h; omega
  have HN := Lib.hid (fun W => (hD ▸ l02Near_c ((B - A) * (t - U)) (V - U) W (by omega) (by omega) (by omega) (by omega) : Calls Try.prog 63 #[.int .i64 ((B - A) * (t - U)), .int .i64 (V - U)] W fun e w' => e = .returned (.int .i64 D) ∧ W = w'))
  rw [← hD]
  clear hD
  go_enter Try.func51, Try.ntmps51
  go_wp2_with fail
  go_loop [5] (fun i => ∃ k : Nat, 1 ≤ k ∧ k ≤ K ∧ i = .int .i64 k) (fun i => K - (intOf i).toNat)
  case atStart => exact ⟨1, by omega, by omega, rfl⟩
  case round =>
    obtain ⟨k, hk1, hk2, rfl⟩ := hrel
    have x0 : (0 : Int) ≤ (k : Int) := by omega
    have x1 : (k : Int) < (n : Int) := by omega
    by_cases hlt : k < K
    · have hwk := hst.out k hk1 hlt
      have qk := HW.out k (by omega)
      go_wp2_with fail
      exact ⟨⟨k + 1, by omega, by omega, by go_num⟩, by simp [intOf]; omega⟩
    · obtain rfl : k = K := by omega
      have y1 : b1 < w.heap.size + 1 := by omega
      have y2 : b1 < w.heap.size + 1 + 1 := by omega
      have y3 : b1 < w.heap.size + 1 + 1 + 1 := by omega
      have y4 : ¬ b1 = w.heap.size := by omega
      have y5 : ¬ b1 = w.heap.size + 1 := by omega
      have y6 : ¬ b1 = w.heap.size + 1 + 1 := by omega
      have x3 : (0 : Int) ≤ (m : Int) := by omega
      go_wp2_with fail
      refine wp_region_past (by kernel_rfl) (by kernel_rfl) ?_
      repeat (go_big_quiet_step ((go_at_call 63; exact Calls.past_same (HN.out _))))
      refine wpQuiet_nil ?_
      rintro _ ⟨wx, rfl⟩
      go_wp2_with fail
      go_ret
      exact ⟨rfl, (by repeat (first | with_reducible exact Ext.refl _ | with_reducible assumption | with_reducible refine Ext.alloc ?_ _ | with_reducible refine Ext.drew ?_ | (with_reducible refine Ext.setAt ?_ _ _ _ ?_; rotate_left; omega) | with_reducible refine Ext.trans ?_ (by assumption) | with_reducible exact Past.bel _ | with_reducible refine Ext.trans ?_ (Past.bel _)))⟩
end
end Go.Proofs.Ytglcjnplmhelhaa

namespace Go.Proofs.Ytglcjnplmhelhaa
open Go.RowKit
set_option linter.unusedVariables false
set_option linter.unusedSimpArgs false

theorem spV_ff {wd pl : Nat → Int} {n k : Nat} (hk : k < n) (h : bdA wd pl k = false) : false = spV n wd pl := by rw [spV, bdTo_ff hk h]; rfl
theorem spV_n {wd pl : Nat → Int} {n : Nat} (h : ¬ (2 ≤ n ∧ n ≤ 20)) : false = spV n wd pl := by
  have e : (decide (2 ≤ n) && decide (n ≤ 20)) = false := by
    cases e : (decide (2 ≤ n) && decide (n ≤ 20))
    · rfl
    · rw [Bool.and_eq_true, decide_eq_true_eq, decide_eq_true_eq] at e; exact absurd e h
  rw [spV, e, Bool.and_false]
section
variable {a : Option Addr} {n c : Nat} {wd pl : Nat → Int} {w : World}
set_option maxHeartbeats 4000000 in
theorem validSpring_c (hn : n ≤ 1048576) (hs : S2 w a n wd pl) :
    Calls Try.prog 13 #[.agg #[.slice a n c]] w fun e w' => e = .returned (.bool (spV n wd pl)) ∧ Ext w w' := by
  have HS := Lib.hid hs
  clear hs
  go_enter Try.func13, Try.ntmps13
  go_wp2_with fail
  go_loopw [8] (fun i wr => ∃ j : Nat, j ≤ n ∧ i = .int .i64 j ∧ Ext (w.alloc (.cells #[.slice a n c] 26)) wr ∧ bdTo wd pl j = true) (fun i _ => n - (intOf i).toNat)
  case atStart => exact ⟨0, by omega, rfl, (by repeat (first | with_reducible exact Ext.refl _ | with_reducible assumption | with_reducible refine Ext.alloc ?_ _ | with_reducible refine Ext.drew ?_ | (with_reducible refine Ext.setAt ?_ _ _ _ ?_; rotate_left; omega) | with_reducible refine Ext.trans ?_ (by assumption) | with_reducible exact Past.bel _ | with_reducible refine Ext.trans ?_ (Past.bel _))), rfl⟩
  case round =>
    obtain ⟨j, hj, rfl, hbl, htr⟩ := hrel
    have HT := Lib.hid htr
    have hz := hbl.size
    simp only [World.size_alloc] at hz
    have hg : w.heap.size < wr.heap.size := by omega
    have p0 : wr.cell? ⟨w.heap.size, 0, none⟩ = some (.slice a n c) := by rw [hbl.cell (by simp)]; simp [go_sem]
    have hxw : Ext w wr := Ext.trans (by repeat (first | with_reducible exact Ext.refl _ | with_reducible assumption | with_reducible refine Ext.alloc ?_ _ | with_reducible refine Ext.drew ?_ | (with_reducible refine Ext.setAt ?_ _ _ _ ?_; rotate_left; omega) | with_reducible refine Ext.trans ?_ (by assumption) | with_reducible exact Past.bel _ | with_reducible refine Ext.trans ?_ (Past.bel _))) hbl
    clear htr
    by_cases hlt : j < n
    · obtain ⟨b1, o1, rfl, hb1', q1, q2⟩ := (HS.out.ext hxw).at hlt
      have x0 : (0 : Int) ≤ (j : Int) := by omega
      have x1 : (j : Int) < (n : Int) := by omega
      have hA : bdA wd pl j = (inB (wd j) 0 2000 && (inB (pl j) 0 1000000 && (j == 0 || (decide (wd (j - 1) < wd j) && decide (pl (j - 1) ≤ pl j))))) := rfl
      have HA := Lib.hid hA
      clear hA
      cases h1 : inB (wd j) 0 2000
      · have HF := Lib.hid (show false = spV n wd pl from spV_ff hlt (by rw [HA.out, h1]; rfl))
        go_wp2_with (first | (go_at_call 52; ((with_reducible refine (within_c _ _ _ _).mono ?_); rintro e w' ⟨rfl, rfl⟩)) | (go_at_call 53; ((with_reducible refine (isPull_c _ _).mono ?_); rintro e w' ⟨rfl, rfl⟩)) | (go_at_call 57; ((with_reducible refine (l00In_c _ _ _ _).mono ?_); rintro e w' ⟨rfl, rfl⟩)))
        go_ret
        exact ⟨ret_bool HF.out, (by repeat (first | with_reducible exact Ext.refl _ | with_reducible assumption | with_reducible refine Ext.alloc ?_ _ | with_reducible refine Ext.drew ?_ | (with_reducible refine Ext.setAt ?_ _ _ _ ?_; rotate_left; omega) | with_reducible refine Ext.trans ?_ (by assumption) | with_reducible exact Past.bel _ | with_reducible refine Ext.trans ?_ (Past.bel _)))⟩
      · cases h2 : inB (pl j) 0 1000000
        · have HF := Lib.hid (show false = spV n wd pl from spV_ff hlt (by rw [HA.out, h1, h2]; rfl))
          go_wp2_with (first | (go_at_call 52; ((with_reducible refine (within_c _ _ _ _).mono ?_); rintro e w' ⟨rfl, rfl⟩)) | (go_at_call 53; ((with_reducible refine (isPull_c _ _).mono ?_); rintro e w' ⟨rfl, rfl⟩)) | (go_at_call 57; ((with_reducible refine (l00In_c _ _ _ _).mono ?_); rintro e w' ⟨rfl, rfl⟩)))
          go_ret
          exact ⟨ret_bool HF.out, (by repeat (first | with_reducible exact Ext.refl _ | with_reducible assumption | with_reducible refine Ext.alloc ?_ _ | with_reducible refine Ext.drew ?_ | (with_reducible refine Ext.setAt ?_ _ _ _ ?_; rotate_left; omega) | with_reducible refine Ext.trans ?_ (by assumption) | with_reducible exact Past.bel _ | with_reducible refine Ext.trans ?_ (Past.bel _)))⟩
        · by_cases h0 : j = 0
          · subst h0
            simp only [Nat.zero_mul, Nat.add_zero] at q1 q2
            go_wp2_with (first | (go_at_call 52; ((with_reducible refine (within_c _ _ _ _).mono ?_); rintro e w' ⟨rfl, rfl⟩)) | (go_at_call 53; ((with_reducible refine (isPull_c _ _).mono ?_); rintro e w' ⟨rfl, rfl⟩)) | (go_at_call 57; ((with_reducible refine (l00In_c _ _ _ _).mono ?_); rintro e w' ⟨rfl, rfl⟩)))
            refine wp_region_past (by kernel_rfl) (by kernel_rfl) ?_
            repeat (go_big_quiet_step (fail))
            refine wpQuiet_nil ?_
            rintro _ ⟨wx, rfl⟩
            go_wp2_with fail
            exact ⟨⟨1, by omega, by go_num, (by repeat (first | with_reducible exact Ext.refl _ | with_reducible assumption | with_reducible refine Ext.alloc ?_ _ | with_reducible refine Ext.drew ?_ | (with_reducible refine Ext.setAt ?_ _ _ _ ?_; rotate_left; omega) | with_reducible refine Ext.trans ?_ (by assumption) | with_reducible exact Past.bel _ | with_reducible refine Ext.trans ?_ (Past.bel _))), by rw [bdTo, HT.out, HA.out, h1, h2]; rfl⟩, by simp [intOf]; omega⟩
          · obtain ⟨m, hm⟩ : ∃ m, m = j - 1 := ⟨_, rfl⟩
            have y0 : (j : Int) - 1 = (m : Int) := by omega
            have y1 : (m : Int) < (n : Int) := by omega
            have y2 : (0 : Int) < (j : Int) := by omega
            have y3 : (0 : Int) ≤ (m : Int) := by omega
            have y5 : decide (0 < j) = true := decide_eq_true (by omega)
            obtain ⟨b2, o2, e2, -, q3, q4⟩ := (HS.out.ext hxw).at (show m < n by omega)
            obtain ⟨rfl, rfl⟩ : b1 = b2 ∧ o1 = o2 := by simpa using e2
            rw [← hm] at HA
            have H0 := Lib.hid (show (j == 0) = false by simpa using h0)
            clear e2 hm h0
            by_cases c1 : wd j ≤ wd m
            · have HF := Lib.hid (show false = spV n wd pl from spV_ff hlt (by rw [HA.out, h1, h2, H0.out, decide_eq_false (show ¬ wd m < wd j by omega)]; rfl))
              go_wp2_with (first | (go_at_call 52; ((with_reducible refine (within_c _ _ _ _).mono ?_); rintro e w' ⟨rfl, rfl⟩)) | (go_at_call 53; ((with_reducible refine (isPull_c _ _).mono ?_); rintro e w' ⟨rfl, rfl⟩)) | (go_at_call 57; ((with_reducible refine (l00In_c _ _ _ _).mono ?_); rintro e w' ⟨rfl, rfl⟩)))
              refine wp_region_past (by kernel_rfl) (by kernel_rfl) ?_
              repeat (go_big_quiet_step (fail))
              refine wpQuiet_nil ?_
              rintro _ ⟨wx, rfl⟩
              go_wp2_with fail
              go_ret
              exact ⟨ret_bool HF.out, (by repeat (first | with_reducible exact Ext.refl _ | with_reducible assumption | with_reducible refine Ext.alloc ?_ _ | with_reducible refine Ext.drew ?_ | (with_reducible refine Ext.setAt ?_ _ _ _ ?_; rotate_left; omega) | with_reducible refine Ext.trans ?_ (by assumption) | with_reducible exact Past.bel _ | with_reducible refine Ext.trans ?_ (Past.bel _)))⟩
            · have y6 : decide (wd j ≤ wd m) = false := decide_eq_false c1
              by_cases c2 : pl j < pl m
              · have HF := Lib.hid (show false = spV n wd pl from spV_ff hlt (by rw [HA.out, h1, h2, H0.out, decide_eq_false (show ¬ pl m ≤ pl j by omega), Bool.and_false]; rfl))
                go_wp2_with (first | (go_at_call 52; ((with_reducible refine (within_c _ _ _ _).mono ?_); rintro e w' ⟨rfl, rfl⟩)) | (go_at_call 53; ((with_reducible refine (isPull_c _ _).mono ?_); rintro e w' ⟨rfl, rfl⟩)) | (go_at_call 57; ((with_reducible refine (l00In_c _ _ _ _).mono ?_); rintro e w' ⟨rfl, rfl⟩)))
                refine wp_region_past (by kernel_rfl) (by kernel_rfl) ?_
                repeat (go_big_quiet_step (fail))
                refine wpQuiet_nil ?_
                rintro _ ⟨wx, rfl⟩
                go_wp2_with fail
                go_ret
                exact ⟨ret_bool HF.out, (by repeat (first | with_reducible exact Ext.refl _ | with_reducible assumption | with_reducible refine Ext.alloc ?_ _ | with_reducible refine Ext.drew ?_ | (with_reducible refine Ext.setAt ?_ _ _ _ ?_; rotate_left; omega) | with_reducible refine Ext.trans ?_ (by assumption) | with_reducible exact Past.bel _ | with_reducible refine Ext.trans ?_ (Past.bel _)))⟩
              · have c1' : wd m < wd j := by omega
                have c2' : pl m ≤ pl j := by omega
                have HF := Lib.hid (show bdTo wd pl (j + 1) = true by rw [bdTo, HT.out, HA.out, h1, h2, H0.out, decide_eq_true c1', decide_eq_true c2']; rfl)
                go_wp2_with (first | (go_at_call 52; ((with_reducible refine (within_c _ _ _ _).mono ?_); rintro e w' ⟨rfl, rfl⟩)) | (go_at_call 53; ((with_reducible refine (isPull_c _ _).mono ?_); rintro e w' ⟨rfl, rfl⟩)) | (go_at_call 57; ((with_reducible refine (l00In_c _ _ _ _).mono ?_); rintro e w' ⟨rfl, rfl⟩)))
                refine wp_region_past (by kernel_rfl) (by kernel_rfl) ?_
                repeat (go_big_quiet_step (fail))
                refine wpQuiet_nil ?_
                rintro _ ⟨wx, rfl⟩
                go_wp2_with fail
                exact ⟨⟨j + 1, by omega, by go_num, (by repeat (first | with_reducible exact Ext.refl _ | with_reducible assumption | with_reducible refine Ext.alloc ?_ _ | with_reducible refine Ext.drew ?_ | (with_reducible refine Ext.setAt ?_ _ _ _ ?_; rotate_left; omega) | with_reducible refine Ext.trans ?_ (by assumption) | with_reducible exact Past.bel _ | with_reducible refine Ext.trans ?_ (Past.bel _))), HF.out⟩, by simp [intOf]; omega⟩
    · obtain rfl : j = n := by omega
      by_cases hb : 2 ≤ j ∧ j ≤ 20
      · obtain ⟨hb1, hb2⟩ := hb
        have hi1 : (2 : Int) ≤ (j : Int) := by omega
        have hi2 : (j : Int) ≤ 20 := by omega
        have HF := Lib.hid (show true = spV j wd pl by rw [spV, HT.out, decide_eq_true hb1, decide_eq_true hb2]; rfl)
        go_wp2_with fail
        go_ret
        exact ⟨ret_bool HF.out, (by repeat (first | with_reducible exact Ext.refl _ | with_reducible assumption | with_reducible refine Ext.alloc ?_ _ | with_reducible refine Ext.drew ?_ | (with_reducible refine Ext.setAt ?_ _ _ _ ?_; rotate_left; omega) | with_reducible refine Ext.trans ?_ (by assumption) | with_reducible exact Past.bel _ | with_reducible refine Ext.trans ?_ (Past.bel _)))⟩
      · have HF := Lib.hid (spV_n (wd := wd) (pl := pl) hb)
        by_cases hlo : j < 2
        · have x5 : (j : Int) < 2 := by omega
          have x6 : ¬ (2 : Int) ≤ (j : Int) := by omega
          clear hb
          go_wp2_with fail
          go_ret
          exact ⟨ret_bool HF.out, (by repeat (first | with_reducible exact Ext.refl _ | with_reducible assumption | with_reducible refine Ext.alloc ?_ _ | with_reducible refine Ext.drew ?_ | (with_reducible refine Ext.setAt ?_ _ _ _ ?_; rotate_left; omega) | with_reducible refine Ext.trans ?_ (by assumption) | with_reducible exact Past.bel _ | with_reducible refine Ext.trans ?_ (Past.bel _)))⟩
        · have x5 : (20 : Int) < (j : Int) := by omega
          have x6 : (2 : Int) ≤ (j : Int) := by omega
          clear hb
          go_wp2_with fail
          go_ret
          exact ⟨ret_bool ((decide_eq_false (show ¬ (j : Int) ≤ 20 by omega)).trans HF.out), (by repeat (first | with_reducible exact Ext.refl _ | with_reducible assumption | with_reducible refine Ext.alloc ?_ _ | with_reducible refine Ext.drew ?_ | (with_reducible refine Ext.setAt ?_ _ _ _ ?_; rotate_left; omega) | with_reducible refine Ext.trans ?_ (by assumption) | with_reducible exact Past.bel _ | with_reducible refine Ext.trans ?_ (Past.bel _)))⟩
set_option maxHeartbeats 4000000 in
theorem l13Ok_c (hn : n ≤ 1048576) (hs : S2 w a n wd pl) :
    Calls Try.prog 49 #[.agg #[.slice a n c]] w fun e w' => e = .returned (.bool (spV n wd pl)) ∧ Ext w w' := by
  have HS := Lib.hid hs
  clear hs
  by_cases hb : 2 ≤ n ∧ n ≤ 20
  · obtain ⟨hb1, hb2⟩ := hb
    have hi1 : (2 : Int) ≤ (n : Int) := by omega
    have hi2 : (n : Int) ≤ 20 := by omega
    go_enter Try.func49, Try.ntmps49
    go_wp2_with fail
    go_loopw [3] (fun i wr => ∃ j : Nat, j ≤ n ∧ i = .int .i64 j ∧ Ext (w.alloc (.cells #[.slice a n c] 26)) wr ∧ bdTo wd pl j = true) (fun i _ => n - (intOf i).toNat)
    case atStart => exact ⟨0, by omega, rfl, (by repeat (first | with_reducible exact Ext.refl _ | with_reducible assumption | with_reducible refine Ext.alloc ?_ _ | with_reducible refine Ext.drew ?_ | (with_reducible refine Ext.setAt ?_ _ _ _ ?_; rotate_left; omega) | with_reducible refine Ext.trans ?_ (by assumption) | with_reducible exact Past.bel _ | with_reducible refine Ext.trans ?_ (Past.bel _))), rfl⟩
    case round =>
      obtain ⟨j, hj, rfl, hbl, htr⟩ := hrel
      have HT := Lib.hid htr
      have hz := hbl.size
      simp only [World.size_alloc] at hz
      have hg : w.heap.size < wr.heap.size := by omega
      have p0 : wr.cell? ⟨w.heap.size, 0, none⟩ = some (.slice a n c) := by rw [hbl.cell (by simp)]; simp [go_sem]
      have hxw : Ext w wr := Ext.trans (by repeat (first | with_reducible exact Ext.refl _ | with_reducible assumption | with_reducible refine Ext.alloc ?_ _ | with_reducible refine Ext.drew ?_ | (with_reducible refine Ext.setAt ?_ _ _ _ ?_; rotate_left; omega) | with_reducible refine Ext.trans ?_ (by assumption) | with_reducible exact Past.bel _ | with_reducible refine Ext.trans ?_ (Past.bel _))) hbl
      clear htr
      by_cases hlt : j < n
      · obtain ⟨b1, o1, rfl, hb1', q1, q2⟩ := (HS.out.ext hxw).at hlt
        have x0 : (0 : Int) ≤ (j : Int) := by omega
        have x1 : (j : Int) < (n : Int) := by omega
        have hA : bdA wd pl j = (inB (wd j) 0 2000 && (inB (pl j) 0 1000000 && (j == 0 || (decide (wd (j - 1) < wd j) && decide (pl (j - 1) ≤ pl j))))) := rfl
        have HA := Lib.hid hA
        clear hA
        cases h1 : inB (wd j) 0 2000
        · have HF := Lib.hid (show false = spV n wd pl from spV_ff hlt (by rw [HA.out, h1]; rfl))
          go_wp2_with (first | (go_at_call 52; ((with_reducible refine (within_c _ _ _ _).mono ?_); rintro e w' ⟨rfl, rfl⟩)) | (go_at_call 53; ((with_reducible refine (isPull_c _ _).mono ?_); rintro e w' ⟨rfl, rfl⟩)) | (go_at_call 57; ((with_reducible refine (l00In_c _ _ _ _).mono ?_); rintro e w' ⟨rfl, rfl⟩)))
          go_ret
          exact ⟨ret_bool HF.out, (by repeat (first | with_reducible exact Ext.refl _ | with_reducible assumption | with_reducible refine Ext.alloc ?_ _ | with_reducible refine Ext.drew ?_ | (with_reducible refine Ext.setAt ?_ _ _ _ ?_; rotate_left; omega) | with_reducible refine Ext.trans ?_ (by assumption) | with_reducible exact Past.bel _ | with_reducible refine Ext.trans ?_ (Past.bel _)))⟩
        · cases h2 : inB (pl j) 0 1000000
          · have HF := Lib.hid (show false = spV n wd pl from spV_ff hlt (by rw [HA.out, h1, h2]; rfl))
            go_wp2_with (first | (go_at_call 52; ((with_reducible refine (within_c _ _ _ _).mono ?_); rintro e w' ⟨rfl, rfl⟩)) | (go_at_call 53; ((with_reducible refine (isPull_c _ _).mono ?_); rintro e w' ⟨rfl, rfl⟩)) | (go_at_call 57; ((with_reducible refine (l00In_c _ _ _ _).mono ?_); rintro e w' ⟨rfl, rfl⟩)))
            go_ret
            exact ⟨ret_bool HF.out, (by repeat (first | with_reducible exact Ext.refl _ | with_reducible assumption | with_reducible refine Ext.alloc ?_ _ | with_reducible refine Ext.drew ?_ | (with_reducible refine Ext.setAt ?_ _ _ _ ?_; rotate_left; omega) | with_reducible refine Ext.trans ?_ (by assumption) | with_reducible exact Past.bel _ | with_reducible refine Ext.trans ?_ (Past.bel _)))⟩
          · by_cases h0 : j = 0
            · subst h0
              simp only [Nat.zero_mul, Nat.add_zero] at q1 q2
              go_wp2_with (first | (go_at_call 52; ((with_reducible refine (within_c _ _ _ _).mono ?_); rintro e w' ⟨rfl, rfl⟩)) | (go_at_call 53; ((with_reducible refine (isPull_c _ _).mono ?_); rintro e w' ⟨rfl, rfl⟩)) | (go_at_call 57; ((with_reducible refine (l00In_c _ _ _ _).mono ?_); rintro e w' ⟨rfl, rfl⟩)))
              refine wp_region_past (by kernel_rfl) (by kernel_rfl) ?_
              repeat (go_big_quiet_step (fail))
              refine wpQuiet_nil ?_
              rintro _ ⟨wx, rfl⟩
              go_wp2_with fail
              exact ⟨⟨1, by omega, by go_num, (by repeat (first | with_reducible exact Ext.refl _ | with_reducible assumption | with_reducible refine Ext.alloc ?_ _ | with_reducible refine Ext.drew ?_ | (with_reducible refine Ext.setAt ?_ _ _ _ ?_; rotate_left; omega) | with_reducible refine Ext.trans ?_ (by assumption) | with_reducible exact Past.bel _ | with_reducible refine Ext.trans ?_ (Past.bel _))), by rw [bdTo, HT.out, HA.out, h1, h2]; rfl⟩, by simp [intOf]; omega⟩
            · obtain ⟨m, hm⟩ : ∃ m, m = j - 1 := ⟨_, rfl⟩
              have y0 : (j : Int) - 1 = (m : Int) := by omega
              have y1 : (m : Int) < (n : Int) := by omega
              have y2 : (0 : Int) < (j : Int) := by omega
              have y3 : (0 : Int) ≤ (m : Int) := by omega
              have y5 : decide (0 < j) = true := decide_eq_true (by omega)
              obtain ⟨b2, o2, e2, -, q3, q4⟩ := (HS.out.ext hxw).at (show m < n by omega)
              obtain ⟨rfl, rfl⟩ : b1 = b2 ∧ o1 = o2 := by simpa using e2
              rw [← hm] at HA
              have H0 := Lib.hid (show (j == 0) = false by simpa using h0)
              clear e2 hm h0
              by_cases c1 : wd j ≤ wd m
              · have HF := Lib.hid (show false = spV n wd pl from spV_ff hlt (by rw [HA.out, h1, h2, H0.out, decide_eq_false (show ¬ wd m < wd j by omega)]; rfl))
                go_wp2_with (first | (go_at_call 52; ((with_reducible refine (within_c _ _ _ _).mono ?_); rintro e w' ⟨rfl, rfl⟩)) | (go_at_call 53; ((with_reducible refine (isPull_c _ _).mono ?_); rintro e w' ⟨rfl, rfl⟩)) | (go_at_call 57; ((with_reducible refine (l00In_c _ _ _ _).mono ?_); rintro e w' ⟨rfl, rfl⟩)))
                refine wp_region_past (by kernel_rfl) (by kernel_rfl) ?_
                repeat (go_big_quiet_step (fail))
                refine wpQuiet_nil ?_
                rintro _ ⟨wx, rfl⟩
                go_wp2_with fail
                go_ret
                exact ⟨ret_bool HF.out, (by repeat (first | with_reducible exact Ext.refl _ | with_reducible assumption | with_reducible refine Ext.alloc ?_ _ | with_reducible refine Ext.drew ?_ | (with_reducible refine Ext.setAt ?_ _ _ _ ?_; rotate_left; omega) | with_reducible refine Ext.trans ?_ (by assumption) | with_reducible exact Past.bel _ | with_reducible refine Ext.trans ?_ (Past.bel _)))⟩
              · have y6 : decide (wd j ≤ wd m) = false := decide_eq_false c1
                by_cases c2 : pl j < pl m
                · have HF := Lib.hid (show false = spV n wd pl from spV_ff hlt (by rw [HA.out, h1, h2, H0.out, decide_eq_false (show ¬ pl m ≤ pl j by omega), Bool.and_false]; rfl))
                  go_wp2_with (first | (go_at_call 52; ((with_reducible refine (within_c _ _ _ _).mono ?_); rintro e w' ⟨rfl, rfl⟩)) | (go_at_call 53; ((with_reducible refine (isPull_c _ _).mono ?_); rintro e w' ⟨rfl, rfl⟩)) | (go_at_call 57; ((with_reducible refine (l00In_c _ _ _ _).mono ?_); rintro e w' ⟨rfl, rfl⟩)))
                  refine wp_region_past (by kernel_rfl) (by kernel_rfl) ?_
                  repeat (go_big_quiet_step (fail))
                  refine wpQuiet_nil ?_
                  rintro _ ⟨wx, rfl⟩
                  go_wp2_with fail
                  go_ret
                  exact ⟨ret_bool HF.out, (by repeat (first | with_reducible exact Ext.refl _ | with_reducible assumption | with_reducible refine Ext.alloc ?_ _ | with_reducible refine Ext.drew ?_ | (with_reducible refine Ext.setAt ?_ _ _ _ ?_; rotate_left; omega) | with_reducible refine Ext.trans ?_ (by assumption) | with_reducible exact Past.bel _ | with_reducible refine Ext.trans ?_ (Past.bel _)))⟩
                · have c1' : wd m < wd j := by omega
                  have c2' : pl m ≤ pl j := by omega
                  have HF := Lib.hid (show bdTo wd pl (j + 1) = true by rw [bdTo, HT.out, HA.out, h1, h2, H0.out, decide_eq_true c1', decide_eq_true c2']; rfl)
                  go_wp2_with (first | (go_at_call 52; ((with_reducible refine (within_c _ _ _ _).mono ?_); rintro e w' ⟨rfl, rfl⟩)) | (go_at_call 53; ((with_reducible refine (isPull_c _ _).mono ?_); rintro e w' ⟨rfl, rfl⟩)) | (go_at_call 57; ((with_reducible refine (l00In_c _ _ _ _).mono ?_); rintro e w' ⟨rfl, rfl⟩)))
                  refine wp_region_past (by kernel_rfl) (by kernel_rfl) ?_
                  repeat (go_big_quiet_step (fail))
                  refine wpQuiet_nil ?_
                  rintro _ ⟨wx, rfl⟩
                  go_wp2_with fail
                  exact ⟨⟨j + 1, by omega, by go_num, (by repeat (first | with_reducible exact Ext.refl _ | with_reducible assumption | with_reducible refine Ext.alloc ?_ _ | with_reducible refine Ext.drew ?_ | (with_reducible refine Ext.setAt ?_ _ _ _ ?_; rotate_left; omega) | with_reducible refine Ext.trans ?_ (by assumption) | with_reducible exact Past.bel _ | with_reducible refine Ext.trans ?_ (Past.bel _))), HF.out⟩, by simp [intOf]; omega⟩
      · obtain rfl : j = n := by omega
        have HF := Lib.hid (show true = spV j wd pl by rw [spV, HT.out, decide_eq_true hb1, decide_eq_true hb2]; rfl)
        go_wp2_with fail
        go_ret
        exact ⟨ret_bool HF.out, (by repeat (first | with_reducible exact Ext.refl _ | with_reducible assumption | with_reducible refine Ext.alloc ?_ _ | with_reducible refine Ext.drew ?_ | (with_reducible refine Ext.setAt ?_ _ _ _ ?_; rotate_left; omega) | with_reducible refine Ext.trans ?_ (by assumption) | with_reducible exact Past.bel _ | with_reducible refine Ext.trans ?_ (Past.bel _)))⟩
  · have hF := spV_n (wd := wd) (pl := pl) hb
    have HF := Lib.hid hF
    clear hF
    by_cases hlo : n < 2
    · have x5 : (n : Int) < 2 := by omega
      have x6 : ¬ (2 : Int) ≤ (n : Int) := by omega
      have x7 : decide ((2 : Int) ≤ (n : Int)) = false := decide_eq_false x6
      (go_enter Try.func49, Try.ntmps49; go_wp2_with fail; go_ret; exact ⟨ret_bool HF.out, (by repeat (first | with_reducible exact Ext.refl _ | with_reducible assumption | with_reducible refine Ext.alloc ?_ _ | with_reducible refine Ext.drew ?_ | (with_reducible refine Ext.setAt ?_ _ _ _ ?_; rotate_left; omega) | with_reducible refine Ext.trans ?_ (by assumption) | with_reducible exact Past.bel _ | with_reducible refine Ext.trans ?_ (Past.bel _)))⟩)
    · have x5 : (20 : Int) < (n : Int) := by omega
      have x6 : (2 : Int) ≤ (n : Int) := by omega
      have x8 : ¬ (n : Int) < 2 := by omega
      (go_enter Try.func49, Try.ntmps49; go_wp2_with fail; go_ret; exact ⟨ret_bool HF.out, (by repeat (first | with_reducible exact Ext.refl _ | with_reducible assumption | with_reducible refine Ext.alloc ?_ _ | with_reducible refine Ext.drew ?_ | (with_reducible refine Ext.setAt ?_ _ _ _ ?_; rotate_left; omega) | with_reducible refine Ext.trans ?_ (by assumption) | with_reducible exact Past.bel _ | with_reducible refine Ext.trans ?_ (Past.bel _)))⟩)
end
end Go.Proofs.Ytglcjnplmhelhaa

namespace Go.Proofs.Ytglcjnplmhelhaa
open Go.RowKit
set_option linter.unusedVariables false
set_option linter.unusedSimpArgs false

/-- what PullAt returns -/
def paV (n : Nat) (wd pl : Nat → Int) (t : Int) : Int := if spV n wd pl && inS n wd t then pullF wd pl t else 0
def paC (n : Nat) (wd pl : Nat → Int) (t : Int) : Int := if spV n wd pl then (if inS n wd t then 0 else 2) else 1
section
variable {a : Option Addr} {n c : Nat} {wd pl : Nat → Int} {w : World}
set_option maxHeartbeats 1000000 in
theorem implPullAt_c (hn : n ≤ 1048576) (hs : S2 w a n wd pl) (t : Int) :
    Calls Try.prog 11 #[.agg #[.slice a n c], .int .i64 t] w fun e w' => e = .returned (.tuple #[.int .i64 (paV n wd pl t), .int .i64 (paC n wd pl t)]) ∧ Ext w w' := by
  have HS := Lib.hid hs
  clear hs
  cases h1 : spV n wd pl
  · go_enter Try.func11, Try.ntmps11
    go_wp2_with (go_at_call 13; ((with_reducible refine (validSpring_c hn (HS.out.ext (by repeat (first | with_reducible exact Ext.refl _ | with_reducible assumption | with_reducible refine Ext.alloc ?_ _ | with_reducible refine Ext.drew ?_ | (with_reducible refine Ext.setAt ?_ _ _ _ ?_; rotate_left; omega) | with_reducible refine Ext.trans ?_ (by assumption) | with_reducible exact Past.bel _ | with_reducible refine Ext.trans ?_ (Past.bel _))))).mono ?_); rintro e w' ⟨rfl, hx⟩; (first | (obtain ⟨wx, rfl⟩ := Past.again hx) | (obtain ⟨wx, rfl⟩ := Past.ofd hx) | (obtain ⟨wx, rfl⟩ := Past.of hx))))
    go_ret2
    exact ⟨by simp [paV, paC, h1], (by repeat (first | with_reducible exact Ext.refl _ | with_reducible assumption | with_reducible refine Ext.alloc ?_ _ | with_reducible refine Ext.drew ?_ | (with_reducible refine Ext.setAt ?_ _ _ _ ?_; rotate_left; omega) | with_reducible refine Ext.trans ?_ (by assumption) | with_reducible exact Past.bel _ | with_reducible refine Ext.trans ?_ (Past.bel _)))⟩
  · have B := Lib.hid (spV_b h1)
    have hn1 : 1 ≤ n := by have := B.out.n2; omega
    cases h2 : inS n wd t
    · go_enter Try.func11, Try.ntmps11
      go_wp2_with (first | (go_at_call 13; ((with_reducible refine (validSpring_c hn (HS.out.ext (by repeat (first | with_reducible exact Ext.refl _ | with_reducible assumption | with_reducible refine Ext.alloc ?_ _ | with_reducible refine Ext.drew ?_ | (with_reducible refine Ext.setAt ?_ _ _ _ ?_; rotate_left; omega) | with_reducible refine Ext.trans ?_ (by assumption) | with_reducible exact Past.bel _ | with_reducible refine Ext.trans ?_ (Past.bel _))))).mono ?_); rintro e w' ⟨rfl, hx⟩; (first | (obtain ⟨wx, rfl⟩ := Past.again hx) | (obtain ⟨wx, rfl⟩ := Past.ofd hx) | (obtain ⟨wx, rfl⟩ := Past.of hx)))) | (go_at_call 47; ((with_reducible refine (isPosition_c hn1 hn (HS.out.ext (by repeat (first | with_reducible exact Ext.refl _ | with_reducible assumption | with_reducible refine Ext.alloc ?_ _ | with_reducible refine Ext.drew ?_ | (with_reducible refine Ext.setAt ?_ _ _ _ ?_; rotate_left; omega) | with_reducible refine Ext.trans ?_ (by assumption) | with_reducible exact Past.bel _ | with_reducible refine Ext.trans ?_ (Past.bel _)))) _).mono ?_); rintro e w' ⟨rfl, hx⟩; (first | (obtain ⟨wx, rfl⟩ := Past.again hx) | (obtain ⟨wx, rfl⟩ := Past.ofd hx) | (obtain ⟨wx, rfl⟩ := Past.of hx)))))
      go_ret2
      exact ⟨by simp [paV, paC, h1, h2], (by repeat (first | with_reducible exact Ext.refl _ | with_reducible assumption | with_reducible refine Ext.alloc ?_ _ | with_reducible refine Ext.drew ?_ | (with_reducible refine Ext.setAt ?_ _ _ _ ?_; rotate_left; omega) | with_reducible refine Ext.trans ?_ (by assumption) | with_reducible exact Past.bel _ | with_reducible refine Ext.trans ?_ (Past.bel _)))⟩
    · have H2 := Lib.hid h2
      go_enter Try.func11, Try.ntmps11
      go_wp2_with (first | (go_at_call 13; ((with_reducible refine (validSpring_c hn (HS.out.ext (by repeat (first | with_reducible exact Ext.refl _ | with_reducible assumption | with_reducible refine Ext.alloc ?_ _ | with_reducible refine Ext.drew ?_ | (with_reducible refine Ext.setAt ?_ _ _ _ ?_; rotate_left; omega) | with_reducible refine Ext.trans ?_ (by assumption) | with_reducible exact Past.bel _ | with_reducible refine Ext.trans ?_ (Past.bel _))))).mono ?_); rintro e w' ⟨rfl, hx⟩; (first | (obtain ⟨wx, rfl⟩ := Past.again hx) | (obtain ⟨wx, rfl⟩ := Past.ofd hx) | (obtain ⟨wx, rfl⟩ := Past.of hx)))) | (go_at_call 47; ((with_reducible refine (isPosition_c hn1 hn (HS.out.ext (by repeat (first | with_reducible exact Ext.refl _ | with_reducible assumption | with_reducible refine Ext.alloc ?_ _ | with_reducible refine Ext.drew ?_ | (with_reducible refine Ext.setAt ?_ _ _ _ ?_; rotate_left; omega) | with_reducible refine Ext.trans ?_ (by assumption) | with_reducible exact Past.bel _ | with_reducible refine Ext.trans ?_ (Past.bel _)))) _).mono ?_); rintro e w' ⟨rfl, hx⟩; (first | (obtain ⟨wx, rfl⟩ := Past.again hx) | (obtain ⟨wx, rfl⟩ := Past.ofd hx) | (obtain ⟨wx, rfl⟩ := Past.of hx)))) | (go_at_call 48; ((with_reducible refine (pullAt_c B.out (HS.out.ext (by repeat (first | with_reducible exact Ext.refl _ | with_reducible assumption | with_reducible refine Ext.alloc ?_ _ | with_reducible refine Ext.drew ?_ | (with_reducible refine Ext.setAt ?_ _ _ _ ?_; rotate_left; omega) | with_reducible refine Ext.trans ?_ (by assumption) | with_reducible exact Past.bel _ | with_reducible refine Ext.trans ?_ (Past.bel _)))) H2.out).mono ?_); rintro e w' ⟨rfl, hx⟩; (first | (obtain ⟨wx, rfl⟩ := Past.again hx) | (obtain ⟨wx, rfl⟩ := Past.ofd hx) | (obtain ⟨wx, rfl⟩ := Past.of hx)))))
      go_ret2
      exact ⟨by simp [paV, paC, h1, h2], (by repeat (first | with_reducible exact Ext.refl _ | with_reducible assumption | with_reducible refine Ext.alloc ?_ _ | with_reducible refine Ext.drew ?_ | (with_reducible refine Ext.setAt ?_ _ _ _ ?_; rotate_left; omega) | with_reducible refine Ext.trans ?_ (by assumption) | with_reducible exact Past.bel _ | with_reducible refine Ext.trans ?_ (Past.bel _)))⟩
set_option maxHeartbeats 1000000 in
theorem specPullAt_c (hn : n ≤ 1048576) (hs : S2 w a n wd pl) (t : Int) :
    Calls Try.prog 12 #[.agg #[.slice a n c], .int .i64 t] w fun e w' => e = .returned (.tuple #[.int .i64 (paV n wd pl t), .int .i64 (paC n wd pl t)]) ∧ Ext w w' := by
  have HS := Lib.hid hs
  clear hs
  cases h1 : spV n wd pl
  · go_enter Try.func12, Try.ntmps12
    go_wp2_with (go_at_call 49; ((with_reducible refine (l13Ok_c hn (HS.out.ext (by repeat (first | with_reducible exact Ext.refl _ | with_reducible assumption | with_reducible refine Ext.alloc ?_ _ | with_reducible refine Ext.drew ?_ | (with_reducible refine Ext.setAt ?_ _ _ _ ?_; rotate_left; omega) | with_reducible refine Ext.trans ?_ (by assumption) | with_reducible exact Past.bel _ | with_reducible refine Ext.trans ?_ (Past.bel _))))).mono ?_); rintro e w' ⟨rfl, hx⟩; (first | (obtain ⟨wx, rfl⟩ := Past.again hx) | (obtain ⟨wx, rfl⟩ := Past.ofd hx) | (obtain ⟨wx, rfl⟩ := Past.of hx))))
    go_ret2
    exact ⟨by simp [paV, paC, h1], (by repeat (first | with_reducible exact Ext.refl _ | with_reducible assumption | with_reducible refine Ext.alloc ?_ _ | with_reducible refine Ext.drew ?_ | (with_reducible refine Ext.setAt ?_ _ _ _ ?_; rotate_left; omega) | with_reducible refine Ext.trans ?_ (by assumption) | with_reducible exact Past.bel _ | with_reducible refine Ext.trans ?_ (Past.bel _)))⟩
  · have B := Lib.hid (spV_b h1)
    have hn1 : 1 ≤ n := by have := B.out.n2; omega
    cases h2 : inS n wd t
    · go_enter Try.func12, Try.ntmps12
      go_wp2_with (first | (go_at_call 49; ((with_reducible refine (l13Ok_c hn (HS.out.ext (by repeat (first | with_reducible exact Ext.refl _ | with_reducible assumption | with_reducible refine Ext.alloc ?_ _ | with_reducible refine Ext.drew ?_ | (with_reducible refine Ext.setAt ?_ _ _ _ ?_; rotate_left; omega) | with_reducible refine Ext.trans ?_ (by assumption) | with_reducible exact Past.bel _ | with_reducible refine Ext.trans ?_ (Past.bel _))))).mono ?_); rintro e w' ⟨rfl, hx⟩; (first | (obtain ⟨wx, rfl⟩ := Past.again hx) | (obtain ⟨wx, rfl⟩ := Past.ofd hx) | (obtain ⟨wx, rfl⟩ := Past.of hx)))) | (go_at_call 50; ((with_reducible refine (l13In_c hn1 hn (HS.out.ext (by repeat (first | with_reducible exact Ext.refl _ | with_reducible assumption | with_reducible refine Ext.alloc ?_ _ | with_reducible refine Ext.drew ?_ | (with_reducible refine Ext.setAt ?_ _ _ _ ?_; rotate_left; omega) | with_reducible refine Ext.trans ?_ (by assumption) | with_reducible exact Past.bel _ | with_reducible refine Ext.trans ?_ (Past.bel _)))) _).mono ?_); rintro e w' ⟨rfl, hx⟩; (first | (obtain ⟨wx, rfl⟩ := Past.again hx) | (obtain ⟨wx, rfl⟩ := Past.ofd hx) | (obtain ⟨wx, rfl⟩ := Past.of hx)))))
      go_ret2
      exact ⟨by simp [paV, paC, h1, h2], (by repeat (first | with_reducible exact Ext.refl _ | with_reducible assumption | with_reducible refine Ext.alloc ?_ _ | with_reducible refine Ext.drew ?_ | (with_reducible refine Ext.setAt ?_ _ _ _ ?_; rotate_left; omega) | with_reducible refine Ext.trans ?_ (by assumption) | with_reducible exact Past.bel _ | with_reducible refine Ext.trans ?_ (Past.bel _)))⟩
    · have H2 := Lib.hid h2
      go_enter Try.func12, Try.ntmps12
      go_wp2_with (first | (go_at_call 49; ((with_reducible refine (l13Ok_c hn (HS.out.ext (by repeat (first | with_reducible exact Ext.refl _ | with_reducible assumption | with_reducible refine Ext.alloc ?_ _ | with_reducible refine Ext.drew ?_ | (with_reducible refine Ext.setAt ?_ _ _ _ ?_; rotate_left; omega) | with_reducible refine Ext.trans ?_ (by assumption) | with_reducible exact Past.bel _ | with_reducible refine Ext.trans ?_ (Past.bel _))))).mono ?_); rintro e w' ⟨rfl, hx⟩; (first | (obtain ⟨wx, rfl⟩ := Past.again hx) | (obtain ⟨wx, rfl⟩ := Past.ofd hx) | (obtain ⟨wx, rfl⟩ := Past.of hx)))) | (go_at_call 50; ((with_reducible refine (l13In_c hn1 hn (HS.out.ext (by repeat (first | with_reducible exact Ext.refl _ | with_reducible assumption | with_reducible refine Ext.alloc ?_ _ | with_reducible refine Ext.drew ?_ | (with_reducible refine Ext.setAt ?_ _ _ _ ?_; rotate_left; omega) | with_reducible refine Ext.trans ?_ (by assumption) | with_reducible exact Past.bel _ | with_reducible refine Ext.trans ?_ (Past.bel _)))) _).mono ?_); rintro e w' ⟨rfl, hx⟩; (first | (obtain ⟨wx, rfl⟩ := Past.again hx) | (obtain ⟨wx, rfl⟩ := Past.ofd hx) | (obtain ⟨wx, rfl⟩ := Past.of hx)))) | (go_at_call 51; ((with_reducible refine (l13At_c B.out (HS.out.ext (by repeat (first | with_reducible exact Ext.refl _ | with_reducible assumption | with_reducible refine Ext.alloc ?_ _ | with_reducible refine Ext.drew ?_ | (with_reducible refine Ext.setAt ?_ _ _ _ ?_; rotate_left; omega) | with_reducible refine Ext.trans ?_ (by assumption) | with_reducible exact Past.bel _ | with_reducible refine Ext.trans ?_ (Past.bel _)))) H2.out).mono ?_); rintro e w' ⟨rfl, hx⟩; (first | (obtain ⟨wx, rfl⟩ := Past.again hx) | (obtain ⟨wx, rfl⟩ := Past.ofd hx) | (obtain ⟨wx, rfl⟩ := Past.of hx)))))
      go_ret2
      exact ⟨by simp [paV, paC, h1, h2], (by repeat (first | with_reducible exact Ext.refl _ | with_reducible assumption | with_reducible refine Ext.alloc ?_ _ | with_reducible refine Ext.drew ?_ | (with_reducible refine Ext.setAt ?_ _ _ _ ?_; rotate_left; omega) | with_reducible refine Ext.trans ?_ (by assumption) | with_reducible exact Past.bel _ | with_reducible refine Ext.trans ?_ (Past.bel _)))⟩
end
end Go.Proofs.Ytglcjnplmhelhaa
