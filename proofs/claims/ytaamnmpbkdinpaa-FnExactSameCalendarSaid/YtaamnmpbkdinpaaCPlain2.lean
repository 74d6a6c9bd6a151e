/- Calendars: days of years and months, numbers of days. No program in sight. -/
import Derived.Test.YtaamnmpbkdinpaaCPlain
namespace Go.Proofs.Ytaamnmpbkdinpaa
set_option linter.unusedVariables false

/-- a sum -/
def sm (f : Nat → Int) : Nat → Int
  | 0 => 0
  | k + 1 => sm f k + f k
theorem sm_bd {f : Nat → Int} {A B : Int} {k : Nat} (hf : ∀ j, j < k → A ≤ f j ∧ f j ≤ B) : A * k ≤ sm f k ∧ sm f k ≤ B * k := by
  induction k with
  | zero => simp [sm]
  | succ k ih =>
    have h1 := ih (fun j hj => hf j (by omega))
    have h2 := hf k (by omega)
    have h3 : A * ((k + 1 : Nat) : Int) = A * k + A := by rw [Int.natCast_add, Int.mul_add]; simp
    have h4 : B * ((k + 1 : Nat) : Int) = B * k + B := by rw [Int.natCast_add, Int.mul_add]; simp
    simp only [sm]
    omega
theorem sm_add (f : Nat → Int) (m k : Nat) : sm f (m + k) = sm f m + sm (fun i => f (m + i)) k := by
  induction k with
  | zero => simp [sm]
  | succ k ih =>
    rw [← Nat.add_assoc]
    simp only [sm, ih]; omega
theorem sm_congr {f g : Nat → Int} {k : Nat} (h : ∀ j, j < k → f j = g j) : sm f k = sm g k := by
  induction k with
  | zero => rfl
  | succ k ih => simp only [sm, ih fun j hj => h j (by omega), h k (by omega)]
theorem sm_mono {f : Nat → Int} {i k : Nat} (hk : i ≤ k) (hf : ∀ j, j < k → 0 ≤ f j) : sm f i ≤ sm f k := by
  induction k with
  | zero => have : i = 0 := by omega
            subst this; exact Int.le_refl _
  | succ k ih =>
    by_cases e : i = k + 1
    · subst e; exact Int.le_refl _
    · have := ih (by omega) fun j hj => hf j (by omega)
      have := hf k (by omega)
      simp only [sm]; omega
theorem sm_lt {f : Nat → Int} {i k : Nat} (hk : i < k) (hf : ∀ j, j < k → 1 ≤ f j) : sm f i < sm f k := by
  have h1 := sm_mono (f := f) (i := i + 1) (k := k) hk fun j hj => by have := hf j hj; omega
  have h2 := hf i hk
  simp only [sm] at h1; omega
/-- a place is told by its sum -/
theorem sm_place {f : Nat → Int} {i j n : Nat} {x : Int} (hf : ∀ k, k < n → 1 ≤ f k) (hi : i < n) (hj : j < n) (h1 : sm f i ≤ x) (h2 : x < sm f (i + 1)) (h3 : sm f j ≤ x) (h4 : x < sm f (j + 1)) : i = j := by
  rcases Nat.lt_trichotomy i j with h | h | h
  · have := sm_mono (f := f) (i := i + 1) (k := j) h fun k hk => by have := hf k (by omega); omega
    omega
  · exact h
  · have := sm_mono (f := f) (i := j + 1) (k := i) h fun k hk => by have := hf k (by omega); omega
    omega
/-- a calendar: rules and months, as numbers -/
structure CalN where
  nr : Nat
  ev : Nat → Int
  rs : Nat → Int
  lf : Nat → Bool
  n : Nat
  dy : Nat → Int
  lp : Nat → Int
/-- what a valid one bounds -/
structure CalB (c : CalN) : Prop where
  nr6 : c.nr ≤ 6
  n1 : 1 ≤ c.n
  n20 : c.n ≤ 20
  ev : ∀ j, j < c.nr → 1 ≤ c.ev j ∧ c.ev j ≤ 1000
  rs : ∀ j, j < c.nr → 0 ≤ c.rs j ∧ c.rs j ≤ c.ev j - 1
  dy : ∀ j, j < c.n → 1 ≤ c.dy j ∧ c.dy j ≤ 60
  lp : ∀ j, j < c.n → 1 ≤ c.lp j ∧ c.lp j ≤ 60
  cy : cyY c.ev c.nr ≤ 2000
/-- a leap year -/
def CalN.leap (c : CalN) (y : Int) : Bool := lpTo c.ev c.rs c.lf y c.nr
/-- the days of month j (from 0 on) of year y -/
def CalN.mo (c : CalN) (y : Int) (j : Nat) : Int := if c.leap y then c.lp j else c.dy j
/-- the days of a year -/
def CalN.yl (c : CalN) (y : Int) : Int := sm (c.mo y) c.n
/-- the days of the years before year k -/
def CalN.bef (c : CalN) (k : Nat) : Int := sm (fun i => c.yl (i : Int)) k
/-- the years of the cycle -/
def CalN.cyc (c : CalN) : Int := cyY c.ev c.nr
theorem CalB.cyc1 {c : CalN} (b : CalB c) : 1 ≤ c.cyc ∧ c.cyc ≤ 2000 := ⟨(cyY_bd b.ev).1, b.cy⟩
theorem CalB.mo {c : CalN} (b : CalB c) (y : Int) {j : Nat} (hj : j < c.n) : 1 ≤ c.mo y j ∧ c.mo y j ≤ 60 := by
  unfold CalN.mo; split
  · exact b.lp j hj
  · exact b.dy j hj
theorem CalB.yl {c : CalN} (b : CalB c) (y : Int) : 1 ≤ c.yl y ∧ c.yl y ≤ 1200 := by
  have h1 := sm_bd (f := c.mo y) (A := 1) (B := 60) (k := c.n) fun j hj => b.mo y hj
  have := b.n1; have := b.n20
  unfold CalN.yl; omega
theorem CalB.bef {c : CalN} (b : CalB c) (k : Nat) : (k : Int) ≤ c.bef k ∧ c.bef k ≤ 1200 * k := by
  have h1 := sm_bd (f := fun i => c.yl (i : Int)) (A := 1) (B := 1200) (k := k) fun j _ => b.yl _
  unfold CalN.bef; omega
theorem CalB.leap_add {c : CalN} (b : CalB c) (y : Int) : c.leap (y + c.cyc) = c.leap y :=
  lpTo_add (fun k hk => cyY_dvd b.cy hk) y
theorem CalB.yl_add {c : CalN} (b : CalB c) (y : Int) : c.yl (y + c.cyc) = c.yl y := by
  have h : c.mo (y + c.cyc) = c.mo y := by funext j; unfold CalN.mo; rw [b.leap_add]
  unfold CalN.yl; rw [h]
theorem CalB.leap_mul {c : CalN} (b : CalB c) (y : Int) (q : Nat) : c.leap (y + q * c.cyc) = c.leap y := by
  induction q with
  | zero => simp
  | succ q ih =>
    have h1 : y + ((q + 1 : Nat) : Int) * c.cyc = (y + q * c.cyc) + c.cyc := by rw [Int.natCast_add, Int.add_mul]; simp; omega
    rw [h1, b.leap_add, ih]
theorem CalB.yl_mul {c : CalN} (b : CalB c) (y : Int) (q : Nat) : c.yl (y + q * c.cyc) = c.yl y := by
  have h : c.mo (y + q * c.cyc) = c.mo y := by funext j; unfold CalN.mo; rw [b.leap_mul]
  unfold CalN.yl; rw [h]
/-- the years of the cycle, as a natural number -/
theorem CalB.cycN {c : CalN} (b : CalB c) : ∃ C : Nat, c.cyc = C ∧ 1 ≤ C ∧ C ≤ 2000 := by
  have h := b.cyc1
  exact ⟨c.cyc.toNat, by omega, by omega, by omega⟩
/-- the days before a year, by cycles -/
theorem CalB.bef_mul {c : CalN} (b : CalB c) {C : Nat} (hC : c.cyc = C) (q r : Nat) : c.bef (q * C + r) = q * c.bef C + c.bef r := by
  have h0 : ∀ q, c.bef (q * C) = q * c.bef C := by
    intro q
    induction q with
    | zero => simp [CalN.bef, sm]
    | succ q ih =>
      have h1 : c.bef ((q + 1) * C) = c.bef (q * C) + c.bef C := by
        unfold CalN.bef
        rw [Nat.add_mul, Nat.one_mul, sm_add]
        congr 1
        refine sm_congr fun j _ => ?_
        show c.yl ((q * C + j : Nat) : Int) = c.yl (j : Int)
        have h2 : ((q * C + j : Nat) : Int) = (j : Int) + q * c.cyc := by rw [hC, Int.natCast_add, Int.natCast_mul]; omega
        rw [h2, b.yl_mul]
      rw [h1, ih, Int.natCast_add, Int.add_mul]; simp
  unfold CalN.bef at h0 ⊢
  rw [sm_add, h0]
  congr 1
  refine sm_congr fun j _ => ?_
  show c.yl ((q * C + j : Nat) : Int) = c.yl (j : Int)
  have h2 : ((q * C + j : Nat) : Int) = (j : Int) + q * c.cyc := by rw [hC, Int.natCast_add, Int.natCast_mul]; omega
  rw [h2, b.yl_mul]
/-- the number of a day -/
def CalN.num (c : CalN) (y : Nat) (m : Nat) (d : Int) : Int := c.bef y + sm (c.mo (y : Int)) m + d - 1
/-- year y, month m (from 0 on), day d is the day with number x -/
structure Loc (c : CalN) (x : Int) (y m : Nat) (d : Int) : Prop where
  y0 : c.bef y ≤ x
  y1 : x < c.bef (y + 1)
  mn : m < c.n
  m0 : sm (c.mo (y : Int)) m ≤ x - c.bef y
  m1 : x - c.bef y < sm (c.mo (y : Int)) (m + 1)
  dd : d = x - c.bef y - sm (c.mo (y : Int)) m + 1
theorem Loc.one {c : CalN} (b : CalB c) {x : Int} {y m y' m' : Nat} {d d' : Int} (h : Loc c x y m d) (k : Loc c x y' m' d') : y = y' ∧ m = m' ∧ d = d' := by
  have e1 : y = y' := sm_place (f := fun i => c.yl (i : Int)) (n := y + y' + 1) (fun j _ => (b.yl _).1) (by omega) (by omega) h.y0 h.y1 k.y0 k.y1
  subst e1
  have e2 : m = m' := sm_place (fun j hj => (b.mo (y : Int) hj).1) h.mn k.mn h.m0 h.m1 k.m0 k.m1
  subst e2
  exact ⟨rfl, rfl, by rw [h.dd, k.dd]⟩
end Go.Proofs.Ytaamnmpbkdinpaa
