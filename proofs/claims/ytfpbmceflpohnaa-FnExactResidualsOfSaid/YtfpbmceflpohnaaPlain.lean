/- Plain arithmetic for the laws on readings and fits. No program in sight. -/
namespace Go.Proofs.Ytfpbmceflpohnaa
set_option linter.unusedVariables false

/-- n lies from l to h -/
def inB (n l h : Int) : Bool := decide (l ≤ n) && decide (n ≤ h)
theorem inB_t {n l h : Int} : inB n l h = true ↔ l ≤ n ∧ n ≤ h := by simp [inB]
theorem inB_f {n l h : Int} : inB n l h = false ↔ ¬ (l ≤ n ∧ n ≤ h) := by rw [← inB_t]; simp

theorem mul_bd {a b A B : Int} (ha : -A ≤ a) (ha' : a ≤ A) (hb : -B ≤ b) (hb' : b ≤ B) : -(A * B) ≤ a * b ∧ a * b ≤ A * B := by
  have h1 : 0 ≤ (A - a) * (B - b) := Int.mul_nonneg (by omega) (by omega)
  have h2 : 0 ≤ (A + a) * (B + b) := Int.mul_nonneg (by omega) (by omega)
  have h3 : 0 ≤ (A - a) * (B + b) := Int.mul_nonneg (by omega) (by omega)
  have h4 : 0 ≤ (A + a) * (B - b) := Int.mul_nonneg (by omega) (by omega)
  simp only [Int.sub_mul, Int.mul_sub, Int.add_mul, Int.mul_add] at h1 h2 h3 h4
  omega
theorem mul_nn {a b A B : Int} (ha : 0 ≤ a) (ha' : a ≤ A) (hb : 0 ≤ b) (hb' : b ≤ B) : 0 ≤ a * b ∧ a * b ≤ A * B :=
  ⟨Int.mul_nonneg ha hb, (mul_bd (by omega) ha' (by omega) hb').2⟩

/-- Go's quotient, cut towards nought, and the floor -/
theorem tdiv_floor {n d : Int} (hd : 0 < d) : n.tdiv d = if n.tmod d < 0 then n / d + 1 else n / d := by
  have h1 := Int.mul_tdiv_add_tmod n d
  have h2 := Int.mul_ediv_add_emod n d
  have h3 := Int.emod_nonneg n (show d ≠ 0 by omega)
  have h4 := Int.emod_lt_of_pos n hd
  have h5 : -d < n.tmod d ∧ n.tmod d < d := ⟨Int.lt_tmod_of_pos n hd, Int.tmod_lt_of_pos n hd⟩
  split
  · rename_i h
    have e : d * (n.tdiv d - (n / d + 1)) = n % d - n.tmod d - d := by rw [Int.mul_sub, Int.mul_add]; omega
    have lo : d * (n.tdiv d - (n / d + 1)) < d * 1 := by rw [e]; omega
    have hi : d * (-1) < d * (n.tdiv d - (n / d + 1)) := by rw [e]; omega
    have := Int.lt_of_mul_lt_mul_left lo (by omega)
    have := Int.lt_of_mul_lt_mul_left hi (by omega)
    omega
  · rename_i h
    have e : d * (n.tdiv d - n / d) = n % d - n.tmod d := by rw [Int.mul_sub]; omega
    have lo : d * (n.tdiv d - n / d) < d * 1 := by rw [e]; omega
    have hi : d * (-1) < d * (n.tdiv d - n / d) := by rw [e]; omega
    have := Int.lt_of_mul_lt_mul_left lo (by omega)
    have := Int.lt_of_mul_lt_mul_left hi (by omega)
    omega
/-- the nearest integer, halves up -/
def nearD (n d : Int) : Int := (2 * n + d) / (2 * d)
theorem nearD_eq {n d : Int} (hd : 0 < d) : nearD n d = if d - n % d ≤ n % d then n / d + 1 else n / d := by
  unfold nearD
  have h2 := Int.mul_ediv_add_emod n d
  have h3 := Int.emod_nonneg n (show d ≠ 0 by omega)
  have h4 := Int.emod_lt_of_pos n hd
  split
  · rename_i h
    have e : 2 * n + d = (2 * (n % d) - d) + (2 * d) * (n / d + 1) := by rw [Int.mul_add, Int.mul_assoc]; omega
    rw [e, Int.add_mul_ediv_left _ _ (by omega), Int.ediv_eq_zero_of_lt (by omega) (by omega)]; omega
  · rename_i h
    have e : 2 * n + d = (2 * (n % d) + d) + (2 * d) * (n / d) := by rw [Int.mul_assoc]; omega
    rw [e, Int.add_mul_ediv_left _ _ (by omega), Int.ediv_eq_zero_of_lt (by omega) (by omega)]; omega
/-- bounds on a floor -/
theorem ediv_bd {n d N : Int} (hd : 0 < d) (h0 : -N ≤ n) (h1 : n ≤ N) (hN : 0 ≤ N) : -N ≤ n / d ∧ n / d ≤ N := by
  constructor
  · apply Int.le_ediv_of_mul_le hd
    have := Int.mul_le_mul_of_nonneg_left (show (1:Int) ≤ d by omega) hN
    rw [Int.neg_mul]; omega
  · by_cases hn : 0 ≤ n
    · have := Int.ediv_le_self d hn; omega
    · have := Int.ediv_neg_of_neg_of_pos (show n < 0 by omega) hd; omega
theorem ediv_mul_bd {n d : Int} (hd : 0 < d) : n - d < n / d * d ∧ n / d * d ≤ n := by
  have h2 := Int.mul_ediv_add_emod n d
  have h3 := Int.emod_nonneg n (show d ≠ 0 by omega)
  have h4 := Int.emod_lt_of_pos n hd
  rw [Int.mul_comm] at h2
  omega

/-- sums that are valid -/
def vF (c x y xx xy : Int) : Bool := inB c 0 60 && inB x 0 (c * 10000) && inB y (-c * 100000) (c * 100000) && inB xx 0 (c * 10000 * 10000) && inB xy (-c * 10000 * 100000) (c * 10000 * 100000) && decide (x * x ≤ c * xx)

/-- the slope's terms -/
def slN (c x y xx xy : Int) : Int := c * xy - x * y
def slD (c x y xx xy : Int) : Int := c * xx - x * x
/-- what valid sums bound -/
structure FB (c x y xx xy : Int) : Prop where
  c0 : 0 ≤ c
  c1 : c ≤ 60
  x0 : 0 ≤ x
  x1 : x ≤ 600000
  y0 : -6000000 ≤ y
  y1 : y ≤ 6000000
  xx0 : 0 ≤ xx
  xx1 : xx ≤ 6000000000
  xy0 : -60000000000 ≤ xy
  xy1 : xy ≤ 60000000000
  d0 : x * x ≤ c * xx
theorem vF_fb {c x y xx xy : Int} (h : vF c x y xx xy = true) : FB c x y xx xy := by
  simp only [vF, Bool.and_eq_true, inB_t, decide_eq_true_eq] at h
  obtain ⟨⟨⟨⟨⟨⟨h1, h2⟩, h3, h4⟩, h5, h6⟩, h7, h8⟩, h9, h10⟩, h11⟩ := h
  constructor <;> first | assumption | omega
theorem FB.cxy {c x y xx xy : Int} (f : FB c x y xx xy) : -3600000000000 ≤ c * xy ∧ c * xy ≤ 3600000000000 := by
  have := mul_bd (A := 60) (B := 60000000000) (by have := f.c0; omega) f.c1 (by have := f.xy0; omega) f.xy1; omega
theorem FB.xy {c x y xx xy : Int} (f : FB c x y xx xy) : -3600000000000 ≤ x * y ∧ x * y ≤ 3600000000000 := by
  have := mul_bd (A := 600000) (B := 6000000) (by have := f.x0; omega) f.x1 (by have := f.y0; omega) f.y1; omega
theorem FB.cxx {c x y xx xy : Int} (f : FB c x y xx xy) : 0 ≤ c * xx ∧ c * xx ≤ 360000000000 := by
  have := mul_nn f.c0 f.c1 f.xx0 f.xx1; omega
theorem FB.xx {c x y xx xy : Int} (f : FB c x y xx xy) : 0 ≤ x * x ∧ x * x ≤ 360000000000 := by
  have := mul_nn f.x0 f.x1 f.x0 f.x1; omega
theorem FB.n {c x y xx xy : Int} (f : FB c x y xx xy) : -7200000000000 ≤ slN c x y xx xy ∧ slN c x y xx xy ≤ 7200000000000 := by
  have := f.cxy; have := f.xy; unfold slN; omega
theorem FB.d {c x y xx xy : Int} (f : FB c x y xx xy) : 0 ≤ slD c x y xx xy ∧ slD c x y xx xy ≤ 360000000000 := by
  have := f.cxx; have := f.xx; have := f.d0; unfold slD; omega

/-- the code of a fit: 1 not valid, 6 without a line, 0 -/
def codeF (c x y xx xy : Int) : Int := if vF c x y xx xy then (if slD c x y xx xy = 0 then 6 else 0) else 1
/-- the slope of the fitted line, by day -/
def rateF (c x y xx xy : Int) : Int := if codeF c x y xx xy = 0 then nearD (24000 * slN c x y xx xy) (slD c x y xx xy) else 0
theorem codeF_v {c x y xx xy : Int} (h : codeF c x y xx xy = 0) : vF c x y xx xy = true := by
  unfold codeF at h; split at h
  · assumption
  · omega
theorem codeF_fb {c x y xx xy : Int} (h : codeF c x y xx xy = 0) : FB c x y xx xy := vF_fb (codeF_v h)
theorem codeF_d {c x y xx xy : Int} (h : codeF c x y xx xy = 0) : 0 < slD c x y xx xy := by
  have f := (codeF_fb h).d
  unfold codeF at h; rw [if_pos (codeF_v h)] at h; split at h <;> omega

/-- the value of the fitted line at an hour -/
def offV (c x y xx xy hr : Int) : Int := nearD (y * slD c x y xx xy + slN c x y xx xy * (hr * c - x)) (c * slD c x y xx xy)
/-- the bounds on the way to it -/
structure OB (c x y n d hr : Int) : Prop where
  hc0 : 0 ≤ hr * c
  hc1 : hr * c ≤ 600000
  yd0 : -2160000000000000000 ≤ y * d
  yd1 : y * d ≤ 2160000000000000000
  no0 : -4320000000000000000 ≤ n * (hr * c - x)
  no1 : n * (hr * c - x) ≤ 4320000000000000000
  cd0 : 0 < c * d
  cd1 : c * d ≤ 21600000000000
theorem ob_of {c x y xx xy hr : Int} (h : codeF c x y xx xy = 0) (h0 : 0 ≤ hr) (h1 : hr ≤ 10000) : OB c x y (slN c x y xx xy) (slD c x y xx xy) hr := by
  have f := codeF_fb h
  have dd := codeF_d h
  have n := f.n
  have d := f.d
  generalize slN c x y xx xy = N at *
  have hcp : 0 < c := by
    rcases Int.lt_or_le 0 c with h | h
    · exact h
    · have hc : c = 0 := by have := f.c0; omega
      subst hc
      have := f.d0
      unfold slD at dd; have h5 : 0 ≤ x * x := Int.mul_nonneg f.x0 f.x0; omega
  generalize slD c x y xx xy = D at *
  have a := mul_nn h0 h1 f.c0 f.c1
  have b := mul_bd (a := y) (b := D) (A := 6000000) (B := 360000000000) (by have := f.y0; omega) f.y1 (by omega) d.2
  have e := mul_bd (a := N) (b := hr * c - x) (A := 7200000000000) (B := 600000) (by omega) n.2 (by have := f.x1; omega) (by have := f.x0; omega)
  have g := mul_nn (a := c) (b := D) (A := 60) (B := 360000000000) f.c0 f.c1 d.1 d.2
  have g' : 0 < c * D := Int.mul_pos hcp dd
  constructor <;> omega
/-- the reference's way to the same value -/
structure OB' (c x y n d hr : Int) : Prop where
  w0 : -7200000000000 ≤ n / d
  w1 : n / d ≤ 7200000000000
  wd0 : -7560000000000 ≤ n / d * d
  wd1 : n / d * d ≤ 7200000000000
  ch0 : 0 ≤ c * hr
  ch1 : c * hr ≤ 600000
  wo0 : -4320000000000000000 ≤ n / d * (c * hr - x)
  wo1 : n / d * (c * hr - x) ≤ 4320000000000000000
  t0 : -6800000000000000000 ≤ (y + n / d * (c * hr - x)) * d
  t1 : (y + n / d * (c * hr - x)) * d ≤ 6800000000000000000
  r0 : -220000000000000000 ≤ (n - n / d * d) * (c * hr - x)
  r1 : (n - n / d * d) * (c * hr - x) ≤ 220000000000000000
  e : (y + n / d * (c * hr - x)) * d + (n - n / d * d) * (c * hr - x) = y * d + n * (hr * c - x)
theorem ob'_of {c x y xx xy hr : Int} (h : codeF c x y xx xy = 0) (h0 : 0 ≤ hr) (h1 : hr ≤ 10000) : OB' c x y (slN c x y xx xy) (slD c x y xx xy) hr := by
  have f := codeF_fb h
  have dd := codeF_d h
  have n := f.n
  have d := f.d
  generalize slN c x y xx xy = N at *
  generalize slD c x y xx xy = D at *
  have a := mul_nn (a := c) (b := hr) f.c0 f.c1 h0 h1
  obtain ⟨q0, q1⟩ := ediv_bd (n := N) (N := 7200000000000) dd (by omega) n.2 (by omega)
  obtain ⟨m0, m1⟩ := ediv_mul_bd (n := N) dd
  have ho0 : -600000 ≤ c * hr - x := by have := f.x1; omega
  have ho1 : c * hr - x ≤ 600000 := by have := f.x0; omega
  have hcomm : hr * c = c * hr := Int.mul_comm _ _
  have e1 : (y + N / D * (c * hr - x)) * D = y * D + N / D * D * (c * hr - x) := by
    rw [Int.add_mul, Int.mul_assoc, Int.mul_comm (c * hr - x) D, ← Int.mul_assoc]
  have e2 : (N - N / D * D) * (c * hr - x) = N * (c * hr - x) - N / D * D * (c * hr - x) := Int.sub_mul _ _ _
  rw [← hcomm] at a ho0 ho1 e1 e2
  have b := mul_bd (a := y) (b := D) (A := 6000000) (B := 360000000000) (by have := f.y0; omega) f.y1 (by omega) d.2
  have g := mul_bd (a := N / D) (b := hr * c - x) (A := 7200000000000) (B := 600000) (by omega) q1 ho0 ho1
  have k := mul_bd (a := N / D * D) (b := hr * c - x) (A := 7560000000000) (B := 600000) (by omega) (by omega) ho0 ho1
  have r := mul_bd (a := N - N / D * D) (b := hr * c - x) (A := 360000000000) (B := 600000) (by omega) (by omega) ho0 ho1
  constructor <;> first | (rw [hcomm] at *; omega) | omega
theorem inB_mid {h : Int} : inB h 0 10000 = true ↔ 0 ≤ h ∧ h ≤ 10000 := inB_t
/-- value and code of a fitted line at an hour -/
def offCode (c x y xx xy hr : Int) : Int := if codeF c x y xx xy = 0 then (if inB hr 0 10000 then 0 else 2) else codeF c x y xx xy
def offRes (c x y xx xy hr : Int) : Int := if offCode c x y xx xy hr = 0 then offV c x y xx xy hr else 0

/-- the code of a sum of two fits -/
def addCode (c x y xx xy c' x' y' xx' xy' : Int) : Int := if vF c x y xx xy && vF c' x' y' xx' xy' then (if 60 < c + c' then 5 else 0) else 1

/-- two pairs are alike -/
def eq2 (a b c d : Int) : Bool := a == c && b == d
/-- the first k pairs are alike -/
def eqTo (h o h' o' : Nat → Int) : Nat → Bool
  | 0 => true
  | k + 1 => eqTo h o h' o' k && eq2 (h k) (o k) (h' k) (o' k)
theorem eqTo_ff {h o h' o' : Nat → Int} {k n : Nat} (hk : k < n) (hh : eq2 (h k) (o k) (h' k) (o' k) = false) : eqTo h o h' o' n = false := by
  induction n with
  | zero => omega
  | succ n ih =>
    by_cases e : k = n
    · subst e; simp only [eqTo, hh, Bool.and_false]
    · simp only [eqTo, ih (by omega), Bool.false_and]
theorem eqTo_self {h o : Nat → Int} {n : Nat} : eqTo h o h o n = true := by
  induction n with
  | zero => rfl
  | succ n ih => simp [eqTo, eq2, ih]

end Go.Proofs.Ytfpbmceflpohnaa
