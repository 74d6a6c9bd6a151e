/- DaysOf; ratios: valid ones. The draws of the law on weights. The draws of the law on weights: ratios seldom not valid, days, weights. The law on weights and days: its walk. What arguments of plain data hold: slices of mixed structs, slices of numbers. No program in sight. What an argument of bytes holds. -/
import Derived.Test.YtglcjnplmhelhaaBd
import Derived.Test.YtglcjnplmhelhaaBc
import Derived.Deep.DeepCutAuto
import Derived.Test.YtglcjnplmhelhaaBa
import Derived.Test.YtglcjnplmhelhaaBb

namespace Go.Proofs.Ytglcjnplmhelhaa
open Go.RowKit
set_option linter.unusedVariables false
set_option linter.unusedSimpArgs false

/-- the greatest common divisor -/
def gcdA (a b : Int) : Int := (Int.gcd a b : Nat)
theorem gcdA_step {a b : Int} : gcdA b (a.tmod b) = gcdA a b := by
  unfold gcdA
  congr 1
  have h1 : Int.gcd a b = Int.gcd b a := Int.gcd_comm a b
  rw [h1]
  have e : a.tmod b = a - b * a.tdiv b := by have := Int.mul_tdiv_add_tmod a b; omega
  rw [e]
  simp [Int.gcd_sub_mul_right_right]
theorem gcdA_zero (a : Int) : gcdA a 0 = absI a := by
  unfold gcdA absI; simp; split <;> omega
theorem tmod_abs {a b : Int} (hb : b ≠ 0) : (a.tmod b).natAbs < b.natAbs := by
  rw [Int.natAbs_tmod]; exact Nat.mod_lt _ (by omega)
set_option maxHeartbeats 1000000 in
theorem gcd_c (a b : Int) (w : World) (ha : -1000000000000 ≤ a) (ha' : a ≤ 1000000000000) (hb : -1000000000000 ≤ b) (hb' : b ≤ 1000000000000) :
    Calls Try.prog 76 #[.int .i64 a, .int .i64 b] w fun e w' => e = .returned (.int .i64 (gcdA a b)) ∧ Ext w w' := by
  go_enter Try.func76, Try.ntmps76
  go_wp2_with fail
  go_loopw [0, 1] (fun x y wr => ∃ p q : Int, x = .int .i64 p ∧ y = .int .i64 q ∧ -1000000000000 ≤ p ∧ p ≤ 1000000000000 ∧ -1000000000000 ≤ q ∧ q ≤ 1000000000000 ∧ Ext w wr ∧ gcdA p q = gcdA a b) (fun _ y _ => (intOf y).natAbs)
  case atStart => exact ⟨a, b, rfl, rfl, ha, ha', hb, hb', (by repeat (first | with_reducible exact Ext.refl _ | with_reducible assumption | with_reducible refine Ext.alloc ?_ _ | with_reducible refine Ext.drew ?_ | (with_reducible refine Ext.setAt ?_ _ _ _ ?_; rotate_left; omega) | with_reducible refine Ext.trans ?_ (by assumption) | with_reducible exact Past.bel _ | with_reducible refine Ext.trans ?_ (Past.bel _))), rfl⟩
  case round =>
    obtain ⟨p, q, rfl, rfl, p0, p1, q0, q1, hbl, hg⟩ := hrel
    have HG := Lib.hid hg
    clear hg
    by_cases h : q = 0
    · subst h
      have HR := Lib.hid (show gcdA a b = absI p by rw [← HG.out, gcdA_zero])
      by_cases hp : p < 0
      · go_wp2_with fail
        go_ret
        exact ⟨ret_i64 (by rw [HR.out, absI, if_pos hp]), (by repeat (first | with_reducible exact Ext.refl _ | with_reducible assumption | with_reducible refine Ext.alloc ?_ _ | with_reducible refine Ext.drew ?_ | (with_reducible refine Ext.setAt ?_ _ _ _ ?_; rotate_left; omega) | with_reducible refine Ext.trans ?_ (by assumption) | with_reducible exact Past.bel _ | with_reducible refine Ext.trans ?_ (Past.bel _)))⟩
      · go_wp2_with fail
        go_ret
        exact ⟨ret_i64 (by rw [HR.out, absI, if_neg (by omega)]), (by repeat (first | with_reducible exact Ext.refl _ | with_reducible assumption | with_reducible refine Ext.alloc ?_ _ | with_reducible refine Ext.drew ?_ | (with_reducible refine Ext.setAt ?_ _ _ _ ?_; rotate_left; omega) | with_reducible refine Ext.trans ?_ (by assumption) | with_reducible exact Past.bel _ | with_reducible refine Ext.trans ?_ (Past.bel _)))⟩
    · have e0 : (q != 0) = true := by simpa using h
      have hs := (gcdA_step (a := p) (b := q)).trans HG.out
      have ht := tmod_abs (a := p) h
      obtain ⟨R, hR⟩ : ∃ R, R = p.tmod q := ⟨_, rfl⟩
      rw [← hR] at hs ht
      have HSS := Lib.hid hs
      have r0 : -1000000000000 ≤ R := by omega
      have r1 : R ≤ 1000000000000 := by omega
      have hR' : p.tmod q = R := hR.symm
      have hz : (q == 0) = false := by simpa using h
      clear hs h hR
      go_wp2_with fail
      refine wp_region_past (by kernel_rfl) (by kernel_rfl) ?_
      repeat (go_big_quiet_step (fail))
      refine wpQuiet_nil ?_
      rintro _ ⟨wx, rfl⟩
      go_wp2_with fail
      exact ⟨⟨q, R, rfl, rfl, by omega, by omega, r0, r1, (by repeat (first | with_reducible exact Ext.refl _ | with_reducible assumption | with_reducible refine Ext.alloc ?_ _ | with_reducible refine Ext.drew ?_ | (with_reducible refine Ext.setAt ?_ _ _ _ ?_; rotate_left; omega) | with_reducible refine Ext.trans ?_ (by assumption) | with_reducible exact Past.bel _ | with_reducible refine Ext.trans ?_ (Past.bel _))), HSS.out⟩, by simpa [intOf] using ht⟩
set_option maxHeartbeats 1000000 in
theorem l02Gcd_c (a b : Int) (w : World) (ha : 0 ≤ a) (hb : 0 ≤ b) (ha' : a ≤ 1000000000000) (hb' : b ≤ 1000000000000) :
    Calls Try.prog 77 #[.int .i64 a, .int .i64 b] w fun e w' => e = .returned (.int .i64 (gcdA a b)) ∧ w = w' := by
  go_enter Try.func77, Try.ntmps77
  go_wp2_with fail
  go_loop [0, 1] (fun x y => ∃ p q : Int, x = .int .i64 p ∧ y = .int .i64 q ∧ 0 ≤ p ∧ p ≤ 1000000000000 ∧ 0 ≤ q ∧ q ≤ 1000000000000 ∧ gcdA p q = gcdA a b) (fun _ y => (intOf y).toNat)
  case atStart => exact ⟨a, b, rfl, rfl, ha, ha', hb, hb', rfl⟩
  case round =>
    obtain ⟨p, q, rfl, rfl, p0, p1, q0, q1, hg⟩ := hrel
    have HG := Lib.hid hg
    clear hg
    by_cases h : 0 < q
    · have hs := (gcdA_step (a := p) (b := q)).trans HG.out
      have r0 := Int.tmod_nonneg q p0
      have r1 := Int.tmod_lt_of_pos p h
      obtain ⟨R, hR⟩ : ∃ R, R = p.tmod q := ⟨_, rfl⟩
      rw [← hR] at hs r0 r1
      have HSS := Lib.hid hs
      have hR' : p.tmod q = R := hR.symm
      have hR2 : p % q = R := by rw [← hR', Int.tmod_eq_emod_of_nonneg p0]
      clear hs hR
      go_wp2_with fail
      exact ⟨⟨q, R, rfl, by go_num, by omega, by omega, by omega, by omega, HSS.out⟩, by simp [intOf]; omega⟩
    · obtain rfl : q = 0 := by omega
      go_wp2_with fail
      go_ret
      exact ⟨ret_i64 (by rw [← HG.out, gcdA_zero, absI, if_neg (by omega)]), rfl⟩
/-- a ratio is valid -/
def raB (n d : Int) : Bool := inB d 1 1000000000 && (inB n (-1000000000) 1000000000 && decide (gcdA n d = 1))
theorem gcdA_abs (a b : Int) : gcdA (absI a) b = gcdA a b := by
  unfold gcdA absI
  split
  · rw [Int.neg_gcd]
  · rfl
set_option maxHeartbeats 1000000 in
theorem validRatio_c (n d : Int) (w : World) :
    Calls Try.prog 60 #[.agg #[.int .i64 n, .int .i64 d]] w fun e w' => e = .returned (.bool (raB n d)) ∧ Ext w w' := by
  cases h1 : inB d 1 1000000000
  · go_enter Try.func60, Try.ntmps60
    go_wp2_with (go_at_call 52; ((with_reducible refine (within_c _ _ _ _).mono ?_); rintro e w' ⟨rfl, rfl⟩))
    go_ret
    exact ⟨by rw [raB, h1]; rfl, (by repeat (first | with_reducible exact Ext.refl _ | with_reducible assumption | with_reducible refine Ext.alloc ?_ _ | with_reducible refine Ext.drew ?_ | (with_reducible refine Ext.setAt ?_ _ _ _ ?_; rotate_left; omega) | with_reducible refine Ext.trans ?_ (by assumption) | with_reducible exact Past.bel _ | with_reducible refine Ext.trans ?_ (Past.bel _)))⟩
  · cases h2 : inB n (-1000000000) 1000000000
    · go_enter Try.func60, Try.ntmps60
      go_wp2_with (go_at_call 52; ((with_reducible refine (within_c _ _ _ _).mono ?_); rintro e w' ⟨rfl, rfl⟩))
      go_ret
      exact ⟨by rw [raB, h1, h2]; rfl, (by repeat (first | with_reducible exact Ext.refl _ | with_reducible assumption | with_reducible refine Ext.alloc ?_ _ | with_reducible refine Ext.drew ?_ | (with_reducible refine Ext.setAt ?_ _ _ _ ?_; rotate_left; omega) | with_reducible refine Ext.trans ?_ (by assumption) | with_reducible exact Past.bel _ | with_reducible refine Ext.trans ?_ (Past.bel _)))⟩
    · have h1' := inB_t.1 h1
      have h2' := inB_t.1 h2
      obtain ⟨G, hG⟩ : ∃ G, G = gcdA n d := ⟨_, rfl⟩
      have HG := Lib.hid (fun W => (hG ▸ gcd_c n d W (by omega) (by omega) (by omega) (by omega) : Calls Try.prog 76 #[.int .i64 n, .int .i64 d] W fun e w' => e = .returned (.int .i64 G) ∧ Ext W w'))
      have HR := Lib.hid (show raB n d = decide (G = 1) by rw [raB, h1, h2, hG]; rfl)
      clear hG
      go_enter Try.func60, Try.ntmps60
      go_wp2_with (first | (go_at_call 52; ((with_reducible refine (within_c _ _ _ _).mono ?_); rintro e w' ⟨rfl, rfl⟩)) | (go_at_call 76; ((with_reducible refine (HG.out _).mono ?_); rintro e w' ⟨rfl, hx⟩; (first | (obtain ⟨wx, rfl⟩ := Past.again hx) | (obtain ⟨wx, rfl⟩ := Past.ofd hx) | (obtain ⟨wx, rfl⟩ := Past.of hx)))))
      go_ret
      exact ⟨ret_bool (by rw [HR.out]; rfl), (by repeat (first | with_reducible exact Ext.refl _ | with_reducible assumption | with_reducible refine Ext.alloc ?_ _ | with_reducible refine Ext.drew ?_ | (with_reducible refine Ext.setAt ?_ _ _ _ ?_; rotate_left; omega) | with_reducible refine Ext.trans ?_ (by assumption) | with_reducible exact Past.bel _ | with_reducible refine Ext.trans ?_ (Past.bel _)))⟩
set_option maxHeartbeats 1000000 in
theorem l02Ok_c (n d : Int) (w : World) :
    Calls Try.prog 61 #[.agg #[.int .i64 n, .int .i64 d]] w fun e w' => e = .returned (.bool (raB n d)) ∧ Ext w w' := by
  cases h1 : inB d 1 1000000000
  · have HL1 := Lib.hid (fun (W : World) => (h1 ▸ l00In_c d 1 1000000000 W : Calls Try.prog 57 #[.int .i64 d, .int .i64 1, .int .i64 1000000000] W fun e w' => e = .returned (.bool false) ∧ W = w'))
    go_enter Try.func61, Try.ntmps61
    go_wp2_with fail
    refine wp_region_past (by kernel_rfl) (by kernel_rfl) ?_
    repeat (go_big_quiet_step (first | (go_at_call 57; with_reducible exact Calls.past_same (HL1.out _))))
    refine wpQuiet_nil ?_
    rintro _ ⟨wx, rfl⟩
    go_wp2_with fail
    go_ret
    exact ⟨by rw [raB, h1]; rfl, (by repeat (first | with_reducible exact Ext.refl _ | with_reducible assumption | with_reducible refine Ext.alloc ?_ _ | with_reducible refine Ext.drew ?_ | (with_reducible refine Ext.setAt ?_ _ _ _ ?_; rotate_left; omega) | with_reducible refine Ext.trans ?_ (by assumption) | with_reducible exact Past.bel _ | with_reducible refine Ext.trans ?_ (Past.bel _)))⟩
  · have HL1 := Lib.hid (fun (W : World) => (h1 ▸ l00In_c d 1 1000000000 W : Calls Try.prog 57 #[.int .i64 d, .int .i64 1, .int .i64 1000000000] W fun e w' => e = .returned (.bool true) ∧ W = w'))
    cases h2 : inB n (-1000000000) 1000000000
    · have HL2 := Lib.hid (fun (W : World) => (h2 ▸ l00In_c n (-1000000000) 1000000000 W : Calls Try.prog 57 #[.int .i64 n, .int .i64 (-1000000000), .int .i64 1000000000] W fun e w' => e = .returned (.bool false) ∧ W = w'))
      go_enter Try.func61, Try.ntmps61
      go_wp2_with fail
      refine wp_region_past (by kernel_rfl) (by kernel_rfl) ?_
      repeat (go_big_quiet_step (first | (go_at_call 57; with_reducible exact Calls.past_same (HL1.out _)) | (go_at_call 57; with_reducible exact Calls.past_same (HL2.out _))))
      refine wpQuiet_nil ?_
      rintro _ ⟨wx, rfl⟩
      go_wp2_with fail
      go_ret
      exact ⟨by rw [raB, h1, h2]; rfl, (by repeat (first | with_reducible exact Ext.refl _ | with_reducible assumption | with_reducible refine Ext.alloc ?_ _ | with_reducible refine Ext.drew ?_ | (with_reducible refine Ext.setAt ?_ _ _ _ ?_; rotate_left; omega) | with_reducible refine Ext.trans ?_ (by assumption) | with_reducible exact Past.bel _ | with_reducible refine Ext.trans ?_ (Past.bel _)))⟩
    · have HL2 := Lib.hid (fun (W : World) => (h2 ▸ l00In_c n (-1000000000) 1000000000 W : Calls Try.prog 57 #[.int .i64 n, .int .i64 (-1000000000), .int .i64 1000000000] W fun e w' => e = .returned (.bool true) ∧ W = w'))
      have h1' := inB_t.1 h1
      have h2' := inB_t.1 h2
      obtain ⟨A, hA⟩ : ∃ A, A = absI n := ⟨_, rfl⟩
      have a0 : 0 ≤ A := by rw [hA]; unfold absI; split <;> omega
      have a1 : A ≤ 1000000000 := by rw [hA]; unfold absI; split <;> omega
      obtain ⟨G, hG⟩ : ∃ G, G = gcdA n d := ⟨_, rfl⟩
      have HG := Lib.hid (fun W => (show Calls Try.prog 77 #[.int .i64 A, .int .i64 d] W (fun e w' => e = .returned (.int .i64 G) ∧ W = w') from by have := l02Gcd_c A d W a0 (by omega) (by omega) (by omega); rw [hA, gcdA_abs, ← hG] at this; rw [hA]; exact this))
      have HA := Lib.hid (fun W => (hA ▸ l02Size_c n W (by omega) (by omega) : Calls Try.prog 78 #[.int .i64 n] W fun e w' => e = .returned (.int .i64 A) ∧ W = w'))
      have HR := Lib.hid (show raB n d = decide (G = 1) by rw [raB, h1, h2, hG]; rfl)
      clear hG hA
      go_enter Try.func61, Try.ntmps61
      go_wp2_with fail
      refine wp_region_past (by kernel_rfl) (by kernel_rfl) ?_
      repeat (go_big_quiet_step (first | (go_at_call 57; with_reducible exact Calls.past_same (HL1.out _)) | (go_at_call 57; with_reducible exact Calls.past_same (HL2.out _)) | (go_at_call 78; with_reducible exact Calls.past_same (HA.out _)) | (go_at_call 77; with_reducible exact Calls.past_same (HG.out _))))
      refine wpQuiet_nil ?_
      rintro _ ⟨wx, rfl⟩
      go_wp2_with fail
      go_ret
      exact ⟨ret_bool (by rw [HR.out]; rfl), (by repeat (first | with_reducible exact Ext.refl _ | with_reducible assumption | with_reducible refine Ext.alloc ?_ _ | with_reducible refine Ext.drew ?_ | (with_reducible refine Ext.setAt ?_ _ _ _ ?_; rotate_left; omega) | with_reducible refine Ext.trans ?_ (by assumption) | with_reducible exact Past.bel _ | with_reducible refine Ext.trans ?_ (Past.bel _)))⟩
/-- what DaysOf returns -/
def dyB (r n d : Int) : Bool := raB n d && inB r 0 2000
def dyV (r n d : Int) : Int := if dyB r n d && decide (0 < n) then r * d / (100 * n) else 0
def dyC (r n d : Int) : Int := if raB n d then (if inB r 0 2000 then (if n ≤ 0 then 6 else 0) else 2) else 1
theorem raB_b {n d : Int} (h : raB n d = true) : 1 ≤ d ∧ d ≤ 1000000000 ∧ -1000000000 ≤ n ∧ n ≤ 1000000000 := by
  simp only [raB, Bool.and_eq_true] at h
  have h1 := inB_t.1 h.1
  have h2 := inB_t.1 h.2.1
  omega
set_option maxHeartbeats 1000000 in
theorem implDaysOf_c (r n d : Int) (w : World) :
    Calls Try.prog 19 #[.int .i64 r, .agg #[.int .i64 n, .int .i64 d]] w fun e w' => e = .returned (.tuple #[.int .i64 (dyV r n d), .int .i64 (dyC r n d)]) ∧ Ext w w' := by
  cases h1 : raB n d
  · go_enter Try.func19, Try.ntmps19
    go_wp2_with (go_at_call 60; ((with_reducible refine (validRatio_c _ _ _).mono ?_); rintro e w' ⟨rfl, hx⟩; (first | (obtain ⟨wx, rfl⟩ := Past.again hx) | (obtain ⟨wx, rfl⟩ := Past.ofd hx) | (obtain ⟨wx, rfl⟩ := Past.of hx))))
    go_ret2
    exact ⟨by rw [dyV, dyC, dyB, h1]; rfl, (by repeat (first | with_reducible exact Ext.refl _ | with_reducible assumption | with_reducible refine Ext.alloc ?_ _ | with_reducible refine Ext.drew ?_ | (with_reducible refine Ext.setAt ?_ _ _ _ ?_; rotate_left; omega) | with_reducible refine Ext.trans ?_ (by assumption) | with_reducible exact Past.bel _ | with_reducible refine Ext.trans ?_ (Past.bel _)))⟩
  · obtain ⟨b1, b2, b3, b4⟩ := raB_b h1
    cases h2 : inB r 0 2000
    · go_enter Try.func19, Try.ntmps19
      go_wp2_with (first | (go_at_call 60; ((with_reducible refine (validRatio_c _ _ _).mono ?_); rintro e w' ⟨rfl, hx⟩; (first | (obtain ⟨wx, rfl⟩ := Past.again hx) | (obtain ⟨wx, rfl⟩ := Past.ofd hx) | (obtain ⟨wx, rfl⟩ := Past.of hx)))) | (go_at_call 52; ((with_reducible refine (within_c _ _ _ _).mono ?_); rintro e w' ⟨rfl, rfl⟩)))
      go_ret2
      exact ⟨by rw [dyV, dyC, dyB, h1, h2]; rfl, (by repeat (first | with_reducible exact Ext.refl _ | with_reducible assumption | with_reducible refine Ext.alloc ?_ _ | with_reducible refine Ext.drew ?_ | (with_reducible refine Ext.setAt ?_ _ _ _ ?_; rotate_left; omega) | with_reducible refine Ext.trans ?_ (by assumption) | with_reducible exact Past.bel _ | with_reducible refine Ext.trans ?_ (Past.bel _)))⟩
    · have h2' := inB_t.1 h2
      by_cases h3 : n ≤ 0
      · go_enter Try.func19, Try.ntmps19
        go_wp2_with (first | (go_at_call 60; ((with_reducible refine (validRatio_c _ _ _).mono ?_); rintro e w' ⟨rfl, hx⟩; (first | (obtain ⟨wx, rfl⟩ := Past.again hx) | (obtain ⟨wx, rfl⟩ := Past.ofd hx) | (obtain ⟨wx, rfl⟩ := Past.of hx)))) | (go_at_call 52; ((with_reducible refine (within_c _ _ _ _).mono ?_); rintro e w' ⟨rfl, rfl⟩)))
        go_ret2
        exact ⟨by rw [dyV, dyC, dyB, h1, h2, decide_eq_false (show ¬ 0 < n by omega), if_pos rfl, if_pos rfl, if_pos h3]; rfl, (by repeat (first | with_reducible exact Ext.refl _ | with_reducible assumption | with_reducible refine Ext.alloc ?_ _ | with_reducible refine Ext.drew ?_ | (with_reducible refine Ext.setAt ?_ _ _ _ ?_; rotate_left; omega) | with_reducible refine Ext.trans ?_ (by assumption) | with_reducible exact Past.bel _ | with_reducible refine Ext.trans ?_ (Past.bel _)))⟩
      · have hp := mul_nn (A := 2000) (B := 1000000000) h2'.1 h2'.2 (show 0 ≤ d by omega) b2
        obtain ⟨p0, p1⟩ := hp
        have t1 : (r * d).tdiv (100 * n) = r * d / (100 * n) := Int.tdiv_eq_ediv_of_nonneg p0
        have hq := ediv_bd (N := 2000000000000) (show 0 < 100 * n by omega) (show -2000000000000 ≤ r * d by omega) (by omega) (by omega)
        have hz : (100 * n == 0) = false := by simp; omega
        have hn1 : 1 ≤ n := by omega
        go_enter Try.func19, Try.ntmps19
        go_wp2_with (first | (go_at_call 60; ((with_reducible refine (validRatio_c _ _ _).mono ?_); rintro e w' ⟨rfl, hx⟩; (first | (obtain ⟨wx, rfl⟩ := Past.again hx) | (obtain ⟨wx, rfl⟩ := Past.ofd hx) | (obtain ⟨wx, rfl⟩ := Past.of hx)))) | (go_at_call 52; ((with_reducible refine (within_c _ _ _ _).mono ?_); rintro e w' ⟨rfl, rfl⟩)))
        go_ret2
        exact ⟨by rw [dyV, dyC, dyB, h1, h2, decide_eq_true (show 0 < n by omega), if_pos rfl, if_pos rfl, if_neg (show ¬ n ≤ 0 by omega)]; rfl, (by repeat (first | with_reducible exact Ext.refl _ | with_reducible assumption | with_reducible refine Ext.alloc ?_ _ | with_reducible refine Ext.drew ?_ | (with_reducible refine Ext.setAt ?_ _ _ _ ?_; rotate_left; omega) | with_reducible refine Ext.trans ?_ (by assumption) | with_reducible exact Past.bel _ | with_reducible refine Ext.trans ?_ (Past.bel _)))⟩
set_option maxHeartbeats 1000000 in
theorem specDaysOf_c (r n d : Int) (w : World) :
    Calls Try.prog 20 #[.int .i64 r, .agg #[.int .i64 n, .int .i64 d]] w fun e w' => e = .returned (.tuple #[.int .i64 (dyV r n d), .int .i64 (dyC r n d)]) ∧ Ext w w' := by
  cases h1 : raB n d
  · go_enter Try.func20, Try.ntmps20
    go_wp2_with (go_at_call 61; ((with_reducible refine (l02Ok_c _ _ _).mono ?_); rintro e w' ⟨rfl, hx⟩; (first | (obtain ⟨wx, rfl⟩ := Past.again hx) | (obtain ⟨wx, rfl⟩ := Past.ofd hx) | (obtain ⟨wx, rfl⟩ := Past.of hx))))
    go_ret2
    exact ⟨by rw [dyV, dyC, dyB, h1]; rfl, (by repeat (first | with_reducible exact Ext.refl _ | with_reducible assumption | with_reducible refine Ext.alloc ?_ _ | with_reducible refine Ext.drew ?_ | (with_reducible refine Ext.setAt ?_ _ _ _ ?_; rotate_left; omega) | with_reducible refine Ext.trans ?_ (by assumption) | with_reducible exact Past.bel _ | with_reducible refine Ext.trans ?_ (Past.bel _)))⟩
  · obtain ⟨b1, b2, b3, b4⟩ := raB_b h1
    cases h2 : inB r 0 2000
    · go_enter Try.func20, Try.ntmps20
      go_wp2_with (first | (go_at_call 61; ((with_reducible refine (l02Ok_c _ _ _).mono ?_); rintro e w' ⟨rfl, hx⟩; (first | (obtain ⟨wx, rfl⟩ := Past.again hx) | (obtain ⟨wx, rfl⟩ := Past.ofd hx) | (obtain ⟨wx, rfl⟩ := Past.of hx)))) | (go_at_call 57; ((with_reducible refine (l00In_c _ _ _ _).mono ?_); rintro e w' ⟨rfl, rfl⟩)))
      go_ret2
      exact ⟨by rw [dyV, dyC, dyB, h1, h2]; rfl, (by repeat (first | with_reducible exact Ext.refl _ | with_reducible assumption | with_reducible refine Ext.alloc ?_ _ | with_reducible refine Ext.drew ?_ | (with_reducible refine Ext.setAt ?_ _ _ _ ?_; rotate_left; omega) | with_reducible refine Ext.trans ?_ (by assumption) | with_reducible exact Past.bel _ | with_reducible refine Ext.trans ?_ (Past.bel _)))⟩
    · have h2' := inB_t.1 h2
      by_cases h3 : n ≤ 0
      · go_enter Try.func20, Try.ntmps20
        go_wp2_with (first | (go_at_call 61; ((with_reducible refine (l02Ok_c _ _ _).mono ?_); rintro e w' ⟨rfl, hx⟩; (first | (obtain ⟨wx, rfl⟩ := Past.again hx) | (obtain ⟨wx, rfl⟩ := Past.ofd hx) | (obtain ⟨wx, rfl⟩ := Past.of hx)))) | (go_at_call 57; ((with_reducible refine (l00In_c _ _ _ _).mono ?_); rintro e w' ⟨rfl, rfl⟩)))
        go_ret2
        exact ⟨by rw [dyV, dyC, dyB, h1, h2, decide_eq_false (show ¬ 0 < n by omega), if_pos rfl, if_pos rfl, if_pos h3]; rfl, (by repeat (first | with_reducible exact Ext.refl _ | with_reducible assumption | with_reducible refine Ext.alloc ?_ _ | with_reducible refine Ext.drew ?_ | (with_reducible refine Ext.setAt ?_ _ _ _ ?_; rotate_left; omega) | with_reducible refine Ext.trans ?_ (by assumption) | with_reducible exact Past.bel _ | with_reducible refine Ext.trans ?_ (Past.bel _)))⟩
      · have hp := mul_nn (A := 2000) (B := 1000000000) h2'.1 h2'.2 (show 0 ≤ d by omega) b2
        obtain ⟨p0, p1⟩ := hp
        have t1 : (r * d).tdiv (100 * n) = r * d / (100 * n) := Int.tdiv_eq_ediv_of_nonneg p0
        have hq := ediv_bd (N := 2000000000000) (show 0 < 100 * n by omega) (show -2000000000000 ≤ r * d by omega) (by omega) (by omega)
        have hz : (100 * n == 0) = false := by simp; omega
        have hn1 : 1 ≤ n := by omega
        go_enter Try.func20, Try.ntmps20
        go_wp2_with (first | (go_at_call 61; ((with_reducible refine (l02Ok_c _ _ _).mono ?_); rintro e w' ⟨rfl, hx⟩; (first | (obtain ⟨wx, rfl⟩ := Past.again hx) | (obtain ⟨wx, rfl⟩ := Past.ofd hx) | (obtain ⟨wx, rfl⟩ := Past.of hx)))) | (go_at_call 57; ((with_reducible refine (l00In_c _ _ _ _).mono ?_); rintro e w' ⟨rfl, rfl⟩)))
        go_ret2
        exact ⟨by rw [dyV, dyC, dyB, h1, h2, decide_eq_true (show 0 < n by omega), if_pos rfl, if_pos rfl, if_neg (show ¬ n ≤ 0 by omega)]; rfl, (by repeat (first | with_reducible exact Ext.refl _ | with_reducible assumption | with_reducible refine Ext.alloc ?_ _ | with_reducible refine Ext.drew ?_ | (with_reducible refine Ext.setAt ?_ _ _ _ ?_; rotate_left; omega) | with_reducible refine Ext.trans ?_ (by assumption) | with_reducible exact Past.bel _ | with_reducible refine Ext.trans ?_ (Past.bel _)))⟩

end Go.Proofs.Ytglcjnplmhelhaa

namespace Go.Proofs.Ytglcjnplmhelhaa
open Go.RowKit
set_option linter.unusedVariables false
set_option linter.unusedSimpArgs false

theorem l02Part_c (n : Int) (w : World) (h0 : -1000000000 ≤ n) (h1 : n ≤ 1000000000) :
    Calls Try.prog 83 #[.int .i64 n] w fun e w' => e = .returned (.int .u64 (absI n)) ∧ w = w' := by
  by_cases h : n < 0
  · have e1 : IntKind.u64.wrap n = n + 18446744073709551616 := by rw [IntKind.wrap_u64]; omega
    have e2 : IntKind.u64.wrap (-(n + 18446744073709551616)) = -n := by rw [IntKind.wrap_u64]; omega
    have e3 : absI n = -n := by rw [absI, if_pos h]
    rw [e3]
    go_enter Try.func83, Try.ntmps83
    go_wp2
    go_ret
    exact ⟨rfl, rfl⟩
  · have e1 : IntKind.u64.wrap n = n := by rw [IntKind.wrap_u64]; omega
    have e3 : absI n = n := by rw [absI, if_neg h]
    rw [e3]
    go_enter Try.func83, Try.ntmps83
    go_wp2
    go_ret
    exact ⟨rfl, rfl⟩
def postRB (w : World) (e : Ending) (w' : World) : Prop := ∃ p q bb, e = .returned (.tuple #[.agg #[.int .i64 p, .int .i64 q], .bool bb]) ∧ Ext w w'
set_option maxHeartbeats 2000000 in
theorem l02Make_c (n d : Int) (w : World) (h0 : -1000000000 ≤ n) (h1 : n ≤ 1000000000) (d0 : 1 ≤ d) (d1 : d ≤ 1000000000) :
    Calls Try.prog 82 #[.int .i64 n, .int .i64 d] w (postRB w) := by
  obtain ⟨A, hA⟩ : ∃ A, A = absI n := ⟨_, rfl⟩
  have a0 : 0 ≤ A := by rw [hA]; unfold absI; split <;> omega
  have a1 : A ≤ 1000000000 := by rw [hA]; unfold absI; split <;> omega
  have hD : absI d = d := by unfold absI; split <;> omega
  have HA := Lib.hid (fun W => (hA ▸ l02Part_c n W h0 h1 : Calls Try.prog 83 #[.int .i64 n] W fun e w' => e = .returned (.int .u64 A) ∧ W = w'))
  have HD := Lib.hid (fun W => (show Calls Try.prog 83 #[.int .i64 d] W (fun e w' => e = .returned (.int .u64 d) ∧ W = w') from by have := l02Part_c d W (by omega) d1; rw [hD] at this; exact this))
  clear hA hD
  go_enter Try.func82, Try.ntmps82
  go_wp2_with fail
  refine (HA.out _).mono ?_
  rintro e w' ⟨rfl, rfl⟩
  go_wp2_with fail
  refine (HD.out _).mono ?_
  rintro e w' ⟨rfl, rfl⟩
  go_wp2_with fail
  go_loop [8, 9, 10] (fun x y r => ∃ p q : Int, x = .int .u64 p ∧ y = .int .u64 q ∧ 0 ≤ p ∧ p ≤ 1000000000 ∧ 0 ≤ q ∧ q ≤ 1000000000 ∧ 1 ≤ p + q) (fun _ y _ => (intOf y).toNat)
  case atStart => exact ⟨A, d, rfl, rfl, by omega, by omega, by omega, by omega, by omega⟩
  case round =>
    obtain ⟨p, q, rfl, rfl, p0, p1, q0, q1, hpq⟩ := hrel
    by_cases h : 0 < q
    · have r0 := Int.emod_nonneg p (show q ≠ 0 by omega)
      have r1 := Int.emod_lt_of_pos p h
      have hz : (q == 0) = false := by simp; omega
      go_wp2_with fail
      exact ⟨⟨q, p % q, rfl, by first | rfl | go_num, by omega, by omega, by omega, by omega, by omega⟩, by simp [intOf]; omega⟩
    · obtain rfl : q = 0 := by omega
      have hz : (p == 0) = false := by simp; omega
      have hp : 1 ≤ p := by omega
      have u0 := ediv_bd (N := 1000000000) (show 0 < p by omega) (show -1000000000 ≤ A by omega) a1 (by omega)
      have u1 := Int.ediv_nonneg a0 p0
      have v0 := ediv_bd (N := 1000000000) (show 0 < p by omega) (show -1000000000 ≤ d by omega) d1 (by omega)
      have v1 := Int.ediv_nonneg (show 0 ≤ d by omega) p0
      obtain ⟨U, hU⟩ : ∃ U, U = A / p := ⟨_, rfl⟩
      obtain ⟨V, hV⟩ : ∃ U, U = d / p := ⟨_, rfl⟩
      have hU' := hU.symm
      have hV' := hV.symm
      rw [← hU] at u0 u1
      rw [← hV] at v0 v1
      clear hU hV
      have hd0 : ¬ d < 0 := by omega
      have hd1 : decide (d < 0) = false := decide_eq_false hd0
      have hu0 : ¬ 1000000000 < U := by omega
      have hv0 : ¬ 1000000000 < V := by omega
      have hu1 : decide (1000000000 < U) = false := decide_eq_false hu0
      have hv1 : decide (1000000000 < V) = false := decide_eq_false hv0
      by_cases hn : n < 0
      · have hn1 : decide (n < 0) = true := decide_eq_true hn
        go_wp2_with fail
        refine bodyPost_ret (v := .tuple #[.agg #[.int .i64 (-U), .int .i64 V], .bool true]) (by simp [results, Try.results82, go_sem]) rfl ⟨-U, V, true, rfl, (by repeat (first | with_reducible exact Ext.refl _ | with_reducible assumption | with_reducible refine Ext.alloc ?_ _ | with_reducible refine Ext.drew ?_ | (with_reducible refine Ext.setAt ?_ _ _ _ ?_; rotate_left; omega) | with_reducible refine Ext.trans ?_ (by assumption) | with_reducible exact Past.bel _ | with_reducible refine Ext.trans ?_ (Past.bel _)))⟩
      · have hn1 : decide (n < 0) = false := decide_eq_false hn
        go_wp2_with fail
        refine bodyPost_ret (v := .tuple #[.agg #[.int .i64 U, .int .i64 V], .bool true]) (by simp [results, Try.results82, go_sem]) rfl ⟨U, V, true, rfl, (by repeat (first | with_reducible exact Ext.refl _ | with_reducible assumption | with_reducible refine Ext.alloc ?_ _ | with_reducible refine Ext.drew ?_ | (with_reducible refine Ext.setAt ?_ _ _ _ ?_; rotate_left; omega) | with_reducible refine Ext.trans ?_ (by assumption) | with_reducible exact Past.bel _ | with_reducible refine Ext.trans ?_ (Past.bel _)))⟩
/-- a source, and what has been kept of the world a draw began in -/
structure Rs (w0 w : World) (g : Nat) (a : Option Addr) (n c : Nat) (f : Nat → Nat) (K : Nat) : Prop where
  src : Src w g a n c f K
  gr : w0.grownBy w (some g)
  low : g < w0.heap.size
  cod : 0 < n → ∀ ad, a = some ad → ad.block < w0.heap.size
section
variable {w0 w w1 : World} {g : Nat} {a : Option Addr} {n c : Nat} {f : Nat → Nat} {K K' : Nat}
theorem Rs.le (h : Rs w0 w g a n c f K) (hl : K ≤ K') : Rs w0 w g a n c f K' := ⟨h.src.le hl, h.gr, h.low, h.cod⟩
theorem Rs.drawn (h : Rs w0 w g a n c f K) (hs : Src w1 g a n c f K') (hx : w.grownBy w1 (some g)) : Rs w0 w1 g a n c f K' := ⟨hs, grown_trans h.gr hx, h.low, h.cod⟩
theorem Rs.ext (h : Rs w0 w g a n c f K) (hx : Ext w w1) : Rs w0 w1 g a n c f K :=
  ⟨h.src.keep (ext_grown hx) (fun k hk => by cases hk) h.low h.cod h.gr.size, grown_trans h.gr (grown_weak (ext_grown hx)), h.low, h.cod⟩
theorem Rs.put (h : Rs w0 w g a n c f K) {b : Nat} (hb : w0.heap.size ≤ b) (i : Nat) (x : Value) : Rs w0 (w.setCell ⟨b, i, none⟩ x) g a n c f K := by
  have hx := grown_set (w := w) b i x
  refine ⟨h.src.keep hx (fun k hk => by injection hk with hk; omega) h.low h.cod h.gr.size, ⟨h.gr.os, h.gr.tape, h.gr.output, by simpa using h.gr.size, fun k hk hn => ?_⟩, h.low, h.cod⟩
  exact (hx.block k (Nat.lt_of_lt_of_le hk h.gr.size) (fun e => by injection e with e; omega)).trans (h.gr.block k hk hn)
theorem Rs.blk (h : Rs w0 w g a n c f K) {b : Nat} {T : TypeId} {cur : Array Value} (hB : Blk w0 b T cur) (hb : b ≠ g) : Blk w b T cur := (h.gr.block b hB.lt (fun e => hb (by injection e))).trans hB
theorem Rs.back (h : Rs w0 w g a n c f K) {wb : World} (hx : Ext wb w0) (hg : g < wb.heap.size) (hcd : 0 < n → ∀ ad, a = some ad → ad.block < wb.heap.size) : Rs wb w g a n c f K :=
  ⟨h.src, grown_trans (grown_weak (ext_grown hx)) h.gr, hg, hcd⟩
end
theorem Blk.cells2 {w : World} {g : Nat} {T : TypeId} {v u : Value} (h : Blk w g T #[v, u]) : (w.cell? ⟨g, 0, none⟩ = some v ∧ w.cell? ⟨g, 1, none⟩ = some u) ∧ w.frozen? ⟨g, 0, none⟩ = false ∧ w.frozen? ⟨g, 1, none⟩ = false :=
  ⟨⟨by rw [h.cell]; rfl, by rw [h.cell]; rfl⟩, h.frozen 0, h.frozen 1⟩
def postR (w0 : World) (g : Nat) (a : Option Addr) (n c : Nat) (f : Nat → Nat) (K : Nat) (e : Ending) (w' : World) : Prop := ∃ p q : Int, e = .returned (.agg #[.int .i64 p, .int .i64 q]) ∧ Rs w0 w' g a n c f K
set_option maxHeartbeats 4000000 in
theorem l02Draw_c (g : Nat) (a : Option Addr) (n c : Nat) (f : Nat → Nat) (K : Nat) (w : World) (hn : n ≤ 1048576) (hK : K ≤ 900000) (hd : Src w g a n c f K) (hg : g < w.heap.size) (hcd : 0 < n → ∀ ad, a = some ad → ad.block < w.heap.size) :
    Calls Try.prog 75 #[.pointer (some ⟨g, 0, none⟩)] w (postR w g a n c f (K + 10)) := by
  obtain ⟨W1, hW1⟩ : ∃ W1, W1 = w.alloc (.cells #[.int .i64 0, .int .i64 0] 37) := ⟨_, rfl⟩
  have r1 : Rs w W1 g a n c f K := by rw [hW1]; exact (Rs.ext ⟨hd, grown_refl _ _, hg, hcd⟩ (by repeat (first | with_reducible exact Ext.refl _ | with_reducible assumption | with_reducible refine Ext.alloc ?_ _ | with_reducible refine Ext.drew ?_ | (with_reducible refine Ext.setAt ?_ _ _ _ ?_; rotate_left; omega) | with_reducible refine Ext.trans ?_ (by assumption) | with_reducible exact Past.bel _ | with_reducible refine Ext.trans ?_ (Past.bel _))))
  have hz1 : W1.heap.size = w.heap.size + 1 := by rw [hW1]; simp
  have hr0 : Blk W1 w.heap.size 37 #[.int .i64 0, .int .i64 0] := by rw [hW1]; exact Blk.new _ _ _
  have s1 : Rs W1 W1 g a n c f K := ⟨r1.src, grown_refl _ _, by omega, fun h0 ad e => by have := hcd h0 ad e; omega⟩
  go_enter Try.func75, Try.ntmps75
  go_wp2_with fail
  rw [← hW1]
  refine (pick_c g a n c f K 100 _ hn (by omega) s1.src).mono ?_
  rintro e w1 ⟨x1, rfl, y1, y1', z1, hs1, hg1⟩
  have s2 := s1.drawn hs1 hg1
  go_wp2_with fail
  refine (pick_c g a n c f _ 30 _ hn (by omega) s2.src).mono ?_
  rintro e w2 ⟨x2, rfl, y2, y2', z2, hs2, hg2⟩
  have s3 := s2.drawn hs2 hg2
  go_wp2_with fail
  refine (pick_c g a n c f _ 8 _ hn (by omega) s3.src).mono ?_
  rintro e w3 ⟨x3, rfl, y3, y3', z3, hs3, hg3⟩
  have s4 := s3.drawn hs3 hg3
  have hz4 := s4.gr.size
  have S4 := Lib.hid s4
  clear s1 s2 s3 s4 hs1 hs2 hs3 hg1 hg2 hg3 r1
  have hend : ∀ (p q : Int) (K' : Nat) (W : World), K' ≤ K + 10 → -1000000000 ≤ p → p ≤ 1000000000 → 1 ≤ q → q ≤ 1000000000 → Rs W1 W g a n c f K' → Calls Try.prog 82 #[.int .i64 p, .int .i64 q] W fun e w' => ∃ u v bb, e = .returned (.tuple #[.agg #[.int .i64 u, .int .i64 v], .bool bb]) ∧ Rs W1 w' g a n c f (K + 10) := fun p q K' W hk p0 p1 q0 q1 hr =>
    (l02Make_c p q W p0 p1 q0 q1).mono fun e w' ⟨u, v, bb, he, hx⟩ => ⟨u, v, bb, he, (hr.ext hx).le hk⟩
  have HEND := Lib.hid hend
  clear hend
  by_cases d0 : x3 = 0
  · subst d0
    go_wp2_with fail
    obtain ⟨z, zz0, zz1, zz2, zz3, zz4, zz5⟩ : ∃ z : Nat → Int, z 0 = 1000000000 ∧ z 1 = -1000000000 ∧ z 2 = 999999937 ∧ z 3 = 0 ∧ z 4 = 1461 ∧ z 5 = 29530589 := ⟨(fun j => if j = 0 then 1000000000 else if j = 1 then -1000000000 else if j = 2 then 999999937 else if j = 3 then 0 else if j = 4 then 1461 else 29530589), rfl, rfl, rfl, rfl, rfl, rfl⟩
    refine (among_c g a n c f _ (some ⟨w3.heap.size, 0, none⟩) 6 6 z _ hn (by omega) (S4.out.ext (by repeat (first | with_reducible exact Ext.refl _ | with_reducible assumption | with_reducible refine Ext.alloc ?_ _ | with_reducible refine Ext.drew ?_ | (with_reducible refine Ext.setAt ?_ _ _ _ ?_; rotate_left; omega) | with_reducible refine Ext.trans ?_ (by assumption) | with_reducible exact Past.bel _ | with_reducible refine Ext.trans ?_ (Past.bel _)))).src (by omega) (by omega) (s1_of (by simp) (fun j hj => by (obtain rfl | rfl | rfl | rfl | rfl | rfl : j = 0 ∨ j = 1 ∨ j = 2 ∨ j = 3 ∨ j = 4 ∨ j = 5 := by omega) <;> simp [go_sem, zz0, zz1, zz2, zz3, zz4, zz5])) (fun ad e => by cases e; dsimp only; omega)).mono ?_
    rintro e w4 ⟨j, rfl, hj, hs4, hg4⟩
    have s5 := (S4.out.ext (w1 := w3.alloc _) (by repeat (first | with_reducible exact Ext.refl _ | with_reducible assumption | with_reducible refine Ext.alloc ?_ _ | with_reducible refine Ext.drew ?_ | (with_reducible refine Ext.setAt ?_ _ _ _ ?_; rotate_left; omega) | with_reducible refine Ext.trans ?_ (by assumption) | with_reducible exact Past.bel _ | with_reducible refine Ext.trans ?_ (Past.bel _)))).drawn hs4 hg4
    have zb : -1000000000 ≤ z j ∧ z j ≤ 1000000000 := by
      (obtain rfl | rfl | rfl | rfl | rfl | rfl : j = 0 ∨ j = 1 ∨ j = 2 ∨ j = 3 ∨ j = 4 ∨ j = 5 := by omega) <;> omega
    go_wp2_with fail
    refine (HEND.out (z j) (1 + x2) _ w4 (by omega) zb.1 zb.2 (by omega) (by omega) s5).mono ?_
    rintro e w5 ⟨u, v, bb, rfl, s6⟩
    obtain ⟨⟨k1, k2⟩, k3, k4⟩ := (s6.blk hr0 (by omega)).cells2
    have hz5 := s6.gr.size
    have k5 : w.heap.size < w5.heap.size := by omega
    have S6 := Lib.hid s6
    clear s5 s6 hs4 hg4
    go_wp2_with fail
    refine bodyPost_ret (v := .agg #[.int .i64 u, .int .i64 v]) (by simp [results, Try.results75, go_sem, k1, k2, k5]) rfl ⟨u, v, rfl, Rs.ext (((S6.out.back (by rw [hW1]; exact (by repeat (first | with_reducible exact Ext.refl _ | with_reducible assumption | with_reducible refine Ext.alloc ?_ _ | with_reducible refine Ext.drew ?_ | (with_reducible refine Ext.setAt ?_ _ _ _ ?_; rotate_left; omega) | with_reducible refine Ext.trans ?_ (by assumption) | with_reducible exact Past.bel _ | with_reducible refine Ext.trans ?_ (Past.bel _)))) hg hcd).put (Nat.le_refl _) _ _).put (Nat.le_refl _) _ _) (by repeat (first | with_reducible exact Ext.refl _ | with_reducible assumption | with_reducible refine Ext.alloc ?_ _ | with_reducible refine Ext.drew ?_ | (with_reducible refine Ext.setAt ?_ _ _ _ ?_; rotate_left; omega) | with_reducible refine Ext.trans ?_ (by assumption) | with_reducible exact Past.bel _ | with_reducible refine Ext.trans ?_ (Past.bel _)))⟩
  · by_cases d1 : x3 = 1
    · subst d1
      go_wp2_with fail
      obtain ⟨z, zz0, zz1, zz2, zz3⟩ : ∃ z : Nat → Int, z 0 = 1000000000 ∧ z 1 = 999999937 ∧ z 2 = 4 ∧ z 3 = 1000000 := ⟨(fun j => if j = 0 then 1000000000 else if j = 1 then 999999937 else if j = 2 then 4 else 1000000), rfl, rfl, rfl, rfl⟩
      refine (among_c g a n c f _ (some ⟨w3.heap.size, 0, none⟩) 4 4 z _ hn (by omega) (S4.out.ext (by repeat (first | with_reducible exact Ext.refl _ | with_reducible assumption | with_reducible refine Ext.alloc ?_ _ | with_reducible refine Ext.drew ?_ | (with_reducible refine Ext.setAt ?_ _ _ _ ?_; rotate_left; omega) | with_reducible refine Ext.trans ?_ (by assumption) | with_reducible exact Past.bel _ | with_reducible refine Ext.trans ?_ (Past.bel _)))).src (by omega) (by omega) (s1_of (by simp) (fun j hj => by (obtain rfl | rfl | rfl | rfl : j = 0 ∨ j = 1 ∨ j = 2 ∨ j = 3 := by omega) <;> simp [go_sem, zz0, zz1, zz2, zz3])) (fun ad e => by cases e; dsimp only; omega)).mono ?_
      rintro e w4 ⟨j, rfl, hj, hs4, hg4⟩
      have s5 := (S4.out.ext (w1 := w3.alloc _) (by repeat (first | with_reducible exact Ext.refl _ | with_reducible assumption | with_reducible refine Ext.alloc ?_ _ | with_reducible refine Ext.drew ?_ | (with_reducible refine Ext.setAt ?_ _ _ _ ?_; rotate_left; omega) | with_reducible refine Ext.trans ?_ (by assumption) | with_reducible exact Past.bel _ | with_reducible refine Ext.trans ?_ (Past.bel _)))).drawn hs4 hg4
      have zb : 1 ≤ z j ∧ z j ≤ 1000000000 := by
        (obtain rfl | rfl | rfl | rfl : j = 0 ∨ j = 1 ∨ j = 2 ∨ j = 3 := by omega) <;> omega
      go_wp2_with fail
      refine (HEND.out (x1 - 40) (z j) _ w4 (by omega) (by omega) (by omega) zb.1 zb.2 s5).mono ?_
      rintro e w5 ⟨u, v, bb, rfl, s6⟩
      obtain ⟨⟨k1, k2⟩, k3, k4⟩ := (s6.blk hr0 (by omega)).cells2
      have hz5 := s6.gr.size
      have k5 : w.heap.size < w5.heap.size := by omega
      have S6 := Lib.hid s6
      clear s5 s6 hs4 hg4
      go_wp2_with fail
      refine bodyPost_ret (v := .agg #[.int .i64 u, .int .i64 v]) (by simp [results, Try.results75, go_sem, k1, k2, k5]) rfl ⟨u, v, rfl, Rs.ext (((S6.out.back (by rw [hW1]; exact (by repeat (first | with_reducible exact Ext.refl _ | with_reducible assumption | with_reducible refine Ext.alloc ?_ _ | with_reducible refine Ext.drew ?_ | (with_reducible refine Ext.setAt ?_ _ _ _ ?_; rotate_left; omega) | with_reducible refine Ext.trans ?_ (by assumption) | with_reducible exact Past.bel _ | with_reducible refine Ext.trans ?_ (Past.bel _)))) hg hcd).put (Nat.le_refl _) _ _).put (Nat.le_refl _) _ _) (by repeat (first | with_reducible exact Ext.refl _ | with_reducible assumption | with_reducible refine Ext.alloc ?_ _ | with_reducible refine Ext.drew ?_ | (with_reducible refine Ext.setAt ?_ _ _ _ ?_; rotate_left; omega) | with_reducible refine Ext.trans ?_ (by assumption) | with_reducible exact Past.bel _ | with_reducible refine Ext.trans ?_ (Past.bel _)))⟩
    · have f0 : (x3 == 0) = false := by simpa using d0
      have f1 : (x3 == 1) = false := by simpa using d1
      go_wp2_with fail
      refine (HEND.out (x1 - 40) (1 + x2) _ w3 (by omega) (by omega) (by omega) (by omega) (by omega) S4.out).mono ?_
      rintro e w5 ⟨u, v, bb, rfl, s6⟩
      obtain ⟨⟨k1, k2⟩, k3, k4⟩ := (s6.blk hr0 (by omega)).cells2
      have hz5 := s6.gr.size
      have k5 : w.heap.size < w5.heap.size := by omega
      have S6 := Lib.hid s6
      clear s6
      go_wp2_with fail
      refine bodyPost_ret (v := .agg #[.int .i64 u, .int .i64 v]) (by simp [results, Try.results75, go_sem, k1, k2, k5]) rfl ⟨u, v, rfl, Rs.ext (((S6.out.back (by rw [hW1]; exact (by repeat (first | with_reducible exact Ext.refl _ | with_reducible assumption | with_reducible refine Ext.alloc ?_ _ | with_reducible refine Ext.drew ?_ | (with_reducible refine Ext.setAt ?_ _ _ _ ?_; rotate_left; omega) | with_reducible refine Ext.trans ?_ (by assumption) | with_reducible exact Past.bel _ | with_reducible refine Ext.trans ?_ (Past.bel _)))) hg hcd).put (Nat.le_refl _) _ _).put (Nat.le_refl _) _ _) (by repeat (first | with_reducible exact Ext.refl _ | with_reducible assumption | with_reducible refine Ext.alloc ?_ _ | with_reducible refine Ext.drew ?_ | (with_reducible refine Ext.setAt ?_ _ _ _ ?_; rotate_left; omega) | with_reducible refine Ext.trans ?_ (by assumption) | with_reducible exact Past.bel _ | with_reducible refine Ext.trans ?_ (Past.bel _)))⟩
end Go.Proofs.Ytglcjnplmhelhaa

namespace Go.Proofs.Ytglcjnplmhelhaa
open Go.RowKit
set_option linter.unusedVariables false
set_option linter.unusedSimpArgs false

theorem Blk.set0 {w : World} {g : Nat} {T : TypeId} {v u : Value} (h : Blk w g T #[v, u]) (x : Value) : Blk (w.setCell ⟨g, 0, none⟩ x) g T #[x, u] := by have := h.set 0 x; simpa using this
theorem Blk.set1 {w : World} {g : Nat} {T : TypeId} {v u : Value} (h : Blk w g T #[v, u]) (x : Value) : Blk (w.setCell ⟨g, 1, none⟩ x) g T #[v, x] := by have := h.set 1 x; simpa using this
set_option maxHeartbeats 4000000 in
theorem l02Bent_c (g : Nat) (a : Option Addr) (n c : Nat) (f : Nat → Nat) (K : Nat) (w : World) (hn : n ≤ 1048576) (hK : K ≤ 800000) (hd : Src w g a n c f K) (hg : g < w.heap.size) (hcd : 0 < n → ∀ ad, a = some ad → ad.block < w.heap.size) :
    Calls Try.prog 58 #[.pointer (some ⟨g, 0, none⟩)] w (postR w g a n c f (K + 20)) := by
  obtain ⟨W1, hW1⟩ : ∃ W1, W1 = w.alloc (.cells #[.int .i64 0, .int .i64 0] 37) := ⟨_, rfl⟩
  have hx1 : Ext w W1 := by rw [hW1]; exact (by repeat (first | with_reducible exact Ext.refl _ | with_reducible assumption | with_reducible refine Ext.alloc ?_ _ | with_reducible refine Ext.drew ?_ | (with_reducible refine Ext.setAt ?_ _ _ _ ?_; rotate_left; omega) | with_reducible refine Ext.trans ?_ (by assumption) | with_reducible exact Past.bel _ | with_reducible refine Ext.trans ?_ (Past.bel _)))
  have r1 : Rs w W1 g a n c f K := Rs.ext ⟨hd, grown_refl _ _, hg, hcd⟩ hx1
  have hz1 : W1.heap.size = w.heap.size + 1 := by rw [hW1]; simp
  have hr0 : Blk W1 w.heap.size 37 #[.int .i64 0, .int .i64 0] := by rw [hW1]; exact Blk.new _ _ _
  have hcd1 : 0 < n → ∀ ad, a = some ad → ad.block < W1.heap.size := fun h0 ad e => by have := hcd h0 ad e; omega
  go_enter Try.func58, Try.ntmps58
  go_wp2_with fail
  rw [← hW1]
  refine (l02Draw_c g a n c f K W1 hn (by omega) r1.src (by omega) hcd1).mono ?_
  rintro e w1 ⟨p, q, rfl, s1⟩
  have hz2 := s1.gr.size
  have s2 := s1.ext (w1 := w1.alloc (.cells #[.int .i64 p, .int .i64 q] 37)) (by repeat (first | with_reducible exact Ext.refl _ | with_reducible assumption | with_reducible refine Ext.alloc ?_ _ | with_reducible refine Ext.drew ?_ | (with_reducible refine Ext.setAt ?_ _ _ _ ?_; rotate_left; omega) | with_reducible refine Ext.trans ?_ (by assumption) | with_reducible exact Past.bel _ | with_reducible refine Ext.trans ?_ (Past.bel _)))
  have hl2 : Blk (w1.alloc (.cells #[.int .i64 p, .int .i64 q] 37)) w1.heap.size 37 #[.int .i64 p, .int .i64 q] := Blk.new _ _ _
  go_wp2_with fail
  refine (pick_c g a n c f _ 24 _ hn (by omega) s2.src).mono ?_
  rintro e w3 ⟨x3, rfl, y3, y3', z3, hs3, hg3⟩
  have s3 := s2.drawn hs3 hg3
  have hl3 : Blk w3 w1.heap.size 37 #[.int .i64 p, .int .i64 q] := (hg3.block _ hl2.lt (fun e => by injection e with e; omega)).trans hl2
  have hz3 := s3.gr.size
  have hlt3 := hl3.lt
  obtain ⟨⟨m1, m2⟩, m3, m4⟩ := hl3.cells2
  obtain ⟨⟨k1, k2⟩, k3, k4⟩ := (s3.blk hr0 (by omega)).cells2
  have k5 : ¬ w1.heap.size = w.heap.size := by omega
  have k6 : ¬ w.heap.size = w1.heap.size := by omega
  have S3 := Lib.hid s3
  have HB := Lib.hid (fun (w' : World) (hq : w3.grownBy w' (some g)) => (show (Blk w' w1.heap.size 37 #[.int .i64 p, .int .i64 q] ∧ Blk w' w.heap.size 37 #[.int .i64 0, .int .i64 0]) from ⟨(hq.block _ hl3.lt (fun e => by injection e with e; omega)).trans hl3, (hq.block _ (s3.blk hr0 (by omega)).lt (fun e => by injection e with e; omega)).trans (s3.blk hr0 (by omega))⟩))
  clear s1 s2 s3 hl2 hl3 hs3 hg3
  by_cases d0 : x3 = 0
  · subst d0
    go_wp2_with fail
    obtain ⟨z, zz0, zz1, zz2⟩ : ∃ z : Nat → Int, z 0 = 0 ∧ z 1 = -1 ∧ z 2 = 1000000001 := ⟨(fun j => if j = 0 then 0 else if j = 1 then -1 else 1000000001), rfl, rfl, rfl⟩
    refine (among_c g a n c f _ (some ⟨w3.heap.size, 0, none⟩) 3 3 z _ hn (by omega) (S3.out.ext (by repeat (first | with_reducible exact Ext.refl _ | with_reducible assumption | with_reducible refine Ext.alloc ?_ _ | with_reducible refine Ext.drew ?_ | (with_reducible refine Ext.setAt ?_ _ _ _ ?_; rotate_left; omega) | with_reducible refine Ext.trans ?_ (by assumption) | with_reducible exact Past.bel _ | with_reducible refine Ext.trans ?_ (Past.bel _)))).src (by omega) (by omega) (s1_of (by simp) (fun j hj => by (obtain rfl | rfl | rfl : j = 0 ∨ j = 1 ∨ j = 2 := by omega) <;> simp [go_sem, zz0, zz1, zz2])) (fun ad e => by cases e; dsimp only; omega)).mono ?_
    rintro e w4 ⟨j, rfl, hj, hs4, hg4⟩
    have S4 := Lib.hid ((S3.out.ext (w1 := w3.alloc _) (by repeat (first | with_reducible exact Ext.refl _ | with_reducible assumption | with_reducible refine Ext.alloc ?_ _ | with_reducible refine Ext.drew ?_ | (with_reducible refine Ext.setAt ?_ _ _ _ ?_; rotate_left; omega) | with_reducible refine Ext.trans ?_ (by assumption) | with_reducible exact Past.bel _ | with_reducible refine Ext.trans ?_ (Past.bel _)))).drawn hs4 hg4)
    obtain ⟨⟨⟨m1, m2⟩, m3, m4⟩, ⟨k1, k2⟩, k3, k4⟩ := (HB.out w4 (by repeat (first | with_reducible exact grown_refl _ _ | with_reducible assumption | with_reducible refine grown_alloc ?_ _ | with_reducible refine grown_drew ?_ | with_reducible refine grown_trans ?_ (by assumption)))).imp Blk.cells2 Blk.cells2
    clear hs4 hg4
    go_wp2_with fail
    refine bodyPost_ret (v := .agg #[.int .i64 p, .int .i64 (z j)]) (by simp [results, Try.results58, go_sem, k1, k2, k5, k6]) rfl ⟨p, z j, rfl, Rs.le (((Rs.put (S4.out.back hx1 hg hcd) (b := w1.heap.size) (by omega) _ _).put (Nat.le_refl _) _ _).put (Nat.le_refl _) _ _) (by omega)⟩
  · by_cases d1 : x3 = 1
    · subst d1
      go_wp2_with fail
      obtain ⟨z, zz0, zz1, zz2⟩ : ∃ z : Nat → Int, z 0 = 1000000001 ∧ z 1 = -1000000001 ∧ z 2 = -9223372036854775808 := ⟨(fun j => if j = 0 then 1000000001 else if j = 1 then -1000000001 else -9223372036854775808), rfl, rfl, rfl⟩
      refine (among_c g a n c f _ (some ⟨w3.heap.size, 0, none⟩) 3 3 z _ hn (by omega) (S3.out.ext (by repeat (first | with_reducible exact Ext.refl _ | with_reducible assumption | with_reducible refine Ext.alloc ?_ _ | with_reducible refine Ext.drew ?_ | (with_reducible refine Ext.setAt ?_ _ _ _ ?_; rotate_left; omega) | with_reducible refine Ext.trans ?_ (by assumption) | with_reducible exact Past.bel _ | with_reducible refine Ext.trans ?_ (Past.bel _)))).src (by omega) (by omega) (s1_of (by simp) (fun j hj => by (obtain rfl | rfl | rfl : j = 0 ∨ j = 1 ∨ j = 2 := by omega) <;> simp [go_sem, zz0, zz1, zz2])) (fun ad e => by cases e; dsimp only; omega)).mono ?_
      rintro e w4 ⟨j, rfl, hj, hs4, hg4⟩
      have S4 := Lib.hid ((S3.out.ext (w1 := w3.alloc _) (by repeat (first | with_reducible exact Ext.refl _ | with_reducible assumption | with_reducible refine Ext.alloc ?_ _ | with_reducible refine Ext.drew ?_ | (with_reducible refine Ext.setAt ?_ _ _ _ ?_; rotate_left; omega) | with_reducible refine Ext.trans ?_ (by assumption) | with_reducible exact Past.bel _ | with_reducible refine Ext.trans ?_ (Past.bel _)))).drawn hs4 hg4)
      obtain ⟨⟨⟨m1, m2⟩, m3, m4⟩, ⟨k1, k2⟩, k3, k4⟩ := (HB.out w4 (by repeat (first | with_reducible exact grown_refl _ _ | with_reducible assumption | with_reducible refine grown_alloc ?_ _ | with_reducible refine grown_drew ?_ | with_reducible refine grown_trans ?_ (by assumption)))).imp Blk.cells2 Blk.cells2
      clear hs4 hg4
      go_wp2_with fail
      refine bodyPost_ret (v := .agg #[.int .i64 (z j), .int .i64 q]) (by simp [results, Try.results58, go_sem, k1, k2, k5, k6]) rfl ⟨z j, q, rfl, Rs.le (((Rs.put (S4.out.back hx1 hg hcd) (b := w1.heap.size) (by omega) _ _).put (Nat.le_refl _) _ _).put (Nat.le_refl _) _ _) (by omega)⟩
    · by_cases d2 : x3 = 2
      · subst d2
        go_wp2_with fail
        refine bodyPost_ret (v := .agg #[.int .i64 2, .int .i64 4]) (by simp [results, Try.results58, go_sem, k1, k2, k5, k6]) rfl ⟨2, 4, rfl, Rs.le ((((Rs.put (S3.out.back hx1 hg hcd) (b := w1.heap.size) (by omega) _ _).put (b := w1.heap.size) (by omega) _ _).put (Nat.le_refl _) _ _).put (Nat.le_refl _) _ _) (by omega)⟩
      · by_cases d3 : x3 = 3
        · subst d3
          go_wp2_with fail
          obtain ⟨z, zz0, zz1⟩ : ∃ z : Nat → Int, z 0 = 1 ∧ z 1 = 2 := ⟨(fun j => if j = 0 then 1 else 2), rfl, rfl⟩
          refine (among_c g a n c f _ (some ⟨w3.heap.size, 0, none⟩) 2 2 z _ hn (by omega) (S3.out.ext (by repeat (first | with_reducible exact Ext.refl _ | with_reducible assumption | with_reducible refine Ext.alloc ?_ _ | with_reducible refine Ext.drew ?_ | (with_reducible refine Ext.setAt ?_ _ _ _ ?_; rotate_left; omega) | with_reducible refine Ext.trans ?_ (by assumption) | with_reducible exact Past.bel _ | with_reducible refine Ext.trans ?_ (Past.bel _)))).src (by omega) (by omega) (s1_of (by simp) (fun j hj => by (obtain rfl | rfl : j = 0 ∨ j = 1 := by omega) <;> simp [go_sem, zz0, zz1])) (fun ad e => by cases e; dsimp only; omega)).mono ?_
          rintro e w4 ⟨j, rfl, hj, hs4, hg4⟩
          have S4 := Lib.hid ((S3.out.ext (w1 := w3.alloc _) (by repeat (first | with_reducible exact Ext.refl _ | with_reducible assumption | with_reducible refine Ext.alloc ?_ _ | with_reducible refine Ext.drew ?_ | (with_reducible refine Ext.setAt ?_ _ _ _ ?_; rotate_left; omega) | with_reducible refine Ext.trans ?_ (by assumption) | with_reducible exact Past.bel _ | with_reducible refine Ext.trans ?_ (Past.bel _)))).drawn hs4 hg4)
          obtain ⟨⟨⟨m1, m2⟩, m3, m4⟩, ⟨k1, k2⟩, k3, k4⟩ := (HB.out w4 (by repeat (first | with_reducible exact grown_refl _ _ | with_reducible assumption | with_reducible refine grown_alloc ?_ _ | with_reducible refine grown_drew ?_ | with_reducible refine grown_trans ?_ (by assumption)))).imp Blk.cells2 Blk.cells2
          clear hs4 hg4
          go_wp2_with fail
          refine bodyPost_ret (v := .agg #[.int .i64 0, .int .i64 (z j)]) (by simp [results, Try.results58, go_sem, k1, k2, k5, k6]) rfl ⟨0, z j, rfl, Rs.le ((((Rs.put (S4.out.back hx1 hg hcd) (b := w1.heap.size) (by omega) _ _).put (b := w1.heap.size) (by omega) _ _).put (Nat.le_refl _) _ _).put (Nat.le_refl _) _ _) (by omega)⟩
        · have e0 : (x3 == 0) = false := by simpa using d0
          have e1 : (x3 == 1) = false := by simpa using d1
          have e2 : (x3 == 2) = false := by simpa using d2
          have e3 : (x3 == 3) = false := by simpa using d3
          go_wp2_with fail
          refine bodyPost_ret (v := .agg #[.int .i64 p, .int .i64 q]) (by simp [results, Try.results58, go_sem, k1, k2, k5, k6]) rfl ⟨p, q, rfl, Rs.le (((S3.out.back hx1 hg hcd).put (Nat.le_refl _) _ _).put (Nat.le_refl _) _ _) (by omega)⟩
def postDays (w : World) (e : Ending) (w' : World) : Prop := ∃ r p q : Int, e = .returned (.tuple #[.int .i64 r, .agg #[.int .i64 p, .int .i64 q]]) ∧ Ext w w'
theorem U8.low2 {w : World} {a : Option Addr} {n : Nat} {f : Nat → Nat} (hs : U8 w a n f) : 0 < n → ∀ ad, a = some ad → ad.block < w.heap.size := fun h0 ad e => by
  obtain ⟨b, o, e2, hb, _⟩ := hs.at h0
  have e3 : some ad = some (⟨b, o, none⟩ : Addr) := e.symm.trans e2
  rw [Option.some.inj e3]; exact hb
theorem Rs.toExt {w0 w wb : World} {g : Nat} {a : Option Addr} {n c : Nat} {f : Nat → Nat} {K : Nat} (h : Rs w0 w g a n c f K) (hx : Ext wb w0) (hg : wb.heap.size ≤ g) : Ext wb w := hx.grown h.gr (fun k hk => by injection hk with hk; omega)
set_option maxHeartbeats 2000000 in
theorem drawDays_c (a : Option Addr) (n c : Nat) (f : Nat → Nat) (w : World) (hn : n ≤ 1048576) (hs : U8 w a n f) (hl : ∀ j, j < n → f j ≤ 255) :
    Calls Try.prog 18 #[.slice a n c] w (postDays w) := by
  obtain ⟨W1, hW1⟩ : ∃ W1, W1 = w.alloc (.cells #[.int .i64 0, .int .i64 0] 37) := ⟨_, rfl⟩
  have hx1 : Ext w W1 := by rw [hW1]; exact (by repeat (first | with_reducible exact Ext.refl _ | with_reducible assumption | with_reducible refine Ext.alloc ?_ _ | with_reducible refine Ext.drew ?_ | (with_reducible refine Ext.setAt ?_ _ _ _ ?_; rotate_left; omega) | with_reducible refine Ext.trans ?_ (by assumption) | with_reducible exact Past.bel _ | with_reducible refine Ext.trans ?_ (Past.bel _)))
  have hz1 : W1.heap.size = w.heap.size + 1 := by rw [hW1]; simp
  have hr0 : Blk W1 w.heap.size 37 #[.int .i64 0, .int .i64 0] := by rw [hW1]; exact Blk.new _ _ _
  go_enter Try.func18, Try.ntmps18
  go_wp2_with fail
  rw [← hW1]
  have hfr := l00From_c a n c f W1 (hs.ext hx1) hl (fun h0 ad e => by have := hs.low2 h0 ad e; omega)
  rw [hz1] at hfr
  refine hfr.mono ?_
  rintro e w1 ⟨rfl, hs1, hx2⟩
  have hg1 : w.heap.size + 1 < w1.heap.size := by obtain ⟨i, hh, hb, _⟩ := hs1.blk; exact hb.lt
  have hcd1 : 0 < n → ∀ ad, a = some ad → ad.block < w1.heap.size := fun h0 ad e => by have := hs.low2 h0 ad e; omega
  have hx01 := Ext.trans hx1 hx2
  have s1 : Rs w1 w1 (w.heap.size + 1) a n c f 0 := ⟨hs1, grown_refl _ _, hg1, hcd1⟩
  have hr1 := hr0.ext hx2
  clear hfr hs1
  go_wp2_with fail
  refine (pick_c _ a n c f _ 2002 _ hn (by omega) s1.src).mono ?_
  rintro e w2 ⟨x2, rfl, y2, y2', z2, hs2, hg2⟩
  have s2 := s1.drawn hs2 hg2
  go_wp2_with fail
  refine (pick_c _ a n c f _ 20 _ hn (by omega) s2.src).mono ?_
  rintro e w3 ⟨x3, rfl, y3, y3', z3, hs3, hg3⟩
  have s3 := s2.drawn hs3 hg3
  have t1 : x3.tdiv 19 = x3 / 19 := Int.tdiv_eq_ediv_of_nonneg y3
  obtain ⟨R, hR⟩ : ∃ R, R = x3 / 19 := ⟨_, rfl⟩
  have r0 : 0 ≤ R := by omega
  have r1 : R ≤ 2 := by omega
  rw [← hR] at t1
  have hR' := hR.symm
  clear hR hs2 hg2 hs3 hg3
  have hz3 := s3.gr.size
  go_wp2_with fail
  refine (l02Bent_c _ a n c f _ w3 hn (by omega) s3.src (by omega) (fun h0 ad e => by have := hcd1 h0 ad e; omega)).mono ?_
  rintro e w4 ⟨p, q, rfl, s4'⟩
  have s4 : Rs w1 w4 (w.heap.size + 1) a n c f _ := ⟨s4'.src, grown_trans s3.gr s4'.gr, hg1, hcd1⟩
  have s5 := s4.ext (w1 := w4.alloc (.cells #[.int .i64 p, .int .i64 q] 37)) (by repeat (first | with_reducible exact Ext.refl _ | with_reducible assumption | with_reducible refine Ext.alloc ?_ _ | with_reducible refine Ext.drew ?_ | (with_reducible refine Ext.setAt ?_ _ _ _ ?_; rotate_left; omega) | with_reducible refine Ext.trans ?_ (by assumption) | with_reducible exact Past.bel _ | with_reducible refine Ext.trans ?_ (Past.bel _)))
  have hz4 := s4.gr.size
  have hl5 : Blk (w4.alloc (.cells #[.int .i64 p, .int .i64 q] 37)) w4.heap.size 37 #[.int .i64 p, .int .i64 q] := Blk.new _ _ _
  clear s1 s2 s3 s4 s4'
  go_wp2_with fail
  refine (one_c _ a n c f _ 2 _ hn (by omega) s5.src).mono ?_
  rintro e w6 ⟨b, rfl, hs6, hg6⟩
  have s6 := s5.drawn hs6 hg6
  have hl6 : Blk w6 w4.heap.size 37 #[.int .i64 p, .int .i64 q] := (hg6.block _ hl5.lt (fun e => by injection e with e; omega)).trans hl5
  have S6 := Lib.hid s6
  have HL6 := Lib.hid hl6
  have k5 : ¬ w4.heap.size = w.heap.size := by omega
  have k6 : ¬ w.heap.size = w4.heap.size := by omega
  clear s5 hl5 hs6 hg6
  cases b
  · obtain ⟨⟨m1, m2⟩, m3, m4⟩ := hl6.cells2
    obtain ⟨⟨k1, k2⟩, k3, k4⟩ := (s6.blk hr1 (by omega)).cells2
    clear s6 hl6
    go_wp2_with fail
    go_region
    all_goals
      go_wp2_with fail
      refine bodyPost_ret (v := .tuple #[.int .i64 (x2 - R), .agg #[.int .i64 p, .int .i64 q]]) (by simp [results, Try.results18, go_sem, k1, k2, k5, k6]) rfl ⟨x2 - R, p, q, rfl, ?_⟩
      exact Ext.setAt (Ext.setAt (Ext.drew (S6.out.toExt hx01 (by omega))) _ _ _ (Nat.le_refl _)) _ _ _ (Nat.le_refl _)
  · clear s6 hl6
    go_wp2_with fail
    refine (pick_c _ a n c f _ 4 _ hn (by omega) S6.out.src).mono ?_
    rintro e w7 ⟨x7, rfl, y7, y7', z7, hs7, hg7⟩
    have s7 := S6.out.drawn hs7 hg7
    have hl7 : Blk w7 w4.heap.size 37 #[.int .i64 p, .int .i64 q] := (hg7.block _ HL6.out.lt (fun e => by injection e with e; omega)).trans HL6.out
    obtain ⟨⟨m1, m2⟩, m3, m4⟩ := hl7.cells2
    obtain ⟨⟨k1, k2⟩, k3, k4⟩ := (s7.blk hr1 (by omega)).cells2
    have S7 := Lib.hid s7
    clear s7 hl7 hs7 hg7
    go_wp2_with fail
    go_region
    all_goals
      go_wp2_with fail
      refine bodyPost_ret (v := .tuple #[.int .i64 (x2 - R), .agg #[.int .i64 (1 + x7), .int .i64 1]]) (by simp [results, Try.results18, go_sem, k1, k2, k5, k6]) rfl ⟨x2 - R, 1 + x7, 1, rfl, ?_⟩
      exact Ext.drew (Ext.setAt (Ext.setAt (Ext.setAt (Ext.setAt (S7.out.toExt hx01 (by omega)) _ _ _ (by omega)) _ _ _ (by omega)) _ _ _ (Nat.le_refl _)) _ _ _ (Nat.le_refl _))
def postW (w : World) (e : Ending) (w' : World) : Prop := ∃ m r : Int, e = .returned (.tuple #[.int .i64 m, .int .i64 r]) ∧ Ext w w'
set_option maxHeartbeats 2000000 in
theorem drawWeight_c (a : Option Addr) (n c : Nat) (f : Nat → Nat) (w : World) (hn : n ≤ 1048576) (hs : U8 w a n f) (hl : ∀ j, j < n → f j ≤ 255) :
    Calls Try.prog 15 #[.slice a n c] w (postW w) := by
  go_enter Try.func15, Try.ntmps15
  go_wp2_with fail
  refine (l00From_c a n c f w hs hl hs.low2).mono ?_
  rintro e w1 ⟨rfl, hs1, hx2⟩
  have hg1 : w.heap.size < w1.heap.size := by obtain ⟨i, hh, hb, _⟩ := hs1.blk; exact hb.lt
  have s1 : Rs w1 w1 w.heap.size a n c f 0 := ⟨hs1, grown_refl _ _, hg1, fun h0 ad e => by have := hs.low2 h0 ad e; omega⟩
  clear hs1
  go_wp2_with fail
  refine (pick_c _ a n c f _ 60000 _ hn (by omega) s1.src).mono ?_
  rintro e w2 ⟨x2, rfl, y2, y2', z2, hs2, hg2⟩
  have s2 := s1.drawn hs2 hg2
  go_wp2_with fail
  refine (pick_c _ a n c f _ 400 _ hn (by omega) s2.src).mono ?_
  rintro e w3 ⟨x3, rfl, y3, y3', z3, hs3, hg3⟩
  have s3 := s2.drawn hs3 hg3
  go_wp2_with fail
  refine (pick_c _ a n c f _ 12 _ hn (by omega) s3.src).mono ?_
  rintro e w4 ⟨x4, rfl, y4, y4', z4, hs4, hg4⟩
  have S4 := Lib.hid (s3.drawn hs4 hg4)
  have hz4 := S4.out.gr.size
  clear s1 s2 s3 hs2 hs3 hs4 hg2 hg3 hg4
  by_cases d0 : x4 = 0
  · subst d0
    go_wp2_with fail
    obtain ⟨z, zz0, zz1, zz2, zz3⟩ : ∃ z : Nat → Int, z 0 = -1 ∧ z 1 = 0 ∧ z 2 = 1000000000 ∧ z 3 = 1000000001 := ⟨(fun j => if j = 0 then -1 else if j = 1 then 0 else if j = 2 then 1000000000 else 1000000001), rfl, rfl, rfl, rfl⟩
    refine (among_c _ a n c f _ (some ⟨w4.heap.size, 0, none⟩) 4 4 z _ hn (by omega) (S4.out.ext (by repeat (first | with_reducible exact Ext.refl _ | with_reducible assumption | with_reducible refine Ext.alloc ?_ _ | with_reducible refine Ext.drew ?_ | (with_reducible refine Ext.setAt ?_ _ _ _ ?_; rotate_left; omega) | with_reducible refine Ext.trans ?_ (by assumption) | with_reducible exact Past.bel _ | with_reducible refine Ext.trans ?_ (Past.bel _)))).src (by omega) (by omega) (s1_of (by simp) (fun j hj => by (obtain rfl | rfl | rfl | rfl : j = 0 ∨ j = 1 ∨ j = 2 ∨ j = 3 := by omega) <;> simp [go_sem, zz0, zz1, zz2, zz3])) (fun ad e => by cases e; dsimp only; omega)).mono ?_
    rintro e w5 ⟨j, rfl, hj, hs5, hg5⟩
    have S5 := Lib.hid ((S4.out.ext (w1 := w4.alloc _) (by repeat (first | with_reducible exact Ext.refl _ | with_reducible assumption | with_reducible refine Ext.alloc ?_ _ | with_reducible refine Ext.drew ?_ | (with_reducible refine Ext.setAt ?_ _ _ _ ?_; rotate_left; omega) | with_reducible refine Ext.trans ?_ (by assumption) | with_reducible exact Past.bel _ | with_reducible refine Ext.trans ?_ (Past.bel _)))).drawn hs5 hg5)
    clear hs5 hg5
    go_wp2_with fail
    go_ret2
    exact ⟨z j, 1 + x3, rfl, S5.out.toExt hx2 (Nat.le_refl _)⟩
  · by_cases d1 : x4 = 1
    · subst d1
      go_wp2_with fail
      obtain ⟨z, zz0, zz1, zz2, zz3⟩ : ∃ z : Nat → Int, z 0 = 0 ∧ z 1 = 1 ∧ z 2 = 10000 ∧ z 3 = 10001 := ⟨(fun j => if j = 0 then 0 else if j = 1 then 1 else if j = 2 then 10000 else 10001), rfl, rfl, rfl, rfl⟩
      refine (among_c _ a n c f _ (some ⟨w4.heap.size, 0, none⟩) 4 4 z _ hn (by omega) (S4.out.ext (by repeat (first | with_reducible exact Ext.refl _ | with_reducible assumption | with_reducible refine Ext.alloc ?_ _ | with_reducible refine Ext.drew ?_ | (with_reducible refine Ext.setAt ?_ _ _ _ ?_; rotate_left; omega) | with_reducible refine Ext.trans ?_ (by assumption) | with_reducible exact Past.bel _ | with_reducible refine Ext.trans ?_ (Past.bel _)))).src (by omega) (by omega) (s1_of (by simp) (fun j hj => by (obtain rfl | rfl | rfl | rfl : j = 0 ∨ j = 1 ∨ j = 2 ∨ j = 3 := by omega) <;> simp [go_sem, zz0, zz1, zz2, zz3])) (fun ad e => by cases e; dsimp only; omega)).mono ?_
      rintro e w5 ⟨j, rfl, hj, hs5, hg5⟩
      have S5 := Lib.hid ((S4.out.ext (w1 := w4.alloc _) (by repeat (first | with_reducible exact Ext.refl _ | with_reducible assumption | with_reducible refine Ext.alloc ?_ _ | with_reducible refine Ext.drew ?_ | (with_reducible refine Ext.setAt ?_ _ _ _ ?_; rotate_left; omega) | with_reducible refine Ext.trans ?_ (by assumption) | with_reducible exact Past.bel _ | with_reducible refine Ext.trans ?_ (Past.bel _)))).drawn hs5 hg5)
      clear hs5 hg5
      go_wp2_with fail
      go_ret2
      exact ⟨x2, z j, rfl, S5.out.toExt hx2 (Nat.le_refl _)⟩
    · have e0 : (x4 == 0) = false := by simpa using d0
      have e1 : (x4 == 1) = false := by simpa using d1
      go_wp2_with fail
      go_ret2
      exact ⟨x2, 1 + x3, rfl, S4.out.toExt hx2 (Nat.le_refl _)⟩
end Go.Proofs.Ytglcjnplmhelhaa

namespace Go.Proofs.Ytglcjnplmhelhaa
open Go.RowKit
set_option linter.unusedVariables false
set_option linter.unusedSimpArgs false

theorem wf_law {m r : Int} (h : wfC m r = 0) : ∃ v, wfV m r = v ∧ 1 ≤ r ∧ r ≤ 10000 ∧ 0 ≤ m ∧ m ≤ 1000000000 ∧ 0 ≤ v ∧ v ≤ 1000000000 ∧ m ≤ v * r ∧ v * r ≤ 1000010000 ∧ (v - 1) * r < m ∧ -10000 ≤ (v - 1) * r := by
  have hb : wfB m r = true := by
    cases hb : wfB m r
    · rw [wfC, hb] at h; simp at h
    · rfl
  simp only [wfB, Bool.and_eq_true] at hb
  have h1 := inB_t.1 hb.1
  have h2 := inB_t.1 hb.2
  obtain ⟨m0, m1⟩ := ediv_mul_bd (n := m + r - 1) (d := r) (by omega)
  have hv := ediv_bd (N := 1000010000) (show 0 < r by omega) (show -1000010000 ≤ m + r - 1 by omega) (by omega) (by omega)
  have hn := Int.ediv_nonneg (show 0 ≤ m + r - 1 by omega) (show 0 ≤ r by omega)
  have hself : (m + r - 1) / r ≤ m := by
    have h5 : (m + r - 1) / r < m + 1 := Int.ediv_lt_of_lt_mul (by omega) (by
      have h6 := Int.mul_le_mul_of_nonneg_left h2.1 (show 0 ≤ m by omega)
      have e : (m + 1) * r = m * r + r := by grind
      omega)
    omega
  obtain ⟨q, hq⟩ : ∃ q, q = (m + r - 1) / r := ⟨_, rfl⟩
  rw [← hq] at m0 m1 hv hn hself
  have e : (q - 1) * r = q * r - r := by grind
  refine ⟨q, by rw [wfV, wfB, hb.1, hb.2, hq]; rfl, h2.1, h2.2, h1.1, h1.2, hn, by omega, by omega, by omega, by omega, by omega⟩
theorem dy_law {r n d : Int} (h : dyC r n d = 0) : ∃ v, dyV r n d = v ∧ 1 ≤ n ∧ n ≤ 1000000000 ∧ 1 ≤ d ∧ d ≤ 1000000000 ∧ 0 ≤ r ∧ r ≤ 2000 ∧ 0 ≤ v ∧ v ≤ 20000000000 ∧ 0 ≤ r * d ∧ r * d ≤ 2000000000000 ∧ 0 ≤ v * 100 * n ∧ v * 100 * n ≤ r * d ∧ r * d < (v + 1) * 100 * n ∧ (v + 1) * 100 * n ≤ 3000000000000 := by
  rw [dyC] at h
  split at h
  · rename_i h1
    split at h
    · rename_i h2
      split at h
      · exact absurd h (by decide)
      · rename_i h3
        obtain ⟨b1, b2, b3, b4⟩ := raB_b h1
        have h4 := inB_t.1 h2
        have hp := mul_nn (A := 2000) (B := 1000000000) h4.1 h4.2 (show 0 ≤ d by omega) b2
        obtain ⟨m0, m1⟩ := ediv_mul_bd (n := r * d) (d := 100 * n) (by omega)
        have hn := Int.ediv_nonneg hp.1 (show 0 ≤ 100 * n by omega)
        obtain ⟨q, hq⟩ : ∃ q, q = r * d / (100 * n) := ⟨_, rfl⟩
        rw [← hq] at m0 m1 hn
        have e1 : q * 100 * n = q * (100 * n) := by grind
        have e2 : (q + 1) * 100 * n = q * (100 * n) + 100 * n := by grind
        have e3 : q * 100 ≤ q * (100 * n) := Int.mul_le_mul_of_nonneg_left (by omega) hn
        refine ⟨q, by rw [dyV, dyB, h1, h2, decide_eq_true (show 0 < n by omega), hq]; rfl, by omega, b4, b1, b2, h4.1, h4.2, hn, by omega, hp.1, hp.2, by omega, by omega, by omega, by omega⟩
    · exact absurd h (by decide)
  · exact absurd h (by decide)
set_option maxRecDepth 100000 in
set_option maxHeartbeats 8000000 in
theorem walkWeights (a : Option Addr) (n c : Nat) (f : Nat → Nat) (hm : n ≤ maxLen) (w : World) (hs : U8 w a n f) (hl : ∀ j, j < n → f j ≤ 255) :
    Calls Try.prog 4 #[.slice a n c] w fun e w' => e = .returned (.bool true) ∧ Ext w w' := by
  by_cases hn : n ≤ 4096
  · have e1 : decide (4096 < n) = false := decide_eq_false (by omega)
    go_enter Try.func4, Try.ntmps4
    go_wp2_with (go_at_call 9; ((with_reducible refine (f6big_c _ _ _ _).mono ?_); rintro e w' ⟨rfl, rfl⟩))
    refine (drawWeight_c a n c f w (by omega) hs hl).mono ?_
    rintro e w2 ⟨m, r, rfl, hx2⟩
    obtain ⟨V, hV⟩ : ∃ V, V = wfV m r := ⟨_, rfl⟩
    obtain ⟨C, hC⟩ : ∃ V, V = wfC m r := ⟨_, rfl⟩
    have HI := Lib.hid (fun (W : World) => (show Calls Try.prog 16 #[.int .i64 m, .int .i64 r] W (fun e w' => e = .returned (.tuple #[.int .i64 V, .int .i64 C]) ∧ W = w') from by rw [hV, hC]; exact implWeightFor_c m r W))
    have HJ := Lib.hid (fun (W : World) => (show Calls Try.prog 17 #[.int .i64 m, .int .i64 r] W (fun e w' => e = .returned (.tuple #[.int .i64 V, .int .i64 C]) ∧ W = w') from by rw [hV, hC]; exact specWeightFor_c m r W))
    have HV := Lib.hid (And.intro hV hC)
    have c1 : (C != C) = false := by simp
    have c2 : (V != V) = false := by simp
    clear hV hC
    go_wp2_with (first | (go_at_call 16; ((with_reducible refine (HI.out _).mono ?_); rintro e w' ⟨rfl, rfl⟩)) | (go_at_call 17; ((with_reducible refine (HJ.out _).mono ?_); rintro e w' ⟨rfl, rfl⟩)))
    refine (drawDays_c a n c f w2 (by omega) (hs.ext hx2) hl).mono ?_
    rintro e w3 ⟨R, p, q, rfl, hx3⟩
    obtain ⟨V3, hV3⟩ : ∃ V, V = dyV R p q := ⟨_, rfl⟩
    obtain ⟨C3, hC3⟩ : ∃ V, V = dyC R p q := ⟨_, rfl⟩
    have HI3 := Lib.hid (fun (W : World) => (show Calls Try.prog 19 #[.int .i64 R, .agg #[.int .i64 p, .int .i64 q]] W (fun e w' => e = .returned (.tuple #[.int .i64 V3, .int .i64 C3]) ∧ Ext W w') from by rw [hV3, hC3]; exact implDaysOf_c R p q W))
    have HJ3 := Lib.hid (fun (W : World) => (show Calls Try.prog 20 #[.int .i64 R, .agg #[.int .i64 p, .int .i64 q]] W (fun e w' => e = .returned (.tuple #[.int .i64 V3, .int .i64 C3]) ∧ Ext W w') from by rw [hV3, hC3]; exact specDaysOf_c R p q W))
    have HV3 := Lib.hid (And.intro hV3 hC3)
    have c3 : (C3 != C3) = false := by simp
    have c4 : (V3 != V3) = false := by simp
    have hw3 := Ext.trans hx2 hx3
    clear hV3 hC3 HI HJ
    go_wp2_with fail
    refine (HI3.out _).mono ?_
    rintro e w4 ⟨rfl, hx4⟩
    have hB4 : Blk w4 w3.heap.size 37 #[.int .i64 p, .int .i64 q] := (Blk.new w3 _ _).ext hx4
    obtain ⟨⟨m1, m2⟩, -⟩ := hB4.cells2
    go_wp2_with fail
    refine (HJ3.out _).mono ?_
    rintro e w5 ⟨rfl, hx5⟩
    have hB5 := hB4.ext hx5
    obtain ⟨⟨k1, k2⟩, -⟩ := hB5.cells2
    have hw5 : Ext w w5 := Ext.trans (Ext.trans (Ext.alloc hw3 _) hx4) hx5
    clear m1 m2 hB4 hB5 hx4 hx5 HI3 HJ3
    have hA : ((C == 0) = true ∧ 1 ≤ r ∧ r ≤ 10000 ∧ 0 ≤ V ∧ V ≤ 1000000000 ∧ 0 ≤ V * r ∧ V * r ≤ 1000010000 ∧ ¬ V * r < m ∧ -10000 ≤ (V - 1) * r ∧ (V - 1) * r ≤ 1000000000 ∧ ¬ m ≤ (V - 1) * r) ∨ (C == 0) = false := by
      by_cases c5 : C = 0
      · left
        obtain ⟨v, hv, l0, l1, l2, l3, l4, l5, l6, l7, l8, l9⟩ := wf_law (HV.out.2.symm.trans c5)
        have : V = v := HV.out.1.trans hv
        subst this
        exact ⟨by simpa using c5, l0, l1, l4, l5, by omega, by omega, by omega, l9, by omega, by omega⟩
      · right; simpa using c5
    have hB : ((C3 != 0) = false ∧ 1 ≤ p ∧ p ≤ 1000000000 ∧ 0 ≤ V3 ∧ V3 ≤ 20000000000 ∧ 0 ≤ R * q ∧ R * q ≤ 2000000000000 ∧ 0 ≤ V3 * 100 * p ∧ V3 * 100 * p ≤ 2000000000000 ∧ V3 * 100 * p ≤ R * q ∧ 0 ≤ (V3 + 1) * 100 * p ∧ (V3 + 1) * 100 * p ≤ 3000000000000 ∧ R * q < (V3 + 1) * 100 * p) ∨ (C3 != 0) = true := by
      by_cases c5 : C3 = 0
      · left
        obtain ⟨v, hv, l0, l1, l2, l3, l4, l5, l6, l7, l8, l9, l10, l11, l12, l13⟩ := dy_law (HV3.out.2.symm.trans c5)
        have : V3 = v := HV3.out.1.trans hv
        subst this
        exact ⟨by simpa using c5, l0, l1, l6, l7, l8, l9, l10, by omega, l11, by omega, l13, l12⟩
      · right; simpa using c5
    clear HV HV3
    rcases hA with ⟨a0, a1, a2, a3, a4, a5, a6, a7, a8, a9, a10⟩ | a0
    · rcases hB with ⟨b0, b1, b2, b3, b4, b5, b6, b7, b8, b9, b10, b11, b12⟩ | b0
      · go_wp2_with fail
        all_goals (go_ret; exact ⟨rfl, hw5⟩)
      · go_wp2_with fail
        all_goals (go_ret; exact ⟨rfl, hw5⟩)
    · rcases hB with ⟨b0, b1, b2, b3, b4, b5, b6, b7, b8, b9, b10, b11, b12⟩ | b0
      · go_wp2_with fail
        all_goals (go_ret; exact ⟨rfl, hw5⟩)
      · go_wp2_with fail
        all_goals (go_ret; exact ⟨rfl, hw5⟩)
  · have e1 : decide (4096 < n) = true := decide_eq_true (by omega)
    go_enter Try.func4, Try.ntmps4
    go_wp2_with (go_at_call 9; ((with_reducible refine (f6big_c _ _ _ _).mono ?_); rintro e w' ⟨rfl, rfl⟩))
    go_ret
    exact ⟨rfl, (by repeat (first | with_reducible exact Ext.refl _ | with_reducible assumption | with_reducible refine Ext.alloc ?_ _ | with_reducible refine Ext.drew ?_ | (with_reducible refine Ext.setAt ?_ _ _ _ ?_; rotate_left; omega) | with_reducible refine Ext.trans ?_ (by assumption) | with_reducible exact Past.bel _ | with_reducible refine Ext.trans ?_ (Past.bel _)))⟩
end Go.Proofs.Ytglcjnplmhelhaa

namespace Go.Proofs.Ytglcjnplmhelhaa
open Go.ChangeShapes Go.WideShapes Go.RowKit Go.Deep
set_option linter.unusedVariables false
section
variable {H : Type} {enc : TypeId × Value → H} {P : Program} {w : World} {base : Nat} {spare : Nat → Bool} {held : Bool}
/-- a slice of structs of one cell a field, at whatever depth -/
theorem down_rows {t e : TypeId} {fs : Array Field} {fuel : Nat} {v : Value} {x : DataW H × List MemPlace} (ht : P.underlying t = some (.slice e)) (hs : P.underlying e = some (.struct fs)) (hone : oneCellFields P fs = true) (hC : P.cellsOf e = fs.size) (hpos : 0 < fs.size)
    (hf : DataW.trod enc P w base spare held fuel t [v] = some x) :
    ∃ (a : Option Addr) (n cap : Nat) (z : Nat → Nat → Value), v = .slice a n cap ∧ n ≤ cap ∧ cap ≤ maxLen ∧
      (0 < n → ∃ b off, a = some ⟨b, off, none⟩ ∧ b < w.heap.size ∧ ∀ i, i < n → ∀ j (hj : j < fs.size), w.cell? ⟨b, off + i * fs.size + j, none⟩ = some (z i j) ∧ ∃ m y, DataW.trod enc P w base spare held m fs[j].type [z i j] = some y) := by
  rcases open_slice ht hf with ⟨hcs, _⟩ | ⟨a', len', cap', m, n', D, Pl, hcs, hb, hl, hm, hmm, hx, hcell⟩
  · simp at hcs
    subst hcs
    exact ⟨none, 0, 0, fun _ _ => .bool false, rfl, Nat.le_refl _, Nat.zero_le _, fun h => absurd h (Nat.lt_irrefl 0)⟩
  · simp at hcs
    subst hcs
    have hlm : len' ≤ m := by rw [hmm]; split <;> omega
    have hel : ∀ i, i < len' → ∃ z : Nat → Value, ∀ j (hj : j < fs.size), w.cell? (a'.add (i * fs.size + j)) = some (z j) ∧ ∃ m y, DataW.trod enc P w base spare held m fs[j].type [z j] = some y := fun i hi' => by
      obtain ⟨cs', hc, ht'⟩ := hcell i (by omega)
      rw [hC] at hc
      obtain ⟨_, hcl, hat⟩ := World.cells?_some hc
      obtain ⟨k, hl', hfl⟩ := down_struct hs hone hC ht'
      refine ⟨fun j => cs'.getD j (.bool false), fun j hj => ?_⟩
      obtain ⟨v', y, hv', hy⟩ := hfl j fs[j] (Array.getElem?_eq_getElem hj)
      have e1 : cs'.getD j (.bool false) = v' := by simp [List.getD, hv']
      refine ⟨?_, k, y, by show DataW.trod enc P w base spare held k fs[j].type [cs'.getD j (.bool false)] = some y; rw [e1]; exact hy⟩
      show w.cell? (a'.add (i * fs.size + j)) = some (cs'.getD j (.bool false))
      rw [← Go.Deep.add_add, hat j hj, e1]; exact hv'
    obtain ⟨z, hz⟩ := choose_lt hel
    refine ⟨some a', len', cap', z, rfl, hl, hm, fun hn => ?_⟩
    obtain ⟨b, off, spot⟩ := a'
    have h0 := (hz 0 hn 0 hpos).1
    have hspot : spot = none := by simpa [Addr.add] using World.cell?_spot h0
    subst hspot
    refine ⟨b, off, rfl, World.block_lt_of_cell? w ⟨b, off, none⟩ (by simpa [Addr.add] using h0), fun i hi' j hj => ?_⟩
    have h1 := hz i hi' j hj
    rw [Addr.add_lit] at h1
    rw [Nat.add_assoc]; exact h1
/-- a slice of int64s -/
theorem down_i64s {t e : TypeId} {fuel : Nat} {v : Value} {x : DataW H × List MemPlace} (ht : P.underlying t = some (.slice e)) (he : P.underlying e = some (.int .i64)) (hC : P.cellsOf e = 1)
    (hf : DataW.trod enc P w base spare held fuel t [v] = some x) :
    ∃ (a : Option Addr) (n cap : Nat) (z : Nat → Int), v = .slice a n cap ∧ n ≤ cap ∧ cap ≤ maxLen ∧ S1 w a n z ∧ ∀ j, j < n → (Lit.int .i64 (z j)).wf = true := by
  rcases open_slice ht hf with ⟨hcs, _⟩ | ⟨a', len', cap', m, n', D, Pl, hcs, hb, hl, hm, hmm, hx, hcell⟩
  · simp at hcs
    subst hcs
    exact ⟨none, 0, 0, fun _ => 0, rfl, Nat.le_refl _, Nat.zero_le _, (fun h => absurd h (Nat.lt_irrefl 0)), fun j hj => absurd hj (Nat.not_lt_zero j)⟩
  · simp at hcs
    subst hcs
    have hlm : len' ≤ m := by rw [hmm]; split <;> omega
    have hel : ∀ i, i < len' → ∃ z : Int, w.cell? (a'.add i) = some (.int .i64 z) ∧ (Lit.int .i64 z).wf = true := fun i hi' => by
      obtain ⟨cs', hc, ht'⟩ := hcell i (by omega)
      rw [hC] at hc
      obtain ⟨_, hcl, hat⟩ := World.cells?_some hc
      obtain ⟨z, hz, _, hw⟩ := DataW.trod_int he ht'
      subst hz
      have := hat 0 (by omega)
      refine ⟨z, ?_, hw⟩
      have e1 : a'.add i = (a'.add (i * 1)).add 0 := by rw [Go.Deep.add_add]; simp
      rw [e1, this]; rfl
    obtain ⟨z, hz⟩ := choose_lt hel
    refine ⟨some a', len', cap', z, rfl, hl, hm, fun hn => ?_, fun j hj => (hz j hj).2⟩
    obtain ⟨b, off, spot⟩ := a'
    have h0 := (hz 0 hn).1
    have hspot : spot = none := by simpa [Addr.add] using World.cell?_spot h0
    subst hspot
    refine ⟨b, off, rfl, World.block_lt_of_cell? w ⟨b, off, none⟩ (by simpa [Addr.add] using h0), fun i hi' => ?_⟩
    have h1 := (hz i hi').1
    rw [Addr.add_lit] at h1
    exact h1
theorem arg_i64s {r : Reach} {b0 : Nat} {t e : TypeId} {v : Value} {d : DataW H} {p : List MemPlace} (ht : P.underlying t = some (.slice e)) (he : P.underlying e = some (.int .i64)) (hC : P.cellsOf e = 1)
    (hv : Value.okWide P w r b0 t v) (h : DataW.Trod enc P w base spare held t v d p) :
    ∃ (a : Option Addr) (n cap : Nat) (z : Nat → Int), v = .slice a n cap ∧ n ≤ cap ∧ cap ≤ maxLen ∧ S1 w a n z ∧ ∀ j, j < n → (Lit.int .i64 (z j)).wf = true := by
  obtain ⟨a, n, cap, rfl⟩ := okWide_slice ht hv
  obtain ⟨fuel, hf⟩ := h
  exact down_i64s ht he hC (fuel := fuel) (by simpa [Value.cells] using hf)
end
/-- A slice of structs of 'k' cells: cell j of element i is 'z i j'. -/
def SK (w : World) (a : Option Addr) (n k : Nat) (z : Nat → Nat → Value) : Prop :=
  0 < n → ∃ b off, a = some ⟨b, off, none⟩ ∧ b < w.heap.size ∧ ∀ i, i < n → ∀ j, j < k → w.cell? ⟨b, off + i * k + j, none⟩ = some (z i j)
/-- Months: a name and two numbers each. -/
def S3 (w : World) (a : Option Addr) (n : Nat) (nm : Nat → ByteArray) (dy lp : Nat → Int) : Prop :=
  0 < n → ∃ b off, a = some ⟨b, off, none⟩ ∧ b < w.heap.size ∧ ∀ i, i < n → w.cell? ⟨b, off + i * 3, none⟩ = some (.string (nm i)) ∧ w.cell? ⟨b, off + i * 3 + 1, none⟩ = some (.int .i64 (dy i)) ∧ w.cell? ⟨b, off + i * 3 + 2, none⟩ = some (.int .i64 (lp i))
/-- Rules: two numbers and a truth value each. -/
def R3 (w : World) (a : Option Addr) (n : Nat) (ev rs : Nat → Int) (lf : Nat → Bool) : Prop :=
  0 < n → ∃ b off, a = some ⟨b, off, none⟩ ∧ b < w.heap.size ∧ ∀ i, i < n → w.cell? ⟨b, off + i * 3, none⟩ = some (.int .i64 (ev i)) ∧ w.cell? ⟨b, off + i * 3 + 1, none⟩ = some (.int .i64 (rs i)) ∧ w.cell? ⟨b, off + i * 3 + 2, none⟩ = some (.bool (lf i))
theorem S3.ext {w w' : World} {a : Option Addr} {n : Nat} {nm : Nat → ByteArray} {dy lp : Nat → Int} (s : S3 w a n nm dy lp) (e : Ext w w') : S3 w' a n nm dy lp := fun hn => by
  obtain ⟨b, off, ha, hb, hc⟩ := s hn
  exact ⟨b, off, ha, Nat.lt_of_lt_of_le hb e.size, fun j hj => by rw [e.cell hb, e.cell hb, e.cell hb]; exact hc j hj⟩
theorem S3.at {w : World} {a : Option Addr} {n : Nat} {nm : Nat → ByteArray} {dy lp : Nat → Int} (s : S3 w a n nm dy lp) {j : Nat} (hj : j < n) :
    ∃ b off, a = some ⟨b, off, none⟩ ∧ b < w.heap.size ∧ w.cell? ⟨b, off + j * 3, none⟩ = some (.string (nm j)) ∧ w.cell? ⟨b, off + j * 3 + 1, none⟩ = some (.int .i64 (dy j)) ∧ w.cell? ⟨b, off + j * 3 + 2, none⟩ = some (.int .i64 (lp j)) := by
  obtain ⟨b, off, ha, hb, hc⟩ := s (by omega)
  exact ⟨b, off, ha, hb, hc j hj⟩
theorem R3.ext {w w' : World} {a : Option Addr} {n : Nat} {ev rs : Nat → Int} {lf : Nat → Bool} (s : R3 w a n ev rs lf) (e : Ext w w') : R3 w' a n ev rs lf := fun hn => by
  obtain ⟨b, off, ha, hb, hc⟩ := s hn
  exact ⟨b, off, ha, Nat.lt_of_lt_of_le hb e.size, fun j hj => by rw [e.cell hb, e.cell hb, e.cell hb]; exact hc j hj⟩
theorem R3.at {w : World} {a : Option Addr} {n : Nat} {ev rs : Nat → Int} {lf : Nat → Bool} (s : R3 w a n ev rs lf) {j : Nat} (hj : j < n) :
    ∃ b off, a = some ⟨b, off, none⟩ ∧ b < w.heap.size ∧ w.cell? ⟨b, off + j * 3, none⟩ = some (.int .i64 (ev j)) ∧ w.cell? ⟨b, off + j * 3 + 1, none⟩ = some (.int .i64 (rs j)) ∧ w.cell? ⟨b, off + j * 3 + 2, none⟩ = some (.bool (lf j)) := by
  obtain ⟨b, off, ha, hb, hc⟩ := s (by omega)
  exact ⟨b, off, ha, hb, hc j hj⟩
end Go.Proofs.Ytglcjnplmhelhaa

namespace Go.Proofs.Ytglcjnplmhelhaa
open Go.ChangeShapes Go.WideShapes Go.RowKit Go.Deep
set_option linter.unusedVariables false
section
variable {H : Type} {enc : TypeId × Value → H} {P : Program} {w : World} {base : Nat} {spare : Nat → Bool} {held : Bool}
theorem down_u8s {t e : TypeId} {fuel : Nat} {v : Value} {x : DataW H × List MemPlace} (ht : P.underlying t = some (.slice e)) (he : P.underlying e = some (.int .u8)) (hC : P.cellsOf e = 1)
    (hf : DataW.trod enc P w base spare held fuel t [v] = some x) :
    ∃ (a : Option Addr) (n cap : Nat) (f : Nat → Nat), v = .slice a n cap ∧ n ≤ cap ∧ cap ≤ maxLen ∧ U8 w a n f ∧ ∀ j, j < n → f j ≤ 255 := by
  rcases open_slice ht hf with ⟨hcs, _⟩ | ⟨a', len', cap', m, n', D, Pl, hcs, hb, hl, hm, hmm, hx, hcell⟩
  · simp at hcs
    subst hcs
    exact ⟨none, 0, 0, fun _ => 0, rfl, Nat.le_refl _, Nat.zero_le _, (fun h => absurd h (Nat.lt_irrefl 0)), fun j hj => absurd hj (Nat.not_lt_zero j)⟩
  · simp at hcs
    subst hcs
    have hlm : len' ≤ m := by rw [hmm]; split <;> omega
    have hel : ∀ i, i < len' → ∃ z : Nat, w.cell? (a'.add i) = some (.int .u8 (z : Int)) ∧ z ≤ 255 := fun i hi' => by
      obtain ⟨cs', hc, ht'⟩ := hcell i (by omega)
      rw [hC] at hc
      obtain ⟨_, hcl, hat⟩ := World.cells?_some hc
      obtain ⟨z, hz, _, hw⟩ := DataW.trod_int he ht'
      subst hz
      have hw' : 0 ≤ z ∧ z ≤ 255 := by simpa [Lit.wf, IntKind.min, IntKind.max, IntKind.signed, IntKind.bits] using hw
      have := hat 0 (by omega)
      obtain ⟨k, rfl⟩ := Int.eq_ofNat_of_zero_le hw'.1
      refine ⟨k, ?_, by omega⟩
      have e1 : a'.add i = (a'.add (i * 1)).add 0 := by rw [Go.Deep.add_add]; simp
      rw [e1, this]; rfl
    obtain ⟨z, hz⟩ := choose_lt hel
    refine ⟨some a', len', cap', z, rfl, hl, hm, fun hn => ?_, fun j hj => (hz j hj).2⟩
    obtain ⟨b, off, spot⟩ := a'
    have h0 := (hz 0 hn).1
    have hspot : spot = none := by simpa [Addr.add] using World.cell?_spot h0
    subst hspot
    refine ⟨b, off, rfl, World.block_lt_of_cell? w ⟨b, off, none⟩ (by simpa [Addr.add] using h0), fun i hi' => ?_⟩
    have h1 := (hz i hi').1
    rw [Addr.add_lit] at h1
    exact h1
theorem arg_u8s {r : Reach} {b0 : Nat} {t e : TypeId} {v : Value} {d : DataW H} {p : List MemPlace} (ht : P.underlying t = some (.slice e)) (he : P.underlying e = some (.int .u8)) (hC : P.cellsOf e = 1)
    (hv : Value.okWide P w r b0 t v) (h : DataW.Trod enc P w base spare held t v d p) :
    ∃ (a : Option Addr) (n cap : Nat) (f : Nat → Nat), v = .slice a n cap ∧ n ≤ cap ∧ cap ≤ maxLen ∧ U8 w a n f ∧ ∀ j, j < n → f j ≤ 255 := by
  obtain ⟨a, n, cap, rfl⟩ := okWide_slice ht hv
  obtain ⟨fuel, hf⟩ := h
  exact down_u8s ht he hC (fuel := fuel) (by simpa [Value.cells] using hf)
end
end Go.Proofs.Ytglcjnplmhelhaa
