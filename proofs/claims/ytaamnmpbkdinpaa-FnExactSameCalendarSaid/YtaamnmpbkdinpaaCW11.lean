/- Greatest common divisors. -/
import Derived.Test.YtaamnmpbkdinpaaCW1
namespace Go.Proofs.Ytaamnmpbkdinpaa
open Go.RowKit
set_option linter.unusedVariables false
set_option linter.unusedSimpArgs false

theorem tmod_bd {a b : Int} (ha : 0 ≤ a) (hb : 0 < b) : a % b = a.tmod b ∧ 0 ≤ a % b ∧ a % b < b := ⟨by rw [Int.tmod_eq_emod_of_nonneg ha], Int.emod_nonneg _ (by omega), Int.emod_lt_of_pos _ hb⟩
set_option maxHeartbeats 400000 in
theorem l02Gcd_c (a b : Int) (w : World) (ha : 0 ≤ a) (hb : 0 ≤ b) (ha' : a ≤ 1000000000000) (hb' : b ≤ 1000000000000) :
    Calls Try.prog 61 #[.int .i64 a, .int .i64 b] w fun e w' => e = .returned (.int .i64 (gcdI a b)) ∧ w = w' := by
  go_enter Try.func61, Try.ntmps61
  go_wp2_with fail
  go_loop [0, 1] (fun x y => ∃ p q : Int, x = .int .i64 p ∧ y = .int .i64 q ∧ 0 ≤ p ∧ p ≤ 1000000000000 ∧ 0 ≤ q ∧ q ≤ 1000000000000 ∧ gcdI p q = gcdI a b) (fun _ y => (intOf y).toNat)
  case atStart => exact ⟨a, b, rfl, rfl, ha, ha', hb, hb', rfl⟩
  case round =>
    obtain ⟨p, q, rfl, rfl, p0, p1, q0, q1, hg⟩ := hrel
    have HG := Lib.hid hg
    clear hg
    by_cases h : 0 < q
    · obtain ⟨t0, t1, t2⟩ := tmod_bd p0 h
      have hs := gcdI_step p0 h
      rw [← t0] at hs
      have HSS := Lib.hid hs
      clear hs t0
      go_wp2_with fail
      exact ⟨⟨q, p % q, rfl, by go_num, by omega, by omega, by omega, by omega, HSS.out.trans HG.out⟩, by simp [intOf]; omega⟩
    · obtain rfl : q = 0 := by omega
      go_wp2_with fail
      go_ret
      exact ⟨ret_i64 (by rw [← HG.out, gcdI_zero p0]), rfl⟩
set_option maxHeartbeats 400000 in
theorem gcd_c (a b : Int) (w : World) (ha : 0 ≤ a) (hb : 0 ≤ b) (ha' : a ≤ 1000000000000) (hb' : b ≤ 1000000000000) :
    Calls Try.prog 60 #[.int .i64 a, .int .i64 b] w fun e w' => e = .returned (.int .i64 (gcdI a b)) ∧ Ext w w' := by
  go_enter Try.func60, Try.ntmps60
  go_wp2_with fail
  go_loopw [0, 1] (fun x y wr => ∃ p q : Int, x = .int .i64 p ∧ y = .int .i64 q ∧ 0 ≤ p ∧ p ≤ 1000000000000 ∧ 0 ≤ q ∧ q ≤ 1000000000000 ∧ Ext w wr ∧ gcdI p q = gcdI a b) (fun _ y _ => (intOf y).toNat)
  case atStart => exact ⟨a, b, rfl, rfl, ha, ha', hb, hb', (by repeat (first | with_reducible exact Ext.refl _ | with_reducible assumption | with_reducible refine Ext.alloc ?_ _ | with_reducible refine Ext.drew ?_ | (with_reducible refine Ext.setAt ?_ _ _ _ ?_; rotate_left; omega) | with_reducible refine Ext.trans ?_ (by assumption) | with_reducible exact Past.bel _ | with_reducible refine Ext.trans ?_ (Past.bel _))), rfl⟩
  case round =>
    obtain ⟨p, q, rfl, rfl, p0, p1, q0, q1, hbl, hg⟩ := hrel
    have HG := Lib.hid hg
    clear hg
    by_cases h : q = 0
    · subst h
      have x0 : ¬ p < 0 := by omega
      go_wp2_with fail
      go_ret
      exact ⟨ret_i64 (by rw [← HG.out, gcdI_zero p0]), (by repeat (first | with_reducible exact Ext.refl _ | with_reducible assumption | with_reducible refine Ext.alloc ?_ _ | with_reducible refine Ext.drew ?_ | (with_reducible refine Ext.setAt ?_ _ _ _ ?_; rotate_left; omega) | with_reducible refine Ext.trans ?_ (by assumption) | with_reducible exact Past.bel _ | with_reducible refine Ext.trans ?_ (Past.bel _)))⟩
    · have h' : 0 < q := by omega
      obtain ⟨t0, t1, t2⟩ := tmod_bd p0 h'
      have hs := gcdI_step p0 h'
      rw [← t0] at hs
      have HSS := Lib.hid hs
      have e0 : (q != 0) = true := by simpa using h
      clear hs t0 h
      go_wp2_with fail
      refine wp_region_past (by kernel_rfl) (by kernel_rfl) ?_
      repeat (go_big_quiet_step (fail))
      refine wpQuiet_nil ?_
      rintro _ ⟨wx, rfl⟩
      go_wp2_with fail
      exact ⟨⟨q, p % q, rfl, by go_num, by omega, by omega, by omega, by omega, (by repeat (first | with_reducible exact Ext.refl _ | with_reducible assumption | with_reducible refine Ext.alloc ?_ _ | with_reducible refine Ext.drew ?_ | (with_reducible refine Ext.setAt ?_ _ _ _ ?_; rotate_left; omega) | with_reducible refine Ext.trans ?_ (by assumption) | with_reducible exact Past.bel _ | with_reducible refine Ext.trans ?_ (Past.bel _))), HSS.out.trans HG.out⟩, by simp [intOf]; omega⟩
end Go.Proofs.Ytaamnmpbkdinpaa
