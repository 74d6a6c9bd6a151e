/- The best change of a mean: the program's BestChange. -/
import Derived.Test.YtfpbmceflpohnaaW7
import Derived.Test.YtfpbmceflpohnaaPlain6
namespace Go.Proofs.Ytfpbmceflpohnaa
open Go.RowKit
set_option linter.unusedVariables false
set_option linter.unusedSimpArgs false

theorem field_fit2 (c x y xx xy : Int) (w : World) : (Instr.field 25 (.agg #[.int .i64 c, .int .i64 x, .int .i64 y, .int .i64 xx, .int .i64 xy]) 2).run Try.prog w = .ok (.int .i64 y) w := by kernel_rfl
set_option maxHeartbeats 2000000 in
theorem implBestChange_c (a : Option Addr) (n c : Nat) (f o : Nat → Int) (w : World) (hn : n ≤ 1048576) (hs : S2 w a n f o) :
    Calls Try.prog 35 #[.slice a n c] w fun e w' => e = .returned (.tuple #[.int .i64 (bcRes n f o), .int .i64 (bcCode n f o)]) ∧ Ext w w' := by
  have HS := Lib.hid hs
  clear hs
  by_cases hv : rdV n f o = true
  · have HV := Lib.hid hv
    by_cases h2 : n < 2
    · go_enter Try.func35, Try.ntmps35
      go_wp2_with (go_at_call 23; ((with_reducible refine (validReadings_c _ _ _ _ _ _ hn (HS.out.ext (by repeat (first | with_reducible exact Ext.refl _ | with_reducible assumption | with_reducible refine Ext.alloc ?_ _ | with_reducible refine Ext.drew ?_ | (with_reducible refine Ext.setAt ?_ _ _ _ ?_; rotate_left; omega) | with_reducible refine Ext.trans ?_ (by assumption) | with_reducible exact Past.bel _ | with_reducible refine Ext.trans ?_ (Past.bel _))))).mono ?_); rintro e w' ⟨rfl, hx⟩; (first | (obtain ⟨wx, rfl⟩ := Past.again hx) | (obtain ⟨wx, rfl⟩ := Past.of hx))))
      go_ret2
      have e1 : bcCode n f o = 6 := by simp [bcCode, HV.out, h2]
      exact ⟨by rw [bcRes, e1]; rfl, (by repeat (first | with_reducible exact Ext.refl _ | with_reducible assumption | with_reducible refine Ext.alloc ?_ _ | with_reducible refine Ext.drew ?_ | (with_reducible refine Ext.setAt ?_ _ _ _ ?_; rotate_left; omega) | with_reducible refine Ext.trans ?_ (by assumption) | with_reducible exact Past.bel _ | with_reducible refine Ext.trans ?_ (Past.bel _)))⟩
    · have ob := offB_of (rb_of hv)
      have h60 := ob.n60
      have hfl := field_fit2
      go_enter Try.func35, Try.ntmps35
      go_wp2_with (first | (go_at_call 23; ((with_reducible refine (validReadings_c _ _ _ _ _ _ hn (HS.out.ext (by repeat (first | with_reducible exact Ext.refl _ | with_reducible assumption | with_reducible refine Ext.alloc ?_ _ | with_reducible refine Ext.drew ?_ | (with_reducible refine Ext.setAt ?_ _ _ _ ?_; rotate_left; omega) | with_reducible refine Ext.trans ?_ (by assumption) | with_reducible exact Past.bel _ | with_reducible refine Ext.trans ?_ (Past.bel _))))).mono ?_); rintro e w' ⟨rfl, hx⟩; (first | (obtain ⟨wx, rfl⟩ := Past.again hx) | (obtain ⟨wx, rfl⟩ := Past.of hx)))) | (go_at_call 70; ((with_reducible refine (fitOf_c _ _ _ _ _ _ HV.out (HS.out.ext (by repeat (first | with_reducible exact Ext.refl _ | with_reducible assumption | with_reducible refine Ext.alloc ?_ _ | with_reducible refine Ext.drew ?_ | (with_reducible refine Ext.setAt ?_ _ _ _ ?_; rotate_left; omega) | with_reducible refine Ext.trans ?_ (by assumption) | with_reducible exact Past.bel _ | with_reducible refine Ext.trans ?_ (Past.bel _))))).mono ?_); rintro e w' ⟨rfl, hx⟩; (first | (obtain ⟨wx, rfl⟩ := Past.again hx) | (obtain ⟨wx, rfl⟩ := Past.of hx)))))
      go_loopw [6, 7, 8, 9, 10] (fun b u d s i wr => ∃ j : Nat, j + 1 ≤ n ∧ i = .int .i64 ((j : Int) + 1) ∧ Ext w wr ∧ b = .int .i64 (bc n o j).1 ∧ u = .int .i64 (bc n o j).2.1 ∧ d = .int .i64 (bc n o j).2.2 ∧ s = .int .i64 (sm o j)) (fun _ _ _ _ i _ => n - (intOf i).toNat)
      case atStart => exact ⟨0, by omega, rfl, (by repeat (first | with_reducible exact Ext.refl _ | with_reducible assumption | with_reducible refine Ext.alloc ?_ _ | with_reducible refine Ext.drew ?_ | (with_reducible refine Ext.setAt ?_ _ _ _ ?_; rotate_left; omega) | with_reducible refine Ext.trans ?_ (by assumption) | with_reducible exact Past.bel _ | with_reducible refine Ext.trans ?_ (Past.bel _))), rfl, rfl, rfl, rfl⟩
      case round =>
        obtain ⟨j, hj, rfl, hbl, rfl, rfl, rfl, rfl⟩ := hrel
        by_cases hlt : j + 1 < n
        · obtain ⟨b1, o1, rfl, hb1, q1, q2⟩ := (S2.ext HS.out hbl).at (show j < n by omega)
          obtain ⟨m1, m2, m3, m4, m5, m6, m7, m8, m9, m10, m11, m12, m13, m14, m15, m16, m17, m18, m19, m20⟩ := bw_of ob hlt
          have OB := Lib.hid ob
          clear ob
          go_wp2_with fail
          · have ht := bc_t (n := n) (o := o) (j := j) (by assumption)
            exact ⟨⟨j + 1, by omega, by go_num, (by repeat (first | with_reducible exact Ext.refl _ | with_reducible assumption | with_reducible refine Ext.alloc ?_ _ | with_reducible refine Ext.drew ?_ | (with_reducible refine Ext.setAt ?_ _ _ _ ?_; rotate_left; omega) | with_reducible refine Ext.trans ?_ (by assumption) | with_reducible exact Past.bel _ | with_reducible refine Ext.trans ?_ (Past.bel _))), by rw [ht.1], by rw [ht.2.1], by rw [ht.2.2], rfl⟩, by simp [intOf]; omega⟩
          · have ht := bc_f' (n := n) (o := o) (j := j) (by assumption)
            exact ⟨⟨j + 1, by omega, by go_num, (by repeat (first | with_reducible exact Ext.refl _ | with_reducible assumption | with_reducible refine Ext.alloc ?_ _ | with_reducible refine Ext.drew ?_ | (with_reducible refine Ext.setAt ?_ _ _ _ ?_; rotate_left; omega) | with_reducible refine Ext.trans ?_ (by assumption) | with_reducible exact Past.bel _ | with_reducible refine Ext.trans ?_ (Past.bel _))), by rw [ht], by rw [ht], by rw [ht], rfl⟩, by simp [intOf]; omega⟩
        · obtain ⟨k0, k1⟩ : (bc n o j).1 = bcRes n f o ∧ bcCode n f o = 0 := by
            have e : bcCode n f o = 0 := by simp [bcCode, HV.out, h2]
            refine ⟨?_, e⟩
            rw [bcRes, if_pos e]; congr 2; omega
          have K0 := Lib.hid k0
          have K1 := Lib.hid k1
          clear k0 k1
          go_wp2_with fail
          go_ret2
          exact ⟨ret_two (congrArg _ K0.out) (congrArg _ K1.out.symm), (by repeat (first | with_reducible exact Ext.refl _ | with_reducible assumption | with_reducible refine Ext.alloc ?_ _ | with_reducible refine Ext.drew ?_ | (with_reducible refine Ext.setAt ?_ _ _ _ ?_; rotate_left; omega) | with_reducible refine Ext.trans ?_ (by assumption) | with_reducible exact Past.bel _ | with_reducible refine Ext.trans ?_ (Past.bel _)))⟩
  · have hf : rdV n f o = false := by simpa using hv
    go_enter Try.func35, Try.ntmps35
    go_wp2_with (go_at_call 23; ((with_reducible refine (validReadings_c _ _ _ _ _ _ hn (HS.out.ext (by repeat (first | with_reducible exact Ext.refl _ | with_reducible assumption | with_reducible refine Ext.alloc ?_ _ | with_reducible refine Ext.drew ?_ | (with_reducible refine Ext.setAt ?_ _ _ _ ?_; rotate_left; omega) | with_reducible refine Ext.trans ?_ (by assumption) | with_reducible exact Past.bel _ | with_reducible refine Ext.trans ?_ (Past.bel _))))).mono ?_); rintro e w' ⟨rfl, hx⟩; (first | (obtain ⟨wx, rfl⟩ := Past.again hx) | (obtain ⟨wx, rfl⟩ := Past.of hx))))
    go_ret2
    have e1 : bcCode n f o = 1 := by simp [bcCode, hf]
    exact ⟨by rw [bcRes, e1]; rfl, (by repeat (first | with_reducible exact Ext.refl _ | with_reducible assumption | with_reducible refine Ext.alloc ?_ _ | with_reducible refine Ext.drew ?_ | (with_reducible refine Ext.setAt ?_ _ _ _ ?_; rotate_left; omega) | with_reducible refine Ext.trans ?_ (by assumption) | with_reducible exact Past.bel _ | with_reducible refine Ext.trans ?_ (Past.bel _)))⟩
end Go.Proofs.Ytfpbmceflpohnaa
