/- The best change of a mean: the reference's BestChange; the law. -/
import Derived.Test.YtfpbmceflpohnaaW8
import Derived.Test.YtfpbmceflpohnaaPlain7
namespace Go.Proofs.Ytfpbmceflpohnaa
open Go.RowKit
set_option linter.unusedVariables false
set_option linter.unusedSimpArgs false

/-- the first k elements; the elements from k on -/
theorem S2.left {w : World} {b off n k : Nat} {h o : Nat → Int} (s : S2 w (some ⟨b, off, none⟩) n h o) (hk : k ≤ n) : S2 w (some ⟨b, off, none⟩) k h o := fun hp => by
  obtain ⟨b', off', e, hb, hc⟩ := s (by omega)
  exact ⟨b', off', e, hb, fun j hj => hc j (by omega)⟩
theorem S2.right {w : World} {b off n k : Nat} {h o : Nat → Int} (s : S2 w (some ⟨b, off, none⟩) n h o) (hk : k ≤ n) : S2 w (some ⟨b, off + k * 2, none⟩) (n - k) (fun i => h (i + k)) (fun i => o (i + k)) := fun hp => by
  obtain ⟨b', off', e, hb, hc⟩ := s (by omega)
  simp only [Option.some.injEq, Addr.mk.injEq, and_true] at e
  obtain ⟨rfl, rfl⟩ := e
  refine ⟨b, _, rfl, hb, fun j hj => ?_⟩
  have := hc (j + k) (by omega)
  rw [show off + k * 2 + j * 2 = off + (j + k) * 2 by omega]
  exact this
set_option maxHeartbeats 2000000 in
theorem specBestChange_c (a : Option Addr) (n c : Nat) (f o : Nat → Int) (w : World) (hn : n ≤ 1048576) (hnc : n ≤ c) (hs : S2 w a n f o) :
    Calls Try.prog 34 #[.slice a n c] w fun e w' => e = .returned (.tuple #[.int .i64 (bcRes n f o), .int .i64 (bcCode n f o)]) ∧ Ext w w' := by
  have HS := Lib.hid hs
  clear hs
  by_cases hv : rdV n f o = true
  · have HV := Lib.hid hv
    by_cases h2 : n < 2
    · go_enter Try.func34, Try.ntmps34
      go_wp2_with (go_at_call 58; ((with_reducible refine (l14Ok_c _ _ _ _ _ _ hn (HS.out.ext (by repeat (first | with_reducible exact Ext.refl _ | with_reducible assumption | with_reducible refine Ext.alloc ?_ _ | with_reducible refine Ext.drew ?_ | (with_reducible refine Ext.setAt ?_ _ _ _ ?_; rotate_left; omega) | with_reducible refine Ext.trans ?_ (by assumption) | with_reducible exact Past.bel _ | with_reducible refine Ext.trans ?_ (Past.bel _))))).mono ?_); rintro e w' ⟨rfl, hx⟩; (first | (obtain ⟨wx, rfl⟩ := Past.again hx) | (obtain ⟨wx, rfl⟩ := Past.of hx))))
      go_ret2
      have e1 : bcCode n f o = 6 := by simp [bcCode, HV.out, h2]
      exact ⟨by rw [bcRes, e1]; rfl, (by repeat (first | with_reducible exact Ext.refl _ | with_reducible assumption | with_reducible refine Ext.alloc ?_ _ | with_reducible refine Ext.drew ?_ | (with_reducible refine Ext.setAt ?_ _ _ _ ?_; rotate_left; omega) | with_reducible refine Ext.trans ?_ (by assumption) | with_reducible exact Past.bel _ | with_reducible refine Ext.trans ?_ (Past.bel _)))⟩
    · have ob := offB_of (rb_of hv)
      have h60 := ob.n60
      go_enter Try.func34, Try.ntmps34
      go_wp2_with (first | (go_at_call 58; ((with_reducible refine (l14Ok_c _ _ _ _ _ _ hn (HS.out.ext (by repeat (first | with_reducible exact Ext.refl _ | with_reducible assumption | with_reducible refine Ext.alloc ?_ _ | with_reducible refine Ext.drew ?_ | (with_reducible refine Ext.setAt ?_ _ _ _ ?_; rotate_left; omega) | with_reducible refine Ext.trans ?_ (by assumption) | with_reducible exact Past.bel _ | with_reducible refine Ext.trans ?_ (Past.bel _))))).mono ?_); rintro e w' ⟨rfl, hx⟩; (first | (obtain ⟨wx, rfl⟩ := Past.again hx) | (obtain ⟨wx, rfl⟩ := Past.of hx)))))
      go_loopw [4, 5, 6, 7] (fun b u d i wr => ∃ j : Nat, j + 1 ≤ n ∧ i = .int .i64 ((j : Int) + 1) ∧ Ext w wr ∧ b = .int .i64 (bc n o j).1 ∧ u = .int .i64 (bcN n o j) ∧ d = .int .i64 (bc n o j).2.2) (fun _ _ _ i _ => n - (intOf i).toNat)
      case atStart => exact ⟨0, by omega, rfl, (by repeat (first | with_reducible exact Ext.refl _ | with_reducible assumption | with_reducible refine Ext.alloc ?_ _ | with_reducible refine Ext.drew ?_ | (with_reducible refine Ext.setAt ?_ _ _ _ ?_; rotate_left; omega) | with_reducible refine Ext.trans ?_ (by assumption) | with_reducible exact Past.bel _ | with_reducible refine Ext.trans ?_ (Past.bel _))), rfl, rfl, rfl⟩
      case round =>
        obtain ⟨j, hj, rfl, hbl, rfl, rfl, rfl⟩ := hrel
        by_cases hlt : j + 1 < n
        · obtain ⟨b1, o1, rfl, hb1, q1, q2⟩ := (S2.ext HS.out hbl).at (show j < n by omega)
          obtain ⟨m1, m2, m3, m4, m5, m6, m7, m8, m9, m10, m11, m12, m13, m14⟩ := br_of ob hlt
          have sr := S2.ext HS.out hbl
          have SL := Lib.hid (sr.left (k := j + 1) (by omega))
          have SR := Lib.hid (sr.right (k := j + 1) (by omega))
          clear sr
          have OB := Lib.hid ob
          clear ob
          have hck : ¬ c = j + 1 := by omega
          go_wp2_with fail
          refine wp_region_past (by kernel_rfl) (by kernel_rfl) ?_
          repeat (go_big_quiet_step ((first | (go_at_call 71; exact Calls.past (l14Spread_c _ _ _ _ _ _ (OB.out.le (by omega)) (SL.out.ext (Past.bel _)))) | (go_at_call 71; exact Calls.past (l14Spread_c _ _ _ _ _ _ (OB.out.tail (by omega)) (SR.out.ext (Past.bel _)))))))
          refine wpQuiet_nil ?_
          rintro _ ⟨wx, rfl⟩
          by_cases h0 : j = 0
          · have hb0 : ((bc n o j).1 == 0) = true := by simpa using (bst OB.out (j := j) (by omega)).z.2 h0
            have H0 := Lib.hid h0
            clear h0
            go_wp2_with fail
            have t := r_first OB.out hlt H0.out
            exact ⟨⟨j + 1, by omega, by go_num, (by repeat (first | with_reducible exact Ext.refl _ | with_reducible assumption | with_reducible refine Ext.alloc ?_ _ | with_reducible refine Ext.drew ?_ | (with_reducible refine Ext.setAt ?_ _ _ _ ?_; rotate_left; omega) | with_reducible refine Ext.trans ?_ (by assumption) | with_reducible exact Past.bel _ | with_reducible refine Ext.trans ?_ (Past.bel _))), congrArg _ t.1.symm, congrArg _ t.2.2, congrArg _ t.2.1.symm⟩, by simp [intOf]; omega⟩
          · have hb0 : ((bc n o j).1 == 0) = false := by simpa using fun e => h0 ((bst OB.out (j := j) (by omega)).z.1 e)
            go_wp2_with fail
            · have t := r_better hlt h0 (by assumption)
              exact ⟨⟨j + 1, by omega, by go_num, (by repeat (first | with_reducible exact Ext.refl _ | with_reducible assumption | with_reducible refine Ext.alloc ?_ _ | with_reducible refine Ext.drew ?_ | (with_reducible refine Ext.setAt ?_ _ _ _ ?_; rotate_left; omega) | with_reducible refine Ext.trans ?_ (by assumption) | with_reducible exact Past.bel _ | with_reducible refine Ext.trans ?_ (Past.bel _))), congrArg _ t.1.symm, congrArg _ t.2.2, congrArg _ t.2.1.symm⟩, by simp [intOf]; omega⟩
            · have t := r_not hlt h0 (by assumption)
              exact ⟨⟨j + 1, by omega, by go_num, (by repeat (first | with_reducible exact Ext.refl _ | with_reducible assumption | with_reducible refine Ext.alloc ?_ _ | with_reducible refine Ext.drew ?_ | (with_reducible refine Ext.setAt ?_ _ _ _ ?_; rotate_left; omega) | with_reducible refine Ext.trans ?_ (by assumption) | with_reducible exact Past.bel _ | with_reducible refine Ext.trans ?_ (Past.bel _))), by rw [t.1], by rw [t.2], by rw [t.1]⟩, by simp [intOf]; omega⟩
        · obtain ⟨k0, k1⟩ : (bc n o j).1 = bcRes n f o ∧ bcCode n f o = 0 := by
            have e : bcCode n f o = 0 := by simp [bcCode, HV.out, h2]
            refine ⟨?_, e⟩
            rw [bcRes, if_pos e]; congr 2; omega
          have K0 := Lib.hid k0
          have K1 := Lib.hid k1
          clear k0 k1
          go_wp2_with fail
          go_ret2
          exact ⟨ret_two (congrArg _ K0.out) (congrArg _ K1.out.symm), (by repeat (first | with_reducible exact Ext.refl _ | with_reducible assumption | with_reducible refine Ext.alloc ?_ _ | with_reducible refine Ext.drew ?_ | (with_reducible refine Ext.setAt ?_ _ _ _ ?_; rotate_left; omega) | with_reducible refine Ext.trans ?_ (by assumption) | with_reducible exact Past.bel _ | with_reducible refine Ext.trans ?_ (Past.bel _)))⟩
  · have hf : rdV n f o = false := by simpa using hv
    go_enter Try.func34, Try.ntmps34
    go_wp2_with (go_at_call 58; ((with_reducible refine (l14Ok_c _ _ _ _ _ _ hn (HS.out.ext (by repeat (first | with_reducible exact Ext.refl _ | with_reducible assumption | with_reducible refine Ext.alloc ?_ _ | with_reducible refine Ext.drew ?_ | (with_reducible refine Ext.setAt ?_ _ _ _ ?_; rotate_left; omega) | with_reducible refine Ext.trans ?_ (by assumption) | with_reducible exact Past.bel _ | with_reducible refine Ext.trans ?_ (Past.bel _))))).mono ?_); rintro e w' ⟨rfl, hx⟩; (first | (obtain ⟨wx, rfl⟩ := Past.again hx) | (obtain ⟨wx, rfl⟩ := Past.of hx))))
    go_ret2
    have e1 : bcCode n f o = 1 := by simp [bcCode, hf]
    exact ⟨by rw [bcRes, e1]; rfl, (by repeat (first | with_reducible exact Ext.refl _ | with_reducible assumption | with_reducible refine Ext.alloc ?_ _ | with_reducible refine Ext.drew ?_ | (with_reducible refine Ext.setAt ?_ _ _ _ ?_; rotate_left; omega) | with_reducible refine Ext.trans ?_ (by assumption) | with_reducible exact Past.bel _ | with_reducible refine Ext.trans ?_ (Past.bel _)))⟩
set_option maxHeartbeats 800000 in
theorem walkBestChange (a : Option Addr) (n c : Nat) (f o : Nat → Int) (hm : n ≤ maxLen) (w : World) (hs : S2 w a n f o) :
    Calls Try.prog 9 #[.slice a n c] w fun e w' => e = .returned (.bool true) ∧ Ext w w' := by
  have HS := Lib.hid hs
  clear hs
  have hm' := Lib.hid hm
  clear hm
  by_cases hn : n ≤ 1048576
  · have h1 : ¬ (1048576 : Int) < n := by omega
    go_enter Try.func9, Try.ntmps9
    go_wp2_with (first | (go_at_call 20; ((with_reducible refine (szReadingS_c _ _ _ _ _ (by omega) (by omega) hm'.out).mono ?_); rintro e w' ⟨rfl, rfl⟩)))
    refine (toReadingS_r _ _ _ _ _ _ hn (HS.out.ext (by repeat (first | with_reducible exact Ext.refl _ | with_reducible assumption | with_reducible refine Ext.alloc ?_ _ | with_reducible refine Ext.drew ?_ | (with_reducible refine Ext.setAt ?_ _ _ _ ?_; rotate_left; omega) | with_reducible refine Ext.trans ?_ (by assumption) | with_reducible exact Past.bel _ | with_reducible refine Ext.trans ?_ (Past.bel _))))).mono ?_
    rintro e w' ⟨g1, rfl, hx1, hs1⟩
    have HS1 := Lib.hid hs1
    clear hs1
    (first | (obtain ⟨wx1, rfl⟩ := Past.again hx1) | (obtain ⟨wx1, rfl⟩ := Past.of hx1))
    go_wp2_with fail
    refine (specBestChange_c _ _ _ _ _ _ hn (Nat.le_refl _) (HS1.out.ext (by repeat (first | with_reducible exact Ext.refl _ | with_reducible assumption | with_reducible refine Ext.alloc ?_ _ | with_reducible refine Ext.drew ?_ | (with_reducible refine Ext.setAt ?_ _ _ _ ?_; rotate_left; omega) | with_reducible refine Ext.trans ?_ (by assumption) | with_reducible exact Past.bel _ | with_reducible refine Ext.trans ?_ (Past.bel _))))).mono ?_
    rintro e w' ⟨rfl, hx2⟩
    (first | (obtain ⟨wx2, rfl⟩ := Past.again hx2) | (obtain ⟨wx2, rfl⟩ := Past.of hx2))
    go_wp2_with fail
    refine (toReadingS_r _ _ _ _ _ _ hn (HS.out.ext (by repeat (first | with_reducible exact Ext.refl _ | with_reducible assumption | with_reducible refine Ext.alloc ?_ _ | with_reducible refine Ext.drew ?_ | (with_reducible refine Ext.setAt ?_ _ _ _ ?_; rotate_left; omega) | with_reducible refine Ext.trans ?_ (by assumption) | with_reducible exact Past.bel _ | with_reducible refine Ext.trans ?_ (Past.bel _))))).mono ?_
    rintro e w' ⟨g3, rfl, hx3, hs3⟩
    have HS3 := Lib.hid hs3
    clear hs3
    (first | (obtain ⟨wx3, rfl⟩ := Past.again hx3) | (obtain ⟨wx3, rfl⟩ := Past.of hx3))
    go_wp2_with fail
    refine (implBestChange_c _ _ _ _ _ _ hn (HS3.out.ext (by repeat (first | with_reducible exact Ext.refl _ | with_reducible assumption | with_reducible refine Ext.alloc ?_ _ | with_reducible refine Ext.drew ?_ | (with_reducible refine Ext.setAt ?_ _ _ _ ?_; rotate_left; omega) | with_reducible refine Ext.trans ?_ (by assumption) | with_reducible exact Past.bel _ | with_reducible refine Ext.trans ?_ (Past.bel _))))).mono ?_
    rintro e w' ⟨rfl, hx4⟩
    (first | (obtain ⟨wx4, rfl⟩ := Past.again hx4) | (obtain ⟨wx4, rfl⟩ := Past.of hx4))
    go_wp2_with fail
    refine (toReadingS_r _ _ _ _ _ _ hn (HS.out.ext (by repeat (first | with_reducible exact Ext.refl _ | with_reducible assumption | with_reducible refine Ext.alloc ?_ _ | with_reducible refine Ext.drew ?_ | (with_reducible refine Ext.setAt ?_ _ _ _ ?_; rotate_left; omega) | with_reducible refine Ext.trans ?_ (by assumption) | with_reducible exact Past.bel _ | with_reducible refine Ext.trans ?_ (Past.bel _))))).mono ?_
    rintro e w' ⟨g6, rfl, hx6, hs6⟩
    have HS6 := Lib.hid hs6
    clear hs6
    (first | (obtain ⟨wx6, rfl⟩ := Past.again hx6) | (obtain ⟨wx6, rfl⟩ := Past.of hx6))
    go_wp2_with fail
    refine (eqReadingS_self _ _ _ _ _ _ _ _ hn (HS3.out.ext (by repeat (first | with_reducible exact Ext.refl _ | with_reducible assumption | with_reducible refine Ext.alloc ?_ _ | with_reducible refine Ext.drew ?_ | (with_reducible refine Ext.setAt ?_ _ _ _ ?_; rotate_left; omega) | with_reducible refine Ext.trans ?_ (by assumption) | with_reducible exact Past.bel _ | with_reducible refine Ext.trans ?_ (Past.bel _)))) (HS6.out.ext (by repeat (first | with_reducible exact Ext.refl _ | with_reducible assumption | with_reducible refine Ext.alloc ?_ _ | with_reducible refine Ext.drew ?_ | (with_reducible refine Ext.setAt ?_ _ _ _ ?_; rotate_left; omega) | with_reducible refine Ext.trans ?_ (by assumption) | with_reducible exact Past.bel _ | with_reducible refine Ext.trans ?_ (Past.bel _))))).mono ?_
    rintro e w' ⟨rfl, hx7⟩
    (first | (obtain ⟨wx7, rfl⟩ := Past.again hx7) | (obtain ⟨wx7, rfl⟩ := Past.of hx7))
    go_wp2_with fail
    go_ret
    exact ⟨rfl, (by repeat (first | with_reducible exact Ext.refl _ | with_reducible assumption | with_reducible refine Ext.alloc ?_ _ | with_reducible refine Ext.drew ?_ | (with_reducible refine Ext.setAt ?_ _ _ _ ?_; rotate_left; omega) | with_reducible refine Ext.trans ?_ (by assumption) | with_reducible exact Past.bel _ | with_reducible refine Ext.trans ?_ (Past.bel _)))⟩
  · have h1 : (1048576 : Int) < n := by omega
    go_enter Try.func9, Try.ntmps9
    go_wp2_with (first | (go_at_call 20; ((with_reducible refine (szReadingS_c _ _ _ _ _ (by omega) (by omega) hm'.out).mono ?_); rintro e w' ⟨rfl, rfl⟩)))
    go_ret
    exact ⟨rfl, (by repeat (first | with_reducible exact Ext.refl _ | with_reducible assumption | with_reducible refine Ext.alloc ?_ _ | with_reducible refine Ext.drew ?_ | (with_reducible refine Ext.setAt ?_ _ _ _ ?_; rotate_left; omega) | with_reducible refine Ext.trans ?_ (by assumption) | with_reducible exact Past.bel _ | with_reducible refine Ext.trans ?_ (Past.bel _)))⟩
end Go.Proofs.Ytfpbmceflpohnaa
