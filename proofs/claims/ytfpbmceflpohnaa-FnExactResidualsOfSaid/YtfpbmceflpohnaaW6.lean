/- Laws on lists of readings that only read: ValidReadings, FitOf. -/
import Derived.Test.YtfpbmceflpohnaaW5
namespace Go.Proofs.Ytfpbmceflpohnaa
open Go.RowKit
set_option linter.unusedVariables false
set_option linter.unusedSimpArgs false

theorem toReadingS_r (a : Option Addr) (n c : Nat) (h o : Nat → Int) (w : World) (hn : n ≤ 1048576) (hs : S2 w a n h o) :
    Calls Try.prog 22 #[.slice a n c] w fun e w' => ∃ g, e = .returned (.slice (some ⟨g, 0, none⟩) n n) ∧ Ext w w' ∧ S2 w' (some ⟨g, 0, none⟩) n h o :=
  (toReadingS_c a n c h o w hn hs).mono fun e w' ⟨cur, he, hx, hb, _, hc⟩ => ⟨_, he, hx, C2.s2 hb hc⟩
theorem eqReadingS_self (aa ab : Option Addr) (n ca cb : Nat) (h o : Nat → Int) (w : World) (hn : n ≤ 1048576) (ha : S2 w aa n h o) (hb : S2 w ab n h o) :
    Calls Try.prog 24 #[.slice aa n ca, .slice ab n cb] w fun e w' => e = .returned (.bool true) ∧ Ext w w' :=
  (eqReadingS_c aa ab n n ca cb h o h o w hn hn ha hb).mono fun e w' ⟨he, hx⟩ => ⟨by rw [he, eqTo_self]; simp, hx⟩
set_option maxHeartbeats 400000 in
theorem walkValidReadings (a : Option Addr) (n c : Nat) (f o : Nat → Int) (hm : n ≤ maxLen) (w : World) (hs : S2 w a n f o) :
    Calls Try.prog 4 #[.slice a n c] w fun e w' => e = .returned (.bool true) ∧ Ext w w' := by
  have HS := Lib.hid hs
  clear hs
  by_cases hn : n ≤ 1048576
  · have h1 : ¬ (1048576 : Int) < n := by omega
    have hm' := Lib.hid hm
    clear hm
    go_enter Try.func4, Try.ntmps4
    go_wp2_with (first | (go_at_call 20; ((with_reducible refine (szReadingS_c _ _ _ _ _ (by omega) (by omega) hm'.out).mono ?_); rintro e w' ⟨rfl, rfl⟩)))
    refine (toReadingS_r _ _ _ _ _ _ hn (HS.out.ext (by repeat (first | with_reducible exact Ext.refl _ | with_reducible assumption | with_reducible refine Ext.alloc ?_ _ | with_reducible refine Ext.drew ?_ | (with_reducible refine Ext.setAt ?_ _ _ _ ?_; rotate_left; omega) | with_reducible refine Ext.trans ?_ (by assumption) | with_reducible exact Past.bel _ | with_reducible refine Ext.trans ?_ (Past.bel _))))).mono ?_
    rintro e w' ⟨g1, rfl, hx1, hs1⟩
    have HS1 := Lib.hid hs1
    clear hs1
    (first | (obtain ⟨wx1, rfl⟩ := Past.again hx1) | (obtain ⟨wx1, rfl⟩ := Past.of hx1))
    go_wp2_with fail
    refine (specValidReadings_c _ _ _ _ _ _ hn (HS1.out.ext (by repeat (first | with_reducible exact Ext.refl _ | with_reducible assumption | with_reducible refine Ext.alloc ?_ _ | with_reducible refine Ext.drew ?_ | (with_reducible refine Ext.setAt ?_ _ _ _ ?_; rotate_left; omega) | with_reducible refine Ext.trans ?_ (by assumption) | with_reducible exact Past.bel _ | with_reducible refine Ext.trans ?_ (Past.bel _))))).mono ?_
    rintro e w' ⟨rfl, hx2⟩
    (first | (obtain ⟨wx2, rfl⟩ := Past.again hx2) | (obtain ⟨wx2, rfl⟩ := Past.of hx2))
    go_wp2_with fail
    refine (toReadingS_r _ _ _ _ _ _ hn (HS.out.ext (by repeat (first | with_reducible exact Ext.refl _ | with_reducible assumption | with_reducible refine Ext.alloc ?_ _ | with_reducible refine Ext.drew ?_ | (with_reducible refine Ext.setAt ?_ _ _ _ ?_; rotate_left; omega) | with_reducible refine Ext.trans ?_ (by assumption) | with_reducible exact Past.bel _ | with_reducible refine Ext.trans ?_ (Past.bel _))))).mono ?_
    rintro e w' ⟨g3, rfl, hx3, hs3⟩
    have HS3 := Lib.hid hs3
    clear hs3
    (first | (obtain ⟨wx3, rfl⟩ := Past.again hx3) | (obtain ⟨wx3, rfl⟩ := Past.of hx3))
    go_wp2_with fail
    refine (validReadings_c _ _ _ _ _ _ hn (HS3.out.ext (by repeat (first | with_reducible exact Ext.refl _ | with_reducible assumption | with_reducible refine Ext.alloc ?_ _ | with_reducible refine Ext.drew ?_ | (with_reducible refine Ext.setAt ?_ _ _ _ ?_; rotate_left; omega) | with_reducible refine Ext.trans ?_ (by assumption) | with_reducible exact Past.bel _ | with_reducible refine Ext.trans ?_ (Past.bel _))))).mono ?_
    rintro e w' ⟨rfl, hx4⟩
    (first | (obtain ⟨wx4, rfl⟩ := Past.again hx4) | (obtain ⟨wx4, rfl⟩ := Past.of hx4))
    go_wp2_with fail
    refine (toReadingS_r _ _ _ _ _ _ hn (HS.out.ext (by repeat (first | with_reducible exact Ext.refl _ | with_reducible assumption | with_reducible refine Ext.alloc ?_ _ | with_reducible refine Ext.drew ?_ | (with_reducible refine Ext.setAt ?_ _ _ _ ?_; rotate_left; omega) | with_reducible refine Ext.trans ?_ (by assumption) | with_reducible exact Past.bel _ | with_reducible refine Ext.trans ?_ (Past.bel _))))).mono ?_
    rintro e w' ⟨g5, rfl, hx5, hs5⟩
    have HS5 := Lib.hid hs5
    clear hs5
    (first | (obtain ⟨wx5, rfl⟩ := Past.again hx5) | (obtain ⟨wx5, rfl⟩ := Past.of hx5))
    go_wp2_with fail
    refine (eqReadingS_self _ _ _ _ _ _ _ _ hn (HS3.out.ext (by repeat (first | with_reducible exact Ext.refl _ | with_reducible assumption | with_reducible refine Ext.alloc ?_ _ | with_reducible refine Ext.drew ?_ | (with_reducible refine Ext.setAt ?_ _ _ _ ?_; rotate_left; omega) | with_reducible refine Ext.trans ?_ (by assumption) | with_reducible exact Past.bel _ | with_reducible refine Ext.trans ?_ (Past.bel _)))) (HS5.out.ext (by repeat (first | with_reducible exact Ext.refl _ | with_reducible assumption | with_reducible refine Ext.alloc ?_ _ | with_reducible refine Ext.drew ?_ | (with_reducible refine Ext.setAt ?_ _ _ _ ?_; rotate_left; omega) | with_reducible refine Ext.trans ?_ (by assumption) | with_reducible exact Past.bel _ | with_reducible refine Ext.trans ?_ (Past.bel _))))).mono ?_
    rintro e w' ⟨rfl, hx6⟩
    (first | (obtain ⟨wx6, rfl⟩ := Past.again hx6) | (obtain ⟨wx6, rfl⟩ := Past.of hx6))
    go_wp2_with fail
    go_ret
    exact ⟨rfl, (by repeat (first | with_reducible exact Ext.refl _ | with_reducible assumption | with_reducible refine Ext.alloc ?_ _ | with_reducible refine Ext.drew ?_ | (with_reducible refine Ext.setAt ?_ _ _ _ ?_; rotate_left; omega) | with_reducible refine Ext.trans ?_ (by assumption) | with_reducible exact Past.bel _ | with_reducible refine Ext.trans ?_ (Past.bel _)))⟩
  · have h1 : (1048576 : Int) < n := by omega
    have hm' := Lib.hid hm
    clear hm
    go_enter Try.func4, Try.ntmps4
    go_wp2_with (first | (go_at_call 20; ((with_reducible refine (szReadingS_c _ _ _ _ _ (by omega) (by omega) hm'.out).mono ?_); rintro e w' ⟨rfl, rfl⟩)))
    go_ret
    exact ⟨rfl, (by repeat (first | with_reducible exact Ext.refl _ | with_reducible assumption | with_reducible refine Ext.alloc ?_ _ | with_reducible refine Ext.drew ?_ | (with_reducible refine Ext.setAt ?_ _ _ _ ?_; rotate_left; omega) | with_reducible refine Ext.trans ?_ (by assumption) | with_reducible exact Past.bel _ | with_reducible refine Ext.trans ?_ (Past.bel _)))⟩
set_option maxHeartbeats 800000 in
theorem walkFitOf (a : Option Addr) (n c : Nat) (f o : Nat → Int) (hm : n ≤ maxLen) (w : World) (hs : S2 w a n f o) :
    Calls Try.prog 8 #[.slice a n c] w fun e w' => e = .returned (.bool true) ∧ Ext w w' := by
  have HS := Lib.hid hs
  clear hs
  have hm' := Lib.hid hm
  clear hm
  by_cases hn : n ≤ 1048576
  · have h1 : ¬ (1048576 : Int) < n := by omega
    go_enter Try.func8, Try.ntmps8
    go_wp2_with (first | (go_at_call 20; ((with_reducible refine (szReadingS_c _ _ _ _ _ (by omega) (by omega) hm'.out).mono ?_); rintro e w' ⟨rfl, rfl⟩)))
    refine (toReadingS_r _ _ _ _ _ _ hn (HS.out.ext (by repeat (first | with_reducible exact Ext.refl _ | with_reducible assumption | with_reducible refine Ext.alloc ?_ _ | with_reducible refine Ext.drew ?_ | (with_reducible refine Ext.setAt ?_ _ _ _ ?_; rotate_left; omega) | with_reducible refine Ext.trans ?_ (by assumption) | with_reducible exact Past.bel _ | with_reducible refine Ext.trans ?_ (Past.bel _))))).mono ?_
    rintro e w' ⟨g1, rfl, hx1, hs1⟩
    have HS1 := Lib.hid hs1
    clear hs1
    (first | (obtain ⟨wx1, rfl⟩ := Past.again hx1) | (obtain ⟨wx1, rfl⟩ := Past.of hx1))
    go_wp2_with fail
    refine (specFitOf_c _ _ _ _ _ _ hn (HS1.out.ext (by repeat (first | with_reducible exact Ext.refl _ | with_reducible assumption | with_reducible refine Ext.alloc ?_ _ | with_reducible refine Ext.drew ?_ | (with_reducible refine Ext.setAt ?_ _ _ _ ?_; rotate_left; omega) | with_reducible refine Ext.trans ?_ (by assumption) | with_reducible exact Past.bel _ | with_reducible refine Ext.trans ?_ (Past.bel _))))).mono ?_
    rintro e w' ⟨rfl, hx2⟩
    (first | (obtain ⟨wx2, rfl⟩ := Past.again hx2) | (obtain ⟨wx2, rfl⟩ := Past.of hx2))
    go_wp2_with fail
    refine (toReadingS_r _ _ _ _ _ _ hn (HS.out.ext (by repeat (first | with_reducible exact Ext.refl _ | with_reducible assumption | with_reducible refine Ext.alloc ?_ _ | with_reducible refine Ext.drew ?_ | (with_reducible refine Ext.setAt ?_ _ _ _ ?_; rotate_left; omega) | with_reducible refine Ext.trans ?_ (by assumption) | with_reducible exact Past.bel _ | with_reducible refine Ext.trans ?_ (Past.bel _))))).mono ?_
    rintro e w' ⟨g3, rfl, hx3, hs3⟩
    have HS3 := Lib.hid hs3
    clear hs3
    (first | (obtain ⟨wx3, rfl⟩ := Past.again hx3) | (obtain ⟨wx3, rfl⟩ := Past.of hx3))
    go_wp2_with fail
    refine (implFitOf_c _ _ _ _ _ _ hn (HS3.out.ext (by repeat (first | with_reducible exact Ext.refl _ | with_reducible assumption | with_reducible refine Ext.alloc ?_ _ | with_reducible refine Ext.drew ?_ | (with_reducible refine Ext.setAt ?_ _ _ _ ?_; rotate_left; omega) | with_reducible refine Ext.trans ?_ (by assumption) | with_reducible exact Past.bel _ | with_reducible refine Ext.trans ?_ (Past.bel _))))).mono ?_
    rintro e w' ⟨rfl, hx4⟩
    (first | (obtain ⟨wx4, rfl⟩ := Past.again hx4) | (obtain ⟨wx4, rfl⟩ := Past.of hx4))
    go_wp2_with fail
    refine (eqFit_self _ _ _ _ _ _).mono ?_
    rintro e w' ⟨rfl, hx5⟩
    (first | (obtain ⟨wx5, rfl⟩ := Past.again hx5) | (obtain ⟨wx5, rfl⟩ := Past.of hx5))
    go_wp2_with fail
    refine (toReadingS_r _ _ _ _ _ _ hn (HS.out.ext (by repeat (first | with_reducible exact Ext.refl _ | with_reducible assumption | with_reducible refine Ext.alloc ?_ _ | with_reducible refine Ext.drew ?_ | (with_reducible refine Ext.setAt ?_ _ _ _ ?_; rotate_left; omega) | with_reducible refine Ext.trans ?_ (by assumption) | with_reducible exact Past.bel _ | with_reducible refine Ext.trans ?_ (Past.bel _))))).mono ?_
    rintro e w' ⟨g6, rfl, hx6, hs6⟩
    have HS6 := Lib.hid hs6
    clear hs6
    (first | (obtain ⟨wx6, rfl⟩ := Past.again hx6) | (obtain ⟨wx6, rfl⟩ := Past.of hx6))
    go_wp2_with fail
    refine (eqReadingS_self _ _ _ _ _ _ _ _ hn (HS3.out.ext (by repeat (first | with_reducible exact Ext.refl _ | with_reducible assumption | with_reducible refine Ext.alloc ?_ _ | with_reducible refine Ext.drew ?_ | (with_reducible refine Ext.setAt ?_ _ _ _ ?_; rotate_left; omega) | with_reducible refine Ext.trans ?_ (by assumption) | with_reducible exact Past.bel _ | with_reducible refine Ext.trans ?_ (Past.bel _)))) (HS6.out.ext (by repeat (first | with_reducible exact Ext.refl _ | with_reducible assumption | with_reducible refine Ext.alloc ?_ _ | with_reducible refine Ext.drew ?_ | (with_reducible refine Ext.setAt ?_ _ _ _ ?_; rotate_left; omega) | with_reducible refine Ext.trans ?_ (by assumption) | with_reducible exact Past.bel _ | with_reducible refine Ext.trans ?_ (Past.bel _))))).mono ?_
    rintro e w' ⟨rfl, hx7⟩
    (first | (obtain ⟨wx7, rfl⟩ := Past.again hx7) | (obtain ⟨wx7, rfl⟩ := Past.of hx7))
    go_wp2_with fail
    go_ret
    exact ⟨rfl, (by repeat (first | with_reducible exact Ext.refl _ | with_reducible assumption | with_reducible refine Ext.alloc ?_ _ | with_reducible refine Ext.drew ?_ | (with_reducible refine Ext.setAt ?_ _ _ _ ?_; rotate_left; omega) | with_reducible refine Ext.trans ?_ (by assumption) | with_reducible exact Past.bel _ | with_reducible refine Ext.trans ?_ (Past.bel _)))⟩
  · have h1 : (1048576 : Int) < n := by omega
    go_enter Try.func8, Try.ntmps8
    go_wp2_with (first | (go_at_call 20; ((with_reducible refine (szReadingS_c _ _ _ _ _ (by omega) (by omega) hm'.out).mono ?_); rintro e w' ⟨rfl, rfl⟩)))
    go_ret
    exact ⟨rfl, (by repeat (first | with_reducible exact Ext.refl _ | with_reducible assumption | with_reducible refine Ext.alloc ?_ _ | with_reducible refine Ext.drew ?_ | (with_reducible refine Ext.setAt ?_ _ _ _ ?_; rotate_left; omega) | with_reducible refine Ext.trans ?_ (by assumption) | with_reducible exact Past.bel _ | with_reducible refine Ext.trans ?_ (Past.bel _)))⟩
end Go.Proofs.Ytfpbmceflpohnaa
