/- Calendars: their sizes, their copies. -/
import Derived.Test.YtaamnmpbkdinpaaCW1
import Derived.Test.YtaamnmpbkdinpaaDown2
namespace Go.Proofs.Ytaamnmpbkdinpaa
open Go.RowKit
set_option linter.unusedVariables false
set_option linter.unusedSimpArgs false

theorem szMonth_c (s : ByteArray) (a b l : Int) (w : World) (h0 : 0 ≤ l) (h1 : l ≤ 1048576) (hz : s.size ≤ 9223372036854775807) :
    Calls Try.prog 51 #[.agg #[.string s, .int .i64 a, .int .i64 b], .int .i64 l] w fun e w' => ∃ r : Int, e = .returned (.int .i64 r) ∧ -1 ≤ r ∧ r ≤ l ∧ Ext w w' := by
  have e1 := IntWalk.i64_in (l - (s.size : Int)) (by omega)
  by_cases h : l < (s.size : Int)
  · have x1 : l - (s.size : Int) < 0 := by omega
    go_enter Try.func51, Try.ntmps51
    go_wp2
    all_goals (go_ret; exact ⟨_, rfl, by omega, by omega, (by repeat (first | with_reducible exact Ext.refl _ | with_reducible assumption | with_reducible refine Ext.alloc ?_ _ | with_reducible refine Ext.drew ?_ | (with_reducible refine Ext.setAt ?_ _ _ _ ?_; rotate_left; omega) | with_reducible refine Ext.trans ?_ (by assumption) | with_reducible exact Past.bel _ | with_reducible refine Ext.trans ?_ (Past.bel _)))⟩)
  · have x1 : ¬ l - (s.size : Int) < 0 := by omega
    go_enter Try.func51, Try.ntmps51
    go_wp2
    all_goals (go_ret; exact ⟨_, rfl, by omega, by omega, (by repeat (first | with_reducible exact Ext.refl _ | with_reducible assumption | with_reducible refine Ext.alloc ?_ _ | with_reducible refine Ext.drew ?_ | (with_reducible refine Ext.setAt ?_ _ _ _ ?_; rotate_left; omega) | with_reducible refine Ext.trans ?_ (by assumption) | with_reducible exact Past.bel _ | with_reducible refine Ext.trans ?_ (Past.bel _)))⟩)
set_option maxHeartbeats 1000000 in
theorem szMonthS_c (a : Option Addr) (n c : Nat) (nm : Nat → ByteArray) (dy lp : Nat → Int) (l : Int) (w : World) (hn : n ≤ maxLen) (h0 : 0 ≤ l) (h1 : l ≤ 1048576) (hz : ∀ i, i < n → (nm i).size ≤ 9223372036854775807) (hs : S3 w a n nm dy lp) :
    Calls Try.prog 25 #[.slice a n c, .int .i64 l] w fun e w' => ∃ r : Int, e = .returned (.int .i64 r) ∧ -1 ≤ r ∧ r ≤ l ∧ (0 ≤ r → n ≤ 1048576) ∧ Ext w w' := by
  have HS := Lib.hid hs
  have HZ := Lib.hid hz
  clear hs hz
  have hn' : (n : Int) ≤ 9223372036854775807 := by unfold maxLen at hn; omega
  clear hn
  have e1 := IntWalk.i64_in (l - (n : Int)) (by omega)
  by_cases h : l < (n : Int)
  · have x1 : l - (n : Int) < 0 := by omega
    go_enter Try.func25, Try.ntmps25
    go_wp2
    go_ret
    exact ⟨_, rfl, by omega, by omega, by omega, (by repeat (first | with_reducible exact Ext.refl _ | with_reducible assumption | with_reducible refine Ext.alloc ?_ _ | with_reducible refine Ext.drew ?_ | (with_reducible refine Ext.setAt ?_ _ _ _ ?_; rotate_left; omega) | with_reducible refine Ext.trans ?_ (by assumption) | with_reducible exact Past.bel _ | with_reducible refine Ext.trans ?_ (Past.bel _)))⟩
  · have x1 : ¬ l - (n : Int) < 0 := by omega
    go_enter Try.func25, Try.ntmps25
    go_wp2_with fail
    go_loopw [1, 5] (fun q i wr => ∃ (j : Nat) (r : Int), j ≤ n ∧ i = .int .i64 j ∧ q = .int .i64 r ∧ 0 ≤ r ∧ r ≤ l ∧ Ext w wr) (fun _ i _ => n - (intOf i).toNat)
    case atStart => exact ⟨0, l - n, by omega, rfl, rfl, by omega, by omega, (by repeat (first | with_reducible exact Ext.refl _ | with_reducible assumption | with_reducible refine Ext.alloc ?_ _ | with_reducible refine Ext.drew ?_ | (with_reducible refine Ext.setAt ?_ _ _ _ ?_; rotate_left; omega) | with_reducible refine Ext.trans ?_ (by assumption) | with_reducible exact Past.bel _ | with_reducible refine Ext.trans ?_ (Past.bel _)))⟩
    case round =>
      obtain ⟨j, r, hj, rfl, rfl, r0, r1, hbl⟩ := hrel
      by_cases hlt : j < n
      · obtain ⟨b1, o1, rfl, hb1, q1, q2, q3⟩ := (S3.ext HS.out hbl).at hlt
        go_wp2_with fail
        refine (szMonth_c _ _ _ _ _ r0 (by omega) (HZ.out j hlt)).mono ?_
        rintro e w' ⟨r2, rfl, y0, y1, hx1⟩
        (first | (obtain ⟨wx1, rfl⟩ := Past.again hx1) | (obtain ⟨wx1, rfl⟩ := Past.of hx1))
        by_cases hr : r2 < 0
        · go_wp2_with fail
          go_ret
          exact ⟨-1, rfl, by omega, by omega, by omega, (by repeat (first | with_reducible exact Ext.refl _ | with_reducible assumption | with_reducible refine Ext.alloc ?_ _ | with_reducible refine Ext.drew ?_ | (with_reducible refine Ext.setAt ?_ _ _ _ ?_; rotate_left; omega) | with_reducible refine Ext.trans ?_ (by assumption) | with_reducible exact Past.bel _ | with_reducible refine Ext.trans ?_ (Past.bel _)))⟩
        · go_wp2_with fail
          exact ⟨⟨j + 1, r2, by omega, by go_num, rfl, by omega, by omega, (by repeat (first | with_reducible exact Ext.refl _ | with_reducible assumption | with_reducible refine Ext.alloc ?_ _ | with_reducible refine Ext.drew ?_ | (with_reducible refine Ext.setAt ?_ _ _ _ ?_; rotate_left; omega) | with_reducible refine Ext.trans ?_ (by assumption) | with_reducible exact Past.bel _ | with_reducible refine Ext.trans ?_ (Past.bel _)))⟩, by simp [intOf]; omega⟩
      · go_wp2_with fail
        go_ret
        exact ⟨r, rfl, by omega, by omega, by omega, (by repeat (first | with_reducible exact Ext.refl _ | with_reducible assumption | with_reducible refine Ext.alloc ?_ _ | with_reducible refine Ext.drew ?_ | (with_reducible refine Ext.setAt ?_ _ _ _ ?_; rotate_left; omega) | with_reducible refine Ext.trans ?_ (by assumption) | with_reducible exact Past.bel _ | with_reducible refine Ext.trans ?_ (Past.bel _)))⟩
theorem szLeapRuleS_c (a : Option Addr) (n c : Nat) (l : Int) (w : World) (hn : n ≤ maxLen) (h0 : 0 ≤ l) (h1 : l ≤ 1048576) :
    Calls Try.prog 26 #[.slice a n c, .int .i64 l] w fun e w' => ∃ r : Int, e = .returned (.int .i64 r) ∧ -1 ≤ r ∧ r ≤ l ∧ (0 ≤ r → n ≤ 1048576) ∧ Ext w w' := by
  have hn' : (n : Int) ≤ 9223372036854775807 := by unfold maxLen at hn; omega
  clear hn
  have e1 := IntWalk.i64_in (l - (n : Int)) (by omega)
  by_cases h : l < (n : Int)
  · have x1 : l - (n : Int) < 0 := by omega
    go_enter Try.func26, Try.ntmps26
    go_wp2
    go_ret
    exact ⟨_, rfl, by omega, by omega, by omega, (by repeat (first | with_reducible exact Ext.refl _ | with_reducible assumption | with_reducible refine Ext.alloc ?_ _ | with_reducible refine Ext.drew ?_ | (with_reducible refine Ext.setAt ?_ _ _ _ ?_; rotate_left; omega) | with_reducible refine Ext.trans ?_ (by assumption) | with_reducible exact Past.bel _ | with_reducible refine Ext.trans ?_ (Past.bel _)))⟩
  · have x1 : ¬ l - (n : Int) < 0 := by omega
    go_enter Try.func26, Try.ntmps26
    go_wp2
    go_ret
    exact ⟨_, rfl, by omega, by omega, by omega, (by repeat (first | with_reducible exact Ext.refl _ | with_reducible assumption | with_reducible refine Ext.alloc ?_ _ | with_reducible refine Ext.drew ?_ | (with_reducible refine Ext.setAt ?_ _ _ _ ?_; rotate_left; omega) | with_reducible refine Ext.trans ?_ (by assumption) | with_reducible exact Past.bel _ | with_reducible refine Ext.trans ?_ (Past.bel _)))⟩
set_option maxHeartbeats 1000000 in
theorem szCalendar_c (s : ByteArray) (ma ra : Option Addr) (mn mc rn rc : Nat) (wk : Int) (nm : Nat → ByteArray) (dy lp : Nat → Int) (l : Int) (w : World) (hm : mn ≤ maxLen) (hr : rn ≤ maxLen) (h0 : 0 ≤ l) (h1 : l ≤ 1048576) (hs : s.size ≤ 9223372036854775807) (hz : ∀ i, i < mn → (nm i).size ≤ 9223372036854775807) (h3 : S3 w ma mn nm dy lp) :
    Calls Try.prog 9 #[.agg #[.string s, .slice ma mn mc, .slice ra rn rc, .int .i64 wk], .int .i64 l] w fun e w' => ∃ r : Int, e = .returned (.int .i64 r) ∧ -1 ≤ r ∧ r ≤ l ∧ (0 ≤ r → mn ≤ 1048576 ∧ rn ≤ 1048576) ∧ Ext w w' := by
  have HS := Lib.hid h3
  have HZ := Lib.hid hz
  have HM := Lib.hid hm
  have HR := Lib.hid hr
  clear h3 hz hm hr
  have e1 := IntWalk.i64_in (l - (s.size : Int)) (by omega)
  by_cases h : l < (s.size : Int)
  · have x1 : l - (s.size : Int) < 0 := by omega
    go_enter Try.func9, Try.ntmps9
    go_wp2_with fail
    go_ret
    exact ⟨_, rfl, by omega, by omega, by omega, (by repeat (first | with_reducible exact Ext.refl _ | with_reducible assumption | with_reducible refine Ext.alloc ?_ _ | with_reducible refine Ext.drew ?_ | (with_reducible refine Ext.setAt ?_ _ _ _ ?_; rotate_left; omega) | with_reducible refine Ext.trans ?_ (by assumption) | with_reducible exact Past.bel _ | with_reducible refine Ext.trans ?_ (Past.bel _)))⟩
  · have x1 : ¬ l - (s.size : Int) < 0 := by omega
    go_enter Try.func9, Try.ntmps9
    go_wp2_with fail
    refine (szMonthS_c _ _ _ _ _ _ _ _ HM.out (by omega) (by omega) HZ.out (HS.out.ext (by repeat (first | with_reducible exact Ext.refl _ | with_reducible assumption | with_reducible refine Ext.alloc ?_ _ | with_reducible refine Ext.drew ?_ | (with_reducible refine Ext.setAt ?_ _ _ _ ?_; rotate_left; omega) | with_reducible refine Ext.trans ?_ (by assumption) | with_reducible exact Past.bel _ | with_reducible refine Ext.trans ?_ (Past.bel _))))).mono ?_
    rintro e w' ⟨r1, rfl, y0, y1, y2, hx1⟩
    (first | (obtain ⟨wx1, rfl⟩ := Past.again hx1) | (obtain ⟨wx1, rfl⟩ := Past.of hx1))
    by_cases c1 : r1 < 0
    · go_wp2_with fail
      go_ret
      exact ⟨-1, rfl, by omega, by omega, by omega, (by repeat (first | with_reducible exact Ext.refl _ | with_reducible assumption | with_reducible refine Ext.alloc ?_ _ | with_reducible refine Ext.drew ?_ | (with_reducible refine Ext.setAt ?_ _ _ _ ?_; rotate_left; omega) | with_reducible refine Ext.trans ?_ (by assumption) | with_reducible exact Past.bel _ | with_reducible refine Ext.trans ?_ (Past.bel _)))⟩
    · go_wp2_with fail
      refine (szLeapRuleS_c _ _ _ _ _ HR.out (by omega) (by omega)).mono ?_
      rintro e w' ⟨r2, rfl, y3, y4, y5, hx2⟩
      (first | (obtain ⟨wx2, rfl⟩ := Past.again hx2) | (obtain ⟨wx2, rfl⟩ := Past.of hx2))
      by_cases c2 : r2 < 0
      · go_wp2_with fail
        go_ret
        exact ⟨-1, rfl, by omega, by omega, by omega, (by repeat (first | with_reducible exact Ext.refl _ | with_reducible assumption | with_reducible refine Ext.alloc ?_ _ | with_reducible refine Ext.drew ?_ | (with_reducible refine Ext.setAt ?_ _ _ _ ?_; rotate_left; omega) | with_reducible refine Ext.trans ?_ (by assumption) | with_reducible exact Past.bel _ | with_reducible refine Ext.trans ?_ (Past.bel _)))⟩
      · go_wp2_with fail
        go_ret
        exact ⟨r2, rfl, by omega, by omega, fun _ => ⟨y2 (by omega), y5 (by omega)⟩, (by repeat (first | with_reducible exact Ext.refl _ | with_reducible assumption | with_reducible refine Ext.alloc ?_ _ | with_reducible refine Ext.drew ?_ | (with_reducible refine Ext.setAt ?_ _ _ _ ?_; rotate_left; omega) | with_reducible refine Ext.trans ?_ (by assumption) | with_reducible exact Past.bel _ | with_reducible refine Ext.trans ?_ (Past.bel _)))⟩
end Go.Proofs.Ytaamnmpbkdinpaa
