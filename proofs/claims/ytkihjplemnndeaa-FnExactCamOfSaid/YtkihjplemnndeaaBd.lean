/- Cams of calendars: the functions as they are called. The texts of marks. No program in sight. The texts of marks; lists of texts. Lists of texts: compared, marked; the names of calendars. Calendars marked. Calendars: compared. Calendars: compared as wholes. What an argument that is a calendar holds. The law ValidCalendar's walk. Laws on one calendar and numbers: their walks. The law on CamOf: its walk. -/
import Derived.Test.YtkihjplemnndeaaBc
import Derived.Test.YtkihjplemnndeaaBa
import Derived.Laws.IdiomStrings
import Derived.Laws.Concat
import Derived.Test.YtkihjplemnndeaaBb
import Derived.Deep.RegionHeld3

namespace Go.Proofs.Ytkihjplemnndeaa
open Go.RowKit
set_option linter.unusedVariables false
set_option linter.unusedSimpArgs false

section
variable {g : Nat} {s : ByteArray} {ma ra : Option Addr} {mc rc : Nat} {wk : Int} {nm : Nat → ByteArray} {c : CalN} {w : World}
theorem l17Years_q (b : CalB c) (h : CalQ w g s ma ra mc rc wk nm c) (y : Int) :
    Calls Try.prog 24 #[.pointer (some ⟨g, 0, none⟩), .int .i64 y] w fun e w' => e = .returned (.bool (inB y 1 (260 / (c.n : Int)))) ∧ w = w' := by
  have p1 := h.p.c1
  have n1 := b.n1
  have n20 := b.n20
  have hn := notch (n := c.n) (y := y) n1
  have HN := Lib.hid hn
  clear h b hn
  cases h1 : inB y 1 260
  · go_enter Try.func24, Try.ntmps24
    go_wp2_with (go_at_call 49; ((with_reducible refine (l00In_c _ _ _ _).mono ?_); rintro e w' ⟨rfl, rfl⟩))
    go_ret
    exact ⟨ret_bool (by rw [← HN.out, h1]; rfl), rfl⟩
  · have h2 := inB_t.1 h1
    have hb : y * (c.n : Int) ≤ 5200 ∧ 0 ≤ y * (c.n : Int) := by
      have a1 := Int.mul_le_mul h2.2 (show (c.n : Int) ≤ 20 by omega) (by omega) (by omega)
      have a2 := Int.mul_nonneg (show 0 ≤ y by omega) (show 0 ≤ (c.n : Int) by omega)
      omega
    go_enter Try.func24, Try.ntmps24
    go_wp2_with (go_at_call 49; ((with_reducible refine (l00In_c _ _ _ _).mono ?_); rintro e w' ⟨rfl, rfl⟩))
    go_ret
    exact ⟨ret_bool (by rw [← HN.out, h1]; rfl), rfl⟩
theorem notched_v (b : CalB c) (h : CalV w s ma ra mc rc nm c) (y : Int) :
    Calls Try.prog 30 #[.agg #[.string s, .slice ma c.n mc, .slice ra c.nr rc, .int .i64 wk], .int .i64 y] w fun e w' => e = .returned (.bool (inB y 1 (260 / (c.n : Int)))) ∧ Ext w w' := by
  have n1 := b.n1
  have n20 := b.n20
  have e0 : ((c.n : Int) == 0) = false := by simp; omega
  have t1 : (260 : Int).tdiv (c.n : Int) = 260 / (c.n : Int) := tdiv_nn (by omega)
  have t2 : 0 ≤ 260 / (c.n : Int) := Int.ediv_nonneg (by omega) (by omega)
  have t3 := Int.ediv_le_self (c.n : Int) (show (0 : Int) ≤ 260 by omega)
  clear h b
  go_enter Try.func30, Try.ntmps30
  go_wp2_with (go_at_call 54; ((with_reducible refine (within_c _ _ _ _).mono ?_); rintro e w' ⟨rfl, rfl⟩))
  go_ret
  exact ⟨rfl, (by repeat (first | with_reducible exact Ext.refl _ | with_reducible assumption | with_reducible refine Ext.alloc ?_ _ | with_reducible refine Ext.drew ?_ | (with_reducible refine Ext.setAt ?_ _ _ _ ?_; rotate_left; omega) | with_reducible refine Ext.trans ?_ (by assumption) | with_reducible exact Past.bel _ | with_reducible refine Ext.trans ?_ (Past.bel _)))⟩
/-- what both return -/
def CmR (w w' : World) (s : ByteArray) (nm : Nat → ByteArray) (c : CalN) (wk first years : Int) (e : Ending) : Prop :=
  ∃ b cap, e = .returned (.tuple #[.slice b (cmL s nm c wk first years).length cap, .int .i64 (cmC s nm c wk first years)]) ∧ Ext w w' ∧ w'.ownsRow w.heap.size 2 1 (.slice b (cmL s nm c wk first years).length cap) (cmL s nm c wk first years).length ((cmL s nm c wk first years).map (Value.int .i64))
theorem CmR.none {w w' : World} {s : ByteArray} {nm : Nat → ByteArray} {c : CalN} {wk first years k : Int} (hk : cmC s nm c wk first years = k) (h0 : k ≠ 0) (hx : Ext w w') : CmR w w' s nm c wk first years (.returned (.tuple #[.slice none 0 0, .int .i64 k])) := by
  have hr : cmL s nm c wk first years = [] := by rw [cmL, hk, if_neg h0]
  exact ⟨_, 0, by rw [hr, hk]; rfl, hx, by rw [hr]; exact World.ownsRow_nil _ _ _ _⟩
set_option maxHeartbeats 2000000 in
theorem specCamOf_c (wk f y : Int) (h : CalV w s ma ra mc rc nm c) :
    Calls Try.prog 7 #[.agg #[.string s, .slice ma c.n mc, .slice ra c.nr rc, .int .i64 wk], .int .i64 f, .int .i64 y] w fun e w' => CmR w w' s nm c wk f y e := by
  have H := Lib.hid (CalQ.new 33 wk h)
  clear h
  cases h1 : calB s nm c wk
  · go_enter Try.func7, Try.ntmps7
    go_wp2_with (go_at_call 23; ((with_reducible refine (l15Ok_q (H.out.ext (by repeat (first | with_reducible exact Ext.refl _ | with_reducible assumption | with_reducible refine Ext.alloc ?_ _ | with_reducible refine Ext.drew ?_ | (with_reducible refine Ext.setAt ?_ _ _ _ ?_; rotate_left; omega) | with_reducible refine Ext.trans ?_ (by assumption) | with_reducible exact Past.bel _ | with_reducible refine Ext.trans ?_ (Past.bel _))))).mono ?_); rintro e w' ⟨rfl, hx⟩; (first | (obtain ⟨wx, rfl⟩ := Past.again hx) | (obtain ⟨wx, rfl⟩ := Past.ofd hx) | (obtain ⟨wx, rfl⟩ := Past.of hx))))
    go_ret2
    exact CmR.none (by simp [cmC, h1]) (by omega) (by repeat (first | with_reducible exact Ext.refl _ | with_reducible assumption | with_reducible refine Ext.alloc ?_ _ | with_reducible refine Ext.drew ?_ | (with_reducible refine Ext.setAt ?_ _ _ _ ?_; rotate_left; omega) | with_reducible refine Ext.trans ?_ (by assumption) | with_reducible exact Past.bel _ | with_reducible refine Ext.trans ?_ (Past.bel _)))
  · have B := Lib.hid (calB_b h1)
    cases h2 : inB y 1 (260 / (c.n : Int))
    · go_enter Try.func7, Try.ntmps7
      go_wp2_with (first | (go_at_call 23; ((with_reducible refine (l15Ok_q (H.out.ext (by repeat (first | with_reducible exact Ext.refl _ | with_reducible assumption | with_reducible refine Ext.alloc ?_ _ | with_reducible refine Ext.drew ?_ | (with_reducible refine Ext.setAt ?_ _ _ _ ?_; rotate_left; omega) | with_reducible refine Ext.trans ?_ (by assumption) | with_reducible exact Past.bel _ | with_reducible refine Ext.trans ?_ (Past.bel _))))).mono ?_); rintro e w' ⟨rfl, hx⟩; (first | (obtain ⟨wx, rfl⟩ := Past.again hx) | (obtain ⟨wx, rfl⟩ := Past.ofd hx) | (obtain ⟨wx, rfl⟩ := Past.of hx)))) | (go_at_call 24; ((with_reducible refine (l17Years_q B.out (H.out.ext (by repeat (first | with_reducible exact Ext.refl _ | with_reducible assumption | with_reducible refine Ext.alloc ?_ _ | with_reducible refine Ext.drew ?_ | (with_reducible refine Ext.setAt ?_ _ _ _ ?_; rotate_left; omega) | with_reducible refine Ext.trans ?_ (by assumption) | with_reducible exact Past.bel _ | with_reducible refine Ext.trans ?_ (Past.bel _)))) y).mono ?_); rintro e w' ⟨rfl, rfl⟩)) | (go_at_call 25; ((with_reducible refine (l15Year_c _ _).mono ?_); rintro e w' ⟨rfl, rfl⟩)))
      go_ret2
      exact CmR.none (by simp [cmC, cmB, h1, h2]) (by omega) (by repeat (first | with_reducible exact Ext.refl _ | with_reducible assumption | with_reducible refine Ext.alloc ?_ _ | with_reducible refine Ext.drew ?_ | (with_reducible refine Ext.setAt ?_ _ _ _ ?_; rotate_left; omega) | with_reducible refine Ext.trans ?_ (by assumption) | with_reducible exact Past.bel _ | with_reducible refine Ext.trans ?_ (Past.bel _)))
    · cases h3 : inB f 0 9999
      · go_enter Try.func7, Try.ntmps7
        go_wp2_with (first | (go_at_call 23; ((with_reducible refine (l15Ok_q (H.out.ext (by repeat (first | with_reducible exact Ext.refl _ | with_reducible assumption | with_reducible refine Ext.alloc ?_ _ | with_reducible refine Ext.drew ?_ | (with_reducible refine Ext.setAt ?_ _ _ _ ?_; rotate_left; omega) | with_reducible refine Ext.trans ?_ (by assumption) | with_reducible exact Past.bel _ | with_reducible refine Ext.trans ?_ (Past.bel _))))).mono ?_); rintro e w' ⟨rfl, hx⟩; (first | (obtain ⟨wx, rfl⟩ := Past.again hx) | (obtain ⟨wx, rfl⟩ := Past.ofd hx) | (obtain ⟨wx, rfl⟩ := Past.of hx)))) | (go_at_call 24; ((with_reducible refine (l17Years_q B.out (H.out.ext (by repeat (first | with_reducible exact Ext.refl _ | with_reducible assumption | with_reducible refine Ext.alloc ?_ _ | with_reducible refine Ext.drew ?_ | (with_reducible refine Ext.setAt ?_ _ _ _ ?_; rotate_left; omega) | with_reducible refine Ext.trans ?_ (by assumption) | with_reducible exact Past.bel _ | with_reducible refine Ext.trans ?_ (Past.bel _)))) y).mono ?_); rintro e w' ⟨rfl, rfl⟩)) | (go_at_call 25; ((with_reducible refine (l15Year_c _ _).mono ?_); rintro e w' ⟨rfl, rfl⟩)))
        go_ret2
        exact CmR.none (by simp [cmC, cmB, h1, h2, h3]) (by omega) (by repeat (first | with_reducible exact Ext.refl _ | with_reducible assumption | with_reducible refine Ext.alloc ?_ _ | with_reducible refine Ext.drew ?_ | (with_reducible refine Ext.setAt ?_ _ _ _ ?_; rotate_left; omega) | with_reducible refine Ext.trans ?_ (by assumption) | with_reducible exact Past.bel _ | with_reducible refine Ext.trans ?_ (Past.bel _)))
      · have h2' := inB_t.1 (show inB y 1 260 = true by have := notch (n := c.n) (y := y) B.out.n1; rw [h2, Bool.and_eq_true] at this; exact this.1)
        have h2'' : y * (c.n : Int) ≤ 260 := by have := notch (n := c.n) (y := y) B.out.n1; rw [h2, Bool.and_eq_true, decide_eq_true_eq] at this; exact this.2
        have h3' := inB_t.1 h3
        cases h4 : inB (f + y - 1) 0 9999
        · go_enter Try.func7, Try.ntmps7
          go_wp2_with (first | (go_at_call 23; ((with_reducible refine (l15Ok_q (H.out.ext (by repeat (first | with_reducible exact Ext.refl _ | with_reducible assumption | with_reducible refine Ext.alloc ?_ _ | with_reducible refine Ext.drew ?_ | (with_reducible refine Ext.setAt ?_ _ _ _ ?_; rotate_left; omega) | with_reducible refine Ext.trans ?_ (by assumption) | with_reducible exact Past.bel _ | with_reducible refine Ext.trans ?_ (Past.bel _))))).mono ?_); rintro e w' ⟨rfl, hx⟩; (first | (obtain ⟨wx, rfl⟩ := Past.again hx) | (obtain ⟨wx, rfl⟩ := Past.ofd hx) | (obtain ⟨wx, rfl⟩ := Past.of hx)))) | (go_at_call 24; ((with_reducible refine (l17Years_q B.out (H.out.ext (by repeat (first | with_reducible exact Ext.refl _ | with_reducible assumption | with_reducible refine Ext.alloc ?_ _ | with_reducible refine Ext.drew ?_ | (with_reducible refine Ext.setAt ?_ _ _ _ ?_; rotate_left; omega) | with_reducible refine Ext.trans ?_ (by assumption) | with_reducible exact Past.bel _ | with_reducible refine Ext.trans ?_ (Past.bel _)))) y).mono ?_); rintro e w' ⟨rfl, rfl⟩)) | (go_at_call 25; ((with_reducible refine (l15Year_c _ _).mono ?_); rintro e w' ⟨rfl, rfl⟩)))
          go_ret2
          exact CmR.none (by simp [cmC, cmB, h1, h2, h3, h4]) (by omega) (by repeat (first | with_reducible exact Ext.refl _ | with_reducible assumption | with_reducible refine Ext.alloc ?_ _ | with_reducible refine Ext.drew ?_ | (with_reducible refine Ext.setAt ?_ _ _ _ ?_; rotate_left; omega) | with_reducible refine Ext.trans ?_ (by assumption) | with_reducible exact Past.bel _ | with_reducible refine Ext.trans ?_ (Past.bel _)))
        · have hk : cmC s nm c wk f y = 0 := by simp [cmC, cmB, h1, h2, h3, h4]
          have hr : cmL s nm c wk f y = outs (camF c f.toNat) (y.toNat * c.n) := by rw [cmL, if_pos hk]
          obtain ⟨F, rfl⟩ := Int.eq_ofNat_of_zero_le h3'.1
          obtain ⟨Y, rfl⟩ := Int.eq_ofNat_of_zero_le (show 0 ≤ y by omega)
          have hYn : Y * c.n ≤ 260 := by have e : ((Y * c.n : Nat) : Int) = (Y : Int) * (c.n : Int) := by simp
                                         omega
          simp only [Int.toNat_natCast] at hr
          have HK := Lib.hid hk
          have HR := Lib.hid hr
          clear hk hr h2''
          go_enter Try.func7, Try.ntmps7
          go_wp2_with (first | (go_at_call 23; ((with_reducible refine (l15Ok_q (H.out.ext (by repeat (first | with_reducible exact Ext.refl _ | with_reducible assumption | with_reducible refine Ext.alloc ?_ _ | with_reducible refine Ext.drew ?_ | (with_reducible refine Ext.setAt ?_ _ _ _ ?_; rotate_left; omega) | with_reducible refine Ext.trans ?_ (by assumption) | with_reducible exact Past.bel _ | with_reducible refine Ext.trans ?_ (Past.bel _))))).mono ?_); rintro e w' ⟨rfl, hx⟩; (first | (obtain ⟨wx, rfl⟩ := Past.again hx) | (obtain ⟨wx, rfl⟩ := Past.ofd hx) | (obtain ⟨wx, rfl⟩ := Past.of hx)))) | (go_at_call 24; ((with_reducible refine (l17Years_q B.out (H.out.ext (by repeat (first | with_reducible exact Ext.refl _ | with_reducible assumption | with_reducible refine Ext.alloc ?_ _ | with_reducible refine Ext.drew ?_ | (with_reducible refine Ext.setAt ?_ _ _ _ ?_; rotate_left; omega) | with_reducible refine Ext.trans ?_ (by assumption) | with_reducible exact Past.bel _ | with_reducible refine Ext.trans ?_ (Past.bel _)))) _).mono ?_); rintro e w' ⟨rfl, rfl⟩)) | (go_at_call 25; ((with_reducible refine (l15Year_c _ _).mono ?_); rintro e w' ⟨rfl, rfl⟩)))
          refine (l17Of_q B.out (H.out.ext (by repeat (first | with_reducible exact Ext.refl _ | with_reducible assumption | with_reducible refine Ext.alloc ?_ _ | with_reducible refine Ext.drew ?_ | (with_reducible refine Ext.setAt ?_ _ _ _ ?_; rotate_left; omega) | with_reducible refine Ext.trans ?_ (by assumption) | with_reducible exact Past.bel _ | with_reducible refine Ext.trans ?_ (Past.bel _)))) (by omega) (by omega) hYn).mono ?_
          rintro e w' ⟨bb, cap, rfl, hx1, ho⟩
          have HO := Lib.hid ho
          clear ho
          have hb : w.heap.size ≤ wx.out.heap.size := Ext.size (show Ext w wx.out from (by repeat (first | with_reducible exact Ext.refl _ | with_reducible assumption | with_reducible refine Ext.alloc ?_ _ | with_reducible refine Ext.drew ?_ | (with_reducible refine Ext.setAt ?_ _ _ _ ?_; rotate_left; omega) | with_reducible refine Ext.trans ?_ (by assumption) | with_reducible exact Past.bel _ | with_reducible refine Ext.trans ?_ (Past.bel _))))
          have hxw : Ext w w' := Ext.trans (by repeat (first | with_reducible exact Ext.refl _ | with_reducible assumption | with_reducible refine Ext.alloc ?_ _ | with_reducible refine Ext.drew ?_ | (with_reducible refine Ext.setAt ?_ _ _ _ ?_; rotate_left; omega) | with_reducible refine Ext.trans ?_ (by assumption) | with_reducible exact Past.bel _ | with_reducible refine Ext.trans ?_ (Past.bel _))) hx1
          go_wp2_with fail
          go_ret2
          exact ⟨bb, cap, ret_two (by rw [HR.out]; rfl) (congrArg _ HK.out.symm), hxw, by rw [HR.out]; exact own_base HO.out hb⟩
set_option maxHeartbeats 4000000 in
theorem implCamOf_c (wk f y : Int) (h : CalV w s ma ra mc rc nm c) :
    Calls Try.prog 9 #[.agg #[.string s, .slice ma c.n mc, .slice ra c.nr rc, .int .i64 wk], .int .i64 f, .int .i64 y] w fun e w' => CmR w w' s nm c wk f y e := by
  have H := Lib.hid h
  have HPP := Lib.hid (h.p 33 wk)
  clear h
  cases h1 : calB s nm c wk
  · go_enter Try.func9, Try.ntmps9
    go_wp2_with (go_at_call 29; ((with_reducible refine (validCalendar_v wk (H.out.ext (by repeat (first | with_reducible exact Ext.refl _ | with_reducible assumption | with_reducible refine Ext.alloc ?_ _ | with_reducible refine Ext.drew ?_ | (with_reducible refine Ext.setAt ?_ _ _ _ ?_; rotate_left; omega) | with_reducible refine Ext.trans ?_ (by assumption) | with_reducible exact Past.bel _ | with_reducible refine Ext.trans ?_ (Past.bel _))))).mono ?_); rintro e w' ⟨rfl, hx⟩; (first | (obtain ⟨wx, rfl⟩ := Past.again hx) | (obtain ⟨wx, rfl⟩ := Past.ofd hx) | (obtain ⟨wx, rfl⟩ := Past.of hx))))
    go_ret2
    exact CmR.none (by simp [cmC, h1]) (by omega) (by repeat (first | with_reducible exact Ext.refl _ | with_reducible assumption | with_reducible refine Ext.alloc ?_ _ | with_reducible refine Ext.drew ?_ | (with_reducible refine Ext.setAt ?_ _ _ _ ?_; rotate_left; omega) | with_reducible refine Ext.trans ?_ (by assumption) | with_reducible exact Past.bel _ | with_reducible refine Ext.trans ?_ (Past.bel _)))
  · have B := Lib.hid (calB_b h1)
    cases h2 : inB y 1 (260 / (c.n : Int))
    · go_enter Try.func9, Try.ntmps9
      go_wp2_with (first | (go_at_call 29; ((with_reducible refine (validCalendar_v wk (H.out.ext (by repeat (first | with_reducible exact Ext.refl _ | with_reducible assumption | with_reducible refine Ext.alloc ?_ _ | with_reducible refine Ext.drew ?_ | (with_reducible refine Ext.setAt ?_ _ _ _ ?_; rotate_left; omega) | with_reducible refine Ext.trans ?_ (by assumption) | with_reducible exact Past.bel _ | with_reducible refine Ext.trans ?_ (Past.bel _))))).mono ?_); rintro e w' ⟨rfl, hx⟩; (first | (obtain ⟨wx, rfl⟩ := Past.again hx) | (obtain ⟨wx, rfl⟩ := Past.ofd hx) | (obtain ⟨wx, rfl⟩ := Past.of hx)))) | (go_at_call 30; ((with_reducible refine (notched_v B.out (H.out.ext (by repeat (first | with_reducible exact Ext.refl _ | with_reducible assumption | with_reducible refine Ext.alloc ?_ _ | with_reducible refine Ext.drew ?_ | (with_reducible refine Ext.setAt ?_ _ _ _ ?_; rotate_left; omega) | with_reducible refine Ext.trans ?_ (by assumption) | with_reducible exact Past.bel _ | with_reducible refine Ext.trans ?_ (Past.bel _)))) y).mono ?_); rintro e w' ⟨rfl, hx⟩; (first | (obtain ⟨wx, rfl⟩ := Past.again hx) | (obtain ⟨wx, rfl⟩ := Past.ofd hx) | (obtain ⟨wx, rfl⟩ := Past.of hx)))) | (go_at_call 31; ((with_reducible refine (isYear_c _ _).mono ?_); rintro e w' ⟨rfl, rfl⟩)))
      go_ret2
      exact CmR.none (by simp [cmC, cmB, h1, h2]) (by omega) (by repeat (first | with_reducible exact Ext.refl _ | with_reducible assumption | with_reducible refine Ext.alloc ?_ _ | with_reducible refine Ext.drew ?_ | (with_reducible refine Ext.setAt ?_ _ _ _ ?_; rotate_left; omega) | with_reducible refine Ext.trans ?_ (by assumption) | with_reducible exact Past.bel _ | with_reducible refine Ext.trans ?_ (Past.bel _)))
    · cases h3 : inB f 0 9999
      · go_enter Try.func9, Try.ntmps9
        go_wp2_with (first | (go_at_call 29; ((with_reducible refine (validCalendar_v wk (H.out.ext (by repeat (first | with_reducible exact Ext.refl _ | with_reducible assumption | with_reducible refine Ext.alloc ?_ _ | with_reducible refine Ext.drew ?_ | (with_reducible refine Ext.setAt ?_ _ _ _ ?_; rotate_left; omega) | with_reducible refine Ext.trans ?_ (by assumption) | with_reducible exact Past.bel _ | with_reducible refine Ext.trans ?_ (Past.bel _))))).mono ?_); rintro e w' ⟨rfl, hx⟩; (first | (obtain ⟨wx, rfl⟩ := Past.again hx) | (obtain ⟨wx, rfl⟩ := Past.ofd hx) | (obtain ⟨wx, rfl⟩ := Past.of hx)))) | (go_at_call 30; ((with_reducible refine (notched_v B.out (H.out.ext (by repeat (first | with_reducible exact Ext.refl _ | with_reducible assumption | with_reducible refine Ext.alloc ?_ _ | with_reducible refine Ext.drew ?_ | (with_reducible refine Ext.setAt ?_ _ _ _ ?_; rotate_left; omega) | with_reducible refine Ext.trans ?_ (by assumption) | with_reducible exact Past.bel _ | with_reducible refine Ext.trans ?_ (Past.bel _)))) y).mono ?_); rintro e w' ⟨rfl, hx⟩; (first | (obtain ⟨wx, rfl⟩ := Past.again hx) | (obtain ⟨wx, rfl⟩ := Past.ofd hx) | (obtain ⟨wx, rfl⟩ := Past.of hx)))) | (go_at_call 31; ((with_reducible refine (isYear_c _ _).mono ?_); rintro e w' ⟨rfl, rfl⟩)))
        go_ret2
        exact CmR.none (by simp [cmC, cmB, h1, h2, h3]) (by omega) (by repeat (first | with_reducible exact Ext.refl _ | with_reducible assumption | with_reducible refine Ext.alloc ?_ _ | with_reducible refine Ext.drew ?_ | (with_reducible refine Ext.setAt ?_ _ _ _ ?_; rotate_left; omega) | with_reducible refine Ext.trans ?_ (by assumption) | with_reducible exact Past.bel _ | with_reducible refine Ext.trans ?_ (Past.bel _)))
      · have h2' := inB_t.1 (show inB y 1 260 = true by have := notch (n := c.n) (y := y) B.out.n1; rw [h2, Bool.and_eq_true] at this; exact this.1)
        have h2'' : y * (c.n : Int) ≤ 260 := by have := notch (n := c.n) (y := y) B.out.n1; rw [h2, Bool.and_eq_true, decide_eq_true_eq] at this; exact this.2
        have h3' := inB_t.1 h3
        cases h4 : inB (f + y - 1) 0 9999
        · go_enter Try.func9, Try.ntmps9
          go_wp2_with (first | (go_at_call 29; ((with_reducible refine (validCalendar_v wk (H.out.ext (by repeat (first | with_reducible exact Ext.refl _ | with_reducible assumption | with_reducible refine Ext.alloc ?_ _ | with_reducible refine Ext.drew ?_ | (with_reducible refine Ext.setAt ?_ _ _ _ ?_; rotate_left; omega) | with_reducible refine Ext.trans ?_ (by assumption) | with_reducible exact Past.bel _ | with_reducible refine Ext.trans ?_ (Past.bel _))))).mono ?_); rintro e w' ⟨rfl, hx⟩; (first | (obtain ⟨wx, rfl⟩ := Past.again hx) | (obtain ⟨wx, rfl⟩ := Past.ofd hx) | (obtain ⟨wx, rfl⟩ := Past.of hx)))) | (go_at_call 30; ((with_reducible refine (notched_v B.out (H.out.ext (by repeat (first | with_reducible exact Ext.refl _ | with_reducible assumption | with_reducible refine Ext.alloc ?_ _ | with_reducible refine Ext.drew ?_ | (with_reducible refine Ext.setAt ?_ _ _ _ ?_; rotate_left; omega) | with_reducible refine Ext.trans ?_ (by assumption) | with_reducible exact Past.bel _ | with_reducible refine Ext.trans ?_ (Past.bel _)))) y).mono ?_); rintro e w' ⟨rfl, hx⟩; (first | (obtain ⟨wx, rfl⟩ := Past.again hx) | (obtain ⟨wx, rfl⟩ := Past.ofd hx) | (obtain ⟨wx, rfl⟩ := Past.of hx)))) | (go_at_call 31; ((with_reducible refine (isYear_c _ _).mono ?_); rintro e w' ⟨rfl, rfl⟩)))
          go_ret2
          exact CmR.none (by simp [cmC, cmB, h1, h2, h3, h4]) (by omega) (by repeat (first | with_reducible exact Ext.refl _ | with_reducible assumption | with_reducible refine Ext.alloc ?_ _ | with_reducible refine Ext.drew ?_ | (with_reducible refine Ext.setAt ?_ _ _ _ ?_; rotate_left; omega) | with_reducible refine Ext.trans ?_ (by assumption) | with_reducible exact Past.bel _ | with_reducible refine Ext.trans ?_ (Past.bel _)))
        · have hk : cmC s nm c wk f y = 0 := by simp [cmC, cmB, h1, h2, h3, h4]
          have hr : cmL s nm c wk f y = outs (camF c f.toNat) (y.toNat * c.n) := by rw [cmL, if_pos hk]
          obtain ⟨F, rfl⟩ := Int.eq_ofNat_of_zero_le h3'.1
          obtain ⟨Y, rfl⟩ := Int.eq_ofNat_of_zero_le (show 0 ≤ y by omega)
          have hYn : Y * c.n ≤ 260 := by have e : ((Y * c.n : Nat) : Int) = (Y : Int) * (c.n : Int) := by simp
                                         omega
          simp only [Int.toNat_natCast] at hr
          have HK := Lib.hid hk
          have HR := Lib.hid hr
          have n1 := B.out.n1
          have n20 := B.out.n20
          clear hk hr h2''
          go_enter Try.func9, Try.ntmps9
          go_wp2_with (first | (go_at_call 29; ((with_reducible refine (validCalendar_v wk (H.out.ext (by repeat (first | with_reducible exact Ext.refl _ | with_reducible assumption | with_reducible refine Ext.alloc ?_ _ | with_reducible refine Ext.drew ?_ | (with_reducible refine Ext.setAt ?_ _ _ _ ?_; rotate_left; omega) | with_reducible refine Ext.trans ?_ (by assumption) | with_reducible exact Past.bel _ | with_reducible refine Ext.trans ?_ (Past.bel _))))).mono ?_); rintro e w' ⟨rfl, hx⟩; (first | (obtain ⟨wx, rfl⟩ := Past.again hx) | (obtain ⟨wx, rfl⟩ := Past.ofd hx) | (obtain ⟨wx, rfl⟩ := Past.of hx)))) | (go_at_call 30; ((with_reducible refine (notched_v B.out (H.out.ext (by repeat (first | with_reducible exact Ext.refl _ | with_reducible assumption | with_reducible refine Ext.alloc ?_ _ | with_reducible refine Ext.drew ?_ | (with_reducible refine Ext.setAt ?_ _ _ _ ?_; rotate_left; omega) | with_reducible refine Ext.trans ?_ (by assumption) | with_reducible exact Past.bel _ | with_reducible refine Ext.trans ?_ (Past.bel _)))) _).mono ?_); rintro e w' ⟨rfl, hx⟩; (first | (obtain ⟨wx, rfl⟩ := Past.again hx) | (obtain ⟨wx, rfl⟩ := Past.ofd hx) | (obtain ⟨wx, rfl⟩ := Past.of hx)))) | (go_at_call 31; ((with_reducible refine (isYear_c _ _).mono ?_); rintro e w' ⟨rfl, rfl⟩)))
          clear h2 h3 h4
          go_loopw [8, 9] (fun v y wr => ∃ i : Nat, i ≤ Y ∧ y = .int .i64 ((F : Int) + i) ∧ Ext (w.alloc (.cells #[.string s, .slice ma c.n mc, .slice ra c.nr rc, .int .i64 wk] 33)) wr ∧ wr.ownsRow (w.alloc (.cells #[.string s, .slice ma c.n mc, .slice ra c.nr rc, .int .i64 wk] 33)).heap.size 2 1 v (outs (camF c F) (i * c.n)).length ((outs (camF c F) (i * c.n)).map (Value.int .i64))) (fun _ y _ => F + Y - (intOf y).toNat)
          case atStart => exact ⟨0, by omega, by simp, (by repeat (first | with_reducible exact Ext.refl _ | with_reducible assumption | with_reducible refine Ext.alloc ?_ _ | with_reducible refine Ext.drew ?_ | (with_reducible refine Ext.setAt ?_ _ _ _ ?_; rotate_left; omega) | with_reducible refine Ext.trans ?_ (by assumption) | with_reducible exact Past.bel _ | with_reducible refine Ext.trans ?_ (Past.bel _))), by simp only [Nat.zero_mul]; exact World.ownsRow_nil _ _ _ _⟩
          case round =>
            obtain ⟨i, hi, rfl, hbl, ho⟩ := hrel
            have HO := Lib.hid ho
            have hp := HPP.out.ext hbl
            have g0 := hp.lt
            have p0 := hp.c0
            have p1 := hp.c1
            have p2 := hp.c2
            have p3 := hp.c3
            have HBL := Lib.hid hbl
            have hb0 : Ext w wr := Ext.trans (by repeat (first | with_reducible exact Ext.refl _ | with_reducible assumption | with_reducible refine Ext.alloc ?_ _ | with_reducible refine Ext.drew ?_ | (with_reducible refine Ext.setAt ?_ _ _ _ ?_; rotate_left; omega) | with_reducible refine Ext.trans ?_ (by assumption) | with_reducible exact Past.bel _ | with_reducible refine Ext.trans ?_ (Past.bel _))) hbl
            clear ho hp
            by_cases hlt : i < Y
            · have hin : (i + 1) * c.n ≤ Y * c.n := Nat.mul_le_mul_right _ hlt
              rw [Nat.add_mul, Nat.one_mul] at hin
              obtain ⟨L, hL⟩ : ∃ L, L = c.leap ((F : Int) + i) := ⟨_, rfl⟩
              have HLP := Lib.hid (fun W (hq : Ext w W) => (hL ▸ isLeap_v (wk := wk) B.out (H.out.ext hq) (show 0 ≤ (F : Int) + i by omega) (by omega) : Calls Try.prog 32 #[.agg #[.string s, .slice ma c.n mc, .slice ra c.nr rc, .int .i64 wk], .int .i64 ((F : Int) + i)] W fun e w' => e = .returned (.bool L) ∧ Ext W w'))
              have HDM := Lib.hid (fun W (hq : Ext w W) (j : Nat) (hj : j < c.n) => (hL ▸ daysOfMonth_v (wk := wk) (H.out.ext hq) ((F : Int) + i) hj : Calls Try.prog 33 #[.agg #[.string s, .slice ma c.n mc, .slice ra c.nr rc, .int .i64 wk], .bool L, .int .i64 ((j : Int) + 1)] W fun e w' => e = .returned (.int .i64 (c.mo ((F : Int) + i) j)) ∧ Ext W w'))
              clear hL
              go_wp2_with (go_at_call 32; ((with_reducible refine (HLP.out _ (by repeat (first | with_reducible exact Ext.refl _ | with_reducible assumption | with_reducible refine Ext.alloc ?_ _ | with_reducible refine Ext.drew ?_ | (with_reducible refine Ext.setAt ?_ _ _ _ ?_; rotate_left; omega) | with_reducible refine Ext.trans ?_ (by assumption) | with_reducible exact Past.bel _ | with_reducible refine Ext.trans ?_ (Past.bel _)))).mono ?_); rintro e w' ⟨rfl, hx⟩; (first | (obtain ⟨wx, rfl⟩ := Past.again hx) | (obtain ⟨wx, rfl⟩ := Past.ofd hx) | (obtain ⟨wx, rfl⟩ := Past.of hx))))
              have HX1 := Lib.hid (show Ext (w.alloc (.cells #[.string s, .slice ma c.n mc, .slice ra c.nr rc, .int .i64 wk] 33)) wx.out from Ext.trans HBL.out (Past.bel wx))
              have HO1 := Lib.hid (own_ext HO.out (Past.bel wx))
              clear p0 p1 p2 p3 g0
              go_loopw [8, 46] (fun v m ws => ∃ j : Nat, j ≤ c.n ∧ m = .int .i64 (j : Nat) ∧ Ext (w.alloc (.cells #[.string s, .slice ma c.n mc, .slice ra c.nr rc, .int .i64 wk] 33)) ws ∧ ws.ownsRow (w.alloc (.cells #[.string s, .slice ma c.n mc, .slice ra c.nr rc, .int .i64 wk] 33)).heap.size 2 1 v (outs (camF c F) (i * c.n + j)).length ((outs (camF c F) (i * c.n + j)).map (Value.int .i64))) (fun _ m _ => c.n - (intOf m).toNat)
              case atStart => exact ⟨0, by omega, rfl, HX1.out, HO1.out⟩
              case round =>
                obtain ⟨j, hj, rfl, hbl2, ho2⟩ := hrel
                have HO2 := Lib.hid ho2
                have hp2 := HPP.out.ext hbl2
                have g1 := hp2.lt
                have p0 := hp2.c0
                have p1 := hp2.c1
                have p2 := hp2.c2
                have p3 := hp2.c3
                have hb2 := Ext.trans (show Ext w (w.alloc (.cells #[.string s, .slice ma c.n mc, .slice ra c.nr rc, .int .i64 wk] 33)) from (by repeat (first | with_reducible exact Ext.refl _ | with_reducible assumption | with_reducible refine Ext.alloc ?_ _ | with_reducible refine Ext.drew ?_ | (with_reducible refine Ext.setAt ?_ _ _ _ ?_; rotate_left; omega) | with_reducible refine Ext.trans ?_ (by assumption) | with_reducible exact Past.bel _ | with_reducible refine Ext.trans ?_ (Past.bel _)))) hbl2
                clear ho2 hp2
                have hlen := outs_len (camF c F) (i * c.n + j)
                by_cases hjn : j < c.n
                · have hca := camF_at (c := c) (f := F) (i := i) hjn
                  have e0 : (F : Int) + (i : Int) = ((F + i : Nat) : Int) := by omega
                  have hst : outs (camF c F) (i * c.n + (j + 1)) = outs (camF c F) (i * c.n + j) ++ [c.mo ((F : Int) + (i : Int)) j] := by
                    rw [e0, ← hca]; rfl
                  have HST := Lib.hid hst
                  clear hca hst e0
                  go_wp2_with (first | (go_at_call 33; ((with_reducible refine (HDM.out _ (by repeat (first | with_reducible exact Ext.refl _ | with_reducible assumption | with_reducible refine Ext.alloc ?_ _ | with_reducible refine Ext.drew ?_ | (with_reducible refine Ext.setAt ?_ _ _ _ ?_; rotate_left; omega) | with_reducible refine Ext.trans ?_ (by assumption) | with_reducible exact Past.bel _ | with_reducible refine Ext.trans ?_ (Past.bel _))) j hjn).mono ?_); rintro e w' ⟨rfl, hx⟩; (first | (obtain ⟨wx, rfl⟩ := Past.again hx) | (obtain ⟨wx, rfl⟩ := Past.ofd hx) | (obtain ⟨wx, rfl⟩ := Past.of hx)))) | (at_builtin; refine app1 (w0 := (w.alloc (.cells #[.string s, .slice ma c.n mc, .slice ra c.nr rc, .int .i64 wk] 33))) 27 2 _ _ rfl rfl Try.underlying27 info_i64 _ (outs (camF c F) (i * c.n + j)) (c.mo ((F : Int) + (i : Int)) j) _ rfl rfl (own_ext HO2.out (by repeat (first | with_reducible exact Ext.refl _ | with_reducible assumption | with_reducible refine Ext.alloc ?_ _ | with_reducible refine Ext.drew ?_ | (with_reducible refine Ext.setAt ?_ _ _ _ ?_; rotate_left; omega) | with_reducible refine Ext.trans ?_ (by assumption) | with_reducible exact Past.bel _ | with_reducible refine Ext.trans ?_ (Past.bel _)))) (by simp [go_sem]) (by omega) (by repeat (first | with_reducible exact Ext.refl _ | with_reducible assumption | with_reducible refine Ext.alloc ?_ _ | with_reducible refine Ext.drew ?_ | (with_reducible refine Ext.setAt ?_ _ _ _ ?_; rotate_left; omega) | with_reducible refine Ext.trans ?_ (by assumption) | with_reducible exact Past.bel _ | with_reducible refine Ext.trans ?_ (Past.bel _))) ?_; intro v1 w1 ho1 hx1))
                  exact ⟨⟨j + 1, by omega, by go_num, hx1, by rw [HST.out]; exact ho1⟩, by simp [intOf]; omega⟩
                · have hj2 : j = c.n := by omega
                  have e1 : i * c.n + j = (i + 1) * c.n := by rw [hj2, Nat.add_mul, Nat.one_mul]
                  rw [e1] at HO2
                  have x3 : (c.n : Int) ≤ (j : Int) := by omega
                  clear e1 hj2 hlen
                  go_wp2_with fail
                  exact ⟨⟨i + 1, by omega, by go_num, hbl2, HO2.out⟩, by simp [intOf]; omega⟩
            · have hiY : i = Y := by omega
              rw [hiY] at HO
              obtain ⟨bb, cap, rfl⟩ := own_form HO.out
              have x3 : (Y : Int) ≤ (i : Int) := by omega
              clear hiY
              go_wp2_with fail
              go_ret2
              exact ⟨bb, cap, ret_two (by rw [HR.out]; rfl) (congrArg _ HK.out.symm), hb0, by rw [HR.out]; exact own_base HO.out (by simp)⟩
end
end Go.Proofs.Ytkihjplemnndeaa

namespace Go.Proofs.Ytkihjplemnndeaa
set_option linter.unusedVariables false
/-- the decimal digits of k, none of 0 -/
def digs (k : Nat) : List UInt8 := if h : k = 0 then [] else digs (k / 10) ++ [UInt8.ofNat (48 + k % 10)]
  termination_by k
  decreasing_by omega
theorem digs_zero : digs 0 = [] := by rw [digs]; simp
theorem digs_step {k : Nat} (h : k ≠ 0) : digs k = digs (k / 10) ++ [UInt8.ofNat (48 + k % 10)] := by rw [digs]; simp [h]
theorem digs_len (k : Nat) (m : Nat) (h : k < 10 ^ m) : (digs k).length ≤ m := by
  induction m generalizing k with
  | zero => have : k = 0 := by omega
            subst this; rw [digs_zero]; simp
  | succ m ih =>
    by_cases e : k = 0
    · subst e; rw [digs_zero]; simp
    · rw [digs_step e, List.length_append, List.length_singleton]
      have := ih (k / 10) (by rw [Nat.pow_succ] at h; omega)
      omega
/-- the text of mark k -/
def markT (k : Nat) : ByteArray := if k = 0 then ⟨#[109, 48]⟩ else ⟨#[109]⟩ ++ ⟨(digs k).toArray⟩
end Go.Proofs.Ytkihjplemnndeaa

namespace Go.Proofs.Ytkihjplemnndeaa
open Go.RowKit
set_option linter.unusedVariables false
set_option linter.unusedSimpArgs false

theorem u8_dig {k : Nat} : ((UInt8.ofNat (48 + k % 10)).toNat : Int) = 48 + ((k % 10 : Nat) : Int) := by
  have h : (48 + k % 10) % 256 = 48 + k % 10 := Nat.mod_eq_of_lt (by omega)
  rw [UInt8.toNat_ofNat', h]; omega
set_option maxHeartbeats 1000000 in
theorem markText_c (k : Nat) (w : World) (hk : k ≤ 100000000) :
    Calls Try.prog 60 #[.int .i64 (k : Nat)] w fun e w' => e = .returned (.string (markT k)) ∧ Ext w w' := by
  by_cases h0 : k = 0
  · subst h0
    go_enter Try.func60, Try.ntmps60
    go_wp2
    go_ret
    exact ⟨rfl, (by repeat (first | with_reducible exact Ext.refl _ | with_reducible assumption | with_reducible refine Ext.alloc ?_ _ | with_reducible refine Ext.drew ?_ | (with_reducible refine Ext.setAt ?_ _ _ _ ?_; rotate_left; omega) | with_reducible refine Ext.trans ?_ (by assumption) | with_reducible exact Past.bel _ | with_reducible refine Ext.trans ?_ (Past.bel _)))⟩
  · have hl := digs_len k 9 (by omega)
    have HL := Lib.hid hl
    clear hl
    have x0 : ¬ (k : Int) ≤ 0 := by omega
    go_enter Try.func60, Try.ntmps60
    go_wp2_with fail
    go_loopw [0, 3] (fun i s wr => ∃ (j : Nat) (B : ByteArray), i = .int .i64 (j : Nat) ∧ j ≤ k ∧ s = .string B ∧ Ext w wr ∧ digs k = digs j ++ B.data.toList) (fun i _ _ => (intOf i).toNat)
    case atStart => exact ⟨k, ⟨#[]⟩, rfl, by omega, rfl, (by repeat (first | with_reducible exact Ext.refl _ | with_reducible assumption | with_reducible refine Ext.alloc ?_ _ | with_reducible refine Ext.drew ?_ | (with_reducible refine Ext.setAt ?_ _ _ _ ?_; rotate_left; omega) | with_reducible refine Ext.trans ?_ (by assumption) | with_reducible exact Past.bel _ | with_reducible refine Ext.trans ?_ (Past.bel _))), by simp⟩
    case round =>
      obtain ⟨j, B, rfl, hj, rfl, hbl, hd⟩ := hrel
      by_cases hlt : 0 < j
      · have hll : B.size ≤ 9 := by
          have h1 := HL.out
          rw [hd, List.length_append] at h1
          have h2 : B.size = B.data.toList.length := Array.length_toList.symm
          omega
        have hd2 : digs k = digs (j / 10) ++ (UInt8.ofNat (48 + j % 10) :: B.data.toList) := by rw [hd, digs_step (by omega)]; simp
        have HD := Lib.hid hd2
        clear hd hd2
        have y0 : (0 : Int) < (j : Int) := by omega
        have hcv : Sem.run Try.prog (convert 98 9 (Value.slice (some ⟨wr.heap.size, 0, none⟩) 1 1)) (wr.alloc (.cells #[.int .u8 (48 + (j : Int) % 10)] 5)) = .ok (.string ⟨#[UInt8.ofNat (48 + j % 10)]⟩) (wr.alloc (.cells #[.int .u8 (48 + (j : Int) % 10)] 5)) := by
          refine run_convert_bytes_back _ _ _ 5 _ 1 [UInt8.ofNat (48 + j % 10)] (by kernel_rfl) (by kernel_rfl) (by kernel_rfl) fun i hi => ?_
          obtain rfl : i = 0 := by simpa using hi
          simp only [List.getElem_cons_zero, u8_dig]
          simp [Addr.add, go_sem]
        go_wp2_with fail
        exact ⟨⟨j / 10, _, by go_num, by omega, rfl, (by repeat (first | with_reducible exact Ext.refl _ | with_reducible assumption | with_reducible refine Ext.alloc ?_ _ | with_reducible refine Ext.drew ?_ | (with_reducible refine Ext.setAt ?_ _ _ _ ?_; rotate_left; omega) | with_reducible refine Ext.trans ?_ (by assumption) | with_reducible exact Past.bel _ | with_reducible refine Ext.trans ?_ (Past.bel _))), by rw [HD.out]; simp [ByteArray.data_append]⟩, by simp [intOf]; omega⟩
      · obtain rfl : j = 0 := by omega
        have e1 : digs k = B.data.toList := by rw [hd, digs_zero]; rfl
        have hll : B.size ≤ 9 := by
          have h1 := HL.out
          rw [e1] at h1
          have h2 : B.size = B.data.toList.length := Array.length_toList.symm
          omega
        have E1 := Lib.hid e1
        clear hd e1
        go_wp2_with fail
        go_ret
        refine ⟨?_, (by repeat (first | with_reducible exact Ext.refl _ | with_reducible assumption | with_reducible refine Ext.alloc ?_ _ | with_reducible refine Ext.drew ?_ | (with_reducible refine Ext.setAt ?_ _ _ _ ?_; rotate_left; omega) | with_reducible refine Ext.trans ?_ (by assumption) | with_reducible exact Past.bel _ | with_reducible refine Ext.trans ?_ (Past.bel _)))⟩
        have h3 : markT k = ⟨#[109]⟩ ++ B := by
          rw [markT, if_neg h0, E1.out]
        rw [h3]; rfl
end Go.Proofs.Ytkihjplemnndeaa

namespace Go.Proofs.Ytkihjplemnndeaa
open Go.RowKit
set_option linter.unusedVariables false
set_option linter.unusedSimpArgs false

theorem grown_weak {w w' : World} {row : Option Nat} (h : w.grownBy w' none) : w.grownBy w' row := ⟨h.os, h.tape, h.output, h.size, fun k hk _ => h.block k hk (by simp)⟩
/-- A slice of texts. -/
def SS (w : World) (a : Option Addr) (n : Nat) (s : Nat → ByteArray) : Prop :=
  0 < n → ∃ b off, a = some ⟨b, off, none⟩ ∧ b < w.heap.size ∧ ∀ j, j < n → w.cell? ⟨b, off + j, none⟩ = some (.string (s j))
theorem SS.ext {w w' : World} {a : Option Addr} {n : Nat} {s : Nat → ByteArray} (h : SS w a n s) (e : Ext w w') : SS w' a n s := fun hn => by
  obtain ⟨b, off, ha, hb, hc⟩ := h hn
  exact ⟨b, off, ha, Nat.lt_of_lt_of_le hb e.size, fun j hj => by rw [e.cell hb]; exact hc j hj⟩
theorem SS.at {w : World} {a : Option Addr} {n : Nat} {s : Nat → ByteArray} (h : SS w a n s) {j : Nat} (hj : j < n) :
    ∃ b off, a = some ⟨b, off, none⟩ ∧ b < w.heap.size ∧ w.cell? ⟨b, off + j, none⟩ = some (.string (s j)) := by
  obtain ⟨b, off, ha, hb, hc⟩ := h (by omega)
  exact ⟨b, off, ha, hb, hc j hj⟩
theorem own_ss {w : World} {base : Nat} {e : TypeId} {a : Option Addr} {n cap : Nat} {l : List ByteArray} (h : w.ownsRow base e 1 (.slice a n cap) n (l.map Value.string)) : SS w a n (fun j => l.getD j ⟨#[]⟩) := fun hn => by
  obtain ⟨g, rfl, _, hg, _⟩ := own_at h hn
  have hl : l.length = n := by simpa using h.1
  refine ⟨g, 0, rfl, hg, fun j hj => ?_⟩
  rw [Nat.zero_add, h.cellAt j (by omega)]
  simp [List.getD, show j < l.length by omega]
/-- the first j places of a list, marked -/
def markedF (F : Nat → Value) (xs : List Value) : Nat → List Value
  | 0 => xs
  | j + 1 => (markedF F xs j).set j (F j)
theorem markedF_length (F : Nat → Value) (xs : List Value) (j : Nat) : (markedF F xs j).length = xs.length := by
  induction j with
  | zero => rfl
  | succ j ih => simp [markedF, ih]
theorem markedF_at (F : Nat → Value) (xs : List Value) {j i : Nat} (hi : i < j) (hx : i < xs.length) : (markedF F xs j)[i]? = some (F i) := by
  induction j with
  | zero => omega
  | succ j ih =>
    simp only [markedF]
    by_cases e : i = j
    · subst e; rw [List.getElem?_set_self (by rw [markedF_length]; exact hx)]
    · rw [List.getElem?_set_ne (by omega)]; exact ih (by omega)
def mT (k : Nat) (j : Nat) : Value := .string (markT (k + j))
theorem markText_i (k j : Nat) (w : World) (hk : k + j ≤ 100000000) :
    Calls Try.prog 60 #[.int .i64 ((k : Int) + (j : Int))] w fun e w' => e = .returned (.string (markT (k + j))) ∧ Ext w w' := by
  have := markText_c (k + j) w hk
  simpa using this
def calNames : List ByteArray := [⟨#[101, 103, 121, 112, 116, 105, 97, 110]⟩, ⟨#[102, 105, 120, 101, 100]⟩, ⟨#[103, 114, 101, 103, 111, 114, 105, 97, 110]⟩, ⟨#[106, 117, 108, 105, 97, 110]⟩]
end Go.Proofs.Ytkihjplemnndeaa

namespace Go.Proofs.Ytkihjplemnndeaa
open Go.RowKit
set_option linter.unusedVariables false
set_option linter.unusedSimpArgs false

theorem own_at3 {w : World} {base : Nat} {e : TypeId} {n : Nat} {xs : List Value} {a : Option Addr} {cap j : Nat} (h : w.ownsRow base e 3 (.slice a n cap) n xs) (hj : j < n) :
    ∃ g, a = some ⟨g, 0, none⟩ ∧ base ≤ g ∧ g < w.heap.size ∧ (w.cell? ⟨g, j * 3, none⟩ = xs[j * 3]? ∧ w.frozen? ⟨g, j * 3, none⟩ = false) ∧ (w.cell? ⟨g, j * 3 + 1, none⟩ = xs[j * 3 + 1]? ∧ w.frozen? ⟨g, j * 3 + 1, none⟩ = false) ∧ w.cell? ⟨g, j * 3 + 2, none⟩ = xs[j * 3 + 2]? ∧ w.frozen? ⟨g, j * 3 + 2, none⟩ = false := by
  rcases h.2 with ⟨h1, h2⟩ | ⟨g, cap', cur, h1, hb, hg, h2, h3, h4, h5⟩
  · omega
  · simp only [Value.slice.injEq, true_and] at h1
    obtain ⟨rfl, rfl⟩ := h1
    exact ⟨g, rfl, hb, (Array.getElem?_eq_some_iff.1 hg).1, ⟨h.cellAt _ (by omega), h.frozenAt _⟩, ⟨h.cellAt _ (by omega), h.frozenAt _⟩, h.cellAt _ (by omega), h.frozenAt _⟩
set_option maxHeartbeats 1000000 in
theorem markMonthS_c (a : Option Addr) (n c base : Nat) (k0 : Nat) (xs : List Value) (w : World) (hn : n ≤ 1048576) (h1 : k0 ≤ 4000000) (hs : w.ownsRow base 83 3 (.slice a n c) n xs) :
    Calls Try.prog 36 #[.slice a n c, .int .i64 (k0 : Nat)] w fun e w' => ∃ m : Nat, e = .returned (.int .i64 (m : Nat)) ∧ m ≤ k0 + 3 * n ∧ w.grownBy w' (Value.slice a n c).ownBlock := by
  have HS := Lib.hid hs
  have hl : xs.length = n * 3 := hs.1
  clear hs
  go_enter Try.func36, Try.ntmps36
  go_wp2_with fail
  go_loopw [1, 5] (fun q i wr => ∃ (j m : Nat) (ys : List Value), j ≤ n ∧ i = .int .i64 j ∧ m = k0 + 3 * j ∧ q = .int .i64 (m : Nat) ∧ ys.length = n * 3 ∧ wr.ownsRow base 83 3 (.slice a n c) n ys ∧ w.grownBy wr (Value.slice a n c).ownBlock) (fun _ i _ => n - (intOf i).toNat)
  case atStart => exact ⟨0, k0, xs, by omega, rfl, by omega, rfl, hl, HS.out, World.grownBy.refl _ _⟩
  case round =>
    obtain ⟨j, m, ys, hj, rfl, hm, rfl, hy, ho, hg⟩ := hrel
    have HY := Lib.hid hy
    by_cases hlt : j < n
    · obtain ⟨g, rfl, hb1, hb2, ⟨q1, q2⟩, ⟨q3, q4⟩, q5, q6⟩ := own_at3 ho hlt
      have HO := Lib.hid ho
      have HG := Lib.hid hg
      obtain ⟨v1, r1⟩ : ∃ v, wr.cell? ⟨g, j * 3, none⟩ = some v := ⟨ys[j * 3]'(by omega), by rw [q1]; exact List.getElem?_eq_getElem _⟩
      obtain ⟨v2, r2⟩ : ∃ v, wr.cell? ⟨g, j * 3 + 1, none⟩ = some v := ⟨ys[j * 3 + 1]'(by omega), by rw [q3]; exact List.getElem?_eq_getElem _⟩
      obtain ⟨v3, r3⟩ : ∃ v, wr.cell? ⟨g, j * 3 + 2, none⟩ = some v := ⟨ys[j * 3 + 2]'(by omega), by rw [q5]; exact List.getElem?_eq_getElem _⟩
      have hmb : m ≤ 8000000 := by omega
      have HMM := Lib.hid hm
      clear q1 q3 q5 ho hg hy hl hm
      go_wp2_with (go_at_call 60; ((with_reducible refine (markText_c _ _ (by omega)).mono ?_); rintro e w' ⟨rfl, hx⟩; (first | (obtain ⟨wx, rfl⟩ := Past.again hx) | (obtain ⟨wx, rfl⟩ := Past.ofd hx) | (obtain ⟨wx, rfl⟩ := Past.of hx))))
      exact ⟨⟨j + 1, m + 3, _, by omega, by go_num, (by have := HMM.out; omega), congrArg _ (by omega), by simpa using HY.out, own_set (own_set (own_set (own_ext HO.out (Past.bel wx)) _) _) _, grown_trans (grown_trans (grown_trans (grown_trans HG.out (grown_weak (ext_grown (Past.bel wx)))) (grown_set _ _ _)) (grown_set _ _ _)) (grown_set _ _ _)⟩, by simp [intOf]; omega⟩
    · obtain rfl : j = n := by omega
      have HG := Lib.hid hg
      have HMM := Lib.hid hm
      clear ho hg hm
      go_wp2_with fail
      go_ret
      exact ⟨m, rfl, by have := HMM.out; omega, HG.out⟩
set_option maxHeartbeats 1000000 in
theorem markLeapRuleS_c (a : Option Addr) (n c base : Nat) (k0 : Nat) (xs : List Value) (w : World) (hn : n ≤ 1048576) (h1 : k0 ≤ 4000000) (hs : w.ownsRow base 86 3 (.slice a n c) n xs) :
    Calls Try.prog 37 #[.slice a n c, .int .i64 (k0 : Nat)] w fun e w' => ∃ m : Nat, e = .returned (.int .i64 (m : Nat)) ∧ m ≤ k0 + 3 * n ∧ w.grownBy w' (Value.slice a n c).ownBlock := by
  have HS := Lib.hid hs
  have hl : xs.length = n * 3 := hs.1
  clear hs
  go_enter Try.func37, Try.ntmps37
  go_wp2_with fail
  go_loopw [1, 5] (fun q i wr => ∃ (j m : Nat) (ys : List Value), j ≤ n ∧ i = .int .i64 j ∧ m = k0 + 3 * j ∧ q = .int .i64 (m : Nat) ∧ ys.length = n * 3 ∧ wr.ownsRow base 86 3 (.slice a n c) n ys ∧ w.grownBy wr (Value.slice a n c).ownBlock) (fun _ i _ => n - (intOf i).toNat)
  case atStart => exact ⟨0, k0, xs, by omega, rfl, by omega, rfl, hl, HS.out, World.grownBy.refl _ _⟩
  case round =>
    obtain ⟨j, m, ys, hj, rfl, hm, rfl, hy, ho, hg⟩ := hrel
    have HY := Lib.hid hy
    by_cases hlt : j < n
    · obtain ⟨g, rfl, hb1, hb2, ⟨q1, q2⟩, ⟨q3, q4⟩, q5, q6⟩ := own_at3 ho hlt
      have HO := Lib.hid ho
      have HG := Lib.hid hg
      obtain ⟨v1, r1⟩ : ∃ v, wr.cell? ⟨g, j * 3, none⟩ = some v := ⟨ys[j * 3]'(by omega), by rw [q1]; exact List.getElem?_eq_getElem _⟩
      obtain ⟨v2, r2⟩ : ∃ v, wr.cell? ⟨g, j * 3 + 1, none⟩ = some v := ⟨ys[j * 3 + 1]'(by omega), by rw [q3]; exact List.getElem?_eq_getElem _⟩
      obtain ⟨v3, r3⟩ : ∃ v, wr.cell? ⟨g, j * 3 + 2, none⟩ = some v := ⟨ys[j * 3 + 2]'(by omega), by rw [q5]; exact List.getElem?_eq_getElem _⟩
      have hmb : m ≤ 8000000 := by omega
      have HMM := Lib.hid hm
      clear q1 q3 q5 ho hg hy hl hm
      go_wp2_with fail
      exact ⟨⟨j + 1, m + 3, _, by omega, by go_num, (by have := HMM.out; omega), congrArg _ (by omega), by simpa using HY.out, own_set (own_set (own_set HO.out _) _) _, grown_trans (grown_trans (grown_trans HG.out (grown_set _ _ _)) (grown_set _ _ _)) (grown_set _ _ _)⟩, by simp [intOf]; omega⟩
    · obtain rfl : j = n := by omega
      have HG := Lib.hid hg
      have HMM := Lib.hid hm
      clear ho hg hm
      go_wp2_with fail
      go_ret
      exact ⟨m, rfl, by have := HMM.out; omega, HG.out⟩
set_option maxHeartbeats 1000000 in
theorem markCalendar_c (s : ByteArray) (g1 g2 b1 b2 n nr : Nat) (wk : Int) (xs ys : List Value) (w : World) (hn : n ≤ 1048576) (hr : nr ≤ 1048576) (h1 : w.ownsRow b1 83 3 (.slice (some ⟨g1, 0, none⟩) n n) n xs) (h2 : w.ownsRow b2 86 3 (.slice (some ⟨g2, 0, none⟩) nr nr) nr ys) (hne : g1 ≠ g2) :
    Calls Try.prog 12 #[.agg #[.string s, .slice (some ⟨g1, 0, none⟩) n n, .slice (some ⟨g2, 0, none⟩) nr nr, .int .i64 wk], .int .i64 1] w fun e w' => ∃ m : Nat, e = .returned (.int .i64 (m : Nat)) ∧ ∃ wm, w.grownBy wm (some g1) ∧ wm.grownBy w' (some g2) := by
  have H1 := Lib.hid h1
  have H2 := Lib.hid h2
  have l1 := (h1.lt g1 rfl).2
  have l2 := (h2.lt g2 rfl).2
  clear h1 h2
  go_enter Try.func12, Try.ntmps12
  go_wp2_with fail
  refine (markMonthS_c _ _ _ _ 1 _ _ hn (by omega) (own_ext H1.out (by repeat (first | with_reducible exact Ext.refl _ | with_reducible assumption | with_reducible refine Ext.alloc ?_ _ | with_reducible refine Ext.drew ?_ | (with_reducible refine Ext.setAt ?_ _ _ _ ?_; rotate_left; omega) | with_reducible refine Ext.trans ?_ (by assumption) | with_reducible exact Past.bel _ | with_reducible refine Ext.trans ?_ (Past.bel _))))).mono ?_
  rintro e w1 ⟨m1, rfl, hm1, hg1⟩
  have hz := hg1.size
  simp only [World.size_alloc] at hz
  have HG1 := Lib.hid hg1
  have q2 : w1.cell? ⟨w.heap.size, 2, none⟩ = some (.slice (some ⟨g2, 0, none⟩) nr nr) := by
    rw [World.cell?_of_block (hg1.block w.heap.size (by simp) (by simp [Value.ownBlock]; omega))]; simp [go_sem]
  have hx : w.grownBy w1 (some g1) := grown_trans (grown_weak (ext_grown (show Ext w (w.alloc (.cells #[.string s, .slice (some ⟨g1, 0, none⟩) n n, .slice (some ⟨g2, 0, none⟩) nr nr, .int .i64 wk] 33)) from (by repeat (first | with_reducible exact Ext.refl _ | with_reducible assumption | with_reducible refine Ext.alloc ?_ _ | with_reducible refine Ext.drew ?_ | (with_reducible refine Ext.setAt ?_ _ _ _ ?_; rotate_left; omega) | with_reducible refine Ext.trans ?_ (by assumption) | with_reducible exact Past.bel _ | with_reducible refine Ext.trans ?_ (Past.bel _)))))) hg1
  have O2 := Lib.hid (H2.out.kept hx (.inr (by simp [Value.ownBlock]; omega)))
  have HX := Lib.hid hx
  clear hg1 hx
  go_wp2_with fail
  refine (markLeapRuleS_c _ _ _ _ _ _ _ hr (by omega) O2.out).mono ?_
  rintro e w2 ⟨m2, rfl, hm2, hg2⟩
  have HG2 := Lib.hid hg2
  clear hg2
  go_wp2_with fail
  go_ret
  exact ⟨_, rfl, w1, HX.out, HG2.out⟩
end Go.Proofs.Ytkihjplemnndeaa

namespace Go.Proofs.Ytkihjplemnndeaa
open Go.RowKit
set_option linter.unusedVariables false
set_option linter.unusedSimpArgs false

theorem eqMonth_self (s : ByteArray) (a b : Int) (w : World) :
    Calls Try.prog 58 #[.agg #[.string s, .int .i64 a, .int .i64 b], .agg #[.string s, .int .i64 a, .int .i64 b]] w fun e w' => e = .returned (.bool true) ∧ Ext w w' := by
  go_enter Try.func58, Try.ntmps58
  go_wp2
  go_ret
  exact ⟨rfl, (by repeat (first | with_reducible exact Ext.refl _ | with_reducible assumption | with_reducible refine Ext.alloc ?_ _ | with_reducible refine Ext.drew ?_ | (with_reducible refine Ext.setAt ?_ _ _ _ ?_; rotate_left; omega) | with_reducible refine Ext.trans ?_ (by assumption) | with_reducible exact Past.bel _ | with_reducible refine Ext.trans ?_ (Past.bel _)))⟩
theorem eqLeapRule_self (a b : Int) (l : Bool) (w : World) :
    Calls Try.prog 59 #[.agg #[.int .i64 a, .int .i64 b, .bool l], .agg #[.int .i64 a, .int .i64 b, .bool l]] w fun e w' => e = .returned (.bool true) ∧ Ext w w' := by
  go_enter Try.func59, Try.ntmps59
  go_wp2
  go_ret
  exact ⟨rfl, (by repeat (first | with_reducible exact Ext.refl _ | with_reducible assumption | with_reducible refine Ext.alloc ?_ _ | with_reducible refine Ext.drew ?_ | (with_reducible refine Ext.setAt ?_ _ _ _ ?_; rotate_left; omega) | with_reducible refine Ext.trans ?_ (by assumption) | with_reducible exact Past.bel _ | with_reducible refine Ext.trans ?_ (Past.bel _)))⟩
set_option maxHeartbeats 400000 in
theorem eqMonthS_self (aa ab : Option Addr) (n ca cb : Nat) (nm : Nat → ByteArray) (dy lp : Nat → Int) (w : World) (hn : n ≤ 1048576) (ha : S3 w aa n nm dy lp) (hb : S3 w ab n nm dy lp) :
    Calls Try.prog 34 #[.slice aa n ca, .slice ab n cb] w fun e w' => e = .returned (.bool true) ∧ Ext w w' := by
  have HA := Lib.hid ha
  have HB := Lib.hid hb
  clear ha hb
  go_enter Try.func34, Try.ntmps34
  go_wp2_with fail
  go_loopw [5] (fun i wr => ∃ k : Nat, k ≤ n ∧ i = .int .i64 k ∧ Ext w wr) (fun i _ => n - (intOf i).toNat)
  case atStart => exact ⟨0, by omega, rfl, Ext.refl _⟩
  case round =>
    obtain ⟨k, hk, rfl, hbl⟩ := hrel
    by_cases hlt : k < n
    · obtain ⟨b1, o1, rfl, hb1, q1, q2, q3⟩ := (S3.ext HA.out hbl).at hlt
      obtain ⟨b2, o2, rfl, hb2, q4, q5, q6⟩ := (S3.ext HB.out hbl).at hlt
      go_wp2_with fail
      refine wp_region_past (by kernel_rfl) (by kernel_rfl) ?_
      repeat (go_big_quiet_step ((go_at_call 58; exact Calls.past (eqMonth_self _ _ _ _))))
      refine wpQuiet_nil ?_
      rintro _ ⟨wx, rfl⟩
      go_wp2_with fail
      exact ⟨⟨k + 1, by omega, by go_num, (by repeat (first | with_reducible exact Ext.refl _ | with_reducible assumption | with_reducible refine Ext.alloc ?_ _ | with_reducible refine Ext.drew ?_ | (with_reducible refine Ext.setAt ?_ _ _ _ ?_; rotate_left; omega) | with_reducible refine Ext.trans ?_ (by assumption) | with_reducible exact Past.bel _ | with_reducible refine Ext.trans ?_ (Past.bel _)))⟩, by simp [intOf]; omega⟩
    · obtain rfl : k = n := by omega
      go_wp2_with fail
      go_ret
      exact ⟨rfl, hbl⟩
set_option maxHeartbeats 400000 in
theorem eqLeapRuleS_self (aa ab : Option Addr) (n ca cb : Nat) (ev rs : Nat → Int) (lf : Nat → Bool) (w : World) (hn : n ≤ 1048576) (ha : R3 w aa n ev rs lf) (hb : R3 w ab n ev rs lf) :
    Calls Try.prog 35 #[.slice aa n ca, .slice ab n cb] w fun e w' => e = .returned (.bool true) ∧ Ext w w' := by
  have HA := Lib.hid ha
  have HB := Lib.hid hb
  clear ha hb
  go_enter Try.func35, Try.ntmps35
  go_wp2_with fail
  go_loopw [5] (fun i wr => ∃ k : Nat, k ≤ n ∧ i = .int .i64 k ∧ Ext w wr) (fun i _ => n - (intOf i).toNat)
  case atStart => exact ⟨0, by omega, rfl, Ext.refl _⟩
  case round =>
    obtain ⟨k, hk, rfl, hbl⟩ := hrel
    by_cases hlt : k < n
    · obtain ⟨b1, o1, rfl, hb1, q1, q2, q3⟩ := (R3.ext HA.out hbl).at hlt
      obtain ⟨b2, o2, rfl, hb2, q4, q5, q6⟩ := (R3.ext HB.out hbl).at hlt
      go_wp2_with fail
      refine wp_region_past (by kernel_rfl) (by kernel_rfl) ?_
      repeat (go_big_quiet_step ((go_at_call 59; exact Calls.past (eqLeapRule_self _ _ _ _))))
      refine wpQuiet_nil ?_
      rintro _ ⟨wx, rfl⟩
      go_wp2_with fail
      exact ⟨⟨k + 1, by omega, by go_num, (by repeat (first | with_reducible exact Ext.refl _ | with_reducible assumption | with_reducible refine Ext.alloc ?_ _ | with_reducible refine Ext.drew ?_ | (with_reducible refine Ext.setAt ?_ _ _ _ ?_; rotate_left; omega) | with_reducible refine Ext.trans ?_ (by assumption) | with_reducible exact Past.bel _ | with_reducible refine Ext.trans ?_ (Past.bel _)))⟩, by simp [intOf]; omega⟩
    · obtain rfl : k = n := by omega
      go_wp2_with fail
      go_ret
      exact ⟨rfl, hbl⟩
end Go.Proofs.Ytkihjplemnndeaa

namespace Go.Proofs.Ytkihjplemnndeaa
open Go.RowKit
set_option linter.unusedVariables false
set_option linter.unusedSimpArgs false

set_option maxHeartbeats 400000 in
theorem eqCalendar_self (s : ByteArray) (m1 r1 m2 r2 : Option Addr) (c1 d1 c2 d2 : Nat) (wk : Int) (nm : Nat → ByteArray) (c : CalN) (w : World) (hm : c.n ≤ 1048576) (hr : c.nr ≤ 1048576) (h1 : CalM w m1 r1 nm c) (h2 : CalM w m2 r2 nm c) :
    Calls Try.prog 11 #[.agg #[.string s, .slice m1 c.n c1, .slice r1 c.nr d1, .int .i64 wk], .agg #[.string s, .slice m2 c.n c2, .slice r2 c.nr d2, .int .i64 wk]] w fun e w' => e = .returned (.bool true) ∧ Ext w w' := by
  have H1 := Lib.hid h1
  have H2 := Lib.hid h2
  clear h1 h2
  go_enter Try.func11, Try.ntmps11
  go_wp2_with fail
  refine (eqMonthS_self _ _ _ _ _ _ _ _ _ hm (H1.out.mo.ext (by repeat (first | with_reducible exact Ext.refl _ | with_reducible assumption | with_reducible refine Ext.alloc ?_ _ | with_reducible refine Ext.drew ?_ | (with_reducible refine Ext.setAt ?_ _ _ _ ?_; rotate_left; omega) | with_reducible refine Ext.trans ?_ (by assumption) | with_reducible exact Past.bel _ | with_reducible refine Ext.trans ?_ (Past.bel _)))) (H2.out.mo.ext (by repeat (first | with_reducible exact Ext.refl _ | with_reducible assumption | with_reducible refine Ext.alloc ?_ _ | with_reducible refine Ext.drew ?_ | (with_reducible refine Ext.setAt ?_ _ _ _ ?_; rotate_left; omega) | with_reducible refine Ext.trans ?_ (by assumption) | with_reducible exact Past.bel _ | with_reducible refine Ext.trans ?_ (Past.bel _))))).mono ?_
  rintro e w1 ⟨rfl, hx1⟩
  have e1 : ∀ k v, k < 4 → ((w.alloc (.cells #[.string s, .slice m1 c.n c1, .slice r1 c.nr d1, .int .i64 wk] 33)).alloc (.cells #[.string s, .slice m2 c.n c2, .slice r2 c.nr d2, .int .i64 wk] 33)).cell? ⟨w.heap.size, k, none⟩ = some v → w1.cell? ⟨w.heap.size, k, none⟩ = some v := fun k v _ h => by rw [hx1.cell (by simp <;> omega)]; exact h
  have e2 : ∀ k v, k < 4 → ((w.alloc (.cells #[.string s, .slice m1 c.n c1, .slice r1 c.nr d1, .int .i64 wk] 33)).alloc (.cells #[.string s, .slice m2 c.n c2, .slice r2 c.nr d2, .int .i64 wk] 33)).cell? ⟨w.heap.size + 1, k, none⟩ = some v → w1.cell? ⟨w.heap.size + 1, k, none⟩ = some v := fun k v _ h => by rw [hx1.cell (by simp <;> omega)]; exact h
  have a2 := e1 2 (.slice r1 c.nr d1) (by omega) (by simp [go_sem])
  have a3 := e1 3 (.int .i64 wk) (by omega) (by simp [go_sem])
  have b2 := e2 2 (.slice r2 c.nr d2) (by omega) (by simp [go_sem])
  have b3 := e2 3 (.int .i64 wk) (by omega) (by simp [go_sem])
  have z1 := hx1.size
  simp only [World.size_alloc] at z1
  have hxw : Ext w w1 := Ext.trans (by repeat (first | with_reducible exact Ext.refl _ | with_reducible assumption | with_reducible refine Ext.alloc ?_ _ | with_reducible refine Ext.drew ?_ | (with_reducible refine Ext.setAt ?_ _ _ _ ?_; rotate_left; omega) | with_reducible refine Ext.trans ?_ (by assumption) | with_reducible exact Past.bel _ | with_reducible refine Ext.trans ?_ (Past.bel _))) hx1
  clear e1 e2 hx1
  have g0 : w.heap.size < w1.heap.size := by omega
  have g1 : w.heap.size + 1 < w1.heap.size := by omega
  go_wp2_with fail
  refine (eqLeapRuleS_self _ _ _ _ _ _ _ _ _ hr (H1.out.ru.ext (by repeat (first | with_reducible exact Ext.refl _ | with_reducible assumption | with_reducible refine Ext.alloc ?_ _ | with_reducible refine Ext.drew ?_ | (with_reducible refine Ext.setAt ?_ _ _ _ ?_; rotate_left; omega) | with_reducible refine Ext.trans ?_ (by assumption) | with_reducible exact Past.bel _ | with_reducible refine Ext.trans ?_ (Past.bel _)))) (H2.out.ru.ext (by repeat (first | with_reducible exact Ext.refl _ | with_reducible assumption | with_reducible refine Ext.alloc ?_ _ | with_reducible refine Ext.drew ?_ | (with_reducible refine Ext.setAt ?_ _ _ _ ?_; rotate_left; omega) | with_reducible refine Ext.trans ?_ (by assumption) | with_reducible exact Past.bel _ | with_reducible refine Ext.trans ?_ (Past.bel _))))).mono ?_
  rintro e w2 ⟨rfl, hx2⟩
  have u3 : w2.cell? ⟨w.heap.size, 3, none⟩ = some (.int .i64 wk) := by rw [hx2.cell g0]; exact a3
  have v3 : w2.cell? ⟨w.heap.size + 1, 3, none⟩ = some (.int .i64 wk) := by rw [hx2.cell g1]; exact b3
  go_wp2_with fail
  go_ret
  exact ⟨rfl, (by repeat (first | with_reducible exact Ext.refl _ | with_reducible assumption | with_reducible refine Ext.alloc ?_ _ | with_reducible refine Ext.drew ?_ | (with_reducible refine Ext.setAt ?_ _ _ _ ?_; rotate_left; omega) | with_reducible refine Ext.trans ?_ (by assumption) | with_reducible exact Past.bel _ | with_reducible refine Ext.trans ?_ (Past.bel _)))⟩
end Go.Proofs.Ytkihjplemnndeaa

namespace Go.Proofs.Ytkihjplemnndeaa
open Go.ChangeShapes Go.WideShapes Go.RowKit Go.Deep
set_option linter.unusedVariables false

/-- what a calendar's arguments hold -/
structure CalA (w : World) (s : ByteArray) (ma ra : Option Addr) (mc rc : Nat) (nm : Nat → ByteArray) (c : CalN) : Prop where
  sz : s.size ≤ 9223372036854775807
  nz : ∀ i, i < c.n → (nm i).size ≤ 9223372036854775807
  nb : c.n ≤ maxLen
  rb : c.nr ≤ maxLen
  mem : CalM w ma ra nm c
section
variable {H : Type} {enc : TypeId × Value → H} {P : Program} {w : World} {base : Nat} {spare : Nat → Bool} {held : Bool}
theorem fld {fs : Array Field} {j : Nat} {u : TypeDesc} (h : (fs[j]?).bind (fun f => P.underlying f.type) = some u) : ∃ f, fs[j]? = some f ∧ P.underlying f.type = some u := by
  cases e : fs[j]? with
  | none => rw [e] at h; simp at h
  | some f => rw [e] at h; exact ⟨f, rfl, h⟩
theorem fldT {fs : Array Field} {j : Nat} (hj : j < fs.size) {u : TypeDesc} (h : (fs[j]?).bind (fun f => P.underlying f.type) = some u) : P.underlying fs[j].type = some u := by
  rw [Array.getElem?_eq_getElem hj] at h; exact h
theorem down_cal {t em er : TypeId} {fs fm fr : Array Field} {v : Value} {d : DataW H} {p : List MemPlace} {r : Reach} {b0 : Nat}
    (hs : P.underlying t = some (.struct fs)) (hone : oneCellFields P fs = true) (hC : P.cellsOf t = fs.size) (h4 : fs.size = 4)
    (k0 : (fs[0]?).bind (fun f => P.underlying f.type) = some .string) (k1 : (fs[1]?).bind (fun f => P.underlying f.type) = some (.slice em)) (k2 : (fs[2]?).bind (fun f => P.underlying f.type) = some (.slice er)) (k3 : (fs[3]?).bind (fun f => P.underlying f.type) = some (.int .i64))
    (hm : P.underlying em = some (.struct fm)) (honem : oneCellFields P fm = true) (hCm : P.cellsOf em = fm.size) (hm3 : fm.size = 3)
    (m0 : (fm[0]?).bind (fun f => P.underlying f.type) = some .string) (m1 : (fm[1]?).bind (fun f => P.underlying f.type) = some (.int .i64)) (m2 : (fm[2]?).bind (fun f => P.underlying f.type) = some (.int .i64))
    (hr : P.underlying er = some (.struct fr)) (honer : oneCellFields P fr = true) (hCr : P.cellsOf er = fr.size) (hr3 : fr.size = 3)
    (r0 : (fr[0]?).bind (fun f => P.underlying f.type) = some (.int .i64)) (r1 : (fr[1]?).bind (fun f => P.underlying f.type) = some (.int .i64)) (r2 : (fr[2]?).bind (fun f => P.underlying f.type) = some .bool)
    (hv : Value.okWide P w r b0 t v) (h : DataW.Trod enc P w base spare held t v d p) :
    ∃ (s : ByteArray) (ma ra : Option Addr) (mc rc : Nat) (wk : Int) (nm : Nat → ByteArray) (c : CalN), v = .agg #[.string s, .slice ma c.n mc, .slice ra c.nr rc, .int .i64 wk] ∧ (Lit.int .i64 wk).wf = true ∧ CalA w s ma ra mc rc nm c := by
  obtain ⟨cs, rfl, hsz⟩ := okWide_struct hs hv
  obtain ⟨fuel, hf⟩ := h
  obtain ⟨n, hl, hfl⟩ := down_struct hs hone hC (cs := cs.toList) (by simpa [Value.cells] using hf)
  obtain ⟨f0, e0, u0⟩ := fld k0
  obtain ⟨f1, e1, u1⟩ := fld k1
  obtain ⟨f2, e2, u2⟩ := fld k2
  obtain ⟨f3, e3, u3⟩ := fld k3
  obtain ⟨v0, y0, g0, t0⟩ := hfl 0 f0 e0
  obtain ⟨v1, y1, g1, t1⟩ := hfl 1 f1 e1
  obtain ⟨v2, y2, g2, t2⟩ := hfl 2 f2 e2
  obtain ⟨v3, y3, g3, t3⟩ := hfl 3 f3 e3
  obtain ⟨s, hs0, _, hss⟩ := DataW.trod_string u0 t0
  obtain ⟨wk, hs3, _, hwk⟩ := DataW.trod_int u3 t3
  obtain ⟨ma, n1, mc, z, hv1, nc1, mx1, hz⟩ := down_rows u1 hm honem hCm (by omega) t1
  obtain ⟨ra, n2, rc, y, hv2, nc2, mx2, hy⟩ := down_rows u2 hr honer hCr (by omega) t2
  simp only [List.cons.injEq, and_true] at hs0 hs3
  subst hs0; subst hs3; subst hv1; subst hv2
  have hcs : cs = #[.string s, .slice ma n1 mc, .slice ra n2 rc, .int .i64 wk] := by
    apply Array.toList_inj.1
    apply List.ext_getElem?
    intro j
    obtain rfl | rfl | rfl | rfl | hj : j = 0 ∨ j = 1 ∨ j = 2 ∨ j = 3 ∨ 4 ≤ j := by omega
    · rw [g0]; rfl
    · rw [g1]; rfl
    · rw [g2]; rfl
    · rw [g3]; rfl
    · rw [List.getElem?_eq_none (by omega), List.getElem?_eq_none (by simpa using hj)]
  subst hcs
  -- the months
  have hM : ∀ i, i < n1 → ∃ q : ByteArray × Int × Int, q.1.size ≤ maxLen ∧ (0 < n1 → z i 0 = .string q.1 ∧ z i 1 = .int .i64 q.2.1 ∧ z i 2 = .int .i64 q.2.2) := fun i hi => by
    obtain ⟨b, off, ha, hb, hc⟩ := hz (by omega)
    obtain ⟨_, a0, _, c0⟩ := hc i hi 0 (by omega)
    obtain ⟨_, a1, _, c1⟩ := hc i hi 1 (by omega)
    obtain ⟨_, a2, _, c2⟩ := hc i hi 2 (by omega)
    obtain ⟨s', d0, _, hs'⟩ := DataW.trod_string (fldT (by omega) m0) c0
    obtain ⟨x1, d1, _, _⟩ := DataW.trod_int (fldT (by omega) m1) c1
    obtain ⟨x2, d2, _, _⟩ := DataW.trod_int (fldT (by omega) m2) c2
    simp only [List.cons.injEq, and_true] at d0 d1 d2
    exact ⟨(s', x1, x2), hs', fun _ => ⟨d0, d1, d2⟩⟩
  have hR : ∀ i, i < n2 → ∃ q : Int × Int × Bool, (0 < n2 → y i 0 = .int .i64 q.1 ∧ y i 1 = .int .i64 q.2.1 ∧ y i 2 = .bool q.2.2) := fun i hi => by
    obtain ⟨b, off, ha, hb, hc⟩ := hy (by omega)
    obtain ⟨_, a0, _, c0⟩ := hc i hi 0 (by omega)
    obtain ⟨_, a1, _, c1⟩ := hc i hi 1 (by omega)
    obtain ⟨_, a2, _, c2⟩ := hc i hi 2 (by omega)
    obtain ⟨x0, d0, _, _⟩ := DataW.trod_int (fldT (by omega) r0) c0
    obtain ⟨x1, d1, _, _⟩ := DataW.trod_int (fldT (by omega) r1) c1
    obtain ⟨x2, d2, _⟩ := DataW.trod_bool (fldT (by omega) r2) c2
    simp only [List.cons.injEq, and_true] at d0 d1 d2
    exact ⟨(x0, x1, x2), fun _ => ⟨d0, d1, d2⟩⟩
  obtain ⟨q, hq⟩ := choose_lt hM
  obtain ⟨p, hp⟩ := choose_lt hR
  refine ⟨s, ma, ra, mc, rc, wk, fun i => (q i).1, ⟨n2, fun i => (p i).1, fun i => (p i).2.1, fun i => (p i).2.2, n1, fun i => (q i).2.1, fun i => (q i).2.2⟩, rfl, hwk, ⟨by unfold maxLen at hss; omega, fun i hi => by have := (hq i hi).1; unfold maxLen at this; exact Nat.le_trans this (by decide), by dsimp only; omega, by dsimp only; omega, ?_, ?_⟩⟩
  · intro h0
    obtain ⟨b, off, ha, hb, hc⟩ := hz h0
    refine ⟨b, off, ha, hb, fun i hi => ?_⟩
    obtain ⟨d0, d1, d2⟩ := (hq i hi).2 h0
    have e0 := (hc i hi 0 (by omega)).1
    have e1 := (hc i hi 1 (by omega)).1
    have e2 := (hc i hi 2 (by omega)).1
    rw [hm3, d0] at e0; rw [hm3, d1] at e1; rw [hm3, d2] at e2
    exact ⟨e0, e1, e2⟩
  · intro h0
    obtain ⟨b, off, ha, hb, hc⟩ := hy h0
    refine ⟨b, off, ha, hb, fun i hi => ?_⟩
    obtain ⟨d0, d1, d2⟩ := hp i hi h0
    have e0 := (hc i hi 0 (by omega)).1
    have e1 := (hc i hi 1 (by omega)).1
    have e2 := (hc i hi 2 (by omega)).1
    rw [hr3, d0] at e0; rw [hr3, d1] at e1; rw [hr3, d2] at e2
    exact ⟨e0, e1, e2⟩
end
end Go.Proofs.Ytkihjplemnndeaa

namespace Go.Proofs.Ytkihjplemnndeaa
open Go.RowKit
set_option linter.unusedVariables false
set_option linter.unusedSimpArgs false

end Go.Proofs.Ytkihjplemnndeaa

namespace Go.Proofs.Ytkihjplemnndeaa
open Go.RowKit
set_option linter.unusedVariables false
set_option linter.unusedSimpArgs false

theorem CalA.v {w W : World} {s : ByteArray} {ma ra : Option Addr} {mc rc : Nat} {nm : Nat → ByteArray} {c : CalN} (h : CalA w s ma ra mc rc nm c) (hm : c.n ≤ 1048576) (hr : c.nr ≤ 1048576) {m2 r2 : Option Addr} (k : CalM W m2 r2 nm c) : CalV W s m2 r2 c.n c.nr nm c :=
  ⟨hm, hr, Nat.le_refl _, by unfold maxLen; omega, h.sz, h.nz, k⟩
end Go.Proofs.Ytkihjplemnndeaa

namespace Go.Proofs.Ytkihjplemnndeaa
open Go.RowKit
set_option linter.unusedVariables false
set_option linter.unusedSimpArgs false

theorem cmL_len (s : ByteArray) (nm : Nat → ByteArray) (c : CalN) (wk f y : Int) : (cmL s nm c wk f y).length ≤ 1048576 := by
  by_cases hk : cmC s nm c wk f y = 0
  · rw [cmL, if_pos hk, outs_len]
    have hb : calB s nm c wk = true := by
      cases hb : calB s nm c wk
      · simp [cmC, hb] at hk
      · rfl
    have h2 : cmB c f y = true := by
      cases h2 : cmB c f y
      · simp [cmC, hb, h2] at hk
      · rfl
    rw [cmB, Bool.and_eq_true] at h2
    have hn := (calB_b hb).n1
    have h3 := notch (n := c.n) (y := y) hn
    rw [h2.1, Bool.and_eq_true, decide_eq_true_eq] at h3
    have h4 := inB_t.1 h3.1
    obtain ⟨Y, rfl⟩ := Int.eq_ofNat_of_zero_le (show 0 ≤ y by omega)
    have e : ((Y * c.n : Nat) : Int) = (Y : Int) * (c.n : Int) := by simp
    have h5 := h3.2
    simp only [Int.toNat_natCast]
    omega
  · rw [cmL, if_neg hk]; simp
set_option maxHeartbeats 8000000 in
theorem walkCamOf (s : ByteArray) (ma ra : Option Addr) (mc rc : Nat) (wk : Int) (nm : Nat → ByteArray) (c : CalN) (f y : Int) (w : World) (h : CalA w s ma ra mc rc nm c) :
    Calls Try.prog 3 #[.agg #[.string s, .slice ma c.n mc, .slice ra c.nr rc, .int .i64 wk], .int .i64 f, .int .i64 y] w fun e w' => e = .returned (.bool true) ∧ Ext w w' := by
  have H := Lib.hid h
  clear h
  have hlen := cmL_len s nm c wk f y
  obtain ⟨L, hL⟩ : ∃ L, L = cmL s nm c wk f y := ⟨_, rfl⟩
  obtain ⟨K, hK⟩ : ∃ K, K = cmC s nm c wk f y := ⟨_, rfl⟩
  rw [← hL] at hlen
  have hsp : ∀ (m2 r2 : Option Addr) (W : World), CalV W s m2 r2 c.n c.nr nm c → Calls Try.prog 7 #[.agg #[.string s, .slice m2 c.n c.n, .slice r2 c.nr c.nr, .int .i64 wk], .int .i64 f, .int .i64 y] W fun e w' => ∃ b cap, e = .returned (.tuple #[.slice b L.length cap, .int .i64 K]) ∧ Ext W w' ∧ w'.ownsRow W.heap.size 2 1 (.slice b L.length cap) L.length (L.map (Value.int .i64)) := fun _ _ _ hv => by rw [hK, hL]; exact specCamOf_c wk f y hv
  have him : ∀ (m2 r2 : Option Addr) (W : World), CalV W s m2 r2 c.n c.nr nm c → Calls Try.prog 9 #[.agg #[.string s, .slice m2 c.n c.n, .slice r2 c.nr c.nr, .int .i64 wk], .int .i64 f, .int .i64 y] W fun e w' => ∃ b cap, e = .returned (.tuple #[.slice b L.length cap, .int .i64 K]) ∧ Ext W w' ∧ w'.ownsRow W.heap.size 2 1 (.slice b L.length cap) L.length (L.map (Value.int .i64)) := fun _ _ _ hv => by rw [hK, hL]; exact implCamOf_c wk f y hv
  have HSP := Lib.hid hsp
  have HIM := Lib.hid him
  clear hsp him hK hL
  go_enter Try.func3, Try.ntmps3
  go_wp2_with fail
  refine (szCalendar_c s ma ra c.n mc c.nr rc wk nm c.dy c.lp _ _ H.out.nb H.out.rb (by omega) (by omega) H.out.sz H.out.nz (H.out.mem.mo.ext (by repeat (first | with_reducible exact Ext.refl _ | with_reducible assumption | with_reducible refine Ext.alloc ?_ _ | with_reducible refine Ext.drew ?_ | (with_reducible refine Ext.setAt ?_ _ _ _ ?_; rotate_left; omega) | with_reducible refine Ext.trans ?_ (by assumption) | with_reducible exact Past.bel _ | with_reducible refine Ext.trans ?_ (Past.bel _))))).mono ?_
  rintro e w' ⟨r, rfl, y0, y1, y2, hx1⟩
  (first | (obtain ⟨wx1, rfl⟩ := Past.again hx1) | (obtain ⟨wx1, rfl⟩ := Past.of hx1))
  by_cases c1 : r < 0
  · go_wp2_with fail
    go_ret
    exact ⟨rfl, (by repeat (first | with_reducible exact Ext.refl _ | with_reducible assumption | with_reducible refine Ext.alloc ?_ _ | with_reducible refine Ext.drew ?_ | (with_reducible refine Ext.setAt ?_ _ _ _ ?_; rotate_left; omega) | with_reducible refine Ext.trans ?_ (by assumption) | with_reducible exact Past.bel _ | with_reducible refine Ext.trans ?_ (Past.bel _)))⟩
  · obtain ⟨hm, hr⟩ := y2 (by omega)
    go_wp2_with fail
    refine (toCalendar_c s ma ra mc rc wk nm c _ hm hr (H.out.mem.ext (by repeat (first | with_reducible exact Ext.refl _ | with_reducible assumption | with_reducible refine Ext.alloc ?_ _ | with_reducible refine Ext.drew ?_ | (with_reducible refine Ext.setAt ?_ _ _ _ ?_; rotate_left; omega) | with_reducible refine Ext.trans ?_ (by assumption) | with_reducible exact Past.bel _ | with_reducible refine Ext.trans ?_ (Past.bel _))))).mono ?_
    rintro e w' ⟨g1, g2, _, _, rfl, hx2, hm2, -⟩
    have V2 := Lib.hid (H.out.v hm hr hm2)
    clear hm2
    (first | (obtain ⟨wx2, rfl⟩ := Past.again hx2) | (obtain ⟨wx2, rfl⟩ := Past.of hx2))
    go_wp2_with fail
    refine (HSP.out _ _ _ (V2.out.ext (by repeat (first | with_reducible exact Ext.refl _ | with_reducible assumption | with_reducible refine Ext.alloc ?_ _ | with_reducible refine Ext.drew ?_ | (with_reducible refine Ext.setAt ?_ _ _ _ ?_; rotate_left; omega) | with_reducible refine Ext.trans ?_ (by assumption) | with_reducible exact Past.bel _ | with_reducible refine Ext.trans ?_ (Past.bel _))))).mono ?_
    rintro e w' ⟨b3, cap3, rfl, hx3, ho3⟩
    have O3 := Lib.hid ho3
    clear ho3
    (first | (obtain ⟨wx3, rfl⟩ := Past.again hx3) | (obtain ⟨wx3, rfl⟩ := Past.of hx3))
    go_wp2_with fail
    refine (toCalendar_c s ma ra mc rc wk nm c _ hm hr (H.out.mem.ext (by repeat (first | with_reducible exact Ext.refl _ | with_reducible assumption | with_reducible refine Ext.alloc ?_ _ | with_reducible refine Ext.drew ?_ | (with_reducible refine Ext.setAt ?_ _ _ _ ?_; rotate_left; omega) | with_reducible refine Ext.trans ?_ (by assumption) | with_reducible exact Past.bel _ | with_reducible refine Ext.trans ?_ (Past.bel _))))).mono ?_
    rintro e w' ⟨g3, g4, xs4, ys4, rfl, hx4, hm4, hoa, hob, hne⟩
    have HM4 := Lib.hid hm4
    have V4 := Lib.hid (H.out.v hm hr hm4)
    have OA := Lib.hid hoa
    have OB := Lib.hid hob
    clear hm4 hoa hob
    (first | (obtain ⟨wx4, rfl⟩ := Past.again hx4) | (obtain ⟨wx4, rfl⟩ := Past.of hx4))
    go_wp2_with fail
    refine (HIM.out _ _ _ (V4.out.ext (by repeat (first | with_reducible exact Ext.refl _ | with_reducible assumption | with_reducible refine Ext.alloc ?_ _ | with_reducible refine Ext.drew ?_ | (with_reducible refine Ext.setAt ?_ _ _ _ ?_; rotate_left; omega) | with_reducible refine Ext.trans ?_ (by assumption) | with_reducible exact Past.bel _ | with_reducible refine Ext.trans ?_ (Past.bel _))))).mono ?_
    rintro e w' ⟨b5, cap5, rfl, hx5, ho5⟩
    have O5 := Lib.hid ho5
    clear ho5
    (first | (obtain ⟨wx5, rfl⟩ := Past.again hx5) | (obtain ⟨wx5, rfl⟩ := Past.of hx5))
    go_wp2_with fail
    refine (eqInt64S_self _ _ _ _ _ _ _ hlen (own_s1 (own_ext O5.out (by repeat (first | with_reducible exact Ext.refl _ | with_reducible assumption | with_reducible refine Ext.alloc ?_ _ | with_reducible refine Ext.drew ?_ | (with_reducible refine Ext.setAt ?_ _ _ _ ?_; rotate_left; omega) | with_reducible refine Ext.trans ?_ (by assumption) | with_reducible exact Past.bel _ | with_reducible refine Ext.trans ?_ (Past.bel _))))) (own_s1 (own_ext O3.out (by repeat (first | with_reducible exact Ext.refl _ | with_reducible assumption | with_reducible refine Ext.alloc ?_ _ | with_reducible refine Ext.drew ?_ | (with_reducible refine Ext.setAt ?_ _ _ _ ?_; rotate_left; omega) | with_reducible refine Ext.trans ?_ (by assumption) | with_reducible exact Past.bel _ | with_reducible refine Ext.trans ?_ (Past.bel _)))))).mono ?_
    rintro e w' ⟨rfl, hx6⟩
    (first | (obtain ⟨wx6, rfl⟩ := Past.again hx6) | (obtain ⟨wx6, rfl⟩ := Past.of hx6))
    go_wp2_with fail
    have PA := CalP.new 25 s ma ra mc rc wk H.out.mem
    have PB := CalP.new 33 s _ _ c.n c.nr wk HM4.out
    have SK : ∀ w', Ext wx6.out w' → ((w'.cell? ⟨w.heap.size, 0, none⟩ = some (.string s) ∧ w'.cell? ⟨w.heap.size, 1, none⟩ = some (.slice ma c.n mc) ∧ w'.cell? ⟨w.heap.size, 2, none⟩ = some (.slice ra c.nr rc) ∧ w'.cell? ⟨w.heap.size, 3, none⟩ = some (.int .i64 wk)) ∧ (w'.cell? ⟨wx4.out.heap.size, 0, none⟩ = some (.string s) ∧ w'.cell? ⟨wx4.out.heap.size, 1, none⟩ = some (.slice (some ⟨g3, 0, none⟩) c.n c.n) ∧ w'.cell? ⟨wx4.out.heap.size, 2, none⟩ = some (.slice (some ⟨g4, 0, none⟩) c.nr c.nr) ∧ w'.cell? ⟨wx4.out.heap.size, 3, none⟩ = some (.int .i64 wk))) := fun w' hq => by
      have QA := PA.ext (w' := w') (by repeat (first | with_reducible exact Ext.refl _ | with_reducible assumption | with_reducible refine Ext.alloc ?_ _ | with_reducible refine Ext.drew ?_ | (with_reducible refine Ext.setAt ?_ _ _ _ ?_; rotate_left; omega) | with_reducible refine Ext.trans ?_ (by assumption) | with_reducible exact Past.bel _ | with_reducible refine Ext.trans ?_ (Past.bel _)))
      have QB := PB.ext (w' := w') (by repeat (first | with_reducible exact Ext.refl _ | with_reducible assumption | with_reducible refine Ext.alloc ?_ _ | with_reducible refine Ext.drew ?_ | (with_reducible refine Ext.setAt ?_ _ _ _ ?_; rotate_left; omega) | with_reducible refine Ext.trans ?_ (by assumption) | with_reducible exact Past.bel _ | with_reducible refine Ext.trans ?_ (Past.bel _)))
      exact ⟨⟨QA.c0, QA.c1, QA.c2, QA.c3⟩, QB.c0, QB.c1, QB.c2, QB.c3⟩
    have SKO := Lib.hid SK
    clear SK PA PB
    go_region_held3 (fun w' => ((w'.cell? ⟨w.heap.size, 0, none⟩ = some (.string s) ∧ w'.cell? ⟨w.heap.size, 1, none⟩ = some (.slice ma c.n mc) ∧ w'.cell? ⟨w.heap.size, 2, none⟩ = some (.slice ra c.nr rc) ∧ w'.cell? ⟨w.heap.size, 3, none⟩ = some (.int .i64 wk)) ∧ (w'.cell? ⟨wx4.out.heap.size, 0, none⟩ = some (.string s) ∧ w'.cell? ⟨wx4.out.heap.size, 1, none⟩ = some (.slice (some ⟨g3, 0, none⟩) c.n c.n) ∧ w'.cell? ⟨wx4.out.heap.size, 2, none⟩ = some (.slice (some ⟨g4, 0, none⟩) c.nr c.nr) ∧ w'.cell? ⟨wx4.out.heap.size, 3, none⟩ = some (.int .i64 wk)))) (exact SKO.out _ (by repeat (first | with_reducible exact Ext.refl _ | with_reducible assumption | with_reducible refine Ext.alloc ?_ _ | with_reducible refine Ext.drew ?_ | (with_reducible refine Ext.setAt ?_ _ _ _ ?_; rotate_left; omega) | with_reducible refine Ext.trans ?_ (by assumption) | with_reducible exact Past.bel _ | with_reducible refine Ext.trans ?_ (Past.bel _))))
      (first | (go_at_call 8; ((with_reducible refine (toCalendar_c s ma ra mc rc wk nm c _ hm hr (H.out.mem.ext (by repeat (first | with_reducible exact Ext.refl _ | with_reducible assumption | with_reducible refine Ext.alloc ?_ _ | with_reducible refine Ext.drew ?_ | (with_reducible refine Ext.setAt ?_ _ _ _ ?_; rotate_left; omega) | with_reducible refine Ext.trans ?_ (by assumption) | with_reducible exact Past.bel _ | with_reducible refine Ext.trans ?_ (Past.bel _))))).mono ?_); rintro e w6 ⟨g5, g6, _, _, rfl, hx6, hm6, -⟩)) | (go_at_call 11; ((with_reducible refine (eqCalendar_self s _ _ _ _ _ _ _ _ wk nm c _ hm hr (HM4.out.ext (by repeat (first | with_reducible exact Ext.refl _ | with_reducible assumption | with_reducible refine Ext.alloc ?_ _ | with_reducible refine Ext.drew ?_ | (with_reducible refine Ext.setAt ?_ _ _ _ ?_; rotate_left; omega) | with_reducible refine Ext.trans ?_ (by assumption) | with_reducible exact Past.bel _ | with_reducible refine Ext.trans ?_ (Past.bel _)))) (hm6.ext (by repeat (first | with_reducible exact Ext.refl _ | with_reducible assumption | with_reducible refine Ext.alloc ?_ _ | with_reducible refine Ext.drew ?_ | (with_reducible refine Ext.setAt ?_ _ _ _ ?_; rotate_left; omega) | with_reducible refine Ext.trans ?_ (by assumption) | with_reducible exact Past.bel _ | with_reducible refine Ext.trans ?_ (Past.bel _))))).mono ?_); rintro e w7 ⟨rfl, hx7⟩)))
    have z3 := hx2.size
    have z4 := hx3.size
    have z5 := Past.size wx4
    have z6 := Past.size wx5
    simp only [World.size_alloc] at z5 z6
    have la := OA.out.lt g3 rfl
    have lb := OB.out.lt g4 rfl
    have NE3 := own_ne2 O3.out OA.out (Nat.le_refl _)
    have NE4 := own_ne2 O3.out OB.out (Nat.le_refl _)
    have NE35 := own_ne2 O3.out O5.out (by simp only [World.size_alloc]; omega)
    have LO5 := Lib.hid (fun k hk => (O5.out.lt k hk).1)
    have NK5 : ∀ g, g < wx4.out.heap.size → ((Value.slice b5 L.length cap5).ownBlock = none ∨ (Value.slice b5 L.length cap5).ownBlock ≠ some g) := fun g hg => by
      cases e : (Value.slice b5 L.length cap5).ownBlock with
      | none => exact .inl rfl
      | some k => exact .inr fun e2 => by
                    have h1 := LO5.out k e
                    simp only [World.size_alloc] at h1
                    have : k = g := by simpa using e2
                    omega
    have N53 := Lib.hid (NK5 g3 la.2)
    have N54 := Lib.hid (NK5 g4 lb.2)
    have N33 := Lib.hid NE3.1
    have N34 := Lib.hid NE4.1
    have N35 := Lib.hid NE35.1
    have la1 := la.1
    have lb1 := lb.1
    have zz : w.heap.size < wx3.out.heap.size := by have := Past.size wx3; simp only [World.size_alloc] at this; omega
    clear NE3 NE4 NE35 NK5 la lb
    go_wp2_with fail
    refine (markCalendar_c s g3 g4 _ _ c.n c.nr wk _ _ _ hm hr (own_ext OA.out (by repeat (first | with_reducible exact Ext.refl _ | with_reducible assumption | with_reducible refine Ext.alloc ?_ _ | with_reducible refine Ext.drew ?_ | (with_reducible refine Ext.setAt ?_ _ _ _ ?_; rotate_left; omega) | with_reducible refine Ext.trans ?_ (by assumption) | with_reducible exact Past.bel _ | with_reducible refine Ext.trans ?_ (Past.bel _)))) (own_ext OB.out (by repeat (first | with_reducible exact Ext.refl _ | with_reducible assumption | with_reducible refine Ext.alloc ?_ _ | with_reducible refine Ext.drew ?_ | (with_reducible refine Ext.setAt ?_ _ _ _ ?_; rotate_left; omega) | with_reducible refine Ext.trans ?_ (by assumption) | with_reducible exact Past.bel _ | with_reducible refine Ext.trans ?_ (Past.bel _)))) hne).mono ?_
    rintro e w8 ⟨m, rfl, wm, hga, hgb⟩
    have O3' := Lib.hid (((own_ext O3.out (by repeat (first | with_reducible exact Ext.refl _ | with_reducible assumption | with_reducible refine Ext.alloc ?_ _ | with_reducible refine Ext.drew ?_ | (with_reducible refine Ext.setAt ?_ _ _ _ ?_; rotate_left; omega) | with_reducible refine Ext.trans ?_ (by assumption) | with_reducible exact Past.bel _ | with_reducible refine Ext.trans ?_ (Past.bel _)))).kept hga N33.out).kept hgb N34.out)
    have O5' := Lib.hid (((own_ext O5.out (by repeat (first | with_reducible exact Ext.refl _ | with_reducible assumption | with_reducible refine Ext.alloc ?_ _ | with_reducible refine Ext.drew ?_ | (with_reducible refine Ext.setAt ?_ _ _ _ ?_; rotate_left; omega) | with_reducible refine Ext.trans ?_ (by assumption) | with_reducible exact Past.bel _ | with_reducible refine Ext.trans ?_ (Past.bel _)))).kept hga N53.out).kept hgb N54.out)
    have e8 : Ext w w8 := Ext.grown (Ext.grown (show Ext w _ from (by repeat (first | with_reducible exact Ext.refl _ | with_reducible assumption | with_reducible refine Ext.alloc ?_ _ | with_reducible refine Ext.drew ?_ | (with_reducible refine Ext.setAt ?_ _ _ _ ?_; rotate_left; omega) | with_reducible refine Ext.trans ?_ (by assumption) | with_reducible exact Past.bel _ | with_reducible refine Ext.trans ?_ (Past.bel _)))) hga (fun k hk => by simp at hk; omega)) hgb (fun k hk => by simp at hk; omega)
    have h8 : (w8.cell? ⟨w.heap.size, 0, none⟩ = some (.string s) ∧ w8.cell? ⟨w.heap.size, 1, none⟩ = some (.slice ma c.n mc) ∧ w8.cell? ⟨w.heap.size, 2, none⟩ = some (.slice ra c.nr rc) ∧ w8.cell? ⟨w.heap.size, 3, none⟩ = some (.int .i64 wk)) := by
      obtain ⟨⟨p0, p1, p2, p3⟩, -⟩ := SKO.out w7 (by repeat (first | with_reducible exact Ext.refl _ | with_reducible assumption | with_reducible refine Ext.alloc ?_ _ | with_reducible refine Ext.drew ?_ | (with_reducible refine Ext.setAt ?_ _ _ _ ?_; rotate_left; omega) | with_reducible refine Ext.trans ?_ (by assumption) | with_reducible exact Past.bel _ | with_reducible refine Ext.trans ?_ (Past.bel _)))
      have zw : w.heap.size < w7.heap.size := Nat.lt_of_lt_of_le zz (Ext.size (show Ext wx3.out w7 from (by repeat (first | with_reducible exact Ext.refl _ | with_reducible assumption | with_reducible refine Ext.alloc ?_ _ | with_reducible refine Ext.drew ?_ | (with_reducible refine Ext.setAt ?_ _ _ _ ?_; rotate_left; omega) | with_reducible refine Ext.trans ?_ (by assumption) | with_reducible exact Past.bel _ | with_reducible refine Ext.trans ?_ (Past.bel _)))))
      have hbk : w8.heap[w.heap.size]? = w7.heap[w.heap.size]? := (hgb.block _ (Nat.lt_of_lt_of_le zw hga.size) (by simp; omega)).trans (hga.block _ zw (by simp; omega))
      refine ⟨?_, ?_, ?_, ?_⟩ <;> (rw [World.cell?_of_block hbk]; assumption)
    obtain ⟨q0, q1, q2, q3⟩ := h8
    have zw8 : w.heap.size < w8.heap.size := Nat.lt_of_lt_of_le (Nat.lt_of_lt_of_le zz (Ext.size (show Ext wx3.out w7 from (by repeat (first | with_reducible exact Ext.refl _ | with_reducible assumption | with_reducible refine Ext.alloc ?_ _ | with_reducible refine Ext.drew ?_ | (with_reducible refine Ext.setAt ?_ _ _ _ ?_; rotate_left; omega) | with_reducible refine Ext.trans ?_ (by assumption) | with_reducible exact Past.bel _ | with_reducible refine Ext.trans ?_ (Past.bel _)))))) (Nat.le_trans hga.size hgb.size)
    clear hga hgb
    have hmm : 0 ≤ (m : Int) := by omega
    go_wp2_with fail
    refine (eqInt64S_self _ _ _ _ _ _ _ hlen (own_s1 O5'.out) (own_s1 O3'.out)).mono ?_
    rintro e w9 ⟨rfl, hx9⟩
    obtain ⟨wx9, rfl⟩ := Past.of hx9
    go_wp2_with fail
    refine (markInt64S_c _ _ _ _ 1 _ _ hlen (by omega) (by omega) (own_ext O5'.out (Past.bel wx9))).mono ?_
    rintro e w10 ⟨rfl, ho10, hg10⟩
    have e10 : Ext w w10 := Ext.grown (Ext.trans e8 (Past.bel wx9)) hg10 (fun k hk => by have := LO5.out k hk; simp only [World.size_alloc] at this; omega)
    have O10 := Lib.hid ho10
    have P3 := Lib.hid ((own_ext O3'.out (Past.bel wx9)).kept hg10 N35.out)
    have zw9 : w.heap.size < wx9.out.heap.size := Past.lt wx9 _ zw8
    have hbk : w10.heap[w.heap.size]? = wx9.out.heap[w.heap.size]? := hg10.block _ zw9 (fun e => by have := LO5.out _ e.symm; simp only [World.size_alloc] at this; omega)
    have zw10 : w.heap.size < w10.heap.size := Nat.lt_of_lt_of_le zw9 hg10.size
    have h10 : (w10.cell? ⟨w.heap.size, 0, none⟩ = some (.string s) ∧ w10.cell? ⟨w.heap.size, 1, none⟩ = some (.slice ma c.n mc) ∧ w10.cell? ⟨w.heap.size, 2, none⟩ = some (.slice ra c.nr rc) ∧ w10.cell? ⟨w.heap.size, 3, none⟩ = some (.int .i64 wk)) := by
      refine ⟨?_, ?_, ?_, ?_⟩ <;> (rw [World.cell?_of_block hbk, Past.cell _ _ _ zw8]; assumption)
    have H10 := Lib.hid h10
    clear hg10 ho10 q0 q1 q2 q3 hbk h10
    obtain ⟨q0, q1, q2, q3⟩ := H10.out
    go_wp2_with fail
    refine (heldInt64S_c _ _ _ _ _ _ hlen (by omega) (by omega) O10.out).mono ?_
    rintro e w' ⟨rfl, rfl⟩
    go_wp2_with fail
    refine (toCalendar_c s ma ra mc rc wk nm c _ hm hr (H.out.mem.ext (by repeat (first | with_reducible exact Ext.refl _ | with_reducible assumption | with_reducible refine Ext.alloc ?_ _ | with_reducible refine Ext.drew ?_ | (with_reducible refine Ext.setAt ?_ _ _ _ ?_; rotate_left; omega) | with_reducible refine Ext.trans ?_ (by assumption) | with_reducible exact Past.bel _ | with_reducible refine Ext.trans ?_ (Past.bel _))))).mono ?_
    rintro e w' ⟨g5, g6, _, _, rfl, hx11, hm11, -⟩
    have V11 := Lib.hid (H.out.v hm hr hm11)
    clear hm11
    (first | (obtain ⟨wx11, rfl⟩ := Past.again hx11) | (obtain ⟨wx11, rfl⟩ := Past.of hx11))
    go_wp2_with fail
    refine (HIM.out _ _ _ (V11.out.ext (by repeat (first | with_reducible exact Ext.refl _ | with_reducible assumption | with_reducible refine Ext.alloc ?_ _ | with_reducible refine Ext.drew ?_ | (with_reducible refine Ext.setAt ?_ _ _ _ ?_; rotate_left; omega) | with_reducible refine Ext.trans ?_ (by assumption) | with_reducible exact Past.bel _ | with_reducible refine Ext.trans ?_ (Past.bel _))))).mono ?_
    rintro e w' ⟨b12, cap12, rfl, hx12, ho12⟩
    have O12 := Lib.hid ho12
    clear ho12
    (first | (obtain ⟨wx12, rfl⟩ := Past.again hx12) | (obtain ⟨wx12, rfl⟩ := Past.of hx12))
    go_wp2_with fail
    refine (eqInt64S_self _ _ _ _ _ _ _ hlen (own_s1 (own_ext O12.out (by repeat (first | with_reducible exact Ext.refl _ | with_reducible assumption | with_reducible refine Ext.alloc ?_ _ | with_reducible refine Ext.drew ?_ | (with_reducible refine Ext.setAt ?_ _ _ _ ?_; rotate_left; omega) | with_reducible refine Ext.trans ?_ (by assumption) | with_reducible exact Past.bel _ | with_reducible refine Ext.trans ?_ (Past.bel _))))) (own_s1 (own_ext P3.out (by repeat (first | with_reducible exact Ext.refl _ | with_reducible assumption | with_reducible refine Ext.alloc ?_ _ | with_reducible refine Ext.drew ?_ | (with_reducible refine Ext.setAt ?_ _ _ _ ?_; rotate_left; omega) | with_reducible refine Ext.trans ?_ (by assumption) | with_reducible exact Past.bel _ | with_reducible refine Ext.trans ?_ (Past.bel _)))))).mono ?_
    rintro e w' ⟨rfl, hx13⟩
    (first | (obtain ⟨wx13, rfl⟩ := Past.again hx13) | (obtain ⟨wx13, rfl⟩ := Past.of hx13))
    go_wp2_with fail
    refine (heldInt64S_c _ _ _ _ _ _ hlen (by omega) (by omega) (own_ext O10.out (by repeat (first | with_reducible exact Ext.refl _ | with_reducible assumption | with_reducible refine Ext.alloc ?_ _ | with_reducible refine Ext.drew ?_ | (with_reducible refine Ext.setAt ?_ _ _ _ ?_; rotate_left; omega) | with_reducible refine Ext.trans ?_ (by assumption) | with_reducible exact Past.bel _ | with_reducible refine Ext.trans ?_ (Past.bel _))))).mono ?_
    rintro e w' ⟨rfl, rfl⟩
    go_wp2_with fail
    go_ret
    exact ⟨rfl, (by repeat (first | with_reducible exact Ext.refl _ | with_reducible assumption | with_reducible refine Ext.alloc ?_ _ | with_reducible refine Ext.drew ?_ | (with_reducible refine Ext.setAt ?_ _ _ _ ?_; rotate_left; omega) | with_reducible refine Ext.trans ?_ (by assumption) | with_reducible exact Past.bel _ | with_reducible refine Ext.trans ?_ (Past.bel _)))⟩
end Go.Proofs.Ytkihjplemnndeaa
