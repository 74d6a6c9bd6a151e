/- Cams of calendars: the functions as they are called. A calendar and a cam: asked; a month of a cam. A month of a cam. Faults counted: numbers. Faults counted: the reference. The texts of marks. No program in sight. The texts of marks; lists of texts. Lists of texts: compared, marked; the names of calendars. -/
import Derived.Test.YtkihjplemnndeaaBc
import Derived.Test.YtkihjplemnndeaaBa
import Derived.Laws.IdiomStrings
import Derived.Laws.Concat

namespace Go.Proofs.Ytkihjplemnndeaa
open Go.RowKit
set_option linter.unusedVariables false
set_option linter.unusedSimpArgs false

section
variable {g : Nat} {s : ByteArray} {ma ra : Option Addr} {mc rc : Nat} {wk : Int} {nm : Nat → ByteArray} {c : CalN} {w : World}
theorem l17Years_q (b : CalB c) (h : CalQ w g s ma ra mc rc wk nm c) (y : Int) :
    Calls Try.prog 24 #[.pointer (some ⟨g, 0, none⟩), .int .i64 y] w fun e w' => e = .returned (.bool (inB y 1 (260 / (c.n : Int)))) ∧ w = w' := by
  have p1 := h.p.c1
  have n1 := b.n1
  have n20 := b.n20
  have hn := notch (n := c.n) (y := y) n1
  have HN := Lib.hid hn
  clear h b hn
  cases h1 : inB y 1 260
  · go_enter Try.func24, Try.ntmps24
    go_wp2_with (go_at_call 49; ((with_reducible refine (l00In_c _ _ _ _).mono ?_); rintro e w' ⟨rfl, rfl⟩))
    go_ret
    exact ⟨ret_bool (by rw [← HN.out, h1]; rfl), rfl⟩
  · have h2 := inB_t.1 h1
    have hb : y * (c.n : Int) ≤ 5200 ∧ 0 ≤ y * (c.n : Int) := by
      have a1 := Int.mul_le_mul h2.2 (show (c.n : Int) ≤ 20 by omega) (by omega) (by omega)
      have a2 := Int.mul_nonneg (show 0 ≤ y by omega) (show 0 ≤ (c.n : Int) by omega)
      omega
    go_enter Try.func24, Try.ntmps24
    go_wp2_with (go_at_call 49; ((with_reducible refine (l00In_c _ _ _ _).mono ?_); rintro e w' ⟨rfl, rfl⟩))
    go_ret
    exact ⟨ret_bool (by rw [← HN.out, h1]; rfl), rfl⟩
theorem notched_v (b : CalB c) (h : CalV w s ma ra mc rc nm c) (y : Int) :
    Calls Try.prog 30 #[.agg #[.string s, .slice ma c.n mc, .slice ra c.nr rc, .int .i64 wk], .int .i64 y] w fun e w' => e = .returned (.bool (inB y 1 (260 / (c.n : Int)))) ∧ Ext w w' := by
  have n1 := b.n1
  have n20 := b.n20
  have e0 : ((c.n : Int) == 0) = false := by simp; omega
  have t1 : (260 : Int).tdiv (c.n : Int) = 260 / (c.n : Int) := tdiv_nn (by omega)
  have t2 : 0 ≤ 260 / (c.n : Int) := Int.ediv_nonneg (by omega) (by omega)
  have t3 := Int.ediv_le_self (c.n : Int) (show (0 : Int) ≤ 260 by omega)
  clear h b
  go_enter Try.func30, Try.ntmps30
  go_wp2_with (go_at_call 54; ((with_reducible refine (within_c _ _ _ _).mono ?_); rintro e w' ⟨rfl, rfl⟩))
  go_ret
  exact ⟨rfl, (by repeat (first | with_reducible exact Ext.refl _ | with_reducible assumption | with_reducible refine Ext.alloc ?_ _ | with_reducible refine Ext.drew ?_ | (with_reducible refine Ext.setAt ?_ _ _ _ ?_; rotate_left; omega) | with_reducible refine Ext.trans ?_ (by assumption) | with_reducible exact Past.bel _ | with_reducible refine Ext.trans ?_ (Past.bel _)))⟩
/-- what both return -/
def CmR (w w' : World) (s : ByteArray) (nm : Nat → ByteArray) (c : CalN) (wk first years : Int) (e : Ending) : Prop :=
  ∃ b cap, e = .returned (.tuple #[.slice b (cmL s nm c wk first years).length cap, .int .i64 (cmC s nm c wk first years)]) ∧ Ext w w' ∧ w'.ownsRow w.heap.size 2 1 (.slice b (cmL s nm c wk first years).length cap) (cmL s nm c wk first years).length ((cmL s nm c wk first years).map (Value.int .i64))
theorem CmR.none {w w' : World} {s : ByteArray} {nm : Nat → ByteArray} {c : CalN} {wk first years k : Int} (hk : cmC s nm c wk first years = k) (h0 : k ≠ 0) (hx : Ext w w') : CmR w w' s nm c wk first years (.returned (.tuple #[.slice none 0 0, .int .i64 k])) := by
  have hr : cmL s nm c wk first years = [] := by rw [cmL, hk, if_neg h0]
  exact ⟨_, 0, by rw [hr, hk]; rfl, hx, by rw [hr]; exact World.ownsRow_nil _ _ _ _⟩
set_option maxHeartbeats 2000000 in
theorem specCamOf_c (wk f y : Int) (h : CalV w s ma ra mc rc nm c) :
    Calls Try.prog 7 #[.agg #[.string s, .slice ma c.n mc, .slice ra c.nr rc, .int .i64 wk], .int .i64 f, .int .i64 y] w fun e w' => CmR w w' s nm c wk f y e := by
  have H := Lib.hid (CalQ.new 33 wk h)
  clear h
  cases h1 : calB s nm c wk
  · go_enter Try.func7, Try.ntmps7
    go_wp2_with (go_at_call 23; ((with_reducible refine (l15Ok_q (H.out.ext (by repeat (first | with_reducible exact Ext.refl _ | with_reducible assumption | with_reducible refine Ext.alloc ?_ _ | with_reducible refine Ext.drew ?_ | (with_reducible refine Ext.setAt ?_ _ _ _ ?_; rotate_left; omega) | with_reducible refine Ext.trans ?_ (by assumption) | with_reducible exact Past.bel _ | with_reducible refine Ext.trans ?_ (Past.bel _))))).mono ?_); rintro e w' ⟨rfl, hx⟩; (first | (obtain ⟨wx, rfl⟩ := Past.again hx) | (obtain ⟨wx, rfl⟩ := Past.ofd hx) | (obtain ⟨wx, rfl⟩ := Past.of hx))))
    go_ret2
    exact CmR.none (by simp [cmC, h1]) (by omega) (by repeat (first | with_reducible exact Ext.refl _ | with_reducible assumption | with_reducible refine Ext.alloc ?_ _ | with_reducible refine Ext.drew ?_ | (with_reducible refine Ext.setAt ?_ _ _ _ ?_; rotate_left; omega) | with_reducible refine Ext.trans ?_ (by assumption) | with_reducible exact Past.bel _ | with_reducible refine Ext.trans ?_ (Past.bel _)))
  · have B := Lib.hid (calB_b h1)
    cases h2 : inB y 1 (260 / (c.n : Int))
    · go_enter Try.func7, Try.ntmps7
      go_wp2_with (first | (go_at_call 23; ((with_reducible refine (l15Ok_q (H.out.ext (by repeat (first | with_reducible exact Ext.refl _ | with_reducible assumption | with_reducible refine Ext.alloc ?_ _ | with_reducible refine Ext.drew ?_ | (with_reducible refine Ext.setAt ?_ _ _ _ ?_; rotate_left; omega) | with_reducible refine Ext.trans ?_ (by assumption) | with_reducible exact Past.bel _ | with_reducible refine Ext.trans ?_ (Past.bel _))))).mono ?_); rintro e w' ⟨rfl, hx⟩; (first | (obtain ⟨wx, rfl⟩ := Past.again hx) | (obtain ⟨wx, rfl⟩ := Past.ofd hx) | (obtain ⟨wx, rfl⟩ := Past.of hx)))) | (go_at_call 24; ((with_reducible refine (l17Years_q B.out (H.out.ext (by repeat (first | with_reducible exact Ext.refl _ | with_reducible assumption | with_reducible refine Ext.alloc ?_ _ | with_reducible refine Ext.drew ?_ | (with_reducible refine Ext.setAt ?_ _ _ _ ?_; rotate_left; omega) | with_reducible refine Ext.trans ?_ (by assumption) | with_reducible exact Past.bel _ | with_reducible refine Ext.trans ?_ (Past.bel _)))) y).mono ?_); rintro e w' ⟨rfl, rfl⟩)) | (go_at_call 25; ((with_reducible refine (l15Year_c _ _).mono ?_); rintro e w' ⟨rfl, rfl⟩)))
      go_ret2
      exact CmR.none (by simp [cmC, cmB, h1, h2]) (by omega) (by repeat (first | with_reducible exact Ext.refl _ | with_reducible assumption | with_reducible refine Ext.alloc ?_ _ | with_reducible refine Ext.drew ?_ | (with_reducible refine Ext.setAt ?_ _ _ _ ?_; rotate_left; omega) | with_reducible refine Ext.trans ?_ (by assumption) | with_reducible exact Past.bel _ | with_reducible refine Ext.trans ?_ (Past.bel _)))
    · cases h3 : inB f 0 9999
      · go_enter Try.func7, Try.ntmps7
        go_wp2_with (first | (go_at_call 23; ((with_reducible refine (l15Ok_q (H.out.ext (by repeat (first | with_reducible exact Ext.refl _ | with_reducible assumption | with_reducible refine Ext.alloc ?_ _ | with_reducible refine Ext.drew ?_ | (with_reducible refine Ext.setAt ?_ _ _ _ ?_; rotate_left; omega) | with_reducible refine Ext.trans ?_ (by assumption) | with_reducible exact Past.bel _ | with_reducible refine Ext.trans ?_ (Past.bel _))))).mono ?_); rintro e w' ⟨rfl, hx⟩; (first | (obtain ⟨wx, rfl⟩ := Past.again hx) | (obtain ⟨wx, rfl⟩ := Past.ofd hx) | (obtain ⟨wx, rfl⟩ := Past.of hx)))) | (go_at_call 24; ((with_reducible refine (l17Years_q B.out (H.out.ext (by repeat (first | with_reducible exact Ext.refl _ | with_reducible assumption | with_reducible refine Ext.alloc ?_ _ | with_reducible refine Ext.drew ?_ | (with_reducible refine Ext.setAt ?_ _ _ _ ?_; rotate_left; omega) | with_reducible refine Ext.trans ?_ (by assumption) | with_reducible exact Past.bel _ | with_reducible refine Ext.trans ?_ (Past.bel _)))) y).mono ?_); rintro e w' ⟨rfl, rfl⟩)) | (go_at_call 25; ((with_reducible refine (l15Year_c _ _).mono ?_); rintro e w' ⟨rfl, rfl⟩)))
        go_ret2
        exact CmR.none (by simp [cmC, cmB, h1, h2, h3]) (by omega) (by repeat (first | with_reducible exact Ext.refl _ | with_reducible assumption | with_reducible refine Ext.alloc ?_ _ | with_reducible refine Ext.drew ?_ | (with_reducible refine Ext.setAt ?_ _ _ _ ?_; rotate_left; omega) | with_reducible refine Ext.trans ?_ (by assumption) | with_reducible exact Past.bel _ | with_reducible refine Ext.trans ?_ (Past.bel _)))
      · have h2' := inB_t.1 (show inB y 1 260 = true by have := notch (n := c.n) (y := y) B.out.n1; rw [h2, Bool.and_eq_true] at this; exact this.1)
        have h2'' : y * (c.n : Int) ≤ 260 := by have := notch (n := c.n) (y := y) B.out.n1; rw [h2, Bool.and_eq_true, decide_eq_true_eq] at this; exact this.2
        have h3' := inB_t.1 h3
        cases h4 : inB (f + y - 1) 0 9999
        · go_enter Try.func7, Try.ntmps7
          go_wp2_with (first | (go_at_call 23; ((with_reducible refine (l15Ok_q (H.out.ext (by repeat (first | with_reducible exact Ext.refl _ | with_reducible assumption | with_reducible refine Ext.alloc ?_ _ | with_reducible refine Ext.drew ?_ | (with_reducible refine Ext.setAt ?_ _ _ _ ?_; rotate_left; omega) | with_reducible refine Ext.trans ?_ (by assumption) | with_reducible exact Past.bel _ | with_reducible refine Ext.trans ?_ (Past.bel _))))).mono ?_); rintro e w' ⟨rfl, hx⟩; (first | (obtain ⟨wx, rfl⟩ := Past.again hx) | (obtain ⟨wx, rfl⟩ := Past.ofd hx) | (obtain ⟨wx, rfl⟩ := Past.of hx)))) | (go_at_call 24; ((with_reducible refine (l17Years_q B.out (H.out.ext (by repeat (first | with_reducible exact Ext.refl _ | with_reducible assumption | with_reducible refine Ext.alloc ?_ _ | with_reducible refine Ext.drew ?_ | (with_reducible refine Ext.setAt ?_ _ _ _ ?_; rotate_left; omega) | with_reducible refine Ext.trans ?_ (by assumption) | with_reducible exact Past.bel _ | with_reducible refine Ext.trans ?_ (Past.bel _)))) y).mono ?_); rintro e w' ⟨rfl, rfl⟩)) | (go_at_call 25; ((with_reducible refine (l15Year_c _ _).mono ?_); rintro e w' ⟨rfl, rfl⟩)))
          go_ret2
          exact CmR.none (by simp [cmC, cmB, h1, h2, h3, h4]) (by omega) (by repeat (first | with_reducible exact Ext.refl _ | with_reducible assumption | with_reducible refine Ext.alloc ?_ _ | with_reducible refine Ext.drew ?_ | (with_reducible refine Ext.setAt ?_ _ _ _ ?_; rotate_left; omega) | with_reducible refine Ext.trans ?_ (by assumption) | with_reducible exact Past.bel _ | with_reducible refine Ext.trans ?_ (Past.bel _)))
        · have hk : cmC s nm c wk f y = 0 := by simp [cmC, cmB, h1, h2, h3, h4]
          have hr : cmL s nm c wk f y = outs (camF c f.toNat) (y.toNat * c.n) := by rw [cmL, if_pos hk]
          obtain ⟨F, rfl⟩ := Int.eq_ofNat_of_zero_le h3'.1
          obtain ⟨Y, rfl⟩ := Int.eq_ofNat_of_zero_le (show 0 ≤ y by omega)
          have hYn : Y * c.n ≤ 260 := by have e : ((Y * c.n : Nat) : Int) = (Y : Int) * (c.n : Int) := by simp
                                         omega
          simp only [Int.toNat_natCast] at hr
          have HK := Lib.hid hk
          have HR := Lib.hid hr
          clear hk hr h2''
          go_enter Try.func7, Try.ntmps7
          go_wp2_with (first | (go_at_call 23; ((with_reducible refine (l15Ok_q (H.out.ext (by repeat (first | with_reducible exact Ext.refl _ | with_reducible assumption | with_reducible refine Ext.alloc ?_ _ | with_reducible refine Ext.drew ?_ | (with_reducible refine Ext.setAt ?_ _ _ _ ?_; rotate_left; omega) | with_reducible refine Ext.trans ?_ (by assumption) | with_reducible exact Past.bel _ | with_reducible refine Ext.trans ?_ (Past.bel _))))).mono ?_); rintro e w' ⟨rfl, hx⟩; (first | (obtain ⟨wx, rfl⟩ := Past.again hx) | (obtain ⟨wx, rfl⟩ := Past.ofd hx) | (obtain ⟨wx, rfl⟩ := Past.of hx)))) | (go_at_call 24; ((with_reducible refine (l17Years_q B.out (H.out.ext (by repeat (first | with_reducible exact Ext.refl _ | with_reducible assumption | with_reducible refine Ext.alloc ?_ _ | with_reducible refine Ext.drew ?_ | (with_reducible refine Ext.setAt ?_ _ _ _ ?_; rotate_left; omega) | with_reducible refine Ext.trans ?_ (by assumption) | with_reducible exact Past.bel _ | with_reducible refine Ext.trans ?_ (Past.bel _)))) _).mono ?_); rintro e w' ⟨rfl, rfl⟩)) | (go_at_call 25; ((with_reducible refine (l15Year_c _ _).mono ?_); rintro e w' ⟨rfl, rfl⟩)))
          refine (l17Of_q B.out (H.out.ext (by repeat (first | with_reducible exact Ext.refl _ | with_reducible assumption | with_reducible refine Ext.alloc ?_ _ | with_reducible refine Ext.drew ?_ | (with_reducible refine Ext.setAt ?_ _ _ _ ?_; rotate_left; omega) | with_reducible refine Ext.trans ?_ (by assumption) | with_reducible exact Past.bel _ | with_reducible refine Ext.trans ?_ (Past.bel _)))) (by omega) (by omega) hYn).mono ?_
          rintro e w' ⟨bb, cap, rfl, hx1, ho⟩
          have HO := Lib.hid ho
          clear ho
          have hb : w.heap.size ≤ wx.out.heap.size := Ext.size (show Ext w wx.out from (by repeat (first | with_reducible exact Ext.refl _ | with_reducible assumption | with_reducible refine Ext.alloc ?_ _ | with_reducible refine Ext.drew ?_ | (with_reducible refine Ext.setAt ?_ _ _ _ ?_; rotate_left; omega) | with_reducible refine Ext.trans ?_ (by assumption) | with_reducible exact Past.bel _ | with_reducible refine Ext.trans ?_ (Past.bel _))))
          have hxw : Ext w w' := Ext.trans (by repeat (first | with_reducible exact Ext.refl _ | with_reducible assumption | with_reducible refine Ext.alloc ?_ _ | with_reducible refine Ext.drew ?_ | (with_reducible refine Ext.setAt ?_ _ _ _ ?_; rotate_left; omega) | with_reducible refine Ext.trans ?_ (by assumption) | with_reducible exact Past.bel _ | with_reducible refine Ext.trans ?_ (Past.bel _))) hx1
          go_wp2_with fail
          go_ret2
          exact ⟨bb, cap, ret_two (by rw [HR.out]; rfl) (congrArg _ HK.out.symm), hxw, by rw [HR.out]; exact own_base HO.out hb⟩
set_option maxHeartbeats 4000000 in
theorem implCamOf_c (wk f y : Int) (h : CalV w s ma ra mc rc nm c) :
    Calls Try.prog 9 #[.agg #[.string s, .slice ma c.n mc, .slice ra c.nr rc, .int .i64 wk], .int .i64 f, .int .i64 y] w fun e w' => CmR w w' s nm c wk f y e := by
  have H := Lib.hid h
  have HPP := Lib.hid (h.p 33 wk)
  clear h
  cases h1 : calB s nm c wk
  · go_enter Try.func9, Try.ntmps9
    go_wp2_with (go_at_call 29; ((with_reducible refine (validCalendar_v wk (H.out.ext (by repeat (first | with_reducible exact Ext.refl _ | with_reducible assumption | with_reducible refine Ext.alloc ?_ _ | with_reducible refine Ext.drew ?_ | (with_reducible refine Ext.setAt ?_ _ _ _ ?_; rotate_left; omega) | with_reducible refine Ext.trans ?_ (by assumption) | with_reducible exact Past.bel _ | with_reducible refine Ext.trans ?_ (Past.bel _))))).mono ?_); rintro e w' ⟨rfl, hx⟩; (first | (obtain ⟨wx, rfl⟩ := Past.again hx) | (obtain ⟨wx, rfl⟩ := Past.ofd hx) | (obtain ⟨wx, rfl⟩ := Past.of hx))))
    go_ret2
    exact CmR.none (by simp [cmC, h1]) (by omega) (by repeat (first | with_reducible exact Ext.refl _ | with_reducible assumption | with_reducible refine Ext.alloc ?_ _ | with_reducible refine Ext.drew ?_ | (with_reducible refine Ext.setAt ?_ _ _ _ ?_; rotate_left; omega) | with_reducible refine Ext.trans ?_ (by assumption) | with_reducible exact Past.bel _ | with_reducible refine Ext.trans ?_ (Past.bel _)))
  · have B := Lib.hid (calB_b h1)
    cases h2 : inB y 1 (260 / (c.n : Int))
    · go_enter Try.func9, Try.ntmps9
      go_wp2_with (first | (go_at_call 29; ((with_reducible refine (validCalendar_v wk (H.out.ext (by repeat (first | with_reducible exact Ext.refl _ | with_reducible assumption | with_reducible refine Ext.alloc ?_ _ | with_reducible refine Ext.drew ?_ | (with_reducible refine Ext.setAt ?_ _ _ _ ?_; rotate_left; omega) | with_reducible refine Ext.trans ?_ (by assumption) | with_reducible exact Past.bel _ | with_reducible refine Ext.trans ?_ (Past.bel _))))).mono ?_); rintro e w' ⟨rfl, hx⟩; (first | (obtain ⟨wx, rfl⟩ := Past.again hx) | (obtain ⟨wx, rfl⟩ := Past.ofd hx) | (obtain ⟨wx, rfl⟩ := Past.of hx)))) | (go_at_call 30; ((with_reducible refine (notched_v B.out (H.out.ext (by repeat (first | with_reducible exact Ext.refl _ | with_reducible assumption | with_reducible refine Ext.alloc ?_ _ | with_reducible refine Ext.drew ?_ | (with_reducible refine Ext.setAt ?_ _ _ _ ?_; rotate_left; omega) | with_reducible refine Ext.trans ?_ (by assumption) | with_reducible exact Past.bel _ | with_reducible refine Ext.trans ?_ (Past.bel _)))) y).mono ?_); rintro e w' ⟨rfl, hx⟩; (first | (obtain ⟨wx, rfl⟩ := Past.again hx) | (obtain ⟨wx, rfl⟩ := Past.ofd hx) | (obtain ⟨wx, rfl⟩ := Past.of hx)))) | (go_at_call 31; ((with_reducible refine (isYear_c _ _).mono ?_); rintro e w' ⟨rfl, rfl⟩)))
      go_ret2
      exact CmR.none (by simp [cmC, cmB, h1, h2]) (by omega) (by repeat (first | with_reducible exact Ext.refl _ | with_reducible assumption | with_reducible refine Ext.alloc ?_ _ | with_reducible refine Ext.drew ?_ | (with_reducible refine Ext.setAt ?_ _ _ _ ?_; rotate_left; omega) | with_reducible refine Ext.trans ?_ (by assumption) | with_reducible exact Past.bel _ | with_reducible refine Ext.trans ?_ (Past.bel _)))
    · cases h3 : inB f 0 9999
      · go_enter Try.func9, Try.ntmps9
        go_wp2_with (first | (go_at_call 29; ((with_reducible refine (validCalendar_v wk (H.out.ext (by repeat (first | with_reducible exact Ext.refl _ | with_reducible assumption | with_reducible refine Ext.alloc ?_ _ | with_reducible refine Ext.drew ?_ | (with_reducible refine Ext.setAt ?_ _ _ _ ?_; rotate_left; omega) | with_reducible refine Ext.trans ?_ (by assumption) | with_reducible exact Past.bel _ | with_reducible refine Ext.trans ?_ (Past.bel _))))).mono ?_); rintro e w' ⟨rfl, hx⟩; (first | (obtain ⟨wx, rfl⟩ := Past.again hx) | (obtain ⟨wx, rfl⟩ := Past.ofd hx) | (obtain ⟨wx, rfl⟩ := Past.of hx)))) | (go_at_call 30; ((with_reducible refine (notched_v B.out (H.out.ext (by repeat (first | with_reducible exact Ext.refl _ | with_reducible assumption | with_reducible refine Ext.alloc ?_ _ | with_reducible refine Ext.drew ?_ | (with_reducible refine Ext.setAt ?_ _ _ _ ?_; rotate_left; omega) | with_reducible refine Ext.trans ?_ (by assumption) | with_reducible exact Past.bel _ | with_reducible refine Ext.trans ?_ (Past.bel _)))) y).mono ?_); rintro e w' ⟨rfl, hx⟩; (first | (obtain ⟨wx, rfl⟩ := Past.again hx) | (obtain ⟨wx, rfl⟩ := Past.ofd hx) | (obtain ⟨wx, rfl⟩ := Past.of hx)))) | (go_at_call 31; ((with_reducible refine (isYear_c _ _).mono ?_); rintro e w' ⟨rfl, rfl⟩)))
        go_ret2
        exact CmR.none (by simp [cmC, cmB, h1, h2, h3]) (by omega) (by repeat (first | with_reducible exact Ext.refl _ | with_reducible assumption | with_reducible refine Ext.alloc ?_ _ | with_reducible refine Ext.drew ?_ | (with_reducible refine Ext.setAt ?_ _ _ _ ?_; rotate_left; omega) | with_reducible refine Ext.trans ?_ (by assumption) | with_reducible exact Past.bel _ | with_reducible refine Ext.trans ?_ (Past.bel _)))
      · have h2' := inB_t.1 (show inB y 1 260 = true by have := notch (n := c.n) (y := y) B.out.n1; rw [h2, Bool.and_eq_true] at this; exact this.1)
        have h2'' : y * (c.n : Int) ≤ 260 := by have := notch (n := c.n) (y := y) B.out.n1; rw [h2, Bool.and_eq_true, decide_eq_true_eq] at this; exact this.2
        have h3' := inB_t.1 h3
        cases h4 : inB (f + y - 1) 0 9999
        · go_enter Try.func9, Try.ntmps9
          go_wp2_with (first | (go_at_call 29; ((with_reducible refine (validCalendar_v wk (H.out.ext (by repeat (first | with_reducible exact Ext.refl _ | with_reducible assumption | with_reducible refine Ext.alloc ?_ _ | with_reducible refine Ext.drew ?_ | (with_reducible refine Ext.setAt ?_ _ _ _ ?_; rotate_left; omega) | with_reducible refine Ext.trans ?_ (by assumption) | with_reducible exact Past.bel _ | with_reducible refine Ext.trans ?_ (Past.bel _))))).mono ?_); rintro e w' ⟨rfl, hx⟩; (first | (obtain ⟨wx, rfl⟩ := Past.again hx) | (obtain ⟨wx, rfl⟩ := Past.ofd hx) | (obtain ⟨wx, rfl⟩ := Past.of hx)))) | (go_at_call 30; ((with_reducible refine (notched_v B.out (H.out.ext (by repeat (first | with_reducible exact Ext.refl _ | with_reducible assumption | with_reducible refine Ext.alloc ?_ _ | with_reducible refine Ext.drew ?_ | (with_reducible refine Ext.setAt ?_ _ _ _ ?_; rotate_left; omega) | with_reducible refine Ext.trans ?_ (by assumption) | with_reducible exact Past.bel _ | with_reducible refine Ext.trans ?_ (Past.bel _)))) y).mono ?_); rintro e w' ⟨rfl, hx⟩; (first | (obtain ⟨wx, rfl⟩ := Past.again hx) | (obtain ⟨wx, rfl⟩ := Past.ofd hx) | (obtain ⟨wx, rfl⟩ := Past.of hx)))) | (go_at_call 31; ((with_reducible refine (isYear_c _ _).mono ?_); rintro e w' ⟨rfl, rfl⟩)))
          go_ret2
          exact CmR.none (by simp [cmC, cmB, h1, h2, h3, h4]) (by omega) (by repeat (first | with_reducible exact Ext.refl _ | with_reducible assumption | with_reducible refine Ext.alloc ?_ _ | with_reducible refine Ext.drew ?_ | (with_reducible refine Ext.setAt ?_ _ _ _ ?_; rotate_left; omega) | with_reducible refine Ext.trans ?_ (by assumption) | with_reducible exact Past.bel _ | with_reducible refine Ext.trans ?_ (Past.bel _)))
        · have hk : cmC s nm c wk f y = 0 := by simp [cmC, cmB, h1, h2, h3, h4]
          have hr : cmL s nm c wk f y = outs (camF c f.toNat) (y.toNat * c.n) := by rw [cmL, if_pos hk]
          obtain ⟨F, rfl⟩ := Int.eq_ofNat_of_zero_le h3'.1
          obtain ⟨Y, rfl⟩ := Int.eq_ofNat_of_zero_le (show 0 ≤ y by omega)
          have hYn : Y * c.n ≤ 260 := by have e : ((Y * c.n : Nat) : Int) = (Y : Int) * (c.n : Int) := by simp
                                         omega
          simp only [Int.toNat_natCast] at hr
          have HK := Lib.hid hk
          have HR := Lib.hid hr
          have n1 := B.out.n1
          have n20 := B.out.n20
          clear hk hr h2''
          go_enter Try.func9, Try.ntmps9
          go_wp2_with (first | (go_at_call 29; ((with_reducible refine (validCalendar_v wk (H.out.ext (by repeat (first | with_reducible exact Ext.refl _ | with_reducible assumption | with_reducible refine Ext.alloc ?_ _ | with_reducible refine Ext.drew ?_ | (with_reducible refine Ext.setAt ?_ _ _ _ ?_; rotate_left; omega) | with_reducible refine Ext.trans ?_ (by assumption) | with_reducible exact Past.bel _ | with_reducible refine Ext.trans ?_ (Past.bel _))))).mono ?_); rintro e w' ⟨rfl, hx⟩; (first | (obtain ⟨wx, rfl⟩ := Past.again hx) | (obtain ⟨wx, rfl⟩ := Past.ofd hx) | (obtain ⟨wx, rfl⟩ := Past.of hx)))) | (go_at_call 30; ((with_reducible refine (notched_v B.out (H.out.ext (by repeat (first | with_reducible exact Ext.refl _ | with_reducible assumption | with_reducible refine Ext.alloc ?_ _ | with_reducible refine Ext.drew ?_ | (with_reducible refine Ext.setAt ?_ _ _ _ ?_; rotate_left; omega) | with_reducible refine Ext.trans ?_ (by assumption) | with_reducible exact Past.bel _ | with_reducible refine Ext.trans ?_ (Past.bel _)))) _).mono ?_); rintro e w' ⟨rfl, hx⟩; (first | (obtain ⟨wx, rfl⟩ := Past.again hx) | (obtain ⟨wx, rfl⟩ := Past.ofd hx) | (obtain ⟨wx, rfl⟩ := Past.of hx)))) | (go_at_call 31; ((with_reducible refine (isYear_c _ _).mono ?_); rintro e w' ⟨rfl, rfl⟩)))
          clear h2 h3 h4
          go_loopw [8, 9] (fun v y wr => ∃ i : Nat, i ≤ Y ∧ y = .int .i64 ((F : Int) + i) ∧ Ext (w.alloc (.cells #[.string s, .slice ma c.n mc, .slice ra c.nr rc, .int .i64 wk] 33)) wr ∧ wr.ownsRow (w.alloc (.cells #[.string s, .slice ma c.n mc, .slice ra c.nr rc, .int .i64 wk] 33)).heap.size 2 1 v (outs (camF c F) (i * c.n)).length ((outs (camF c F) (i * c.n)).map (Value.int .i64))) (fun _ y _ => F + Y - (intOf y).toNat)
          case atStart => exact ⟨0, by omega, by simp, (by repeat (first | with_reducible exact Ext.refl _ | with_reducible assumption | with_reducible refine Ext.alloc ?_ _ | with_reducible refine Ext.drew ?_ | (with_reducible refine Ext.setAt ?_ _ _ _ ?_; rotate_left; omega) | with_reducible refine Ext.trans ?_ (by assumption) | with_reducible exact Past.bel _ | with_reducible refine Ext.trans ?_ (Past.bel _))), by simp only [Nat.zero_mul]; exact World.ownsRow_nil _ _ _ _⟩
          case round =>
            obtain ⟨i, hi, rfl, hbl, ho⟩ := hrel
            have HO := Lib.hid ho
            have hp := HPP.out.ext hbl
            have g0 := hp.lt
            have p0 := hp.c0
            have p1 := hp.c1
            have p2 := hp.c2
            have p3 := hp.c3
            have HBL := Lib.hid hbl
            have hb0 : Ext w wr := Ext.trans (by repeat (first | with_reducible exact Ext.refl _ | with_reducible assumption | with_reducible refine Ext.alloc ?_ _ | with_reducible refine Ext.drew ?_ | (with_reducible refine Ext.setAt ?_ _ _ _ ?_; rotate_left; omega) | with_reducible refine Ext.trans ?_ (by assumption) | with_reducible exact Past.bel _ | with_reducible refine Ext.trans ?_ (Past.bel _))) hbl
            clear ho hp
            by_cases hlt : i < Y
            · have hin : (i + 1) * c.n ≤ Y * c.n := Nat.mul_le_mul_right _ hlt
              rw [Nat.add_mul, Nat.one_mul] at hin
              obtain ⟨L, hL⟩ : ∃ L, L = c.leap ((F : Int) + i) := ⟨_, rfl⟩
              have HLP := Lib.hid (fun W (hq : Ext w W) => (hL ▸ isLeap_v (wk := wk) B.out (H.out.ext hq) (show 0 ≤ (F : Int) + i by omega) (by omega) : Calls Try.prog 32 #[.agg #[.string s, .slice ma c.n mc, .slice ra c.nr rc, .int .i64 wk], .int .i64 ((F : Int) + i)] W fun e w' => e = .returned (.bool L) ∧ Ext W w'))
              have HDM := Lib.hid (fun W (hq : Ext w W) (j : Nat) (hj : j < c.n) => (hL ▸ daysOfMonth_v (wk := wk) (H.out.ext hq) ((F : Int) + i) hj : Calls Try.prog 33 #[.agg #[.string s, .slice ma c.n mc, .slice ra c.nr rc, .int .i64 wk], .bool L, .int .i64 ((j : Int) + 1)] W fun e w' => e = .returned (.int .i64 (c.mo ((F : Int) + i) j)) ∧ Ext W w'))
              clear hL
              go_wp2_with (go_at_call 32; ((with_reducible refine (HLP.out _ (by repeat (first | with_reducible exact Ext.refl _ | with_reducible assumption | with_reducible refine Ext.alloc ?_ _ | with_reducible refine Ext.drew ?_ | (with_reducible refine Ext.setAt ?_ _ _ _ ?_; rotate_left; omega) | with_reducible refine Ext.trans ?_ (by assumption) | with_reducible exact Past.bel _ | with_reducible refine Ext.trans ?_ (Past.bel _)))).mono ?_); rintro e w' ⟨rfl, hx⟩; (first | (obtain ⟨wx, rfl⟩ := Past.again hx) | (obtain ⟨wx, rfl⟩ := Past.ofd hx) | (obtain ⟨wx, rfl⟩ := Past.of hx))))
              have HX1 := Lib.hid (show Ext (w.alloc (.cells #[.string s, .slice ma c.n mc, .slice ra c.nr rc, .int .i64 wk] 33)) wx.out from Ext.trans HBL.out (Past.bel wx))
              have HO1 := Lib.hid (own_ext HO.out (Past.bel wx))
              clear p0 p1 p2 p3 g0
              go_loopw [8, 46] (fun v m ws => ∃ j : Nat, j ≤ c.n ∧ m = .int .i64 (j : Nat) ∧ Ext (w.alloc (.cells #[.string s, .slice ma c.n mc, .slice ra c.nr rc, .int .i64 wk] 33)) ws ∧ ws.ownsRow (w.alloc (.cells #[.string s, .slice ma c.n mc, .slice ra c.nr rc, .int .i64 wk] 33)).heap.size 2 1 v (outs (camF c F) (i * c.n + j)).length ((outs (camF c F) (i * c.n + j)).map (Value.int .i64))) (fun _ m _ => c.n - (intOf m).toNat)
              case atStart => exact ⟨0, by omega, rfl, HX1.out, HO1.out⟩
              case round =>
                obtain ⟨j, hj, rfl, hbl2, ho2⟩ := hrel
                have HO2 := Lib.hid ho2
                have hp2 := HPP.out.ext hbl2
                have g1 := hp2.lt
                have p0 := hp2.c0
                have p1 := hp2.c1
                have p2 := hp2.c2
                have p3 := hp2.c3
                have hb2 := Ext.trans (show Ext w (w.alloc (.cells #[.string s, .slice ma c.n mc, .slice ra c.nr rc, .int .i64 wk] 33)) from (by repeat (first | with_reducible exact Ext.refl _ | with_reducible assumption | with_reducible refine Ext.alloc ?_ _ | with_reducible refine Ext.drew ?_ | (with_reducible refine Ext.setAt ?_ _ _ _ ?_; rotate_left; omega) | with_reducible refine Ext.trans ?_ (by assumption) | with_reducible exact Past.bel _ | with_reducible refine Ext.trans ?_ (Past.bel _)))) hbl2
                clear ho2 hp2
                have hlen := outs_len (camF c F) (i * c.n + j)
                by_cases hjn : j < c.n
                · have hca := camF_at (c := c) (f := F) (i := i) hjn
                  have e0 : (F : Int) + (i : Int) = ((F + i : Nat) : Int) := by omega
                  have hst : outs (camF c F) (i * c.n + (j + 1)) = outs (camF c F) (i * c.n + j) ++ [c.mo ((F : Int) + (i : Int)) j] := by
                    rw [e0, ← hca]; rfl
                  have HST := Lib.hid hst
                  clear hca hst e0
                  go_wp2_with (first | (go_at_call 33; ((with_reducible refine (HDM.out _ (by repeat (first | with_reducible exact Ext.refl _ | with_reducible assumption | with_reducible refine Ext.alloc ?_ _ | with_reducible refine Ext.drew ?_ | (with_reducible refine Ext.setAt ?_ _ _ _ ?_; rotate_left; omega) | with_reducible refine Ext.trans ?_ (by assumption) | with_reducible exact Past.bel _ | with_reducible refine Ext.trans ?_ (Past.bel _))) j hjn).mono ?_); rintro e w' ⟨rfl, hx⟩; (first | (obtain ⟨wx, rfl⟩ := Past.again hx) | (obtain ⟨wx, rfl⟩ := Past.ofd hx) | (obtain ⟨wx, rfl⟩ := Past.of hx)))) | (at_builtin; refine app1 (w0 := (w.alloc (.cells #[.string s, .slice ma c.n mc, .slice ra c.nr rc, .int .i64 wk] 33))) 27 2 _ _ rfl rfl Try.underlying27 info_i64 _ (outs (camF c F) (i * c.n + j)) (c.mo ((F : Int) + (i : Int)) j) _ rfl rfl (own_ext HO2.out (by repeat (first | with_reducible exact Ext.refl _ | with_reducible assumption | with_reducible refine Ext.alloc ?_ _ | with_reducible refine Ext.drew ?_ | (with_reducible refine Ext.setAt ?_ _ _ _ ?_; rotate_left; omega) | with_reducible refine Ext.trans ?_ (by assumption) | with_reducible exact Past.bel _ | with_reducible refine Ext.trans ?_ (Past.bel _)))) (by simp [go_sem]) (by omega) (by repeat (first | with_reducible exact Ext.refl _ | with_reducible assumption | with_reducible refine Ext.alloc ?_ _ | with_reducible refine Ext.drew ?_ | (with_reducible refine Ext.setAt ?_ _ _ _ ?_; rotate_left; omega) | with_reducible refine Ext.trans ?_ (by assumption) | with_reducible exact Past.bel _ | with_reducible refine Ext.trans ?_ (Past.bel _))) ?_; intro v1 w1 ho1 hx1))
                  exact ⟨⟨j + 1, by omega, by go_num, hx1, by rw [HST.out]; exact ho1⟩, by simp [intOf]; omega⟩
                · have hj2 : j = c.n := by omega
                  have e1 : i * c.n + j = (i + 1) * c.n := by rw [hj2, Nat.add_mul, Nat.one_mul]
                  rw [e1] at HO2
                  have x3 : (c.n : Int) ≤ (j : Int) := by omega
                  clear e1 hj2 hlen
                  go_wp2_with fail
                  exact ⟨⟨i + 1, by omega, by go_num, hbl2, HO2.out⟩, by simp [intOf]; omega⟩
            · have hiY : i = Y := by omega
              rw [hiY] at HO
              obtain ⟨bb, cap, rfl⟩ := own_form HO.out
              have x3 : (Y : Int) ≤ (i : Int) := by omega
              clear hiY
              go_wp2_with fail
              go_ret2
              exact ⟨bb, cap, ret_two (by rw [HR.out]; rfl) (congrArg _ HK.out.symm), hb0, by rw [HR.out]; exact own_base HO.out (by simp)⟩
end
end Go.Proofs.Ytkihjplemnndeaa

namespace Go.Proofs.Ytkihjplemnndeaa
open Go.RowKit
set_option linter.unusedVariables false
set_option linter.unusedSimpArgs false

theorem camV_n {n : Nat} {z : Nat → Int} (h : camV n z = true) : 1 ≤ n ∧ n ≤ 260 := by
  rw [camV, Bool.and_eq_true] at h
  have := inB_t.1 h.2
  omega
section
variable {s : ByteArray} {ma ra : Option Addr} {mc rc : Nat} {nm : Nat → ByteArray} {c : CalN} {w : World} {wk : Int} {g : Nat}
theorem belongs_y (h : CalV w s ma ra mc rc nm c) (h1 : 1 ≤ c.n) {a : Option Addr} {n cc : Nat} (hn : 1 ≤ n) (hn2 : n ≤ 260) (h0 : n % c.n = 0) :
    Calls Try.prog 64 #[.agg #[.string s, .slice ma c.n mc, .slice ra c.nr rc, .int .i64 wk], .slice a n cc] w fun e w' => e = .returned (.int .i64 ((n / c.n : Nat) : Int)) ∧ Ext w w' := by
  have hb := h.nb
  have h2 : ((n : Nat) : Int) % (c.n : Int) = 0 := by omega
  obtain ⟨K, hK⟩ : ∃ K, K = n / c.n := ⟨_, rfl⟩
  have hK2 : (n : Int) / (c.n : Int) = (K : Int) := by rw [hK]; simp
  have hK3 : K ≤ 260 := by rw [hK]; exact Nat.le_trans (Nat.div_le_self _ _) hn2
  rw [← hK]
  clear h hK
  go_enter Try.func64, Try.ntmps64
  go_wp2
  go_ret
  exact ⟨rfl, (by repeat (first | with_reducible exact Ext.refl _ | with_reducible assumption | with_reducible refine Ext.alloc ?_ _ | with_reducible refine Ext.drew ?_ | (with_reducible refine Ext.setAt ?_ _ _ _ ?_; rotate_left; omega) | with_reducible refine Ext.trans ?_ (by assumption) | with_reducible exact Past.bel _ | with_reducible refine Ext.trans ?_ (Past.bel _)))⟩
theorem belongs_n (h : CalV w s ma ra mc rc nm c) (h1 : 1 ≤ c.n) {a : Option Addr} {n cc : Nat} (hn : 1 ≤ n) (hn2 : n ≤ 260) (h0 : ¬ n % c.n = 0) :
    Calls Try.prog 64 #[.agg #[.string s, .slice ma c.n mc, .slice ra c.nr rc, .int .i64 wk], .slice a n cc] w fun e w' => e = .returned (.int .i64 0) ∧ Ext w w' := by
  have hb := h.nb
  have h2 : ¬ ((n : Nat) : Int) % (c.n : Int) = 0 := by omega
  clear h
  go_enter Try.func64, Try.ntmps64
  go_wp2
  go_ret
  exact ⟨rfl, (by repeat (first | with_reducible exact Ext.refl _ | with_reducible assumption | with_reducible refine Ext.alloc ?_ _ | with_reducible refine Ext.drew ?_ | (with_reducible refine Ext.setAt ?_ _ _ _ ?_; rotate_left; omega) | with_reducible refine Ext.trans ?_ (by assumption) | with_reducible exact Past.bel _ | with_reducible refine Ext.trans ?_ (Past.bel _)))⟩
set_option maxHeartbeats 1000000 in
theorem askedCam_v (wk : Int) (h : CalV w s ma ra mc rc nm c) {a : Option Addr} {n cc : Nat} {z : Nat → Int} (hn : n ≤ 1048576) (hs : S1 w a n z) :
    Calls Try.prog 41 #[.agg #[.string s, .slice ma c.n mc, .slice ra c.nr rc, .int .i64 wk], .slice a n cc] w fun e w' => e = .returned (.int .i64 (asC s nm c wk n z)) ∧ Ext w w' := by
  have H := Lib.hid h
  have HS := Lib.hid hs
  clear h hs
  cases h1 : calB s nm c wk
  · go_enter Try.func41, Try.ntmps41
    go_wp2_with (go_at_call 29; ((with_reducible refine (validCalendar_v wk (H.out.ext (by repeat (first | with_reducible exact Ext.refl _ | with_reducible assumption | with_reducible refine Ext.alloc ?_ _ | with_reducible refine Ext.drew ?_ | (with_reducible refine Ext.setAt ?_ _ _ _ ?_; rotate_left; omega) | with_reducible refine Ext.trans ?_ (by assumption) | with_reducible exact Past.bel _ | with_reducible refine Ext.trans ?_ (Past.bel _))))).mono ?_); rintro e w' ⟨rfl, hx⟩; (first | (obtain ⟨wx, rfl⟩ := Past.again hx) | (obtain ⟨wx, rfl⟩ := Past.ofd hx) | (obtain ⟨wx, rfl⟩ := Past.of hx))))
    go_ret
    exact ⟨ret_i64 (by simp [asC, h1]), (by repeat (first | with_reducible exact Ext.refl _ | with_reducible assumption | with_reducible refine Ext.alloc ?_ _ | with_reducible refine Ext.drew ?_ | (with_reducible refine Ext.setAt ?_ _ _ _ ?_; rotate_left; omega) | with_reducible refine Ext.trans ?_ (by assumption) | with_reducible exact Past.bel _ | with_reducible refine Ext.trans ?_ (Past.bel _)))⟩
  · have B := Lib.hid (calB_b h1)
    cases h2 : camV n z
    · go_enter Try.func41, Try.ntmps41
      go_wp2_with (first | (go_at_call 29; ((with_reducible refine (validCalendar_v wk (H.out.ext (by repeat (first | with_reducible exact Ext.refl _ | with_reducible assumption | with_reducible refine Ext.alloc ?_ _ | with_reducible refine Ext.drew ?_ | (with_reducible refine Ext.setAt ?_ _ _ _ ?_; rotate_left; omega) | with_reducible refine Ext.trans ?_ (by assumption) | with_reducible exact Past.bel _ | with_reducible refine Ext.trans ?_ (Past.bel _))))).mono ?_); rintro e w' ⟨rfl, hx⟩; (first | (obtain ⟨wx, rfl⟩ := Past.again hx) | (obtain ⟨wx, rfl⟩ := Past.ofd hx) | (obtain ⟨wx, rfl⟩ := Past.of hx)))) | (go_at_call 63; ((with_reducible refine (validCam_c _ _ _ _ _ hn (HS.out.ext (by repeat (first | with_reducible exact Ext.refl _ | with_reducible assumption | with_reducible refine Ext.alloc ?_ _ | with_reducible refine Ext.drew ?_ | (with_reducible refine Ext.setAt ?_ _ _ _ ?_; rotate_left; omega) | with_reducible refine Ext.trans ?_ (by assumption) | with_reducible exact Past.bel _ | with_reducible refine Ext.trans ?_ (Past.bel _))))).mono ?_); rintro e w' ⟨rfl, rfl⟩)))
      go_ret
      exact ⟨ret_i64 (by simp [asC, h1, h2]), (by repeat (first | with_reducible exact Ext.refl _ | with_reducible assumption | with_reducible refine Ext.alloc ?_ _ | with_reducible refine Ext.drew ?_ | (with_reducible refine Ext.setAt ?_ _ _ _ ?_; rotate_left; omega) | with_reducible refine Ext.trans ?_ (by assumption) | with_reducible exact Past.bel _ | with_reducible refine Ext.trans ?_ (Past.bel _)))⟩
    · have h3 := camV_n h2
      by_cases h4 : n % c.n = 0
      · have h5 : 1 ≤ n / c.n := (row_in (y := 0) (j := 0) h3.1 h4 B.out.n1 B.out.n1).1
        have h6 : ¬ ((n / c.n : Nat) : Int) = 0 := by omega
        have HB := Lib.hid (fun W (hq : Ext w W) => belongs_y (wk := wk) (a := a) (cc := cc) (H.out.ext hq) B.out.n1 h3.1 h3.2 h4)
        obtain ⟨K, hK⟩ : ∃ K, K = n / c.n := ⟨_, rfl⟩
        rw [← hK] at HB h5 h6
        have HK := Lib.hid hK
        have H4 := Lib.hid h4
        clear hK h4
        go_enter Try.func41, Try.ntmps41
        go_wp2_with (first | (go_at_call 29; ((with_reducible refine (validCalendar_v wk (H.out.ext (by repeat (first | with_reducible exact Ext.refl _ | with_reducible assumption | with_reducible refine Ext.alloc ?_ _ | with_reducible refine Ext.drew ?_ | (with_reducible refine Ext.setAt ?_ _ _ _ ?_; rotate_left; omega) | with_reducible refine Ext.trans ?_ (by assumption) | with_reducible exact Past.bel _ | with_reducible refine Ext.trans ?_ (Past.bel _))))).mono ?_); rintro e w' ⟨rfl, hx⟩; (first | (obtain ⟨wx, rfl⟩ := Past.again hx) | (obtain ⟨wx, rfl⟩ := Past.ofd hx) | (obtain ⟨wx, rfl⟩ := Past.of hx)))) | (go_at_call 63; ((with_reducible refine (validCam_c _ _ _ _ _ hn (HS.out.ext (by repeat (first | with_reducible exact Ext.refl _ | with_reducible assumption | with_reducible refine Ext.alloc ?_ _ | with_reducible refine Ext.drew ?_ | (with_reducible refine Ext.setAt ?_ _ _ _ ?_; rotate_left; omega) | with_reducible refine Ext.trans ?_ (by assumption) | with_reducible exact Past.bel _ | with_reducible refine Ext.trans ?_ (Past.bel _))))).mono ?_); rintro e w' ⟨rfl, rfl⟩)) | (go_at_call 64; ((with_reducible refine (HB.out _ (by repeat (first | with_reducible exact Ext.refl _ | with_reducible assumption | with_reducible refine Ext.alloc ?_ _ | with_reducible refine Ext.drew ?_ | (with_reducible refine Ext.setAt ?_ _ _ _ ?_; rotate_left; omega) | with_reducible refine Ext.trans ?_ (by assumption) | with_reducible exact Past.bel _ | with_reducible refine Ext.trans ?_ (Past.bel _)))).mono ?_); rintro e w' ⟨rfl, hx⟩; (first | (obtain ⟨wx, rfl⟩ := Past.again hx) | (obtain ⟨wx, rfl⟩ := Past.ofd hx) | (obtain ⟨wx, rfl⟩ := Past.of hx)))))
        go_ret
        exact ⟨ret_i64 (by simp [asC, h1, h2, H4.out]), (by repeat (first | with_reducible exact Ext.refl _ | with_reducible assumption | with_reducible refine Ext.alloc ?_ _ | with_reducible refine Ext.drew ?_ | (with_reducible refine Ext.setAt ?_ _ _ _ ?_; rotate_left; omega) | with_reducible refine Ext.trans ?_ (by assumption) | with_reducible exact Past.bel _ | with_reducible refine Ext.trans ?_ (Past.bel _)))⟩
      · have H4 := Lib.hid h4
        clear h4
        go_enter Try.func41, Try.ntmps41
        go_wp2_with (first | (go_at_call 29; ((with_reducible refine (validCalendar_v wk (H.out.ext (by repeat (first | with_reducible exact Ext.refl _ | with_reducible assumption | with_reducible refine Ext.alloc ?_ _ | with_reducible refine Ext.drew ?_ | (with_reducible refine Ext.setAt ?_ _ _ _ ?_; rotate_left; omega) | with_reducible refine Ext.trans ?_ (by assumption) | with_reducible exact Past.bel _ | with_reducible refine Ext.trans ?_ (Past.bel _))))).mono ?_); rintro e w' ⟨rfl, hx⟩; (first | (obtain ⟨wx, rfl⟩ := Past.again hx) | (obtain ⟨wx, rfl⟩ := Past.ofd hx) | (obtain ⟨wx, rfl⟩ := Past.of hx)))) | (go_at_call 63; ((with_reducible refine (validCam_c _ _ _ _ _ hn (HS.out.ext (by repeat (first | with_reducible exact Ext.refl _ | with_reducible assumption | with_reducible refine Ext.alloc ?_ _ | with_reducible refine Ext.drew ?_ | (with_reducible refine Ext.setAt ?_ _ _ _ ?_; rotate_left; omega) | with_reducible refine Ext.trans ?_ (by assumption) | with_reducible exact Past.bel _ | with_reducible refine Ext.trans ?_ (Past.bel _))))).mono ?_); rintro e w' ⟨rfl, rfl⟩)) | (go_at_call 64; ((with_reducible refine (belongs_n (H.out.ext (by repeat (first | with_reducible exact Ext.refl _ | with_reducible assumption | with_reducible refine Ext.alloc ?_ _ | with_reducible refine Ext.drew ?_ | (with_reducible refine Ext.setAt ?_ _ _ _ ?_; rotate_left; omega) | with_reducible refine Ext.trans ?_ (by assumption) | with_reducible exact Past.bel _ | with_reducible refine Ext.trans ?_ (Past.bel _)))) B.out.n1 h3.1 h3.2 H4.out).mono ?_); rintro e w' ⟨rfl, hx⟩; (first | (obtain ⟨wx, rfl⟩ := Past.again hx) | (obtain ⟨wx, rfl⟩ := Past.ofd hx) | (obtain ⟨wx, rfl⟩ := Past.of hx)))))
        go_ret
        exact ⟨ret_i64 (by simp [asC, h1, h2, H4.out]), (by repeat (first | with_reducible exact Ext.refl _ | with_reducible assumption | with_reducible refine Ext.alloc ?_ _ | with_reducible refine Ext.drew ?_ | (with_reducible refine Ext.setAt ?_ _ _ _ ?_; rotate_left; omega) | with_reducible refine Ext.trans ?_ (by assumption) | with_reducible exact Past.bel _ | with_reducible refine Ext.trans ?_ (Past.bel _)))⟩
set_option maxHeartbeats 1000000 in
theorem l17Ask_q (h : CalQ w g s ma ra mc rc wk nm c) {a : Option Addr} {n cc : Nat} {z : Nat → Int} (hn : n ≤ 1048576) (hs : S1 w a n z) :
    Calls Try.prog 38 #[.pointer (some ⟨g, 0, none⟩), .slice a n cc] w fun e w' => e = .returned (.int .i64 (asC s nm c wk n z)) ∧ Ext w w' := by
  have H := Lib.hid h
  have HS := Lib.hid hs
  have g0 := h.p.lt
  have p1 := h.p.c1
  have hb := h.nb
  clear h hs
  cases h1 : calB s nm c wk
  · go_enter Try.func38, Try.ntmps38
    go_wp2_with (go_at_call 23; ((with_reducible refine (l15Ok_q (H.out.ext (by repeat (first | with_reducible exact Ext.refl _ | with_reducible assumption | with_reducible refine Ext.alloc ?_ _ | with_reducible refine Ext.drew ?_ | (with_reducible refine Ext.setAt ?_ _ _ _ ?_; rotate_left; omega) | with_reducible refine Ext.trans ?_ (by assumption) | with_reducible exact Past.bel _ | with_reducible refine Ext.trans ?_ (Past.bel _))))).mono ?_); rintro e w' ⟨rfl, hx⟩; (first | (obtain ⟨wx, rfl⟩ := Past.again hx) | (obtain ⟨wx, rfl⟩ := Past.ofd hx) | (obtain ⟨wx, rfl⟩ := Past.of hx))))
    go_ret
    exact ⟨ret_i64 (by simp [asC, h1]), (by repeat (first | with_reducible exact Ext.refl _ | with_reducible assumption | with_reducible refine Ext.alloc ?_ _ | with_reducible refine Ext.drew ?_ | (with_reducible refine Ext.setAt ?_ _ _ _ ?_; rotate_left; omega) | with_reducible refine Ext.trans ?_ (by assumption) | with_reducible exact Past.bel _ | with_reducible refine Ext.trans ?_ (Past.bel _)))⟩
  · have B := Lib.hid (calB_b h1)
    cases h2 : camV n z
    · go_enter Try.func38, Try.ntmps38
      go_wp2_with (first | (go_at_call 23; ((with_reducible refine (l15Ok_q (H.out.ext (by repeat (first | with_reducible exact Ext.refl _ | with_reducible assumption | with_reducible refine Ext.alloc ?_ _ | with_reducible refine Ext.drew ?_ | (with_reducible refine Ext.setAt ?_ _ _ _ ?_; rotate_left; omega) | with_reducible refine Ext.trans ?_ (by assumption) | with_reducible exact Past.bel _ | with_reducible refine Ext.trans ?_ (Past.bel _))))).mono ?_); rintro e w' ⟨rfl, hx⟩; (first | (obtain ⟨wx, rfl⟩ := Past.again hx) | (obtain ⟨wx, rfl⟩ := Past.ofd hx) | (obtain ⟨wx, rfl⟩ := Past.of hx)))) | (go_at_call 61; ((with_reducible refine (l17Ok_c _ _ _ _ _ hn (HS.out.ext (by repeat (first | with_reducible exact Ext.refl _ | with_reducible assumption | with_reducible refine Ext.alloc ?_ _ | with_reducible refine Ext.drew ?_ | (with_reducible refine Ext.setAt ?_ _ _ _ ?_; rotate_left; omega) | with_reducible refine Ext.trans ?_ (by assumption) | with_reducible exact Past.bel _ | with_reducible refine Ext.trans ?_ (Past.bel _))))).mono ?_); rintro e w' ⟨rfl, rfl⟩)))
      go_ret
      exact ⟨ret_i64 (by simp [asC, h1, h2]), (by repeat (first | with_reducible exact Ext.refl _ | with_reducible assumption | with_reducible refine Ext.alloc ?_ _ | with_reducible refine Ext.drew ?_ | (with_reducible refine Ext.setAt ?_ _ _ _ ?_; rotate_left; omega) | with_reducible refine Ext.trans ?_ (by assumption) | with_reducible exact Past.bel _ | with_reducible refine Ext.trans ?_ (Past.bel _)))⟩
    · have h3 := camV_n h2
      have hn1 := B.out.n1
      by_cases h4 : n % c.n = 0
      · have h5 : ((n : Nat) : Int) % (c.n : Int) = 0 := by omega
        have H4 := Lib.hid h4
        clear h4
        go_enter Try.func38, Try.ntmps38
        go_wp2_with (first | (go_at_call 23; ((with_reducible refine (l15Ok_q (H.out.ext (by repeat (first | with_reducible exact Ext.refl _ | with_reducible assumption | with_reducible refine Ext.alloc ?_ _ | with_reducible refine Ext.drew ?_ | (with_reducible refine Ext.setAt ?_ _ _ _ ?_; rotate_left; omega) | with_reducible refine Ext.trans ?_ (by assumption) | with_reducible exact Past.bel _ | with_reducible refine Ext.trans ?_ (Past.bel _))))).mono ?_); rintro e w' ⟨rfl, hx⟩; (first | (obtain ⟨wx, rfl⟩ := Past.again hx) | (obtain ⟨wx, rfl⟩ := Past.ofd hx) | (obtain ⟨wx, rfl⟩ := Past.of hx)))) | (go_at_call 61; ((with_reducible refine (l17Ok_c _ _ _ _ _ hn (HS.out.ext (by repeat (first | with_reducible exact Ext.refl _ | with_reducible assumption | with_reducible refine Ext.alloc ?_ _ | with_reducible refine Ext.drew ?_ | (with_reducible refine Ext.setAt ?_ _ _ _ ?_; rotate_left; omega) | with_reducible refine Ext.trans ?_ (by assumption) | with_reducible exact Past.bel _ | with_reducible refine Ext.trans ?_ (Past.bel _))))).mono ?_); rintro e w' ⟨rfl, rfl⟩)))
        go_ret
        exact ⟨ret_i64 (by simp [asC, h1, h2, H4.out]), (by repeat (first | with_reducible exact Ext.refl _ | with_reducible assumption | with_reducible refine Ext.alloc ?_ _ | with_reducible refine Ext.drew ?_ | (with_reducible refine Ext.setAt ?_ _ _ _ ?_; rotate_left; omega) | with_reducible refine Ext.trans ?_ (by assumption) | with_reducible exact Past.bel _ | with_reducible refine Ext.trans ?_ (Past.bel _)))⟩
      · have h5 : ¬ ((n : Nat) : Int) % (c.n : Int) = 0 := by omega
        have H4 := Lib.hid h4
        clear h4
        go_enter Try.func38, Try.ntmps38
        go_wp2_with (first | (go_at_call 23; ((with_reducible refine (l15Ok_q (H.out.ext (by repeat (first | with_reducible exact Ext.refl _ | with_reducible assumption | with_reducible refine Ext.alloc ?_ _ | with_reducible refine Ext.drew ?_ | (with_reducible refine Ext.setAt ?_ _ _ _ ?_; rotate_left; omega) | with_reducible refine Ext.trans ?_ (by assumption) | with_reducible exact Past.bel _ | with_reducible refine Ext.trans ?_ (Past.bel _))))).mono ?_); rintro e w' ⟨rfl, hx⟩; (first | (obtain ⟨wx, rfl⟩ := Past.again hx) | (obtain ⟨wx, rfl⟩ := Past.ofd hx) | (obtain ⟨wx, rfl⟩ := Past.of hx)))) | (go_at_call 61; ((with_reducible refine (l17Ok_c _ _ _ _ _ hn (HS.out.ext (by repeat (first | with_reducible exact Ext.refl _ | with_reducible assumption | with_reducible refine Ext.alloc ?_ _ | with_reducible refine Ext.drew ?_ | (with_reducible refine Ext.setAt ?_ _ _ _ ?_; rotate_left; omega) | with_reducible refine Ext.trans ?_ (by assumption) | with_reducible exact Past.bel _ | with_reducible refine Ext.trans ?_ (Past.bel _))))).mono ?_); rintro e w' ⟨rfl, rfl⟩)))
        go_ret
        exact ⟨ret_i64 (by simp [asC, h1, h2, H4.out]), (by repeat (first | with_reducible exact Ext.refl _ | with_reducible assumption | with_reducible refine Ext.alloc ?_ _ | with_reducible refine Ext.drew ?_ | (with_reducible refine Ext.setAt ?_ _ _ _ ?_; rotate_left; omega) | with_reducible refine Ext.trans ?_ (by assumption) | with_reducible exact Past.bel _ | with_reducible refine Ext.trans ?_ (Past.bel _)))⟩
end
end Go.Proofs.Ytkihjplemnndeaa

namespace Go.Proofs.Ytkihjplemnndeaa
open Go.RowKit
set_option linter.unusedVariables false
set_option linter.unusedSimpArgs false

section
variable {s : ByteArray} {ma ra : Option Addr} {mc rc : Nat} {nm : Nat → ByteArray} {c : CalN} {w : World} {wk : Int} {g : Nat}
set_option maxHeartbeats 2000000 in
theorem l17Month_q (b : CalB c) (h : CalQ w g s ma ra mc rc wk nm c) {a : Option Addr} {n cc : Nat} {z : Nat → Int} (hn : 1 ≤ n) (hn2 : n ≤ 260) (h0 : n % c.n = 0) (hs : S1 w a n z) {y j : Nat} (hy : y ≤ 1000000000) (hj : j < c.n) :
    Calls Try.prog 43 #[.pointer (some ⟨g, 0, none⟩), .slice a n cc, .int .i64 (y : Nat), .int .i64 (j : Nat)] w fun e w' => e = .returned (.tuple #[.agg #[.int .i64 (y : Nat), .int .i64 ((j : Int) + 1), .int .i64 (shown c n z y j), .int .i64 (c.mo (y : Int) j)], .bool (wrong c n z y j)]) ∧ Ext w w' := by
  have H := Lib.hid h
  have HS := Lib.hid hs
  have B := Lib.hid b
  have g0 := h.p.lt
  have p1 := h.p.c1
  have hb := h.nb
  have hn1 := b.n1
  obtain ⟨k1, k2, k3⟩ := row_in (y := y) hn h0 hn1 hj
  obtain ⟨K, hK⟩ : ∃ K, K = n / c.n := ⟨_, rfl⟩
  have hK2 : (n : Int) / (c.n : Int) = (K : Int) := by rw [hK]; simp
  rw [← hK] at k1 k2 k3
  have hK3 : K ≤ 260 := by rw [hK]; exact Nat.le_trans (Nat.div_le_self _ _) hn2
  obtain ⟨R, hR⟩ : ∃ R, R = y % K := ⟨_, rfl⟩
  have hR2 : (y : Int) % (K : Int) = (R : Int) := by rw [hR]; simp
  have hR3 : R < K := by rw [hR]; exact Nat.mod_lt _ k1
  rw [← hR] at k2
  obtain ⟨T, hT⟩ : ∃ T, T = R * c.n := ⟨_, rfl⟩
  have hT2 : (R : Int) * (c.n : Int) = (T : Int) := by rw [hT]; simp
  rw [← hT] at k2
  have hx : (T : Int) + (j : Int) = ((T + j : Nat) : Int) := by omega
  obtain ⟨b1, o1, rfl, hb1, q1⟩ := S1.at hs k2
  obtain ⟨v, hv⟩ : ∃ v, v = z (T + j) := ⟨_, rfl⟩
  obtain ⟨X, hX⟩ : ∃ X, X = T + j := ⟨_, rfl⟩
  rw [← hX] at q1 k2 hx hv
  rw [← hv] at q1
  have hsh : shown c n z y j = v := by rw [hv, hX, hT, hR, hK, shown]
  have hwr : wrong c n z y j = decide (v ≠ c.mo (y : Int) j) := by rw [wrong, hsh]
  rw [hsh, hwr]
  obtain ⟨M, hM⟩ : ∃ M, M = c.mo (y : Int) j := ⟨_, rfl⟩
  have HL := Lib.hid (fun W (hq : Ext w W) => (hM ▸ l15Days_q B.out (H.out.ext hq) (show 0 ≤ (y : Int) by omega) (by omega) hj : Calls Try.prog 50 #[.pointer (some ⟨g, 0, none⟩), .int .i64 (y : Nat), .int .i64 (j : Nat)] W fun e w' => e = .returned (.int .i64 M) ∧ Ext W w'))
  rw [← hM]
  clear h hs b h0 k1 k3 hsh hwr hv hX hT hR hK hM
  go_enter Try.func43, Try.ntmps43
  go_wp2_with (go_at_call 50; ((with_reducible refine (HL.out _ (by repeat (first | with_reducible exact Ext.refl _ | with_reducible assumption | with_reducible refine Ext.alloc ?_ _ | with_reducible refine Ext.drew ?_ | (with_reducible refine Ext.setAt ?_ _ _ _ ?_; rotate_left; omega) | with_reducible refine Ext.trans ?_ (by assumption) | with_reducible exact Past.bel _ | with_reducible refine Ext.trans ?_ (Past.bel _)))).mono ?_); rintro e w' ⟨rfl, hx⟩; (first | (obtain ⟨wx, rfl⟩ := Past.again hx) | (obtain ⟨wx, rfl⟩ := Past.ofd hx) | (obtain ⟨wx, rfl⟩ := Past.of hx))))
  have u1 : ((wx.out.alloc (.cells #[.int .i64 (y : Nat), .int .i64 ((j : Int) + 1), .int .i64 0, .int .i64 M] 45)).drew).cell? ⟨g, 1, none⟩ = some (.slice ma c.n mc) := (Ext.cell (show Ext w _ from (by repeat (first | with_reducible exact Ext.refl _ | with_reducible assumption | with_reducible refine Ext.alloc ?_ _ | with_reducible refine Ext.drew ?_ | (with_reducible refine Ext.setAt ?_ _ _ _ ?_; rotate_left; omega) | with_reducible refine Ext.trans ?_ (by assumption) | with_reducible exact Past.bel _ | with_reducible refine Ext.trans ?_ (Past.bel _)))) g0).trans p1
  have u2 : ((wx.out.alloc (.cells #[.int .i64 (y : Nat), .int .i64 ((j : Int) + 1), .int .i64 0, .int .i64 M] 45)).drew).cell? ⟨b1, o1 + X, none⟩ = some (.int .i64 v) := (Ext.cell (show Ext w _ from (by repeat (first | with_reducible exact Ext.refl _ | with_reducible assumption | with_reducible refine Ext.alloc ?_ _ | with_reducible refine Ext.drew ?_ | (with_reducible refine Ext.setAt ?_ _ _ _ ?_; rotate_left; omega) | with_reducible refine Ext.trans ?_ (by assumption) | with_reducible exact Past.bel _ | with_reducible refine Ext.trans ?_ (Past.bel _)))) hb1).trans q1
  have hK0 : ¬ K = 0 := by omega
  have hR4 : (y : Int).tmod (K : Int) = (R : Int) := by rw [Int.tmod_eq_emod_of_nonneg (by omega)]; exact hR2
  go_region
  all_goals
    go_wp2_with fail
    go_region
    all_goals
      go_wp2_with fail
      have hz := Past.size wx
      simp only [World.size_alloc] at hz
      refine bodyPost_ret (v := .tuple #[.agg #[.int .i64 (y : Nat), .int .i64 ((j : Int) + 1), .int .i64 v, .int .i64 M], .bool (v != M)]) (by simp [results, Try.results43, go_sem]) rfl ⟨?_, (by repeat (first | with_reducible exact Ext.refl _ | with_reducible assumption | with_reducible refine Ext.alloc ?_ _ | with_reducible refine Ext.drew ?_ | (with_reducible refine Ext.setAt ?_ _ _ _ ?_; rotate_left; (first | omega | with_reducible exact Past.size _ | (simp only [World.size_alloc, World.size_drew, World.size_setCell]; omega))) | with_reducible refine Ext.trans ?_ (by assumption) | with_reducible exact Past.bel _ | with_reducible refine Ext.trans ?_ (Past.bel _)))⟩
      have hvm : (v != M) = decide (v ≠ M) := by by_cases e : v = M <;> simp [e]
      rw [hvm]
end
end Go.Proofs.Ytkihjplemnndeaa

namespace Go.Proofs.Ytkihjplemnndeaa

set_option linter.unusedVariables false
set_option linter.unusedSimpArgs false

/-- the years after which a cycle of C years and K years end together -/
theorem lcm_facts {C K : Nat} (hC : 1 ≤ C) (hC2 : C ≤ 2000) (hK : 1 ≤ K) (hK2 : K ≤ 260) : ∃ G q q' L : Nat, gcdI (C : Int) (K : Int) = (G : Int) ∧ gcdI (K : Int) (C : Int) = (G : Int) ∧ 1 ≤ G ∧ (C : Int) / (G : Int) = (q : Int) ∧ (K : Int) / (G : Int) = (q' : Int) ∧ (q : Int) * (K : Int) = (L : Int) ∧ (q' : Int) * (C : Int) = (L : Int) ∧ q ≤ 2000 ∧ q' ≤ 260 ∧ L ≤ 520000 ∧ L = Nat.lcm C K := by
  have hg : 1 ≤ Nat.gcd C K := Nat.gcd_pos_of_pos_left _ hC
  have e1 : C / Nat.gcd C K * K = Nat.lcm C K := by
    rw [Nat.lcm, Nat.mul_comm C K, Nat.mul_div_assoc _ (Nat.gcd_dvd_left C K), Nat.mul_comm]
  have e2 : K / Nat.gcd C K * C = Nat.lcm C K := by
    rw [Nat.lcm, Nat.mul_div_assoc _ (Nat.gcd_dvd_right C K), Nat.mul_comm]
  have h1 : C / Nat.gcd C K ≤ 2000 := Nat.le_trans (Nat.div_le_self _ _) hC2
  have h2 : K / Nat.gcd C K ≤ 260 := Nat.le_trans (Nat.div_le_self _ _) hK2
  have h3 : Nat.lcm C K ≤ 520000 := by
    rw [← e1]
    exact Nat.le_trans (Nat.mul_le_mul h1 hK2) (by omega)
  refine ⟨Nat.gcd C K, C / Nat.gcd C K, K / Nat.gcd C K, Nat.lcm C K, ?_, ?_, hg, ?_, ?_, ?_, ?_, h1, h2, h3, rfl⟩
  · simp [gcdI]
  · simp [gcdI, Nat.gcd_comm]
  · simp
  · simp
  · rw [← e1]; simp
  · rw [← e2]; simp
theorem flt_pre (c : CalN) (n : Nat) (z : Nat → Int) (y : Nat) {m m' : Nat} (h : m ≤ m') {q : Int × Int × Int × Int} {r : List (Int × Int × Int × Int)} (he : flt c n z y m = q :: r) : ∃ r', flt c n z y m' = q :: r' := by
  induction m' with
  | zero =>
    obtain rfl : m = 0 := by omega
    exact ⟨r, he⟩
  | succ k ih =>
    by_cases e : m = k + 1
    · subst e; exact ⟨r, he⟩
    · obtain ⟨r', h'⟩ := ih (by omega)
      simp only [flt, h']
      split
      · exact ⟨_, rfl⟩
      · exact ⟨_, rfl⟩
/-- the first fault of the years y, y + 1, .. -/
def nf (c : CalN) (n : Nat) (z : Nat → Int) : Nat → Nat → (Int × Int × Int × Int) × Int
  | 0, _ => ((0, 0, 0, 0), 3)
  | f + 1, y => match flt c n z y c.n with
    | [] => nf c n z f (y + 1)
    | q :: _ => (q, 0)
theorem nf_skip {c : CalN} {n : Nat} {z : Nat → Int} {f y : Nat} (h : flt c n z y c.n = []) : nf c n z (f + 1) y = nf c n z f (y + 1) := by simp [nf, h]
theorem nf_hit {c : CalN} {n : Nat} {z : Nat → Int} {f y : Nat} {q : Int × Int × Int × Int} {r : List (Int × Int × Int × Int)} (h : flt c n z y c.n = q :: r) : nf c n z (f + 1) y = (q, 0) := by simp [nf, h]
section
variable (s : ByteArray) (nm : Nat → ByteArray) (c : CalN) (wk : Int) (n : Nat) (z : Nat → Int)
/-- what NextFault returns -/
def nfQ (first : Int) : Int × Int × Int × Int := if asC s nm c wk n z = 0 then (if inB first 0 9999 then (nf c n z (10000 - first.toNat) first.toNat).1 else (0, 0, 0, 0)) else (0, 0, 0, 0)
def nfK (first : Int) : Int := if asC s nm c wk n z = 0 then (if inB first 0 9999 then (nf c n z (10000 - first.toNat) first.toNat).2 else 2) else asC s nm c wk n z
/-- what FaultCount returns -/
def fcV : Int := if asC s nm c wk n z = 0 then (cnt c n z (Nat.lcm c.cyc.toNat (n / c.n)) : Int) else 0
end
theorem asC_z {s : ByteArray} {nm : Nat → ByteArray} {c : CalN} {wk : Int} {n : Nat} {z : Nat → Int} (h : asC s nm c wk n z = 0) : calB s nm c wk = true ∧ camV n z = true ∧ n % c.n = 0 := by
  unfold asC at h
  split at h
  · next h1 =>
    rw [Bool.and_eq_true] at h1
    split at h
    · next h2 => exact ⟨h1.1, h1.2, h2⟩
    · omega
  · omega
theorem asC_no {s : ByteArray} {nm : Nat → ByteArray} {c : CalN} {wk : Int} {n : Nat} {z : Nat → Int} : asC s nm c wk n z = 0 ∨ asC s nm c wk n z = 1 ∨ asC s nm c wk n z = 6 := by
  unfold asC
  split
  · split <;> simp
  · simp
end Go.Proofs.Ytkihjplemnndeaa

namespace Go.Proofs.Ytkihjplemnndeaa
open Go.RowKit
set_option linter.unusedVariables false
set_option linter.unusedSimpArgs false

section
variable {s : ByteArray} {ma ra : Option Addr} {mc rc : Nat} {nm : Nat → ByteArray} {c : CalN} {w : World} {wk : Int} {g : Nat}
set_option maxHeartbeats 2000000 in
theorem l17Count_q (b : CalB c) (h : CalQ w g s ma ra mc rc wk nm c) {a : Option Addr} {n cc : Nat} {z : Nat → Int} (hn : 1 ≤ n) (hn2 : n ≤ 260) (h0 : n % c.n = 0) (hs : S1 w a n z) {Y : Nat} (hY : Y ≤ 520000) :
    Calls Try.prog 39 #[.pointer (some ⟨g, 0, none⟩), .slice a n cc, .int .i64 (Y : Nat)] w fun e w' => e = .returned (.int .i64 (cnt c n z Y : Nat)) ∧ Ext w w' := by
  have H := Lib.hid h
  have HS := Lib.hid hs
  have B := Lib.hid b
  have H0 := Lib.hid h0
  have g0' := h.p.lt
  have n1 := b.n1
  have n20 := b.n20
  clear h hs b h0
  go_enter Try.func39, Try.ntmps39
  go_wp2_with fail
  go_loopw [7, 8] (fun q y wr => ∃ i : Nat, i ≤ Y ∧ y = .int .i64 (i : Nat) ∧ q = .int .i64 (cnt c n z i : Nat) ∧ Ext w wr) (fun _ y _ => Y - (intOf y).toNat)
  case atStart => exact ⟨0, by omega, rfl, rfl, (by repeat (first | with_reducible exact Ext.refl _ | with_reducible assumption | with_reducible refine Ext.alloc ?_ _ | with_reducible refine Ext.drew ?_ | (with_reducible refine Ext.setAt ?_ _ _ _ ?_; rotate_left; omega) | with_reducible refine Ext.trans ?_ (by assumption) | with_reducible exact Past.bel _ | with_reducible refine Ext.trans ?_ (Past.bel _)))⟩
  case round =>
    obtain ⟨i, hi, rfl, rfl, hbl⟩ := hrel
    have hp := H.out.ext hbl
    have g0 := hp.p.lt
    have p1 := hp.p.c1
    have HBL := Lib.hid hbl
    clear hp
    obtain ⟨A, hA⟩ : ∃ A, A = cnt c n z i := ⟨_, rfl⟩
    have hA2 : A ≤ 10400000 := by
      have h1 := cnt_le c n z i
      have h2 : i * c.n ≤ 520000 * 20 := Nat.mul_le_mul (by omega) n20
      omega
    have HA := Lib.hid hA
    rw [← hA]
    clear hA
    by_cases hlt : i < Y
    · go_wp2_with fail
      go_loopw [7, 9] (fun q m ws => ∃ (j D : Nat), j ≤ c.n ∧ m = .int .i64 (j : Nat) ∧ D = wct c n z i j ∧ q = .int .i64 (A + D : Nat) ∧ Ext w ws) (fun _ m _ => c.n - (intOf m).toNat)
      case atStart => exact ⟨0, 0, by omega, rfl, rfl, rfl, HBL.out⟩
      case round =>
        obtain ⟨j, D, hj, rfl, hD, rfl, hbl2⟩ := hrel
        have HP2 := Lib.hid (H.out.ext hbl2)
        have g1 := HP2.out.p.lt
        have p1 := HP2.out.p.c1
        have HD := Lib.hid hD
        have hD2 : D ≤ 20 := by
          have h1 := wct_flt c n z i j
          have h2 := flt_len c n z i j
          omega
        clear hD
        obtain ⟨E, hE⟩ : ∃ E, E = A + D := ⟨_, rfl⟩
        rw [← hE]
        have hE2 : E ≤ 10400020 := by omega
        have HE := Lib.hid hE
        clear hE
        by_cases hjn : j < c.n
        · cases hw : wrong c n z i j
          · have HM := Lib.hid (fun W (hq : Ext w W) => (hw ▸ l17Month_q B.out (H.out.ext hq) (cc := cc) hn hn2 H0.out (HS.out.ext hq) (y := i) (by omega) hjn : Calls Try.prog 43 #[.pointer (some ⟨g, 0, none⟩), .slice a n cc, .int .i64 (i : Nat), .int .i64 (j : Nat)] W fun e w' => e = .returned (.tuple #[.agg #[.int .i64 (i : Nat), .int .i64 ((j : Int) + 1), .int .i64 (shown c n z i j), .int .i64 (c.mo (i : Int) j)], .bool false]) ∧ Ext W w'))
            go_wp2_with (go_at_call 43; ((with_reducible refine (HM.out _ (by repeat (first | with_reducible exact Ext.refl _ | with_reducible assumption | with_reducible refine Ext.alloc ?_ _ | with_reducible refine Ext.drew ?_ | (with_reducible refine Ext.setAt ?_ _ _ _ ?_; rotate_left; omega) | with_reducible refine Ext.trans ?_ (by assumption) | with_reducible exact Past.bel _ | with_reducible refine Ext.trans ?_ (Past.bel _)))).mono ?_); rintro e w' ⟨rfl, hx⟩; (first | (obtain ⟨wx, rfl⟩ := Past.again hx) | (obtain ⟨wx, rfl⟩ := Past.ofd hx) | (obtain ⟨wx, rfl⟩ := Past.of hx))))
            exact ⟨⟨j + 1, D, by omega, by go_num, by simp [wct, hw, HD.out], by rw [HE.out], (by repeat (first | with_reducible exact Ext.refl _ | with_reducible assumption | with_reducible refine Ext.alloc ?_ _ | with_reducible refine Ext.drew ?_ | (with_reducible refine Ext.setAt ?_ _ _ _ ?_; rotate_left; omega) | with_reducible refine Ext.trans ?_ (by assumption) | with_reducible exact Past.bel _ | with_reducible refine Ext.trans ?_ (Past.bel _)))⟩, by simp [intOf]; omega⟩
          · have HM := Lib.hid (fun W (hq : Ext w W) => (hw ▸ l17Month_q B.out (H.out.ext hq) (cc := cc) hn hn2 H0.out (HS.out.ext hq) (y := i) (by omega) hjn : Calls Try.prog 43 #[.pointer (some ⟨g, 0, none⟩), .slice a n cc, .int .i64 (i : Nat), .int .i64 (j : Nat)] W fun e w' => e = .returned (.tuple #[.agg #[.int .i64 (i : Nat), .int .i64 ((j : Int) + 1), .int .i64 (shown c n z i j), .int .i64 (c.mo (i : Int) j)], .bool true]) ∧ Ext W w'))
            go_wp2_with (go_at_call 43; ((with_reducible refine (HM.out _ (by repeat (first | with_reducible exact Ext.refl _ | with_reducible assumption | with_reducible refine Ext.alloc ?_ _ | with_reducible refine Ext.drew ?_ | (with_reducible refine Ext.setAt ?_ _ _ _ ?_; rotate_left; omega) | with_reducible refine Ext.trans ?_ (by assumption) | with_reducible exact Past.bel _ | with_reducible refine Ext.trans ?_ (Past.bel _)))).mono ?_); rintro e w' ⟨rfl, hx⟩; (first | (obtain ⟨wx, rfl⟩ := Past.again hx) | (obtain ⟨wx, rfl⟩ := Past.ofd hx) | (obtain ⟨wx, rfl⟩ := Past.of hx))))
            exact ⟨⟨j + 1, D + 1, by omega, by go_num, by simp [wct, hw, HD.out], congrArg _ (by have := HE.out; omega), (by repeat (first | with_reducible exact Ext.refl _ | with_reducible assumption | with_reducible refine Ext.alloc ?_ _ | with_reducible refine Ext.drew ?_ | (with_reducible refine Ext.setAt ?_ _ _ _ ?_; rotate_left; omega) | with_reducible refine Ext.trans ?_ (by assumption) | with_reducible exact Past.bel _ | with_reducible refine Ext.trans ?_ (Past.bel _)))⟩, by simp [intOf]; omega⟩
        · have hj2 : j = c.n := by omega
          have HJ := Lib.hid hj2
          have x3 : (c.n : Int) ≤ (j : Int) := by omega
          clear hj2
          go_wp2_with fail
          exact ⟨⟨i + 1, by omega, by go_num, congrArg _ (by have h1 := HE.out; have h2 := HD.out; have h3 := HA.out; rw [HJ.out, wct_flt] at h2; simp only [cnt]; omega), (by repeat (first | with_reducible exact Ext.refl _ | with_reducible assumption | with_reducible refine Ext.alloc ?_ _ | with_reducible refine Ext.drew ?_ | (with_reducible refine Ext.setAt ?_ _ _ _ ?_; rotate_left; omega) | with_reducible refine Ext.trans ?_ (by assumption) | with_reducible exact Past.bel _ | with_reducible refine Ext.trans ?_ (Past.bel _)))⟩, by simp [intOf]; omega⟩
    · obtain rfl : i = Y := by omega
      go_wp2_with fail
      go_ret
      exact ⟨by rw [HA.out]; rfl, (by repeat (first | with_reducible exact Ext.refl _ | with_reducible assumption | with_reducible refine Ext.alloc ?_ _ | with_reducible refine Ext.drew ?_ | (with_reducible refine Ext.setAt ?_ _ _ _ ?_; rotate_left; omega) | with_reducible refine Ext.trans ?_ (by assumption) | with_reducible exact Past.bel _ | with_reducible refine Ext.trans ?_ (Past.bel _)))⟩
set_option maxHeartbeats 1000000 in
theorem l17Common_q (b : CalB c) (h : CalQ w g s ma ra mc rc wk nm c) {K : Nat} (hK : 1 ≤ K) (hK2 : K ≤ 260) :
    Calls Try.prog 40 #[.pointer (some ⟨g, 0, none⟩), .int .i64 (K : Nat)] w fun e w' => e = .returned (.int .i64 (Nat.lcm c.cyc.toNat K : Nat)) ∧ Ext w w' := by
  obtain ⟨C, hC, hC1, hC2⟩ := b.cycN
  obtain ⟨G, q, q', L, l1, l2, l3, l4, l5, l6, l7, l8, l9, l10, l11⟩ := lcm_facts hC1 hC2 hK hK2
  have e0 : c.cyc.toNat = C := by omega
  rw [e0, ← l11]
  have H := Lib.hid h
  have g0 := h.p.lt
  have p2 := h.p.c2
  have hy : ∀ W, Ext w W → Calls Try.prog 46 #[.slice ra c.nr rc] W fun e w' => e = .returned (.tuple #[.int .i64 (C : Nat), .bool true]) ∧ Ext W w' := fun W hx =>
    (l15Years_c _ _ _ _ _ _ W h.rb (h.ext hx).p.mem.ru).mono fun e w' ⟨x, bb, he, hb, hx⟩ => by
      have h1 : bb = true := by rw [hb.ok, b.rul]
      have h2 := hb.yr h1
      exact ⟨by rw [he, h1, h2, ← hC]; rfl, hx⟩
  have HY := Lib.hid hy
  have HG := Lib.hid (fun W => (l1 ▸ l02Gcd_c (C : Int) (K : Int) W (by omega) (by omega) (by omega) (by omega) : Calls Try.prog 62 #[.int .i64 (C : Nat), .int .i64 (K : Nat)] W fun e w' => e = .returned (.int .i64 (G : Nat)) ∧ W = w'))
  have l0 : ¬ G = 0 := by omega
  clear h b hy hC l1 l2 l5 l7 l11 e0
  go_enter Try.func40, Try.ntmps40
  go_wp2_with (first | (go_at_call 46; ((with_reducible refine (HY.out _ (by repeat (first | with_reducible exact Ext.refl _ | with_reducible assumption | with_reducible refine Ext.alloc ?_ _ | with_reducible refine Ext.drew ?_ | (with_reducible refine Ext.setAt ?_ _ _ _ ?_; rotate_left; omega) | with_reducible refine Ext.trans ?_ (by assumption) | with_reducible exact Past.bel _ | with_reducible refine Ext.trans ?_ (Past.bel _)))).mono ?_); rintro e w' ⟨rfl, hx⟩; (first | (obtain ⟨wx, rfl⟩ := Past.again hx) | (obtain ⟨wx, rfl⟩ := Past.ofd hx) | (obtain ⟨wx, rfl⟩ := Past.of hx)))) | (go_at_call 62; ((with_reducible refine (HG.out _).mono ?_); rintro e w' ⟨rfl, rfl⟩)))
  go_ret
  exact ⟨rfl, (by repeat (first | with_reducible exact Ext.refl _ | with_reducible assumption | with_reducible refine Ext.alloc ?_ _ | with_reducible refine Ext.drew ?_ | (with_reducible refine Ext.setAt ?_ _ _ _ ?_; rotate_left; omega) | with_reducible refine Ext.trans ?_ (by assumption) | with_reducible exact Past.bel _ | with_reducible refine Ext.trans ?_ (Past.bel _)))⟩
set_option maxHeartbeats 1000000 in
theorem specFaultCount_c (wk : Int) (h : CalV w s ma ra mc rc nm c) {a : Option Addr} {n cc : Nat} {z : Nat → Int} (hn : n ≤ 1048576) (hs : S1 w a n z) :
    Calls Try.prog 15 #[.agg #[.string s, .slice ma c.n mc, .slice ra c.nr rc, .int .i64 wk], .slice a n cc] w fun e w' => e = .returned (.tuple #[.int .i64 (fcV s nm c wk n z), .int .i64 (asC s nm c wk n z)]) ∧ Ext w w' := by
  have H := Lib.hid (CalQ.new 33 wk h)
  have HS := Lib.hid hs
  have hb := h.nb
  clear h hs
  by_cases h1 : asC s nm c wk n z = 0
  · obtain ⟨k1, k2, k3⟩ := asC_z h1
    have B := Lib.hid (calB_b k1)
    have kn := camV_n k2
    have hn1 := B.out.n1
    have k4 := (row_in (y := 0) (j := 0) kn.1 k3 hn1 hn1).1
    obtain ⟨C, hC, hC1, hC2⟩ := B.out.cycN
    obtain ⟨K, hK⟩ : ∃ K, K = n / c.n := ⟨_, rfl⟩
    have hK2 : (n : Int) / (c.n : Int) = (K : Int) := by rw [hK]; simp
    have hK3 : K ≤ 260 := by rw [hK]; exact Nat.le_trans (Nat.div_le_self _ _) kn.2
    rw [← hK] at k4
    have hv : fcV s nm c wk n z = (cnt c n z (Nat.lcm c.cyc.toNat K) : Nat) := by rw [fcV, if_pos h1, hK]
    have hl : Nat.lcm c.cyc.toNat K ≤ 520000 := by
      obtain ⟨G, q, q', L, l1, l2, l3, l4, l5, l6, l7, l8, l9, l10, l11⟩ := lcm_facts hC1 hC2 k4 hK3
      have e0 : c.cyc.toNat = C := by omega
      rw [e0]; omega
    have HCM := Lib.hid (fun W (hq : Ext (w.alloc (.cells #[.string s, .slice ma c.n mc, .slice ra c.nr rc, .int .i64 wk] 33)) W) => l17Common_q B.out (H.out.ext hq) k4 hK3)
    have HAS := Lib.hid (fun W (hq : Ext (w.alloc (.cells #[.string s, .slice ma c.n mc, .slice ra c.nr rc, .int .i64 wk] 33)) W) => (h1 ▸ l17Ask_q (cc := cc) (H.out.ext hq) hn (HS.out.ext (Ext.trans (show Ext w (w.alloc (.cells #[.string s, .slice ma c.n mc, .slice ra c.nr rc, .int .i64 wk] 33)) from (by repeat (first | with_reducible exact Ext.refl _ | with_reducible assumption | with_reducible refine Ext.alloc ?_ _ | with_reducible refine Ext.drew ?_ | (with_reducible refine Ext.setAt ?_ _ _ _ ?_; rotate_left; omega) | with_reducible refine Ext.trans ?_ (by assumption) | with_reducible exact Past.bel _ | with_reducible refine Ext.trans ?_ (Past.bel _)))) hq)) : Calls Try.prog 38 #[.pointer (some ⟨w.heap.size, 0, none⟩), .slice a n cc] W fun e w' => e = .returned (.int .i64 0) ∧ Ext W w'))
    rw [hv, h1]
    have K3 := Lib.hid k3
    have H1 := Lib.hid h1
    obtain ⟨L, hL⟩ : ∃ L, L = Nat.lcm c.cyc.toNat K := ⟨_, rfl⟩
    rw [← hL] at HCM hl ⊢
    clear hK hC h1 k3 hv hL
    go_enter Try.func15, Try.ntmps15
    go_wp2_with (first | (go_at_call 38; ((with_reducible refine (HAS.out _ (by repeat (first | with_reducible exact Ext.refl _ | with_reducible assumption | with_reducible refine Ext.alloc ?_ _ | with_reducible refine Ext.drew ?_ | (with_reducible refine Ext.setAt ?_ _ _ _ ?_; rotate_left; omega) | with_reducible refine Ext.trans ?_ (by assumption) | with_reducible exact Past.bel _ | with_reducible refine Ext.trans ?_ (Past.bel _)))).mono ?_); rintro e w' ⟨rfl, hx⟩; (first | (obtain ⟨wx, rfl⟩ := Past.again hx) | (obtain ⟨wx, rfl⟩ := Past.ofd hx) | (obtain ⟨wx, rfl⟩ := Past.of hx)))) | (go_at_call 40; ((with_reducible refine (HCM.out _ (by repeat (first | with_reducible exact Ext.refl _ | with_reducible assumption | with_reducible refine Ext.alloc ?_ _ | with_reducible refine Ext.drew ?_ | (with_reducible refine Ext.setAt ?_ _ _ _ ?_; rotate_left; omega) | with_reducible refine Ext.trans ?_ (by assumption) | with_reducible exact Past.bel _ | with_reducible refine Ext.trans ?_ (Past.bel _)))).mono ?_); rintro e w' ⟨rfl, hx⟩; (first | (obtain ⟨wx, rfl⟩ := Past.again hx) | (obtain ⟨wx, rfl⟩ := Past.ofd hx) | (obtain ⟨wx, rfl⟩ := Past.of hx)))) | (go_at_call 39; ((with_reducible refine (l17Count_q B.out (H.out.ext (by repeat (first | with_reducible exact Ext.refl _ | with_reducible assumption | with_reducible refine Ext.alloc ?_ _ | with_reducible refine Ext.drew ?_ | (with_reducible refine Ext.setAt ?_ _ _ _ ?_; rotate_left; omega) | with_reducible refine Ext.trans ?_ (by assumption) | with_reducible exact Past.bel _ | with_reducible refine Ext.trans ?_ (Past.bel _)))) kn.1 kn.2 K3.out (HS.out.ext (by repeat (first | with_reducible exact Ext.refl _ | with_reducible assumption | with_reducible refine Ext.alloc ?_ _ | with_reducible refine Ext.drew ?_ | (with_reducible refine Ext.setAt ?_ _ _ _ ?_; rotate_left; omega) | with_reducible refine Ext.trans ?_ (by assumption) | with_reducible exact Past.bel _ | with_reducible refine Ext.trans ?_ (Past.bel _)))) hl).mono ?_); rintro e w' ⟨rfl, hx⟩; (first | (obtain ⟨wx, rfl⟩ := Past.again hx) | (obtain ⟨wx, rfl⟩ := Past.ofd hx) | (obtain ⟨wx, rfl⟩ := Past.of hx)))))
    go_ret2
    exact ⟨rfl, (by repeat (first | with_reducible exact Ext.refl _ | with_reducible assumption | with_reducible refine Ext.alloc ?_ _ | with_reducible refine Ext.drew ?_ | (with_reducible refine Ext.setAt ?_ _ _ _ ?_; rotate_left; omega) | with_reducible refine Ext.trans ?_ (by assumption) | with_reducible exact Past.bel _ | with_reducible refine Ext.trans ?_ (Past.bel _)))⟩
  · have hv : fcV s nm c wk n z = 0 := by rw [fcV, if_neg h1]
    have HAS := Lib.hid (fun W (hq : Ext (w.alloc (.cells #[.string s, .slice ma c.n mc, .slice ra c.nr rc, .int .i64 wk] 33)) W) => l17Ask_q (cc := cc) (H.out.ext hq) hn (HS.out.ext (Ext.trans (show Ext w (w.alloc (.cells #[.string s, .slice ma c.n mc, .slice ra c.nr rc, .int .i64 wk] 33)) from (by repeat (first | with_reducible exact Ext.refl _ | with_reducible assumption | with_reducible refine Ext.alloc ?_ _ | with_reducible refine Ext.drew ?_ | (with_reducible refine Ext.setAt ?_ _ _ _ ?_; rotate_left; omega) | with_reducible refine Ext.trans ?_ (by assumption) | with_reducible exact Past.bel _ | with_reducible refine Ext.trans ?_ (Past.bel _)))) hq)))
    rw [hv]
    obtain ⟨k, hk⟩ : ∃ k, k = asC s nm c wk n z := ⟨_, rfl⟩
    rw [← hk] at HAS h1 ⊢
    clear hk hv
    go_enter Try.func15, Try.ntmps15
    go_wp2_with (go_at_call 38; ((with_reducible refine (HAS.out _ (by repeat (first | with_reducible exact Ext.refl _ | with_reducible assumption | with_reducible refine Ext.alloc ?_ _ | with_reducible refine Ext.drew ?_ | (with_reducible refine Ext.setAt ?_ _ _ _ ?_; rotate_left; omega) | with_reducible refine Ext.trans ?_ (by assumption) | with_reducible exact Past.bel _ | with_reducible refine Ext.trans ?_ (Past.bel _)))).mono ?_); rintro e w' ⟨rfl, hx⟩; (first | (obtain ⟨wx, rfl⟩ := Past.again hx) | (obtain ⟨wx, rfl⟩ := Past.ofd hx) | (obtain ⟨wx, rfl⟩ := Past.of hx))))
    go_ret2
    exact ⟨rfl, (by repeat (first | with_reducible exact Ext.refl _ | with_reducible assumption | with_reducible refine Ext.alloc ?_ _ | with_reducible refine Ext.drew ?_ | (with_reducible refine Ext.setAt ?_ _ _ _ ?_; rotate_left; omega) | with_reducible refine Ext.trans ?_ (by assumption) | with_reducible exact Past.bel _ | with_reducible refine Ext.trans ?_ (Past.bel _)))⟩
end
end Go.Proofs.Ytkihjplemnndeaa

namespace Go.Proofs.Ytkihjplemnndeaa
set_option linter.unusedVariables false
/-- the decimal digits of k, none of 0 -/
def digs (k : Nat) : List UInt8 := if h : k = 0 then [] else digs (k / 10) ++ [UInt8.ofNat (48 + k % 10)]
  termination_by k
  decreasing_by omega
theorem digs_zero : digs 0 = [] := by rw [digs]; simp
theorem digs_step {k : Nat} (h : k ≠ 0) : digs k = digs (k / 10) ++ [UInt8.ofNat (48 + k % 10)] := by rw [digs]; simp [h]
theorem digs_len (k : Nat) (m : Nat) (h : k < 10 ^ m) : (digs k).length ≤ m := by
  induction m generalizing k with
  | zero => have : k = 0 := by omega
            subst this; rw [digs_zero]; simp
  | succ m ih =>
    by_cases e : k = 0
    · subst e; rw [digs_zero]; simp
    · rw [digs_step e, List.length_append, List.length_singleton]
      have := ih (k / 10) (by rw [Nat.pow_succ] at h; omega)
      omega
/-- the text of mark k -/
def markT (k : Nat) : ByteArray := if k = 0 then ⟨#[109, 48]⟩ else ⟨#[109]⟩ ++ ⟨(digs k).toArray⟩
end Go.Proofs.Ytkihjplemnndeaa

namespace Go.Proofs.Ytkihjplemnndeaa
open Go.RowKit
set_option linter.unusedVariables false
set_option linter.unusedSimpArgs false

theorem u8_dig {k : Nat} : ((UInt8.ofNat (48 + k % 10)).toNat : Int) = 48 + ((k % 10 : Nat) : Int) := by
  have h : (48 + k % 10) % 256 = 48 + k % 10 := Nat.mod_eq_of_lt (by omega)
  rw [UInt8.toNat_ofNat', h]; omega
set_option maxHeartbeats 1000000 in
theorem markText_c (k : Nat) (w : World) (hk : k ≤ 100000000) :
    Calls Try.prog 60 #[.int .i64 (k : Nat)] w fun e w' => e = .returned (.string (markT k)) ∧ Ext w w' := by
  by_cases h0 : k = 0
  · subst h0
    go_enter Try.func60, Try.ntmps60
    go_wp2
    go_ret
    exact ⟨rfl, (by repeat (first | with_reducible exact Ext.refl _ | with_reducible assumption | with_reducible refine Ext.alloc ?_ _ | with_reducible refine Ext.drew ?_ | (with_reducible refine Ext.setAt ?_ _ _ _ ?_; rotate_left; omega) | with_reducible refine Ext.trans ?_ (by assumption) | with_reducible exact Past.bel _ | with_reducible refine Ext.trans ?_ (Past.bel _)))⟩
  · have hl := digs_len k 9 (by omega)
    have HL := Lib.hid hl
    clear hl
    have x0 : ¬ (k : Int) ≤ 0 := by omega
    go_enter Try.func60, Try.ntmps60
    go_wp2_with fail
    go_loopw [0, 3] (fun i s wr => ∃ (j : Nat) (B : ByteArray), i = .int .i64 (j : Nat) ∧ j ≤ k ∧ s = .string B ∧ Ext w wr ∧ digs k = digs j ++ B.data.toList) (fun i _ _ => (intOf i).toNat)
    case atStart => exact ⟨k, ⟨#[]⟩, rfl, by omega, rfl, (by repeat (first | with_reducible exact Ext.refl _ | with_reducible assumption | with_reducible refine Ext.alloc ?_ _ | with_reducible refine Ext.drew ?_ | (with_reducible refine Ext.setAt ?_ _ _ _ ?_; rotate_left; omega) | with_reducible refine Ext.trans ?_ (by assumption) | with_reducible exact Past.bel _ | with_reducible refine Ext.trans ?_ (Past.bel _))), by simp⟩
    case round =>
      obtain ⟨j, B, rfl, hj, rfl, hbl, hd⟩ := hrel
      by_cases hlt : 0 < j
      · have hll : B.size ≤ 9 := by
          have h1 := HL.out
          rw [hd, List.length_append] at h1
          have h2 : B.size = B.data.toList.length := Array.length_toList.symm
          omega
        have hd2 : digs k = digs (j / 10) ++ (UInt8.ofNat (48 + j % 10) :: B.data.toList) := by rw [hd, digs_step (by omega)]; simp
        have HD := Lib.hid hd2
        clear hd hd2
        have y0 : (0 : Int) < (j : Int) := by omega
        have hcv : Sem.run Try.prog (convert 98 9 (Value.slice (some ⟨wr.heap.size, 0, none⟩) 1 1)) (wr.alloc (.cells #[.int .u8 (48 + (j : Int) % 10)] 5)) = .ok (.string ⟨#[UInt8.ofNat (48 + j % 10)]⟩) (wr.alloc (.cells #[.int .u8 (48 + (j : Int) % 10)] 5)) := by
          refine run_convert_bytes_back _ _ _ 5 _ 1 [UInt8.ofNat (48 + j % 10)] (by kernel_rfl) (by kernel_rfl) (by kernel_rfl) fun i hi => ?_
          obtain rfl : i = 0 := by simpa using hi
          simp only [List.getElem_cons_zero, u8_dig]
          simp [Addr.add, go_sem]
        go_wp2_with fail
        exact ⟨⟨j / 10, _, by go_num, by omega, rfl, (by repeat (first | with_reducible exact Ext.refl _ | with_reducible assumption | with_reducible refine Ext.alloc ?_ _ | with_reducible refine Ext.drew ?_ | (with_reducible refine Ext.setAt ?_ _ _ _ ?_; rotate_left; omega) | with_reducible refine Ext.trans ?_ (by assumption) | with_reducible exact Past.bel _ | with_reducible refine Ext.trans ?_ (Past.bel _))), by rw [HD.out]; simp [ByteArray.data_append]⟩, by simp [intOf]; omega⟩
      · obtain rfl : j = 0 := by omega
        have e1 : digs k = B.data.toList := by rw [hd, digs_zero]; rfl
        have hll : B.size ≤ 9 := by
          have h1 := HL.out
          rw [e1] at h1
          have h2 : B.size = B.data.toList.length := Array.length_toList.symm
          omega
        have E1 := Lib.hid e1
        clear hd e1
        go_wp2_with fail
        go_ret
        refine ⟨?_, (by repeat (first | with_reducible exact Ext.refl _ | with_reducible assumption | with_reducible refine Ext.alloc ?_ _ | with_reducible refine Ext.drew ?_ | (with_reducible refine Ext.setAt ?_ _ _ _ ?_; rotate_left; omega) | with_reducible refine Ext.trans ?_ (by assumption) | with_reducible exact Past.bel _ | with_reducible refine Ext.trans ?_ (Past.bel _)))⟩
        have h3 : markT k = ⟨#[109]⟩ ++ B := by
          rw [markT, if_neg h0, E1.out]
        rw [h3]; rfl
end Go.Proofs.Ytkihjplemnndeaa

namespace Go.Proofs.Ytkihjplemnndeaa
open Go.RowKit
set_option linter.unusedVariables false
set_option linter.unusedSimpArgs false

theorem grown_weak {w w' : World} {row : Option Nat} (h : w.grownBy w' none) : w.grownBy w' row := ⟨h.os, h.tape, h.output, h.size, fun k hk _ => h.block k hk (by simp)⟩
/-- A slice of texts. -/
def SS (w : World) (a : Option Addr) (n : Nat) (s : Nat → ByteArray) : Prop :=
  0 < n → ∃ b off, a = some ⟨b, off, none⟩ ∧ b < w.heap.size ∧ ∀ j, j < n → w.cell? ⟨b, off + j, none⟩ = some (.string (s j))
theorem SS.ext {w w' : World} {a : Option Addr} {n : Nat} {s : Nat → ByteArray} (h : SS w a n s) (e : Ext w w') : SS w' a n s := fun hn => by
  obtain ⟨b, off, ha, hb, hc⟩ := h hn
  exact ⟨b, off, ha, Nat.lt_of_lt_of_le hb e.size, fun j hj => by rw [e.cell hb]; exact hc j hj⟩
theorem SS.at {w : World} {a : Option Addr} {n : Nat} {s : Nat → ByteArray} (h : SS w a n s) {j : Nat} (hj : j < n) :
    ∃ b off, a = some ⟨b, off, none⟩ ∧ b < w.heap.size ∧ w.cell? ⟨b, off + j, none⟩ = some (.string (s j)) := by
  obtain ⟨b, off, ha, hb, hc⟩ := h (by omega)
  exact ⟨b, off, ha, hb, hc j hj⟩
theorem own_ss {w : World} {base : Nat} {e : TypeId} {a : Option Addr} {n cap : Nat} {l : List ByteArray} (h : w.ownsRow base e 1 (.slice a n cap) n (l.map Value.string)) : SS w a n (fun j => l.getD j ⟨#[]⟩) := fun hn => by
  obtain ⟨g, rfl, _, hg, _⟩ := own_at h hn
  have hl : l.length = n := by simpa using h.1
  refine ⟨g, 0, rfl, hg, fun j hj => ?_⟩
  rw [Nat.zero_add, h.cellAt j (by omega)]
  simp [List.getD, show j < l.length by omega]
/-- the first j places of a list, marked -/
def markedF (F : Nat → Value) (xs : List Value) : Nat → List Value
  | 0 => xs
  | j + 1 => (markedF F xs j).set j (F j)
theorem markedF_length (F : Nat → Value) (xs : List Value) (j : Nat) : (markedF F xs j).length = xs.length := by
  induction j with
  | zero => rfl
  | succ j ih => simp [markedF, ih]
theorem markedF_at (F : Nat → Value) (xs : List Value) {j i : Nat} (hi : i < j) (hx : i < xs.length) : (markedF F xs j)[i]? = some (F i) := by
  induction j with
  | zero => omega
  | succ j ih =>
    simp only [markedF]
    by_cases e : i = j
    · subst e; rw [List.getElem?_set_self (by rw [markedF_length]; exact hx)]
    · rw [List.getElem?_set_ne (by omega)]; exact ih (by omega)
def mT (k : Nat) (j : Nat) : Value := .string (markT (k + j))
theorem markText_i (k j : Nat) (w : World) (hk : k + j ≤ 100000000) :
    Calls Try.prog 60 #[.int .i64 ((k : Int) + (j : Int))] w fun e w' => e = .returned (.string (markT (k + j))) ∧ Ext w w' := by
  have := markText_c (k + j) w hk
  simpa using this
def calNames : List ByteArray := [⟨#[101, 103, 121, 112, 116, 105, 97, 110]⟩, ⟨#[102, 105, 120, 101, 100]⟩, ⟨#[103, 114, 101, 103, 111, 114, 105, 97, 110]⟩, ⟨#[106, 117, 108, 105, 97, 110]⟩]
end Go.Proofs.Ytkihjplemnndeaa
