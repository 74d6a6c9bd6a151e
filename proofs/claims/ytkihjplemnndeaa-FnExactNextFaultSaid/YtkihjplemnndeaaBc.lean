/- Valid calendars: the program's. Leap years: the functions as they are called. Calendars: what is asked of years, months and days. No program in sight. Days of months: the functions as they are called. Days of years: the functions as they are called. Valid dates. Calendars compared. No program in sight. Calendars: days and their numbers. No program in sight. Cycles, days before a year, numbers of days: the reference's. Numbers of days: the program's. Lists of numbers compared; cams. No program in sight. Cams: checked. Lists of numbers marked. Calendars: what the functions on days return. No program in sight. Calendars: dates as results. No program in sight. Periods of cams. No program in sight. Cams of calendars; faults. No program in sight. Cams of calendars. -/
import Derived.Test.YtkihjplemnndeaaBb
import Derived.Test.YtkihjplemnndeaaBa

namespace Go.Proofs.Ytkihjplemnndeaa
open Go.RowKit
set_option linter.unusedVariables false
set_option linter.unusedSimpArgs false

theorem S3.take {w : World} {a : Option Addr} {n k : Nat} {nm : Nat → ByteArray} {dy lp : Nat → Int} (s : S3 w a n nm dy lp) (hk : k ≤ n) : S3 w a k nm dy lp := fun h0 => by
  obtain ⟨b, o, ha, hb, hc⟩ := s (by omega)
  exact ⟨b, o, ha, hb, fun i hi => hc i (by omega)⟩
set_option maxHeartbeats 4000000 in
theorem validCalendar_c (s : ByteArray) (ma ra : Option Addr) (mc rc : Nat) (wk : Int) (nm : Nat → ByteArray) (c : CalN) (w : World) (hm : c.n ≤ 1048576) (hr : c.nr ≤ 1048576) (hmc : c.n ≤ mc) (hmx : mc ≤ maxLen) (hs : s.size ≤ 9223372036854775807) (hz : ∀ i, i < c.n → (nm i).size ≤ 9223372036854775807) (h : CalM w ma ra nm c) :
    Calls Try.prog 29 #[.agg #[.string s, .slice ma c.n mc, .slice ra c.nr rc, .int .i64 wk]] w fun e w' => e = .returned (.bool (calB s nm c wk)) ∧ Ext w w' := by
  have HP := Lib.hid (CalP.new 33 s ma ra mc rc wk h)
  have HZ := Lib.hid hz
  unfold maxLen at hmx
  clear h hz
  cases h1 : isNm s
  · go_enter Try.func29, Try.ntmps29
    go_wp2_with (first | (go_at_call 53; ((with_reducible refine (implIsName_c _ _ hs).mono ?_); rintro e w' ⟨rfl, hx⟩; (first | (obtain ⟨wx, rfl⟩ := Past.again hx) | (obtain ⟨wx, rfl⟩ := Past.ofd hx) | (obtain ⟨wx, rfl⟩ := Past.of hx)))))
    go_ret
    exact ⟨ret_bool (calB_1 h1).symm, (by repeat (first | with_reducible exact Ext.refl _ | with_reducible assumption | with_reducible refine Ext.alloc ?_ _ | with_reducible refine Ext.drew ?_ | (with_reducible refine Ext.setAt ?_ _ _ _ ?_; rotate_left; omega) | with_reducible refine Ext.trans ?_ (by assumption) | with_reducible exact Past.bel _ | with_reducible refine Ext.trans ?_ (Past.bel _)))⟩
  · cases h2 : inB (c.n : Int) 1 20
    · have h2' := inB_f.1 h2
      have H2 := Lib.hid h2
      clear h2
      by_cases x1 : (c.n : Int) < 1
      · go_enter Try.func29, Try.ntmps29
        go_wp2_with (first | (go_at_call 53; ((with_reducible refine (implIsName_c _ _ hs).mono ?_); rintro e w' ⟨rfl, hx⟩; (first | (obtain ⟨wx, rfl⟩ := Past.again hx) | (obtain ⟨wx, rfl⟩ := Past.ofd hx) | (obtain ⟨wx, rfl⟩ := Past.of hx)))))
        go_ret
        exact ⟨ret_bool (calB_2 H2.out).symm, (by repeat (first | with_reducible exact Ext.refl _ | with_reducible assumption | with_reducible refine Ext.alloc ?_ _ | with_reducible refine Ext.drew ?_ | (with_reducible refine Ext.setAt ?_ _ _ _ ?_; rotate_left; omega) | with_reducible refine Ext.trans ?_ (by assumption) | with_reducible exact Past.bel _ | with_reducible refine Ext.trans ?_ (Past.bel _)))⟩
      · have x2 : (20 : Int) < c.n := by omega
        clear h2'
        go_enter Try.func29, Try.ntmps29
        go_wp2_with (first | (go_at_call 53; ((with_reducible refine (implIsName_c _ _ hs).mono ?_); rintro e w' ⟨rfl, hx⟩; (first | (obtain ⟨wx, rfl⟩ := Past.again hx) | (obtain ⟨wx, rfl⟩ := Past.ofd hx) | (obtain ⟨wx, rfl⟩ := Past.of hx)))))
        go_ret
        exact ⟨ret_bool (calB_2 H2.out).symm, (by repeat (first | with_reducible exact Ext.refl _ | with_reducible assumption | with_reducible refine Ext.alloc ?_ _ | with_reducible refine Ext.drew ?_ | (with_reducible refine Ext.setAt ?_ _ _ _ ?_; rotate_left; omega) | with_reducible refine Ext.trans ?_ (by assumption) | with_reducible exact Past.bel _ | with_reducible refine Ext.trans ?_ (Past.bel _)))⟩
    · obtain ⟨y1, y2⟩ := inB_t.1 h2
      have H2 := Lib.hid h2
      clear h2
      have x1 : ¬ (c.n : Int) < 1 := by omega
      have x2 : ¬ (20 : Int) < c.n := by omega
      by_cases h3 : 6 < c.nr
      · have x3 : (6 : Int) < c.nr := by omega
        go_enter Try.func29, Try.ntmps29
        go_wp2_with (first | (go_at_call 53; ((with_reducible refine (implIsName_c _ _ hs).mono ?_); rintro e w' ⟨rfl, hx⟩; (first | (obtain ⟨wx, rfl⟩ := Past.again hx) | (obtain ⟨wx, rfl⟩ := Past.ofd hx) | (obtain ⟨wx, rfl⟩ := Past.of hx)))))
        go_ret
        exact ⟨ret_bool (calB_3 h3).symm, (by repeat (first | with_reducible exact Ext.refl _ | with_reducible assumption | with_reducible refine Ext.alloc ?_ _ | with_reducible refine Ext.drew ?_ | (with_reducible refine Ext.setAt ?_ _ _ _ ?_; rotate_left; omega) | with_reducible refine Ext.trans ?_ (by assumption) | with_reducible exact Past.bel _ | with_reducible refine Ext.trans ?_ (Past.bel _)))⟩
      · have x3 : ¬ (6 : Int) < c.nr := by omega
        cases h4 : inB wk 1 12
        · go_enter Try.func29, Try.ntmps29
          go_wp2_with (first | (go_at_call 53; ((with_reducible refine (implIsName_c _ _ hs).mono ?_); rintro e w' ⟨rfl, hx⟩; (first | (obtain ⟨wx, rfl⟩ := Past.again hx) | (obtain ⟨wx, rfl⟩ := Past.ofd hx) | (obtain ⟨wx, rfl⟩ := Past.of hx)))) | (go_at_call 54; ((with_reducible refine (within_c _ _ _ _).mono ?_); rintro e w' ⟨rfl, rfl⟩)))
          go_ret
          exact ⟨ret_bool (calB_4 h4).symm, (by repeat (first | with_reducible exact Ext.refl _ | with_reducible assumption | with_reducible refine Ext.alloc ?_ _ | with_reducible refine Ext.drew ?_ | (with_reducible refine Ext.setAt ?_ _ _ _ ?_; rotate_left; omega) | with_reducible refine Ext.trans ?_ (by assumption) | with_reducible exact Past.bel _ | with_reducible refine Ext.trans ?_ (Past.bel _)))⟩
        · go_enter Try.func29, Try.ntmps29
          go_wp2_with (first | (go_at_call 53; ((with_reducible refine (implIsName_c _ _ hs).mono ?_); rintro e w' ⟨rfl, hx⟩; (first | (obtain ⟨wx, rfl⟩ := Past.again hx) | (obtain ⟨wx, rfl⟩ := Past.ofd hx) | (obtain ⟨wx, rfl⟩ := Past.of hx)))) | (go_at_call 54; ((with_reducible refine (within_c _ _ _ _).mono ?_); rintro e w' ⟨rfl, rfl⟩)))
          have H1 := Lib.hid h1; have H4 := Lib.hid h4
          clear h1 h4
          go_loopw [38] (fun i wr => ∃ j : Nat, j ≤ c.n ∧ i = .int .i64 j ∧ monTo nm c.dy c.lp j = true ∧ Ext (w.alloc (.cells #[.string s, .slice ma c.n mc, .slice ra c.nr rc, .int .i64 wk] 33)) wr) (fun i _ => c.n - (intOf i).toNat)
          case atStart => exact ⟨0, by omega, rfl, rfl, (by repeat (first | with_reducible exact Ext.refl _ | with_reducible assumption | with_reducible refine Ext.alloc ?_ _ | with_reducible refine Ext.drew ?_ | (with_reducible refine Ext.setAt ?_ _ _ _ ?_; rotate_left; omega) | with_reducible refine Ext.trans ?_ (by assumption) | with_reducible exact Past.bel _ | with_reducible refine Ext.trans ?_ (Past.bel _)))⟩
          case round =>
            obtain ⟨j, hj, rfl, hmt, hbl⟩ := hrel
            have HM := Lib.hid hmt
            have hp := HP.out.ext hbl
            have HP2 := Lib.hid hp
            have g0 := hp.lt
            have p1 := hp.c1
            have p2 := hp.c2
            have hb0 : Ext w wr := Ext.trans (Ext.alloc (Ext.refl w) _) hbl
            clear hmt
            by_cases hlt : j < c.n
            · obtain ⟨b1, o1, rfl, hb1, q1, q2, q3⟩ := hp.mem.mo.at hlt
              have zj := HZ.out j hlt
              clear hp
              have x4 : (j : Int) ≤ (mc : Int) := by omega
              cases k1 : isNm (nm j)
              · go_wp2_with (first | (go_at_call 53; ((with_reducible refine (implIsName_c _ _ zj).mono ?_); rintro e w' ⟨rfl, hx⟩; (first | (obtain ⟨wx, rfl⟩ := Past.again hx) | (obtain ⟨wx, rfl⟩ := Past.ofd hx) | (obtain ⟨wx, rfl⟩ := Past.of hx)))))
                go_ret
                exact ⟨ret_bool (calB_5 hlt (monA_1 k1)).symm, (by repeat (first | with_reducible exact Ext.refl _ | with_reducible assumption | with_reducible refine Ext.alloc ?_ _ | with_reducible refine Ext.drew ?_ | (with_reducible refine Ext.setAt ?_ _ _ _ ?_; rotate_left; omega) | with_reducible refine Ext.trans ?_ (by assumption) | with_reducible exact Past.bel _ | with_reducible refine Ext.trans ?_ (Past.bel _)))⟩
              · cases k2 : inB (c.dy j) 1 60
                · go_wp2_with (first | (go_at_call 53; ((with_reducible refine (implIsName_c _ _ zj).mono ?_); rintro e w' ⟨rfl, hx⟩; (first | (obtain ⟨wx, rfl⟩ := Past.again hx) | (obtain ⟨wx, rfl⟩ := Past.ofd hx) | (obtain ⟨wx, rfl⟩ := Past.of hx)))) | (go_at_call 54; ((with_reducible refine (within_c _ _ _ _).mono ?_); rintro e w' ⟨rfl, rfl⟩)))
                  go_ret
                  exact ⟨ret_bool (calB_5 hlt (monA_2 k2)).symm, (by repeat (first | with_reducible exact Ext.refl _ | with_reducible assumption | with_reducible refine Ext.alloc ?_ _ | with_reducible refine Ext.drew ?_ | (with_reducible refine Ext.setAt ?_ _ _ _ ?_; rotate_left; omega) | with_reducible refine Ext.trans ?_ (by assumption) | with_reducible exact Past.bel _ | with_reducible refine Ext.trans ?_ (Past.bel _)))⟩
                · cases k3 : inB (c.lp j) 1 60
                  · go_wp2_with (first | (go_at_call 53; ((with_reducible refine (implIsName_c _ _ zj).mono ?_); rintro e w' ⟨rfl, hx⟩; (first | (obtain ⟨wx, rfl⟩ := Past.again hx) | (obtain ⟨wx, rfl⟩ := Past.ofd hx) | (obtain ⟨wx, rfl⟩ := Past.of hx)))) | (go_at_call 54; ((with_reducible refine (within_c _ _ _ _).mono ?_); rintro e w' ⟨rfl, rfl⟩)))
                    go_ret
                    exact ⟨ret_bool (calB_5 hlt (monA_3 k3)).symm, (by repeat (first | with_reducible exact Ext.refl _ | with_reducible assumption | with_reducible refine Ext.alloc ?_ _ | with_reducible refine Ext.drew ?_ | (with_reducible refine Ext.setAt ?_ _ _ _ ?_; rotate_left; omega) | with_reducible refine Ext.trans ?_ (by assumption) | with_reducible exact Past.bel _ | with_reducible refine Ext.trans ?_ (Past.bel _)))⟩
                  · cases k4 : frTo nm j j
                    · go_wp2_with (first | (go_at_call 53; ((with_reducible refine (implIsName_c _ _ zj).mono ?_); rintro e w' ⟨rfl, hx⟩; (first | (obtain ⟨wx, rfl⟩ := Past.again hx) | (obtain ⟨wx, rfl⟩ := Past.ofd hx) | (obtain ⟨wx, rfl⟩ := Past.of hx)))) | (go_at_call 54; ((with_reducible refine (within_c _ _ _ _).mono ?_); rintro e w' ⟨rfl, rfl⟩)))
                      refine (contFunc_c _ _ _ _ nm c.dy c.lp j _ (by omega) (S3.take (HP2.out.mem.mo.ext (by repeat (first | with_reducible exact Ext.refl _ | with_reducible assumption | with_reducible refine Ext.alloc ?_ _ | with_reducible refine Ext.drew ?_ | (with_reducible refine Ext.setAt ?_ _ _ _ ?_; rotate_left; omega) | with_reducible refine Ext.trans ?_ (by assumption) | with_reducible exact Past.bel _ | with_reducible refine Ext.trans ?_ (Past.bel _)))) (by omega)) (by simp [go_sem]) (by simp [go_sem])).mono ?_
                      rintro e w' ⟨rfl, hx1⟩
                      (first | (obtain ⟨wx1, rfl⟩ := Past.again hx1) | (obtain ⟨wx1, rfl⟩ := Past.of hx1))
                      go_wp2_with fail
                      go_ret
                      exact ⟨ret_bool (calB_5 hlt (monA_4 k4)).symm, (by repeat (first | with_reducible exact Ext.refl _ | with_reducible assumption | with_reducible refine Ext.alloc ?_ _ | with_reducible refine Ext.drew ?_ | (with_reducible refine Ext.setAt ?_ _ _ _ ?_; rotate_left; omega) | with_reducible refine Ext.trans ?_ (by assumption) | with_reducible exact Past.bel _ | with_reducible refine Ext.trans ?_ (Past.bel _)))⟩
                    · go_wp2_with (first | (go_at_call 53; ((with_reducible refine (implIsName_c _ _ zj).mono ?_); rintro e w' ⟨rfl, hx⟩; (first | (obtain ⟨wx, rfl⟩ := Past.again hx) | (obtain ⟨wx, rfl⟩ := Past.ofd hx) | (obtain ⟨wx, rfl⟩ := Past.of hx)))) | (go_at_call 54; ((with_reducible refine (within_c _ _ _ _).mono ?_); rintro e w' ⟨rfl, rfl⟩)))
                      refine (contFunc_c _ _ _ _ nm c.dy c.lp j _ (by omega) (S3.take (HP2.out.mem.mo.ext (by repeat (first | with_reducible exact Ext.refl _ | with_reducible assumption | with_reducible refine Ext.alloc ?_ _ | with_reducible refine Ext.drew ?_ | (with_reducible refine Ext.setAt ?_ _ _ _ ?_; rotate_left; omega) | with_reducible refine Ext.trans ?_ (by assumption) | with_reducible exact Past.bel _ | with_reducible refine Ext.trans ?_ (Past.bel _)))) (by omega)) (by simp [go_sem]) (by simp [go_sem])).mono ?_
                      rintro e w' ⟨rfl, hx1⟩
                      (first | (obtain ⟨wx1, rfl⟩ := Past.again hx1) | (obtain ⟨wx1, rfl⟩ := Past.of hx1))
                      have HA := Lib.hid (monA_t k1 k2 k3 k4)
                      go_wp2_with fail
                      exact ⟨⟨j + 1, by omega, by go_num, by simp only [monTo, HM.out, HA.out]; rfl, (by repeat (first | with_reducible exact Ext.refl _ | with_reducible assumption | with_reducible refine Ext.alloc ?_ _ | with_reducible refine Ext.drew ?_ | (with_reducible refine Ext.setAt ?_ _ _ _ ?_; rotate_left; omega) | with_reducible refine Ext.trans ?_ (by assumption) | with_reducible exact Past.bel _ | with_reducible refine Ext.trans ?_ (Past.bel _)))⟩, by simp [intOf]; omega⟩
            · obtain rfl : j = c.n := by omega
              clear hp
              go_wp2_with fail
              have HBL := Lib.hid hb0
              have HPB := Lib.hid (HP.out.ext hbl)
              clear hb0 HP2 p1 p2
              go_loopw [69] (fun i ws => ∃ j : Nat, j ≤ c.nr ∧ i = .int .i64 j ∧ rulTo c.ev c.rs j = true ∧ Ext wr ws) (fun i _ => c.nr - (intOf i).toNat)
              case atStart => exact ⟨0, by omega, rfl, rfl, (by repeat (first | with_reducible exact Ext.refl _ | with_reducible assumption | with_reducible refine Ext.alloc ?_ _ | with_reducible refine Ext.drew ?_ | (with_reducible refine Ext.setAt ?_ _ _ _ ?_; rotate_left; omega) | with_reducible refine Ext.trans ?_ (by assumption) | with_reducible exact Past.bel _ | with_reducible refine Ext.trans ?_ (Past.bel _)))⟩
              case round =>
                obtain ⟨j, hj2, rfl, hrt, hbl2⟩ := hrel
                have HR := Lib.hid hrt
                have hp := HPB.out.ext hbl2
                have HP2 := Lib.hid hp
                have g1 := hp.lt
                have p2 := hp.c2
                have hb0 := Ext.trans HBL.out hbl2
                clear hrt
                by_cases hlt : j < c.nr
                · obtain ⟨b1, o1, rfl, hb1, q1, q2, q3⟩ := hp.mem.ru.at hlt
                  clear hp
                  cases k1 : inB (c.ev j) 1 1000
                  · go_wp2_with (first | (go_at_call 54; ((with_reducible refine (within_c _ _ _ _).mono ?_); rintro e w' ⟨rfl, rfl⟩)))
                    go_ret
                    exact ⟨ret_bool (calB_6 hlt (by rw [k1]; rfl)).symm, (by repeat (first | with_reducible exact Ext.refl _ | with_reducible assumption | with_reducible refine Ext.alloc ?_ _ | with_reducible refine Ext.drew ?_ | (with_reducible refine Ext.setAt ?_ _ _ _ ?_; rotate_left; omega) | with_reducible refine Ext.trans ?_ (by assumption) | with_reducible exact Past.bel _ | with_reducible refine Ext.trans ?_ (Past.bel _)))⟩
                  · have k1' := inB_t.1 k1
                    cases k2 : inB (c.rs j) 0 (c.ev j - 1)
                    · go_wp2_with (first | (go_at_call 54; ((with_reducible refine (within_c _ _ _ _).mono ?_); rintro e w' ⟨rfl, rfl⟩)))
                      go_ret
                      exact ⟨ret_bool (calB_6 hlt (by rw [k1, k2]; rfl)).symm, (by repeat (first | with_reducible exact Ext.refl _ | with_reducible assumption | with_reducible refine Ext.alloc ?_ _ | with_reducible refine Ext.drew ?_ | (with_reducible refine Ext.setAt ?_ _ _ _ ?_; rotate_left; omega) | with_reducible refine Ext.trans ?_ (by assumption) | with_reducible exact Past.bel _ | with_reducible refine Ext.trans ?_ (Past.bel _)))⟩
                    · go_wp2_with (first | (go_at_call 54; ((with_reducible refine (within_c _ _ _ _).mono ?_); rintro e w' ⟨rfl, rfl⟩)))
                      exact ⟨⟨j + 1, by omega, by go_num, by simp only [rulTo, HR.out, k1, k2]; rfl, (by repeat (first | with_reducible exact Ext.refl _ | with_reducible assumption | with_reducible refine Ext.alloc ?_ _ | with_reducible refine Ext.drew ?_ | (with_reducible refine Ext.setAt ?_ _ _ _ ?_; rotate_left; omega) | with_reducible refine Ext.trans ?_ (by assumption) | with_reducible exact Past.bel _ | with_reducible refine Ext.trans ?_ (Past.bel _)))⟩, by simp [intOf]; omega⟩
                · obtain rfl : j = c.nr := by omega
                  clear hp
                  have HE := Lib.hid (fun i (hi : i < c.nr) => (rulTo_at HR.out hi).1)
                  have HV := Lib.hid (calB_7 (s := s) (nm := nm) (c := c) (wk := wk) H1.out H2.out (by omega) H4.out HM.out HR.out)
                  go_wp2_with (first | (go_at_call 57; ((with_reducible refine (cycleYears_c _ _ _ c.ev c.rs c.lf _ hr (HP2.out.mem.ru.ext (by repeat (first | with_reducible exact Ext.refl _ | with_reducible assumption | with_reducible refine Ext.alloc ?_ _ | with_reducible refine Ext.drew ?_ | (with_reducible refine Ext.setAt ?_ _ _ _ ?_; rotate_left; omega) | with_reducible refine Ext.trans ?_ (by assumption) | with_reducible exact Past.bel _ | with_reducible refine Ext.trans ?_ (Past.bel _)))) HE.out).mono ?_); rintro e w' ⟨rfl, hx⟩; (first | (obtain ⟨wx, rfl⟩ := Past.again hx) | (obtain ⟨wx, rfl⟩ := Past.ofd hx) | (obtain ⟨wx, rfl⟩ := Past.of hx)))))
                  go_ret
                  exact ⟨ret_bool HV.out.symm, (by repeat (first | with_reducible exact Ext.refl _ | with_reducible assumption | with_reducible refine Ext.alloc ?_ _ | with_reducible refine Ext.drew ?_ | (with_reducible refine Ext.setAt ?_ _ _ _ ?_; rotate_left; omega) | with_reducible refine Ext.trans ?_ (by assumption) | with_reducible exact Past.bel _ | with_reducible refine Ext.trans ?_ (Past.bel _)))⟩
end Go.Proofs.Ytkihjplemnndeaa

namespace Go.Proofs.Ytkihjplemnndeaa
open Go.RowKit
set_option linter.unusedVariables false
set_option linter.unusedSimpArgs false

/-- a calendar handed on by value -/
structure CalV (w : World) (s : ByteArray) (ma ra : Option Addr) (mc rc : Nat) (nm : Nat → ByteArray) (c : CalN) : Prop where
  nb : c.n ≤ 1048576
  rb : c.nr ≤ 1048576
  mb : c.n ≤ mc
  mx : mc ≤ maxLen
  sz : s.size ≤ 9223372036854775807
  nz : ∀ i, i < c.n → (nm i).size ≤ 9223372036854775807
  mem : CalM w ma ra nm c
theorem CalV.ext {w w' : World} {s : ByteArray} {ma ra : Option Addr} {mc rc : Nat} {nm : Nat → ByteArray} {c : CalN} (h : CalV w s ma ra mc rc nm c) (e : Ext w w') : CalV w' s ma ra mc rc nm c := { h with mem := h.mem.ext e }
/-- a calendar behind a pointer, with its bounds -/
structure CalQ (w : World) (g : Nat) (s : ByteArray) (ma ra : Option Addr) (mc rc : Nat) (wk : Int) (nm : Nat → ByteArray) (c : CalN) : Prop where
  nb : c.n ≤ 1048576
  rb : c.nr ≤ 1048576
  sz : s.size ≤ 9223372036854775807
  nz : ∀ i, i < c.n → (nm i).size ≤ 9223372036854775807
  p : CalP w g s ma ra mc rc wk nm c
theorem CalQ.ext {w w' : World} {g : Nat} {s : ByteArray} {ma ra : Option Addr} {mc rc : Nat} {wk : Int} {nm : Nat → ByteArray} {c : CalN} (h : CalQ w g s ma ra mc rc wk nm c) (e : Ext w w') : CalQ w' g s ma ra mc rc wk nm c := { h with p := h.p.ext e }
theorem CalQ.new {w : World} (T : TypeId) {s : ByteArray} {ma ra : Option Addr} {mc rc : Nat} (wk : Int) {nm : Nat → ByteArray} {c : CalN} (h : CalV w s ma ra mc rc nm c) :
    CalQ (w.alloc (.cells #[.string s, .slice ma c.n mc, .slice ra c.nr rc, .int .i64 wk] T)) w.heap.size s ma ra mc rc wk nm c :=
  ⟨h.nb, h.rb, h.sz, h.nz, CalP.new T s ma ra mc rc wk h.mem⟩
theorem validCalendar_v {s : ByteArray} {ma ra : Option Addr} {mc rc : Nat} (wk : Int) {nm : Nat → ByteArray} {c : CalN} {w : World} (h : CalV w s ma ra mc rc nm c) :
    Calls Try.prog 29 #[.agg #[.string s, .slice ma c.n mc, .slice ra c.nr rc, .int .i64 wk]] w fun e w' => e = .returned (.bool (calB s nm c wk)) ∧ Ext w w' :=
  validCalendar_c _ _ _ _ _ _ _ _ _ h.nb h.rb h.mb h.mx h.sz h.nz h.mem
theorem l15Ok_q {g : Nat} {s : ByteArray} {ma ra : Option Addr} {mc rc : Nat} {wk : Int} {nm : Nat → ByteArray} {c : CalN} {w : World} (h : CalQ w g s ma ra mc rc wk nm c) :
    Calls Try.prog 23 #[.pointer (some ⟨g, 0, none⟩)] w fun e w' => e = .returned (.bool (calB s nm c wk)) ∧ Ext w w' :=
  l15Ok_c _ _ _ _ _ _ _ _ _ _ h.nb h.rb h.sz h.nz h.p
theorem isYear_c (y : Int) (w : World) : Calls Try.prog 31 #[.int .i64 y] w fun e w' => e = .returned (.bool (inB y 0 9999)) ∧ w = w' := by
  go_enter Try.func31, Try.ntmps31
  go_wp2_with (go_at_call 54; ((with_reducible refine (within_c _ _ _ _).mono ?_); rintro e w' ⟨rfl, rfl⟩))
  go_ret
  exact ⟨rfl, rfl⟩
theorem l15Year_c (y : Int) (w : World) : Calls Try.prog 25 #[.int .i64 y] w fun e w' => e = .returned (.bool (inB y 0 9999)) ∧ w = w' := by
  go_enter Try.func25, Try.ntmps25
  go_wp2_with (go_at_call 49; ((with_reducible refine (l00In_c _ _ _ _).mono ?_); rintro e w' ⟨rfl, rfl⟩))
  go_ret
  exact ⟨rfl, rfl⟩
theorem isLeap_v {s : ByteArray} {ma ra : Option Addr} {mc rc : Nat} {wk : Int} {nm : Nat → ByteArray} {c : CalN} {w : World} (b : CalB c) (h : CalV w s ma ra mc rc nm c) {y : Int} (hy : 0 ≤ y) (hy' : y ≤ 1000000000000) :
    Calls Try.prog 32 #[.agg #[.string s, .slice ma c.n mc, .slice ra c.nr rc, .int .i64 wk], .int .i64 y] w fun e w' => e = .returned (.bool (c.leap y)) ∧ Ext w w' :=
  isLeap_c _ _ _ _ _ _ _ _ h.rb hy hy' h.mem.ru b.ev _ _ _ _ _
theorem l15Leap_q {g : Nat} {s : ByteArray} {ma ra : Option Addr} {mc rc : Nat} {wk : Int} {nm : Nat → ByteArray} {c : CalN} {w : World} (b : CalB c) (h : CalQ w g s ma ra mc rc wk nm c) {y : Int} (hy : 0 ≤ y) (hy' : y ≤ 1000000000000) :
    Calls Try.prog 68 #[.pointer (some ⟨g, 0, none⟩), .int .i64 y] w fun e w' => e = .returned (.bool (c.leap y)) ∧ Ext w w' :=
  l15Leap_c _ _ _ _ _ _ _ _ _ h.p.lt h.p.c2 h.rb hy hy' h.p.mem.ru b.ev
/-- what IsLeapYear returns -/
def leapR (s : ByteArray) (nm : Nat → ByteArray) (c : CalN) (wk y : Int) : Bool := calB s nm c wk && (inB y 0 9999 && c.leap y)
end Go.Proofs.Ytkihjplemnndeaa

namespace Go.Proofs.Ytkihjplemnndeaa
set_option linter.unusedVariables false
/-- codes and values -/
def ymC (s : ByteArray) (nm : Nat → ByteArray) (c : CalN) (wk y m : Int) : Int := if calB s nm c wk then (if inB y 0 9999 && inB m 1 (c.n : Int) then 0 else 2) else 1
def ymV (s : ByteArray) (nm : Nat → ByteArray) (c : CalN) (wk y m : Int) : Int := if ymC s nm c wk y m = 0 then c.mo y (m - 1).toNat else 0
def yrC (s : ByteArray) (nm : Nat → ByteArray) (c : CalN) (wk y : Int) : Int := if calB s nm c wk then (if inB y 0 9999 then 0 else 2) else 1
def yrV (s : ByteArray) (nm : Nat → ByteArray) (c : CalN) (wk y : Int) : Int := if yrC s nm c wk y = 0 then c.yl y else 0
/-- a date is a day of a valid calendar -/
def dtB (c : CalN) (y m d : Int) : Bool := inB y 0 9999 && (inB m 1 (c.n : Int) && inB d 1 (c.mo y (m - 1).toNat))
def vdR (s : ByteArray) (nm : Nat → ByteArray) (c : CalN) (wk y m d : Int) : Bool := calB s nm c wk && dtB c y m d
theorem mon_nat {n : Nat} {m : Int} (h : inB m 1 (n : Int) = true) : ∃ j : Nat, m = (j : Int) + 1 ∧ j < n := by
  have := inB_t.1 h
  exact ⟨(m - 1).toNat, by omega, by omega⟩
theorem succ_pred (j : Nat) : ((j : Int) + 1 - 1).toNat = j := by omega
end Go.Proofs.Ytkihjplemnndeaa

namespace Go.Proofs.Ytkihjplemnndeaa
open Go.RowKit
set_option linter.unusedVariables false
set_option linter.unusedSimpArgs false

theorem daysOfMonth_v {s : ByteArray} {ma ra : Option Addr} {mc rc : Nat} {wk : Int} {nm : Nat → ByteArray} {c : CalN} {w : World} (h : CalV w s ma ra mc rc nm c) (y : Int) {j : Nat} (hj : j < c.n) :
    Calls Try.prog 33 #[.agg #[.string s, .slice ma c.n mc, .slice ra c.nr rc, .int .i64 wk], .bool (c.leap y), .int .i64 ((j : Int) + 1)] w fun e w' => e = .returned (.int .i64 (c.mo y j)) ∧ Ext w w' :=
  daysOfMonth_c _ _ _ _ _ _ _ _ _ _ _ _ _ _ h.nb h.mem.mo hj
theorem l15Days_q {g : Nat} {s : ByteArray} {ma ra : Option Addr} {mc rc : Nat} {wk : Int} {nm : Nat → ByteArray} {c : CalN} {w : World} (b : CalB c) (h : CalQ w g s ma ra mc rc wk nm c) {y : Int} (hy : 0 ≤ y) (hy' : y ≤ 1000000000000) {j : Nat} (hj : j < c.n) :
    Calls Try.prog 50 #[.pointer (some ⟨g, 0, none⟩), .int .i64 y, .int .i64 (j : Nat)] w fun e w' => e = .returned (.int .i64 (c.mo y j)) ∧ Ext w w' :=
  l15Days_c _ _ _ _ _ _ _ nm c _ _ _ b h.p hy hy' hj
end Go.Proofs.Ytkihjplemnndeaa

namespace Go.Proofs.Ytkihjplemnndeaa
open Go.RowKit
set_option linter.unusedVariables false
set_option linter.unusedSimpArgs false

theorem yl_t {c : CalN} {y : Int} (h : c.leap y = true) : c.yl y = sm c.lp c.n := by rw [yl_if, h]; rfl
theorem yl_f {c : CalN} {y : Int} (h : c.leap y = false) : c.yl y = sm c.dy c.n := by rw [yl_if, h]; rfl
end Go.Proofs.Ytkihjplemnndeaa

namespace Go.Proofs.Ytkihjplemnndeaa
open Go.RowKit
set_option linter.unusedVariables false
set_option linter.unusedSimpArgs false

theorem validCalendar_e {s : ByteArray} {ma ra : Option Addr} {mc rc : Nat} (wk : Int) {nm : Nat → ByteArray} {c : CalN} {w : World} {b : Bool} (hb : calB s nm c wk = b) (h : CalV w s ma ra mc rc nm c) :
    Calls Try.prog 29 #[.agg #[.string s, .slice ma c.n mc, .slice ra c.nr rc, .int .i64 wk]] w fun e w' => e = .returned (.bool b) ∧ Ext w w' := by subst hb; exact validCalendar_v wk h
theorem isYear_e {y : Int} {b : Bool} (hb : inB y 0 9999 = b) (w : World) : Calls Try.prog 31 #[.int .i64 y] w fun e w' => e = .returned (.bool b) ∧ w = w' := by subst hb; exact isYear_c y w
end Go.Proofs.Ytkihjplemnndeaa

namespace Go.Proofs.Ytkihjplemnndeaa
set_option linter.unusedVariables false
/-- months alike, rules alike, as far as place k -/
def moE (n1 : Nat → ByteArray) (c1 : CalN) (n2 : Nat → ByteArray) (c2 : CalN) (k : Nat) : Bool := decide (n1 k = n2 k) && (decide (c1.dy k = c2.dy k) && decide (c1.lp k = c2.lp k))
def ruE (c1 c2 : CalN) (k : Nat) : Bool := decide (c1.ev k = c2.ev k) && (decide (c1.rs k = c2.rs k) && decide (c1.lf k = c2.lf k))
def upTo (f : Nat → Bool) : Nat → Bool
  | 0 => true
  | k + 1 => upTo f k && f k
theorem upTo_ff {f : Nat → Bool} {n k : Nat} (hk : k < n) (h : f k = false) : upTo f n = false := by
  induction n with
  | zero => omega
  | succ n ih =>
    by_cases e : k = n
    · subst e; simp only [upTo, h, Bool.and_false]
    · simp only [upTo, ih (by omega), Bool.false_and]
theorem moE_f {n1 n2 : Nat → ByteArray} {c1 c2 : CalN} {k : Nat} (h : moE n1 c1 n2 c2 k = false) : (¬ n1 k = n2 k) ∨ (n1 k = n2 k ∧ ¬ c1.dy k = c2.dy k) ∨ (n1 k = n2 k ∧ c1.dy k = c2.dy k ∧ ¬ c1.lp k = c2.lp k) := by
  simp only [moE, Bool.and_eq_false_iff, decide_eq_false_iff_not] at h
  by_cases a : n1 k = n2 k
  · by_cases b : c1.dy k = c2.dy k
    · rcases h with h | h | h
      · exact absurd a h
      · exact absurd b h
      · exact .inr (.inr ⟨a, b, h⟩)
    · exact .inr (.inl ⟨a, b⟩)
  · exact .inl a
theorem moE_t {n1 n2 : Nat → ByteArray} {c1 c2 : CalN} {k : Nat} (h : moE n1 c1 n2 c2 k = true) : n1 k = n2 k ∧ c1.dy k = c2.dy k ∧ c1.lp k = c2.lp k := by
  simpa only [moE, Bool.and_eq_true, decide_eq_true_eq] using h
theorem ruE_f {c1 c2 : CalN} {k : Nat} (h : ruE c1 c2 k = false) : (¬ c1.ev k = c2.ev k) ∨ (c1.ev k = c2.ev k ∧ ¬ c1.rs k = c2.rs k) ∨ (c1.ev k = c2.ev k ∧ c1.rs k = c2.rs k ∧ ¬ c1.lf k = c2.lf k) := by
  simp only [ruE, Bool.and_eq_false_iff, decide_eq_false_iff_not] at h
  by_cases a : c1.ev k = c2.ev k
  · by_cases b : c1.rs k = c2.rs k
    · rcases h with h | h | h
      · exact absurd a h
      · exact absurd b h
      · exact .inr (.inr ⟨a, b, h⟩)
    · exact .inr (.inl ⟨a, b⟩)
  · exact .inl a
theorem ruE_t {c1 c2 : CalN} {k : Nat} (h : ruE c1 c2 k = true) : c1.ev k = c2.ev k ∧ c1.rs k = c2.rs k ∧ c1.lf k = c2.lf k := by
  simpa only [ruE, Bool.and_eq_true, decide_eq_true_eq] using h
/-- two calendars are the same -/
def moS (n1 : Nat → ByteArray) (c1 : CalN) (n2 : Nat → ByteArray) (c2 : CalN) : Bool := decide (c1.n = c2.n) && upTo (moE n1 c1 n2 c2) c1.n
def ruS (c1 c2 : CalN) : Bool := decide (c1.nr = c2.nr) && upTo (ruE c1 c2) c1.nr
def sameB (s1 : ByteArray) (n1 : Nat → ByteArray) (c1 : CalN) (w1 : Int) (s2 : ByteArray) (n2 : Nat → ByteArray) (c2 : CalN) (w2 : Int) : Bool :=
  decide (s1 = s2) && (decide (w1 = w2) && (moS n1 c1 n2 c2 && ruS c1 c2))
end Go.Proofs.Ytkihjplemnndeaa

namespace Go.Proofs.Ytkihjplemnndeaa
set_option linter.unusedVariables false
theorem sm_find {f : Nat → Int} {K : Nat} {x : Int} (h0 : 0 ≤ x) (h1 : x < sm f K) : ∃ y, y < K ∧ sm f y ≤ x ∧ x < sm f (y + 1) := by
  induction K with
  | zero => simp [sm] at h1; omega
  | succ K ih =>
    by_cases h : x < sm f K
    · obtain ⟨y, a, b⟩ := ih h
      exact ⟨y, by omega, b⟩
    · exact ⟨K, by omega, by omega, h1⟩
section
variable {c : CalN}
theorem CalB.bef_le (b : CalB c) {i k : Nat} (h : i ≤ k) : c.bef i ≤ c.bef k := sm_mono h fun j _ => by have := (b.yl (j : Int)).1; omega
theorem CalB.bef_lt (b : CalB c) {i k : Nat} (h : i < k) : c.bef i < c.bef k := sm_lt h fun j _ => (b.yl (j : Int)).1
theorem bef_succ (y : Nat) : c.bef (y + 1) = c.bef y + c.yl (y : Int) := rfl
theorem CalB.sm_le (b : CalB c) (y : Int) {i k : Nat} (h : i ≤ k) (hk : k ≤ c.n) : sm (c.mo y) i ≤ sm (c.mo y) k := sm_mono h fun j hj => by have := (b.mo y (show j < c.n by omega)).1; omega
theorem CalB.rul (b : CalB c) : rulB c.ev c.rs c.nr = true := by
  have h : ∀ k, k ≤ c.nr → rulTo c.ev c.rs k = true := fun k => by
    induction k with
    | zero => intro _; rfl
    | succ k ih =>
      intro hk
      have h1 := b.ev k (by omega)
      have h2 := b.rs k (by omega)
      simp only [rulTo, ih (by omega), Bool.true_and, Bool.and_eq_true, inB_t]
      exact ⟨h1, h2⟩
  simp only [rulB, h _ (Nat.le_refl _), b.cy, b.nr6, decide_true, Bool.and_true]
/-- years by cycles -/
theorem CalB.cut (b : CalB c) (k : Nat) : ∃ C q r : Nat, c.cyc = (C : Int) ∧ 1 ≤ C ∧ C ≤ 2000 ∧ k = q * C + r ∧ r < C ∧ (k : Int) / (C : Int) = (q : Int) ∧ (k : Int) % (C : Int) = (r : Int) ∧ c.bef (q * C) = (q : Int) * c.bef C := by
  obtain ⟨C, hC, h1, h2⟩ := b.cycN
  refine ⟨C, k / C, k % C, hC, h1, h2, ?_, Nat.mod_lt _ (by omega), by simp, by simp, ?_⟩
  · have := Nat.div_add_mod k C; rw [Nat.mul_comm] at this; exact this.symm
  · have := b.bef_mul hC (k / C) 0
    simpa [CalN.bef, sm] using this
/-- every number below the end is a day's -/
theorem Loc.ex (b : CalB c) {x : Int} {K : Nat} (h0 : 0 ≤ x) (h1 : x < c.bef K) : ∃ y m d, y < K ∧ Loc c x y m d := by
  obtain ⟨y, hy, a1, a2⟩ := sm_find (f := fun i => c.yl (i : Int)) h0 h1
  have a1' : c.bef y ≤ x := a1
  have a2' : x < c.bef (y + 1) := a2
  have h2 : x - c.bef y < sm (c.mo (y : Int)) c.n := by
    have : c.bef (y + 1) = c.bef y + sm (c.mo (y : Int)) c.n := rfl
    omega
  obtain ⟨m, hm, b1, b2⟩ := sm_find (f := c.mo (y : Int)) (show 0 ≤ x - c.bef y by omega) h2
  exact ⟨y, m, _, hy, ⟨a1', a2', hm, b1, b2, rfl⟩⟩
/-- a date has its number -/
theorem Loc.num (b : CalB c) {y m : Nat} {d : Int} (hm : m < c.n) (h1 : 1 ≤ d) (h2 : d ≤ c.mo (y : Int) m) : Loc c (c.num y m d) y m d := by
  have s0 : 0 ≤ sm (c.mo (y : Int)) m := by
    have := sm_bd (f := c.mo (y : Int)) (A := 1) (B := 60) (k := m) fun j hj => b.mo _ (by omega)
    omega
  have s1 : sm (c.mo (y : Int)) (m + 1) = sm (c.mo (y : Int)) m + c.mo (y : Int) m := rfl
  have s2 := b.sm_le (y : Int) (i := m + 1) (k := c.n) (by omega) (Nat.le_refl _)
  have s3 : c.bef (y + 1) = c.bef y + sm (c.mo (y : Int)) c.n := rfl
  exact ⟨by unfold CalN.num; omega, by unfold CalN.num; omega, hm, by unfold CalN.num; omega, by unfold CalN.num; omega, by unfold CalN.num; omega⟩
theorem Loc.nn {x : Int} {y m : Nat} {d : Int} (b : CalB c) (h : Loc c x y m d) : 0 ≤ x ∧ x < c.bef (y + 1) := by
  have := (b.bef y).1
  exact ⟨by have := h.y0; omega, h.y1⟩
theorem Loc.eq {x : Int} {y m : Nat} {d : Int} (h : Loc c x y m d) : x = c.num y m d := by
  have := h.dd
  unfold CalN.num; omega
/-- the year lies below K -/
theorem Loc.lt (b : CalB c) {x : Int} {y m K : Nat} {d : Int} (h : Loc c x y m d) (hx : x < c.bef K) : y < K := by
  rcases Nat.lt_or_ge y K with a | a
  · exact a
  · have := b.bef_le a; have := h.y0; omega
theorem Loc.day (b : CalB c) {x : Int} {y m : Nat} {d : Int} (h : Loc c x y m d) : 1 ≤ d ∧ d ≤ c.mo (y : Int) m := by
  have s1 : sm (c.mo (y : Int)) (m + 1) = sm (c.mo (y : Int)) m + c.mo (y : Int) m := rfl
  have := h.m0; have := h.m1; have := h.dd
  omega
theorem CalB.last (b : CalB c) : 10000 ≤ c.bef 10000 ∧ c.bef 10000 ≤ 12000000 := by have := b.bef 10000; omega
theorem CalB.befC (b : CalB c) (k : Nat) (hk : k ≤ 10000) : 0 ≤ c.bef k ∧ c.bef k ≤ 12000000 := by have := b.bef k; omega
/-- a number by cycles -/
theorem Loc.cut (b : CalB c) {x : Int} {Y M : Nat} {d : Int} (h : Loc c x Y M d) : ∃ C q : Nat, c.cyc = (C : Int) ∧ 1 ≤ C ∧ C ≤ 2000 ∧ 1 ≤ c.bef C ∧ c.bef C ≤ 2400000 ∧ x / c.bef C = (q : Int) ∧ x % c.bef C = x - c.bef (q * C) ∧ q * C ≤ Y ∧ q ≤ Y := by
  obtain ⟨C, hC, h1, h2⟩ := b.cycN
  have hx := (h.nn b).1
  have e0 := b.bef C
  have e1 : 1 ≤ c.bef C := by omega
  have e2 : 0 ≤ x / c.bef C := Int.ediv_nonneg hx (by omega)
  obtain ⟨q, hq⟩ := Int.eq_ofNat_of_zero_le e2
  have hb : c.bef (q * C) = (q : Int) * c.bef C := by
    have := b.bef_mul hC q 0
    simpa [CalN.bef, sm] using this
  have e3 := Int.mul_ediv_add_emod x (c.bef C)
  have e4 := Int.emod_nonneg x (show c.bef C ≠ 0 by omega)
  rw [hq, Int.mul_comm] at e3
  have e5 : c.bef (q * C) ≤ x := by rw [hb]; omega
  have e6 : q * C ≤ Y := by
    rcases Nat.lt_or_ge Y (q * C) with a | a
    · have := b.bef_le (show Y + 1 ≤ q * C by omega); have := h.y1; omega
    · exact a
  exact ⟨C, q, hC, h1, h2, e1, by omega, hq, by rw [hb]; omega, e6, Nat.le_trans (Nat.le_mul_of_pos_right q (by omega)) e6⟩
theorem Loc.yr (b : CalB c) {x : Int} {Y M : Nat} {d : Int} (h : Loc c x Y M d) {j : Nat} (hj : j < Y) : c.yl (j : Int) ≤ x - c.bef j := by
  have := b.bef_le (show j + 1 ≤ Y by omega)
  have := bef_succ (c := c) j
  have := h.y0
  omega
theorem Loc.yr' {x : Int} {Y M : Nat} {d : Int} (h : Loc c x Y M d) : x - c.bef Y < c.yl (Y : Int) := by
  have := bef_succ (c := c) Y
  have := h.y1
  omega
theorem Loc.mr (b : CalB c) {x : Int} {Y M : Nat} {d : Int} (h : Loc c x Y M d) {j : Nat} (hj : j < M) : c.mo (Y : Int) j ≤ x - c.bef Y - sm (c.mo (Y : Int)) j := by
  have := b.sm_le (Y : Int) (i := j + 1) (k := M) (by omega) (by have := h.mn; omega)
  have e : sm (c.mo (Y : Int)) (j + 1) = sm (c.mo (Y : Int)) j + c.mo (Y : Int) j := rfl
  have := h.m0
  omega
theorem Loc.mr' {x : Int} {Y M : Nat} {d : Int} (h : Loc c x Y M d) : x - c.bef Y - sm (c.mo (Y : Int)) M < c.mo (Y : Int) M := by
  have e : sm (c.mo (Y : Int)) (M + 1) = sm (c.mo (Y : Int)) M + c.mo (Y : Int) M := rfl
  have := h.m1
  omega
/-- the parts of a date of the calendar -/
theorem dtB_nat {y m d : Int} (h : dtB c y m d = true) : ∃ Y M : Nat, y = (Y : Int) ∧ m = (M : Int) + 1 ∧ Y ≤ 9999 ∧ M < c.n ∧ 1 ≤ d ∧ d ≤ c.mo (Y : Int) M := by
  simp only [dtB, Bool.and_eq_true] at h
  obtain ⟨h1, h2, h3⟩ := h
  obtain ⟨M, rfl, hM⟩ := mon_nat h2
  have h1' := inB_t.1 h1
  have h3' := inB_t.1 h3
  rw [succ_pred] at h3'
  obtain ⟨Y, rfl⟩ := Int.eq_ofNat_of_zero_le h1'.1
  exact ⟨Y, M, rfl, rfl, by omega, hM, h3'.1, h3'.2⟩
theorem dtB_mk (b : CalB c) {x : Int} {y m : Nat} {d : Int} (h : Loc c x y m d) (hy : y ≤ 9999) : dtB c (y : Int) ((m : Int) + 1) d = true := by
  have h2 := h.mn
  have h3 := h.day b
  simp only [dtB, Bool.and_eq_true, inB_t, succ_pred]
  exact ⟨⟨by omega, by omega⟩, ⟨by omega, by omega⟩, h3⟩
theorem num_bd (b : CalB c) {y m : Nat} {d : Int} (hy : y ≤ 9999) (hm : m < c.n) (h1 : 1 ≤ d) (h2 : d ≤ c.mo (y : Int) m) : 0 ≤ c.num y m d ∧ c.num y m d < c.bef 10000 := by
  have l := Loc.num b (y := y) hm h1 h2
  have := l.nn b
  have := b.bef_le (show y + 1 ≤ 10000 by omega)
  omega
end
end Go.Proofs.Ytkihjplemnndeaa

namespace Go.Proofs.Ytkihjplemnndeaa
open Go.RowKit
set_option linter.unusedVariables false
set_option linter.unusedSimpArgs false

section
variable {g : Nat} {s : ByteArray} {ma ra : Option Addr} {mc rc : Nat} {wk : Int} {nm : Nat → ByteArray} {c : CalN} {w : World}
end
end Go.Proofs.Ytkihjplemnndeaa

namespace Go.Proofs.Ytkihjplemnndeaa
open Go.RowKit
set_option linter.unusedVariables false
set_option linter.unusedSimpArgs false

/-- a date in a block of its own -/
theorem date_cells {w w' : World} (T : TypeId) (y m d : Int) (h : Ext (w.alloc (.cells #[.int .i64 y, .int .i64 m, .int .i64 d] T)) w') :
    w'.cell? ⟨w.heap.size, 0, none⟩ = some (.int .i64 y) ∧ w'.cell? ⟨w.heap.size, 1, none⟩ = some (.int .i64 m) ∧ w'.cell? ⟨w.heap.size, 2, none⟩ = some (.int .i64 d) := by
  refine ⟨?_, ?_, ?_⟩ <;> (rw [h.cell (by simp)]; simp [go_sem])
section
variable {s : ByteArray} {ma ra : Option Addr} {mc rc : Nat} {wk : Int} {nm : Nat → ByteArray} {c : CalN} {w : World}
theorem CalV.p (T : TypeId) (wk : Int) (h : CalV w s ma ra mc rc nm c) : CalP (w.alloc (.cells #[.string s, .slice ma c.n mc, .slice ra c.nr rc, .int .i64 wk] T)) w.heap.size s ma ra mc rc wk nm c := CalP.new T s ma ra mc rc wk h.mem
end
end Go.Proofs.Ytkihjplemnndeaa

namespace Go.Proofs.Ytkihjplemnndeaa
set_option linter.unusedVariables false
def eq1To (f g : Nat → Int) : Nat → Bool
  | 0 => true
  | k + 1 => eq1To f g k && (f k == g k)
theorem eq1To_ff {f g : Nat → Int} {k n : Nat} (hk : k < n) (hh : f k ≠ g k) : eq1To f g n = false := by
  induction n with
  | zero => omega
  | succ n ih =>
    by_cases e : k = n
    · subst e; simp [eq1To, hh]
    · simp only [eq1To, ih (by omega), Bool.false_and]
theorem eq1To_self {f : Nat → Int} {n : Nat} : eq1To f f n = true := by
  induction n with
  | zero => rfl
  | succ n ih => simp [eq1To, ih]
/-- the first k notches of a cam are valid -/
def camTo (z : Nat → Int) : Nat → Bool
  | 0 => true
  | k + 1 => camTo z k && inB (z k) 1 60
theorem camTo_ff {z : Nat → Int} {k n : Nat} (hk : k < n) (hh : inB (z k) 1 60 = false) : camTo z n = false := by
  induction n with
  | zero => omega
  | succ n ih =>
    by_cases e : k = n
    · subst e; simp only [camTo, hh, Bool.and_false]
    · simp only [camTo, ih (by omega), Bool.false_and]
theorem camTo_at {z : Nat → Int} {k n : Nat} (h : camTo z n = true) (hk : k < n) : inB (z k) 1 60 = true := by
  induction n with
  | zero => omega
  | succ n ih =>
    simp only [camTo, Bool.and_eq_true] at h
    by_cases e : k = n
    · subst e; exact h.2
    · exact ih h.1 (by omega)
def camV (n : Nat) (z : Nat → Int) : Bool := camTo z n && inB (n : Int) 1 260
theorem camV_ff {z : Nat → Int} {k n : Nat} (hk : k < n) (hh : inB (z k) 1 60 = false) : false = camV n z := by rw [camV, camTo_ff hk hh]; rfl
end Go.Proofs.Ytkihjplemnndeaa

namespace Go.Proofs.Ytkihjplemnndeaa
open Go.RowKit
set_option linter.unusedVariables false
set_option linter.unusedSimpArgs false

set_option maxHeartbeats 400000 in
theorem eqInt64S_c (aa ab : Option Addr) (n m ca cb : Nat) (f g : Nat → Int) (w : World) (hn : n ≤ 1048576) (hm : m ≤ 1048576) (ha : S1 w aa n f) (hb : S1 w ab m g) :
    Calls Try.prog 10 #[.slice aa n ca, .slice ab m cb] w fun e w' => e = .returned (.bool (n == m && eq1To f g n)) ∧ Ext w w' := by
  have HA := Lib.hid ha
  have HB := Lib.hid hb
  clear ha hb
  by_cases hnm : n = m
  · subst hnm
    go_enter Try.func10, Try.ntmps10
    go_wp2_with fail
    go_loopw [5] (fun i wr => ∃ k : Nat, k ≤ n ∧ i = .int .i64 k ∧ Ext w wr ∧ eq1To f g k = true) (fun i _ => n - (intOf i).toNat)
    case atStart => exact ⟨0, by omega, rfl, Ext.refl _, rfl⟩
    case round =>
      obtain ⟨k, hk, rfl, hbl, heq⟩ := hrel
      have HE := Lib.hid heq
      clear heq
      by_cases hlt : k < n
      · obtain ⟨b1, o1, rfl, hb1, q1⟩ := (S1.ext HA.out hbl).at hlt
        obtain ⟨b2, o2, rfl, hb2, q3⟩ := (S1.ext HB.out hbl).at hlt
        by_cases hne : f k = g k
        · have hb0 : (f k != g k) = false := by simpa using hne
          have HN := Lib.hid hne
          clear hne
          go_wp2_with fail
          refine wp_region_past (by kernel_rfl) (by kernel_rfl) ?_
          repeat (go_big_quiet_step (fail))
          refine wpQuiet_nil ?_
          rintro _ ⟨wx, rfl⟩
          go_wp2_with fail
          exact ⟨⟨k + 1, by omega, by go_num, (by repeat (first | with_reducible exact Ext.refl _ | with_reducible assumption | with_reducible refine Ext.alloc ?_ _ | with_reducible refine Ext.drew ?_ | (with_reducible refine Ext.setAt ?_ _ _ _ ?_; rotate_left; omega) | with_reducible refine Ext.trans ?_ (by assumption) | with_reducible exact Past.bel _ | with_reducible refine Ext.trans ?_ (Past.bel _))), by simp [eq1To, HE.out, HN.out]⟩, by simp [intOf]; omega⟩
        · have hb0 : (f k != g k) = true := by simpa using hne
          have HN := Lib.hid hne
          clear hne
          go_wp2_with fail
          refine wp_region_past (by kernel_rfl) (by kernel_rfl) ?_
          repeat (go_big_quiet_step (fail))
          refine wpQuiet_nil ?_
          rintro _ ⟨wx, rfl⟩
          go_wp2_with fail
          go_ret
          exact ⟨ret_bool (by rw [eq1To_ff hlt HN.out]; simp), (by repeat (first | with_reducible exact Ext.refl _ | with_reducible assumption | with_reducible refine Ext.alloc ?_ _ | with_reducible refine Ext.drew ?_ | (with_reducible refine Ext.setAt ?_ _ _ _ ?_; rotate_left; omega) | with_reducible refine Ext.trans ?_ (by assumption) | with_reducible exact Past.bel _ | with_reducible refine Ext.trans ?_ (Past.bel _)))⟩
      · obtain rfl : k = n := by omega
        go_wp2_with fail
        go_ret
        exact ⟨ret_bool (by simp [HE.out]), hbl⟩
  · have hne : ((n : Int) != (m : Int)) = true := by simp; omega
    go_enter Try.func10, Try.ntmps10
    go_wp2_with fail
    go_ret
    exact ⟨ret_bool (by simp [hnm]), Ext.refl _⟩
theorem eqInt64S_self (aa ab : Option Addr) (n ca cb : Nat) (f : Nat → Int) (w : World) (hn : n ≤ 1048576) (ha : S1 w aa n f) (hb : S1 w ab n f) :
    Calls Try.prog 10 #[.slice aa n ca, .slice ab n cb] w fun e w' => e = .returned (.bool true) ∧ Ext w w' :=
  (eqInt64S_c aa ab n n ca cb f f w hn hn ha hb).mono fun e w' ⟨he, hx⟩ => ⟨by rw [he, eq1To_self]; simp, hx⟩
set_option maxHeartbeats 400000 in
theorem toInt64S_c (a : Option Addr) (n c : Nat) (z : Nat → Int) (w : World) (hn : n ≤ 1048576) (hs : S1 w a n z) :
    Calls Try.prog 16 #[.slice a n c] w fun e w' => ∃ cur, e = .returned (.slice (some ⟨w.heap.size, 0, none⟩) n n) ∧ Ext w w' ∧ Blk w' w.heap.size 2 cur ∧ cur.size = n ∧ C1 cur n z := by
  have HS := Lib.hid hs
  clear hs
  have hmk := make_run (P := Try.prog) 27 2 (.int .i64 0) 1 8 Try.underlying27 (by kernel_rfl) n (by omega) (by omega)
  go_enter Try.func16, Try.ntmps16
  go_wp2_with fail
  clear hmk
  go_loopw [4] (fun i wr => ∃ (k : Nat) (cur : Array Value), k ≤ n ∧ i = .int .i64 k ∧ Ext w wr ∧ Blk wr w.heap.size 2 cur ∧ cur.size = n ∧ C1 cur k z) (fun i _ => n - (intOf i).toNat)
  case atStart => exact ⟨0, _, by omega, rfl, (by repeat (first | with_reducible exact Ext.refl _ | with_reducible assumption | with_reducible refine Ext.alloc ?_ _ | with_reducible refine Ext.drew ?_ | (with_reducible refine Ext.setAt ?_ _ _ _ ?_; rotate_left; omega) | with_reducible refine Ext.trans ?_ (by assumption) | with_reducible exact Past.bel _ | with_reducible refine Ext.trans ?_ (Past.bel _))), Blk.new _ _ _, by simp [Mk.size], C1.zero _ _⟩
  case round =>
    obtain ⟨k, cur, hk, rfl, hext, hblk, hcs, hc2⟩ := hrel
    have HB := Lib.hid hblk
    have HC := Lib.hid hc2
    have HZ := Lib.hid hcs
    have hgs := hblk.lt
    by_cases hlt : k < n
    · obtain ⟨b1, o1, rfl, hb1, q1⟩ := (S1.ext HS.out hext).at hlt
      obtain ⟨v1, e1⟩ : ∃ v, wr.cell? ⟨w.heap.size, k, none⟩ = some v := ⟨cur[k]'(by omega), by rw [hblk.cell]; simp⟩
      have f1 := hblk.frozen k
      clear hblk hcs hc2
      go_wp2_with fail
      exact ⟨⟨k + 1, _, by omega, by go_num, (by repeat (first | with_reducible exact Ext.refl _ | with_reducible assumption | with_reducible refine Ext.alloc ?_ _ | with_reducible refine Ext.drew ?_ | (with_reducible refine Ext.setAt ?_ _ _ _ ?_; rotate_left; omega) | with_reducible refine Ext.trans ?_ (by assumption) | with_reducible exact Past.bel _ | with_reducible refine Ext.trans ?_ (Past.bel _))), HB.out.set _ _, by simp [HZ.out], HC.out.step (by rw [HZ.out]; omega)⟩, by simp [intOf]; omega⟩
    · clear hblk hcs hc2
      obtain rfl : k = n := by omega
      go_wp2_with fail
      go_ret
      exact ⟨cur, rfl, hext, HB.out, HZ.out, HC.out⟩
theorem toInt64S_r (a : Option Addr) (n c : Nat) (z : Nat → Int) (w : World) (hn : n ≤ 1048576) (hs : S1 w a n z) :
    Calls Try.prog 16 #[.slice a n c] w fun e w' => ∃ g, e = .returned (.slice (some ⟨g, 0, none⟩) n n) ∧ Ext w w' ∧ S1 w' (some ⟨g, 0, none⟩) n z :=
  (toInt64S_c a n c z w hn hs).mono fun e w' ⟨cur, he, hx, hb, _, hc⟩ => ⟨_, he, hx, C1.s1 hb hc⟩
set_option maxHeartbeats 400000 in
theorem validCam_c (a : Option Addr) (n c : Nat) (z : Nat → Int) (w : World) (hn : n ≤ 1048576) (hs : S1 w a n z) :
    Calls Try.prog 63 #[.slice a n c] w fun e w' => e = .returned (.bool (camV n z)) ∧ w = w' := by
  have HS := Lib.hid hs
  clear hs
  go_enter Try.func63, Try.ntmps63
  go_wp2_with fail
  go_loop [7] (fun i => ∃ j : Nat, j ≤ n ∧ i = .int .i64 j ∧ camTo z j = true) (fun i => n - (intOf i).toNat)
  case atStart => exact ⟨0, by omega, rfl, rfl⟩
  case round =>
    obtain ⟨j, hj, rfl, hz⟩ := hrel
    have HZ := Lib.hid hz
    clear hz
    by_cases hlt : j < n
    · obtain ⟨b, off, rfl, hb, hc⟩ := HS.out.at hlt
      by_cases h0 : inB (z j) 1 60 = true
      · go_wp2_with (go_at_call 54; ((with_reducible refine (within_c _ _ _ _).mono ?_); rintro e w' ⟨rfl, rfl⟩))
        exact ⟨⟨j + 1, by omega, by go_num, by simp [camTo, HZ.out, h0]⟩, by simp [intOf]; omega⟩
      · have h1 : inB (z j) 1 60 = false := by simpa using h0
        clear h0
        go_wp2_with (go_at_call 54; ((with_reducible refine (within_c _ _ _ _).mono ?_); rintro e w' ⟨rfl, rfl⟩))
        go_ret
        exact ⟨ret_bool (camV_ff hlt h1), rfl⟩
    · obtain rfl : j = n := by omega
      go_wp2_with (go_at_call 54; ((with_reducible refine (within_c _ _ _ _).mono ?_); rintro e w' ⟨rfl, rfl⟩))
      all_goals go_ret
      all_goals exact ⟨ret_bool (by rw [camV, HZ.out]; rw [Bool.eq_iff_iff]; simp [inB] <;> omega), rfl⟩
set_option maxHeartbeats 400000 in
theorem l17Ok_c (a : Option Addr) (n c : Nat) (z : Nat → Int) (w : World) (hn : n ≤ 1048576) (hs : S1 w a n z) :
    Calls Try.prog 61 #[.slice a n c] w fun e w' => e = .returned (.bool (camV n z)) ∧ w = w' := by
  have HS := Lib.hid hs
  clear hs
  go_enter Try.func61, Try.ntmps61
  go_wp2_with fail
  go_loop [3] (fun i => ∃ j : Nat, j ≤ n ∧ i = .int .i64 j ∧ camTo z j = true) (fun i => n - (intOf i).toNat)
  case atStart => exact ⟨0, by omega, rfl, rfl⟩
  case round =>
    obtain ⟨j, hj, rfl, hz⟩ := hrel
    have HZ := Lib.hid hz
    clear hz
    by_cases hlt : j < n
    · obtain ⟨b, off, rfl, hb, hc⟩ := HS.out.at hlt
      by_cases h0 : inB (z j) 1 60 = true
      · go_wp2_with (go_at_call 49; ((with_reducible refine (l00In_c _ _ _ _).mono ?_); rintro e w' ⟨rfl, rfl⟩))
        exact ⟨⟨j + 1, by omega, by go_num, by simp [camTo, HZ.out, h0]⟩, by simp [intOf]; omega⟩
      · have h1 : inB (z j) 1 60 = false := by simpa using h0
        clear h0
        go_wp2_with (go_at_call 49; ((with_reducible refine (l00In_c _ _ _ _).mono ?_); rintro e w' ⟨rfl, rfl⟩))
        go_ret
        exact ⟨ret_bool (camV_ff hlt h1), rfl⟩
    · obtain rfl : j = n := by omega
      go_wp2_with (go_at_call 49; ((with_reducible refine (l00In_c _ _ _ _).mono ?_); rintro e w' ⟨rfl, rfl⟩))
      all_goals go_ret
      all_goals exact ⟨ret_bool (by rw [camV, HZ.out]; rw [Bool.eq_iff_iff]; simp [inB] <;> omega), rfl⟩
end Go.Proofs.Ytkihjplemnndeaa

namespace Go.Proofs.Ytkihjplemnndeaa
open Go.RowKit
set_option linter.unusedVariables false
set_option linter.unusedSimpArgs false

set_option maxHeartbeats 400000 in
theorem markInt64S_c (a : Option Addr) (n c base : Nat) (k0 : Int) (xs : List Value) (w : World) (hn : n ≤ 1048576) (h0 : 0 ≤ k0) (h1 : k0 ≤ 1048576) (hs : w.ownsRow base 2 1 (.slice a n c) n xs) :
    Calls Try.prog 13 #[.slice a n c, .int .i64 k0] w fun e w' => e = .returned (.int .i64 (k0 + n)) ∧ w'.ownsRow base 2 1 (.slice a n c) n (ups k0 n) ∧ w.grownBy w' (Value.slice a n c).ownBlock := by
  have HS := Lib.hid hs
  have hl : xs.length = n := by simpa using hs.1
  clear hs
  go_enter Try.func13, Try.ntmps13
  go_wp2_with fail
  go_loopw [1, 5] (fun q i wr => ∃ j : Nat, j ≤ n ∧ i = .int .i64 j ∧ q = .int .i64 (k0 + j) ∧ wr.ownsRow base 2 1 (.slice a n c) n (marked k0 xs j) ∧ w.grownBy wr (Value.slice a n c).ownBlock) (fun _ i _ => n - (intOf i).toNat)
  case atStart => exact ⟨0, by omega, rfl, by simp, HS.out, World.grownBy.refl _ _⟩
  case round =>
    obtain ⟨j, hj, rfl, rfl, ho, hg⟩ := hrel
    by_cases hlt : j < n
    · obtain ⟨g, rfl, hb1, hb2, q1, q2⟩ := own_at ho hlt
      have HO := Lib.hid ho
      have HG := Lib.hid hg
      obtain ⟨v, q3⟩ : ∃ v, wr.cell? ⟨g, j, none⟩ = some v := ⟨(marked k0 xs j)[j]'(by rw [marked_length]; omega), by rw [q1]; exact List.getElem?_eq_getElem _⟩
      clear q1 ho hg
      go_wp2_with fail
      exact ⟨⟨j + 1, by omega, by go_num, congrArg _ (by omega), own_set HO.out _, grown_trans HG.out (grown_set _ _ _)⟩, by simp [intOf]; omega⟩
    · obtain rfl : j = n := by omega
      have HO := Lib.hid ho
      have HG := Lib.hid hg
      clear ho hg
      go_wp2_with fail
      go_ret
      exact ⟨rfl, by have := HO.out; rw [← hl, marked_all, hl] at this; rw [hl] at *; exact this, HG.out⟩
set_option maxHeartbeats 400000 in
theorem heldInt64S_c (a : Option Addr) (n c base : Nat) (k0 : Int) (w : World) (hn : n ≤ 1048576) (h0 : 0 ≤ k0) (h1 : k0 ≤ 1048576) (hs : w.ownsRow base 2 1 (.slice a n c) n (ups k0 n)) :
    Calls Try.prog 14 #[.slice a n c, .int .i64 k0] w fun e w' => e = .returned (.int .i64 (k0 + n)) ∧ w = w' := by
  have HS := Lib.hid hs
  clear hs
  go_enter Try.func14, Try.ntmps14
  go_wp2_with fail
  go_loop [1, 5] (fun q i => ∃ j : Nat, j ≤ n ∧ i = .int .i64 j ∧ q = .int .i64 (k0 + j)) (fun _ i => n - (intOf i).toNat)
  case atStart => exact ⟨0, by omega, rfl, by simp⟩
  case round =>
    obtain ⟨j, hj, rfl, rfl⟩ := hrel
    by_cases hlt : j < n
    · obtain ⟨g, rfl, hb1, hb2, q1, q2⟩ := own_at HS.out hlt
      rw [ups_at k0 hlt] at q1
      go_wp2_with fail
      exact ⟨⟨j + 1, by omega, by go_num, congrArg _ (by omega)⟩, by simp [intOf]; omega⟩
    · obtain rfl : j = n := by omega
      go_wp2_with fail
      go_ret
      exact ⟨rfl, rfl⟩
end Go.Proofs.Ytkihjplemnndeaa

namespace Go.Proofs.Ytkihjplemnndeaa
set_option linter.unusedVariables false
section
variable (s : ByteArray) (nm : Nat → ByteArray) (c : CalN) (wk : Int)
def caC : Int := if calB s nm c wk then 0 else 1
def cyV : Int := if calB s nm c wk then c.cyc else 0
def cyD : Int := if calB s nm c wk then c.bef c.cyc.toNat else 0
def laV : Int := if calB s nm c wk then c.bef 10000 - 1 else 0
/-- a date's number -/
def dnum (y m d : Int) : Int := c.num y.toNat (m - 1).toNat d
def dyC (y m d : Int) : Int := if calB s nm c wk then (if dtB c y m d then 0 else 2) else 1
def dyV (y m d : Int) : Int := if dyC s nm c wk y m d = 0 then dnum c y m d else 0
def btC (y m d y' m' d' : Int) : Int := if calB s nm c wk then (if dtB c y m d && dtB c y' m' d' then 0 else 2) else 1
def btV (y m d y' m' d' : Int) : Int := if btC s nm c wk y m d y' m' d' = 0 then dnum c y' m' d' - dnum c y m d else 0
def wdC (y m d f : Int) : Int := if calB s nm c wk then (if dtB c y m d && inB f 1 wk then 0 else 2) else 1
def wdV (y m d f : Int) : Int := if wdC s nm c wk y m d f = 0 then (dnum c y m d + f - 1) % wk + 1 else 0
end
theorem calB_w {s : ByteArray} {nm : Nat → ByteArray} {c : CalN} {wk : Int} (h : calB s nm c wk = true) : 1 ≤ wk ∧ wk ≤ 12 := by
  simp only [calB, Bool.and_eq_true, inB_t] at h; exact h.2.2.2
theorem dnum_nat (c : CalN) (Y M : Nat) (d : Int) : dnum c (Y : Int) ((M : Int) + 1) d = c.num Y M d := by
  unfold dnum; rw [succ_pred]; simp
theorem dnum_bd {c : CalN} (b : CalB c) {y m d : Int} (h : dtB c y m d = true) : 0 ≤ dnum c y m d ∧ dnum c y m d < c.bef 10000 := by
  obtain ⟨Y, M, rfl, rfl, h1, h2, h3, h4⟩ := dtB_nat h
  rw [dnum_nat]; exact num_bd b h1 h2 h3 h4
end Go.Proofs.Ytkihjplemnndeaa

namespace Go.Proofs.Ytkihjplemnndeaa
set_option linter.unusedVariables false
/-- a date as a result: that of number x where 'ok', else none -/
structure DtR (c : CalN) (ok : Bool) (x Y M d : Int) : Prop where
  yes : ok = true → ∃ Y' M' : Nat, Y = (Y' : Int) ∧ M = (M' : Int) + 1 ∧ Loc c x Y' M' d ∧ Y' ≤ 9999
  no : ok = false → Y = 0 ∧ M = 0 ∧ d = 0
theorem DtR.mk' {c : CalN} {ok : Bool} {x : Int} (h : ok = true → CalB c ∧ 0 ≤ x ∧ x < c.bef 10000) : ∃ Y M d, DtR c ok x Y M d := by
  cases ok
  · exact ⟨0, 0, 0, ⟨(fun e => by cases e), fun _ => ⟨rfl, rfl, rfl⟩⟩⟩
  · obtain ⟨b, h0, h1⟩ := h rfl
    obtain ⟨y, m, d, hy, hl⟩ := Loc.ex b h0 h1
    exact ⟨_, _, d, ⟨fun _ => ⟨y, m, rfl, rfl, hl, by omega⟩, (fun e => by cases e)⟩⟩
section
variable (s : ByteArray) (nm : Nat → ByteArray) (c : CalN) (wk : Int)
def dcC (x : Int) : Int := if calB s nm c wk then (if inB x 0 (c.bef 10000 - 1) then 0 else 2) else 1
def adB (y m d k : Int) : Bool := dtB c y m d && inB (dnum c y m d + k) 0 (c.bef 10000 - 1)
def adC (y m d k : Int) : Int := if calB s nm c wk then (if adB c y m d k then 0 else 2) else 1
def cvB (c2 : CalN) (y m d k : Int) : Bool := dtB c y m d && inB (dnum c y m d + k) 0 (c2.bef 10000 - 1)
def cvC (s2 : ByteArray) (nm2 : Nat → ByteArray) (c2 : CalN) (wk2 : Int) (y m d k : Int) : Int := if calB s nm c wk && calB s2 nm2 c2 wk2 then (if cvB c c2 y m d k then 0 else 2) else 1
end
/-- a number of days too far -/
def farB (k : Int) : Bool := !inB k (-20000000) 20000000
theorem far_no {c c2 : CalN} (b : CalB c) (b2 : CalB c2) {y m d k : Int} (h : dtB c y m d = true) (hf : farB k = true) : inB (dnum c y m d + k) 0 (c2.bef 10000 - 1) = false := by
  have h1 := dnum_bd b h
  have h2 := b.last
  have h3 := b2.last
  have h4 : inB k (-20000000) 20000000 = false := by simpa [farB] using hf
  have h5 := inB_f.1 h4
  rw [inB_f]; omega
theorem sh_in {n k L : Int} : inB k (-n) (L - 1 - n) = inB (n + k) 0 (L - 1) := by
  rw [Bool.eq_iff_iff, inB_t, inB_t]; omega
end Go.Proofs.Ytkihjplemnndeaa

namespace Go.Proofs.Ytkihjplemnndeaa
set_option linter.unusedVariables false
theorem eq1To_comm (f g : Nat → Int) (k : Nat) : eq1To f g k = eq1To g f k := by
  induction k with
  | zero => rfl
  | succ k ih => simp only [eq1To, ih]; rw [show (f k == g k) = (g k == f k) from by rw [Bool.eq_iff_iff, beq_iff_eq, beq_iff_eq]; exact ⟨Eq.symm, Eq.symm⟩]
/-- p is a period -/
def perB (z : Nat → Int) (n p : Nat) : Bool := eq1To (fun i => z (i + p)) z (n - p)
theorem perB_full (z : Nat → Int) (n : Nat) : perB z n n = true := by unfold perB; rw [Nat.sub_self]; rfl
/-- the least period -/
structure Per (z : Nat → Int) (n p : Nat) : Prop where
  p1 : 1 ≤ p
  pn : p ≤ n
  is : perB z n p = true
  no : ∀ q, 1 ≤ q → q < p → perB z n q = false
theorem Per.one {z : Nat → Int} {n p q : Nat} (h : Per z n p) (k : Per z n q) : p = q := by
  rcases Nat.lt_trichotomy p q with e | e | e
  · have := k.no p h.p1 e; rw [h.is] at this; cases this
  · exact e
  · have := h.no q k.p1 e; rw [k.is] at this; cases this
/-- the period of a cam, and the code -/
structure PerR (z : Nat → Int) (n : Nat) (p k : Int) : Prop where
  ok : camV n z = true → ∃ q : Nat, p = q ∧ Per z n q ∧ k = 0
  no : camV n z = false → p = 0 ∧ k = 1
theorem PerR.one {z : Nat → Int} {n : Nat} {p k p' k' : Int} (h : PerR z n p k) (h' : PerR z n p' k') : p = p' ∧ k = k' := by
  cases hv : camV n z with
  | true =>
    obtain ⟨q, rfl, hq, rfl⟩ := h.ok hv
    obtain ⟨q', rfl, hq', rfl⟩ := h'.ok hv
    exact ⟨by rw [hq.one hq'], rfl⟩
  | false =>
    obtain ⟨rfl, rfl⟩ := h.no hv
    obtain ⟨rfl, rfl⟩ := h'.no hv
    exact ⟨rfl, rfl⟩
theorem PerR.yes {z : Nat → Int} {n p : Nat} (hv : camV n z = true) (h : Per z n p) : PerR z n p 0 := ⟨fun _ => ⟨p, rfl, h, rfl⟩, fun e => absurd (hv.symm.trans e) (by decide)⟩
theorem PerR.nope {z : Nat → Int} {n : Nat} (hv : camV n z = false) : PerR z n 0 1 := ⟨fun e => absurd (hv.symm.trans e) (by decide), fun _ => ⟨rfl, rfl⟩⟩
theorem eq1To_swap (z : Nat → Int) (p j : Nat) : (eq1To (fun i => z (i + p)) z j && (z j == z (j + p))) = eq1To (fun i => z (i + p)) z (j + 1) := by
  simp only [eq1To]; congr 1; rw [Bool.eq_iff_iff, beq_iff_eq, beq_iff_eq]; exact ⟨Eq.symm, Eq.symm⟩
end Go.Proofs.Ytkihjplemnndeaa

namespace Go.Proofs.Ytkihjplemnndeaa
set_option linter.unusedVariables false
set_option linter.unusedSimpArgs false
/-- a function's first j values -/
def outs (F : Nat → Int) : Nat → List Int
  | 0 => []
  | j + 1 => outs F j ++ [F j]
theorem outs_len (F : Nat → Int) (j : Nat) : (outs F j).length = j := by
  induction j with
  | zero => rfl
  | succ j ih => simp [outs, ih]
theorem outs_get (F : Nat → Int) {i j : Nat} (h : i < j) : (outs F j).getD i 0 = F i := by
  induction j with
  | zero => omega
  | succ j ih =>
    simp only [outs]
    by_cases e : i = j
    · subst e; simp [List.getD, List.getElem?_append_right, outs_len]
    · have h1 := ih (by omega)
      simp only [List.getD, List.getElem?_append_left (show i < (outs F j).length by rw [outs_len]; omega)] at h1 ⊢
      exact h1
/-- month j of a cam that begins with year f -/
def camF (c : CalN) (f : Nat) (j : Nat) : Int := c.mo ((f + j / c.n : Nat) : Int) (j % c.n)
theorem camF_at {c : CalN} {f i m : Nat} (hm : m < c.n) : camF c f (i * c.n + m) = c.mo ((f + i : Nat) : Int) m := by
  have h0 : 0 < c.n := by omega
  unfold camF
  rw [Nat.mul_comm, Nat.mul_add_div h0, Nat.mul_add_mod, Nat.div_eq_of_lt hm, Nat.mod_eq_of_lt hm, Nat.add_zero]
section
variable (s : ByteArray) (nm : Nat → ByteArray) (c : CalN) (wk : Int)
def cmB (first years : Int) : Bool := inB years 1 (260 / (c.n : Int)) && (inB first 0 9999 && inB (first + years - 1) 0 9999)
def cmC (first years : Int) : Int := if calB s nm c wk then (if cmB c first years then 0 else 2) else 1
def cmL (first years : Int) : List Int := if cmC s nm c wk first years = 0 then outs (camF c first.toNat) (years.toNat * c.n) else []
end
theorem notch {n : Nat} {y : Int} (h1 : 1 ≤ n) : (inB y 1 260 && decide (y * (n : Int) ≤ 260)) = inB y 1 (260 / (n : Int)) := by
  rw [Bool.eq_iff_iff, Bool.and_eq_true, inB_t, inB_t, decide_eq_true_eq, Int.le_ediv_iff_mul_le (by omega)]
  constructor
  · rintro ⟨⟨a, _⟩, b⟩; exact ⟨a, b⟩
  · rintro ⟨a, b⟩
    have h2 : y * 1 ≤ y * (n : Int) := Int.mul_le_mul_of_nonneg_left (by omega) (by omega)
    exact ⟨⟨a, by omega⟩, b⟩
/-- the codes of a calendar and a cam -/
def asC (s : ByteArray) (nm : Nat → ByteArray) (c : CalN) (wk : Int) (n : Nat) (z : Nat → Int) : Int := if calB s nm c wk && camV n z then (if n % c.n = 0 then 0 else 6) else 1
/-- what the cam of n notches shows at month j of year y -/
def shown (c : CalN) (n : Nat) (z : Nat → Int) (y : Nat) (j : Nat) : Int := z (y % (n / c.n) * c.n + j)
def wrong (c : CalN) (n : Nat) (z : Nat → Int) (y : Nat) (j : Nat) : Bool := decide (shown c n z y j ≠ c.mo (y : Int) j)
/-- the faults of a year's first m months -/
def flt (c : CalN) (n : Nat) (z : Nat → Int) (y : Nat) : Nat → List (Int × Int × Int × Int)
  | 0 => []
  | m + 1 => if wrong c n z y m then flt c n z y m ++ [((y : Int), (m : Int) + 1, shown c n z y m, c.mo (y : Int) m)] else flt c n z y m
theorem flt_len (c : CalN) (n : Nat) (z : Nat → Int) (y m : Nat) : (flt c n z y m).length ≤ m := by
  induction m with
  | zero => simp [flt]
  | succ m ih =>
    simp only [flt]
    split
    · simp; omega
    · omega
/-- the faults of the first k years -/
def cnt (c : CalN) (n : Nat) (z : Nat → Int) : Nat → Nat
  | 0 => 0
  | k + 1 => cnt c n z k + (flt c n z k c.n).length
theorem cnt_le (c : CalN) (n : Nat) (z : Nat → Int) (k : Nat) : cnt c n z k ≤ k * c.n := by
  induction k with
  | zero => simp [cnt]
  | succ k ih =>
    have := flt_len c n z k c.n
    simp only [cnt]; rw [Nat.add_mul]; omega
/-- how many of a year's first m months are wrong -/
def wct (c : CalN) (n : Nat) (z : Nat → Int) (y : Nat) : Nat → Nat
  | 0 => 0
  | m + 1 => wct c n z y m + if wrong c n z y m then 1 else 0
theorem wct_flt (c : CalN) (n : Nat) (z : Nat → Int) (y m : Nat) : wct c n z y m = (flt c n z y m).length := by
  induction m with
  | zero => rfl
  | succ m ih => simp only [wct, flt, ih]; split <;> simp
theorem row_in {c : CalN} {n y j : Nat} (hn : 1 ≤ n) (h0 : n % c.n = 0) (h1 : 1 ≤ c.n) (hj : j < c.n) : 1 ≤ n / c.n ∧ y % (n / c.n) * c.n + j < n ∧ n / c.n * c.n = n := by
  have h2 : n / c.n * c.n = n := by have := Nat.div_add_mod n c.n; rw [h0, Nat.mul_comm] at this; omega
  have h3 : 1 ≤ n / c.n := by
    rcases Nat.eq_zero_or_pos (n / c.n) with e | e
    · rw [e] at h2; omega
    · exact e
  have h4 : y % (n / c.n) < n / c.n := Nat.mod_lt _ h3
  have h5 : (y % (n / c.n) + 1) * c.n ≤ n / c.n * c.n := Nat.mul_le_mul_right _ h4
  rw [Nat.add_mul] at h5
  exact ⟨h3, by omega, h2⟩
end Go.Proofs.Ytkihjplemnndeaa

namespace Go.Proofs.Ytkihjplemnndeaa
open Go.RowKit
set_option linter.unusedVariables false
set_option linter.unusedSimpArgs false

theorem info_i64 : (Try.prog.info? 2).map (fun i => (i.zero, i.size, i.bytes)) = some (some (.int .i64 0), 1, 8) := by kernel_rfl
section
variable {g : Nat} {s : ByteArray} {ma ra : Option Addr} {mc rc : Nat} {wk : Int} {nm : Nat → ByteArray} {c : CalN} {w : World}
set_option maxHeartbeats 2000000 in
theorem l17Of_q (b : CalB c) (h : CalQ w g s ma ra mc rc wk nm c) {f Y : Nat} (hf : f ≤ 9999) (hY : Y ≤ 260) (hn : Y * c.n ≤ 260) :
    Calls Try.prog 26 #[.pointer (some ⟨g, 0, none⟩), .int .i64 (f : Nat), .int .i64 (Y : Nat)] w fun e w' => ∃ bb cap, e = .returned (.slice bb (outs (camF c f) (Y * c.n)).length cap) ∧ Ext w w' ∧ w'.ownsRow w.heap.size 2 1 (.slice bb (outs (camF c f) (Y * c.n)).length cap) (outs (camF c f) (Y * c.n)).length ((outs (camF c f) (Y * c.n)).map (Value.int .i64)) := by
  have H := Lib.hid h
  have B := Lib.hid b
  have n1 := b.n1
  have n20 := b.n20
  clear h b
  go_enter Try.func26, Try.ntmps26
  go_wp2_with fail
  go_loopw [7, 8] (fun v y wr => ∃ i : Nat, i ≤ Y ∧ y = .int .i64 ((f : Int) + i) ∧ Ext w wr ∧ wr.ownsRow w.heap.size 2 1 v (outs (camF c f) (i * c.n)).length ((outs (camF c f) (i * c.n)).map (Value.int .i64))) (fun _ y _ => f + Y - (intOf y).toNat)
  case atStart => exact ⟨0, by omega, by simp, (by repeat (first | with_reducible exact Ext.refl _ | with_reducible assumption | with_reducible refine Ext.alloc ?_ _ | with_reducible refine Ext.drew ?_ | (with_reducible refine Ext.setAt ?_ _ _ _ ?_; rotate_left; omega) | with_reducible refine Ext.trans ?_ (by assumption) | with_reducible exact Past.bel _ | with_reducible refine Ext.trans ?_ (Past.bel _))), by simp only [Nat.zero_mul]; exact World.ownsRow_made _ #[] 0 (Ext.size (by repeat (first | with_reducible exact Ext.refl _ | with_reducible assumption | with_reducible refine Ext.alloc ?_ _ | with_reducible refine Ext.drew ?_ | (with_reducible refine Ext.setAt ?_ _ _ _ ?_; rotate_left; omega) | with_reducible refine Ext.trans ?_ (by assumption) | with_reducible exact Past.bel _ | with_reducible refine Ext.trans ?_ (Past.bel _)))) (Nat.zero_le _) rfl⟩
  case round =>
    obtain ⟨i, hi, rfl, hbl, ho⟩ := hrel
    have HO := Lib.hid ho
    have hp := H.out.ext hbl
    have HPH := Lib.hid hp
    have g0 := hp.p.lt
    have p1 := hp.p.c1
    have HBL := Lib.hid hbl
    clear ho hp
    by_cases hlt : i < Y
    · have hin : (i + 1) * c.n ≤ Y * c.n := Nat.mul_le_mul_right _ hlt
      rw [Nat.add_mul, Nat.one_mul] at hin
      go_wp2_with fail
      go_loopw [7, 9] (fun v m ws => ∃ j : Nat, j ≤ c.n ∧ m = .int .i64 (j : Nat) ∧ Ext w ws ∧ ws.ownsRow w.heap.size 2 1 v (outs (camF c f) (i * c.n + j)).length ((outs (camF c f) (i * c.n + j)).map (Value.int .i64))) (fun _ m _ => c.n - (intOf m).toNat)
      case atStart => exact ⟨0, by omega, rfl, HBL.out, HO.out⟩
      case round =>
        obtain ⟨j, hj, rfl, hbl2, ho2⟩ := hrel
        have HO2 := Lib.hid ho2
        have hp2 := H.out.ext hbl2
        have HP2 := Lib.hid hp2
        have g1 := hp2.p.lt
        have p2 := hp2.p.c1
        clear ho2 hp2 p1
        have hlen := outs_len (camF c f) (i * c.n + j)
        by_cases hjn : j < c.n
        · have hca := camF_at (c := c) (f := f) (i := i) hjn
          have HCA := Lib.hid hca
          have e0 : (f : Int) + (i : Int) = ((f + i : Nat) : Int) := by omega
          have hst : outs (camF c f) (i * c.n + (j + 1)) = outs (camF c f) (i * c.n + j) ++ [c.mo ((f : Int) + (i : Int)) j] := by
            rw [e0, ← hca]; rfl
          have HST := Lib.hid hst
          clear hca hst e0
          go_wp2_with (first | (go_at_call 50; ((with_reducible refine (l15Days_q B.out (HP2.out.ext (by repeat (first | with_reducible exact Ext.refl _ | with_reducible assumption | with_reducible refine Ext.alloc ?_ _ | with_reducible refine Ext.drew ?_ | (with_reducible refine Ext.setAt ?_ _ _ _ ?_; rotate_left; omega) | with_reducible refine Ext.trans ?_ (by assumption) | with_reducible exact Past.bel _ | with_reducible refine Ext.trans ?_ (Past.bel _)))) (by omega) (by omega) hjn).mono ?_); rintro e w' ⟨rfl, hx⟩; (first | (obtain ⟨wx, rfl⟩ := Past.again hx) | (obtain ⟨wx, rfl⟩ := Past.ofd hx) | (obtain ⟨wx, rfl⟩ := Past.of hx)))) | (at_builtin; refine app1 (w0 := w) 27 2 _ _ rfl rfl Try.underlying27 info_i64 _ (outs (camF c f) (i * c.n + j)) (c.mo ((f : Int) + (i : Int)) j) _ rfl rfl (own_ext HO2.out (by repeat (first | with_reducible exact Ext.refl _ | with_reducible assumption | with_reducible refine Ext.alloc ?_ _ | with_reducible refine Ext.drew ?_ | (with_reducible refine Ext.setAt ?_ _ _ _ ?_; rotate_left; omega) | with_reducible refine Ext.trans ?_ (by assumption) | with_reducible exact Past.bel _ | with_reducible refine Ext.trans ?_ (Past.bel _)))) (by simp [go_sem]) (by omega) (by repeat (first | with_reducible exact Ext.refl _ | with_reducible assumption | with_reducible refine Ext.alloc ?_ _ | with_reducible refine Ext.drew ?_ | (with_reducible refine Ext.setAt ?_ _ _ _ ?_; rotate_left; omega) | with_reducible refine Ext.trans ?_ (by assumption) | with_reducible exact Past.bel _ | with_reducible refine Ext.trans ?_ (Past.bel _))) ?_; intro v1 w1 ho1 hx1))
          exact ⟨⟨j + 1, by omega, by go_num, hx1, by rw [HST.out]; exact ho1⟩, by simp [intOf]; omega⟩
        · have hj2 : j = c.n := by omega
          have e1 : i * c.n + j = (i + 1) * c.n := by rw [hj2, Nat.add_mul, Nat.one_mul]
          rw [e1] at HO2
          have x3 : (c.n : Int) ≤ (j : Int) := by omega
          clear e1 hj2 hlen
          go_wp2_with fail
          exact ⟨⟨i + 1, by omega, by go_num, hbl2, HO2.out⟩, by simp [intOf]; omega⟩
    · have hiY : i = Y := by omega
      rw [hiY] at HO
      obtain ⟨bb, cap, rfl⟩ := own_form HO.out
      have x3 : (Y : Int) ≤ (i : Int) := by omega
      clear hiY
      go_wp2_with fail
      go_ret
      exact ⟨bb, cap, rfl, (by repeat (first | with_reducible exact Ext.refl _ | with_reducible assumption | with_reducible refine Ext.alloc ?_ _ | with_reducible refine Ext.drew ?_ | (with_reducible refine Ext.setAt ?_ _ _ _ ?_; rotate_left; omega) | with_reducible refine Ext.trans ?_ (by assumption) | with_reducible exact Past.bel _ | with_reducible refine Ext.trans ?_ (Past.bel _))), HO.out⟩
end
end Go.Proofs.Ytkihjplemnndeaa
