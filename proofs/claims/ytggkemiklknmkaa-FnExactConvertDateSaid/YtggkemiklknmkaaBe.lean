/- Days of the week: the functions as they are called. Calendars: dates as results. No program in sight. Dates of numbers: the functions as they are called. Days added, dates converted: the functions as they are called. -/
import Derived.Test.YtggkemiklknmkaaBd

namespace Go.Proofs.Ytggkemiklknmkaa
open Go.RowKit
set_option linter.unusedVariables false
set_option linter.unusedSimpArgs false

section
variable {g : Nat} {s : ByteArray} {ma ra : Option Addr} {mc rc : Nat} {wk : Int} {nm : Nat → ByteArray} {c : CalN} {w : World}
theorem implDayOf_no (wk : Int) {y m d : Int} (k : Int) (hc : dyC s nm c wk y m d = k) (hk : k ≠ 0) (h : CalV w s ma ra mc rc nm c) :
    Calls Try.prog 21 #[.agg #[.string s, .slice ma c.n mc, .slice ra c.nr rc, .int .i64 wk], .agg #[.int .i64 y, .int .i64 m, .int .i64 d]] w fun e w' => e = .returned (.tuple #[.int .i64 0, .int .i64 k]) ∧ Ext w w' := by
  have := implDayOf_c wk y m d h
  rw [dyV, hc, if_neg hk] at this
  exact this
theorem implDayOf_yes (wk : Int) {y m d : Int} (h1 : calB s nm c wk = true) (h2 : dtB c y m d = true) (h : CalV w s ma ra mc rc nm c) :
    Calls Try.prog 21 #[.agg #[.string s, .slice ma c.n mc, .slice ra c.nr rc, .int .i64 wk], .agg #[.int .i64 y, .int .i64 m, .int .i64 d]] w fun e w' => e = .returned (.tuple #[.int .i64 (dnum c y m d), .int .i64 0]) ∧ Ext w w' := by
  have := implDayOf_c wk y m d h
  have e : dyC s nm c wk y m d = 0 := by simp [dyC, h1, h2]
  rw [dyV, e, if_pos rfl] at this
  exact this
set_option maxHeartbeats 2000000 in
theorem implWeekdayOf_c (wk y m d f : Int) (hf : -9223372036854775808 ≤ f ∧ f ≤ 9223372036854775807) (h : CalV w s ma ra mc rc nm c) :
    Calls Try.prog 25 #[.agg #[.string s, .slice ma c.n mc, .slice ra c.nr rc, .int .i64 wk], .agg #[.int .i64 y, .int .i64 m, .int .i64 d], .int .i64 f] w fun e w' => e = .returned (.tuple #[.int .i64 (wdV s nm c wk y m d f), .int .i64 (wdC s nm c wk y m d f)]) ∧ Ext w w' := by
  have H := Lib.hid h
  clear h
  cases h1 : calB s nm c wk
  · have hc : dyC s nm c wk y m d = 1 := by simp [dyC, h1]
    go_enter Try.func25, Try.ntmps25
    go_wp2_with (go_at_call 21; ((with_reducible refine (implDayOf_no wk 1 hc (by omega) (H.out.ext (by repeat (first | with_reducible exact Ext.refl _ | with_reducible assumption | with_reducible refine Ext.alloc ?_ _ | with_reducible refine Ext.drew ?_ | (with_reducible refine Ext.setAt ?_ _ _ _ ?_; rotate_left; omega) | with_reducible refine Ext.trans ?_ (by assumption) | with_reducible exact Past.bel _ | with_reducible refine Ext.trans ?_ (Past.bel _))))).mono ?_); rintro e w' ⟨rfl, hx⟩; (first | (obtain ⟨wx, rfl⟩ := Past.again hx) | (obtain ⟨wx, rfl⟩ := Past.ofd hx) | (obtain ⟨wx, rfl⟩ := Past.of hx))))
    go_ret2
    exact ⟨by simp [wdV, wdC, h1], (by repeat (first | with_reducible exact Ext.refl _ | with_reducible assumption | with_reducible refine Ext.alloc ?_ _ | with_reducible refine Ext.drew ?_ | (with_reducible refine Ext.setAt ?_ _ _ _ ?_; rotate_left; omega) | with_reducible refine Ext.trans ?_ (by assumption) | with_reducible exact Past.bel _ | with_reducible refine Ext.trans ?_ (Past.bel _)))⟩
  · have B := Lib.hid (calB_b h1)
    have hw := calB_w h1
    cases h2 : dtB c y m d
    · have hc : dyC s nm c wk y m d = 2 := by simp [dyC, h1, h2]
      go_enter Try.func25, Try.ntmps25
      go_wp2_with (go_at_call 21; ((with_reducible refine (implDayOf_no wk 2 hc (by omega) (H.out.ext (by repeat (first | with_reducible exact Ext.refl _ | with_reducible assumption | with_reducible refine Ext.alloc ?_ _ | with_reducible refine Ext.drew ?_ | (with_reducible refine Ext.setAt ?_ _ _ _ ?_; rotate_left; omega) | with_reducible refine Ext.trans ?_ (by assumption) | with_reducible exact Past.bel _ | with_reducible refine Ext.trans ?_ (Past.bel _))))).mono ?_); rintro e w' ⟨rfl, hx⟩; (first | (obtain ⟨wx, rfl⟩ := Past.again hx) | (obtain ⟨wx, rfl⟩ := Past.ofd hx) | (obtain ⟨wx, rfl⟩ := Past.of hx))))
      go_ret2
      exact ⟨by simp [wdV, wdC, h1, h2], (by repeat (first | with_reducible exact Ext.refl _ | with_reducible assumption | with_reducible refine Ext.alloc ?_ _ | with_reducible refine Ext.drew ?_ | (with_reducible refine Ext.setAt ?_ _ _ _ ?_; rotate_left; omega) | with_reducible refine Ext.trans ?_ (by assumption) | with_reducible exact Past.bel _ | with_reducible refine Ext.trans ?_ (Past.bel _)))⟩
    · have H1 := Lib.hid h1; have H2 := Lib.hid h2
      cases h3 : inB f 1 wk
      · go_enter Try.func25, Try.ntmps25
        go_wp2_with (first | (go_at_call 21; ((with_reducible refine (implDayOf_yes wk H1.out H2.out (H.out.ext (by repeat (first | with_reducible exact Ext.refl _ | with_reducible assumption | with_reducible refine Ext.alloc ?_ _ | with_reducible refine Ext.drew ?_ | (with_reducible refine Ext.setAt ?_ _ _ _ ?_; rotate_left; omega) | with_reducible refine Ext.trans ?_ (by assumption) | with_reducible exact Past.bel _ | with_reducible refine Ext.trans ?_ (Past.bel _))))).mono ?_); rintro e w' ⟨rfl, hx⟩; (first | (obtain ⟨wx, rfl⟩ := Past.again hx) | (obtain ⟨wx, rfl⟩ := Past.ofd hx) | (obtain ⟨wx, rfl⟩ := Past.of hx)))) | (go_at_call 54; ((with_reducible refine (within_c _ _ _ _).mono ?_); rintro e w' ⟨rfl, rfl⟩)))
        go_ret2
        exact ⟨by simp [wdV, wdC, h1, h2, h3], (by repeat (first | with_reducible exact Ext.refl _ | with_reducible assumption | with_reducible refine Ext.alloc ?_ _ | with_reducible refine Ext.drew ?_ | (with_reducible refine Ext.setAt ?_ _ _ _ ?_; rotate_left; omega) | with_reducible refine Ext.trans ?_ (by assumption) | with_reducible exact Past.bel _ | with_reducible refine Ext.trans ?_ (Past.bel _)))⟩
      · have b1 := dnum_bd B.out h2
        have hl := B.out.last
        have f1 := inB_t.1 h3
        obtain ⟨N, hN⟩ : ∃ N, N = dnum c y m d := ⟨_, rfl⟩
        have b2 : 0 ≤ N ∧ N ≤ 12000000 := by omega
        have t1 : (N + f - 1).tmod wk = (N + f - 1) % wk := by rw [Int.tmod_eq_emod_of_nonneg (by omega)]
        have t2 := Int.emod_nonneg (N + f - 1) (show wk ≠ 0 by omega)
        have t3 := Int.emod_lt_of_pos (N + f - 1) (show 0 < wk by omega)
        have HN := Lib.hid hN
        have HD := Lib.hid (fun W (hq : Ext w W) => (hN ▸ implDayOf_yes wk h1 h2 (H.out.ext hq) : Calls Try.prog 21 _ W fun e w' => e = .returned (.tuple #[.int .i64 N, .int .i64 0]) ∧ Ext W w'))
        clear hN b1 hl
        go_enter Try.func25, Try.ntmps25
        go_wp2_with (first | (go_at_call 21; ((with_reducible refine (HD.out _ (by repeat (first | with_reducible exact Ext.refl _ | with_reducible assumption | with_reducible refine Ext.alloc ?_ _ | with_reducible refine Ext.drew ?_ | (with_reducible refine Ext.setAt ?_ _ _ _ ?_; rotate_left; omega) | with_reducible refine Ext.trans ?_ (by assumption) | with_reducible exact Past.bel _ | with_reducible refine Ext.trans ?_ (Past.bel _)))).mono ?_); rintro e w' ⟨rfl, hx⟩; (first | (obtain ⟨wx, rfl⟩ := Past.again hx) | (obtain ⟨wx, rfl⟩ := Past.ofd hx) | (obtain ⟨wx, rfl⟩ := Past.of hx)))) | (go_at_call 54; ((with_reducible refine (within_c _ _ _ _).mono ?_); rintro e w' ⟨rfl, rfl⟩)))
        go_ret2
        exact ⟨by rw [HN.out]; simp [wdV, wdC, h1, h2, h3], (by repeat (first | with_reducible exact Ext.refl _ | with_reducible assumption | with_reducible refine Ext.alloc ?_ _ | with_reducible refine Ext.drew ?_ | (with_reducible refine Ext.setAt ?_ _ _ _ ?_; rotate_left; omega) | with_reducible refine Ext.trans ?_ (by assumption) | with_reducible exact Past.bel _ | with_reducible refine Ext.trans ?_ (Past.bel _)))⟩
set_option maxHeartbeats 2000000 in
theorem specWeekdayOf_c (wk y m d f : Int) (hf : -9223372036854775808 ≤ f ∧ f ≤ 9223372036854775807) (h : CalV w s ma ra mc rc nm c) :
    Calls Try.prog 24 #[.agg #[.string s, .slice ma c.n mc, .slice ra c.nr rc, .int .i64 wk], .agg #[.int .i64 y, .int .i64 m, .int .i64 d], .int .i64 f] w fun e w' => e = .returned (.tuple #[.int .i64 (wdV s nm c wk y m d f), .int .i64 (wdC s nm c wk y m d f)]) ∧ Ext w w' := by
  have H := Lib.hid (CalQ.new 32 wk h)
  clear h
  cases h1 : calB s nm c wk
  · go_enter Try.func24, Try.ntmps24
    go_wp2_with (go_at_call 38; ((with_reducible refine (l15Ok_q (H.out.ext (by repeat (first | with_reducible exact Ext.refl _ | with_reducible assumption | with_reducible refine Ext.alloc ?_ _ | with_reducible refine Ext.drew ?_ | (with_reducible refine Ext.setAt ?_ _ _ _ ?_; rotate_left; omega) | with_reducible refine Ext.trans ?_ (by assumption) | with_reducible exact Past.bel _ | with_reducible refine Ext.trans ?_ (Past.bel _))))).mono ?_); rintro e w' ⟨rfl, hx⟩; (first | (obtain ⟨wx, rfl⟩ := Past.again hx) | (obtain ⟨wx, rfl⟩ := Past.ofd hx) | (obtain ⟨wx, rfl⟩ := Past.of hx))))
    go_ret2
    exact ⟨by simp [wdV, wdC, h1], (by repeat (first | with_reducible exact Ext.refl _ | with_reducible assumption | with_reducible refine Ext.alloc ?_ _ | with_reducible refine Ext.drew ?_ | (with_reducible refine Ext.setAt ?_ _ _ _ ?_; rotate_left; omega) | with_reducible refine Ext.trans ?_ (by assumption) | with_reducible exact Past.bel _ | with_reducible refine Ext.trans ?_ (Past.bel _)))⟩
  · have B := Lib.hid (calB_b h1)
    have hw := calB_w h1
    cases h2 : dtB c y m d
    · go_enter Try.func24, Try.ntmps24
      go_wp2_with (first | (go_at_call 38; ((with_reducible refine (l15Ok_q (H.out.ext (by repeat (first | with_reducible exact Ext.refl _ | with_reducible assumption | with_reducible refine Ext.alloc ?_ _ | with_reducible refine Ext.drew ?_ | (with_reducible refine Ext.setAt ?_ _ _ _ ?_; rotate_left; omega) | with_reducible refine Ext.trans ?_ (by assumption) | with_reducible exact Past.bel _ | with_reducible refine Ext.trans ?_ (Past.bel _))))).mono ?_); rintro e w' ⟨rfl, hx⟩; (first | (obtain ⟨wx, rfl⟩ := Past.again hx) | (obtain ⟨wx, rfl⟩ := Past.ofd hx) | (obtain ⟨wx, rfl⟩ := Past.of hx)))) | (go_at_call 49; ((with_reducible refine (l16Ok_e B.out (H.out.ext (by repeat (first | with_reducible exact Ext.refl _ | with_reducible assumption | with_reducible refine Ext.alloc ?_ _ | with_reducible refine Ext.drew ?_ | (with_reducible refine Ext.setAt ?_ _ _ _ ?_; rotate_left; omega) | with_reducible refine Ext.trans ?_ (by assumption) | with_reducible exact Past.bel _ | with_reducible refine Ext.trans ?_ (Past.bel _)))) h2).mono ?_); rintro e w' ⟨rfl, hx⟩; (first | (obtain ⟨wx, rfl⟩ := Past.again hx) | (obtain ⟨wx, rfl⟩ := Past.ofd hx) | (obtain ⟨wx, rfl⟩ := Past.of hx)))))
      go_ret2
      exact ⟨by simp [wdV, wdC, h1, h2], (by repeat (first | with_reducible exact Ext.refl _ | with_reducible assumption | with_reducible refine Ext.alloc ?_ _ | with_reducible refine Ext.drew ?_ | (with_reducible refine Ext.setAt ?_ _ _ _ ?_; rotate_left; omega) | with_reducible refine Ext.trans ?_ (by assumption) | with_reducible exact Past.bel _ | with_reducible refine Ext.trans ?_ (Past.bel _)))⟩
    · have H1 := Lib.hid h1; have H2 := Lib.hid h2
      cases h3 : inB f 1 wk
      · go_enter Try.func24, Try.ntmps24
        go_wp2_with (first | (go_at_call 38; ((with_reducible refine (l15Ok_q (H.out.ext (by repeat (first | with_reducible exact Ext.refl _ | with_reducible assumption | with_reducible refine Ext.alloc ?_ _ | with_reducible refine Ext.drew ?_ | (with_reducible refine Ext.setAt ?_ _ _ _ ?_; rotate_left; omega) | with_reducible refine Ext.trans ?_ (by assumption) | with_reducible exact Past.bel _ | with_reducible refine Ext.trans ?_ (Past.bel _))))).mono ?_); rintro e w' ⟨rfl, hx⟩; (first | (obtain ⟨wx, rfl⟩ := Past.again hx) | (obtain ⟨wx, rfl⟩ := Past.ofd hx) | (obtain ⟨wx, rfl⟩ := Past.of hx)))) | (go_at_call 49; ((with_reducible refine (l16Ok_e B.out (H.out.ext (by repeat (first | with_reducible exact Ext.refl _ | with_reducible assumption | with_reducible refine Ext.alloc ?_ _ | with_reducible refine Ext.drew ?_ | (with_reducible refine Ext.setAt ?_ _ _ _ ?_; rotate_left; omega) | with_reducible refine Ext.trans ?_ (by assumption) | with_reducible exact Past.bel _ | with_reducible refine Ext.trans ?_ (Past.bel _)))) H2.out).mono ?_); rintro e w' ⟨rfl, hx⟩; (first | (obtain ⟨wx, rfl⟩ := Past.again hx) | (obtain ⟨wx, rfl⟩ := Past.ofd hx) | (obtain ⟨wx, rfl⟩ := Past.of hx)))) | (go_at_call 53; ((with_reducible refine (l00In_c _ _ _ _).mono ?_); rintro e w' ⟨rfl, rfl⟩)))
        go_ret2
        exact ⟨by simp [wdV, wdC, h1, h2, h3], (by repeat (first | with_reducible exact Ext.refl _ | with_reducible assumption | with_reducible refine Ext.alloc ?_ _ | with_reducible refine Ext.drew ?_ | (with_reducible refine Ext.setAt ?_ _ _ _ ?_; rotate_left; omega) | with_reducible refine Ext.trans ?_ (by assumption) | with_reducible exact Past.bel _ | with_reducible refine Ext.trans ?_ (Past.bel _)))⟩
      · have b1 := dnum_bd B.out h2
        have hl := B.out.last
        have f1 := inB_t.1 h3
        obtain ⟨N, hN⟩ : ∃ N, N = dnum c y m d := ⟨_, rfl⟩
        have b2 : 0 ≤ N ∧ N ≤ 12000000 := by omega
        have t1 : (N + f - 1).tmod wk = (N + f - 1) % wk := by rw [Int.tmod_eq_emod_of_nonneg (by omega)]
        have t2 := Int.emod_nonneg (N + f - 1) (show wk ≠ 0 by omega)
        have t3 := Int.emod_lt_of_pos (N + f - 1) (show 0 < wk by omega)
        have w1 := IntWalk.i64_in (N + f) (by omega)
        have w2 := IntWalk.i64_in (N + f - 1) (by omega)
        have w3 := IntWalk.i64_in ((N + f - 1) % wk) (by omega)
        have w4 := IntWalk.i64_in ((N + f - 1) % wk + 1) (by omega)
        have w0 : (wk == 0) = false := by simp; omega
        have HN := Lib.hid hN
        have HD := Lib.hid (fun W (hq : Ext _ W) => (hN ▸ l16Day_i B.out (H.out.ext hq) h2 : Calls Try.prog 50 _ W fun e w' => e = .returned (.int .i64 N) ∧ Ext W w'))
        clear hN b1 hl
        go_enter Try.func24, Try.ntmps24
        go_wp2_with (first | (go_at_call 38; ((with_reducible refine (l15Ok_q (H.out.ext (by repeat (first | with_reducible exact Ext.refl _ | with_reducible assumption | with_reducible refine Ext.alloc ?_ _ | with_reducible refine Ext.drew ?_ | (with_reducible refine Ext.setAt ?_ _ _ _ ?_; rotate_left; omega) | with_reducible refine Ext.trans ?_ (by assumption) | with_reducible exact Past.bel _ | with_reducible refine Ext.trans ?_ (Past.bel _))))).mono ?_); rintro e w' ⟨rfl, hx⟩; (first | (obtain ⟨wx, rfl⟩ := Past.again hx) | (obtain ⟨wx, rfl⟩ := Past.ofd hx) | (obtain ⟨wx, rfl⟩ := Past.of hx)))) | (go_at_call 49; ((with_reducible refine (l16Ok_e B.out (H.out.ext (by repeat (first | with_reducible exact Ext.refl _ | with_reducible assumption | with_reducible refine Ext.alloc ?_ _ | with_reducible refine Ext.drew ?_ | (with_reducible refine Ext.setAt ?_ _ _ _ ?_; rotate_left; omega) | with_reducible refine Ext.trans ?_ (by assumption) | with_reducible exact Past.bel _ | with_reducible refine Ext.trans ?_ (Past.bel _)))) H2.out).mono ?_); rintro e w' ⟨rfl, hx⟩; (first | (obtain ⟨wx, rfl⟩ := Past.again hx) | (obtain ⟨wx, rfl⟩ := Past.ofd hx) | (obtain ⟨wx, rfl⟩ := Past.of hx)))) | (go_at_call 53; ((with_reducible refine (l00In_c _ _ _ _).mono ?_); rintro e w' ⟨rfl, rfl⟩)))
        have hz := wx.bel.size
        simp only [World.size_alloc] at hz
        have g0 : w.heap.size < wx.out.heap.size := by omega
        have g1 : w.heap.size + 1 < wx.out.heap.size := by omega
        refine wp_region_past (by kernel_rfl) (by kernel_rfl) ?_
        repeat (go_big_quiet_step ((go_at_call 50; exact Calls.past (HD.out _ (by repeat (first | with_reducible exact Ext.refl _ | with_reducible assumption | with_reducible refine Ext.alloc ?_ _ | with_reducible refine Ext.drew ?_ | (with_reducible refine Ext.setAt ?_ _ _ _ ?_; rotate_left; omega) | with_reducible refine Ext.trans ?_ (by assumption) | with_reducible exact Past.bel _ | with_reducible refine Ext.trans ?_ (Past.bel _)))))))
        refine wpQuiet_nil ?_
        rintro _ ⟨wx, rfl⟩
        clear w1 w2 w3 w4 t1
        go_wp2_with fail
        go_ret2
        exact ⟨by rw [HN.out]; simp [wdV, wdC, h1, h2, h3], (by repeat (first | with_reducible exact Ext.refl _ | with_reducible assumption | with_reducible refine Ext.alloc ?_ _ | with_reducible refine Ext.drew ?_ | (with_reducible refine Ext.setAt ?_ _ _ _ ?_; rotate_left; omega) | with_reducible refine Ext.trans ?_ (by assumption) | with_reducible exact Past.bel _ | with_reducible refine Ext.trans ?_ (Past.bel _)))⟩
end
end Go.Proofs.Ytggkemiklknmkaa

namespace Go.Proofs.Ytggkemiklknmkaa
set_option linter.unusedVariables false
/-- a date as a result: that of number x where 'ok', else none -/
structure DtR (c : CalN) (ok : Bool) (x Y M d : Int) : Prop where
  yes : ok = true → ∃ Y' M' : Nat, Y = (Y' : Int) ∧ M = (M' : Int) + 1 ∧ Loc c x Y' M' d ∧ Y' ≤ 9999
  no : ok = false → Y = 0 ∧ M = 0 ∧ d = 0
theorem DtR.mk' {c : CalN} {ok : Bool} {x : Int} (h : ok = true → CalB c ∧ 0 ≤ x ∧ x < c.bef 10000) : ∃ Y M d, DtR c ok x Y M d := by
  cases ok
  · exact ⟨0, 0, 0, ⟨(fun e => by cases e), fun _ => ⟨rfl, rfl, rfl⟩⟩⟩
  · obtain ⟨b, h0, h1⟩ := h rfl
    obtain ⟨y, m, d, hy, hl⟩ := Loc.ex b h0 h1
    exact ⟨_, _, d, ⟨fun _ => ⟨y, m, rfl, rfl, hl, by omega⟩, (fun e => by cases e)⟩⟩
section
variable (s : ByteArray) (nm : Nat → ByteArray) (c : CalN) (wk : Int)
def dcC (x : Int) : Int := if calB s nm c wk then (if inB x 0 (c.bef 10000 - 1) then 0 else 2) else 1
def adB (y m d k : Int) : Bool := dtB c y m d && inB (dnum c y m d + k) 0 (c.bef 10000 - 1)
def adC (y m d k : Int) : Int := if calB s nm c wk then (if adB c y m d k then 0 else 2) else 1
def cvB (c2 : CalN) (y m d k : Int) : Bool := dtB c y m d && inB (dnum c y m d + k) 0 (c2.bef 10000 - 1)
def cvC (s2 : ByteArray) (nm2 : Nat → ByteArray) (c2 : CalN) (wk2 : Int) (y m d k : Int) : Int := if calB s nm c wk && calB s2 nm2 c2 wk2 then (if cvB c c2 y m d k then 0 else 2) else 1
end
/-- a number of days too far -/
def farB (k : Int) : Bool := !inB k (-20000000) 20000000
theorem far_no {c c2 : CalN} (b : CalB c) (b2 : CalB c2) {y m d k : Int} (h : dtB c y m d = true) (hf : farB k = true) : inB (dnum c y m d + k) 0 (c2.bef 10000 - 1) = false := by
  have h1 := dnum_bd b h
  have h2 := b.last
  have h3 := b2.last
  have h4 : inB k (-20000000) 20000000 = false := by simpa [farB] using hf
  have h5 := inB_f.1 h4
  rw [inB_f]; omega
theorem sh_in {n k L : Int} : inB k (-n) (L - 1 - n) = inB (n + k) 0 (L - 1) := by
  rw [Bool.eq_iff_iff, inB_t, inB_t]; omega
end Go.Proofs.Ytggkemiklknmkaa

namespace Go.Proofs.Ytggkemiklknmkaa
open Go.RowKit
set_option linter.unusedVariables false
set_option linter.unusedSimpArgs false

theorem l16Code_t (y m d : Int) (w : World) : Calls Try.prog 55 #[.agg #[.int .i64 y, .int .i64 m, .int .i64 d], .bool true] w fun e w' => e = .returned (.tuple #[.agg #[.int .i64 y, .int .i64 m, .int .i64 d], .int .i64 0]) ∧ Ext w w' := by
  go_enter Try.func55, Try.ntmps55
  go_wp2_with fail
  exact bodyPost_ret (v := .tuple #[.agg #[.int .i64 y, .int .i64 m, .int .i64 d], .int .i64 0]) (by simp [results, Try.results55, go_sem]) rfl ⟨rfl, (by repeat (first | with_reducible exact Ext.refl _ | with_reducible assumption | with_reducible refine Ext.alloc ?_ _ | with_reducible refine Ext.drew ?_ | (with_reducible refine Ext.setAt ?_ _ _ _ ?_; rotate_left; omega) | with_reducible refine Ext.trans ?_ (by assumption) | with_reducible exact Past.bel _ | with_reducible refine Ext.trans ?_ (Past.bel _)))⟩
theorem l16Code_f (y m d : Int) (w : World) : Calls Try.prog 55 #[.agg #[.int .i64 y, .int .i64 m, .int .i64 d], .bool false] w fun e w' => e = .returned (.tuple #[.agg #[.int .i64 0, .int .i64 0, .int .i64 0], .int .i64 2]) ∧ Ext w w' := by
  go_enter Try.func55, Try.ntmps55
  go_wp2_with fail
  exact bodyPost_ret (v := .tuple #[.agg #[.int .i64 0, .int .i64 0, .int .i64 0], .int .i64 2]) (by simp [results, Try.results55, go_sem]) rfl ⟨rfl, (by repeat (first | with_reducible exact Ext.refl _ | with_reducible assumption | with_reducible refine Ext.alloc ?_ _ | with_reducible refine Ext.drew ?_ | (with_reducible refine Ext.setAt ?_ _ _ _ ?_; rotate_left; omega) | with_reducible refine Ext.trans ?_ (by assumption) | with_reducible exact Past.bel _ | with_reducible refine Ext.trans ?_ (Past.bel _)))⟩
theorem l16Far_c (k : Int) (w : World) : Calls Try.prog 60 #[.int .i64 k] w fun e w' => e = .returned (.bool (farB k)) ∧ w = w' := by
  cases h : inB k (-20000000) 20000000
  all_goals
    go_enter Try.func60, Try.ntmps60
    go_wp2_with (go_at_call 53; ((with_reducible refine (l00In_c _ _ _ _).mono ?_); rintro e w' ⟨rfl, rfl⟩))
    go_ret
    exact ⟨ret_bool (by simp [farB, h]), rfl⟩
section
variable {g : Nat} {s : ByteArray} {ma ra : Option Addr} {mc rc : Nat} {wk : Int} {nm : Nat → ByteArray} {c : CalN} {w : World}
theorem l16Date_t (b : CalB c) (h : CalQ w g s ma ra mc rc wk nm c) {x Y M d : Int} (hx : inB x 0 (c.bef 10000 - 1) = true) (r : DtR c true x Y M d) :
    Calls Try.prog 56 #[.pointer (some ⟨g, 0, none⟩), .int .i64 x] w fun e w' => e = .returned (.tuple #[.agg #[.int .i64 Y, .int .i64 M, .int .i64 d], .bool true]) ∧ Ext w w' := by
  obtain ⟨Y', M', rfl, rfl, l, hY⟩ := r.yes rfl
  exact l16Date_yes b h hx l
theorem dateOf_i (b : CalB c) (h : CalV w s ma ra mc rc nm c) {x Y M d : Int} (r : DtR c true x Y M d) :
    Calls Try.prog 57 #[.agg #[.string s, .slice ma c.n mc, .slice ra c.nr rc, .int .i64 wk], .int .i64 x] w fun e w' => e = .returned (.agg #[.int .i64 Y, .int .i64 M, .int .i64 d]) ∧ Ext w w' := by
  obtain ⟨Y', M', rfl, rfl, l, hY⟩ := r.yes rfl
  exact dateOf_v b h l hY
set_option maxHeartbeats 1000000 in
theorem specDateOf_c (wk x : Int) (h : CalV w s ma ra mc rc nm c) {Y M d : Int} (r : DtR c (calB s nm c wk && inB x 0 (c.bef 10000 - 1)) x Y M d) :
    Calls Try.prog 26 #[.agg #[.string s, .slice ma c.n mc, .slice ra c.nr rc, .int .i64 wk], .int .i64 x] w fun e w' => e = .returned (.tuple #[.agg #[.int .i64 Y, .int .i64 M, .int .i64 d], .int .i64 (dcC s nm c wk x)]) ∧ Ext w w' := by
  have H := Lib.hid (CalQ.new 32 wk h)
  clear h
  cases h1 : calB s nm c wk
  · rw [h1] at r
    obtain ⟨rfl, rfl, rfl⟩ := r.no rfl
    clear r
    go_enter Try.func26, Try.ntmps26
    go_wp2_with (go_at_call 38; ((with_reducible refine (l15Ok_q (H.out.ext (by repeat (first | with_reducible exact Ext.refl _ | with_reducible assumption | with_reducible refine Ext.alloc ?_ _ | with_reducible refine Ext.drew ?_ | (with_reducible refine Ext.setAt ?_ _ _ _ ?_; rotate_left; omega) | with_reducible refine Ext.trans ?_ (by assumption) | with_reducible exact Past.bel _ | with_reducible refine Ext.trans ?_ (Past.bel _))))).mono ?_); rintro e w' ⟨rfl, hx⟩; (first | (obtain ⟨wx, rfl⟩ := Past.again hx) | (obtain ⟨wx, rfl⟩ := Past.ofd hx) | (obtain ⟨wx, rfl⟩ := Past.of hx))))
    exact bodyPost_ret (v := .tuple #[.agg #[.int .i64 0, .int .i64 0, .int .i64 0], .int .i64 1]) (by simp [results, Try.results26, go_sem]) rfl ⟨by simp [dcC, h1], (by repeat (first | with_reducible exact Ext.refl _ | with_reducible assumption | with_reducible refine Ext.alloc ?_ _ | with_reducible refine Ext.drew ?_ | (with_reducible refine Ext.setAt ?_ _ _ _ ?_; rotate_left; omega) | with_reducible refine Ext.trans ?_ (by assumption) | with_reducible exact Past.bel _ | with_reducible refine Ext.trans ?_ (Past.bel _)))⟩
  · have B := Lib.hid (calB_b h1)
    cases h2 : inB x 0 (c.bef 10000 - 1)
    · rw [h1, h2] at r
      obtain ⟨rfl, rfl, rfl⟩ := r.no rfl
      have H2 := Lib.hid h2
      have hc : dcC s nm c wk x = 2 := by simp [dcC, h1, h2]
      have HC := Lib.hid hc
      clear r h2 hc
      go_enter Try.func26, Try.ntmps26
      go_wp2_with (first | (go_at_call 38; ((with_reducible refine (l15Ok_q (H.out.ext (by repeat (first | with_reducible exact Ext.refl _ | with_reducible assumption | with_reducible refine Ext.alloc ?_ _ | with_reducible refine Ext.drew ?_ | (with_reducible refine Ext.setAt ?_ _ _ _ ?_; rotate_left; omega) | with_reducible refine Ext.trans ?_ (by assumption) | with_reducible exact Past.bel _ | with_reducible refine Ext.trans ?_ (Past.bel _))))).mono ?_); rintro e w' ⟨rfl, hx⟩; (first | (obtain ⟨wx, rfl⟩ := Past.again hx) | (obtain ⟨wx, rfl⟩ := Past.ofd hx) | (obtain ⟨wx, rfl⟩ := Past.of hx)))) | (go_at_call 56; ((with_reducible refine (l16Date_no B.out (H.out.ext (by repeat (first | with_reducible exact Ext.refl _ | with_reducible assumption | with_reducible refine Ext.alloc ?_ _ | with_reducible refine Ext.drew ?_ | (with_reducible refine Ext.setAt ?_ _ _ _ ?_; rotate_left; omega) | with_reducible refine Ext.trans ?_ (by assumption) | with_reducible exact Past.bel _ | with_reducible refine Ext.trans ?_ (Past.bel _)))) H2.out).mono ?_); rintro e w' ⟨rfl, hx⟩; (first | (obtain ⟨wx, rfl⟩ := Past.again hx) | (obtain ⟨wx, rfl⟩ := Past.ofd hx) | (obtain ⟨wx, rfl⟩ := Past.of hx)))) | (go_at_call 55; ((with_reducible refine (l16Code_f _ _ _ _).mono ?_); rintro e w' ⟨rfl, hx⟩; (first | (obtain ⟨wx, rfl⟩ := Past.again hx) | (obtain ⟨wx, rfl⟩ := Past.ofd hx) | (obtain ⟨wx, rfl⟩ := Past.of hx)))))
      exact bodyPost_ret (v := .tuple #[.agg #[.int .i64 0, .int .i64 0, .int .i64 0], .int .i64 2]) (by simp [results, Try.results26, go_sem]) rfl ⟨by rw [HC.out], (by repeat (first | with_reducible exact Ext.refl _ | with_reducible assumption | with_reducible refine Ext.alloc ?_ _ | with_reducible refine Ext.drew ?_ | (with_reducible refine Ext.setAt ?_ _ _ _ ?_; rotate_left; omega) | with_reducible refine Ext.trans ?_ (by assumption) | with_reducible exact Past.bel _ | with_reducible refine Ext.trans ?_ (Past.bel _)))⟩
    · rw [h1, h2] at r
      have RR := Lib.hid (show DtR c true x Y M d from r)
      have H2 := Lib.hid h2
      have hc : dcC s nm c wk x = 0 := by simp [dcC, h1, h2]
      have HC := Lib.hid hc
      clear r h2 hc
      go_enter Try.func26, Try.ntmps26
      go_wp2_with (first | (go_at_call 38; ((with_reducible refine (l15Ok_q (H.out.ext (by repeat (first | with_reducible exact Ext.refl _ | with_reducible assumption | with_reducible refine Ext.alloc ?_ _ | with_reducible refine Ext.drew ?_ | (with_reducible refine Ext.setAt ?_ _ _ _ ?_; rotate_left; omega) | with_reducible refine Ext.trans ?_ (by assumption) | with_reducible exact Past.bel _ | with_reducible refine Ext.trans ?_ (Past.bel _))))).mono ?_); rintro e w' ⟨rfl, hx⟩; (first | (obtain ⟨wx, rfl⟩ := Past.again hx) | (obtain ⟨wx, rfl⟩ := Past.ofd hx) | (obtain ⟨wx, rfl⟩ := Past.of hx)))) | (go_at_call 56; ((with_reducible refine (l16Date_t B.out (H.out.ext (by repeat (first | with_reducible exact Ext.refl _ | with_reducible assumption | with_reducible refine Ext.alloc ?_ _ | with_reducible refine Ext.drew ?_ | (with_reducible refine Ext.setAt ?_ _ _ _ ?_; rotate_left; omega) | with_reducible refine Ext.trans ?_ (by assumption) | with_reducible exact Past.bel _ | with_reducible refine Ext.trans ?_ (Past.bel _)))) H2.out RR.out).mono ?_); rintro e w' ⟨rfl, hx⟩; (first | (obtain ⟨wx, rfl⟩ := Past.again hx) | (obtain ⟨wx, rfl⟩ := Past.ofd hx) | (obtain ⟨wx, rfl⟩ := Past.of hx)))) | (go_at_call 55; ((with_reducible refine (l16Code_t _ _ _ _).mono ?_); rintro e w' ⟨rfl, hx⟩; (first | (obtain ⟨wx, rfl⟩ := Past.again hx) | (obtain ⟨wx, rfl⟩ := Past.ofd hx) | (obtain ⟨wx, rfl⟩ := Past.of hx)))))
      exact bodyPost_ret (v := .tuple #[.agg #[.int .i64 Y, .int .i64 M, .int .i64 d], .int .i64 0]) (by simp [results, Try.results26, go_sem]) rfl ⟨by rw [HC.out], (by repeat (first | with_reducible exact Ext.refl _ | with_reducible assumption | with_reducible refine Ext.alloc ?_ _ | with_reducible refine Ext.drew ?_ | (with_reducible refine Ext.setAt ?_ _ _ _ ?_; rotate_left; omega) | with_reducible refine Ext.trans ?_ (by assumption) | with_reducible exact Past.bel _ | with_reducible refine Ext.trans ?_ (Past.bel _)))⟩
set_option maxHeartbeats 1000000 in
theorem implDateOf_c (wk x : Int) (h : CalV w s ma ra mc rc nm c) {Y M d : Int} (r : DtR c (calB s nm c wk && inB x 0 (c.bef 10000 - 1)) x Y M d) :
    Calls Try.prog 27 #[.agg #[.string s, .slice ma c.n mc, .slice ra c.nr rc, .int .i64 wk], .int .i64 x] w fun e w' => e = .returned (.tuple #[.agg #[.int .i64 Y, .int .i64 M, .int .i64 d], .int .i64 (dcC s nm c wk x)]) ∧ Ext w w' := by
  have H := Lib.hid h
  clear h
  obtain ⟨L, hL⟩ : ∃ L, L = c.bef 10000 := ⟨_, rfl⟩
  cases h1 : calB s nm c wk
  · rw [h1] at r
    obtain ⟨rfl, rfl, rfl⟩ := r.no rfl
    clear r hL
    go_enter Try.func27, Try.ntmps27
    go_wp2_with (go_at_call 42; ((with_reducible refine (validCalendar_v wk (H.out.ext (by repeat (first | with_reducible exact Ext.refl _ | with_reducible assumption | with_reducible refine Ext.alloc ?_ _ | with_reducible refine Ext.drew ?_ | (with_reducible refine Ext.setAt ?_ _ _ _ ?_; rotate_left; omega) | with_reducible refine Ext.trans ?_ (by assumption) | with_reducible exact Past.bel _ | with_reducible refine Ext.trans ?_ (Past.bel _))))).mono ?_); rintro e w' ⟨rfl, hx⟩; (first | (obtain ⟨wx, rfl⟩ := Past.again hx) | (obtain ⟨wx, rfl⟩ := Past.ofd hx) | (obtain ⟨wx, rfl⟩ := Past.of hx))))
    exact bodyPost_ret (v := .tuple #[.agg #[.int .i64 0, .int .i64 0, .int .i64 0], .int .i64 1]) (by simp [results, Try.results27, go_sem]) rfl ⟨by simp [dcC, h1], (by repeat (first | with_reducible exact Ext.refl _ | with_reducible assumption | with_reducible refine Ext.alloc ?_ _ | with_reducible refine Ext.drew ?_ | (with_reducible refine Ext.setAt ?_ _ _ _ ?_; rotate_left; omega) | with_reducible refine Ext.trans ?_ (by assumption) | with_reducible exact Past.bel _ | with_reducible refine Ext.trans ?_ (Past.bel _)))⟩
  · have B := Lib.hid (calB_b h1)
    have HLD := Lib.hid (fun W (hq : Ext w W) => (hL ▸ lastDay_v (wk := wk) B.out (H.out.ext hq) : Calls Try.prog 48 #[.agg #[.string s, .slice ma c.n mc, .slice ra c.nr rc, .int .i64 wk]] W fun e w' => e = .returned (.int .i64 (L - 1)) ∧ Ext W w'))
    rw [h1, ← hL] at r
    have hcc : dcC s nm c wk x = if inB x 0 (L - 1) then 0 else 2 := by rw [dcC, h1, hL]; rfl
    have HC := Lib.hid hcc
    clear hL hcc
    cases h2 : inB x 0 (L - 1)
    · rw [h2] at r HC
      obtain ⟨rfl, rfl, rfl⟩ := r.no rfl
      clear r
      go_enter Try.func27, Try.ntmps27
      go_wp2_with (first | (go_at_call 42; ((with_reducible refine (validCalendar_v wk (H.out.ext (by repeat (first | with_reducible exact Ext.refl _ | with_reducible assumption | with_reducible refine Ext.alloc ?_ _ | with_reducible refine Ext.drew ?_ | (with_reducible refine Ext.setAt ?_ _ _ _ ?_; rotate_left; omega) | with_reducible refine Ext.trans ?_ (by assumption) | with_reducible exact Past.bel _ | with_reducible refine Ext.trans ?_ (Past.bel _))))).mono ?_); rintro e w' ⟨rfl, hx⟩; (first | (obtain ⟨wx, rfl⟩ := Past.again hx) | (obtain ⟨wx, rfl⟩ := Past.ofd hx) | (obtain ⟨wx, rfl⟩ := Past.of hx)))) | (go_at_call 48; ((with_reducible refine (HLD.out _ (by repeat (first | with_reducible exact Ext.refl _ | with_reducible assumption | with_reducible refine Ext.alloc ?_ _ | with_reducible refine Ext.drew ?_ | (with_reducible refine Ext.setAt ?_ _ _ _ ?_; rotate_left; omega) | with_reducible refine Ext.trans ?_ (by assumption) | with_reducible exact Past.bel _ | with_reducible refine Ext.trans ?_ (Past.bel _)))).mono ?_); rintro e w' ⟨rfl, hx⟩; (first | (obtain ⟨wx, rfl⟩ := Past.again hx) | (obtain ⟨wx, rfl⟩ := Past.ofd hx) | (obtain ⟨wx, rfl⟩ := Past.of hx)))) | (go_at_call 54; ((with_reducible refine (within_c _ _ _ _).mono ?_); rintro e w' ⟨rfl, rfl⟩)))
      exact bodyPost_ret (v := .tuple #[.agg #[.int .i64 0, .int .i64 0, .int .i64 0], .int .i64 2]) (by simp [results, Try.results27, go_sem]) rfl ⟨by rw [HC.out]; rfl, (by repeat (first | with_reducible exact Ext.refl _ | with_reducible assumption | with_reducible refine Ext.alloc ?_ _ | with_reducible refine Ext.drew ?_ | (with_reducible refine Ext.setAt ?_ _ _ _ ?_; rotate_left; omega) | with_reducible refine Ext.trans ?_ (by assumption) | with_reducible exact Past.bel _ | with_reducible refine Ext.trans ?_ (Past.bel _)))⟩
    · rw [h2] at r HC
      have RR := Lib.hid (show DtR c true x Y M d from r)
      clear r
      go_enter Try.func27, Try.ntmps27
      go_wp2_with (first | (go_at_call 42; ((with_reducible refine (validCalendar_v wk (H.out.ext (by repeat (first | with_reducible exact Ext.refl _ | with_reducible assumption | with_reducible refine Ext.alloc ?_ _ | with_reducible refine Ext.drew ?_ | (with_reducible refine Ext.setAt ?_ _ _ _ ?_; rotate_left; omega) | with_reducible refine Ext.trans ?_ (by assumption) | with_reducible exact Past.bel _ | with_reducible refine Ext.trans ?_ (Past.bel _))))).mono ?_); rintro e w' ⟨rfl, hx⟩; (first | (obtain ⟨wx, rfl⟩ := Past.again hx) | (obtain ⟨wx, rfl⟩ := Past.ofd hx) | (obtain ⟨wx, rfl⟩ := Past.of hx)))) | (go_at_call 48; ((with_reducible refine (HLD.out _ (by repeat (first | with_reducible exact Ext.refl _ | with_reducible assumption | with_reducible refine Ext.alloc ?_ _ | with_reducible refine Ext.drew ?_ | (with_reducible refine Ext.setAt ?_ _ _ _ ?_; rotate_left; omega) | with_reducible refine Ext.trans ?_ (by assumption) | with_reducible exact Past.bel _ | with_reducible refine Ext.trans ?_ (Past.bel _)))).mono ?_); rintro e w' ⟨rfl, hx⟩; (first | (obtain ⟨wx, rfl⟩ := Past.again hx) | (obtain ⟨wx, rfl⟩ := Past.ofd hx) | (obtain ⟨wx, rfl⟩ := Past.of hx)))) | (go_at_call 54; ((with_reducible refine (within_c _ _ _ _).mono ?_); rintro e w' ⟨rfl, rfl⟩)) | (go_at_call 57; ((with_reducible refine (dateOf_i B.out (H.out.ext (by repeat (first | with_reducible exact Ext.refl _ | with_reducible assumption | with_reducible refine Ext.alloc ?_ _ | with_reducible refine Ext.drew ?_ | (with_reducible refine Ext.setAt ?_ _ _ _ ?_; rotate_left; omega) | with_reducible refine Ext.trans ?_ (by assumption) | with_reducible exact Past.bel _ | with_reducible refine Ext.trans ?_ (Past.bel _)))) RR.out).mono ?_); rintro e w' ⟨rfl, hx⟩; (first | (obtain ⟨wx, rfl⟩ := Past.again hx) | (obtain ⟨wx, rfl⟩ := Past.ofd hx) | (obtain ⟨wx, rfl⟩ := Past.of hx)))))
      exact bodyPost_ret (v := .tuple #[.agg #[.int .i64 Y, .int .i64 M, .int .i64 d], .int .i64 0]) (by simp [results, Try.results27, go_sem]) rfl ⟨by rw [HC.out]; rfl, (by repeat (first | with_reducible exact Ext.refl _ | with_reducible assumption | with_reducible refine Ext.alloc ?_ _ | with_reducible refine Ext.drew ?_ | (with_reducible refine Ext.setAt ?_ _ _ _ ?_; rotate_left; omega) | with_reducible refine Ext.trans ?_ (by assumption) | with_reducible exact Past.bel _ | with_reducible refine Ext.trans ?_ (Past.bel _)))⟩
end
end Go.Proofs.Ytggkemiklknmkaa

namespace Go.Proofs.Ytggkemiklknmkaa
open Go.RowKit
set_option linter.unusedVariables false
set_option linter.unusedSimpArgs false

section
variable {g : Nat} {s : ByteArray} {ma ra : Option Addr} {mc rc : Nat} {wk : Int} {nm : Nat → ByteArray} {c : CalN} {w : World}
set_option maxHeartbeats 1000000 in
theorem shifted_f (b : CalB c) (h : CalV w s ma ra mc rc nm c) {N k : Int} (n0 : 0 ≤ N) (n1 : N ≤ 12000000) (hx : inB (N + k) 0 (c.bef 10000 - 1) = false) :
    Calls Try.prog 61 #[.agg #[.string s, .slice ma c.n mc, .slice ra c.nr rc, .int .i64 wk], .int .i64 N, .int .i64 k] w fun e w' => e = .returned (.tuple #[.agg #[.int .i64 0, .int .i64 0, .int .i64 0], .int .i64 2]) ∧ Ext w w' := by
  have hl := b.last
  obtain ⟨L, hL⟩ : ∃ L, L = c.bef 10000 := ⟨_, rfl⟩
  have HLD := Lib.hid (fun W (hq : Ext w W) => (hL ▸ lastDay_v (wk := wk) b (h.ext hq) : Calls Try.prog 48 #[.agg #[.string s, .slice ma c.n mc, .slice ra c.nr rc, .int .i64 wk]] W fun e w' => e = .returned (.int .i64 (L - 1)) ∧ Ext W w'))
  rw [← hL] at hx hl
  rw [← sh_in] at hx
  clear hL b h
  go_enter Try.func61, Try.ntmps61
  go_wp2_with (first | (go_at_call 48; ((with_reducible refine (HLD.out _ (by repeat (first | with_reducible exact Ext.refl _ | with_reducible assumption | with_reducible refine Ext.alloc ?_ _ | with_reducible refine Ext.drew ?_ | (with_reducible refine Ext.setAt ?_ _ _ _ ?_; rotate_left; omega) | with_reducible refine Ext.trans ?_ (by assumption) | with_reducible exact Past.bel _ | with_reducible refine Ext.trans ?_ (Past.bel _)))).mono ?_); rintro e w' ⟨rfl, hx⟩; (first | (obtain ⟨wx, rfl⟩ := Past.again hx) | (obtain ⟨wx, rfl⟩ := Past.ofd hx) | (obtain ⟨wx, rfl⟩ := Past.of hx)))) | (go_at_call 54; ((with_reducible refine (within_c _ _ _ _).mono ?_); rintro e w' ⟨rfl, rfl⟩)))
  exact bodyPost_ret (v := .tuple #[.agg #[.int .i64 0, .int .i64 0, .int .i64 0], .int .i64 2]) (by simp [results, Try.results61, go_sem]) rfl ⟨rfl, (by repeat (first | with_reducible exact Ext.refl _ | with_reducible assumption | with_reducible refine Ext.alloc ?_ _ | with_reducible refine Ext.drew ?_ | (with_reducible refine Ext.setAt ?_ _ _ _ ?_; rotate_left; omega) | with_reducible refine Ext.trans ?_ (by assumption) | with_reducible exact Past.bel _ | with_reducible refine Ext.trans ?_ (Past.bel _)))⟩
set_option maxHeartbeats 1000000 in
theorem shifted_t (b : CalB c) (h : CalV w s ma ra mc rc nm c) {N k : Int} (n0 : 0 ≤ N) (n1 : N ≤ 12000000) (hx : inB (N + k) 0 (c.bef 10000 - 1) = true) {Y M d : Int} (r : DtR c true (N + k) Y M d) :
    Calls Try.prog 61 #[.agg #[.string s, .slice ma c.n mc, .slice ra c.nr rc, .int .i64 wk], .int .i64 N, .int .i64 k] w fun e w' => e = .returned (.tuple #[.agg #[.int .i64 Y, .int .i64 M, .int .i64 d], .int .i64 0]) ∧ Ext w w' := by
  have hl := b.last
  have H := Lib.hid h
  have B := Lib.hid b
  have RR := Lib.hid r
  obtain ⟨L, hL⟩ : ∃ L, L = c.bef 10000 := ⟨_, rfl⟩
  have HLD := Lib.hid (fun W (hq : Ext w W) => (hL ▸ lastDay_v (wk := wk) b (h.ext hq) : Calls Try.prog 48 #[.agg #[.string s, .slice ma c.n mc, .slice ra c.nr rc, .int .i64 wk]] W fun e w' => e = .returned (.int .i64 (L - 1)) ∧ Ext W w'))
  rw [← hL] at hx hl
  have hx' := inB_t.1 hx
  rw [← sh_in] at hx
  clear hL b h r
  go_enter Try.func61, Try.ntmps61
  go_wp2_with (first | (go_at_call 48; ((with_reducible refine (HLD.out _ (by repeat (first | with_reducible exact Ext.refl _ | with_reducible assumption | with_reducible refine Ext.alloc ?_ _ | with_reducible refine Ext.drew ?_ | (with_reducible refine Ext.setAt ?_ _ _ _ ?_; rotate_left; omega) | with_reducible refine Ext.trans ?_ (by assumption) | with_reducible exact Past.bel _ | with_reducible refine Ext.trans ?_ (Past.bel _)))).mono ?_); rintro e w' ⟨rfl, hx⟩; (first | (obtain ⟨wx, rfl⟩ := Past.again hx) | (obtain ⟨wx, rfl⟩ := Past.ofd hx) | (obtain ⟨wx, rfl⟩ := Past.of hx)))) | (go_at_call 54; ((with_reducible refine (within_c _ _ _ _).mono ?_); rintro e w' ⟨rfl, rfl⟩)) | (go_at_call 57; ((with_reducible refine (dateOf_i B.out (H.out.ext (by repeat (first | with_reducible exact Ext.refl _ | with_reducible assumption | with_reducible refine Ext.alloc ?_ _ | with_reducible refine Ext.drew ?_ | (with_reducible refine Ext.setAt ?_ _ _ _ ?_; rotate_left; omega) | with_reducible refine Ext.trans ?_ (by assumption) | with_reducible exact Past.bel _ | with_reducible refine Ext.trans ?_ (Past.bel _)))) RR.out).mono ?_); rintro e w' ⟨rfl, hx⟩; (first | (obtain ⟨wx, rfl⟩ := Past.again hx) | (obtain ⟨wx, rfl⟩ := Past.ofd hx) | (obtain ⟨wx, rfl⟩ := Past.of hx)))))
  exact bodyPost_ret (v := .tuple #[.agg #[.int .i64 Y, .int .i64 M, .int .i64 d], .int .i64 0]) (by simp [results, Try.results61, go_sem]) rfl ⟨rfl, (by repeat (first | with_reducible exact Ext.refl _ | with_reducible assumption | with_reducible refine Ext.alloc ?_ _ | with_reducible refine Ext.drew ?_ | (with_reducible refine Ext.setAt ?_ _ _ _ ?_; rotate_left; omega) | with_reducible refine Ext.trans ?_ (by assumption) | with_reducible exact Past.bel _ | with_reducible refine Ext.trans ?_ (Past.bel _)))⟩
set_option maxHeartbeats 2000000 in
theorem implAddDays_c (wk y m d k : Int) (h : CalV w s ma ra mc rc nm c) {Y M D : Int} (r : DtR c (calB s nm c wk && adB c y m d k) (dnum c y m d + k) Y M D) :
    Calls Try.prog 33 #[.agg #[.string s, .slice ma c.n mc, .slice ra c.nr rc, .int .i64 wk], .agg #[.int .i64 y, .int .i64 m, .int .i64 d], .int .i64 k] w fun e w' => e = .returned (.tuple #[.agg #[.int .i64 Y, .int .i64 M, .int .i64 D], .int .i64 (adC s nm c wk y m d k)]) ∧ Ext w w' := by
  have H := Lib.hid h
  clear h
  cases h1 : calB s nm c wk
  · rw [h1] at r
    obtain ⟨rfl, rfl, rfl⟩ := r.no rfl
    have hc : dyC s nm c wk y m d = 1 := by simp [dyC, h1]
    have HC := Lib.hid (show adC s nm c wk y m d k = 1 by simp [adC, h1])
    clear r
    go_enter Try.func33, Try.ntmps33
    go_wp2_with (go_at_call 21; ((with_reducible refine (implDayOf_no wk 1 hc (by omega) (H.out.ext (by repeat (first | with_reducible exact Ext.refl _ | with_reducible assumption | with_reducible refine Ext.alloc ?_ _ | with_reducible refine Ext.drew ?_ | (with_reducible refine Ext.setAt ?_ _ _ _ ?_; rotate_left; omega) | with_reducible refine Ext.trans ?_ (by assumption) | with_reducible exact Past.bel _ | with_reducible refine Ext.trans ?_ (Past.bel _))))).mono ?_); rintro e w' ⟨rfl, hx⟩; (first | (obtain ⟨wx, rfl⟩ := Past.again hx) | (obtain ⟨wx, rfl⟩ := Past.ofd hx) | (obtain ⟨wx, rfl⟩ := Past.of hx))))
    exact bodyPost_ret (v := .tuple #[.agg #[.int .i64 0, .int .i64 0, .int .i64 0], .int .i64 1]) (by simp [results, Try.results33, go_sem]) rfl ⟨by rw [HC.out], (by repeat (first | with_reducible exact Ext.refl _ | with_reducible assumption | with_reducible refine Ext.alloc ?_ _ | with_reducible refine Ext.drew ?_ | (with_reducible refine Ext.setAt ?_ _ _ _ ?_; rotate_left; omega) | with_reducible refine Ext.trans ?_ (by assumption) | with_reducible exact Past.bel _ | with_reducible refine Ext.trans ?_ (Past.bel _)))⟩
  · have B := Lib.hid (calB_b h1)
    cases h2 : dtB c y m d
    · have h4 : adB c y m d k = false := by simp [adB, h2]
      rw [h1, h4] at r
      obtain ⟨rfl, rfl, rfl⟩ := r.no rfl
      have hc : dyC s nm c wk y m d = 2 := by simp [dyC, h1, h2]
      have HC := Lib.hid (show adC s nm c wk y m d k = 2 by simp [adC, h1, h4])
      clear r h4
      go_enter Try.func33, Try.ntmps33
      go_wp2_with (go_at_call 21; ((with_reducible refine (implDayOf_no wk 2 hc (by omega) (H.out.ext (by repeat (first | with_reducible exact Ext.refl _ | with_reducible assumption | with_reducible refine Ext.alloc ?_ _ | with_reducible refine Ext.drew ?_ | (with_reducible refine Ext.setAt ?_ _ _ _ ?_; rotate_left; omega) | with_reducible refine Ext.trans ?_ (by assumption) | with_reducible exact Past.bel _ | with_reducible refine Ext.trans ?_ (Past.bel _))))).mono ?_); rintro e w' ⟨rfl, hx⟩; (first | (obtain ⟨wx, rfl⟩ := Past.again hx) | (obtain ⟨wx, rfl⟩ := Past.ofd hx) | (obtain ⟨wx, rfl⟩ := Past.of hx))))
      exact bodyPost_ret (v := .tuple #[.agg #[.int .i64 0, .int .i64 0, .int .i64 0], .int .i64 2]) (by simp [results, Try.results33, go_sem]) rfl ⟨by rw [HC.out], (by repeat (first | with_reducible exact Ext.refl _ | with_reducible assumption | with_reducible refine Ext.alloc ?_ _ | with_reducible refine Ext.drew ?_ | (with_reducible refine Ext.setAt ?_ _ _ _ ?_; rotate_left; omega) | with_reducible refine Ext.trans ?_ (by assumption) | with_reducible exact Past.bel _ | with_reducible refine Ext.trans ?_ (Past.bel _)))⟩
    · have b1 := dnum_bd B.out h2
      have hl := B.out.last
      have H1 := Lib.hid h1; have H2 := Lib.hid h2
      cases h3 : inB (dnum c y m d + k) 0 (c.bef 10000 - 1)
      · have h4 : adB c y m d k = false := by simp [adB, h2, h3]
        rw [h1, h4] at r
        obtain ⟨rfl, rfl, rfl⟩ := r.no rfl
        have HC := Lib.hid (show adC s nm c wk y m d k = 2 by simp [adC, h1, h4])
        have HS := Lib.hid (fun W (hq : Ext w W) => shifted_f (wk := wk) B.out (H.out.ext hq) b1.1 (by omega) h3)
        clear r h4 h3 b1 hl
        go_enter Try.func33, Try.ntmps33
        go_wp2_with (first | (go_at_call 21; ((with_reducible refine (implDayOf_yes wk H1.out H2.out (H.out.ext (by repeat (first | with_reducible exact Ext.refl _ | with_reducible assumption | with_reducible refine Ext.alloc ?_ _ | with_reducible refine Ext.drew ?_ | (with_reducible refine Ext.setAt ?_ _ _ _ ?_; rotate_left; omega) | with_reducible refine Ext.trans ?_ (by assumption) | with_reducible exact Past.bel _ | with_reducible refine Ext.trans ?_ (Past.bel _))))).mono ?_); rintro e w' ⟨rfl, hx⟩; (first | (obtain ⟨wx, rfl⟩ := Past.again hx) | (obtain ⟨wx, rfl⟩ := Past.ofd hx) | (obtain ⟨wx, rfl⟩ := Past.of hx)))) | (go_at_call 61; ((with_reducible refine (HS.out _ (by repeat (first | with_reducible exact Ext.refl _ | with_reducible assumption | with_reducible refine Ext.alloc ?_ _ | with_reducible refine Ext.drew ?_ | (with_reducible refine Ext.setAt ?_ _ _ _ ?_; rotate_left; omega) | with_reducible refine Ext.trans ?_ (by assumption) | with_reducible exact Past.bel _ | with_reducible refine Ext.trans ?_ (Past.bel _)))).mono ?_); rintro e w' ⟨rfl, hx⟩; (first | (obtain ⟨wx, rfl⟩ := Past.again hx) | (obtain ⟨wx, rfl⟩ := Past.ofd hx) | (obtain ⟨wx, rfl⟩ := Past.of hx)))))
        exact bodyPost_ret (v := .tuple #[.agg #[.int .i64 0, .int .i64 0, .int .i64 0], .int .i64 2]) (by simp [results, Try.results33, go_sem]) rfl ⟨by rw [HC.out], (by repeat (first | with_reducible exact Ext.refl _ | with_reducible assumption | with_reducible refine Ext.alloc ?_ _ | with_reducible refine Ext.drew ?_ | (with_reducible refine Ext.setAt ?_ _ _ _ ?_; rotate_left; omega) | with_reducible refine Ext.trans ?_ (by assumption) | with_reducible exact Past.bel _ | with_reducible refine Ext.trans ?_ (Past.bel _)))⟩
      · have h4 : adB c y m d k = true := by simp [adB, h2, h3]
        rw [h1, h4] at r
        have HC := Lib.hid (show adC s nm c wk y m d k = 0 by simp [adC, h1, h4])
        have HS := Lib.hid (fun W (hq : Ext w W) => shifted_t (wk := wk) B.out (H.out.ext hq) b1.1 (by omega) h3 (show DtR c true _ Y M D from r))
        clear r h4 h3 b1 hl
        go_enter Try.func33, Try.ntmps33
        go_wp2_with (first | (go_at_call 21; ((with_reducible refine (implDayOf_yes wk H1.out H2.out (H.out.ext (by repeat (first | with_reducible exact Ext.refl _ | with_reducible assumption | with_reducible refine Ext.alloc ?_ _ | with_reducible refine Ext.drew ?_ | (with_reducible refine Ext.setAt ?_ _ _ _ ?_; rotate_left; omega) | with_reducible refine Ext.trans ?_ (by assumption) | with_reducible exact Past.bel _ | with_reducible refine Ext.trans ?_ (Past.bel _))))).mono ?_); rintro e w' ⟨rfl, hx⟩; (first | (obtain ⟨wx, rfl⟩ := Past.again hx) | (obtain ⟨wx, rfl⟩ := Past.ofd hx) | (obtain ⟨wx, rfl⟩ := Past.of hx)))) | (go_at_call 61; ((with_reducible refine (HS.out _ (by repeat (first | with_reducible exact Ext.refl _ | with_reducible assumption | with_reducible refine Ext.alloc ?_ _ | with_reducible refine Ext.drew ?_ | (with_reducible refine Ext.setAt ?_ _ _ _ ?_; rotate_left; omega) | with_reducible refine Ext.trans ?_ (by assumption) | with_reducible exact Past.bel _ | with_reducible refine Ext.trans ?_ (Past.bel _)))).mono ?_); rintro e w' ⟨rfl, hx⟩; (first | (obtain ⟨wx, rfl⟩ := Past.again hx) | (obtain ⟨wx, rfl⟩ := Past.ofd hx) | (obtain ⟨wx, rfl⟩ := Past.of hx)))))
        exact bodyPost_ret (v := .tuple #[.agg #[.int .i64 Y, .int .i64 M, .int .i64 D], .int .i64 0]) (by simp [results, Try.results33, go_sem]) rfl ⟨by rw [HC.out], (by repeat (first | with_reducible exact Ext.refl _ | with_reducible assumption | with_reducible refine Ext.alloc ?_ _ | with_reducible refine Ext.drew ?_ | (with_reducible refine Ext.setAt ?_ _ _ _ ?_; rotate_left; omega) | with_reducible refine Ext.trans ?_ (by assumption) | with_reducible exact Past.bel _ | with_reducible refine Ext.trans ?_ (Past.bel _)))⟩
set_option maxHeartbeats 2000000 in
theorem specAddDays_c (wk y m d k : Int) (h : CalV w s ma ra mc rc nm c) {Y M D : Int} (r : DtR c (calB s nm c wk && adB c y m d k) (dnum c y m d + k) Y M D) :
    Calls Try.prog 32 #[.agg #[.string s, .slice ma c.n mc, .slice ra c.nr rc, .int .i64 wk], .agg #[.int .i64 y, .int .i64 m, .int .i64 d], .int .i64 k] w fun e w' => e = .returned (.tuple #[.agg #[.int .i64 Y, .int .i64 M, .int .i64 D], .int .i64 (adC s nm c wk y m d k)]) ∧ Ext w w' := by
  have H := Lib.hid (CalQ.new 32 wk h)
  clear h
  cases h1 : calB s nm c wk
  · rw [h1] at r
    obtain ⟨rfl, rfl, rfl⟩ := r.no rfl
    have HC := Lib.hid (show adC s nm c wk y m d k = 1 by simp [adC, h1])
    clear r
    go_enter Try.func32, Try.ntmps32
    go_wp2_with (go_at_call 38; ((with_reducible refine (l15Ok_q (H.out.ext (by repeat (first | with_reducible exact Ext.refl _ | with_reducible assumption | with_reducible refine Ext.alloc ?_ _ | with_reducible refine Ext.drew ?_ | (with_reducible refine Ext.setAt ?_ _ _ _ ?_; rotate_left; omega) | with_reducible refine Ext.trans ?_ (by assumption) | with_reducible exact Past.bel _ | with_reducible refine Ext.trans ?_ (Past.bel _))))).mono ?_); rintro e w' ⟨rfl, hx⟩; (first | (obtain ⟨wx, rfl⟩ := Past.again hx) | (obtain ⟨wx, rfl⟩ := Past.ofd hx) | (obtain ⟨wx, rfl⟩ := Past.of hx))))
    exact bodyPost_ret (v := .tuple #[.agg #[.int .i64 0, .int .i64 0, .int .i64 0], .int .i64 1]) (by simp [results, Try.results32, go_sem]) rfl ⟨by rw [HC.out], (by repeat (first | with_reducible exact Ext.refl _ | with_reducible assumption | with_reducible refine Ext.alloc ?_ _ | with_reducible refine Ext.drew ?_ | (with_reducible refine Ext.setAt ?_ _ _ _ ?_; rotate_left; omega) | with_reducible refine Ext.trans ?_ (by assumption) | with_reducible exact Past.bel _ | with_reducible refine Ext.trans ?_ (Past.bel _)))⟩
  · have B := Lib.hid (calB_b h1)
    cases h2 : dtB c y m d
    · have h4 : adB c y m d k = false := by simp [adB, h2]
      rw [h1, h4] at r
      obtain ⟨rfl, rfl, rfl⟩ := r.no rfl
      have HC := Lib.hid (show adC s nm c wk y m d k = 2 by simp [adC, h1, h4])
      clear r h4
      go_enter Try.func32, Try.ntmps32
      go_wp2_with (first | (go_at_call 38; ((with_reducible refine (l15Ok_q (H.out.ext (by repeat (first | with_reducible exact Ext.refl _ | with_reducible assumption | with_reducible refine Ext.alloc ?_ _ | with_reducible refine Ext.drew ?_ | (with_reducible refine Ext.setAt ?_ _ _ _ ?_; rotate_left; omega) | with_reducible refine Ext.trans ?_ (by assumption) | with_reducible exact Past.bel _ | with_reducible refine Ext.trans ?_ (Past.bel _))))).mono ?_); rintro e w' ⟨rfl, hx⟩; (first | (obtain ⟨wx, rfl⟩ := Past.again hx) | (obtain ⟨wx, rfl⟩ := Past.ofd hx) | (obtain ⟨wx, rfl⟩ := Past.of hx)))) | (go_at_call 49; ((with_reducible refine (l16Ok_e B.out (H.out.ext (by repeat (first | with_reducible exact Ext.refl _ | with_reducible assumption | with_reducible refine Ext.alloc ?_ _ | with_reducible refine Ext.drew ?_ | (with_reducible refine Ext.setAt ?_ _ _ _ ?_; rotate_left; omega) | with_reducible refine Ext.trans ?_ (by assumption) | with_reducible exact Past.bel _ | with_reducible refine Ext.trans ?_ (Past.bel _)))) h2).mono ?_); rintro e w' ⟨rfl, hx⟩; (first | (obtain ⟨wx, rfl⟩ := Past.again hx) | (obtain ⟨wx, rfl⟩ := Past.ofd hx) | (obtain ⟨wx, rfl⟩ := Past.of hx)))))
      exact bodyPost_ret (v := .tuple #[.agg #[.int .i64 0, .int .i64 0, .int .i64 0], .int .i64 2]) (by simp [results, Try.results32, go_sem]) rfl ⟨by rw [HC.out], (by repeat (first | with_reducible exact Ext.refl _ | with_reducible assumption | with_reducible refine Ext.alloc ?_ _ | with_reducible refine Ext.drew ?_ | (with_reducible refine Ext.setAt ?_ _ _ _ ?_; rotate_left; omega) | with_reducible refine Ext.trans ?_ (by assumption) | with_reducible exact Past.bel _ | with_reducible refine Ext.trans ?_ (Past.bel _)))⟩
    · have b1 := dnum_bd B.out h2
      have hl := B.out.last
      have H1 := Lib.hid h1; have H2 := Lib.hid h2
      cases hf : farB k
      · have hk := inB_t.1 (show inB k (-20000000) 20000000 = true by simpa [farB] using hf)
        obtain ⟨N, hN⟩ : ∃ N, N = dnum c y m d := ⟨_, rfl⟩
        have b2 : 0 ≤ N ∧ N ≤ 12000000 := by omega
        have HD := Lib.hid (fun W (hq : Ext _ W) => (hN ▸ l16Day_i B.out (H.out.ext hq) h2 : Calls Try.prog 50 _ W fun e w' => e = .returned (.int .i64 N) ∧ Ext W w'))
        cases h3 : inB (dnum c y m d + k) 0 (c.bef 10000 - 1)
        · have h4 : adB c y m d k = false := by simp [adB, h2, h3]
          rw [h1, h4] at r
          obtain ⟨rfl, rfl, rfl⟩ := r.no rfl
          have HC := Lib.hid (show adC s nm c wk y m d k = 2 by simp [adC, h1, h4])
          rw [← hN] at h3
          have HS := Lib.hid (fun W (hq : Ext _ W) => l16Date_no B.out (H.out.ext hq) h3)
          clear r h4 h3 b1 hl hN
          go_enter Try.func32, Try.ntmps32
          go_wp2_with (first | (go_at_call 38; ((with_reducible refine (l15Ok_q (H.out.ext (by repeat (first | with_reducible exact Ext.refl _ | with_reducible assumption | with_reducible refine Ext.alloc ?_ _ | with_reducible refine Ext.drew ?_ | (with_reducible refine Ext.setAt ?_ _ _ _ ?_; rotate_left; omega) | with_reducible refine Ext.trans ?_ (by assumption) | with_reducible exact Past.bel _ | with_reducible refine Ext.trans ?_ (Past.bel _))))).mono ?_); rintro e w' ⟨rfl, hx⟩; (first | (obtain ⟨wx, rfl⟩ := Past.again hx) | (obtain ⟨wx, rfl⟩ := Past.ofd hx) | (obtain ⟨wx, rfl⟩ := Past.of hx)))) | (go_at_call 49; ((with_reducible refine (l16Ok_e B.out (H.out.ext (by repeat (first | with_reducible exact Ext.refl _ | with_reducible assumption | with_reducible refine Ext.alloc ?_ _ | with_reducible refine Ext.drew ?_ | (with_reducible refine Ext.setAt ?_ _ _ _ ?_; rotate_left; omega) | with_reducible refine Ext.trans ?_ (by assumption) | with_reducible exact Past.bel _ | with_reducible refine Ext.trans ?_ (Past.bel _)))) H2.out).mono ?_); rintro e w' ⟨rfl, hx⟩; (first | (obtain ⟨wx, rfl⟩ := Past.again hx) | (obtain ⟨wx, rfl⟩ := Past.ofd hx) | (obtain ⟨wx, rfl⟩ := Past.of hx)))) | (go_at_call 60; ((with_reducible refine (l16Far_c _ _).mono ?_); rintro e w' ⟨rfl, rfl⟩)) | (go_at_call 50; ((with_reducible refine (HD.out _ (by repeat (first | with_reducible exact Ext.refl _ | with_reducible assumption | with_reducible refine Ext.alloc ?_ _ | with_reducible refine Ext.drew ?_ | (with_reducible refine Ext.setAt ?_ _ _ _ ?_; rotate_left; omega) | with_reducible refine Ext.trans ?_ (by assumption) | with_reducible exact Past.bel _ | with_reducible refine Ext.trans ?_ (Past.bel _)))).mono ?_); rintro e w' ⟨rfl, hx⟩; (first | (obtain ⟨wx, rfl⟩ := Past.again hx) | (obtain ⟨wx, rfl⟩ := Past.ofd hx) | (obtain ⟨wx, rfl⟩ := Past.of hx)))) | (go_at_call 56; ((with_reducible refine (HS.out _ (by repeat (first | with_reducible exact Ext.refl _ | with_reducible assumption | with_reducible refine Ext.alloc ?_ _ | with_reducible refine Ext.drew ?_ | (with_reducible refine Ext.setAt ?_ _ _ _ ?_; rotate_left; omega) | with_reducible refine Ext.trans ?_ (by assumption) | with_reducible exact Past.bel _ | with_reducible refine Ext.trans ?_ (Past.bel _)))).mono ?_); rintro e w' ⟨rfl, hx⟩; (first | (obtain ⟨wx, rfl⟩ := Past.again hx) | (obtain ⟨wx, rfl⟩ := Past.ofd hx) | (obtain ⟨wx, rfl⟩ := Past.of hx)))) | (go_at_call 55; ((with_reducible refine (l16Code_f _ _ _ _).mono ?_); rintro e w' ⟨rfl, hx⟩; (first | (obtain ⟨wx, rfl⟩ := Past.again hx) | (obtain ⟨wx, rfl⟩ := Past.ofd hx) | (obtain ⟨wx, rfl⟩ := Past.of hx)))))
          exact bodyPost_ret (v := .tuple #[.agg #[.int .i64 0, .int .i64 0, .int .i64 0], .int .i64 2]) (by simp [results, Try.results32, go_sem]) rfl ⟨by rw [HC.out], (by repeat (first | with_reducible exact Ext.refl _ | with_reducible assumption | with_reducible refine Ext.alloc ?_ _ | with_reducible refine Ext.drew ?_ | (with_reducible refine Ext.setAt ?_ _ _ _ ?_; rotate_left; omega) | with_reducible refine Ext.trans ?_ (by assumption) | with_reducible exact Past.bel _ | with_reducible refine Ext.trans ?_ (Past.bel _)))⟩
        · have h4 : adB c y m d k = true := by simp [adB, h2, h3]
          rw [h1, h4] at r
          have HC := Lib.hid (show adC s nm c wk y m d k = 0 by simp [adC, h1, h4])
          rw [← hN] at h3 r
          have HS := Lib.hid (fun W (hq : Ext _ W) => l16Date_t B.out (H.out.ext hq) h3 (show DtR c true _ Y M D from r))
          clear r h4 h3 b1 hl hN
          go_enter Try.func32, Try.ntmps32
          go_wp2_with (first | (go_at_call 38; ((with_reducible refine (l15Ok_q (H.out.ext (by repeat (first | with_reducible exact Ext.refl _ | with_reducible assumption | with_reducible refine Ext.alloc ?_ _ | with_reducible refine Ext.drew ?_ | (with_reducible refine Ext.setAt ?_ _ _ _ ?_; rotate_left; omega) | with_reducible refine Ext.trans ?_ (by assumption) | with_reducible exact Past.bel _ | with_reducible refine Ext.trans ?_ (Past.bel _))))).mono ?_); rintro e w' ⟨rfl, hx⟩; (first | (obtain ⟨wx, rfl⟩ := Past.again hx) | (obtain ⟨wx, rfl⟩ := Past.ofd hx) | (obtain ⟨wx, rfl⟩ := Past.of hx)))) | (go_at_call 49; ((with_reducible refine (l16Ok_e B.out (H.out.ext (by repeat (first | with_reducible exact Ext.refl _ | with_reducible assumption | with_reducible refine Ext.alloc ?_ _ | with_reducible refine Ext.drew ?_ | (with_reducible refine Ext.setAt ?_ _ _ _ ?_; rotate_left; omega) | with_reducible refine Ext.trans ?_ (by assumption) | with_reducible exact Past.bel _ | with_reducible refine Ext.trans ?_ (Past.bel _)))) H2.out).mono ?_); rintro e w' ⟨rfl, hx⟩; (first | (obtain ⟨wx, rfl⟩ := Past.again hx) | (obtain ⟨wx, rfl⟩ := Past.ofd hx) | (obtain ⟨wx, rfl⟩ := Past.of hx)))) | (go_at_call 60; ((with_reducible refine (l16Far_c _ _).mono ?_); rintro e w' ⟨rfl, rfl⟩)) | (go_at_call 50; ((with_reducible refine (HD.out _ (by repeat (first | with_reducible exact Ext.refl _ | with_reducible assumption | with_reducible refine Ext.alloc ?_ _ | with_reducible refine Ext.drew ?_ | (with_reducible refine Ext.setAt ?_ _ _ _ ?_; rotate_left; omega) | with_reducible refine Ext.trans ?_ (by assumption) | with_reducible exact Past.bel _ | with_reducible refine Ext.trans ?_ (Past.bel _)))).mono ?_); rintro e w' ⟨rfl, hx⟩; (first | (obtain ⟨wx, rfl⟩ := Past.again hx) | (obtain ⟨wx, rfl⟩ := Past.ofd hx) | (obtain ⟨wx, rfl⟩ := Past.of hx)))) | (go_at_call 56; ((with_reducible refine (HS.out _ (by repeat (first | with_reducible exact Ext.refl _ | with_reducible assumption | with_reducible refine Ext.alloc ?_ _ | with_reducible refine Ext.drew ?_ | (with_reducible refine Ext.setAt ?_ _ _ _ ?_; rotate_left; omega) | with_reducible refine Ext.trans ?_ (by assumption) | with_reducible exact Past.bel _ | with_reducible refine Ext.trans ?_ (Past.bel _)))).mono ?_); rintro e w' ⟨rfl, hx⟩; (first | (obtain ⟨wx, rfl⟩ := Past.again hx) | (obtain ⟨wx, rfl⟩ := Past.ofd hx) | (obtain ⟨wx, rfl⟩ := Past.of hx)))) | (go_at_call 55; ((with_reducible refine (l16Code_t _ _ _ _).mono ?_); rintro e w' ⟨rfl, hx⟩; (first | (obtain ⟨wx, rfl⟩ := Past.again hx) | (obtain ⟨wx, rfl⟩ := Past.ofd hx) | (obtain ⟨wx, rfl⟩ := Past.of hx)))))
          exact bodyPost_ret (v := .tuple #[.agg #[.int .i64 Y, .int .i64 M, .int .i64 D], .int .i64 0]) (by simp [results, Try.results32, go_sem]) rfl ⟨by rw [HC.out], (by repeat (first | with_reducible exact Ext.refl _ | with_reducible assumption | with_reducible refine Ext.alloc ?_ _ | with_reducible refine Ext.drew ?_ | (with_reducible refine Ext.setAt ?_ _ _ _ ?_; rotate_left; omega) | with_reducible refine Ext.trans ?_ (by assumption) | with_reducible exact Past.bel _ | with_reducible refine Ext.trans ?_ (Past.bel _)))⟩
      · have h4 : adB c y m d k = false := by simp [adB, far_no B.out B.out h2 hf]
        rw [h1, h4] at r
        obtain ⟨rfl, rfl, rfl⟩ := r.no rfl
        have HC := Lib.hid (show adC s nm c wk y m d k = 2 by simp [adC, h1, h4])
        clear r h4 b1 hl
        go_enter Try.func32, Try.ntmps32
        go_wp2_with (first | (go_at_call 38; ((with_reducible refine (l15Ok_q (H.out.ext (by repeat (first | with_reducible exact Ext.refl _ | with_reducible assumption | with_reducible refine Ext.alloc ?_ _ | with_reducible refine Ext.drew ?_ | (with_reducible refine Ext.setAt ?_ _ _ _ ?_; rotate_left; omega) | with_reducible refine Ext.trans ?_ (by assumption) | with_reducible exact Past.bel _ | with_reducible refine Ext.trans ?_ (Past.bel _))))).mono ?_); rintro e w' ⟨rfl, hx⟩; (first | (obtain ⟨wx, rfl⟩ := Past.again hx) | (obtain ⟨wx, rfl⟩ := Past.ofd hx) | (obtain ⟨wx, rfl⟩ := Past.of hx)))) | (go_at_call 49; ((with_reducible refine (l16Ok_e B.out (H.out.ext (by repeat (first | with_reducible exact Ext.refl _ | with_reducible assumption | with_reducible refine Ext.alloc ?_ _ | with_reducible refine Ext.drew ?_ | (with_reducible refine Ext.setAt ?_ _ _ _ ?_; rotate_left; omega) | with_reducible refine Ext.trans ?_ (by assumption) | with_reducible exact Past.bel _ | with_reducible refine Ext.trans ?_ (Past.bel _)))) H2.out).mono ?_); rintro e w' ⟨rfl, hx⟩; (first | (obtain ⟨wx, rfl⟩ := Past.again hx) | (obtain ⟨wx, rfl⟩ := Past.ofd hx) | (obtain ⟨wx, rfl⟩ := Past.of hx)))) | (go_at_call 60; ((with_reducible refine (l16Far_c _ _).mono ?_); rintro e w' ⟨rfl, rfl⟩)))
        exact bodyPost_ret (v := .tuple #[.agg #[.int .i64 0, .int .i64 0, .int .i64 0], .int .i64 2]) (by simp [results, Try.results32, go_sem]) rfl ⟨by rw [HC.out], (by repeat (first | with_reducible exact Ext.refl _ | with_reducible assumption | with_reducible refine Ext.alloc ?_ _ | with_reducible refine Ext.drew ?_ | (with_reducible refine Ext.setAt ?_ _ _ _ ?_; rotate_left; omega) | with_reducible refine Ext.trans ?_ (by assumption) | with_reducible exact Past.bel _ | with_reducible refine Ext.trans ?_ (Past.bel _)))⟩
end
end Go.Proofs.Ytggkemiklknmkaa
