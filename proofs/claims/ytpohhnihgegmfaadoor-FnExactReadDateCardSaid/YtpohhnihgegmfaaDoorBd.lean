/- Valid calendars: the reference's. Names among others: the program's. Valid calendars: the program's. Calendars: compared. Calendars: compared as wholes. What an argument that is a calendar holds. The law ValidCalendar's walk. Leap years: the functions as they are called. Calendars: what is asked of years, months and days. No program in sight. Days of months: the functions as they are called. Days of years: the functions as they are called. Laws on one calendar and numbers: their walks. Valid dates. Calendars compared. No program in sight. Calendars: days and their numbers. No program in sight. Cycles, days before a year, numbers of days: the reference's. Numbers of days: the program's. Dates of numbers: the reference's. Dates of numbers: the program's. Calendars: what the functions on days return. No program in sight. Cycles, days, weeks: the functions as they are called. Days between, days of the week: the functions as they are called. Days of the week: the functions as they are called. Calendars: dates as results. No program in sight. Dates of numbers: the functions as they are called. Days added, dates converted: the functions as they are called. Laws on one calendar, on days: their walks. The law on reading dates. What the cards' listed variables give the walks that read. -/
import Derived.Test.YtpohhnihgegmfaaDoorBc
import Derived.Test.YtpohhnihgegmfaaDoorBb
import Derived.Deep.RegionHeld3
import Derived.Test.YtpohhnihgegmfaaDoorRows
import Derived.Test.YtpohhnihgegmfaaDoorBa
import Derived.ProofKit
import Derived.LaidMore
import Derived.OpenShut
import Derived.Stop.Joined
import Derived.Lib.LaidTab
import Derived.Lay
import Derived.HandedShaped
import Derived.Shelf.Vars

namespace Go.Proofs.YtpohhnihgegmfaaDoor
open Go.RowKit
set_option linter.unusedVariables false
set_option linter.unusedSimpArgs false

set_option maxHeartbeats 2000000 in
theorem l15Ok_c (g : Nat) (s : ByteArray) (ma ra : Option Addr) (mc rc : Nat) (wk : Int) (nm : Nat → ByteArray) (c : CalN) (w : World) (hm : c.n ≤ 1048576) (hr : c.nr ≤ 1048576) (hs : s.size ≤ 9223372036854775807) (hz : ∀ i, i < c.n → (nm i).size ≤ 9223372036854775807) (h : CalP w g s ma ra mc rc wk nm c) :
    Calls Tryd.prog 39 #[.pointer (some ⟨g, 0, none⟩)] w fun e w' => e = .returned (.bool (calB s nm c wk)) ∧ Ext w w' := by
  have H := Lib.hid h
  have HZ := Lib.hid hz
  have g0 := h.lt
  have p0 := h.c0
  have p1 := h.c1
  have p2 := h.c2
  have p3 := h.c3
  have hy : ∀ W, Ext w W → Calls Tryd.prog 62 #[.slice ra c.nr rc] W fun e w' => ∃ x, e = .returned (.tuple #[.int .i64 x, .bool (rulB c.ev c.rs c.nr)]) ∧ Ext W w' := fun W hx =>
    (l15Years_c _ _ _ _ _ _ W hr (h.ext hx).mem.ru).mono fun e w' ⟨x, b, he, hb, hx⟩ => ⟨x, by rw [he, hb.ok], hx⟩
  have HY := Lib.hid hy
  clear h hz hy
  cases h1 : rulB c.ev c.rs c.nr
  · have H1 := Lib.hid h1
    rw [h1] at HY
    clear h1
    go_enter Tryd.func39, Tryd.ntmps39
    go_wp2_with fail
    refine (HY.out _ (by repeat (first | with_reducible exact Ext.refl _ | with_reducible assumption | with_reducible refine Ext.alloc ?_ _ | with_reducible refine Ext.drew ?_ | (with_reducible refine Ext.setAt ?_ _ _ _ ?_; rotate_left; omega) | with_reducible refine Ext.trans ?_ (by assumption) | with_reducible exact Past.bel _ | with_reducible refine Ext.trans ?_ (Past.bel _)))).mono ?_
    rintro e w' ⟨x, rfl, hx1⟩
    (first | (obtain ⟨wx1, rfl⟩ := Past.again hx1) | (obtain ⟨wx1, rfl⟩ := Past.of hx1))
    go_wp2_with fail
    go_ret
    exact ⟨ret_bool (by unfold calB; rw [H1.out]; rfl), (by repeat (first | with_reducible exact Ext.refl _ | with_reducible assumption | with_reducible refine Ext.alloc ?_ _ | with_reducible refine Ext.drew ?_ | (with_reducible refine Ext.setAt ?_ _ _ _ ?_; rotate_left; omega) | with_reducible refine Ext.trans ?_ (by assumption) | with_reducible exact Past.bel _ | with_reducible refine Ext.trans ?_ (Past.bel _)))⟩
  · have H1 := Lib.hid h1
    rw [h1] at HY
    clear h1
    go_enter Tryd.func39, Tryd.ntmps39
    go_wp2_with fail
    refine (HY.out _ (by repeat (first | with_reducible exact Ext.refl _ | with_reducible assumption | with_reducible refine Ext.alloc ?_ _ | with_reducible refine Ext.drew ?_ | (with_reducible refine Ext.setAt ?_ _ _ _ ?_; rotate_left; omega) | with_reducible refine Ext.trans ?_ (by assumption) | with_reducible exact Past.bel _ | with_reducible refine Ext.trans ?_ (Past.bel _)))).mono ?_
    rintro e w' ⟨x, rfl, hx1⟩
    (first | (obtain ⟨wx1, rfl⟩ := Past.again hx1) | (obtain ⟨wx1, rfl⟩ := Past.of hx1))
    cases h2 : isNm s
    · go_wp2_with (go_at_call 63; ((with_reducible refine (specIsName_c _ _ hs).mono ?_); rintro e w' ⟨rfl, rfl⟩))
      go_ret
      exact ⟨ret_bool (by unfold calB; rw [H1.out, h2]; rfl), (by repeat (first | with_reducible exact Ext.refl _ | with_reducible assumption | with_reducible refine Ext.alloc ?_ _ | with_reducible refine Ext.drew ?_ | (with_reducible refine Ext.setAt ?_ _ _ _ ?_; rotate_left; omega) | with_reducible refine Ext.trans ?_ (by assumption) | with_reducible exact Past.bel _ | with_reducible refine Ext.trans ?_ (Past.bel _)))⟩
    · cases h3 : monB nm c.dy c.lp c.n
      · go_wp2_with (first | (go_at_call 63; ((with_reducible refine (specIsName_c _ _ hs).mono ?_); rintro e w' ⟨rfl, rfl⟩)) | (go_at_call 64; ((with_reducible refine (l15Months_c _ _ _ nm c.dy c.lp _ hm (H.out.ext (by repeat (first | with_reducible exact Ext.refl _ | with_reducible assumption | with_reducible refine Ext.alloc ?_ _ | with_reducible refine Ext.drew ?_ | (with_reducible refine Ext.setAt ?_ _ _ _ ?_; rotate_left; omega) | with_reducible refine Ext.trans ?_ (by assumption) | with_reducible exact Past.bel _ | with_reducible refine Ext.trans ?_ (Past.bel _)))).mem.mo HZ.out).mono ?_); rintro e w' ⟨rfl, hx⟩; (first | (obtain ⟨wx, rfl⟩ := Past.again hx) | (obtain ⟨wx, rfl⟩ := Past.ofd hx) | (obtain ⟨wx, rfl⟩ := Past.of hx)))))
        go_ret
        exact ⟨ret_bool (by unfold calB; rw [H1.out, h2, h3]; rfl), (by repeat (first | with_reducible exact Ext.refl _ | with_reducible assumption | with_reducible refine Ext.alloc ?_ _ | with_reducible refine Ext.drew ?_ | (with_reducible refine Ext.setAt ?_ _ _ _ ?_; rotate_left; omega) | with_reducible refine Ext.trans ?_ (by assumption) | with_reducible exact Past.bel _ | with_reducible refine Ext.trans ?_ (Past.bel _)))⟩
      · go_wp2_with (first | (go_at_call 63; ((with_reducible refine (specIsName_c _ _ hs).mono ?_); rintro e w' ⟨rfl, rfl⟩)) | (go_at_call 64; ((with_reducible refine (l15Months_c _ _ _ nm c.dy c.lp _ hm (H.out.ext (by repeat (first | with_reducible exact Ext.refl _ | with_reducible assumption | with_reducible refine Ext.alloc ?_ _ | with_reducible refine Ext.drew ?_ | (with_reducible refine Ext.setAt ?_ _ _ _ ?_; rotate_left; omega) | with_reducible refine Ext.trans ?_ (by assumption) | with_reducible exact Past.bel _ | with_reducible refine Ext.trans ?_ (Past.bel _)))).mem.mo HZ.out).mono ?_); rintro e w' ⟨rfl, hx⟩; (first | (obtain ⟨wx, rfl⟩ := Past.again hx) | (obtain ⟨wx, rfl⟩ := Past.ofd hx) | (obtain ⟨wx, rfl⟩ := Past.of hx)))) | (go_at_call 37; ((with_reducible refine (l00In_c _ _ _ _).mono ?_); rintro e w' ⟨rfl, rfl⟩)))
        go_ret
        exact ⟨ret_bool (by unfold calB; rw [H1.out, h2, h3]; rfl), (by repeat (first | with_reducible exact Ext.refl _ | with_reducible assumption | with_reducible refine Ext.alloc ?_ _ | with_reducible refine Ext.drew ?_ | (with_reducible refine Ext.setAt ?_ _ _ _ ?_; rotate_left; omega) | with_reducible refine Ext.trans ?_ (by assumption) | with_reducible exact Past.bel _ | with_reducible refine Ext.trans ?_ (Past.bel _)))⟩
/-- a calendar laid into a new block -/
theorem CalP.new {w : World} (T : TypeId) (s : ByteArray) (ma ra : Option Addr) (mc rc : Nat) (wk : Int) {nm : Nat → ByteArray} {c : CalN} (h : CalM w ma ra nm c) :
    CalP (w.alloc (.cells #[.string s, .slice ma c.n mc, .slice ra c.nr rc, .int .i64 wk] T)) w.heap.size s ma ra mc rc wk nm c :=
  ⟨by simp, by simp [go_sem], by simp [go_sem], by simp [go_sem], by simp [go_sem], h.ext ((Ext.refl w).alloc _)⟩
end Go.Proofs.YtpohhnihgegmfaaDoor

namespace Go.Proofs.YtpohhnihgegmfaaDoor
open Go.RowKit
set_option linter.unusedVariables false
set_option linter.unusedSimpArgs false

theorem bs_dec (x y : ByteArray) : (x.toList == y.toList) = decide (x = y) := by
  by_cases e : x = y
  · rw [bs_eq e]; simp [e]
  · rw [bs_ne e]; simp [e]
theorem validPred_c (g : Nat) (x y : ByteArray) (a b : Int) (w : World) (hg : g < w.heap.size) (hc : w.cell? ⟨g, 0, none⟩ = some (.string y)) :
    Calls Tryd.prog 45 #[.agg #[.string x, .int .i64 a, .int .i64 b], .pointer (some ⟨g, 0, none⟩)] w fun e w' => e = .returned (.bool (decide (x = y))) ∧ Ext w w' := by
  go_enter Tryd.func45, Tryd.ntmps45
  go_wp2_with fail
  go_ret
  exact ⟨ret_bool (bs_dec x y), (by repeat (first | with_reducible exact Ext.refl _ | with_reducible assumption | with_reducible refine Ext.alloc ?_ _ | with_reducible refine Ext.drew ?_ | (with_reducible refine Ext.setAt ?_ _ _ _ ?_; rotate_left; omega) | with_reducible refine Ext.trans ?_ (by assumption) | with_reducible exact Past.bel _ | with_reducible refine Ext.trans ?_ (Past.bel _)))⟩
set_option maxHeartbeats 1000000 in
theorem idxFunc_c (g : Nat) (a : Option Addr) (n c : Nat) (nm : Nat → ByteArray) (dy lp : Nat → Int) (k : Nat) (w : World) (hn : n ≤ 1048576) (hs : S3 w a n nm dy lp) (hg : g < w.heap.size) (hc : w.cell? ⟨g, 0, none⟩ = some (.string (nm k))) :
    Calls Tryd.prog 67 #[.slice a n c, .func (.func 45) #[] #[.pointer (some ⟨g, 0, none⟩)]] w fun e w' => ∃ r : Int, e = .returned (.int .i64 r) ∧ decide (r ≥ 0) = !frTo nm k n ∧ Ext w w' := by
  have HS := Lib.hid hs
  have HC := Lib.hid hc
  clear hs hc
  go_enter Tryd.func67, Tryd.ntmps67
  go_wp2_with fail
  go_loopw [8] (fun i wr => ∃ j : Nat, j ≤ n ∧ i = .int .i64 j ∧ frTo nm k j = true ∧ Ext w wr) (fun i _ => n - (intOf i).toNat)
  case atStart => exact ⟨0, by omega, rfl, rfl, (by repeat (first | with_reducible exact Ext.refl _ | with_reducible assumption | with_reducible refine Ext.alloc ?_ _ | with_reducible refine Ext.drew ?_ | (with_reducible refine Ext.setAt ?_ _ _ _ ?_; rotate_left; omega) | with_reducible refine Ext.trans ?_ (by assumption) | with_reducible exact Past.bel _ | with_reducible refine Ext.trans ?_ (Past.bel _)))⟩
  case round =>
    obtain ⟨j, hj, rfl, hf, hbl⟩ := hrel
    have HF := Lib.hid hf
    clear hf
    by_cases hlt : j < n
    · obtain ⟨b1, o1, rfl, hb1, q1, q2, q3⟩ := (S3.ext HS.out hbl).at hlt
      have g1 := Nat.lt_of_lt_of_le hg hbl.size
      have c1 := Lib.hid ((hbl.cell hg).trans HC.out)
      cases hd : decide (nm j = nm k)
      · have HD := Lib.hid hd
        clear hd
        go_wp2_with fail
        refine (validPred_c g (nm j) (nm k) (dy j) (lp j) _ g1 c1.out).mono ?_
        rintro e w' ⟨rfl, hx1⟩
        rw [HD.out]
        (first | (obtain ⟨wx1, rfl⟩ := Past.again hx1) | (obtain ⟨wx1, rfl⟩ := Past.of hx1))
        go_wp2_with fail
        exact ⟨⟨j + 1, by omega, by go_num, by simp only [frTo, HF.out, HD.out]; rfl, (by repeat (first | with_reducible exact Ext.refl _ | with_reducible assumption | with_reducible refine Ext.alloc ?_ _ | with_reducible refine Ext.drew ?_ | (with_reducible refine Ext.setAt ?_ _ _ _ ?_; rotate_left; omega) | with_reducible refine Ext.trans ?_ (by assumption) | with_reducible exact Past.bel _ | with_reducible refine Ext.trans ?_ (Past.bel _)))⟩, by simp [intOf]; omega⟩
      · have HD := Lib.hid hd
        clear hd
        go_wp2_with fail
        refine (validPred_c g (nm j) (nm k) (dy j) (lp j) _ g1 c1.out).mono ?_
        rintro e w' ⟨rfl, hx1⟩
        rw [HD.out]
        (first | (obtain ⟨wx1, rfl⟩ := Past.again hx1) | (obtain ⟨wx1, rfl⟩ := Past.of hx1))
        go_wp2_with fail
        go_ret
        exact ⟨_, rfl, by rw [frTo_ff hlt (by simpa using HD.out)]; simp, (by repeat (first | with_reducible exact Ext.refl _ | with_reducible assumption | with_reducible refine Ext.alloc ?_ _ | with_reducible refine Ext.drew ?_ | (with_reducible refine Ext.setAt ?_ _ _ _ ?_; rotate_left; omega) | with_reducible refine Ext.trans ?_ (by assumption) | with_reducible exact Past.bel _ | with_reducible refine Ext.trans ?_ (Past.bel _)))⟩
    · obtain rfl : j = n := by omega
      go_wp2_with fail
      go_ret
      exact ⟨_, rfl, by rw [HF.out]; decide, (by repeat (first | with_reducible exact Ext.refl _ | with_reducible assumption | with_reducible refine Ext.alloc ?_ _ | with_reducible refine Ext.drew ?_ | (with_reducible refine Ext.setAt ?_ _ _ _ ?_; rotate_left; omega) | with_reducible refine Ext.trans ?_ (by assumption) | with_reducible exact Past.bel _ | with_reducible refine Ext.trans ?_ (Past.bel _)))⟩
theorem contFunc_c (g : Nat) (a : Option Addr) (n c : Nat) (nm : Nat → ByteArray) (dy lp : Nat → Int) (k : Nat) (w : World) (hn : n ≤ 1048576) (hs : S3 w a n nm dy lp) (hg : g < w.heap.size) (hc : w.cell? ⟨g, 0, none⟩ = some (.string (nm k))) :
    Calls Tryd.prog 44 #[.slice a n c, .func (.func 45) #[] #[.pointer (some ⟨g, 0, none⟩)]] w fun e w' => e = .returned (.bool (!frTo nm k n)) ∧ Ext w w' := by
  have HC := Lib.hid (idxFunc_c g a n c nm dy lp k w hn hs hg hc)
  clear hs hc
  go_enter Tryd.func44, Tryd.ntmps44
  go_wp2_with fail
  refine HC.out.mono ?_
  rintro e w' ⟨r, rfl, hr, hx1⟩
  (first | (obtain ⟨wx1, rfl⟩ := Past.again hx1) | (obtain ⟨wx1, rfl⟩ := Past.of hx1))
  have HR := Lib.hid hr
  clear hr
  go_wp2_with fail
  go_ret
  refine ⟨ret_bool ?_, (by repeat (first | with_reducible exact Ext.refl _ | with_reducible assumption | with_reducible refine Ext.alloc ?_ _ | with_reducible refine Ext.drew ?_ | (with_reducible refine Ext.setAt ?_ _ _ _ ?_; rotate_left; omega) | with_reducible refine Ext.trans ?_ (by assumption) | with_reducible exact Past.bel _ | with_reducible refine Ext.trans ?_ (Past.bel _)))⟩
  rw [← HR.out]
  try rfl
end Go.Proofs.YtpohhnihgegmfaaDoor

namespace Go.Proofs.YtpohhnihgegmfaaDoor
open Go.RowKit
set_option linter.unusedVariables false
set_option linter.unusedSimpArgs false

theorem S3.take {w : World} {a : Option Addr} {n k : Nat} {nm : Nat → ByteArray} {dy lp : Nat → Int} (s : S3 w a n nm dy lp) (hk : k ≤ n) : S3 w a k nm dy lp := fun h0 => by
  obtain ⟨b, o, ha, hb, hc⟩ := s (by omega)
  exact ⟨b, o, ha, hb, fun i hi => hc i (by omega)⟩
set_option maxHeartbeats 4000000 in
theorem validCalendar_c (s : ByteArray) (ma ra : Option Addr) (mc rc : Nat) (wk : Int) (nm : Nat → ByteArray) (c : CalN) (w : World) (hm : c.n ≤ 1048576) (hr : c.nr ≤ 1048576) (hmc : c.n ≤ mc) (hmx : mc ≤ maxLen) (hs : s.size ≤ 9223372036854775807) (hz : ∀ i, i < c.n → (nm i).size ≤ 9223372036854775807) (h : CalM w ma ra nm c) :
    Calls Tryd.prog 22 #[.agg #[.string s, .slice ma c.n mc, .slice ra c.nr rc, .int .i64 wk]] w fun e w' => e = .returned (.bool (calB s nm c wk)) ∧ Ext w w' := by
  have HP := Lib.hid (CalP.new 31 s ma ra mc rc wk h)
  have HZ := Lib.hid hz
  unfold maxLen at hmx
  clear h hz
  cases h1 : isNm s
  · go_enter Tryd.func22, Tryd.ntmps22
    go_wp2_with (first | (go_at_call 42; ((with_reducible refine (implIsName_c _ _ hs).mono ?_); rintro e w' ⟨rfl, hx⟩; (first | (obtain ⟨wx, rfl⟩ := Past.again hx) | (obtain ⟨wx, rfl⟩ := Past.ofd hx) | (obtain ⟨wx, rfl⟩ := Past.of hx)))))
    go_ret
    exact ⟨ret_bool (calB_1 h1).symm, (by repeat (first | with_reducible exact Ext.refl _ | with_reducible assumption | with_reducible refine Ext.alloc ?_ _ | with_reducible refine Ext.drew ?_ | (with_reducible refine Ext.setAt ?_ _ _ _ ?_; rotate_left; omega) | with_reducible refine Ext.trans ?_ (by assumption) | with_reducible exact Past.bel _ | with_reducible refine Ext.trans ?_ (Past.bel _)))⟩
  · cases h2 : inB (c.n : Int) 1 20
    · have h2' := inB_f.1 h2
      have H2 := Lib.hid h2
      clear h2
      by_cases x1 : (c.n : Int) < 1
      · go_enter Tryd.func22, Tryd.ntmps22
        go_wp2_with (first | (go_at_call 42; ((with_reducible refine (implIsName_c _ _ hs).mono ?_); rintro e w' ⟨rfl, hx⟩; (first | (obtain ⟨wx, rfl⟩ := Past.again hx) | (obtain ⟨wx, rfl⟩ := Past.ofd hx) | (obtain ⟨wx, rfl⟩ := Past.of hx)))))
        go_ret
        exact ⟨ret_bool (calB_2 H2.out).symm, (by repeat (first | with_reducible exact Ext.refl _ | with_reducible assumption | with_reducible refine Ext.alloc ?_ _ | with_reducible refine Ext.drew ?_ | (with_reducible refine Ext.setAt ?_ _ _ _ ?_; rotate_left; omega) | with_reducible refine Ext.trans ?_ (by assumption) | with_reducible exact Past.bel _ | with_reducible refine Ext.trans ?_ (Past.bel _)))⟩
      · have x2 : (20 : Int) < c.n := by omega
        clear h2'
        go_enter Tryd.func22, Tryd.ntmps22
        go_wp2_with (first | (go_at_call 42; ((with_reducible refine (implIsName_c _ _ hs).mono ?_); rintro e w' ⟨rfl, hx⟩; (first | (obtain ⟨wx, rfl⟩ := Past.again hx) | (obtain ⟨wx, rfl⟩ := Past.ofd hx) | (obtain ⟨wx, rfl⟩ := Past.of hx)))))
        go_ret
        exact ⟨ret_bool (calB_2 H2.out).symm, (by repeat (first | with_reducible exact Ext.refl _ | with_reducible assumption | with_reducible refine Ext.alloc ?_ _ | with_reducible refine Ext.drew ?_ | (with_reducible refine Ext.setAt ?_ _ _ _ ?_; rotate_left; omega) | with_reducible refine Ext.trans ?_ (by assumption) | with_reducible exact Past.bel _ | with_reducible refine Ext.trans ?_ (Past.bel _)))⟩
    · obtain ⟨y1, y2⟩ := inB_t.1 h2
      have H2 := Lib.hid h2
      clear h2
      have x1 : ¬ (c.n : Int) < 1 := by omega
      have x2 : ¬ (20 : Int) < c.n := by omega
      by_cases h3 : 6 < c.nr
      · have x3 : (6 : Int) < c.nr := by omega
        go_enter Tryd.func22, Tryd.ntmps22
        go_wp2_with (first | (go_at_call 42; ((with_reducible refine (implIsName_c _ _ hs).mono ?_); rintro e w' ⟨rfl, hx⟩; (first | (obtain ⟨wx, rfl⟩ := Past.again hx) | (obtain ⟨wx, rfl⟩ := Past.ofd hx) | (obtain ⟨wx, rfl⟩ := Past.of hx)))))
        go_ret
        exact ⟨ret_bool (calB_3 h3).symm, (by repeat (first | with_reducible exact Ext.refl _ | with_reducible assumption | with_reducible refine Ext.alloc ?_ _ | with_reducible refine Ext.drew ?_ | (with_reducible refine Ext.setAt ?_ _ _ _ ?_; rotate_left; omega) | with_reducible refine Ext.trans ?_ (by assumption) | with_reducible exact Past.bel _ | with_reducible refine Ext.trans ?_ (Past.bel _)))⟩
      · have x3 : ¬ (6 : Int) < c.nr := by omega
        cases h4 : inB wk 1 12
        · go_enter Tryd.func22, Tryd.ntmps22
          go_wp2_with (first | (go_at_call 42; ((with_reducible refine (implIsName_c _ _ hs).mono ?_); rintro e w' ⟨rfl, hx⟩; (first | (obtain ⟨wx, rfl⟩ := Past.again hx) | (obtain ⟨wx, rfl⟩ := Past.ofd hx) | (obtain ⟨wx, rfl⟩ := Past.of hx)))) | (go_at_call 43; ((with_reducible refine (within_c _ _ _ _).mono ?_); rintro e w' ⟨rfl, rfl⟩)))
          go_ret
          exact ⟨ret_bool (calB_4 h4).symm, (by repeat (first | with_reducible exact Ext.refl _ | with_reducible assumption | with_reducible refine Ext.alloc ?_ _ | with_reducible refine Ext.drew ?_ | (with_reducible refine Ext.setAt ?_ _ _ _ ?_; rotate_left; omega) | with_reducible refine Ext.trans ?_ (by assumption) | with_reducible exact Past.bel _ | with_reducible refine Ext.trans ?_ (Past.bel _)))⟩
        · go_enter Tryd.func22, Tryd.ntmps22
          go_wp2_with (first | (go_at_call 42; ((with_reducible refine (implIsName_c _ _ hs).mono ?_); rintro e w' ⟨rfl, hx⟩; (first | (obtain ⟨wx, rfl⟩ := Past.again hx) | (obtain ⟨wx, rfl⟩ := Past.ofd hx) | (obtain ⟨wx, rfl⟩ := Past.of hx)))) | (go_at_call 43; ((with_reducible refine (within_c _ _ _ _).mono ?_); rintro e w' ⟨rfl, rfl⟩)))
          have H1 := Lib.hid h1; have H4 := Lib.hid h4
          clear h1 h4
          go_loopw [38] (fun i wr => ∃ j : Nat, j ≤ c.n ∧ i = .int .i64 j ∧ monTo nm c.dy c.lp j = true ∧ Ext (w.alloc (.cells #[.string s, .slice ma c.n mc, .slice ra c.nr rc, .int .i64 wk] 31)) wr) (fun i _ => c.n - (intOf i).toNat)
          case atStart => exact ⟨0, by omega, rfl, rfl, (by repeat (first | with_reducible exact Ext.refl _ | with_reducible assumption | with_reducible refine Ext.alloc ?_ _ | with_reducible refine Ext.drew ?_ | (with_reducible refine Ext.setAt ?_ _ _ _ ?_; rotate_left; omega) | with_reducible refine Ext.trans ?_ (by assumption) | with_reducible exact Past.bel _ | with_reducible refine Ext.trans ?_ (Past.bel _)))⟩
          case round =>
            obtain ⟨j, hj, rfl, hmt, hbl⟩ := hrel
            have HM := Lib.hid hmt
            have hp := HP.out.ext hbl
            have HP2 := Lib.hid hp
            have g0 := hp.lt
            have p1 := hp.c1
            have p2 := hp.c2
            have hb0 : Ext w wr := Ext.trans (Ext.alloc (Ext.refl w) _) hbl
            clear hmt
            by_cases hlt : j < c.n
            · obtain ⟨b1, o1, rfl, hb1, q1, q2, q3⟩ := hp.mem.mo.at hlt
              have zj := HZ.out j hlt
              clear hp
              have x4 : (j : Int) ≤ (mc : Int) := by omega
              cases k1 : isNm (nm j)
              · go_wp2_with (first | (go_at_call 42; ((with_reducible refine (implIsName_c _ _ zj).mono ?_); rintro e w' ⟨rfl, hx⟩; (first | (obtain ⟨wx, rfl⟩ := Past.again hx) | (obtain ⟨wx, rfl⟩ := Past.ofd hx) | (obtain ⟨wx, rfl⟩ := Past.of hx)))))
                go_ret
                exact ⟨ret_bool (calB_5 hlt (monA_1 k1)).symm, (by repeat (first | with_reducible exact Ext.refl _ | with_reducible assumption | with_reducible refine Ext.alloc ?_ _ | with_reducible refine Ext.drew ?_ | (with_reducible refine Ext.setAt ?_ _ _ _ ?_; rotate_left; omega) | with_reducible refine Ext.trans ?_ (by assumption) | with_reducible exact Past.bel _ | with_reducible refine Ext.trans ?_ (Past.bel _)))⟩
              · cases k2 : inB (c.dy j) 1 60
                · go_wp2_with (first | (go_at_call 42; ((with_reducible refine (implIsName_c _ _ zj).mono ?_); rintro e w' ⟨rfl, hx⟩; (first | (obtain ⟨wx, rfl⟩ := Past.again hx) | (obtain ⟨wx, rfl⟩ := Past.ofd hx) | (obtain ⟨wx, rfl⟩ := Past.of hx)))) | (go_at_call 43; ((with_reducible refine (within_c _ _ _ _).mono ?_); rintro e w' ⟨rfl, rfl⟩)))
                  go_ret
                  exact ⟨ret_bool (calB_5 hlt (monA_2 k2)).symm, (by repeat (first | with_reducible exact Ext.refl _ | with_reducible assumption | with_reducible refine Ext.alloc ?_ _ | with_reducible refine Ext.drew ?_ | (with_reducible refine Ext.setAt ?_ _ _ _ ?_; rotate_left; omega) | with_reducible refine Ext.trans ?_ (by assumption) | with_reducible exact Past.bel _ | with_reducible refine Ext.trans ?_ (Past.bel _)))⟩
                · cases k3 : inB (c.lp j) 1 60
                  · go_wp2_with (first | (go_at_call 42; ((with_reducible refine (implIsName_c _ _ zj).mono ?_); rintro e w' ⟨rfl, hx⟩; (first | (obtain ⟨wx, rfl⟩ := Past.again hx) | (obtain ⟨wx, rfl⟩ := Past.ofd hx) | (obtain ⟨wx, rfl⟩ := Past.of hx)))) | (go_at_call 43; ((with_reducible refine (within_c _ _ _ _).mono ?_); rintro e w' ⟨rfl, rfl⟩)))
                    go_ret
                    exact ⟨ret_bool (calB_5 hlt (monA_3 k3)).symm, (by repeat (first | with_reducible exact Ext.refl _ | with_reducible assumption | with_reducible refine Ext.alloc ?_ _ | with_reducible refine Ext.drew ?_ | (with_reducible refine Ext.setAt ?_ _ _ _ ?_; rotate_left; omega) | with_reducible refine Ext.trans ?_ (by assumption) | with_reducible exact Past.bel _ | with_reducible refine Ext.trans ?_ (Past.bel _)))⟩
                  · cases k4 : frTo nm j j
                    · go_wp2_with (first | (go_at_call 42; ((with_reducible refine (implIsName_c _ _ zj).mono ?_); rintro e w' ⟨rfl, hx⟩; (first | (obtain ⟨wx, rfl⟩ := Past.again hx) | (obtain ⟨wx, rfl⟩ := Past.ofd hx) | (obtain ⟨wx, rfl⟩ := Past.of hx)))) | (go_at_call 43; ((with_reducible refine (within_c _ _ _ _).mono ?_); rintro e w' ⟨rfl, rfl⟩)))
                      refine (contFunc_c _ _ _ _ nm c.dy c.lp j _ (by omega) (S3.take (HP2.out.mem.mo.ext (by repeat (first | with_reducible exact Ext.refl _ | with_reducible assumption | with_reducible refine Ext.alloc ?_ _ | with_reducible refine Ext.drew ?_ | (with_reducible refine Ext.setAt ?_ _ _ _ ?_; rotate_left; omega) | with_reducible refine Ext.trans ?_ (by assumption) | with_reducible exact Past.bel _ | with_reducible refine Ext.trans ?_ (Past.bel _)))) (by omega)) (by simp [go_sem]) (by simp [go_sem])).mono ?_
                      rintro e w' ⟨rfl, hx1⟩
                      (first | (obtain ⟨wx1, rfl⟩ := Past.again hx1) | (obtain ⟨wx1, rfl⟩ := Past.of hx1))
                      go_wp2_with fail
                      go_ret
                      exact ⟨ret_bool (calB_5 hlt (monA_4 k4)).symm, (by repeat (first | with_reducible exact Ext.refl _ | with_reducible assumption | with_reducible refine Ext.alloc ?_ _ | with_reducible refine Ext.drew ?_ | (with_reducible refine Ext.setAt ?_ _ _ _ ?_; rotate_left; omega) | with_reducible refine Ext.trans ?_ (by assumption) | with_reducible exact Past.bel _ | with_reducible refine Ext.trans ?_ (Past.bel _)))⟩
                    · go_wp2_with (first | (go_at_call 42; ((with_reducible refine (implIsName_c _ _ zj).mono ?_); rintro e w' ⟨rfl, hx⟩; (first | (obtain ⟨wx, rfl⟩ := Past.again hx) | (obtain ⟨wx, rfl⟩ := Past.ofd hx) | (obtain ⟨wx, rfl⟩ := Past.of hx)))) | (go_at_call 43; ((with_reducible refine (within_c _ _ _ _).mono ?_); rintro e w' ⟨rfl, rfl⟩)))
                      refine (contFunc_c _ _ _ _ nm c.dy c.lp j _ (by omega) (S3.take (HP2.out.mem.mo.ext (by repeat (first | with_reducible exact Ext.refl _ | with_reducible assumption | with_reducible refine Ext.alloc ?_ _ | with_reducible refine Ext.drew ?_ | (with_reducible refine Ext.setAt ?_ _ _ _ ?_; rotate_left; omega) | with_reducible refine Ext.trans ?_ (by assumption) | with_reducible exact Past.bel _ | with_reducible refine Ext.trans ?_ (Past.bel _)))) (by omega)) (by simp [go_sem]) (by simp [go_sem])).mono ?_
                      rintro e w' ⟨rfl, hx1⟩
                      (first | (obtain ⟨wx1, rfl⟩ := Past.again hx1) | (obtain ⟨wx1, rfl⟩ := Past.of hx1))
                      have HA := Lib.hid (monA_t k1 k2 k3 k4)
                      go_wp2_with fail
                      exact ⟨⟨j + 1, by omega, by go_num, by simp only [monTo, HM.out, HA.out]; rfl, (by repeat (first | with_reducible exact Ext.refl _ | with_reducible assumption | with_reducible refine Ext.alloc ?_ _ | with_reducible refine Ext.drew ?_ | (with_reducible refine Ext.setAt ?_ _ _ _ ?_; rotate_left; omega) | with_reducible refine Ext.trans ?_ (by assumption) | with_reducible exact Past.bel _ | with_reducible refine Ext.trans ?_ (Past.bel _)))⟩, by simp [intOf]; omega⟩
            · obtain rfl : j = c.n := by omega
              clear hp
              go_wp2_with fail
              have HBL := Lib.hid hb0
              have HPB := Lib.hid (HP.out.ext hbl)
              clear hb0 HP2 p1 p2
              go_loopw [69] (fun i ws => ∃ j : Nat, j ≤ c.nr ∧ i = .int .i64 j ∧ rulTo c.ev c.rs j = true ∧ Ext wr ws) (fun i _ => c.nr - (intOf i).toNat)
              case atStart => exact ⟨0, by omega, rfl, rfl, (by repeat (first | with_reducible exact Ext.refl _ | with_reducible assumption | with_reducible refine Ext.alloc ?_ _ | with_reducible refine Ext.drew ?_ | (with_reducible refine Ext.setAt ?_ _ _ _ ?_; rotate_left; omega) | with_reducible refine Ext.trans ?_ (by assumption) | with_reducible exact Past.bel _ | with_reducible refine Ext.trans ?_ (Past.bel _)))⟩
              case round =>
                obtain ⟨j, hj2, rfl, hrt, hbl2⟩ := hrel
                have HR := Lib.hid hrt
                have hp := HPB.out.ext hbl2
                have HP2 := Lib.hid hp
                have g1 := hp.lt
                have p2 := hp.c2
                have hb0 := Ext.trans HBL.out hbl2
                clear hrt
                by_cases hlt : j < c.nr
                · obtain ⟨b1, o1, rfl, hb1, q1, q2, q3⟩ := hp.mem.ru.at hlt
                  clear hp
                  cases k1 : inB (c.ev j) 1 1000
                  · go_wp2_with (first | (go_at_call 43; ((with_reducible refine (within_c _ _ _ _).mono ?_); rintro e w' ⟨rfl, rfl⟩)))
                    go_ret
                    exact ⟨ret_bool (calB_6 hlt (by rw [k1]; rfl)).symm, (by repeat (first | with_reducible exact Ext.refl _ | with_reducible assumption | with_reducible refine Ext.alloc ?_ _ | with_reducible refine Ext.drew ?_ | (with_reducible refine Ext.setAt ?_ _ _ _ ?_; rotate_left; omega) | with_reducible refine Ext.trans ?_ (by assumption) | with_reducible exact Past.bel _ | with_reducible refine Ext.trans ?_ (Past.bel _)))⟩
                  · have k1' := inB_t.1 k1
                    cases k2 : inB (c.rs j) 0 (c.ev j - 1)
                    · go_wp2_with (first | (go_at_call 43; ((with_reducible refine (within_c _ _ _ _).mono ?_); rintro e w' ⟨rfl, rfl⟩)))
                      go_ret
                      exact ⟨ret_bool (calB_6 hlt (by rw [k1, k2]; rfl)).symm, (by repeat (first | with_reducible exact Ext.refl _ | with_reducible assumption | with_reducible refine Ext.alloc ?_ _ | with_reducible refine Ext.drew ?_ | (with_reducible refine Ext.setAt ?_ _ _ _ ?_; rotate_left; omega) | with_reducible refine Ext.trans ?_ (by assumption) | with_reducible exact Past.bel _ | with_reducible refine Ext.trans ?_ (Past.bel _)))⟩
                    · go_wp2_with (first | (go_at_call 43; ((with_reducible refine (within_c _ _ _ _).mono ?_); rintro e w' ⟨rfl, rfl⟩)))
                      exact ⟨⟨j + 1, by omega, by go_num, by simp only [rulTo, HR.out, k1, k2]; rfl, (by repeat (first | with_reducible exact Ext.refl _ | with_reducible assumption | with_reducible refine Ext.alloc ?_ _ | with_reducible refine Ext.drew ?_ | (with_reducible refine Ext.setAt ?_ _ _ _ ?_; rotate_left; omega) | with_reducible refine Ext.trans ?_ (by assumption) | with_reducible exact Past.bel _ | with_reducible refine Ext.trans ?_ (Past.bel _)))⟩, by simp [intOf]; omega⟩
                · obtain rfl : j = c.nr := by omega
                  clear hp
                  have HE := Lib.hid (fun i (hi : i < c.nr) => (rulTo_at HR.out hi).1)
                  have HV := Lib.hid (calB_7 (s := s) (nm := nm) (c := c) (wk := wk) H1.out H2.out (by omega) H4.out HM.out HR.out)
                  go_wp2_with (first | (go_at_call 46; ((with_reducible refine (cycleYears_c _ _ _ c.ev c.rs c.lf _ hr (HP2.out.mem.ru.ext (by repeat (first | with_reducible exact Ext.refl _ | with_reducible assumption | with_reducible refine Ext.alloc ?_ _ | with_reducible refine Ext.drew ?_ | (with_reducible refine Ext.setAt ?_ _ _ _ ?_; rotate_left; omega) | with_reducible refine Ext.trans ?_ (by assumption) | with_reducible exact Past.bel _ | with_reducible refine Ext.trans ?_ (Past.bel _)))) HE.out).mono ?_); rintro e w' ⟨rfl, hx⟩; (first | (obtain ⟨wx, rfl⟩ := Past.again hx) | (obtain ⟨wx, rfl⟩ := Past.ofd hx) | (obtain ⟨wx, rfl⟩ := Past.of hx)))))
                  go_ret
                  exact ⟨ret_bool HV.out.symm, (by repeat (first | with_reducible exact Ext.refl _ | with_reducible assumption | with_reducible refine Ext.alloc ?_ _ | with_reducible refine Ext.drew ?_ | (with_reducible refine Ext.setAt ?_ _ _ _ ?_; rotate_left; omega) | with_reducible refine Ext.trans ?_ (by assumption) | with_reducible exact Past.bel _ | with_reducible refine Ext.trans ?_ (Past.bel _)))⟩
end Go.Proofs.YtpohhnihgegmfaaDoor

namespace Go.Proofs.YtpohhnihgegmfaaDoor
open Go.RowKit
set_option linter.unusedVariables false
set_option linter.unusedSimpArgs false

theorem eqMonth_self (s : ByteArray) (a b : Int) (w : World) :
    Calls Tryd.prog 49 #[.agg #[.string s, .int .i64 a, .int .i64 b], .agg #[.string s, .int .i64 a, .int .i64 b]] w fun e w' => e = .returned (.bool true) ∧ Ext w w' := by
  go_enter Tryd.func49, Tryd.ntmps49
  go_wp2
  go_ret
  exact ⟨rfl, (by repeat (first | with_reducible exact Ext.refl _ | with_reducible assumption | with_reducible refine Ext.alloc ?_ _ | with_reducible refine Ext.drew ?_ | (with_reducible refine Ext.setAt ?_ _ _ _ ?_; rotate_left; omega) | with_reducible refine Ext.trans ?_ (by assumption) | with_reducible exact Past.bel _ | with_reducible refine Ext.trans ?_ (Past.bel _)))⟩
theorem eqLeapRule_self (a b : Int) (l : Bool) (w : World) :
    Calls Tryd.prog 50 #[.agg #[.int .i64 a, .int .i64 b, .bool l], .agg #[.int .i64 a, .int .i64 b, .bool l]] w fun e w' => e = .returned (.bool true) ∧ Ext w w' := by
  go_enter Tryd.func50, Tryd.ntmps50
  go_wp2
  go_ret
  exact ⟨rfl, (by repeat (first | with_reducible exact Ext.refl _ | with_reducible assumption | with_reducible refine Ext.alloc ?_ _ | with_reducible refine Ext.drew ?_ | (with_reducible refine Ext.setAt ?_ _ _ _ ?_; rotate_left; omega) | with_reducible refine Ext.trans ?_ (by assumption) | with_reducible exact Past.bel _ | with_reducible refine Ext.trans ?_ (Past.bel _)))⟩
set_option maxHeartbeats 400000 in
theorem eqMonthS_self (aa ab : Option Addr) (n ca cb : Nat) (nm : Nat → ByteArray) (dy lp : Nat → Int) (w : World) (hn : n ≤ 1048576) (ha : S3 w aa n nm dy lp) (hb : S3 w ab n nm dy lp) :
    Calls Tryd.prog 24 #[.slice aa n ca, .slice ab n cb] w fun e w' => e = .returned (.bool true) ∧ Ext w w' := by
  have HA := Lib.hid ha
  have HB := Lib.hid hb
  clear ha hb
  go_enter Tryd.func24, Tryd.ntmps24
  go_wp2_with fail
  go_loopw [5] (fun i wr => ∃ k : Nat, k ≤ n ∧ i = .int .i64 k ∧ Ext w wr) (fun i _ => n - (intOf i).toNat)
  case atStart => exact ⟨0, by omega, rfl, Ext.refl _⟩
  case round =>
    obtain ⟨k, hk, rfl, hbl⟩ := hrel
    by_cases hlt : k < n
    · obtain ⟨b1, o1, rfl, hb1, q1, q2, q3⟩ := (S3.ext HA.out hbl).at hlt
      obtain ⟨b2, o2, rfl, hb2, q4, q5, q6⟩ := (S3.ext HB.out hbl).at hlt
      go_wp2_with fail
      refine wp_region_past (by kernel_rfl) (by kernel_rfl) ?_
      repeat (go_big_quiet_step ((go_at_call 49; exact Calls.past (eqMonth_self _ _ _ _))))
      refine wpQuiet_nil ?_
      rintro _ ⟨wx, rfl⟩
      go_wp2_with fail
      exact ⟨⟨k + 1, by omega, by go_num, (by repeat (first | with_reducible exact Ext.refl _ | with_reducible assumption | with_reducible refine Ext.alloc ?_ _ | with_reducible refine Ext.drew ?_ | (with_reducible refine Ext.setAt ?_ _ _ _ ?_; rotate_left; omega) | with_reducible refine Ext.trans ?_ (by assumption) | with_reducible exact Past.bel _ | with_reducible refine Ext.trans ?_ (Past.bel _)))⟩, by simp [intOf]; omega⟩
    · obtain rfl : k = n := by omega
      go_wp2_with fail
      go_ret
      exact ⟨rfl, hbl⟩
set_option maxHeartbeats 400000 in
theorem eqLeapRuleS_self (aa ab : Option Addr) (n ca cb : Nat) (ev rs : Nat → Int) (lf : Nat → Bool) (w : World) (hn : n ≤ 1048576) (ha : R3 w aa n ev rs lf) (hb : R3 w ab n ev rs lf) :
    Calls Tryd.prog 25 #[.slice aa n ca, .slice ab n cb] w fun e w' => e = .returned (.bool true) ∧ Ext w w' := by
  have HA := Lib.hid ha
  have HB := Lib.hid hb
  clear ha hb
  go_enter Tryd.func25, Tryd.ntmps25
  go_wp2_with fail
  go_loopw [5] (fun i wr => ∃ k : Nat, k ≤ n ∧ i = .int .i64 k ∧ Ext w wr) (fun i _ => n - (intOf i).toNat)
  case atStart => exact ⟨0, by omega, rfl, Ext.refl _⟩
  case round =>
    obtain ⟨k, hk, rfl, hbl⟩ := hrel
    by_cases hlt : k < n
    · obtain ⟨b1, o1, rfl, hb1, q1, q2, q3⟩ := (R3.ext HA.out hbl).at hlt
      obtain ⟨b2, o2, rfl, hb2, q4, q5, q6⟩ := (R3.ext HB.out hbl).at hlt
      go_wp2_with fail
      refine wp_region_past (by kernel_rfl) (by kernel_rfl) ?_
      repeat (go_big_quiet_step ((go_at_call 50; exact Calls.past (eqLeapRule_self _ _ _ _))))
      refine wpQuiet_nil ?_
      rintro _ ⟨wx, rfl⟩
      go_wp2_with fail
      exact ⟨⟨k + 1, by omega, by go_num, (by repeat (first | with_reducible exact Ext.refl _ | with_reducible assumption | with_reducible refine Ext.alloc ?_ _ | with_reducible refine Ext.drew ?_ | (with_reducible refine Ext.setAt ?_ _ _ _ ?_; rotate_left; omega) | with_reducible refine Ext.trans ?_ (by assumption) | with_reducible exact Past.bel _ | with_reducible refine Ext.trans ?_ (Past.bel _)))⟩, by simp [intOf]; omega⟩
    · obtain rfl : k = n := by omega
      go_wp2_with fail
      go_ret
      exact ⟨rfl, hbl⟩
end Go.Proofs.YtpohhnihgegmfaaDoor

namespace Go.Proofs.YtpohhnihgegmfaaDoor
open Go.RowKit
set_option linter.unusedVariables false
set_option linter.unusedSimpArgs false

set_option maxHeartbeats 400000 in
theorem eqCalendar_self (s : ByteArray) (m1 r1 m2 r2 : Option Addr) (c1 d1 c2 d2 : Nat) (wk : Int) (nm : Nat → ByteArray) (c : CalN) (w : World) (hm : c.n ≤ 1048576) (hr : c.nr ≤ 1048576) (h1 : CalM w m1 r1 nm c) (h2 : CalM w m2 r2 nm c) :
    Calls Tryd.prog 10 #[.agg #[.string s, .slice m1 c.n c1, .slice r1 c.nr d1, .int .i64 wk], .agg #[.string s, .slice m2 c.n c2, .slice r2 c.nr d2, .int .i64 wk]] w fun e w' => e = .returned (.bool true) ∧ Ext w w' := by
  have H1 := Lib.hid h1
  have H2 := Lib.hid h2
  clear h1 h2
  go_enter Tryd.func10, Tryd.ntmps10
  go_wp2_with fail
  refine (eqMonthS_self _ _ _ _ _ _ _ _ _ hm (H1.out.mo.ext (by repeat (first | with_reducible exact Ext.refl _ | with_reducible assumption | with_reducible refine Ext.alloc ?_ _ | with_reducible refine Ext.drew ?_ | (with_reducible refine Ext.setAt ?_ _ _ _ ?_; rotate_left; omega) | with_reducible refine Ext.trans ?_ (by assumption) | with_reducible exact Past.bel _ | with_reducible refine Ext.trans ?_ (Past.bel _)))) (H2.out.mo.ext (by repeat (first | with_reducible exact Ext.refl _ | with_reducible assumption | with_reducible refine Ext.alloc ?_ _ | with_reducible refine Ext.drew ?_ | (with_reducible refine Ext.setAt ?_ _ _ _ ?_; rotate_left; omega) | with_reducible refine Ext.trans ?_ (by assumption) | with_reducible exact Past.bel _ | with_reducible refine Ext.trans ?_ (Past.bel _))))).mono ?_
  rintro e w1 ⟨rfl, hx1⟩
  have e1 : ∀ k v, k < 4 → ((w.alloc (.cells #[.string s, .slice m1 c.n c1, .slice r1 c.nr d1, .int .i64 wk] 31)).alloc (.cells #[.string s, .slice m2 c.n c2, .slice r2 c.nr d2, .int .i64 wk] 31)).cell? ⟨w.heap.size, k, none⟩ = some v → w1.cell? ⟨w.heap.size, k, none⟩ = some v := fun k v _ h => by rw [hx1.cell (by simp <;> omega)]; exact h
  have e2 : ∀ k v, k < 4 → ((w.alloc (.cells #[.string s, .slice m1 c.n c1, .slice r1 c.nr d1, .int .i64 wk] 31)).alloc (.cells #[.string s, .slice m2 c.n c2, .slice r2 c.nr d2, .int .i64 wk] 31)).cell? ⟨w.heap.size + 1, k, none⟩ = some v → w1.cell? ⟨w.heap.size + 1, k, none⟩ = some v := fun k v _ h => by rw [hx1.cell (by simp <;> omega)]; exact h
  have a2 := e1 2 (.slice r1 c.nr d1) (by omega) (by simp [go_sem])
  have a3 := e1 3 (.int .i64 wk) (by omega) (by simp [go_sem])
  have b2 := e2 2 (.slice r2 c.nr d2) (by omega) (by simp [go_sem])
  have b3 := e2 3 (.int .i64 wk) (by omega) (by simp [go_sem])
  have z1 := hx1.size
  simp only [World.size_alloc] at z1
  have hxw : Ext w w1 := Ext.trans (by repeat (first | with_reducible exact Ext.refl _ | with_reducible assumption | with_reducible refine Ext.alloc ?_ _ | with_reducible refine Ext.drew ?_ | (with_reducible refine Ext.setAt ?_ _ _ _ ?_; rotate_left; omega) | with_reducible refine Ext.trans ?_ (by assumption) | with_reducible exact Past.bel _ | with_reducible refine Ext.trans ?_ (Past.bel _))) hx1
  clear e1 e2 hx1
  have g0 : w.heap.size < w1.heap.size := by omega
  have g1 : w.heap.size + 1 < w1.heap.size := by omega
  go_wp2_with fail
  refine (eqLeapRuleS_self _ _ _ _ _ _ _ _ _ hr (H1.out.ru.ext (by repeat (first | with_reducible exact Ext.refl _ | with_reducible assumption | with_reducible refine Ext.alloc ?_ _ | with_reducible refine Ext.drew ?_ | (with_reducible refine Ext.setAt ?_ _ _ _ ?_; rotate_left; omega) | with_reducible refine Ext.trans ?_ (by assumption) | with_reducible exact Past.bel _ | with_reducible refine Ext.trans ?_ (Past.bel _)))) (H2.out.ru.ext (by repeat (first | with_reducible exact Ext.refl _ | with_reducible assumption | with_reducible refine Ext.alloc ?_ _ | with_reducible refine Ext.drew ?_ | (with_reducible refine Ext.setAt ?_ _ _ _ ?_; rotate_left; omega) | with_reducible refine Ext.trans ?_ (by assumption) | with_reducible exact Past.bel _ | with_reducible refine Ext.trans ?_ (Past.bel _))))).mono ?_
  rintro e w2 ⟨rfl, hx2⟩
  have u3 : w2.cell? ⟨w.heap.size, 3, none⟩ = some (.int .i64 wk) := by rw [hx2.cell g0]; exact a3
  have v3 : w2.cell? ⟨w.heap.size + 1, 3, none⟩ = some (.int .i64 wk) := by rw [hx2.cell g1]; exact b3
  go_wp2_with fail
  go_ret
  exact ⟨rfl, (by repeat (first | with_reducible exact Ext.refl _ | with_reducible assumption | with_reducible refine Ext.alloc ?_ _ | with_reducible refine Ext.drew ?_ | (with_reducible refine Ext.setAt ?_ _ _ _ ?_; rotate_left; omega) | with_reducible refine Ext.trans ?_ (by assumption) | with_reducible exact Past.bel _ | with_reducible refine Ext.trans ?_ (Past.bel _)))⟩
end Go.Proofs.YtpohhnihgegmfaaDoor

namespace Go.Proofs.YtpohhnihgegmfaaDoor
open Go.ChangeShapes Go.WideShapes Go.RowKit Go.Deep
set_option linter.unusedVariables false

/-- what a calendar's arguments hold -/
structure CalA (w : World) (s : ByteArray) (ma ra : Option Addr) (mc rc : Nat) (nm : Nat → ByteArray) (c : CalN) : Prop where
  sz : s.size ≤ 9223372036854775807
  nz : ∀ i, i < c.n → (nm i).size ≤ 9223372036854775807
  nb : c.n ≤ maxLen
  rb : c.nr ≤ maxLen
  mem : CalM w ma ra nm c
section
variable {H : Type} {enc : TypeId × Value → H} {P : Program} {w : World} {base : Nat} {spare : Nat → Bool} {held : Bool}
theorem fld {fs : Array Field} {j : Nat} {u : TypeDesc} (h : (fs[j]?).bind (fun f => P.underlying f.type) = some u) : ∃ f, fs[j]? = some f ∧ P.underlying f.type = some u := by
  cases e : fs[j]? with
  | none => rw [e] at h; simp at h
  | some f => rw [e] at h; exact ⟨f, rfl, h⟩
theorem fldT {fs : Array Field} {j : Nat} (hj : j < fs.size) {u : TypeDesc} (h : (fs[j]?).bind (fun f => P.underlying f.type) = some u) : P.underlying fs[j].type = some u := by
  rw [Array.getElem?_eq_getElem hj] at h; exact h
theorem down_cal {t em er : TypeId} {fs fm fr : Array Field} {v : Value} {d : DataW H} {p : List MemPlace} {r : Reach} {b0 : Nat}
    (hs : P.underlying t = some (.struct fs)) (hone : oneCellFields P fs = true) (hC : P.cellsOf t = fs.size) (h4 : fs.size = 4)
    (k0 : (fs[0]?).bind (fun f => P.underlying f.type) = some .string) (k1 : (fs[1]?).bind (fun f => P.underlying f.type) = some (.slice em)) (k2 : (fs[2]?).bind (fun f => P.underlying f.type) = some (.slice er)) (k3 : (fs[3]?).bind (fun f => P.underlying f.type) = some (.int .i64))
    (hm : P.underlying em = some (.struct fm)) (honem : oneCellFields P fm = true) (hCm : P.cellsOf em = fm.size) (hm3 : fm.size = 3)
    (m0 : (fm[0]?).bind (fun f => P.underlying f.type) = some .string) (m1 : (fm[1]?).bind (fun f => P.underlying f.type) = some (.int .i64)) (m2 : (fm[2]?).bind (fun f => P.underlying f.type) = some (.int .i64))
    (hr : P.underlying er = some (.struct fr)) (honer : oneCellFields P fr = true) (hCr : P.cellsOf er = fr.size) (hr3 : fr.size = 3)
    (r0 : (fr[0]?).bind (fun f => P.underlying f.type) = some (.int .i64)) (r1 : (fr[1]?).bind (fun f => P.underlying f.type) = some (.int .i64)) (r2 : (fr[2]?).bind (fun f => P.underlying f.type) = some .bool)
    (hv : Value.okWide P w r b0 t v) (h : DataW.Trod enc P w base spare held t v d p) :
    ∃ (s : ByteArray) (ma ra : Option Addr) (mc rc : Nat) (wk : Int) (nm : Nat → ByteArray) (c : CalN), v = .agg #[.string s, .slice ma c.n mc, .slice ra c.nr rc, .int .i64 wk] ∧ (Lit.int .i64 wk).wf = true ∧ CalA w s ma ra mc rc nm c := by
  obtain ⟨cs, rfl, hsz⟩ := okWide_struct hs hv
  obtain ⟨fuel, hf⟩ := h
  obtain ⟨n, hl, hfl⟩ := down_struct hs hone hC (cs := cs.toList) (by simpa [Value.cells] using hf)
  obtain ⟨f0, e0, u0⟩ := fld k0
  obtain ⟨f1, e1, u1⟩ := fld k1
  obtain ⟨f2, e2, u2⟩ := fld k2
  obtain ⟨f3, e3, u3⟩ := fld k3
  obtain ⟨v0, y0, g0, t0⟩ := hfl 0 f0 e0
  obtain ⟨v1, y1, g1, t1⟩ := hfl 1 f1 e1
  obtain ⟨v2, y2, g2, t2⟩ := hfl 2 f2 e2
  obtain ⟨v3, y3, g3, t3⟩ := hfl 3 f3 e3
  obtain ⟨s, hs0, _, hss⟩ := DataW.trod_string u0 t0
  obtain ⟨wk, hs3, _, hwk⟩ := DataW.trod_int u3 t3
  obtain ⟨ma, n1, mc, z, hv1, nc1, mx1, hz⟩ := down_rows u1 hm honem hCm (by omega) t1
  obtain ⟨ra, n2, rc, y, hv2, nc2, mx2, hy⟩ := down_rows u2 hr honer hCr (by omega) t2
  simp only [List.cons.injEq, and_true] at hs0 hs3
  subst hs0; subst hs3; subst hv1; subst hv2
  have hcs : cs = #[.string s, .slice ma n1 mc, .slice ra n2 rc, .int .i64 wk] := by
    apply Array.toList_inj.1
    apply List.ext_getElem?
    intro j
    obtain rfl | rfl | rfl | rfl | hj : j = 0 ∨ j = 1 ∨ j = 2 ∨ j = 3 ∨ 4 ≤ j := by omega
    · rw [g0]; rfl
    · rw [g1]; rfl
    · rw [g2]; rfl
    · rw [g3]; rfl
    · rw [List.getElem?_eq_none (by omega), List.getElem?_eq_none (by simpa using hj)]
  subst hcs
  -- the months
  have hM : ∀ i, i < n1 → ∃ q : ByteArray × Int × Int, q.1.size ≤ maxLen ∧ (0 < n1 → z i 0 = .string q.1 ∧ z i 1 = .int .i64 q.2.1 ∧ z i 2 = .int .i64 q.2.2) := fun i hi => by
    obtain ⟨b, off, ha, hb, hc⟩ := hz (by omega)
    obtain ⟨_, a0, _, c0⟩ := hc i hi 0 (by omega)
    obtain ⟨_, a1, _, c1⟩ := hc i hi 1 (by omega)
    obtain ⟨_, a2, _, c2⟩ := hc i hi 2 (by omega)
    obtain ⟨s', d0, _, hs'⟩ := DataW.trod_string (fldT (by omega) m0) c0
    obtain ⟨x1, d1, _, _⟩ := DataW.trod_int (fldT (by omega) m1) c1
    obtain ⟨x2, d2, _, _⟩ := DataW.trod_int (fldT (by omega) m2) c2
    simp only [List.cons.injEq, and_true] at d0 d1 d2
    exact ⟨(s', x1, x2), hs', fun _ => ⟨d0, d1, d2⟩⟩
  have hR : ∀ i, i < n2 → ∃ q : Int × Int × Bool, (0 < n2 → y i 0 = .int .i64 q.1 ∧ y i 1 = .int .i64 q.2.1 ∧ y i 2 = .bool q.2.2) := fun i hi => by
    obtain ⟨b, off, ha, hb, hc⟩ := hy (by omega)
    obtain ⟨_, a0, _, c0⟩ := hc i hi 0 (by omega)
    obtain ⟨_, a1, _, c1⟩ := hc i hi 1 (by omega)
    obtain ⟨_, a2, _, c2⟩ := hc i hi 2 (by omega)
    obtain ⟨x0, d0, _, _⟩ := DataW.trod_int (fldT (by omega) r0) c0
    obtain ⟨x1, d1, _, _⟩ := DataW.trod_int (fldT (by omega) r1) c1
    obtain ⟨x2, d2, _⟩ := DataW.trod_bool (fldT (by omega) r2) c2
    simp only [List.cons.injEq, and_true] at d0 d1 d2
    exact ⟨(x0, x1, x2), fun _ => ⟨d0, d1, d2⟩⟩
  obtain ⟨q, hq⟩ := choose_lt hM
  obtain ⟨p, hp⟩ := choose_lt hR
  refine ⟨s, ma, ra, mc, rc, wk, fun i => (q i).1, ⟨n2, fun i => (p i).1, fun i => (p i).2.1, fun i => (p i).2.2, n1, fun i => (q i).2.1, fun i => (q i).2.2⟩, rfl, hwk, ⟨by unfold maxLen at hss; omega, fun i hi => by have := (hq i hi).1; unfold maxLen at this; exact Nat.le_trans this (by decide), by dsimp only; omega, by dsimp only; omega, ?_, ?_⟩⟩
  · intro h0
    obtain ⟨b, off, ha, hb, hc⟩ := hz h0
    refine ⟨b, off, ha, hb, fun i hi => ?_⟩
    obtain ⟨d0, d1, d2⟩ := (hq i hi).2 h0
    have e0 := (hc i hi 0 (by omega)).1
    have e1 := (hc i hi 1 (by omega)).1
    have e2 := (hc i hi 2 (by omega)).1
    rw [hm3, d0] at e0; rw [hm3, d1] at e1; rw [hm3, d2] at e2
    exact ⟨e0, e1, e2⟩
  · intro h0
    obtain ⟨b, off, ha, hb, hc⟩ := hy h0
    refine ⟨b, off, ha, hb, fun i hi => ?_⟩
    obtain ⟨d0, d1, d2⟩ := hp i hi h0
    have e0 := (hc i hi 0 (by omega)).1
    have e1 := (hc i hi 1 (by omega)).1
    have e2 := (hc i hi 2 (by omega)).1
    rw [hr3, d0] at e0; rw [hr3, d1] at e1; rw [hr3, d2] at e2
    exact ⟨e0, e1, e2⟩
end
end Go.Proofs.YtpohhnihgegmfaaDoor

namespace Go.Proofs.YtpohhnihgegmfaaDoor
open Go.RowKit
set_option linter.unusedVariables false
set_option linter.unusedSimpArgs false

end Go.Proofs.YtpohhnihgegmfaaDoor

namespace Go.Proofs.YtpohhnihgegmfaaDoor
open Go.RowKit
set_option linter.unusedVariables false
set_option linter.unusedSimpArgs false

/-- a calendar handed on by value -/
structure CalV (w : World) (s : ByteArray) (ma ra : Option Addr) (mc rc : Nat) (nm : Nat → ByteArray) (c : CalN) : Prop where
  nb : c.n ≤ 1048576
  rb : c.nr ≤ 1048576
  mb : c.n ≤ mc
  mx : mc ≤ maxLen
  sz : s.size ≤ 9223372036854775807
  nz : ∀ i, i < c.n → (nm i).size ≤ 9223372036854775807
  mem : CalM w ma ra nm c
theorem CalV.ext {w w' : World} {s : ByteArray} {ma ra : Option Addr} {mc rc : Nat} {nm : Nat → ByteArray} {c : CalN} (h : CalV w s ma ra mc rc nm c) (e : Ext w w') : CalV w' s ma ra mc rc nm c := { h with mem := h.mem.ext e }
/-- a calendar behind a pointer, with its bounds -/
structure CalQ (w : World) (g : Nat) (s : ByteArray) (ma ra : Option Addr) (mc rc : Nat) (wk : Int) (nm : Nat → ByteArray) (c : CalN) : Prop where
  nb : c.n ≤ 1048576
  rb : c.nr ≤ 1048576
  sz : s.size ≤ 9223372036854775807
  nz : ∀ i, i < c.n → (nm i).size ≤ 9223372036854775807
  p : CalP w g s ma ra mc rc wk nm c
theorem CalQ.ext {w w' : World} {g : Nat} {s : ByteArray} {ma ra : Option Addr} {mc rc : Nat} {wk : Int} {nm : Nat → ByteArray} {c : CalN} (h : CalQ w g s ma ra mc rc wk nm c) (e : Ext w w') : CalQ w' g s ma ra mc rc wk nm c := { h with p := h.p.ext e }
theorem CalQ.new {w : World} (T : TypeId) {s : ByteArray} {ma ra : Option Addr} {mc rc : Nat} (wk : Int) {nm : Nat → ByteArray} {c : CalN} (h : CalV w s ma ra mc rc nm c) :
    CalQ (w.alloc (.cells #[.string s, .slice ma c.n mc, .slice ra c.nr rc, .int .i64 wk] T)) w.heap.size s ma ra mc rc wk nm c :=
  ⟨h.nb, h.rb, h.sz, h.nz, CalP.new T s ma ra mc rc wk h.mem⟩
theorem validCalendar_v {s : ByteArray} {ma ra : Option Addr} {mc rc : Nat} (wk : Int) {nm : Nat → ByteArray} {c : CalN} {w : World} (h : CalV w s ma ra mc rc nm c) :
    Calls Tryd.prog 22 #[.agg #[.string s, .slice ma c.n mc, .slice ra c.nr rc, .int .i64 wk]] w fun e w' => e = .returned (.bool (calB s nm c wk)) ∧ Ext w w' :=
  validCalendar_c _ _ _ _ _ _ _ _ _ h.nb h.rb h.mb h.mx h.sz h.nz h.mem
theorem l15Ok_q {g : Nat} {s : ByteArray} {ma ra : Option Addr} {mc rc : Nat} {wk : Int} {nm : Nat → ByteArray} {c : CalN} {w : World} (h : CalQ w g s ma ra mc rc wk nm c) :
    Calls Tryd.prog 39 #[.pointer (some ⟨g, 0, none⟩)] w fun e w' => e = .returned (.bool (calB s nm c wk)) ∧ Ext w w' :=
  l15Ok_c _ _ _ _ _ _ _ _ _ _ h.nb h.rb h.sz h.nz h.p
theorem isYear_c (y : Int) (w : World) : Calls Tryd.prog 36 #[.int .i64 y] w fun e w' => e = .returned (.bool (inB y 0 9999)) ∧ w = w' := by
  go_enter Tryd.func36, Tryd.ntmps36
  go_wp2_with (go_at_call 43; ((with_reducible refine (within_c _ _ _ _).mono ?_); rintro e w' ⟨rfl, rfl⟩))
  go_ret
  exact ⟨rfl, rfl⟩
theorem l15Year_c (y : Int) (w : World) : Calls Tryd.prog 54 #[.int .i64 y] w fun e w' => e = .returned (.bool (inB y 0 9999)) ∧ w = w' := by
  go_enter Tryd.func54, Tryd.ntmps54
  go_wp2_with (go_at_call 37; ((with_reducible refine (l00In_c _ _ _ _).mono ?_); rintro e w' ⟨rfl, rfl⟩))
  go_ret
  exact ⟨rfl, rfl⟩
/-- what IsLeapYear returns -/
def leapR (s : ByteArray) (nm : Nat → ByteArray) (c : CalN) (wk y : Int) : Bool := calB s nm c wk && (inB y 0 9999 && c.leap y)
end Go.Proofs.YtpohhnihgegmfaaDoor

namespace Go.Proofs.YtpohhnihgegmfaaDoor
set_option linter.unusedVariables false
/-- codes and values -/
def ymC (s : ByteArray) (nm : Nat → ByteArray) (c : CalN) (wk y m : Int) : Int := if calB s nm c wk then (if inB y 0 9999 && inB m 1 (c.n : Int) then 0 else 2) else 1
def ymV (s : ByteArray) (nm : Nat → ByteArray) (c : CalN) (wk y m : Int) : Int := if ymC s nm c wk y m = 0 then c.mo y (m - 1).toNat else 0
def yrC (s : ByteArray) (nm : Nat → ByteArray) (c : CalN) (wk y : Int) : Int := if calB s nm c wk then (if inB y 0 9999 then 0 else 2) else 1
def yrV (s : ByteArray) (nm : Nat → ByteArray) (c : CalN) (wk y : Int) : Int := if yrC s nm c wk y = 0 then c.yl y else 0
/-- a date is a day of a valid calendar -/
def dtB (c : CalN) (y m d : Int) : Bool := inB y 0 9999 && (inB m 1 (c.n : Int) && inB d 1 (c.mo y (m - 1).toNat))
def vdR (s : ByteArray) (nm : Nat → ByteArray) (c : CalN) (wk y m d : Int) : Bool := calB s nm c wk && dtB c y m d
theorem mon_nat {n : Nat} {m : Int} (h : inB m 1 (n : Int) = true) : ∃ j : Nat, m = (j : Int) + 1 ∧ j < n := by
  have := inB_t.1 h
  exact ⟨(m - 1).toNat, by omega, by omega⟩
theorem succ_pred (j : Nat) : ((j : Int) + 1 - 1).toNat = j := by omega
end Go.Proofs.YtpohhnihgegmfaaDoor

namespace Go.Proofs.YtpohhnihgegmfaaDoor
open Go.RowKit
set_option linter.unusedVariables false
set_option linter.unusedSimpArgs false

end Go.Proofs.YtpohhnihgegmfaaDoor

namespace Go.Proofs.YtpohhnihgegmfaaDoor
open Go.RowKit
set_option linter.unusedVariables false
set_option linter.unusedSimpArgs false

theorem yl_t {c : CalN} {y : Int} (h : c.leap y = true) : c.yl y = sm c.lp c.n := by rw [yl_if, h]; rfl
theorem yl_f {c : CalN} {y : Int} (h : c.leap y = false) : c.yl y = sm c.dy c.n := by rw [yl_if, h]; rfl
end Go.Proofs.YtpohhnihgegmfaaDoor

namespace Go.Proofs.YtpohhnihgegmfaaDoor
open Go.RowKit
set_option linter.unusedVariables false
set_option linter.unusedSimpArgs false

theorem CalA.v {w W : World} {s : ByteArray} {ma ra : Option Addr} {mc rc : Nat} {nm : Nat → ByteArray} {c : CalN} (h : CalA w s ma ra mc rc nm c) (hm : c.n ≤ 1048576) (hr : c.nr ≤ 1048576) {m2 r2 : Option Addr} (k : CalM W m2 r2 nm c) : CalV W s m2 r2 c.n c.nr nm c :=
  ⟨hm, hr, Nat.le_refl _, by unfold maxLen; omega, h.sz, h.nz, k⟩
end Go.Proofs.YtpohhnihgegmfaaDoor

namespace Go.Proofs.YtpohhnihgegmfaaDoor
open Go.RowKit
set_option linter.unusedVariables false
set_option linter.unusedSimpArgs false

theorem validCalendar_e {s : ByteArray} {ma ra : Option Addr} {mc rc : Nat} (wk : Int) {nm : Nat → ByteArray} {c : CalN} {w : World} {b : Bool} (hb : calB s nm c wk = b) (h : CalV w s ma ra mc rc nm c) :
    Calls Tryd.prog 22 #[.agg #[.string s, .slice ma c.n mc, .slice ra c.nr rc, .int .i64 wk]] w fun e w' => e = .returned (.bool b) ∧ Ext w w' := by subst hb; exact validCalendar_v wk h
theorem isYear_e {y : Int} {b : Bool} (hb : inB y 0 9999 = b) (w : World) : Calls Tryd.prog 36 #[.int .i64 y] w fun e w' => e = .returned (.bool b) ∧ w = w' := by subst hb; exact isYear_c y w
end Go.Proofs.YtpohhnihgegmfaaDoor

namespace Go.Proofs.YtpohhnihgegmfaaDoor
set_option linter.unusedVariables false
/-- months alike, rules alike, as far as place k -/
def moE (n1 : Nat → ByteArray) (c1 : CalN) (n2 : Nat → ByteArray) (c2 : CalN) (k : Nat) : Bool := decide (n1 k = n2 k) && (decide (c1.dy k = c2.dy k) && decide (c1.lp k = c2.lp k))
def ruE (c1 c2 : CalN) (k : Nat) : Bool := decide (c1.ev k = c2.ev k) && (decide (c1.rs k = c2.rs k) && decide (c1.lf k = c2.lf k))
def upTo (f : Nat → Bool) : Nat → Bool
  | 0 => true
  | k + 1 => upTo f k && f k
theorem upTo_ff {f : Nat → Bool} {n k : Nat} (hk : k < n) (h : f k = false) : upTo f n = false := by
  induction n with
  | zero => omega
  | succ n ih =>
    by_cases e : k = n
    · subst e; simp only [upTo, h, Bool.and_false]
    · simp only [upTo, ih (by omega), Bool.false_and]
theorem moE_f {n1 n2 : Nat → ByteArray} {c1 c2 : CalN} {k : Nat} (h : moE n1 c1 n2 c2 k = false) : (¬ n1 k = n2 k) ∨ (n1 k = n2 k ∧ ¬ c1.dy k = c2.dy k) ∨ (n1 k = n2 k ∧ c1.dy k = c2.dy k ∧ ¬ c1.lp k = c2.lp k) := by
  simp only [moE, Bool.and_eq_false_iff, decide_eq_false_iff_not] at h
  by_cases a : n1 k = n2 k
  · by_cases b : c1.dy k = c2.dy k
    · rcases h with h | h | h
      · exact absurd a h
      · exact absurd b h
      · exact .inr (.inr ⟨a, b, h⟩)
    · exact .inr (.inl ⟨a, b⟩)
  · exact .inl a
theorem moE_t {n1 n2 : Nat → ByteArray} {c1 c2 : CalN} {k : Nat} (h : moE n1 c1 n2 c2 k = true) : n1 k = n2 k ∧ c1.dy k = c2.dy k ∧ c1.lp k = c2.lp k := by
  simpa only [moE, Bool.and_eq_true, decide_eq_true_eq] using h
theorem ruE_f {c1 c2 : CalN} {k : Nat} (h : ruE c1 c2 k = false) : (¬ c1.ev k = c2.ev k) ∨ (c1.ev k = c2.ev k ∧ ¬ c1.rs k = c2.rs k) ∨ (c1.ev k = c2.ev k ∧ c1.rs k = c2.rs k ∧ ¬ c1.lf k = c2.lf k) := by
  simp only [ruE, Bool.and_eq_false_iff, decide_eq_false_iff_not] at h
  by_cases a : c1.ev k = c2.ev k
  · by_cases b : c1.rs k = c2.rs k
    · rcases h with h | h | h
      · exact absurd a h
      · exact absurd b h
      · exact .inr (.inr ⟨a, b, h⟩)
    · exact .inr (.inl ⟨a, b⟩)
  · exact .inl a
theorem ruE_t {c1 c2 : CalN} {k : Nat} (h : ruE c1 c2 k = true) : c1.ev k = c2.ev k ∧ c1.rs k = c2.rs k ∧ c1.lf k = c2.lf k := by
  simpa only [ruE, Bool.and_eq_true, decide_eq_true_eq] using h
/-- two calendars are the same -/
def moS (n1 : Nat → ByteArray) (c1 : CalN) (n2 : Nat → ByteArray) (c2 : CalN) : Bool := decide (c1.n = c2.n) && upTo (moE n1 c1 n2 c2) c1.n
def ruS (c1 c2 : CalN) : Bool := decide (c1.nr = c2.nr) && upTo (ruE c1 c2) c1.nr
def sameB (s1 : ByteArray) (n1 : Nat → ByteArray) (c1 : CalN) (w1 : Int) (s2 : ByteArray) (n2 : Nat → ByteArray) (c2 : CalN) (w2 : Int) : Bool :=
  decide (s1 = s2) && (decide (w1 = w2) && (moS n1 c1 n2 c2 && ruS c1 c2))
end Go.Proofs.YtpohhnihgegmfaaDoor

namespace Go.Proofs.YtpohhnihgegmfaaDoor
set_option linter.unusedVariables false
theorem sm_find {f : Nat → Int} {K : Nat} {x : Int} (h0 : 0 ≤ x) (h1 : x < sm f K) : ∃ y, y < K ∧ sm f y ≤ x ∧ x < sm f (y + 1) := by
  induction K with
  | zero => simp [sm] at h1; omega
  | succ K ih =>
    by_cases h : x < sm f K
    · obtain ⟨y, a, b⟩ := ih h
      exact ⟨y, by omega, b⟩
    · exact ⟨K, by omega, by omega, h1⟩
section
variable {c : CalN}
theorem CalB.bef_le (b : CalB c) {i k : Nat} (h : i ≤ k) : c.bef i ≤ c.bef k := sm_mono h fun j _ => by have := (b.yl (j : Int)).1; omega
theorem CalB.bef_lt (b : CalB c) {i k : Nat} (h : i < k) : c.bef i < c.bef k := sm_lt h fun j _ => (b.yl (j : Int)).1
theorem bef_succ (y : Nat) : c.bef (y + 1) = c.bef y + c.yl (y : Int) := rfl
theorem CalB.sm_le (b : CalB c) (y : Int) {i k : Nat} (h : i ≤ k) (hk : k ≤ c.n) : sm (c.mo y) i ≤ sm (c.mo y) k := sm_mono h fun j hj => by have := (b.mo y (show j < c.n by omega)).1; omega
theorem CalB.rul (b : CalB c) : rulB c.ev c.rs c.nr = true := by
  have h : ∀ k, k ≤ c.nr → rulTo c.ev c.rs k = true := fun k => by
    induction k with
    | zero => intro _; rfl
    | succ k ih =>
      intro hk
      have h1 := b.ev k (by omega)
      have h2 := b.rs k (by omega)
      simp only [rulTo, ih (by omega), Bool.true_and, Bool.and_eq_true, inB_t]
      exact ⟨h1, h2⟩
  simp only [rulB, h _ (Nat.le_refl _), b.cy, b.nr6, decide_true, Bool.and_true]
/-- years by cycles -/
theorem CalB.cut (b : CalB c) (k : Nat) : ∃ C q r : Nat, c.cyc = (C : Int) ∧ 1 ≤ C ∧ C ≤ 2000 ∧ k = q * C + r ∧ r < C ∧ (k : Int) / (C : Int) = (q : Int) ∧ (k : Int) % (C : Int) = (r : Int) ∧ c.bef (q * C) = (q : Int) * c.bef C := by
  obtain ⟨C, hC, h1, h2⟩ := b.cycN
  refine ⟨C, k / C, k % C, hC, h1, h2, ?_, Nat.mod_lt _ (by omega), by simp, by simp, ?_⟩
  · have := Nat.div_add_mod k C; rw [Nat.mul_comm] at this; exact this.symm
  · have := b.bef_mul hC (k / C) 0
    simpa [CalN.bef, sm] using this
/-- every number below the end is a day's -/
theorem Loc.ex (b : CalB c) {x : Int} {K : Nat} (h0 : 0 ≤ x) (h1 : x < c.bef K) : ∃ y m d, y < K ∧ Loc c x y m d := by
  obtain ⟨y, hy, a1, a2⟩ := sm_find (f := fun i => c.yl (i : Int)) h0 h1
  have a1' : c.bef y ≤ x := a1
  have a2' : x < c.bef (y + 1) := a2
  have h2 : x - c.bef y < sm (c.mo (y : Int)) c.n := by
    have : c.bef (y + 1) = c.bef y + sm (c.mo (y : Int)) c.n := rfl
    omega
  obtain ⟨m, hm, b1, b2⟩ := sm_find (f := c.mo (y : Int)) (show 0 ≤ x - c.bef y by omega) h2
  exact ⟨y, m, _, hy, ⟨a1', a2', hm, b1, b2, rfl⟩⟩
/-- a date has its number -/
theorem Loc.num (b : CalB c) {y m : Nat} {d : Int} (hm : m < c.n) (h1 : 1 ≤ d) (h2 : d ≤ c.mo (y : Int) m) : Loc c (c.num y m d) y m d := by
  have s0 : 0 ≤ sm (c.mo (y : Int)) m := by
    have := sm_bd (f := c.mo (y : Int)) (A := 1) (B := 60) (k := m) fun j hj => b.mo _ (by omega)
    omega
  have s1 : sm (c.mo (y : Int)) (m + 1) = sm (c.mo (y : Int)) m + c.mo (y : Int) m := rfl
  have s2 := b.sm_le (y : Int) (i := m + 1) (k := c.n) (by omega) (Nat.le_refl _)
  have s3 : c.bef (y + 1) = c.bef y + sm (c.mo (y : Int)) c.n := rfl
  exact ⟨by unfold CalN.num; omega, by unfold CalN.num; omega, hm, by unfold CalN.num; omega, by unfold CalN.num; omega, by unfold CalN.num; omega⟩
theorem Loc.nn {x : Int} {y m : Nat} {d : Int} (b : CalB c) (h : Loc c x y m d) : 0 ≤ x ∧ x < c.bef (y + 1) := by
  have := (b.bef y).1
  exact ⟨by have := h.y0; omega, h.y1⟩
theorem Loc.eq {x : Int} {y m : Nat} {d : Int} (h : Loc c x y m d) : x = c.num y m d := by
  have := h.dd
  unfold CalN.num; omega
/-- the year lies below K -/
theorem Loc.lt (b : CalB c) {x : Int} {y m K : Nat} {d : Int} (h : Loc c x y m d) (hx : x < c.bef K) : y < K := by
  rcases Nat.lt_or_ge y K with a | a
  · exact a
  · have := b.bef_le a; have := h.y0; omega
theorem Loc.day (b : CalB c) {x : Int} {y m : Nat} {d : Int} (h : Loc c x y m d) : 1 ≤ d ∧ d ≤ c.mo (y : Int) m := by
  have s1 : sm (c.mo (y : Int)) (m + 1) = sm (c.mo (y : Int)) m + c.mo (y : Int) m := rfl
  have := h.m0; have := h.m1; have := h.dd
  omega
theorem CalB.last (b : CalB c) : 10000 ≤ c.bef 10000 ∧ c.bef 10000 ≤ 12000000 := by have := b.bef 10000; omega
theorem CalB.befC (b : CalB c) (k : Nat) (hk : k ≤ 10000) : 0 ≤ c.bef k ∧ c.bef k ≤ 12000000 := by have := b.bef k; omega
/-- a number by cycles -/
theorem Loc.cut (b : CalB c) {x : Int} {Y M : Nat} {d : Int} (h : Loc c x Y M d) : ∃ C q : Nat, c.cyc = (C : Int) ∧ 1 ≤ C ∧ C ≤ 2000 ∧ 1 ≤ c.bef C ∧ c.bef C ≤ 2400000 ∧ x / c.bef C = (q : Int) ∧ x % c.bef C = x - c.bef (q * C) ∧ q * C ≤ Y ∧ q ≤ Y := by
  obtain ⟨C, hC, h1, h2⟩ := b.cycN
  have hx := (h.nn b).1
  have e0 := b.bef C
  have e1 : 1 ≤ c.bef C := by omega
  have e2 : 0 ≤ x / c.bef C := Int.ediv_nonneg hx (by omega)
  obtain ⟨q, hq⟩ := Int.eq_ofNat_of_zero_le e2
  have hb : c.bef (q * C) = (q : Int) * c.bef C := by
    have := b.bef_mul hC q 0
    simpa [CalN.bef, sm] using this
  have e3 := Int.mul_ediv_add_emod x (c.bef C)
  have e4 := Int.emod_nonneg x (show c.bef C ≠ 0 by omega)
  rw [hq, Int.mul_comm] at e3
  have e5 : c.bef (q * C) ≤ x := by rw [hb]; omega
  have e6 : q * C ≤ Y := by
    rcases Nat.lt_or_ge Y (q * C) with a | a
    · have := b.bef_le (show Y + 1 ≤ q * C by omega); have := h.y1; omega
    · exact a
  exact ⟨C, q, hC, h1, h2, e1, by omega, hq, by rw [hb]; omega, e6, Nat.le_trans (Nat.le_mul_of_pos_right q (by omega)) e6⟩
theorem Loc.yr (b : CalB c) {x : Int} {Y M : Nat} {d : Int} (h : Loc c x Y M d) {j : Nat} (hj : j < Y) : c.yl (j : Int) ≤ x - c.bef j := by
  have := b.bef_le (show j + 1 ≤ Y by omega)
  have := bef_succ (c := c) j
  have := h.y0
  omega
theorem Loc.yr' {x : Int} {Y M : Nat} {d : Int} (h : Loc c x Y M d) : x - c.bef Y < c.yl (Y : Int) := by
  have := bef_succ (c := c) Y
  have := h.y1
  omega
theorem Loc.mr (b : CalB c) {x : Int} {Y M : Nat} {d : Int} (h : Loc c x Y M d) {j : Nat} (hj : j < M) : c.mo (Y : Int) j ≤ x - c.bef Y - sm (c.mo (Y : Int)) j := by
  have := b.sm_le (Y : Int) (i := j + 1) (k := M) (by omega) (by have := h.mn; omega)
  have e : sm (c.mo (Y : Int)) (j + 1) = sm (c.mo (Y : Int)) j + c.mo (Y : Int) j := rfl
  have := h.m0
  omega
theorem Loc.mr' {x : Int} {Y M : Nat} {d : Int} (h : Loc c x Y M d) : x - c.bef Y - sm (c.mo (Y : Int)) M < c.mo (Y : Int) M := by
  have e : sm (c.mo (Y : Int)) (M + 1) = sm (c.mo (Y : Int)) M + c.mo (Y : Int) M := rfl
  have := h.m1
  omega
/-- the parts of a date of the calendar -/
theorem dtB_nat {y m d : Int} (h : dtB c y m d = true) : ∃ Y M : Nat, y = (Y : Int) ∧ m = (M : Int) + 1 ∧ Y ≤ 9999 ∧ M < c.n ∧ 1 ≤ d ∧ d ≤ c.mo (Y : Int) M := by
  simp only [dtB, Bool.and_eq_true] at h
  obtain ⟨h1, h2, h3⟩ := h
  obtain ⟨M, rfl, hM⟩ := mon_nat h2
  have h1' := inB_t.1 h1
  have h3' := inB_t.1 h3
  rw [succ_pred] at h3'
  obtain ⟨Y, rfl⟩ := Int.eq_ofNat_of_zero_le h1'.1
  exact ⟨Y, M, rfl, rfl, by omega, hM, h3'.1, h3'.2⟩
theorem dtB_mk (b : CalB c) {x : Int} {y m : Nat} {d : Int} (h : Loc c x y m d) (hy : y ≤ 9999) : dtB c (y : Int) ((m : Int) + 1) d = true := by
  have h2 := h.mn
  have h3 := h.day b
  simp only [dtB, Bool.and_eq_true, inB_t, succ_pred]
  exact ⟨⟨by omega, by omega⟩, ⟨by omega, by omega⟩, h3⟩
theorem num_bd (b : CalB c) {y m : Nat} {d : Int} (hy : y ≤ 9999) (hm : m < c.n) (h1 : 1 ≤ d) (h2 : d ≤ c.mo (y : Int) m) : 0 ≤ c.num y m d ∧ c.num y m d < c.bef 10000 := by
  have l := Loc.num b (y := y) hm h1 h2
  have := l.nn b
  have := b.bef_le (show y + 1 ≤ 10000 by omega)
  omega
end
end Go.Proofs.YtpohhnihgegmfaaDoor

namespace Go.Proofs.YtpohhnihgegmfaaDoor
open Go.RowKit
set_option linter.unusedVariables false
set_option linter.unusedSimpArgs false

section
variable {g : Nat} {s : ByteArray} {ma ra : Option Addr} {mc rc : Nat} {wk : Int} {nm : Nat → ByteArray} {c : CalN} {w : World}
end
end Go.Proofs.YtpohhnihgegmfaaDoor

namespace Go.Proofs.YtpohhnihgegmfaaDoor
open Go.RowKit
set_option linter.unusedVariables false
set_option linter.unusedSimpArgs false

/-- a date in a block of its own -/
theorem date_cells {w w' : World} (T : TypeId) (y m d : Int) (h : Ext (w.alloc (.cells #[.int .i64 y, .int .i64 m, .int .i64 d] T)) w') :
    w'.cell? ⟨w.heap.size, 0, none⟩ = some (.int .i64 y) ∧ w'.cell? ⟨w.heap.size, 1, none⟩ = some (.int .i64 m) ∧ w'.cell? ⟨w.heap.size, 2, none⟩ = some (.int .i64 d) := by
  refine ⟨?_, ?_, ?_⟩ <;> (rw [h.cell (by simp)]; simp [go_sem])
section
variable {s : ByteArray} {ma ra : Option Addr} {mc rc : Nat} {wk : Int} {nm : Nat → ByteArray} {c : CalN} {w : World}
theorem CalV.p (T : TypeId) (wk : Int) (h : CalV w s ma ra mc rc nm c) : CalP (w.alloc (.cells #[.string s, .slice ma c.n mc, .slice ra c.nr rc, .int .i64 wk] T)) w.heap.size s ma ra mc rc wk nm c := CalP.new T s ma ra mc rc wk h.mem
end
end Go.Proofs.YtpohhnihgegmfaaDoor

namespace Go.Proofs.YtpohhnihgegmfaaDoor
open Go.RowKit
set_option linter.unusedVariables false
set_option linter.unusedSimpArgs false

section
variable {g : Nat} {s : ByteArray} {ma ra : Option Addr} {mc rc : Nat} {wk : Int} {nm : Nat → ByteArray} {c : CalN} {w : World}
end
end Go.Proofs.YtpohhnihgegmfaaDoor

namespace Go.Proofs.YtpohhnihgegmfaaDoor
open Go.RowKit
set_option linter.unusedVariables false
set_option linter.unusedSimpArgs false

section
variable {s : ByteArray} {ma ra : Option Addr} {mc rc : Nat} {wk : Int} {nm : Nat → ByteArray} {c : CalN} {w : World}
end
end Go.Proofs.YtpohhnihgegmfaaDoor

namespace Go.Proofs.YtpohhnihgegmfaaDoor
set_option linter.unusedVariables false
section
variable (s : ByteArray) (nm : Nat → ByteArray) (c : CalN) (wk : Int)
def caC : Int := if calB s nm c wk then 0 else 1
def cyV : Int := if calB s nm c wk then c.cyc else 0
def cyD : Int := if calB s nm c wk then c.bef c.cyc.toNat else 0
def laV : Int := if calB s nm c wk then c.bef 10000 - 1 else 0
/-- a date's number -/
def dnum (y m d : Int) : Int := c.num y.toNat (m - 1).toNat d
def dyC (y m d : Int) : Int := if calB s nm c wk then (if dtB c y m d then 0 else 2) else 1
def dyV (y m d : Int) : Int := if dyC s nm c wk y m d = 0 then dnum c y m d else 0
def btC (y m d y' m' d' : Int) : Int := if calB s nm c wk then (if dtB c y m d && dtB c y' m' d' then 0 else 2) else 1
def btV (y m d y' m' d' : Int) : Int := if btC s nm c wk y m d y' m' d' = 0 then dnum c y' m' d' - dnum c y m d else 0
def wdC (y m d f : Int) : Int := if calB s nm c wk then (if dtB c y m d && inB f 1 wk then 0 else 2) else 1
def wdV (y m d f : Int) : Int := if wdC s nm c wk y m d f = 0 then (dnum c y m d + f - 1) % wk + 1 else 0
end
theorem calB_w {s : ByteArray} {nm : Nat → ByteArray} {c : CalN} {wk : Int} (h : calB s nm c wk = true) : 1 ≤ wk ∧ wk ≤ 12 := by
  simp only [calB, Bool.and_eq_true, inB_t] at h; exact h.2.2.2
theorem dnum_nat (c : CalN) (Y M : Nat) (d : Int) : dnum c (Y : Int) ((M : Int) + 1) d = c.num Y M d := by
  unfold dnum; rw [succ_pred]; simp
theorem dnum_bd {c : CalN} (b : CalB c) {y m d : Int} (h : dtB c y m d = true) : 0 ≤ dnum c y m d ∧ dnum c y m d < c.bef 10000 := by
  obtain ⟨Y, M, rfl, rfl, h1, h2, h3, h4⟩ := dtB_nat h
  rw [dnum_nat]; exact num_bd b h1 h2 h3 h4
end Go.Proofs.YtpohhnihgegmfaaDoor

namespace Go.Proofs.YtpohhnihgegmfaaDoor
open Go.RowKit
set_option linter.unusedVariables false
set_option linter.unusedSimpArgs false

section
variable {g : Nat} {s : ByteArray} {ma ra : Option Addr} {mc rc : Nat} {wk : Int} {nm : Nat → ByteArray} {c : CalN} {w : World}
theorem cycleYears_v (b : CalB c) (h : CalV w s ma ra mc rc nm c) : Calls Tryd.prog 46 #[.slice ra c.nr rc] w fun e w' => e = .returned (.int .i64 c.cyc) ∧ Ext w w' :=
  cycleYears_c _ _ _ c.ev c.rs c.lf _ h.rb h.mem.ru b.ev
end
end Go.Proofs.YtpohhnihgegmfaaDoor

namespace Go.Proofs.YtpohhnihgegmfaaDoor
open Go.RowKit
set_option linter.unusedVariables false
set_option linter.unusedSimpArgs false

section
variable {g : Nat} {s : ByteArray} {ma ra : Option Addr} {mc rc : Nat} {wk : Int} {nm : Nat → ByteArray} {c : CalN} {w : World}
end
end Go.Proofs.YtpohhnihgegmfaaDoor

namespace Go.Proofs.YtpohhnihgegmfaaDoor
open Go.RowKit
set_option linter.unusedVariables false
set_option linter.unusedSimpArgs false

section
variable {g : Nat} {s : ByteArray} {ma ra : Option Addr} {mc rc : Nat} {wk : Int} {nm : Nat → ByteArray} {c : CalN} {w : World}
end
end Go.Proofs.YtpohhnihgegmfaaDoor

namespace Go.Proofs.YtpohhnihgegmfaaDoor
set_option linter.unusedVariables false
/-- a date as a result: that of number x where 'ok', else none -/
structure DtR (c : CalN) (ok : Bool) (x Y M d : Int) : Prop where
  yes : ok = true → ∃ Y' M' : Nat, Y = (Y' : Int) ∧ M = (M' : Int) + 1 ∧ Loc c x Y' M' d ∧ Y' ≤ 9999
  no : ok = false → Y = 0 ∧ M = 0 ∧ d = 0
theorem DtR.mk' {c : CalN} {ok : Bool} {x : Int} (h : ok = true → CalB c ∧ 0 ≤ x ∧ x < c.bef 10000) : ∃ Y M d, DtR c ok x Y M d := by
  cases ok
  · exact ⟨0, 0, 0, ⟨(fun e => by cases e), fun _ => ⟨rfl, rfl, rfl⟩⟩⟩
  · obtain ⟨b, h0, h1⟩ := h rfl
    obtain ⟨y, m, d, hy, hl⟩ := Loc.ex b h0 h1
    exact ⟨_, _, d, ⟨fun _ => ⟨y, m, rfl, rfl, hl, by omega⟩, (fun e => by cases e)⟩⟩
section
variable (s : ByteArray) (nm : Nat → ByteArray) (c : CalN) (wk : Int)
def dcC (x : Int) : Int := if calB s nm c wk then (if inB x 0 (c.bef 10000 - 1) then 0 else 2) else 1
def adB (y m d k : Int) : Bool := dtB c y m d && inB (dnum c y m d + k) 0 (c.bef 10000 - 1)
def adC (y m d k : Int) : Int := if calB s nm c wk then (if adB c y m d k then 0 else 2) else 1
def cvB (c2 : CalN) (y m d k : Int) : Bool := dtB c y m d && inB (dnum c y m d + k) 0 (c2.bef 10000 - 1)
def cvC (s2 : ByteArray) (nm2 : Nat → ByteArray) (c2 : CalN) (wk2 : Int) (y m d k : Int) : Int := if calB s nm c wk && calB s2 nm2 c2 wk2 then (if cvB c c2 y m d k then 0 else 2) else 1
end
/-- a number of days too far -/
def farB (k : Int) : Bool := !inB k (-20000000) 20000000
theorem far_no {c c2 : CalN} (b : CalB c) (b2 : CalB c2) {y m d k : Int} (h : dtB c y m d = true) (hf : farB k = true) : inB (dnum c y m d + k) 0 (c2.bef 10000 - 1) = false := by
  have h1 := dnum_bd b h
  have h2 := b.last
  have h3 := b2.last
  have h4 : inB k (-20000000) 20000000 = false := by simpa [farB] using hf
  have h5 := inB_f.1 h4
  rw [inB_f]; omega
theorem sh_in {n k L : Int} : inB k (-n) (L - 1 - n) = inB (n + k) 0 (L - 1) := by
  rw [Bool.eq_iff_iff, inB_t, inB_t]; omega
end Go.Proofs.YtpohhnihgegmfaaDoor

namespace Go.Proofs.YtpohhnihgegmfaaDoor
open Go.RowKit
set_option linter.unusedVariables false
set_option linter.unusedSimpArgs false

section
variable {g : Nat} {s : ByteArray} {ma ra : Option Addr} {mc rc : Nat} {wk : Int} {nm : Nat → ByteArray} {c : CalN} {w : World}
end
end Go.Proofs.YtpohhnihgegmfaaDoor

namespace Go.Proofs.YtpohhnihgegmfaaDoor
open Go.RowKit
set_option linter.unusedVariables false
set_option linter.unusedSimpArgs false

section
variable {g : Nat} {s : ByteArray} {ma ra : Option Addr} {mc rc : Nat} {wk : Int} {nm : Nat → ByteArray} {c : CalN} {w : World}
end
end Go.Proofs.YtpohhnihgegmfaaDoor

namespace Go.Proofs.YtpohhnihgegmfaaDoor
open Go.RowKit
set_option linter.unusedVariables false
set_option linter.unusedSimpArgs false

theorem eqDate_self (y m d : Int) (w : World) : Calls Tryd.prog 7 #[.agg #[.int .i64 y, .int .i64 m, .int .i64 d], .agg #[.int .i64 y, .int .i64 m, .int .i64 d]] w fun e w' => e = .returned (.bool true) ∧ Ext w w' := by
  go_enter Tryd.func7, Tryd.ntmps7
  go_wp2
  go_ret
  exact ⟨rfl, (by repeat (first | with_reducible exact Ext.refl _ | with_reducible assumption | with_reducible refine Ext.alloc ?_ _ | with_reducible refine Ext.drew ?_ | (with_reducible refine Ext.setAt ?_ _ _ _ ?_; rotate_left; omega) | with_reducible refine Ext.trans ?_ (by assumption) | with_reducible exact Past.bel _ | with_reducible refine Ext.trans ?_ (Past.bel _)))⟩
end Go.Proofs.YtpohhnihgegmfaaDoor

namespace Go.Proofs.YtpohhnihgegmfaaDoor
open Go.RowKit
set_option linter.unusedVariables false
set_option linter.unusedSimpArgs false

set_option maxRecDepth 100000 in
set_option maxHeartbeats 4000000 in
theorem walkReadDate (s : ByteArray) (w : World) (hg : Gl w) : Calls Tryd.prog 3 #[.string s] w fun e w' => e = .returned (.bool true) ∧ Ext w w' := by
  have HG := Lib.hid hg
  clear hg
  by_cases hs : s.size ≤ 1048576
  · have x1 : ¬ (1048576 : Int) < (s.size : Int) := by omega
    obtain ⟨y, m, d, b, r⟩ := DR.ex s.data.toList
    have HS := Lib.hid (fun W => ReadDate_c s W hs r)
    have HI := Lib.hid (fun W hW => implReadDate_c s W hs hW r)
    clear r
    go_enter Tryd.func3, Tryd.ntmps3
    go_wp2_with fail
    refine (HS.out _).mono ?_
    rintro e w1 ⟨rfl, hx1⟩
    have K1 := Lib.hid (Blk.new w1 #[.int .i64 y, .int .i64 m, .int .i64 d] 23)
    go_wp2_with fail
    refine (HI.out _ (HG.out.ext (Ext.alloc hx1 _))).mono ?_
    rintro e w2 ⟨rfl, hx2⟩
    have e2 : Ext w w2 := Ext.trans (Ext.alloc hx1 _) hx2
    have K2 := K1.out.ext hx2
    have l2 := K2.lt
    have d0 := K2.cell 0
    have d1 := K2.cell 1
    have d2 := K2.cell 2
    clear K2 K1 hx2
    go_wp2_with fail
    refine (eqDate_self _ _ _ _).mono ?_
    rintro e w3 ⟨rfl, hx3⟩
    have e3 : Ext w w3 := Ext.trans (Ext.alloc e2 _) hx3
    go_wp2_with fail
    go_ret
    exact ⟨rfl, e3⟩
  · have x1 : (1048576 : Int) < (s.size : Int) := by omega
    go_enter Tryd.func3, Tryd.ntmps3
    go_wp2_with fail
    go_ret
    exact ⟨rfl, Ext.refl _⟩
end Go.Proofs.YtpohhnihgegmfaaDoor

namespace Go.Proofs.YtpohhnihgegmfaaDoor
open Go.ChangeShapes Go.WideShapes Go.ChangeAt Go.WideMaps Go.WideElems Go.RowKit
set_option linter.unusedVariables false

def laid7 : List (String × DataW Unit) := [("math/bits.deBruijn32tab", Rows.laid_math_bits_deBruijn32tab), ("math/bits.deBruijn64tab", Rows.laid_math_bits_deBruijn64tab), ("internal/strconv.uint64pow10", Rows.laid_internal_strconv_uint64pow10), ("unicode/utf8.acceptRanges", Rows.laid_unicode_utf8_acceptRanges), ("strconv.ErrRange", Rows.laid_strconv_ErrRange), ("strconv.ErrSyntax", Rows.laid_strconv_ErrSyntax), ("unicode/utf8.first", Rows.laid_unicode_utf8_first)]
theorem open_str {P : Program} {H : Type} {enc : TypeId × Value → H} {w : World} {base : Nat} {spare : Nat → Bool} {held : Bool} {r : Reach} {b0 : Nat} {t : TypeId} {v : Value} {d : DataW H} {p : List MemPlace} (ht : P.underlying t = some .string) (hv : Value.okWide P w r b0 t v) (h : DataW.Trod enc P w base spare held t v d p) :
    ∃ s : ByteArray, v = .string s ∧ s.size ≤ maxLen := by
  obtain ⟨s0, rfl⟩ := okWide_string ht hv
  obtain ⟨fuel, hf⟩ := h
  obtain ⟨s, hs, _, hz⟩ := DataW.trod_string ht hf
  obtain rfl : s0 = s := by simpa [Value.cells] using hs
  exact ⟨s0, rfl, hz⟩
theorem iface_read {P : Program} {w : World} {sp : Nat → Bool} {fuel : Nat} {t : TypeId} {ms : Array (String × TypeId)} {cs : List Value} {name : String} {d : DataW Unit} {p : List MemPlace}
    (ht : P.underlying t = some (.interface ms)) (h : DataW.trod (fun _ => ()) P w 0 sp false fuel t cs = some (.iface name d, p)) : ∃ u v, cs = [.iface u v] := by
  cases fuel with
  | zero => simp [DataW.trod] at h
  | succ n =>
    unfold DataW.trod at h
    rw [ht] at h
    split at h <;> simp_all
theorem cell_lt {w : World} {b o : Nat} {v : Value} (h : w.cell? ⟨b, o, none⟩ = some v) : b < w.heap.size := by
  rcases Nat.lt_or_ge b w.heap.size with h' | h'
  · exact h'
  · simp [World.cell?, Array.getElem?_eq_none h'] at h
theorem gl_of {W : World} (h : laidMetH Tryd.prog laid7 W) (hs : W.ShapedOpen Tryd.prog) : Gl W := by
  rw [MakeChecks.laidMetH_plain _ _ _ (by kernel_rfl)] at h
  obtain ⟨m, hm⟩ : ∃ m, W.cell? ⟨0, 0, none⟩ = some (.int .i64 m) := cell_of_shapedOpen_int (zero := #[.int .i64 0]) (t := 3) hs (of_decide_eq_true (by kernel_rfl)) (by kernel_rfl) rfl (by kernel_rfl) (by kernel_rfl) Tryd.underlying3
  obtain ⟨ps, ⟨g0, t0, cs0, f0, p0, q0, hg0, ht0, hv0, hd0, ⟨g1, t1, cs1, f1, p1, q1, hg1, ht1, hv1, hd1, ⟨g2, t2, cs2, f2, p2, q2, hg2, ht2, hv2, hd2, ⟨g3, t3, cs3, f3, p3, q3, hg3, ht3, hv3, hd3, ⟨g4, t4, cs4, f4, p4, q4, hg4, ht4, hv4, hd4, ⟨g5, t5, cs5, f5, p5, q5, hg5, ht5, hv5, hd5, _⟩, _⟩, _⟩, _⟩, _⟩, _⟩, _, _⟩ := h
  refine ⟨?_, ⟨m, fun w' x => (x.cell (cell_lt hm)).trans hm⟩, ?_, ?_⟩
  · have k1 : Tryd.prog.globalNamed "internal/strconv.uint64pow10" = some 5 := by kernel_rfl
    have k2 : (Tryd.prog.globals[5]?).map (·.type) = some 130 := by kernel_rfl
    obtain rfl := Option.some.inj (k1.symm.trans hg2)
    obtain rfl := Option.some.inj (k2.symm.trans ht2)
    refine Lib.tabBelow_of_tabIs ?_
    unfold Lib.TabIs
    rw [hv2, ← Lib.cells_of_tab (k := .u64) (zs := Lib.pow10Tab) (n := 20) Tryd.underlying130 Tryd.underlying99 (by kernel_rfl) (by kernel_rfl) hd2]
  · have k1 : Tryd.prog.globalNamed "strconv.ErrSyntax" = some 1 := by kernel_rfl
    have k2 : (Tryd.prog.globals[1]?).map (·.type) = some 59 := by kernel_rfl
    obtain rfl := Option.some.inj (k1.symm.trans hg5)
    obtain rfl := Option.some.inj (k2.symm.trans ht5)
    obtain ⟨u, v, e⟩ := iface_read Tryd.underlying59 hd5
    have hc : W.cell? ⟨1, 0, none⟩ = some (.iface u v) := by
      rw [World.var?_cell hg5 hv5 0, ← Array.getElem?_toList, e]; rfl
    exact ⟨_, Or.inr ⟨u, v, rfl⟩, fun w' x => (x.cell (cell_lt hc)).trans hc⟩
  · have k1 : Tryd.prog.globalNamed "strconv.ErrRange" = some 2 := by kernel_rfl
    have k2 : (Tryd.prog.globals[2]?).map (·.type) = some 59 := by kernel_rfl
    obtain rfl := Option.some.inj (k1.symm.trans hg4)
    obtain rfl := Option.some.inj (k2.symm.trans ht4)
    obtain ⟨u, v, e⟩ := iface_read Tryd.underlying59 hd4
    have hc : W.cell? ⟨2, 0, none⟩ = some (.iface u v) := by
      rw [World.var?_cell hg4 hv4 0, ← Array.getElem?_toList, e]; rfl
    exact ⟨_, Or.inr ⟨u, v, rfl⟩, fun w' x => (x.cell (cell_lt hc)).trans hc⟩
theorem laid7_met (os : Os) (args : Array Value) : laidMetH Tryd.prog laid7 ((World.laidAll Tryd.prog os laid7).forCall (fun _ _ => 0) ⟨#[], args, []⟩).memory := by
  rw [MakeChecks.laidMetH_plain _ _ _ (by kernel_rfl)]
  exact laidMet_laidAll _ (by kernel_rfl) (by kernel_rfl)
/-- a row whose listed variables are laid, the world's shape handed on -/
theorem row_shaped {H : Type} {enc : TypeId × Value → H} {a : Assume} {C : Checked} {os : Os} {f : FuncId} {fn : Func} {s : ChangeSpec} {conds : List PathCond} {apart fresh handsOn again : Bool} {X : World → Prop}
    (hX : ∀ (w w' : World), w.heap = w'.heap → X w → X w')
    (own : ownKnob C.prog.godebug = none) (started : os.Started) (noInit : C.prog.inits.idxOf? f = none) (hfn : C.prog.funcs[f]? = some fn)
    (witness : ∃ (w : World) (tape : Tape) (i : Input), w.os = os ∧ (w.forCall tape i).Shaped C.prog ∧ i.vars = [] ∧ Input.okWide C.prog (w.forCall tape i) .any w.heap.size f i ∧
      ((s.pre enc C.prog fn conds apart (w.forCall tape i).memory i.args ∧ X (w.forCall tape i).memory) ∧ sizedMet enc C.prog fn (OpenSpec.ofChange s) apart (w.forCall tape i).memory i.args) ∧ a.holds C.prog (lone (Frame.enter C.prog f i.args .normal) [] (w.forCall tape i)))
    (contract : ∀ (W : World) (base : Nat) (args : Array Value) (ds gs : List (DataW H)) (before : List MemPlace),
      (∀ (j : Nat) t v, fn.params[j]? = some t → args[j]? = some v → Value.okWide C.prog W .any base t v) →
      DataW.Whole enc C.prog fn.params.toList s.vars apart W args.toList ds gs before → X W → W.ShapedOpen C.prog →
      Calls C.prog f args W fun e W' => ∃ v, e = .returned v ∧ s.post enc C.prog fn apart fresh handsOn again W args v W') :
    ReturnsInHanded a C os f .any (fun w args => (s.pre enc C.prog fn conds apart w args ∧ X w) ∧ sizedMet enc C.prog fn (OpenSpec.ofChange s) apart w args) (s.post enc C.prog fn apart fresh handsOn again) := by
  refine returnsInHanded_of_calls own started noInit witness ?_
  rintro w tape i - hsh - ⟨_, _, _, fn', hfn', _, _, _, _, hval⟩ ⟨⟨⟨ds, gs, before, hw, _⟩, hx⟩, _⟩ _
  obtain rfl : fn' = fn := Option.some.inj (hfn'.symm.trans hfn)
  refine (contract (w.forCall tape i) w.heap.size i.args ds gs before hval (DataW.Whole.of_heap (w' := w.forCall tape i) (by rfl) hw) (hX _ _ (by rfl) hx) hsh).mono ?_
  rintro e W' ⟨v, rfl, hp⟩
  exact ChangeSpec.post_blind hp
theorem laid7_shaped (os : Os) (args : Array Value) : ((World.laidAll Tryd.prog os laid7).forCall (fun _ _ => 0) ⟨#[], args, []⟩).Shaped Tryd.prog :=
  World.shaped_of_ZipB (by kernel_rfl) (by kernel_rfl)
end Go.Proofs.YtpohhnihgegmfaaDoor
