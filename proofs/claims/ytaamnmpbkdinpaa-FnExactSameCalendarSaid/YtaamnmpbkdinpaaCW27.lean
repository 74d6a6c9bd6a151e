/- Leap years: the functions as they are called. -/
import Derived.Test.YtaamnmpbkdinpaaCW26
namespace Go.Proofs.Ytaamnmpbkdinpaa
open Go.RowKit
set_option linter.unusedVariables false
set_option linter.unusedSimpArgs false

/-- a calendar handed on by value -/
structure CalV (w : World) (s : ByteArray) (ma ra : Option Addr) (mc rc : Nat) (nm : Nat → ByteArray) (c : CalN) : Prop where
  nb : c.n ≤ 1048576
  rb : c.nr ≤ 1048576
  mb : c.n ≤ mc
  mx : mc ≤ maxLen
  sz : s.size ≤ 9223372036854775807
  nz : ∀ i, i < c.n → (nm i).size ≤ 9223372036854775807
  mem : CalM w ma ra nm c
theorem CalV.ext {w w' : World} {s : ByteArray} {ma ra : Option Addr} {mc rc : Nat} {nm : Nat → ByteArray} {c : CalN} (h : CalV w s ma ra mc rc nm c) (e : Ext w w') : CalV w' s ma ra mc rc nm c := { h with mem := h.mem.ext e }
/-- a calendar behind a pointer, with its bounds -/
structure CalQ (w : World) (g : Nat) (s : ByteArray) (ma ra : Option Addr) (mc rc : Nat) (wk : Int) (nm : Nat → ByteArray) (c : CalN) : Prop where
  nb : c.n ≤ 1048576
  rb : c.nr ≤ 1048576
  sz : s.size ≤ 9223372036854775807
  nz : ∀ i, i < c.n → (nm i).size ≤ 9223372036854775807
  p : CalP w g s ma ra mc rc wk nm c
theorem CalQ.ext {w w' : World} {g : Nat} {s : ByteArray} {ma ra : Option Addr} {mc rc : Nat} {wk : Int} {nm : Nat → ByteArray} {c : CalN} (h : CalQ w g s ma ra mc rc wk nm c) (e : Ext w w') : CalQ w' g s ma ra mc rc wk nm c := { h with p := h.p.ext e }
theorem CalQ.new {w : World} (T : TypeId) {s : ByteArray} {ma ra : Option Addr} {mc rc : Nat} (wk : Int) {nm : Nat → ByteArray} {c : CalN} (h : CalV w s ma ra mc rc nm c) :
    CalQ (w.alloc (.cells #[.string s, .slice ma c.n mc, .slice ra c.nr rc, .int .i64 wk] T)) w.heap.size s ma ra mc rc wk nm c :=
  ⟨h.nb, h.rb, h.sz, h.nz, CalP.new T s ma ra mc rc wk h.mem⟩
theorem validCalendar_v {s : ByteArray} {ma ra : Option Addr} {mc rc : Nat} (wk : Int) {nm : Nat → ByteArray} {c : CalN} {w : World} (h : CalV w s ma ra mc rc nm c) :
    Calls Try.prog 15 #[.agg #[.string s, .slice ma c.n mc, .slice ra c.nr rc, .int .i64 wk]] w fun e w' => e = .returned (.bool (calB s nm c wk)) ∧ Ext w w' :=
  validCalendar_c _ _ _ _ _ _ _ _ _ h.nb h.rb h.mb h.mx h.sz h.nz h.mem
theorem l15Ok_q {g : Nat} {s : ByteArray} {ma ra : Option Addr} {mc rc : Nat} {wk : Int} {nm : Nat → ByteArray} {c : CalN} {w : World} (h : CalQ w g s ma ra mc rc wk nm c) :
    Calls Try.prog 34 #[.pointer (some ⟨g, 0, none⟩)] w fun e w' => e = .returned (.bool (calB s nm c wk)) ∧ Ext w w' :=
  l15Ok_c _ _ _ _ _ _ _ _ _ _ h.nb h.rb h.sz h.nz h.p
theorem isYear_c (y : Int) (w : World) : Calls Try.prog 42 #[.int .i64 y] w fun e w' => e = .returned (.bool (inB y 0 9999)) ∧ w = w' := by
  go_enter Try.func42, Try.ntmps42
  go_wp2_with (go_at_call 36; ((with_reducible refine (within_c _ _ _ _).mono ?_); rintro e w' ⟨rfl, rfl⟩))
  go_ret
  exact ⟨rfl, rfl⟩
theorem l15Year_c (y : Int) (w : World) : Calls Try.prog 40 #[.int .i64 y] w fun e w' => e = .returned (.bool (inB y 0 9999)) ∧ w = w' := by
  go_enter Try.func40, Try.ntmps40
  go_wp2_with (go_at_call 44; ((with_reducible refine (l00In_c _ _ _ _).mono ?_); rintro e w' ⟨rfl, rfl⟩))
  go_ret
  exact ⟨rfl, rfl⟩
theorem isMonth_c (s : ByteArray) (ma ra : Option Addr) (n mc rn rc : Nat) (wk m : Int) (w : World) : Calls Try.prog 46 #[.agg #[.string s, .slice ma n mc, .slice ra rn rc, .int .i64 wk], .int .i64 m] w fun e w' => e = .returned (.bool (inB m 1 (n : Int))) ∧ Ext w w' := by
  go_enter Try.func46, Try.ntmps46
  go_wp2_with (go_at_call 36; ((with_reducible refine (within_c _ _ _ _).mono ?_); rintro e w' ⟨rfl, rfl⟩))
  go_ret
  exact ⟨rfl, (by repeat (first | with_reducible exact Ext.refl _ | with_reducible assumption | with_reducible refine Ext.alloc ?_ _ | with_reducible refine Ext.drew ?_ | (with_reducible refine Ext.setAt ?_ _ _ _ ?_; rotate_left; omega) | with_reducible refine Ext.trans ?_ (by assumption) | with_reducible exact Past.bel _ | with_reducible refine Ext.trans ?_ (Past.bel _)))⟩
theorem isLeap_v {s : ByteArray} {ma ra : Option Addr} {mc rc : Nat} {wk : Int} {nm : Nat → ByteArray} {c : CalN} {w : World} (b : CalB c) (h : CalV w s ma ra mc rc nm c) {y : Int} (hy : 0 ≤ y) (hy' : y ≤ 1000000000000) :
    Calls Try.prog 43 #[.agg #[.string s, .slice ma c.n mc, .slice ra c.nr rc, .int .i64 wk], .int .i64 y] w fun e w' => e = .returned (.bool (c.leap y)) ∧ Ext w w' :=
  isLeap_c _ _ _ _ _ _ _ _ h.rb hy hy' h.mem.ru b.ev _ _ _ _ _
theorem l15Leap_q {g : Nat} {s : ByteArray} {ma ra : Option Addr} {mc rc : Nat} {wk : Int} {nm : Nat → ByteArray} {c : CalN} {w : World} (b : CalB c) (h : CalQ w g s ma ra mc rc wk nm c) {y : Int} (hy : 0 ≤ y) (hy' : y ≤ 1000000000000) :
    Calls Try.prog 41 #[.pointer (some ⟨g, 0, none⟩), .int .i64 y] w fun e w' => e = .returned (.bool (c.leap y)) ∧ Ext w w' :=
  l15Leap_c _ _ _ _ _ _ _ _ _ h.p.lt h.p.c2 h.rb hy hy' h.p.mem.ru b.ev
/-- what IsLeapYear returns -/
def leapR (s : ByteArray) (nm : Nat → ByteArray) (c : CalN) (wk y : Int) : Bool := calB s nm c wk && (inB y 0 9999 && c.leap y)
theorem implIsLeapYear_c {s : ByteArray} {ma ra : Option Addr} {mc rc : Nat} (wk : Int) {nm : Nat → ByteArray} {c : CalN} (y : Int) {w : World} (h : CalV w s ma ra mc rc nm c) :
    Calls Try.prog 17 #[.agg #[.string s, .slice ma c.n mc, .slice ra c.nr rc, .int .i64 wk], .int .i64 y] w fun e w' => e = .returned (.bool (leapR s nm c wk y)) ∧ Ext w w' := by
  have H := Lib.hid h
  clear h
  cases h1 : calB s nm c wk
  · go_enter Try.func17, Try.ntmps17
    go_wp2_with (go_at_call 15; ((with_reducible refine (validCalendar_v wk (H.out.ext (by repeat (first | with_reducible exact Ext.refl _ | with_reducible assumption | with_reducible refine Ext.alloc ?_ _ | with_reducible refine Ext.drew ?_ | (with_reducible refine Ext.setAt ?_ _ _ _ ?_; rotate_left; omega) | with_reducible refine Ext.trans ?_ (by assumption) | with_reducible exact Past.bel _ | with_reducible refine Ext.trans ?_ (Past.bel _))))).mono ?_); rintro e w' ⟨rfl, hx⟩; (first | (obtain ⟨wx, rfl⟩ := Past.again hx) | (obtain ⟨wx, rfl⟩ := Past.ofd hx) | (obtain ⟨wx, rfl⟩ := Past.of hx))))
    go_ret
    exact ⟨ret_bool (by simp [leapR, h1]), (by repeat (first | with_reducible exact Ext.refl _ | with_reducible assumption | with_reducible refine Ext.alloc ?_ _ | with_reducible refine Ext.drew ?_ | (with_reducible refine Ext.setAt ?_ _ _ _ ?_; rotate_left; omega) | with_reducible refine Ext.trans ?_ (by assumption) | with_reducible exact Past.bel _ | with_reducible refine Ext.trans ?_ (Past.bel _)))⟩
  · have b := calB_b h1
    have B := Lib.hid b
    clear b
    cases h2 : inB y 0 9999
    · go_enter Try.func17, Try.ntmps17
      go_wp2_with (first | (go_at_call 15; ((with_reducible refine (validCalendar_v wk (H.out.ext (by repeat (first | with_reducible exact Ext.refl _ | with_reducible assumption | with_reducible refine Ext.alloc ?_ _ | with_reducible refine Ext.drew ?_ | (with_reducible refine Ext.setAt ?_ _ _ _ ?_; rotate_left; omega) | with_reducible refine Ext.trans ?_ (by assumption) | with_reducible exact Past.bel _ | with_reducible refine Ext.trans ?_ (Past.bel _))))).mono ?_); rintro e w' ⟨rfl, hx⟩; (first | (obtain ⟨wx, rfl⟩ := Past.again hx) | (obtain ⟨wx, rfl⟩ := Past.ofd hx) | (obtain ⟨wx, rfl⟩ := Past.of hx)))) | (go_at_call 42; ((with_reducible refine (isYear_c _ _).mono ?_); rintro e w' ⟨rfl, rfl⟩)))
      go_ret
      exact ⟨ret_bool (by simp [leapR, h2]), (by repeat (first | with_reducible exact Ext.refl _ | with_reducible assumption | with_reducible refine Ext.alloc ?_ _ | with_reducible refine Ext.drew ?_ | (with_reducible refine Ext.setAt ?_ _ _ _ ?_; rotate_left; omega) | with_reducible refine Ext.trans ?_ (by assumption) | with_reducible exact Past.bel _ | with_reducible refine Ext.trans ?_ (Past.bel _)))⟩
    · have h2' := inB_t.1 h2
      go_enter Try.func17, Try.ntmps17
      go_wp2_with (first | (go_at_call 15; ((with_reducible refine (validCalendar_v wk (H.out.ext (by repeat (first | with_reducible exact Ext.refl _ | with_reducible assumption | with_reducible refine Ext.alloc ?_ _ | with_reducible refine Ext.drew ?_ | (with_reducible refine Ext.setAt ?_ _ _ _ ?_; rotate_left; omega) | with_reducible refine Ext.trans ?_ (by assumption) | with_reducible exact Past.bel _ | with_reducible refine Ext.trans ?_ (Past.bel _))))).mono ?_); rintro e w' ⟨rfl, hx⟩; (first | (obtain ⟨wx, rfl⟩ := Past.again hx) | (obtain ⟨wx, rfl⟩ := Past.ofd hx) | (obtain ⟨wx, rfl⟩ := Past.of hx)))) | (go_at_call 42; ((with_reducible refine (isYear_c _ _).mono ?_); rintro e w' ⟨rfl, rfl⟩)) | (go_at_call 43; ((with_reducible refine (isLeap_v B.out (H.out.ext (by repeat (first | with_reducible exact Ext.refl _ | with_reducible assumption | with_reducible refine Ext.alloc ?_ _ | with_reducible refine Ext.drew ?_ | (with_reducible refine Ext.setAt ?_ _ _ _ ?_; rotate_left; omega) | with_reducible refine Ext.trans ?_ (by assumption) | with_reducible exact Past.bel _ | with_reducible refine Ext.trans ?_ (Past.bel _)))) h2'.1 (by omega)).mono ?_); rintro e w' ⟨rfl, hx⟩; (first | (obtain ⟨wx, rfl⟩ := Past.again hx) | (obtain ⟨wx, rfl⟩ := Past.ofd hx) | (obtain ⟨wx, rfl⟩ := Past.of hx)))))
      go_ret
      exact ⟨ret_bool (by simp [leapR, h1, h2]), (by repeat (first | with_reducible exact Ext.refl _ | with_reducible assumption | with_reducible refine Ext.alloc ?_ _ | with_reducible refine Ext.drew ?_ | (with_reducible refine Ext.setAt ?_ _ _ _ ?_; rotate_left; omega) | with_reducible refine Ext.trans ?_ (by assumption) | with_reducible exact Past.bel _ | with_reducible refine Ext.trans ?_ (Past.bel _)))⟩
theorem specIsLeapYear_c {s : ByteArray} {ma ra : Option Addr} {mc rc : Nat} (wk : Int) {nm : Nat → ByteArray} {c : CalN} (y : Int) {w : World} (h : CalV w s ma ra mc rc nm c) :
    Calls Try.prog 16 #[.agg #[.string s, .slice ma c.n mc, .slice ra c.nr rc, .int .i64 wk], .int .i64 y] w fun e w' => e = .returned (.bool (leapR s nm c wk y)) ∧ Ext w w' := by
  have H := Lib.hid (CalQ.new 31 wk h)
  clear h
  cases h1 : calB s nm c wk
  · go_enter Try.func16, Try.ntmps16
    go_wp2_with (go_at_call 34; ((with_reducible refine (l15Ok_q (H.out.ext (by repeat (first | with_reducible exact Ext.refl _ | with_reducible assumption | with_reducible refine Ext.alloc ?_ _ | with_reducible refine Ext.drew ?_ | (with_reducible refine Ext.setAt ?_ _ _ _ ?_; rotate_left; omega) | with_reducible refine Ext.trans ?_ (by assumption) | with_reducible exact Past.bel _ | with_reducible refine Ext.trans ?_ (Past.bel _))))).mono ?_); rintro e w' ⟨rfl, hx⟩; (first | (obtain ⟨wx, rfl⟩ := Past.again hx) | (obtain ⟨wx, rfl⟩ := Past.ofd hx) | (obtain ⟨wx, rfl⟩ := Past.of hx))))
    go_ret
    exact ⟨ret_bool (by simp [leapR, h1]), (by repeat (first | with_reducible exact Ext.refl _ | with_reducible assumption | with_reducible refine Ext.alloc ?_ _ | with_reducible refine Ext.drew ?_ | (with_reducible refine Ext.setAt ?_ _ _ _ ?_; rotate_left; omega) | with_reducible refine Ext.trans ?_ (by assumption) | with_reducible exact Past.bel _ | with_reducible refine Ext.trans ?_ (Past.bel _)))⟩
  · have b := calB_b h1
    have B := Lib.hid b
    clear b
    cases h2 : inB y 0 9999
    · go_enter Try.func16, Try.ntmps16
      go_wp2_with (first | (go_at_call 34; ((with_reducible refine (l15Ok_q (H.out.ext (by repeat (first | with_reducible exact Ext.refl _ | with_reducible assumption | with_reducible refine Ext.alloc ?_ _ | with_reducible refine Ext.drew ?_ | (with_reducible refine Ext.setAt ?_ _ _ _ ?_; rotate_left; omega) | with_reducible refine Ext.trans ?_ (by assumption) | with_reducible exact Past.bel _ | with_reducible refine Ext.trans ?_ (Past.bel _))))).mono ?_); rintro e w' ⟨rfl, hx⟩; (first | (obtain ⟨wx, rfl⟩ := Past.again hx) | (obtain ⟨wx, rfl⟩ := Past.ofd hx) | (obtain ⟨wx, rfl⟩ := Past.of hx)))) | (go_at_call 40; ((with_reducible refine (l15Year_c _ _).mono ?_); rintro e w' ⟨rfl, rfl⟩)))
      go_ret
      exact ⟨ret_bool (by simp [leapR, h2]), (by repeat (first | with_reducible exact Ext.refl _ | with_reducible assumption | with_reducible refine Ext.alloc ?_ _ | with_reducible refine Ext.drew ?_ | (with_reducible refine Ext.setAt ?_ _ _ _ ?_; rotate_left; omega) | with_reducible refine Ext.trans ?_ (by assumption) | with_reducible exact Past.bel _ | with_reducible refine Ext.trans ?_ (Past.bel _)))⟩
    · have h2' := inB_t.1 h2
      go_enter Try.func16, Try.ntmps16
      go_wp2_with (first | (go_at_call 34; ((with_reducible refine (l15Ok_q (H.out.ext (by repeat (first | with_reducible exact Ext.refl _ | with_reducible assumption | with_reducible refine Ext.alloc ?_ _ | with_reducible refine Ext.drew ?_ | (with_reducible refine Ext.setAt ?_ _ _ _ ?_; rotate_left; omega) | with_reducible refine Ext.trans ?_ (by assumption) | with_reducible exact Past.bel _ | with_reducible refine Ext.trans ?_ (Past.bel _))))).mono ?_); rintro e w' ⟨rfl, hx⟩; (first | (obtain ⟨wx, rfl⟩ := Past.again hx) | (obtain ⟨wx, rfl⟩ := Past.ofd hx) | (obtain ⟨wx, rfl⟩ := Past.of hx)))) | (go_at_call 40; ((with_reducible refine (l15Year_c _ _).mono ?_); rintro e w' ⟨rfl, rfl⟩)) | (go_at_call 41; ((with_reducible refine (l15Leap_q B.out (H.out.ext (by repeat (first | with_reducible exact Ext.refl _ | with_reducible assumption | with_reducible refine Ext.alloc ?_ _ | with_reducible refine Ext.drew ?_ | (with_reducible refine Ext.setAt ?_ _ _ _ ?_; rotate_left; omega) | with_reducible refine Ext.trans ?_ (by assumption) | with_reducible exact Past.bel _ | with_reducible refine Ext.trans ?_ (Past.bel _)))) h2'.1 (by omega)).mono ?_); rintro e w' ⟨rfl, hx⟩; (first | (obtain ⟨wx, rfl⟩ := Past.again hx) | (obtain ⟨wx, rfl⟩ := Past.ofd hx) | (obtain ⟨wx, rfl⟩ := Past.of hx)))))
      go_ret
      exact ⟨ret_bool (by simp [leapR, h1, h2]), (by repeat (first | with_reducible exact Ext.refl _ | with_reducible assumption | with_reducible refine Ext.alloc ?_ _ | with_reducible refine Ext.drew ?_ | (with_reducible refine Ext.setAt ?_ _ _ _ ?_; rotate_left; omega) | with_reducible refine Ext.trans ?_ (by assumption) | with_reducible exact Past.bel _ | with_reducible refine Ext.trans ?_ (Past.bel _)))⟩
end Go.Proofs.Ytaamnmpbkdinpaa
