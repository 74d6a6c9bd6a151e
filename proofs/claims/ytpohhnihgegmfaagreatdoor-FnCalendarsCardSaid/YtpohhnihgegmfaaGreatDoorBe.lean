/- Valid dates. Calendars compared. No program in sight. Calendars: days and their numbers. No program in sight. Cycles, days before a year, numbers of days: the reference's. Numbers of days: the program's. Dates of numbers: the reference's. Dates of numbers: the program's. Calendars: what the functions on days return. No program in sight. Cycles, days, weeks: the functions as they are called. Days between, days of the week: the functions as they are called. Days of the week: the functions as they are called. Calendars: dates as results. No program in sight. -/
import Derived.Test.YtpohhnihgegmfaaGreatDoorBd

namespace Go.Proofs.YtpohhnihgegmfaaGreatDoor
open Go.RowKit
set_option linter.unusedVariables false
set_option linter.unusedSimpArgs false

set_option maxHeartbeats 1000000 in
theorem l16Ok_q {g : Nat} {s : ByteArray} {ma ra : Option Addr} {mc rc : Nat} {wk : Int} {nm : Nat → ByteArray} {c : CalN} {w : World} (b : CalB c) (h : CalQ w g s ma ra mc rc wk nm c) (y m d : Int) :
    Calls Tryz.prog 45 #[.pointer (some ⟨g, 0, none⟩), .agg #[.int .i64 y, .int .i64 m, .int .i64 d]] w fun e w' => e = .returned (.bool (dtB c y m d)) ∧ Ext w w' := by
  have H := Lib.hid h
  have B := Lib.hid b
  have n20 := b.n20
  have g0 := h.p.lt
  have p1 := h.p.c1
  clear h b
  cases h2 : inB y 0 9999
  · go_enter Tryz.func45, Tryz.ntmps45
    go_wp2_with fail
    refine wp_region_past (by kernel_rfl) (by kernel_rfl) ?_
    repeat (go_big_quiet_step (first | (go_at_call 80; exact Calls.past_same (l15Year_c _ _)) | (go_at_call 79; exact Calls.past_same (l00In_c _ _ _ _))))
    refine wpQuiet_nil ?_
    rintro _ ⟨wx, rfl⟩
    go_wp2_with fail
    go_ret
    exact ⟨ret_bool (by simp [dtB, h2]), (by repeat (first | with_reducible exact Ext.refl _ | with_reducible assumption | with_reducible refine Ext.alloc ?_ _ | with_reducible refine Ext.drew ?_ | (with_reducible refine Ext.setAt ?_ _ _ _ ?_; rotate_left; omega) | with_reducible refine Ext.trans ?_ (by assumption) | with_reducible exact Past.bel _ | with_reducible refine Ext.trans ?_ (Past.bel _)))⟩
  · have h2' := inB_t.1 h2
    cases h3 : inB m 1 (c.n : Int)
    · go_enter Tryz.func45, Tryz.ntmps45
      go_wp2_with fail
      refine wp_region_past (by kernel_rfl) (by kernel_rfl) ?_
      repeat (go_big_quiet_step (first | (go_at_call 80; exact Calls.past_same (l15Year_c _ _)) | (go_at_call 79; exact Calls.past_same (l00In_c _ _ _ _))))
      refine wpQuiet_nil ?_
      rintro _ ⟨wx, rfl⟩
      go_wp2_with fail
      go_ret
      exact ⟨ret_bool (by simp [dtB, h3]), (by repeat (first | with_reducible exact Ext.refl _ | with_reducible assumption | with_reducible refine Ext.alloc ?_ _ | with_reducible refine Ext.drew ?_ | (with_reducible refine Ext.setAt ?_ _ _ _ ?_; rotate_left; omega) | with_reducible refine Ext.trans ?_ (by assumption) | with_reducible exact Past.bel _ | with_reducible refine Ext.trans ?_ (Past.bel _)))⟩
    · obtain ⟨j, rfl, hj⟩ := mon_nat h3
      go_enter Tryz.func45, Tryz.ntmps45
      go_wp2_with fail
      refine wp_region_past (by kernel_rfl) (by kernel_rfl) ?_
      repeat (go_big_quiet_step (first | (go_at_call 80; exact Calls.past_same (l15Year_c _ _)) | (go_at_call 79; exact Calls.past_same (l00In_c _ _ _ _))))
      refine wpQuiet_nil ?_
      rintro _ ⟨wx, rfl⟩
      go_wp2_with fail
      have e1 : IntKind.i64.wrap ((j : Int) + 1 - 1) = (j : Int) := by rw [IntWalk.i64_in _ (by omega)]; omega
      refine wp_region_past (by kernel_rfl) (by kernel_rfl) ?_
      repeat (go_big_quiet_step (first | (go_at_call 79; exact Calls.past_same (l00In_c _ _ _ _)) | (go_at_call 67; exact Calls.past (l15Days_q B.out (H.out.ext (by repeat (first | with_reducible exact Ext.refl _ | with_reducible assumption | with_reducible refine Ext.alloc ?_ _ | with_reducible refine Ext.drew ?_ | (with_reducible refine Ext.setAt ?_ _ _ _ ?_; rotate_left; omega) | with_reducible refine Ext.trans ?_ (by assumption) | with_reducible exact Past.bel _ | with_reducible refine Ext.trans ?_ (Past.bel _)))) h2'.1 (by omega) hj))))
      refine wpQuiet_nil ?_
      rintro _ ⟨wx, rfl⟩
      clear e1
      go_wp2_with fail
      go_ret
      exact ⟨ret_bool (by simp [dtB, h2, h3, succ_pred]), (by repeat (first | with_reducible exact Ext.refl _ | with_reducible assumption | with_reducible refine Ext.alloc ?_ _ | with_reducible refine Ext.drew ?_ | (with_reducible refine Ext.setAt ?_ _ _ _ ?_; rotate_left; omega) | with_reducible refine Ext.trans ?_ (by assumption) | with_reducible exact Past.bel _ | with_reducible refine Ext.trans ?_ (Past.bel _)))⟩
theorem specValidDate_c {s : ByteArray} {ma ra : Option Addr} {mc rc : Nat} (wk : Int) {nm : Nat → ByteArray} {c : CalN} (y m d : Int) {w : World} (h : CalV w s ma ra mc rc nm c) :
    Calls Tryz.prog 16 #[.agg #[.string s, .slice ma c.n mc, .slice ra c.nr rc, .int .i64 wk], .agg #[.int .i64 y, .int .i64 m, .int .i64 d]] w fun e w' => e = .returned (.bool (vdR s nm c wk y m d)) ∧ Ext w w' := by
  have H := Lib.hid (CalQ.new 27 wk h)
  clear h
  cases h1 : calB s nm c wk
  · go_enter Tryz.func16, Tryz.ntmps16
    go_wp2_with (go_at_call 44; ((with_reducible refine (l15Ok_q (H.out.ext (by repeat (first | with_reducible exact Ext.refl _ | with_reducible assumption | with_reducible refine Ext.alloc ?_ _ | with_reducible refine Ext.drew ?_ | (with_reducible refine Ext.setAt ?_ _ _ _ ?_; rotate_left; omega) | with_reducible refine Ext.trans ?_ (by assumption) | with_reducible exact Past.bel _ | with_reducible refine Ext.trans ?_ (Past.bel _))))).mono ?_); rintro e w' ⟨rfl, hx⟩; (first | (obtain ⟨wx, rfl⟩ := Past.again hx) | (obtain ⟨wx, rfl⟩ := Past.ofd hx) | (obtain ⟨wx, rfl⟩ := Past.of hx))))
    go_ret
    exact ⟨ret_bool (by simp [vdR, h1]), (by repeat (first | with_reducible exact Ext.refl _ | with_reducible assumption | with_reducible refine Ext.alloc ?_ _ | with_reducible refine Ext.drew ?_ | (with_reducible refine Ext.setAt ?_ _ _ _ ?_; rotate_left; omega) | with_reducible refine Ext.trans ?_ (by assumption) | with_reducible exact Past.bel _ | with_reducible refine Ext.trans ?_ (Past.bel _)))⟩
  · have b := calB_b h1
    have B := Lib.hid b
    clear b
    go_enter Tryz.func16, Tryz.ntmps16
    go_wp2_with (first | (go_at_call 44; ((with_reducible refine (l15Ok_q (H.out.ext (by repeat (first | with_reducible exact Ext.refl _ | with_reducible assumption | with_reducible refine Ext.alloc ?_ _ | with_reducible refine Ext.drew ?_ | (with_reducible refine Ext.setAt ?_ _ _ _ ?_; rotate_left; omega) | with_reducible refine Ext.trans ?_ (by assumption) | with_reducible exact Past.bel _ | with_reducible refine Ext.trans ?_ (Past.bel _))))).mono ?_); rintro e w' ⟨rfl, hx⟩; (first | (obtain ⟨wx, rfl⟩ := Past.again hx) | (obtain ⟨wx, rfl⟩ := Past.ofd hx) | (obtain ⟨wx, rfl⟩ := Past.of hx)))) | (go_at_call 45; ((with_reducible refine (l16Ok_q B.out (H.out.ext (by repeat (first | with_reducible exact Ext.refl _ | with_reducible assumption | with_reducible refine Ext.alloc ?_ _ | with_reducible refine Ext.drew ?_ | (with_reducible refine Ext.setAt ?_ _ _ _ ?_; rotate_left; omega) | with_reducible refine Ext.trans ?_ (by assumption) | with_reducible exact Past.bel _ | with_reducible refine Ext.trans ?_ (Past.bel _)))) y m d).mono ?_); rintro e w' ⟨rfl, hx⟩; (first | (obtain ⟨wx, rfl⟩ := Past.again hx) | (obtain ⟨wx, rfl⟩ := Past.ofd hx) | (obtain ⟨wx, rfl⟩ := Past.of hx)))))
    go_ret
    exact ⟨ret_bool (by simp [vdR, h1]), (by repeat (first | with_reducible exact Ext.refl _ | with_reducible assumption | with_reducible refine Ext.alloc ?_ _ | with_reducible refine Ext.drew ?_ | (with_reducible refine Ext.setAt ?_ _ _ _ ?_; rotate_left; omega) | with_reducible refine Ext.trans ?_ (by assumption) | with_reducible exact Past.bel _ | with_reducible refine Ext.trans ?_ (Past.bel _)))⟩
theorem validCalendar_e {s : ByteArray} {ma ra : Option Addr} {mc rc : Nat} (wk : Int) {nm : Nat → ByteArray} {c : CalN} {w : World} {b : Bool} (hb : calB s nm c wk = b) (h : CalV w s ma ra mc rc nm c) :
    Calls Tryz.prog 31 #[.agg #[.string s, .slice ma c.n mc, .slice ra c.nr rc, .int .i64 wk]] w fun e w' => e = .returned (.bool b) ∧ Ext w w' := by subst hb; exact validCalendar_v wk h
theorem isYear_e {y : Int} {b : Bool} (hb : inB y 0 9999 = b) (w : World) : Calls Tryz.prog 39 #[.int .i64 y] w fun e w' => e = .returned (.bool b) ∧ w = w' := by subst hb; exact isYear_c y w
theorem isMonth_e (s : ByteArray) (ma ra : Option Addr) {n : Nat} (mc rn rc : Nat) (wk : Int) {m : Int} {b : Bool} (hb : inB m 1 (n : Int) = b) (w : World) : Calls Tryz.prog 57 #[.agg #[.string s, .slice ma n mc, .slice ra rn rc, .int .i64 wk], .int .i64 m] w fun e w' => e = .returned (.bool b) ∧ Ext w w' := by subst hb; exact isMonth_c _ _ _ _ _ _ _ _ _ w
set_option maxHeartbeats 2000000 in
theorem implValidDate_c {s : ByteArray} {ma ra : Option Addr} {mc rc : Nat} (wk : Int) {nm : Nat → ByteArray} {c : CalN} (y m d : Int) {w : World} (h : CalV w s ma ra mc rc nm c) :
    Calls Tryz.prog 32 #[.agg #[.string s, .slice ma c.n mc, .slice ra c.nr rc, .int .i64 wk], .agg #[.int .i64 y, .int .i64 m, .int .i64 d]] w fun e w' => e = .returned (.bool (vdR s nm c wk y m d)) ∧ Ext w w' := by
  have H := Lib.hid h
  clear h
  cases h1 : calB s nm c wk
  · go_enter Tryz.func32, Tryz.ntmps32
    go_wp2_with fail
    refine wp_region_past (by kernel_rfl) (by kernel_rfl) ?_
    repeat (go_big_quiet_step (first | (go_at_call 31; exact Calls.past (validCalendar_e wk h1 (H.out.ext (by repeat (first | with_reducible exact Ext.refl _ | with_reducible assumption | with_reducible refine Ext.alloc ?_ _ | with_reducible refine Ext.drew ?_ | (with_reducible refine Ext.setAt ?_ _ _ _ ?_; rotate_left; omega) | with_reducible refine Ext.trans ?_ (by assumption) | with_reducible exact Past.bel _ | with_reducible refine Ext.trans ?_ (Past.bel _))))))))
    refine wpQuiet_nil ?_
    rintro _ ⟨wx, rfl⟩
    go_wp2_with fail
    go_ret
    exact ⟨ret_bool (by simp [vdR, h1]), (by repeat (first | with_reducible exact Ext.refl _ | with_reducible assumption | with_reducible refine Ext.alloc ?_ _ | with_reducible refine Ext.drew ?_ | (with_reducible refine Ext.setAt ?_ _ _ _ ?_; rotate_left; omega) | with_reducible refine Ext.trans ?_ (by assumption) | with_reducible exact Past.bel _ | with_reducible refine Ext.trans ?_ (Past.bel _)))⟩
  · have b := calB_b h1
    have B := Lib.hid b
    clear b
    cases h2 : inB y 0 9999
    · go_enter Tryz.func32, Tryz.ntmps32
      go_wp2_with fail
      refine wp_region_past (by kernel_rfl) (by kernel_rfl) ?_
      repeat (go_big_quiet_step (first | (go_at_call 31; exact Calls.past (validCalendar_e wk h1 (H.out.ext (by repeat (first | with_reducible exact Ext.refl _ | with_reducible assumption | with_reducible refine Ext.alloc ?_ _ | with_reducible refine Ext.drew ?_ | (with_reducible refine Ext.setAt ?_ _ _ _ ?_; rotate_left; omega) | with_reducible refine Ext.trans ?_ (by assumption) | with_reducible exact Past.bel _ | with_reducible refine Ext.trans ?_ (Past.bel _)))))) | (go_at_call 39; exact Calls.past_same (isYear_e h2 _))))
      refine wpQuiet_nil ?_
      rintro _ ⟨wx, rfl⟩
      go_wp2_with fail
      go_ret
      exact ⟨ret_bool (by simp [vdR, dtB, h2]), (by repeat (first | with_reducible exact Ext.refl _ | with_reducible assumption | with_reducible refine Ext.alloc ?_ _ | with_reducible refine Ext.drew ?_ | (with_reducible refine Ext.setAt ?_ _ _ _ ?_; rotate_left; omega) | with_reducible refine Ext.trans ?_ (by assumption) | with_reducible exact Past.bel _ | with_reducible refine Ext.trans ?_ (Past.bel _)))⟩
    · have h2' := inB_t.1 h2
      cases h3 : inB m 1 (c.n : Int)
      · go_enter Tryz.func32, Tryz.ntmps32
        go_wp2_with fail
        refine wp_region_past (by kernel_rfl) (by kernel_rfl) ?_
        repeat (go_big_quiet_step (first | (go_at_call 31; exact Calls.past (validCalendar_e wk h1 (H.out.ext (by repeat (first | with_reducible exact Ext.refl _ | with_reducible assumption | with_reducible refine Ext.alloc ?_ _ | with_reducible refine Ext.drew ?_ | (with_reducible refine Ext.setAt ?_ _ _ _ ?_; rotate_left; omega) | with_reducible refine Ext.trans ?_ (by assumption) | with_reducible exact Past.bel _ | with_reducible refine Ext.trans ?_ (Past.bel _)))))) | (go_at_call 39; exact Calls.past_same (isYear_e h2 _)) | (go_at_call 57; exact Calls.past (isMonth_e _ _ _ _ _ _ _ h3 _))))
        refine wpQuiet_nil ?_
        rintro _ ⟨wx, rfl⟩
        go_wp2_with fail
        go_ret
        exact ⟨ret_bool (by simp [vdR, dtB, h3]), (by repeat (first | with_reducible exact Ext.refl _ | with_reducible assumption | with_reducible refine Ext.alloc ?_ _ | with_reducible refine Ext.drew ?_ | (with_reducible refine Ext.setAt ?_ _ _ _ ?_; rotate_left; omega) | with_reducible refine Ext.trans ?_ (by assumption) | with_reducible exact Past.bel _ | with_reducible refine Ext.trans ?_ (Past.bel _)))⟩
      · obtain ⟨j, rfl, hj⟩ := mon_nat h3
        go_enter Tryz.func32, Tryz.ntmps32
        go_wp2_with fail
        refine wp_region_past (by kernel_rfl) (by kernel_rfl) ?_
        repeat (go_big_quiet_step (first | (go_at_call 31; exact Calls.past (validCalendar_e wk h1 (H.out.ext (by repeat (first | with_reducible exact Ext.refl _ | with_reducible assumption | with_reducible refine Ext.alloc ?_ _ | with_reducible refine Ext.drew ?_ | (with_reducible refine Ext.setAt ?_ _ _ _ ?_; rotate_left; omega) | with_reducible refine Ext.trans ?_ (by assumption) | with_reducible exact Past.bel _ | with_reducible refine Ext.trans ?_ (Past.bel _)))))) | (go_at_call 39; exact Calls.past_same (isYear_e h2 _)) | (go_at_call 57; exact Calls.past (isMonth_e _ _ _ _ _ _ _ h3 _)) | (go_at_call 56; exact Calls.past (isLeap_v B.out (H.out.ext (by repeat (first | with_reducible exact Ext.refl _ | with_reducible assumption | with_reducible refine Ext.alloc ?_ _ | with_reducible refine Ext.drew ?_ | (with_reducible refine Ext.setAt ?_ _ _ _ ?_; rotate_left; omega) | with_reducible refine Ext.trans ?_ (by assumption) | with_reducible exact Past.bel _ | with_reducible refine Ext.trans ?_ (Past.bel _)))) h2'.1 (by omega))) | (go_at_call 58; exact Calls.past (daysOfMonth_v (H.out.ext (by repeat (first | with_reducible exact Ext.refl _ | with_reducible assumption | with_reducible refine Ext.alloc ?_ _ | with_reducible refine Ext.drew ?_ | (with_reducible refine Ext.setAt ?_ _ _ _ ?_; rotate_left; omega) | with_reducible refine Ext.trans ?_ (by assumption) | with_reducible exact Past.bel _ | with_reducible refine Ext.trans ?_ (Past.bel _)))) y hj)) | (go_at_call 34; exact Calls.past_same (within_c _ _ _ _))))
        refine wpQuiet_nil ?_
        rintro _ ⟨wx, rfl⟩
        go_wp2_with fail
        go_ret
        exact ⟨ret_bool (by simp [vdR, dtB, h1, h2, h3, succ_pred]), (by repeat (first | with_reducible exact Ext.refl _ | with_reducible assumption | with_reducible refine Ext.alloc ?_ _ | with_reducible refine Ext.drew ?_ | (with_reducible refine Ext.setAt ?_ _ _ _ ?_; rotate_left; omega) | with_reducible refine Ext.trans ?_ (by assumption) | with_reducible exact Past.bel _ | with_reducible refine Ext.trans ?_ (Past.bel _)))⟩
end Go.Proofs.YtpohhnihgegmfaaGreatDoor

namespace Go.Proofs.YtpohhnihgegmfaaGreatDoor
set_option linter.unusedVariables false
/-- months alike, rules alike, as far as place k -/
def moE (n1 : Nat → ByteArray) (c1 : CalN) (n2 : Nat → ByteArray) (c2 : CalN) (k : Nat) : Bool := decide (n1 k = n2 k) && (decide (c1.dy k = c2.dy k) && decide (c1.lp k = c2.lp k))
def ruE (c1 c2 : CalN) (k : Nat) : Bool := decide (c1.ev k = c2.ev k) && (decide (c1.rs k = c2.rs k) && decide (c1.lf k = c2.lf k))
def upTo (f : Nat → Bool) : Nat → Bool
  | 0 => true
  | k + 1 => upTo f k && f k
theorem upTo_ff {f : Nat → Bool} {n k : Nat} (hk : k < n) (h : f k = false) : upTo f n = false := by
  induction n with
  | zero => omega
  | succ n ih =>
    by_cases e : k = n
    · subst e; simp only [upTo, h, Bool.and_false]
    · simp only [upTo, ih (by omega), Bool.false_and]
theorem moE_f {n1 n2 : Nat → ByteArray} {c1 c2 : CalN} {k : Nat} (h : moE n1 c1 n2 c2 k = false) : (¬ n1 k = n2 k) ∨ (n1 k = n2 k ∧ ¬ c1.dy k = c2.dy k) ∨ (n1 k = n2 k ∧ c1.dy k = c2.dy k ∧ ¬ c1.lp k = c2.lp k) := by
  simp only [moE, Bool.and_eq_false_iff, decide_eq_false_iff_not] at h
  by_cases a : n1 k = n2 k
  · by_cases b : c1.dy k = c2.dy k
    · rcases h with h | h | h
      · exact absurd a h
      · exact absurd b h
      · exact .inr (.inr ⟨a, b, h⟩)
    · exact .inr (.inl ⟨a, b⟩)
  · exact .inl a
theorem moE_t {n1 n2 : Nat → ByteArray} {c1 c2 : CalN} {k : Nat} (h : moE n1 c1 n2 c2 k = true) : n1 k = n2 k ∧ c1.dy k = c2.dy k ∧ c1.lp k = c2.lp k := by
  simpa only [moE, Bool.and_eq_true, decide_eq_true_eq] using h
theorem ruE_f {c1 c2 : CalN} {k : Nat} (h : ruE c1 c2 k = false) : (¬ c1.ev k = c2.ev k) ∨ (c1.ev k = c2.ev k ∧ ¬ c1.rs k = c2.rs k) ∨ (c1.ev k = c2.ev k ∧ c1.rs k = c2.rs k ∧ ¬ c1.lf k = c2.lf k) := by
  simp only [ruE, Bool.and_eq_false_iff, decide_eq_false_iff_not] at h
  by_cases a : c1.ev k = c2.ev k
  · by_cases b : c1.rs k = c2.rs k
    · rcases h with h | h | h
      · exact absurd a h
      · exact absurd b h
      · exact .inr (.inr ⟨a, b, h⟩)
    · exact .inr (.inl ⟨a, b⟩)
  · exact .inl a
theorem ruE_t {c1 c2 : CalN} {k : Nat} (h : ruE c1 c2 k = true) : c1.ev k = c2.ev k ∧ c1.rs k = c2.rs k ∧ c1.lf k = c2.lf k := by
  simpa only [ruE, Bool.and_eq_true, decide_eq_true_eq] using h
/-- two calendars are the same -/
def moS (n1 : Nat → ByteArray) (c1 : CalN) (n2 : Nat → ByteArray) (c2 : CalN) : Bool := decide (c1.n = c2.n) && upTo (moE n1 c1 n2 c2) c1.n
def ruS (c1 c2 : CalN) : Bool := decide (c1.nr = c2.nr) && upTo (ruE c1 c2) c1.nr
def sameB (s1 : ByteArray) (n1 : Nat → ByteArray) (c1 : CalN) (w1 : Int) (s2 : ByteArray) (n2 : Nat → ByteArray) (c2 : CalN) (w2 : Int) : Bool :=
  decide (s1 = s2) && (decide (w1 = w2) && (moS n1 c1 n2 c2 && ruS c1 c2))
end Go.Proofs.YtpohhnihgegmfaaGreatDoor

namespace Go.Proofs.YtpohhnihgegmfaaGreatDoor
set_option linter.unusedVariables false
theorem sm_find {f : Nat → Int} {K : Nat} {x : Int} (h0 : 0 ≤ x) (h1 : x < sm f K) : ∃ y, y < K ∧ sm f y ≤ x ∧ x < sm f (y + 1) := by
  induction K with
  | zero => simp [sm] at h1; omega
  | succ K ih =>
    by_cases h : x < sm f K
    · obtain ⟨y, a, b⟩ := ih h
      exact ⟨y, by omega, b⟩
    · exact ⟨K, by omega, by omega, h1⟩
section
variable {c : CalN}
theorem CalB.bef_le (b : CalB c) {i k : Nat} (h : i ≤ k) : c.bef i ≤ c.bef k := sm_mono h fun j _ => by have := (b.yl (j : Int)).1; omega
theorem CalB.bef_lt (b : CalB c) {i k : Nat} (h : i < k) : c.bef i < c.bef k := sm_lt h fun j _ => (b.yl (j : Int)).1
theorem bef_succ (y : Nat) : c.bef (y + 1) = c.bef y + c.yl (y : Int) := rfl
theorem CalB.sm_le (b : CalB c) (y : Int) {i k : Nat} (h : i ≤ k) (hk : k ≤ c.n) : sm (c.mo y) i ≤ sm (c.mo y) k := sm_mono h fun j hj => by have := (b.mo y (show j < c.n by omega)).1; omega
theorem CalB.rul (b : CalB c) : rulB c.ev c.rs c.nr = true := by
  have h : ∀ k, k ≤ c.nr → rulTo c.ev c.rs k = true := fun k => by
    induction k with
    | zero => intro _; rfl
    | succ k ih =>
      intro hk
      have h1 := b.ev k (by omega)
      have h2 := b.rs k (by omega)
      simp only [rulTo, ih (by omega), Bool.true_and, Bool.and_eq_true, inB_t]
      exact ⟨h1, h2⟩
  simp only [rulB, h _ (Nat.le_refl _), b.cy, b.nr6, decide_true, Bool.and_true]
/-- years by cycles -/
theorem CalB.cut (b : CalB c) (k : Nat) : ∃ C q r : Nat, c.cyc = (C : Int) ∧ 1 ≤ C ∧ C ≤ 2000 ∧ k = q * C + r ∧ r < C ∧ (k : Int) / (C : Int) = (q : Int) ∧ (k : Int) % (C : Int) = (r : Int) ∧ c.bef (q * C) = (q : Int) * c.bef C := by
  obtain ⟨C, hC, h1, h2⟩ := b.cycN
  refine ⟨C, k / C, k % C, hC, h1, h2, ?_, Nat.mod_lt _ (by omega), by simp, by simp, ?_⟩
  · have := Nat.div_add_mod k C; rw [Nat.mul_comm] at this; exact this.symm
  · have := b.bef_mul hC (k / C) 0
    simpa [CalN.bef, sm] using this
/-- every number below the end is a day's -/
theorem Loc.ex (b : CalB c) {x : Int} {K : Nat} (h0 : 0 ≤ x) (h1 : x < c.bef K) : ∃ y m d, y < K ∧ Loc c x y m d := by
  obtain ⟨y, hy, a1, a2⟩ := sm_find (f := fun i => c.yl (i : Int)) h0 h1
  have a1' : c.bef y ≤ x := a1
  have a2' : x < c.bef (y + 1) := a2
  have h2 : x - c.bef y < sm (c.mo (y : Int)) c.n := by
    have : c.bef (y + 1) = c.bef y + sm (c.mo (y : Int)) c.n := rfl
    omega
  obtain ⟨m, hm, b1, b2⟩ := sm_find (f := c.mo (y : Int)) (show 0 ≤ x - c.bef y by omega) h2
  exact ⟨y, m, _, hy, ⟨a1', a2', hm, b1, b2, rfl⟩⟩
/-- a date has its number -/
theorem Loc.num (b : CalB c) {y m : Nat} {d : Int} (hm : m < c.n) (h1 : 1 ≤ d) (h2 : d ≤ c.mo (y : Int) m) : Loc c (c.num y m d) y m d := by
  have s0 : 0 ≤ sm (c.mo (y : Int)) m := by
    have := sm_bd (f := c.mo (y : Int)) (A := 1) (B := 60) (k := m) fun j hj => b.mo _ (by omega)
    omega
  have s1 : sm (c.mo (y : Int)) (m + 1) = sm (c.mo (y : Int)) m + c.mo (y : Int) m := rfl
  have s2 := b.sm_le (y : Int) (i := m + 1) (k := c.n) (by omega) (Nat.le_refl _)
  have s3 : c.bef (y + 1) = c.bef y + sm (c.mo (y : Int)) c.n := rfl
  exact ⟨by unfold CalN.num; omega, by unfold CalN.num; omega, hm, by unfold CalN.num; omega, by unfold CalN.num; omega, by unfold CalN.num; omega⟩
theorem Loc.nn {x : Int} {y m : Nat} {d : Int} (b : CalB c) (h : Loc c x y m d) : 0 ≤ x ∧ x < c.bef (y + 1) := by
  have := (b.bef y).1
  exact ⟨by have := h.y0; omega, h.y1⟩
theorem Loc.eq {x : Int} {y m : Nat} {d : Int} (h : Loc c x y m d) : x = c.num y m d := by
  have := h.dd
  unfold CalN.num; omega
/-- the year lies below K -/
theorem Loc.lt (b : CalB c) {x : Int} {y m K : Nat} {d : Int} (h : Loc c x y m d) (hx : x < c.bef K) : y < K := by
  rcases Nat.lt_or_ge y K with a | a
  · exact a
  · have := b.bef_le a; have := h.y0; omega
theorem Loc.day (b : CalB c) {x : Int} {y m : Nat} {d : Int} (h : Loc c x y m d) : 1 ≤ d ∧ d ≤ c.mo (y : Int) m := by
  have s1 : sm (c.mo (y : Int)) (m + 1) = sm (c.mo (y : Int)) m + c.mo (y : Int) m := rfl
  have := h.m0; have := h.m1; have := h.dd
  omega
theorem CalB.last (b : CalB c) : 10000 ≤ c.bef 10000 ∧ c.bef 10000 ≤ 12000000 := by have := b.bef 10000; omega
theorem CalB.befC (b : CalB c) (k : Nat) (hk : k ≤ 10000) : 0 ≤ c.bef k ∧ c.bef k ≤ 12000000 := by have := b.bef k; omega
/-- a number by cycles -/
theorem Loc.cut (b : CalB c) {x : Int} {Y M : Nat} {d : Int} (h : Loc c x Y M d) : ∃ C q : Nat, c.cyc = (C : Int) ∧ 1 ≤ C ∧ C ≤ 2000 ∧ 1 ≤ c.bef C ∧ c.bef C ≤ 2400000 ∧ x / c.bef C = (q : Int) ∧ x % c.bef C = x - c.bef (q * C) ∧ q * C ≤ Y ∧ q ≤ Y := by
  obtain ⟨C, hC, h1, h2⟩ := b.cycN
  have hx := (h.nn b).1
  have e0 := b.bef C
  have e1 : 1 ≤ c.bef C := by omega
  have e2 : 0 ≤ x / c.bef C := Int.ediv_nonneg hx (by omega)
  obtain ⟨q, hq⟩ := Int.eq_ofNat_of_zero_le e2
  have hb : c.bef (q * C) = (q : Int) * c.bef C := by
    have := b.bef_mul hC q 0
    simpa [CalN.bef, sm] using this
  have e3 := Int.mul_ediv_add_emod x (c.bef C)
  have e4 := Int.emod_nonneg x (show c.bef C ≠ 0 by omega)
  rw [hq, Int.mul_comm] at e3
  have e5 : c.bef (q * C) ≤ x := by rw [hb]; omega
  have e6 : q * C ≤ Y := by
    rcases Nat.lt_or_ge Y (q * C) with a | a
    · have := b.bef_le (show Y + 1 ≤ q * C by omega); have := h.y1; omega
    · exact a
  exact ⟨C, q, hC, h1, h2, e1, by omega, hq, by rw [hb]; omega, e6, Nat.le_trans (Nat.le_mul_of_pos_right q (by omega)) e6⟩
theorem Loc.yr (b : CalB c) {x : Int} {Y M : Nat} {d : Int} (h : Loc c x Y M d) {j : Nat} (hj : j < Y) : c.yl (j : Int) ≤ x - c.bef j := by
  have := b.bef_le (show j + 1 ≤ Y by omega)
  have := bef_succ (c := c) j
  have := h.y0
  omega
theorem Loc.yr' {x : Int} {Y M : Nat} {d : Int} (h : Loc c x Y M d) : x - c.bef Y < c.yl (Y : Int) := by
  have := bef_succ (c := c) Y
  have := h.y1
  omega
theorem Loc.mr (b : CalB c) {x : Int} {Y M : Nat} {d : Int} (h : Loc c x Y M d) {j : Nat} (hj : j < M) : c.mo (Y : Int) j ≤ x - c.bef Y - sm (c.mo (Y : Int)) j := by
  have := b.sm_le (Y : Int) (i := j + 1) (k := M) (by omega) (by have := h.mn; omega)
  have e : sm (c.mo (Y : Int)) (j + 1) = sm (c.mo (Y : Int)) j + c.mo (Y : Int) j := rfl
  have := h.m0
  omega
theorem Loc.mr' {x : Int} {Y M : Nat} {d : Int} (h : Loc c x Y M d) : x - c.bef Y - sm (c.mo (Y : Int)) M < c.mo (Y : Int) M := by
  have e : sm (c.mo (Y : Int)) (M + 1) = sm (c.mo (Y : Int)) M + c.mo (Y : Int) M := rfl
  have := h.m1
  omega
/-- the parts of a date of the calendar -/
theorem dtB_nat {y m d : Int} (h : dtB c y m d = true) : ∃ Y M : Nat, y = (Y : Int) ∧ m = (M : Int) + 1 ∧ Y ≤ 9999 ∧ M < c.n ∧ 1 ≤ d ∧ d ≤ c.mo (Y : Int) M := by
  simp only [dtB, Bool.and_eq_true] at h
  obtain ⟨h1, h2, h3⟩ := h
  obtain ⟨M, rfl, hM⟩ := mon_nat h2
  have h1' := inB_t.1 h1
  have h3' := inB_t.1 h3
  rw [succ_pred] at h3'
  obtain ⟨Y, rfl⟩ := Int.eq_ofNat_of_zero_le h1'.1
  exact ⟨Y, M, rfl, rfl, by omega, hM, h3'.1, h3'.2⟩
theorem dtB_mk (b : CalB c) {x : Int} {y m : Nat} {d : Int} (h : Loc c x y m d) (hy : y ≤ 9999) : dtB c (y : Int) ((m : Int) + 1) d = true := by
  have h2 := h.mn
  have h3 := h.day b
  simp only [dtB, Bool.and_eq_true, inB_t, succ_pred]
  exact ⟨⟨by omega, by omega⟩, ⟨by omega, by omega⟩, h3⟩
theorem num_bd (b : CalB c) {y m : Nat} {d : Int} (hy : y ≤ 9999) (hm : m < c.n) (h1 : 1 ≤ d) (h2 : d ≤ c.mo (y : Int) m) : 0 ≤ c.num y m d ∧ c.num y m d < c.bef 10000 := by
  have l := Loc.num b (y := y) hm h1 h2
  have := l.nn b
  have := b.bef_le (show y + 1 ≤ 10000 by omega)
  omega
end
end Go.Proofs.YtpohhnihgegmfaaGreatDoor

namespace Go.Proofs.YtpohhnihgegmfaaGreatDoor
open Go.RowKit
set_option linter.unusedVariables false
set_option linter.unusedSimpArgs false

section
variable {g : Nat} {s : ByteArray} {ma ra : Option Addr} {mc rc : Nat} {wk : Int} {nm : Nat → ByteArray} {c : CalN} {w : World}
end
end Go.Proofs.YtpohhnihgegmfaaGreatDoor

namespace Go.Proofs.YtpohhnihgegmfaaGreatDoor
open Go.RowKit
set_option linter.unusedVariables false
set_option linter.unusedSimpArgs false

/-- a date in a block of its own -/
theorem date_cells {w w' : World} (T : TypeId) (y m d : Int) (h : Ext (w.alloc (.cells #[.int .i64 y, .int .i64 m, .int .i64 d] T)) w') :
    w'.cell? ⟨w.heap.size, 0, none⟩ = some (.int .i64 y) ∧ w'.cell? ⟨w.heap.size, 1, none⟩ = some (.int .i64 m) ∧ w'.cell? ⟨w.heap.size, 2, none⟩ = some (.int .i64 d) := by
  refine ⟨?_, ?_, ?_⟩ <;> (rw [h.cell (by simp)]; simp [go_sem])
section
variable {s : ByteArray} {ma ra : Option Addr} {mc rc : Nat} {wk : Int} {nm : Nat → ByteArray} {c : CalN} {w : World}
theorem CalV.p (T : TypeId) (wk : Int) (h : CalV w s ma ra mc rc nm c) : CalP (w.alloc (.cells #[.string s, .slice ma c.n mc, .slice ra c.nr rc, .int .i64 wk] T)) w.heap.size s ma ra mc rc wk nm c := CalP.new T s ma ra mc rc wk h.mem
theorem daysBefore_v (b : CalB c) (h : CalV w s ma ra mc rc nm c) {y : Int} {k : Nat} (hy : y = (k : Int)) (hk : k ≤ 10000) :
    Calls Tryz.prog 47 #[.agg #[.string s, .slice ma c.n mc, .slice ra c.nr rc, .int .i64 wk], .int .i64 y] w fun e w' => e = .returned (.int .i64 (c.bef k)) ∧ Ext w w' := by
  subst hy
  exact daysBefore_c _ _ _ _ _ _ nm c k w b h.mem hk
theorem lastDay_v (b : CalB c) (h : CalV w s ma ra mc rc nm c) :
    Calls Tryz.prog 35 #[.agg #[.string s, .slice ma c.n mc, .slice ra c.nr rc, .int .i64 wk]] w fun e w' => e = .returned (.int .i64 (c.bef 10000 - 1)) ∧ Ext w w' := by
  have z0 := b.last
  have H := Lib.hid h
  have B := Lib.hid b
  clear h b
  go_enter Tryz.func35, Tryz.ntmps35
  go_wp2_with fail
  refine (daysBefore_v (k := 10000) B.out (H.out.ext (by repeat (first | with_reducible exact Ext.refl _ | with_reducible assumption | with_reducible refine Ext.alloc ?_ _ | with_reducible refine Ext.drew ?_ | (with_reducible refine Ext.setAt ?_ _ _ _ ?_; rotate_left; omega) | with_reducible refine Ext.trans ?_ (by assumption) | with_reducible exact Past.bel _ | with_reducible refine Ext.trans ?_ (Past.bel _)))) rfl (by omega)).mono ?_
  rintro e w' ⟨rfl, hx1⟩
  (first | (obtain ⟨wx1, rfl⟩ := Past.again hx1) | (obtain ⟨wx1, rfl⟩ := Past.of hx1))
  go_wp2_with fail
  go_ret
  exact ⟨rfl, (by repeat (first | with_reducible exact Ext.refl _ | with_reducible assumption | with_reducible refine Ext.alloc ?_ _ | with_reducible refine Ext.drew ?_ | (with_reducible refine Ext.setAt ?_ _ _ _ ?_; rotate_left; omega) | with_reducible refine Ext.trans ?_ (by assumption) | with_reducible exact Past.bel _ | with_reducible refine Ext.trans ?_ (Past.bel _)))⟩
set_option maxHeartbeats 2000000 in
theorem dayOf_v (b : CalB c) (h : CalV w s ma ra mc rc nm c) {Y M : Nat} {d : Int} (hY : Y ≤ 9999) (hM : M < c.n) (h1 : 1 ≤ d) (h2 : d ≤ 60) :
    Calls Tryz.prog 33 #[.agg #[.string s, .slice ma c.n mc, .slice ra c.nr rc, .int .i64 wk], .agg #[.int .i64 (Y : Nat), .int .i64 ((M : Int) + 1), .int .i64 d]] w fun e w' => e = .returned (.int .i64 (c.num Y M d)) ∧ Ext w w' := by
  have H := Lib.hid h
  have B := Lib.hid b
  have HP := Lib.hid ((h.p 27 wk).ext ((Ext.refl _).alloc (.cells #[.int .i64 (Y : Nat), .int .i64 ((M : Int) + 1), .int .i64 d] 29)))
  have n20 := b.n20
  have z0 := b.befC Y (by omega)
  have w1 := IntWalk.i64_in (c.bef Y + d) (by omega)
  have w2 := IntWalk.i64_in (c.bef Y + d - 1) (by omega)
  clear h b
  go_enter Tryz.func33, Tryz.ntmps33
  go_wp2_with fail
  refine wp_region_past (by kernel_rfl) (by kernel_rfl) ?_
  repeat (go_big_quiet_step ((go_at_call 47; exact Calls.past (daysBefore_v B.out (H.out.ext (by repeat (first | with_reducible exact Ext.refl _ | with_reducible assumption | with_reducible refine Ext.alloc ?_ _ | with_reducible refine Ext.drew ?_ | (with_reducible refine Ext.setAt ?_ _ _ _ ?_; rotate_left; omega) | with_reducible refine Ext.trans ?_ (by assumption) | with_reducible exact Past.bel _ | with_reducible refine Ext.trans ?_ (Past.bel _)))) rfl (by omega)))))
  refine wpQuiet_nil ?_
  rintro _ ⟨wx, rfl⟩
  clear w1 w2
  go_wp2_with (go_at_call 56; ((with_reducible refine (isLeap_v B.out (H.out.ext (by repeat (first | with_reducible exact Ext.refl _ | with_reducible assumption | with_reducible refine Ext.alloc ?_ _ | with_reducible refine Ext.drew ?_ | (with_reducible refine Ext.setAt ?_ _ _ _ ?_; rotate_left; omega) | with_reducible refine Ext.trans ?_ (by assumption) | with_reducible exact Past.bel _ | with_reducible refine Ext.trans ?_ (Past.bel _)))) (by omega) (by omega)).mono ?_); rintro e w' ⟨rfl, hx⟩; (first | (obtain ⟨wx, rfl⟩ := Past.again hx) | (obtain ⟨wx, rfl⟩ := Past.ofd hx) | (obtain ⟨wx, rfl⟩ := Past.of hx))))
  go_loopw [5, 7] (fun v i wr => ∃ j : Nat, j ≤ M ∧ i = .int .i64 ((j : Int) + 1) ∧ v = .int .i64 (c.bef Y + d - 1 + sm (c.mo (Y : Int)) j) ∧ Ext ((w.alloc (.cells #[.string s, .slice ma c.n mc, .slice ra c.nr rc, .int .i64 wk] 27)).alloc (.cells #[.int .i64 (Y : Nat), .int .i64 ((M : Int) + 1), .int .i64 d] 29)) wr) (fun _ i _ => M + 1 - (intOf i).toNat)
  case atStart => exact ⟨0, by omega, rfl, by simp [sm], (by repeat (first | with_reducible exact Ext.refl _ | with_reducible assumption | with_reducible refine Ext.alloc ?_ _ | with_reducible refine Ext.drew ?_ | (with_reducible refine Ext.setAt ?_ _ _ _ ?_; rotate_left; omega) | with_reducible refine Ext.trans ?_ (by assumption) | with_reducible exact Past.bel _ | with_reducible refine Ext.trans ?_ (Past.bel _)))⟩
  case round =>
    obtain ⟨j, hj, rfl, rfl, hbl⟩ := hrel
    have z3 := sm_bd (f := c.mo (Y : Int)) (A := 1) (B := 60) (k := j) fun i hi => B.out.mo _ (by omega)
    obtain ⟨q0, q1, q2⟩ := date_cells _ _ _ _ hbl
    simp only [World.size_alloc] at q0 q1 q2
    have hp := HP.out.ext hbl
    have p0 := hp.c0
    have p1 := hp.c1
    have p2 := hp.c2
    have p3 := hp.c3
    have hb0 : Ext w wr := Ext.trans (by repeat (first | with_reducible exact Ext.refl _ | with_reducible assumption | with_reducible refine Ext.alloc ?_ _ | with_reducible refine Ext.drew ?_ | (with_reducible refine Ext.setAt ?_ _ _ _ ?_; rotate_left; omega) | with_reducible refine Ext.trans ?_ (by assumption) | with_reducible exact Past.bel _ | with_reducible refine Ext.trans ?_ (Past.bel _))) hbl
    clear hp
    by_cases hlt : j < M
    · have z2 := B.out.mo (Y : Int) (show j < c.n by omega)
      go_wp2_with (go_at_call 58; ((with_reducible refine (daysOfMonth_v (H.out.ext (by repeat (first | with_reducible exact Ext.refl _ | with_reducible assumption | with_reducible refine Ext.alloc ?_ _ | with_reducible refine Ext.drew ?_ | (with_reducible refine Ext.setAt ?_ _ _ _ ?_; rotate_left; omega) | with_reducible refine Ext.trans ?_ (by assumption) | with_reducible exact Past.bel _ | with_reducible refine Ext.trans ?_ (Past.bel _)))) (Y : Int) (show j < c.n by omega)).mono ?_); rintro e w' ⟨rfl, hx⟩; (first | (obtain ⟨wx, rfl⟩ := Past.again hx) | (obtain ⟨wx, rfl⟩ := Past.ofd hx) | (obtain ⟨wx, rfl⟩ := Past.of hx))))
      exact ⟨⟨j + 1, by omega, by go_num, by simp only [sm]; go_num, (by repeat (first | with_reducible exact Ext.refl _ | with_reducible assumption | with_reducible refine Ext.alloc ?_ _ | with_reducible refine Ext.drew ?_ | (with_reducible refine Ext.setAt ?_ _ _ _ ?_; rotate_left; omega) | with_reducible refine Ext.trans ?_ (by assumption) | with_reducible exact Past.bel _ | with_reducible refine Ext.trans ?_ (Past.bel _)))⟩, by simp [intOf]; omega⟩
    · have hjm : j = M := by omega
      have HJ := Lib.hid hjm
      have x5 : (M : Int) ≤ (j : Int) := by omega
      clear hjm
      go_wp2_with fail
      go_ret
      exact ⟨ret_i64 (by rw [HJ.out]; unfold CalN.num; omega), (by repeat (first | with_reducible exact Ext.refl _ | with_reducible assumption | with_reducible refine Ext.alloc ?_ _ | with_reducible refine Ext.drew ?_ | (with_reducible refine Ext.setAt ?_ _ _ _ ?_; rotate_left; omega) | with_reducible refine Ext.trans ?_ (by assumption) | with_reducible exact Past.bel _ | with_reducible refine Ext.trans ?_ (Past.bel _)))⟩
end
end Go.Proofs.YtpohhnihgegmfaaGreatDoor

namespace Go.Proofs.YtpohhnihgegmfaaGreatDoor
open Go.RowKit
set_option linter.unusedVariables false
set_option linter.unusedSimpArgs false

section
variable {g : Nat} {s : ByteArray} {ma ra : Option Addr} {mc rc : Nat} {wk : Int} {nm : Nat → ByteArray} {c : CalN} {w : World}
end
end Go.Proofs.YtpohhnihgegmfaaGreatDoor

namespace Go.Proofs.YtpohhnihgegmfaaGreatDoor
open Go.RowKit
set_option linter.unusedVariables false
set_option linter.unusedSimpArgs false

section
variable {s : ByteArray} {ma ra : Option Addr} {mc rc : Nat} {wk : Int} {nm : Nat → ByteArray} {c : CalN} {w : World}
set_option maxHeartbeats 4000000 in
theorem dateOf_v (b : CalB c) (h : CalV w s ma ra mc rc nm c) {x : Int} {Y M : Nat} {d : Int} (l : Loc c x Y M d) (hY : Y ≤ 9999) :
    Calls Tryz.prog 36 #[.agg #[.string s, .slice ma c.n mc, .slice ra c.nr rc, .int .i64 wk], .int .i64 x] w fun e w' => e = .returned (.agg #[.int .i64 (Y : Nat), .int .i64 ((M : Int) + 1), .int .i64 d]) ∧ Ext w w' := by
  have n20 := b.n20
  have hM := l.mn
  have hx0 := (l.nn b).1
  have hx1 : x ≤ 12000000 := by have := (l.nn b).2; have := b.befC (Y + 1) (by omega); omega
  have H := Lib.hid h
  have B := Lib.hid b
  have LO := Lib.hid l
  have DY := Lib.hid l.dd
  have HP := Lib.hid ((h.p 27 wk).ext ((Ext.refl _).alloc (.cells #[.int .i64 0, .int .i64 0, .int .i64 0] 29)))
  have m1 := sm_bd (f := c.dy) (A := 1) (B := 60) (k := c.n) b.dy
  have m2 := sm_bd (f := c.lp) (A := 1) (B := 60) (k := c.n) b.lp
  clear h b l
  go_enter Tryz.func36, Tryz.ntmps36
  go_wp2_with (go_at_call 59; ((with_reducible refine (yearLengths_v B.out (H.out.ext (by repeat (first | with_reducible exact Ext.refl _ | with_reducible assumption | with_reducible refine Ext.alloc ?_ _ | with_reducible refine Ext.drew ?_ | (with_reducible refine Ext.setAt ?_ _ _ _ ?_; rotate_left; omega) | with_reducible refine Ext.trans ?_ (by assumption) | with_reducible exact Past.bel _ | with_reducible refine Ext.trans ?_ (Past.bel _))))).mono ?_); rintro e w' ⟨rfl, hx⟩; (first | (obtain ⟨wx, rfl⟩ := Past.again hx) | (obtain ⟨wx, rfl⟩ := Past.ofd hx) | (obtain ⟨wx, rfl⟩ := Past.of hx))))
  have hw0 : Ext w wx.out := (by repeat (first | with_reducible exact Ext.refl _ | with_reducible assumption | with_reducible refine Ext.alloc ?_ _ | with_reducible refine Ext.drew ?_ | (with_reducible refine Ext.setAt ?_ _ _ _ ?_; rotate_left; omega) | with_reducible refine Ext.trans ?_ (by assumption) | with_reducible exact Past.bel _ | with_reducible refine Ext.trans ?_ (Past.bel _)))
  have HW0 := Lib.hid hw0
  have hws := wx.bel.size
  simp only [World.size_alloc] at hws
  have RR : ∀ W, Ext wx.out W → (W.cell? ⟨w.heap.size, 0, none⟩ = some (.string s) ∧ W.cell? ⟨w.heap.size, 1, none⟩ = some (.slice ma c.n mc) ∧ W.cell? ⟨w.heap.size, 2, none⟩ = some (.slice ra c.nr rc) ∧ W.cell? ⟨w.heap.size, 3, none⟩ = some (.int .i64 wk)) ∧ (W.cell? ⟨w.heap.size + 1, 0, none⟩ = some (.int .i64 0) ∧ W.cell? ⟨w.heap.size + 1, 1, none⟩ = some (.int .i64 0) ∧ W.cell? ⟨w.heap.size + 1, 2, none⟩ = some (.int .i64 0)) ∧ (W.frozen? ⟨w.heap.size + 1, 0, none⟩ = false ∧ W.frozen? ⟨w.heap.size + 1, 1, none⟩ = false ∧ W.frozen? ⟨w.heap.size + 1, 2, none⟩ = false) := fun W hq => by
    have hp := (HP.out.ext wx.bel).ext hq
    refine ⟨⟨hp.c0, hp.c1, hp.c2, hp.c3⟩, ⟨?_, ?_, ?_⟩, ?_, ?_, ?_⟩
    · rw [hq.cell (by omega)]; simp [go_sem]
    · rw [hq.cell (by omega)]; simp [go_sem]
    · rw [hq.cell (by omega)]; simp [go_sem]
    · rw [Below.frozen (p := ⟨w.heap.size + 1, 0, none⟩) hq (show w.heap.size + 1 < wx.out.heap.size by omega)]; simp [go_sem]
    · rw [Below.frozen (p := ⟨w.heap.size + 1, 1, none⟩) hq (show w.heap.size + 1 < wx.out.heap.size by omega)]; simp [go_sem]
    · rw [Below.frozen (p := ⟨w.heap.size + 1, 2, none⟩) hq (show w.heap.size + 1 < wx.out.heap.size by omega)]; simp [go_sem]
  have RRO := Lib.hid RR
  clear RR hw0
  rename Past _ => wx0
  go_loopw [1] (fun v wr => ∃ j : Nat, j ≤ Y ∧ v = .int .i64 (x - c.bef j) ∧ Ext wx0.out wr ∧ Blk wr wx0.out.heap.size 29 #[.int .i64 (j : Nat), .int .i64 1, .int .i64 0]) (fun v _ => (intOf v).toNat)
  case atStart => exact ⟨0, by omega, by simp [CalN.bef, sm], (by repeat (first | with_reducible exact Ext.refl _ | with_reducible assumption | with_reducible refine Ext.alloc ?_ _ | with_reducible refine Ext.drew ?_ | (with_reducible refine Ext.setAt ?_ _ _ _ ?_; rotate_left; omega) | with_reducible refine Ext.trans ?_ (by assumption) | with_reducible exact Past.bel _ | with_reducible refine Ext.trans ?_ (Past.bel _))), Blk.new _ _ _⟩
  case round =>
    obtain ⟨j, hj, rfl, hbl, hblk⟩ := hrel
    have HK := Lib.hid hblk
    have k0 := hblk.cell 0
    have k1 := hblk.cell 1
    have k2 := hblk.cell 2
    have f0 := hblk.frozen 0
    have f1 := hblk.frozen 1
    have f2 := hblk.frozen 2
    have gk := hblk.lt
    simp only [List.getElem?_toArray, List.getElem?_cons_zero, List.getElem?_cons_succ] at k0 k1 k2
    have hb0 : Ext w wr := Ext.trans HW0.out hbl
    have z2 := B.out.yl (j : Int)
    have z3 := B.out.befC j (by omega)
    obtain ⟨⟨a0, a1, a2, a3⟩, -, -⟩ := RRO.out wr hbl
    have gk2 : w.heap.size < wr.heap.size := by have := hbl.size; omega
    clear hblk
    have HL := Lib.hid (fun W (hq : Ext w W) => isLeap_v (wk := wk) (y := (j : Int)) B.out (H.out.ext hq) (by omega) (by omega))
    by_cases hlt : j < Y
    · have z4 := LO.out.yr B.out hlt
      have Z5 := Lib.hid (bef_succ (c := c) j)
      cases hlp : c.leap (j : Int)
      · have YL := Lib.hid (yl_f hlp)
        have z6 : sm c.dy c.n ≤ x - c.bef j := by rw [← YL.out]; exact z4
        rw [hlp] at HL
        clear hlp
        go_wp2_with (go_at_call 56; ((with_reducible refine (HL.out _ (by repeat (first | with_reducible exact Ext.refl _ | with_reducible assumption | with_reducible refine Ext.alloc ?_ _ | with_reducible refine Ext.drew ?_ | (with_reducible refine Ext.setAt ?_ _ _ _ ?_; rotate_left; omega) | with_reducible refine Ext.trans ?_ (by assumption) | with_reducible exact Past.bel _ | with_reducible refine Ext.trans ?_ (Past.bel _)))).mono ?_); rintro e w' ⟨rfl, hx⟩; (first | (obtain ⟨wx, rfl⟩ := Past.again hx) | (obtain ⟨wx, rfl⟩ := Past.ofd hx) | (obtain ⟨wx, rfl⟩ := Past.of hx))))
        exact ⟨⟨j + 1, by omega, by rw [Z5.out, YL.out]; go_num, (by repeat (first | with_reducible exact Ext.refl _ | with_reducible assumption | with_reducible refine Ext.alloc ?_ _ | with_reducible refine Ext.drew ?_ | (with_reducible refine Ext.setAt ?_ _ _ _ ?_; rotate_left; omega) | with_reducible refine Ext.trans ?_ (by assumption) | with_reducible exact Past.bel _ | with_reducible refine Ext.trans ?_ (Past.bel _))), by have hz := (HK.out.ext (Past.bel wx)).set 0 (.int .i64 ((j : Int) + 1)); simpa using hz⟩, by simp [intOf]; have := YL.out; omega⟩
      · have YL := Lib.hid (yl_t hlp)
        have z6 : sm c.lp c.n ≤ x - c.bef j := by rw [← YL.out]; exact z4
        rw [hlp] at HL
        clear hlp
        go_wp2_with (go_at_call 56; ((with_reducible refine (HL.out _ (by repeat (first | with_reducible exact Ext.refl _ | with_reducible assumption | with_reducible refine Ext.alloc ?_ _ | with_reducible refine Ext.drew ?_ | (with_reducible refine Ext.setAt ?_ _ _ _ ?_; rotate_left; omega) | with_reducible refine Ext.trans ?_ (by assumption) | with_reducible exact Past.bel _ | with_reducible refine Ext.trans ?_ (Past.bel _)))).mono ?_); rintro e w' ⟨rfl, hx⟩; (first | (obtain ⟨wx, rfl⟩ := Past.again hx) | (obtain ⟨wx, rfl⟩ := Past.ofd hx) | (obtain ⟨wx, rfl⟩ := Past.of hx))))
        exact ⟨⟨j + 1, by omega, by rw [Z5.out, YL.out]; go_num, (by repeat (first | with_reducible exact Ext.refl _ | with_reducible assumption | with_reducible refine Ext.alloc ?_ _ | with_reducible refine Ext.drew ?_ | (with_reducible refine Ext.setAt ?_ _ _ _ ?_; rotate_left; omega) | with_reducible refine Ext.trans ?_ (by assumption) | with_reducible exact Past.bel _ | with_reducible refine Ext.trans ?_ (Past.bel _))), by have hz := (HK.out.ext (Past.bel wx)).set 0 (.int .i64 ((j : Int) + 1)); simpa using hz⟩, by simp [intOf]; have := YL.out; omega⟩
    · have hjY : j = Y := by omega
      subst hjY
      have z4 := LO.out.yr'
      have HL2 := HL
      cases hlp : c.leap (j : Int)
      all_goals
        first
          | (have z6 : x - c.bef j < sm c.dy c.n := by rw [← yl_f hlp]; exact z4)
          | (have z6 : x - c.bef j < sm c.lp c.n := by rw [← yl_t hlp]; exact z4)
        rw [hlp] at HL
        have LP := Lib.hid hlp
        clear hlp
        go_wp2_with (go_at_call 56; ((with_reducible refine (HL.out _ (by repeat (first | with_reducible exact Ext.refl _ | with_reducible assumption | with_reducible refine Ext.alloc ?_ _ | with_reducible refine Ext.drew ?_ | (with_reducible refine Ext.setAt ?_ _ _ _ ?_; rotate_left; omega) | with_reducible refine Ext.trans ?_ (by assumption) | with_reducible exact Past.bel _ | with_reducible refine Ext.trans ?_ (Past.bel _)))).mono ?_); rintro e w' ⟨rfl, hx⟩; (first | (obtain ⟨wx, rfl⟩ := Past.again hx) | (obtain ⟨wx, rfl⟩ := Past.ofd hx) | (obtain ⟨wx, rfl⟩ := Past.of hx))))
        have HK2 := Lib.hid (HK.out.ext (Past.bel wx))
        have HB2 := Lib.hid (show Ext wx0.out wx.out from Ext.trans hbl (Past.bel wx))
        clear hb0 k0 k1 k2 f0 f1 f2 gk hbl z2 z3 z4 HK a0 a1 a2 a3 gk2
        go_loopw [1] (fun v wr => ∃ i : Nat, i ≤ M ∧ v = .int .i64 (x - c.bef j - sm (c.mo (j : Int)) i) ∧ Ext wx0.out wr ∧ Blk wr wx0.out.heap.size 29 #[.int .i64 (j : Nat), .int .i64 ((i : Int) + 1), .int .i64 0]) (fun v _ => (intOf v).toNat)
        case atStart => exact ⟨0, by omega, by simp [sm], HB2.out, HK2.out⟩
        case round =>
          obtain ⟨i, hi, rfl, hbl, hblk⟩ := hrel
          have HK := Lib.hid hblk
          have k0 := hblk.cell 0
          have k1 := hblk.cell 1
          have k2 := hblk.cell 2
          have f0 := hblk.frozen 0
          have f1 := hblk.frozen 1
          have f2 := hblk.frozen 2
          have gk := hblk.lt
          simp only [List.getElem?_toArray, List.getElem?_cons_zero, List.getElem?_cons_succ] at k0 k1 k2
          have hb0 : Ext w wr := Ext.trans HW0.out hbl
          have him : i < c.n := by omega
          have z2 := B.out.mo (j : Int) him
          have z3 := B.out.befC j (by omega)
          have z6 := sm_bd (f := c.mo (j : Int)) (A := 1) (B := 60) (k := i) fun i' hi' => B.out.mo _ (by omega)
          obtain ⟨⟨a0, a1, a2, a3⟩, ⟨r0, r1, r2⟩, s0, s1, s2⟩ := RRO.out wr hbl
          have gk2 : w.heap.size < wr.heap.size := by have := hbl.size; omega
          have gk3 : w.heap.size + 1 < wr.heap.size := by have := hbl.size; omega
          have HD := Lib.hid (fun W (hq : Ext w W) => (LP.out ▸ daysOfMonth_v (wk := wk) (H.out.ext hq) (j : Int) him : Calls Tryz.prog 58 _ W _))
          clear hblk
          by_cases hlt : i < M
          · have z4 := LO.out.mr B.out hlt
            go_wp2_with (go_at_call 58; ((with_reducible refine (HD.out _ (by repeat (first | with_reducible exact Ext.refl _ | with_reducible assumption | with_reducible refine Ext.alloc ?_ _ | with_reducible refine Ext.drew ?_ | (with_reducible refine Ext.setAt ?_ _ _ _ ?_; rotate_left; omega) | with_reducible refine Ext.trans ?_ (by assumption) | with_reducible exact Past.bel _ | with_reducible refine Ext.trans ?_ (Past.bel _)))).mono ?_); rintro e w' ⟨rfl, hx⟩; (first | (obtain ⟨wx, rfl⟩ := Past.again hx) | (obtain ⟨wx, rfl⟩ := Past.ofd hx) | (obtain ⟨wx, rfl⟩ := Past.of hx))))
            exact ⟨⟨i + 1, by omega, by simp only [sm]; go_num, (by repeat (first | with_reducible exact Ext.refl _ | with_reducible assumption | with_reducible refine Ext.alloc ?_ _ | with_reducible refine Ext.drew ?_ | (with_reducible refine Ext.setAt ?_ _ _ _ ?_; rotate_left; omega) | with_reducible refine Ext.trans ?_ (by assumption) | with_reducible exact Past.bel _ | with_reducible refine Ext.trans ?_ (Past.bel _))), by have hz := (HK.out.ext (Past.bel wx)).set 1 (.int .i64 ((i : Int) + 1 + 1)); simpa using hz⟩, by simp [intOf]; omega⟩
          · have him2 : i = M := by omega
            subst him2
            have z4 := LO.out.mr'
            have ne1 : ¬ w.heap.size + 1 = wx0.out.heap.size := by omega
            have ne2 : ¬ wx0.out.heap.size = w.heap.size + 1 := by omega
            go_wp2_with (go_at_call 58; ((with_reducible refine (HD.out _ (by repeat (first | with_reducible exact Ext.refl _ | with_reducible assumption | with_reducible refine Ext.alloc ?_ _ | with_reducible refine Ext.drew ?_ | (with_reducible refine Ext.setAt ?_ _ _ _ ?_; rotate_left; omega) | with_reducible refine Ext.trans ?_ (by assumption) | with_reducible exact Past.bel _ | with_reducible refine Ext.trans ?_ (Past.bel _)))).mono ?_); rintro e w' ⟨rfl, hx⟩; (first | (obtain ⟨wx, rfl⟩ := Past.again hx) | (obtain ⟨wx, rfl⟩ := Past.ofd hx) | (obtain ⟨wx, rfl⟩ := Past.of hx))))
            refine bodyPost_ret (v := .agg #[.int .i64 (j : Nat), .int .i64 ((i : Int) + 1), .int .i64 (x - c.bef j - sm (c.mo (j : Int)) i + 1)]) (by simp [results, Tryz.results36, go_sem, r0, r1, r2, gk2, gk3, ne1, ne2]) rfl ⟨by rw [DY.out], ?_⟩
            have hb3 : Ext w wx.out := Ext.trans hb0 (Past.bel wx)
            exact (((hb3.setAt _ _ _ (by omega)).setAt _ _ _ (by omega)).setAt _ _ _ (by omega)).setAt _ _ _ (by omega)
end
end Go.Proofs.YtpohhnihgegmfaaGreatDoor

namespace Go.Proofs.YtpohhnihgegmfaaGreatDoor
set_option linter.unusedVariables false
section
variable (s : ByteArray) (nm : Nat → ByteArray) (c : CalN) (wk : Int)
def caC : Int := if calB s nm c wk then 0 else 1
def cyV : Int := if calB s nm c wk then c.cyc else 0
def cyD : Int := if calB s nm c wk then c.bef c.cyc.toNat else 0
def laV : Int := if calB s nm c wk then c.bef 10000 - 1 else 0
/-- a date's number -/
def dnum (y m d : Int) : Int := c.num y.toNat (m - 1).toNat d
def dyC (y m d : Int) : Int := if calB s nm c wk then (if dtB c y m d then 0 else 2) else 1
def dyV (y m d : Int) : Int := if dyC s nm c wk y m d = 0 then dnum c y m d else 0
def btC (y m d y' m' d' : Int) : Int := if calB s nm c wk then (if dtB c y m d && dtB c y' m' d' then 0 else 2) else 1
def btV (y m d y' m' d' : Int) : Int := if btC s nm c wk y m d y' m' d' = 0 then dnum c y' m' d' - dnum c y m d else 0
def wdC (y m d f : Int) : Int := if calB s nm c wk then (if dtB c y m d && inB f 1 wk then 0 else 2) else 1
def wdV (y m d f : Int) : Int := if wdC s nm c wk y m d f = 0 then (dnum c y m d + f - 1) % wk + 1 else 0
end
theorem calB_w {s : ByteArray} {nm : Nat → ByteArray} {c : CalN} {wk : Int} (h : calB s nm c wk = true) : 1 ≤ wk ∧ wk ≤ 12 := by
  simp only [calB, Bool.and_eq_true, inB_t] at h; exact h.2.2.2
theorem dnum_nat (c : CalN) (Y M : Nat) (d : Int) : dnum c (Y : Int) ((M : Int) + 1) d = c.num Y M d := by
  unfold dnum; rw [succ_pred]; simp
theorem dnum_bd {c : CalN} (b : CalB c) {y m d : Int} (h : dtB c y m d = true) : 0 ≤ dnum c y m d ∧ dnum c y m d < c.bef 10000 := by
  obtain ⟨Y, M, rfl, rfl, h1, h2, h3, h4⟩ := dtB_nat h
  rw [dnum_nat]; exact num_bd b h1 h2 h3 h4
end Go.Proofs.YtpohhnihgegmfaaGreatDoor

namespace Go.Proofs.YtpohhnihgegmfaaGreatDoor
open Go.RowKit
set_option linter.unusedVariables false
set_option linter.unusedSimpArgs false

section
variable {g : Nat} {s : ByteArray} {ma ra : Option Addr} {mc rc : Nat} {wk : Int} {nm : Nat → ByteArray} {c : CalN} {w : World}
theorem dayOf_i (b : CalB c) (h : CalV w s ma ra mc rc nm c) {y m d : Int} (hd : dtB c y m d = true) :
    Calls Tryz.prog 33 #[.agg #[.string s, .slice ma c.n mc, .slice ra c.nr rc, .int .i64 wk], .agg #[.int .i64 y, .int .i64 m, .int .i64 d]] w fun e w' => e = .returned (.int .i64 (dnum c y m d)) ∧ Ext w w' := by
  obtain ⟨Y, M, rfl, rfl, h1, h2, h3, h4⟩ := dtB_nat hd
  rw [dnum_nat]
  exact dayOf_v b h h1 h2 h3 (by have := b.mo (Y : Int) h2; omega)
theorem cycleYears_v (b : CalB c) (h : CalV w s ma ra mc rc nm c) : Calls Tryz.prog 46 #[.slice ra c.nr rc] w fun e w' => e = .returned (.int .i64 c.cyc) ∧ Ext w w' :=
  cycleYears_c _ _ _ c.ev c.rs c.lf _ h.rb h.mem.ru b.ev
theorem daysBefore_i (b : CalB c) (h : CalV w s ma ra mc rc nm c) :
    Calls Tryz.prog 47 #[.agg #[.string s, .slice ma c.n mc, .slice ra c.nr rc, .int .i64 wk], .int .i64 c.cyc] w fun e w' => e = .returned (.int .i64 (c.bef c.cyc.toNat)) ∧ Ext w w' := by
  have := b.cyc1
  exact daysBefore_v b h (by omega) (by omega)
set_option maxHeartbeats 1000000 in
theorem implCycleOf_c (wk : Int) (h : CalV w s ma ra mc rc nm c) :
    Calls Tryz.prog 18 #[.agg #[.string s, .slice ma c.n mc, .slice ra c.nr rc, .int .i64 wk]] w fun e w' => e = .returned (.tuple #[.int .i64 (cyV s nm c wk), .int .i64 (cyD s nm c wk), .int .i64 (caC s nm c wk)]) ∧ Ext w w' := by
  have H := Lib.hid h
  clear h
  cases h1 : calB s nm c wk
  · go_enter Tryz.func18, Tryz.ntmps18
    go_wp2_with (go_at_call 31; ((with_reducible refine (validCalendar_v wk (H.out.ext (by repeat (first | with_reducible exact Ext.refl _ | with_reducible assumption | with_reducible refine Ext.alloc ?_ _ | with_reducible refine Ext.drew ?_ | (with_reducible refine Ext.setAt ?_ _ _ _ ?_; rotate_left; omega) | with_reducible refine Ext.trans ?_ (by assumption) | with_reducible exact Past.bel _ | with_reducible refine Ext.trans ?_ (Past.bel _))))).mono ?_); rintro e w' ⟨rfl, hx⟩; (first | (obtain ⟨wx, rfl⟩ := Past.again hx) | (obtain ⟨wx, rfl⟩ := Past.ofd hx) | (obtain ⟨wx, rfl⟩ := Past.of hx))))
    exact bodyPost_ret (v := .tuple #[.int .i64 0, .int .i64 0, .int .i64 1]) (by simp [results, Tryz.results18, go_sem]) rfl ⟨by simp [cyV, cyD, caC, h1], (by repeat (first | with_reducible exact Ext.refl _ | with_reducible assumption | with_reducible refine Ext.alloc ?_ _ | with_reducible refine Ext.drew ?_ | (with_reducible refine Ext.setAt ?_ _ _ _ ?_; rotate_left; omega) | with_reducible refine Ext.trans ?_ (by assumption) | with_reducible exact Past.bel _ | with_reducible refine Ext.trans ?_ (Past.bel _)))⟩
  · have B := Lib.hid (calB_b h1)
    go_enter Tryz.func18, Tryz.ntmps18
    go_wp2_with (first | (go_at_call 31; ((with_reducible refine (validCalendar_v wk (H.out.ext (by repeat (first | with_reducible exact Ext.refl _ | with_reducible assumption | with_reducible refine Ext.alloc ?_ _ | with_reducible refine Ext.drew ?_ | (with_reducible refine Ext.setAt ?_ _ _ _ ?_; rotate_left; omega) | with_reducible refine Ext.trans ?_ (by assumption) | with_reducible exact Past.bel _ | with_reducible refine Ext.trans ?_ (Past.bel _))))).mono ?_); rintro e w' ⟨rfl, hx⟩; (first | (obtain ⟨wx, rfl⟩ := Past.again hx) | (obtain ⟨wx, rfl⟩ := Past.ofd hx) | (obtain ⟨wx, rfl⟩ := Past.of hx)))) | (go_at_call 46; ((with_reducible refine (cycleYears_v B.out (H.out.ext (by repeat (first | with_reducible exact Ext.refl _ | with_reducible assumption | with_reducible refine Ext.alloc ?_ _ | with_reducible refine Ext.drew ?_ | (with_reducible refine Ext.setAt ?_ _ _ _ ?_; rotate_left; omega) | with_reducible refine Ext.trans ?_ (by assumption) | with_reducible exact Past.bel _ | with_reducible refine Ext.trans ?_ (Past.bel _))))).mono ?_); rintro e w' ⟨rfl, hx⟩; (first | (obtain ⟨wx, rfl⟩ := Past.again hx) | (obtain ⟨wx, rfl⟩ := Past.ofd hx) | (obtain ⟨wx, rfl⟩ := Past.of hx)))) | (go_at_call 47; ((with_reducible refine (daysBefore_i B.out (H.out.ext (by repeat (first | with_reducible exact Ext.refl _ | with_reducible assumption | with_reducible refine Ext.alloc ?_ _ | with_reducible refine Ext.drew ?_ | (with_reducible refine Ext.setAt ?_ _ _ _ ?_; rotate_left; omega) | with_reducible refine Ext.trans ?_ (by assumption) | with_reducible exact Past.bel _ | with_reducible refine Ext.trans ?_ (Past.bel _))))).mono ?_); rintro e w' ⟨rfl, hx⟩; (first | (obtain ⟨wx, rfl⟩ := Past.again hx) | (obtain ⟨wx, rfl⟩ := Past.ofd hx) | (obtain ⟨wx, rfl⟩ := Past.of hx)))))
    exact bodyPost_ret (v := .tuple #[.int .i64 c.cyc, .int .i64 (c.bef c.cyc.toNat), .int .i64 0]) (by simp [results, Tryz.results18, go_sem]) rfl ⟨by simp [cyV, cyD, caC, h1], (by repeat (first | with_reducible exact Ext.refl _ | with_reducible assumption | with_reducible refine Ext.alloc ?_ _ | with_reducible refine Ext.drew ?_ | (with_reducible refine Ext.setAt ?_ _ _ _ ?_; rotate_left; omega) | with_reducible refine Ext.trans ?_ (by assumption) | with_reducible exact Past.bel _ | with_reducible refine Ext.trans ?_ (Past.bel _)))⟩
theorem implLastDay_c (wk : Int) (h : CalV w s ma ra mc rc nm c) :
    Calls Tryz.prog 11 #[.agg #[.string s, .slice ma c.n mc, .slice ra c.nr rc, .int .i64 wk]] w fun e w' => e = .returned (.tuple #[.int .i64 (laV s nm c wk), .int .i64 (caC s nm c wk)]) ∧ Ext w w' := by
  have H := Lib.hid h
  clear h
  cases h1 : calB s nm c wk
  · go_enter Tryz.func11, Tryz.ntmps11
    go_wp2_with (go_at_call 31; ((with_reducible refine (validCalendar_v wk (H.out.ext (by repeat (first | with_reducible exact Ext.refl _ | with_reducible assumption | with_reducible refine Ext.alloc ?_ _ | with_reducible refine Ext.drew ?_ | (with_reducible refine Ext.setAt ?_ _ _ _ ?_; rotate_left; omega) | with_reducible refine Ext.trans ?_ (by assumption) | with_reducible exact Past.bel _ | with_reducible refine Ext.trans ?_ (Past.bel _))))).mono ?_); rintro e w' ⟨rfl, hx⟩; (first | (obtain ⟨wx, rfl⟩ := Past.again hx) | (obtain ⟨wx, rfl⟩ := Past.ofd hx) | (obtain ⟨wx, rfl⟩ := Past.of hx))))
    go_ret2
    exact ⟨by simp [laV, caC, h1], (by repeat (first | with_reducible exact Ext.refl _ | with_reducible assumption | with_reducible refine Ext.alloc ?_ _ | with_reducible refine Ext.drew ?_ | (with_reducible refine Ext.setAt ?_ _ _ _ ?_; rotate_left; omega) | with_reducible refine Ext.trans ?_ (by assumption) | with_reducible exact Past.bel _ | with_reducible refine Ext.trans ?_ (Past.bel _)))⟩
  · have B := Lib.hid (calB_b h1)
    go_enter Tryz.func11, Tryz.ntmps11
    go_wp2_with (first | (go_at_call 31; ((with_reducible refine (validCalendar_v wk (H.out.ext (by repeat (first | with_reducible exact Ext.refl _ | with_reducible assumption | with_reducible refine Ext.alloc ?_ _ | with_reducible refine Ext.drew ?_ | (with_reducible refine Ext.setAt ?_ _ _ _ ?_; rotate_left; omega) | with_reducible refine Ext.trans ?_ (by assumption) | with_reducible exact Past.bel _ | with_reducible refine Ext.trans ?_ (Past.bel _))))).mono ?_); rintro e w' ⟨rfl, hx⟩; (first | (obtain ⟨wx, rfl⟩ := Past.again hx) | (obtain ⟨wx, rfl⟩ := Past.ofd hx) | (obtain ⟨wx, rfl⟩ := Past.of hx)))) | (go_at_call 35; ((with_reducible refine (lastDay_v B.out (H.out.ext (by repeat (first | with_reducible exact Ext.refl _ | with_reducible assumption | with_reducible refine Ext.alloc ?_ _ | with_reducible refine Ext.drew ?_ | (with_reducible refine Ext.setAt ?_ _ _ _ ?_; rotate_left; omega) | with_reducible refine Ext.trans ?_ (by assumption) | with_reducible exact Past.bel _ | with_reducible refine Ext.trans ?_ (Past.bel _))))).mono ?_); rintro e w' ⟨rfl, hx⟩; (first | (obtain ⟨wx, rfl⟩ := Past.again hx) | (obtain ⟨wx, rfl⟩ := Past.ofd hx) | (obtain ⟨wx, rfl⟩ := Past.of hx)))))
    go_ret2
    exact ⟨by simp [laV, caC, h1], (by repeat (first | with_reducible exact Ext.refl _ | with_reducible assumption | with_reducible refine Ext.alloc ?_ _ | with_reducible refine Ext.drew ?_ | (with_reducible refine Ext.setAt ?_ _ _ _ ?_; rotate_left; omega) | with_reducible refine Ext.trans ?_ (by assumption) | with_reducible exact Past.bel _ | with_reducible refine Ext.trans ?_ (Past.bel _)))⟩
set_option maxHeartbeats 1000000 in
theorem implDayOf_c (wk y m d : Int) (h : CalV w s ma ra mc rc nm c) :
    Calls Tryz.prog 7 #[.agg #[.string s, .slice ma c.n mc, .slice ra c.nr rc, .int .i64 wk], .agg #[.int .i64 y, .int .i64 m, .int .i64 d]] w fun e w' => e = .returned (.tuple #[.int .i64 (dyV s nm c wk y m d), .int .i64 (dyC s nm c wk y m d)]) ∧ Ext w w' := by
  have H := Lib.hid h
  clear h
  cases h1 : calB s nm c wk
  · go_enter Tryz.func7, Tryz.ntmps7
    go_wp2_with (go_at_call 31; ((with_reducible refine (validCalendar_v wk (H.out.ext (by repeat (first | with_reducible exact Ext.refl _ | with_reducible assumption | with_reducible refine Ext.alloc ?_ _ | with_reducible refine Ext.drew ?_ | (with_reducible refine Ext.setAt ?_ _ _ _ ?_; rotate_left; omega) | with_reducible refine Ext.trans ?_ (by assumption) | with_reducible exact Past.bel _ | with_reducible refine Ext.trans ?_ (Past.bel _))))).mono ?_); rintro e w' ⟨rfl, hx⟩; (first | (obtain ⟨wx, rfl⟩ := Past.again hx) | (obtain ⟨wx, rfl⟩ := Past.ofd hx) | (obtain ⟨wx, rfl⟩ := Past.of hx))))
    go_ret2
    exact ⟨by simp [dyV, dyC, h1], (by repeat (first | with_reducible exact Ext.refl _ | with_reducible assumption | with_reducible refine Ext.alloc ?_ _ | with_reducible refine Ext.drew ?_ | (with_reducible refine Ext.setAt ?_ _ _ _ ?_; rotate_left; omega) | with_reducible refine Ext.trans ?_ (by assumption) | with_reducible exact Past.bel _ | with_reducible refine Ext.trans ?_ (Past.bel _)))⟩
  · have B := Lib.hid (calB_b h1)
    cases h2 : dtB c y m d
    · have h3 : vdR s nm c wk y m d = false := by simp [vdR, h2]
      go_enter Tryz.func7, Tryz.ntmps7
      go_wp2_with (first | (go_at_call 31; ((with_reducible refine (validCalendar_v wk (H.out.ext (by repeat (first | with_reducible exact Ext.refl _ | with_reducible assumption | with_reducible refine Ext.alloc ?_ _ | with_reducible refine Ext.drew ?_ | (with_reducible refine Ext.setAt ?_ _ _ _ ?_; rotate_left; omega) | with_reducible refine Ext.trans ?_ (by assumption) | with_reducible exact Past.bel _ | with_reducible refine Ext.trans ?_ (Past.bel _))))).mono ?_); rintro e w' ⟨rfl, hx⟩; (first | (obtain ⟨wx, rfl⟩ := Past.again hx) | (obtain ⟨wx, rfl⟩ := Past.ofd hx) | (obtain ⟨wx, rfl⟩ := Past.of hx)))) | (go_at_call 32; ((with_reducible refine (implValidDate_c wk y m d (H.out.ext (by repeat (first | with_reducible exact Ext.refl _ | with_reducible assumption | with_reducible refine Ext.alloc ?_ _ | with_reducible refine Ext.drew ?_ | (with_reducible refine Ext.setAt ?_ _ _ _ ?_; rotate_left; omega) | with_reducible refine Ext.trans ?_ (by assumption) | with_reducible exact Past.bel _ | with_reducible refine Ext.trans ?_ (Past.bel _))))).mono ?_); rintro e w' ⟨rfl, hx⟩; (first | (obtain ⟨wx, rfl⟩ := Past.again hx) | (obtain ⟨wx, rfl⟩ := Past.ofd hx) | (obtain ⟨wx, rfl⟩ := Past.of hx)))))
      go_ret2
      exact ⟨by simp [dyV, dyC, h1, h2], (by repeat (first | with_reducible exact Ext.refl _ | with_reducible assumption | with_reducible refine Ext.alloc ?_ _ | with_reducible refine Ext.drew ?_ | (with_reducible refine Ext.setAt ?_ _ _ _ ?_; rotate_left; omega) | with_reducible refine Ext.trans ?_ (by assumption) | with_reducible exact Past.bel _ | with_reducible refine Ext.trans ?_ (Past.bel _)))⟩
    · have h3 : vdR s nm c wk y m d = true := by simp [vdR, h1, h2]
      go_enter Tryz.func7, Tryz.ntmps7
      go_wp2_with (first | (go_at_call 31; ((with_reducible refine (validCalendar_v wk (H.out.ext (by repeat (first | with_reducible exact Ext.refl _ | with_reducible assumption | with_reducible refine Ext.alloc ?_ _ | with_reducible refine Ext.drew ?_ | (with_reducible refine Ext.setAt ?_ _ _ _ ?_; rotate_left; omega) | with_reducible refine Ext.trans ?_ (by assumption) | with_reducible exact Past.bel _ | with_reducible refine Ext.trans ?_ (Past.bel _))))).mono ?_); rintro e w' ⟨rfl, hx⟩; (first | (obtain ⟨wx, rfl⟩ := Past.again hx) | (obtain ⟨wx, rfl⟩ := Past.ofd hx) | (obtain ⟨wx, rfl⟩ := Past.of hx)))) | (go_at_call 32; ((with_reducible refine (implValidDate_c wk y m d (H.out.ext (by repeat (first | with_reducible exact Ext.refl _ | with_reducible assumption | with_reducible refine Ext.alloc ?_ _ | with_reducible refine Ext.drew ?_ | (with_reducible refine Ext.setAt ?_ _ _ _ ?_; rotate_left; omega) | with_reducible refine Ext.trans ?_ (by assumption) | with_reducible exact Past.bel _ | with_reducible refine Ext.trans ?_ (Past.bel _))))).mono ?_); rintro e w' ⟨rfl, hx⟩; (first | (obtain ⟨wx, rfl⟩ := Past.again hx) | (obtain ⟨wx, rfl⟩ := Past.ofd hx) | (obtain ⟨wx, rfl⟩ := Past.of hx)))) | (go_at_call 33; ((with_reducible refine (dayOf_i B.out (H.out.ext (by repeat (first | with_reducible exact Ext.refl _ | with_reducible assumption | with_reducible refine Ext.alloc ?_ _ | with_reducible refine Ext.drew ?_ | (with_reducible refine Ext.setAt ?_ _ _ _ ?_; rotate_left; omega) | with_reducible refine Ext.trans ?_ (by assumption) | with_reducible exact Past.bel _ | with_reducible refine Ext.trans ?_ (Past.bel _)))) h2).mono ?_); rintro e w' ⟨rfl, hx⟩; (first | (obtain ⟨wx, rfl⟩ := Past.again hx) | (obtain ⟨wx, rfl⟩ := Past.ofd hx) | (obtain ⟨wx, rfl⟩ := Past.of hx)))))
      go_ret2
      exact ⟨by simp [dyV, dyC, h1, h2], (by repeat (first | with_reducible exact Ext.refl _ | with_reducible assumption | with_reducible refine Ext.alloc ?_ _ | with_reducible refine Ext.drew ?_ | (with_reducible refine Ext.setAt ?_ _ _ _ ?_; rotate_left; omega) | with_reducible refine Ext.trans ?_ (by assumption) | with_reducible exact Past.bel _ | with_reducible refine Ext.trans ?_ (Past.bel _)))⟩
end
end Go.Proofs.YtpohhnihgegmfaaGreatDoor

namespace Go.Proofs.YtpohhnihgegmfaaGreatDoor
open Go.RowKit
set_option linter.unusedVariables false
set_option linter.unusedSimpArgs false

section
variable {g : Nat} {s : ByteArray} {ma ra : Option Addr} {mc rc : Nat} {wk : Int} {nm : Nat → ByteArray} {c : CalN} {w : World}
theorem implValidDate_e {s : ByteArray} {ma ra : Option Addr} {mc rc : Nat} (wk : Int) {nm : Nat → ByteArray} {c : CalN} {y m d : Int} {w : World} {b : Bool} (h1 : calB s nm c wk = true) (hb : dtB c y m d = b) (h : CalV w s ma ra mc rc nm c) :
    Calls Tryz.prog 32 #[.agg #[.string s, .slice ma c.n mc, .slice ra c.nr rc, .int .i64 wk], .agg #[.int .i64 y, .int .i64 m, .int .i64 d]] w fun e w' => e = .returned (.bool b) ∧ Ext w w' := by
  have : b = vdR s nm c wk y m d := by rw [vdR, h1, hb]; rfl
  rw [this]; exact implValidDate_c wk y m d h
theorem l16Ok_e {g : Nat} {s : ByteArray} {ma ra : Option Addr} {mc rc : Nat} {wk : Int} {nm : Nat → ByteArray} {c : CalN} {w : World} (b : CalB c) (h : CalQ w g s ma ra mc rc wk nm c) {y m d : Int} {bb : Bool} (hb : dtB c y m d = bb) :
    Calls Tryz.prog 45 #[.pointer (some ⟨g, 0, none⟩), .agg #[.int .i64 y, .int .i64 m, .int .i64 d]] w fun e w' => e = .returned (.bool bb) ∧ Ext w w' := by subst hb; exact l16Ok_q b h y m d
set_option maxHeartbeats 2000000 in
theorem implDaysBetween_c (wk y m d y' m' d' : Int) (h : CalV w s ma ra mc rc nm c) :
    Calls Tryz.prog 14 #[.agg #[.string s, .slice ma c.n mc, .slice ra c.nr rc, .int .i64 wk], .agg #[.int .i64 y, .int .i64 m, .int .i64 d], .agg #[.int .i64 y', .int .i64 m', .int .i64 d']] w fun e w' => e = .returned (.tuple #[.int .i64 (btV s nm c wk y m d y' m' d'), .int .i64 (btC s nm c wk y m d y' m' d')]) ∧ Ext w w' := by
  have H := Lib.hid h
  clear h
  cases h1 : calB s nm c wk
  · go_enter Tryz.func14, Tryz.ntmps14
    go_wp2_with (go_at_call 31; ((with_reducible refine (validCalendar_v wk (H.out.ext (by repeat (first | with_reducible exact Ext.refl _ | with_reducible assumption | with_reducible refine Ext.alloc ?_ _ | with_reducible refine Ext.drew ?_ | (with_reducible refine Ext.setAt ?_ _ _ _ ?_; rotate_left; omega) | with_reducible refine Ext.trans ?_ (by assumption) | with_reducible exact Past.bel _ | with_reducible refine Ext.trans ?_ (Past.bel _))))).mono ?_); rintro e w' ⟨rfl, hx⟩; (first | (obtain ⟨wx, rfl⟩ := Past.again hx) | (obtain ⟨wx, rfl⟩ := Past.ofd hx) | (obtain ⟨wx, rfl⟩ := Past.of hx))))
    go_ret2
    exact ⟨by simp [btV, btC, h1], (by repeat (first | with_reducible exact Ext.refl _ | with_reducible assumption | with_reducible refine Ext.alloc ?_ _ | with_reducible refine Ext.drew ?_ | (with_reducible refine Ext.setAt ?_ _ _ _ ?_; rotate_left; omega) | with_reducible refine Ext.trans ?_ (by assumption) | with_reducible exact Past.bel _ | with_reducible refine Ext.trans ?_ (Past.bel _)))⟩
  · have B := Lib.hid (calB_b h1)
    cases h2 : dtB c y m d
    · go_enter Tryz.func14, Tryz.ntmps14
      go_wp2_with (first | (go_at_call 31; ((with_reducible refine (validCalendar_v wk (H.out.ext (by repeat (first | with_reducible exact Ext.refl _ | with_reducible assumption | with_reducible refine Ext.alloc ?_ _ | with_reducible refine Ext.drew ?_ | (with_reducible refine Ext.setAt ?_ _ _ _ ?_; rotate_left; omega) | with_reducible refine Ext.trans ?_ (by assumption) | with_reducible exact Past.bel _ | with_reducible refine Ext.trans ?_ (Past.bel _))))).mono ?_); rintro e w' ⟨rfl, hx⟩; (first | (obtain ⟨wx, rfl⟩ := Past.again hx) | (obtain ⟨wx, rfl⟩ := Past.ofd hx) | (obtain ⟨wx, rfl⟩ := Past.of hx)))) | (go_at_call 32; ((with_reducible refine (implValidDate_e wk h1 h2 (H.out.ext (by repeat (first | with_reducible exact Ext.refl _ | with_reducible assumption | with_reducible refine Ext.alloc ?_ _ | with_reducible refine Ext.drew ?_ | (with_reducible refine Ext.setAt ?_ _ _ _ ?_; rotate_left; omega) | with_reducible refine Ext.trans ?_ (by assumption) | with_reducible exact Past.bel _ | with_reducible refine Ext.trans ?_ (Past.bel _))))).mono ?_); rintro e w' ⟨rfl, hx⟩; (first | (obtain ⟨wx, rfl⟩ := Past.again hx) | (obtain ⟨wx, rfl⟩ := Past.ofd hx) | (obtain ⟨wx, rfl⟩ := Past.of hx)))))
      go_ret2
      exact ⟨by simp [btV, btC, h1, h2], (by repeat (first | with_reducible exact Ext.refl _ | with_reducible assumption | with_reducible refine Ext.alloc ?_ _ | with_reducible refine Ext.drew ?_ | (with_reducible refine Ext.setAt ?_ _ _ _ ?_; rotate_left; omega) | with_reducible refine Ext.trans ?_ (by assumption) | with_reducible exact Past.bel _ | with_reducible refine Ext.trans ?_ (Past.bel _)))⟩
    · cases h3 : dtB c y' m' d'
      · have H2 := Lib.hid h2; have H3 := Lib.hid h3; have H1 := Lib.hid h1
        go_enter Tryz.func14, Tryz.ntmps14
        go_wp2_with (go_at_call 31; ((with_reducible refine (validCalendar_v wk (H.out.ext (by repeat (first | with_reducible exact Ext.refl _ | with_reducible assumption | with_reducible refine Ext.alloc ?_ _ | with_reducible refine Ext.drew ?_ | (with_reducible refine Ext.setAt ?_ _ _ _ ?_; rotate_left; omega) | with_reducible refine Ext.trans ?_ (by assumption) | with_reducible exact Past.bel _ | with_reducible refine Ext.trans ?_ (Past.bel _))))).mono ?_); rintro e w' ⟨rfl, hx⟩; (first | (obtain ⟨wx, rfl⟩ := Past.again hx) | (obtain ⟨wx, rfl⟩ := Past.ofd hx) | (obtain ⟨wx, rfl⟩ := Past.of hx))))
        go_wp2_with (first | (go_at_call 32; ((with_reducible refine (implValidDate_e wk H1.out H2.out (H.out.ext (by repeat (first | with_reducible exact Ext.refl _ | with_reducible assumption | with_reducible refine Ext.alloc ?_ _ | with_reducible refine Ext.drew ?_ | (with_reducible refine Ext.setAt ?_ _ _ _ ?_; rotate_left; omega) | with_reducible refine Ext.trans ?_ (by assumption) | with_reducible exact Past.bel _ | with_reducible refine Ext.trans ?_ (Past.bel _))))).mono ?_); rintro e w' ⟨rfl, hx⟩; (first | (obtain ⟨wx, rfl⟩ := Past.again hx) | (obtain ⟨wx, rfl⟩ := Past.ofd hx) | (obtain ⟨wx, rfl⟩ := Past.of hx)))) | (go_at_call 32; ((with_reducible refine (implValidDate_e wk H1.out H3.out (H.out.ext (by repeat (first | with_reducible exact Ext.refl _ | with_reducible assumption | with_reducible refine Ext.alloc ?_ _ | with_reducible refine Ext.drew ?_ | (with_reducible refine Ext.setAt ?_ _ _ _ ?_; rotate_left; omega) | with_reducible refine Ext.trans ?_ (by assumption) | with_reducible exact Past.bel _ | with_reducible refine Ext.trans ?_ (Past.bel _))))).mono ?_); rintro e w' ⟨rfl, hx⟩; (first | (obtain ⟨wx, rfl⟩ := Past.again hx) | (obtain ⟨wx, rfl⟩ := Past.ofd hx) | (obtain ⟨wx, rfl⟩ := Past.of hx)))))
        go_ret2
        exact ⟨by simp [btV, btC, h1, h2, h3], (by repeat (first | with_reducible exact Ext.refl _ | with_reducible assumption | with_reducible refine Ext.alloc ?_ _ | with_reducible refine Ext.drew ?_ | (with_reducible refine Ext.setAt ?_ _ _ _ ?_; rotate_left; omega) | with_reducible refine Ext.trans ?_ (by assumption) | with_reducible exact Past.bel _ | with_reducible refine Ext.trans ?_ (Past.bel _)))⟩
      · have H2 := Lib.hid h2; have H3 := Lib.hid h3; have H1 := Lib.hid h1
        have b1 := dnum_bd B.out h2
        have b2 := dnum_bd B.out h3
        obtain ⟨L, hL⟩ : ∃ L, L = c.bef 10000 := ⟨_, rfl⟩
        have hl := B.out.last
        rw [← hL] at b1 b2 hl
        clear hL
        have e1 := IntWalk.i64_in (dnum c y' m' d' - dnum c y m d) (by omega)
        go_enter Tryz.func14, Tryz.ntmps14
        go_wp2_with (go_at_call 31; ((with_reducible refine (validCalendar_v wk (H.out.ext (by repeat (first | with_reducible exact Ext.refl _ | with_reducible assumption | with_reducible refine Ext.alloc ?_ _ | with_reducible refine Ext.drew ?_ | (with_reducible refine Ext.setAt ?_ _ _ _ ?_; rotate_left; omega) | with_reducible refine Ext.trans ?_ (by assumption) | with_reducible exact Past.bel _ | with_reducible refine Ext.trans ?_ (Past.bel _))))).mono ?_); rintro e w' ⟨rfl, hx⟩; (first | (obtain ⟨wx, rfl⟩ := Past.again hx) | (obtain ⟨wx, rfl⟩ := Past.ofd hx) | (obtain ⟨wx, rfl⟩ := Past.of hx))))
        go_wp2_with (first | (go_at_call 32; ((with_reducible refine (implValidDate_e wk H1.out H2.out (H.out.ext (by repeat (first | with_reducible exact Ext.refl _ | with_reducible assumption | with_reducible refine Ext.alloc ?_ _ | with_reducible refine Ext.drew ?_ | (with_reducible refine Ext.setAt ?_ _ _ _ ?_; rotate_left; omega) | with_reducible refine Ext.trans ?_ (by assumption) | with_reducible exact Past.bel _ | with_reducible refine Ext.trans ?_ (Past.bel _))))).mono ?_); rintro e w' ⟨rfl, hx⟩; (first | (obtain ⟨wx, rfl⟩ := Past.again hx) | (obtain ⟨wx, rfl⟩ := Past.ofd hx) | (obtain ⟨wx, rfl⟩ := Past.of hx)))) | (go_at_call 32; ((with_reducible refine (implValidDate_e wk H1.out H3.out (H.out.ext (by repeat (first | with_reducible exact Ext.refl _ | with_reducible assumption | with_reducible refine Ext.alloc ?_ _ | with_reducible refine Ext.drew ?_ | (with_reducible refine Ext.setAt ?_ _ _ _ ?_; rotate_left; omega) | with_reducible refine Ext.trans ?_ (by assumption) | with_reducible exact Past.bel _ | with_reducible refine Ext.trans ?_ (Past.bel _))))).mono ?_); rintro e w' ⟨rfl, hx⟩; (first | (obtain ⟨wx, rfl⟩ := Past.again hx) | (obtain ⟨wx, rfl⟩ := Past.ofd hx) | (obtain ⟨wx, rfl⟩ := Past.of hx)))))
        have hz := wx.bel.size
        simp only [World.size_alloc] at hz
        have g0 : w.heap.size < wx.out.heap.size := by omega
        have g1 : w.heap.size + 1 < wx.out.heap.size := by omega
        have g2 : w.heap.size + 1 + 1 < wx.out.heap.size := by omega
        refine wp_region_past (by kernel_rfl) (by kernel_rfl) ?_
        repeat (go_big_quiet_step (first | (go_at_call 33; exact Calls.past (dayOf_i B.out (H.out.ext (by repeat (first | with_reducible exact Ext.refl _ | with_reducible assumption | with_reducible refine Ext.alloc ?_ _ | with_reducible refine Ext.drew ?_ | (with_reducible refine Ext.setAt ?_ _ _ _ ?_; rotate_left; omega) | with_reducible refine Ext.trans ?_ (by assumption) | with_reducible exact Past.bel _ | with_reducible refine Ext.trans ?_ (Past.bel _)))) H2.out)) | (go_at_call 33; exact Calls.past (dayOf_i B.out (H.out.ext (by repeat (first | with_reducible exact Ext.refl _ | with_reducible assumption | with_reducible refine Ext.alloc ?_ _ | with_reducible refine Ext.drew ?_ | (with_reducible refine Ext.setAt ?_ _ _ _ ?_; rotate_left; omega) | with_reducible refine Ext.trans ?_ (by assumption) | with_reducible exact Past.bel _ | with_reducible refine Ext.trans ?_ (Past.bel _)))) H3.out))))
        refine wpQuiet_nil ?_
        rintro _ ⟨wx, rfl⟩
        go_wp2_with fail
        go_ret2
        exact ⟨by simp [btV, btC, h1, h2, h3], (by repeat (first | with_reducible exact Ext.refl _ | with_reducible assumption | with_reducible refine Ext.alloc ?_ _ | with_reducible refine Ext.drew ?_ | (with_reducible refine Ext.setAt ?_ _ _ _ ?_; rotate_left; omega) | with_reducible refine Ext.trans ?_ (by assumption) | with_reducible exact Past.bel _ | with_reducible refine Ext.trans ?_ (Past.bel _)))⟩
end
end Go.Proofs.YtpohhnihgegmfaaGreatDoor

namespace Go.Proofs.YtpohhnihgegmfaaGreatDoor
open Go.RowKit
set_option linter.unusedVariables false
set_option linter.unusedSimpArgs false

section
variable {g : Nat} {s : ByteArray} {ma ra : Option Addr} {mc rc : Nat} {wk : Int} {nm : Nat → ByteArray} {c : CalN} {w : World}
theorem implDayOf_no (wk : Int) {y m d : Int} (k : Int) (hc : dyC s nm c wk y m d = k) (hk : k ≠ 0) (h : CalV w s ma ra mc rc nm c) :
    Calls Tryz.prog 7 #[.agg #[.string s, .slice ma c.n mc, .slice ra c.nr rc, .int .i64 wk], .agg #[.int .i64 y, .int .i64 m, .int .i64 d]] w fun e w' => e = .returned (.tuple #[.int .i64 0, .int .i64 k]) ∧ Ext w w' := by
  have := implDayOf_c wk y m d h
  rw [dyV, hc, if_neg hk] at this
  exact this
theorem implDayOf_yes (wk : Int) {y m d : Int} (h1 : calB s nm c wk = true) (h2 : dtB c y m d = true) (h : CalV w s ma ra mc rc nm c) :
    Calls Tryz.prog 7 #[.agg #[.string s, .slice ma c.n mc, .slice ra c.nr rc, .int .i64 wk], .agg #[.int .i64 y, .int .i64 m, .int .i64 d]] w fun e w' => e = .returned (.tuple #[.int .i64 (dnum c y m d), .int .i64 0]) ∧ Ext w w' := by
  have := implDayOf_c wk y m d h
  have e : dyC s nm c wk y m d = 0 := by simp [dyC, h1, h2]
  rw [dyV, e, if_pos rfl] at this
  exact this
set_option maxHeartbeats 2000000 in
theorem implWeekdayOf_c (wk y m d f : Int) (hf : -9223372036854775808 ≤ f ∧ f ≤ 9223372036854775807) (h : CalV w s ma ra mc rc nm c) :
    Calls Tryz.prog 13 #[.agg #[.string s, .slice ma c.n mc, .slice ra c.nr rc, .int .i64 wk], .agg #[.int .i64 y, .int .i64 m, .int .i64 d], .int .i64 f] w fun e w' => e = .returned (.tuple #[.int .i64 (wdV s nm c wk y m d f), .int .i64 (wdC s nm c wk y m d f)]) ∧ Ext w w' := by
  have H := Lib.hid h
  clear h
  cases h1 : calB s nm c wk
  · have hc : dyC s nm c wk y m d = 1 := by simp [dyC, h1]
    go_enter Tryz.func13, Tryz.ntmps13
    go_wp2_with (go_at_call 7; ((with_reducible refine (implDayOf_no wk 1 hc (by omega) (H.out.ext (by repeat (first | with_reducible exact Ext.refl _ | with_reducible assumption | with_reducible refine Ext.alloc ?_ _ | with_reducible refine Ext.drew ?_ | (with_reducible refine Ext.setAt ?_ _ _ _ ?_; rotate_left; omega) | with_reducible refine Ext.trans ?_ (by assumption) | with_reducible exact Past.bel _ | with_reducible refine Ext.trans ?_ (Past.bel _))))).mono ?_); rintro e w' ⟨rfl, hx⟩; (first | (obtain ⟨wx, rfl⟩ := Past.again hx) | (obtain ⟨wx, rfl⟩ := Past.ofd hx) | (obtain ⟨wx, rfl⟩ := Past.of hx))))
    go_ret2
    exact ⟨by simp [wdV, wdC, h1], (by repeat (first | with_reducible exact Ext.refl _ | with_reducible assumption | with_reducible refine Ext.alloc ?_ _ | with_reducible refine Ext.drew ?_ | (with_reducible refine Ext.setAt ?_ _ _ _ ?_; rotate_left; omega) | with_reducible refine Ext.trans ?_ (by assumption) | with_reducible exact Past.bel _ | with_reducible refine Ext.trans ?_ (Past.bel _)))⟩
  · have B := Lib.hid (calB_b h1)
    have hw := calB_w h1
    cases h2 : dtB c y m d
    · have hc : dyC s nm c wk y m d = 2 := by simp [dyC, h1, h2]
      go_enter Tryz.func13, Tryz.ntmps13
      go_wp2_with (go_at_call 7; ((with_reducible refine (implDayOf_no wk 2 hc (by omega) (H.out.ext (by repeat (first | with_reducible exact Ext.refl _ | with_reducible assumption | with_reducible refine Ext.alloc ?_ _ | with_reducible refine Ext.drew ?_ | (with_reducible refine Ext.setAt ?_ _ _ _ ?_; rotate_left; omega) | with_reducible refine Ext.trans ?_ (by assumption) | with_reducible exact Past.bel _ | with_reducible refine Ext.trans ?_ (Past.bel _))))).mono ?_); rintro e w' ⟨rfl, hx⟩; (first | (obtain ⟨wx, rfl⟩ := Past.again hx) | (obtain ⟨wx, rfl⟩ := Past.ofd hx) | (obtain ⟨wx, rfl⟩ := Past.of hx))))
      go_ret2
      exact ⟨by simp [wdV, wdC, h1, h2], (by repeat (first | with_reducible exact Ext.refl _ | with_reducible assumption | with_reducible refine Ext.alloc ?_ _ | with_reducible refine Ext.drew ?_ | (with_reducible refine Ext.setAt ?_ _ _ _ ?_; rotate_left; omega) | with_reducible refine Ext.trans ?_ (by assumption) | with_reducible exact Past.bel _ | with_reducible refine Ext.trans ?_ (Past.bel _)))⟩
    · have H1 := Lib.hid h1; have H2 := Lib.hid h2
      cases h3 : inB f 1 wk
      · go_enter Tryz.func13, Tryz.ntmps13
        go_wp2_with (first | (go_at_call 7; ((with_reducible refine (implDayOf_yes wk H1.out H2.out (H.out.ext (by repeat (first | with_reducible exact Ext.refl _ | with_reducible assumption | with_reducible refine Ext.alloc ?_ _ | with_reducible refine Ext.drew ?_ | (with_reducible refine Ext.setAt ?_ _ _ _ ?_; rotate_left; omega) | with_reducible refine Ext.trans ?_ (by assumption) | with_reducible exact Past.bel _ | with_reducible refine Ext.trans ?_ (Past.bel _))))).mono ?_); rintro e w' ⟨rfl, hx⟩; (first | (obtain ⟨wx, rfl⟩ := Past.again hx) | (obtain ⟨wx, rfl⟩ := Past.ofd hx) | (obtain ⟨wx, rfl⟩ := Past.of hx)))) | (go_at_call 34; ((with_reducible refine (within_c _ _ _ _).mono ?_); rintro e w' ⟨rfl, rfl⟩)))
        go_ret2
        exact ⟨by simp [wdV, wdC, h1, h2, h3], (by repeat (first | with_reducible exact Ext.refl _ | with_reducible assumption | with_reducible refine Ext.alloc ?_ _ | with_reducible refine Ext.drew ?_ | (with_reducible refine Ext.setAt ?_ _ _ _ ?_; rotate_left; omega) | with_reducible refine Ext.trans ?_ (by assumption) | with_reducible exact Past.bel _ | with_reducible refine Ext.trans ?_ (Past.bel _)))⟩
      · have b1 := dnum_bd B.out h2
        have hl := B.out.last
        have f1 := inB_t.1 h3
        obtain ⟨N, hN⟩ : ∃ N, N = dnum c y m d := ⟨_, rfl⟩
        have b2 : 0 ≤ N ∧ N ≤ 12000000 := by omega
        have t1 : (N + f - 1).tmod wk = (N + f - 1) % wk := by rw [Int.tmod_eq_emod_of_nonneg (by omega)]
        have t2 := Int.emod_nonneg (N + f - 1) (show wk ≠ 0 by omega)
        have t3 := Int.emod_lt_of_pos (N + f - 1) (show 0 < wk by omega)
        have HN := Lib.hid hN
        have HD := Lib.hid (fun W (hq : Ext w W) => (hN ▸ implDayOf_yes wk h1 h2 (H.out.ext hq) : Calls Tryz.prog 7 _ W fun e w' => e = .returned (.tuple #[.int .i64 N, .int .i64 0]) ∧ Ext W w'))
        clear hN b1 hl
        go_enter Tryz.func13, Tryz.ntmps13
        go_wp2_with (first | (go_at_call 7; ((with_reducible refine (HD.out _ (by repeat (first | with_reducible exact Ext.refl _ | with_reducible assumption | with_reducible refine Ext.alloc ?_ _ | with_reducible refine Ext.drew ?_ | (with_reducible refine Ext.setAt ?_ _ _ _ ?_; rotate_left; omega) | with_reducible refine Ext.trans ?_ (by assumption) | with_reducible exact Past.bel _ | with_reducible refine Ext.trans ?_ (Past.bel _)))).mono ?_); rintro e w' ⟨rfl, hx⟩; (first | (obtain ⟨wx, rfl⟩ := Past.again hx) | (obtain ⟨wx, rfl⟩ := Past.ofd hx) | (obtain ⟨wx, rfl⟩ := Past.of hx)))) | (go_at_call 34; ((with_reducible refine (within_c _ _ _ _).mono ?_); rintro e w' ⟨rfl, rfl⟩)))
        go_ret2
        exact ⟨by rw [HN.out]; simp [wdV, wdC, h1, h2, h3], (by repeat (first | with_reducible exact Ext.refl _ | with_reducible assumption | with_reducible refine Ext.alloc ?_ _ | with_reducible refine Ext.drew ?_ | (with_reducible refine Ext.setAt ?_ _ _ _ ?_; rotate_left; omega) | with_reducible refine Ext.trans ?_ (by assumption) | with_reducible exact Past.bel _ | with_reducible refine Ext.trans ?_ (Past.bel _)))⟩
end
end Go.Proofs.YtpohhnihgegmfaaGreatDoor

namespace Go.Proofs.YtpohhnihgegmfaaGreatDoor
set_option linter.unusedVariables false
/-- a date as a result: that of number x where 'ok', else none -/
structure DtR (c : CalN) (ok : Bool) (x Y M d : Int) : Prop where
  yes : ok = true → ∃ Y' M' : Nat, Y = (Y' : Int) ∧ M = (M' : Int) + 1 ∧ Loc c x Y' M' d ∧ Y' ≤ 9999
  no : ok = false → Y = 0 ∧ M = 0 ∧ d = 0
theorem DtR.mk' {c : CalN} {ok : Bool} {x : Int} (h : ok = true → CalB c ∧ 0 ≤ x ∧ x < c.bef 10000) : ∃ Y M d, DtR c ok x Y M d := by
  cases ok
  · exact ⟨0, 0, 0, ⟨(fun e => by cases e), fun _ => ⟨rfl, rfl, rfl⟩⟩⟩
  · obtain ⟨b, h0, h1⟩ := h rfl
    obtain ⟨y, m, d, hy, hl⟩ := Loc.ex b h0 h1
    exact ⟨_, _, d, ⟨fun _ => ⟨y, m, rfl, rfl, hl, by omega⟩, (fun e => by cases e)⟩⟩
section
variable (s : ByteArray) (nm : Nat → ByteArray) (c : CalN) (wk : Int)
def dcC (x : Int) : Int := if calB s nm c wk then (if inB x 0 (c.bef 10000 - 1) then 0 else 2) else 1
def adB (y m d k : Int) : Bool := dtB c y m d && inB (dnum c y m d + k) 0 (c.bef 10000 - 1)
def adC (y m d k : Int) : Int := if calB s nm c wk then (if adB c y m d k then 0 else 2) else 1
def cvB (c2 : CalN) (y m d k : Int) : Bool := dtB c y m d && inB (dnum c y m d + k) 0 (c2.bef 10000 - 1)
def cvC (s2 : ByteArray) (nm2 : Nat → ByteArray) (c2 : CalN) (wk2 : Int) (y m d k : Int) : Int := if calB s nm c wk && calB s2 nm2 c2 wk2 then (if cvB c c2 y m d k then 0 else 2) else 1
end
/-- a number of days too far -/
def farB (k : Int) : Bool := !inB k (-20000000) 20000000
theorem far_no {c c2 : CalN} (b : CalB c) (b2 : CalB c2) {y m d k : Int} (h : dtB c y m d = true) (hf : farB k = true) : inB (dnum c y m d + k) 0 (c2.bef 10000 - 1) = false := by
  have h1 := dnum_bd b h
  have h2 := b.last
  have h3 := b2.last
  have h4 : inB k (-20000000) 20000000 = false := by simpa [farB] using hf
  have h5 := inB_f.1 h4
  rw [inB_f]; omega
theorem sh_in {n k L : Int} : inB k (-n) (L - 1 - n) = inB (n + k) 0 (L - 1) := by
  rw [Bool.eq_iff_iff, inB_t, inB_t]; omega
end Go.Proofs.YtpohhnihgegmfaaGreatDoor
