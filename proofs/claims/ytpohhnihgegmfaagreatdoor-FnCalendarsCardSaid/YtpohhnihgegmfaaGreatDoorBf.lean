/- Dates of numbers: the functions as they are called. Days added, dates converted: the functions as they are called. Dates converted: the functions as they are called. The law on days converted and back: its walk. Decimal numerals read back. No program in sight. Texts parted at a byte. No program in sight. Dates read from texts. No program in sight. The library's contracts at this seat, as the kit's tool has written them. Decimal numerals: the program's. Texts of lists of numbers, of faults. Calendars' texts: the reference's. Calendars' texts as lines of words. No walk. -/
import Derived.Test.YtpohhnihgegmfaaGreatDoorBe
import Derived.Test.YtpohhnihgegmfaaGreatDoorBd
import Derived.Test.YtpohhnihgegmfaaGreatDoorBb
import Derived.Lib.ParseIntB
import Derived.Lib.Atoi
import Derived.Lib.Strings
import Derived.Lib.SplitLaws
import Derived.Lib.Split
import Derived.Test.YtpohhnihgegmfaaGreatDoorBa
import Derived.Shelf.Strings.Builder1
import Derived.Shelf.Strings.BuilderF
import Derived.Shelf.Strings.BuilderK
import Derived.Shelf.Utf8.RuneCount
import Derived.Shelf.Strconv.Itoa0
import Derived.Shelf.Strconv.Itoa1
import Derived.Shelf.LaysM
import Derived.Shelf.Strconv.Itoa2
import Derived.Shelf.Strconv.Itoa3
import Derived.Shelf.Strconv.Itoa4
import Derived.Shelf.Strconv.ParseIntEmpty
import Derived.Shelf.Strconv.Clone
import Derived.Shelf.Strconv.SyntaxError
import Derived.Shelf.LaysC
import Derived.Shelf.Strconv.ToError
import Derived.Shelf.Strconv.Lower
import Derived.Shelf.Strconv.ParseUint10
import Derived.Shelf.Strconv.ParseUint10Empty
import Derived.Shelf.Strconv.ParseUint10Any
import Derived.Shelf.Strconv.ParseInt10
import Derived.Shelf.Strconv.RangeError
import Derived.Shelf.Strconv.ToErrorRange
import Derived.Shelf.Strconv.ParseUintEmpty
import Derived.Shelf.Strconv.ParseUint10b64
import Derived.Shelf.Strconv.ParseUint10b32
import Derived.Shelf.Strconv.ParseUint10b16
import Derived.Shelf.Strconv.ParseUint10b8
import Derived.Shelf.Strconv.ParseUint10At
import Derived.Shelf.Strconv.ParseInt10At64
import Derived.Shelf.Strconv.ParseInt10At32
import Derived.Shelf.Strconv.ParseInt10At16
import Derived.Shelf.Strconv.ParseInt10At8
import Derived.Shelf.Strconv.ParseInt10All
import Derived.Shelf.Strconv.ParseIntPublic10
import Derived.Shelf.Strconv.ErrVarParseInt
import Derived.Shelf.Strings.Search1
import Derived.Shelf.Strings.Search2
import Derived.Shelf.Strings.Search3
import Derived.Shelf.Strings.Count
import Derived.Shelf.Strings.Shaped
import Derived.Shelf.Strings.Prefix
import Derived.Shelf.Strings.Split
import Derived.Shelf.Strings.SplitShaped
import Derived.Shelf.Unicode.Decode
import Derived.Shelf.Strings.RuneCount
import Derived.Shelf.Strings.Explode
import Derived.Shelf.Unicode.DecodeSlow
import Derived.Shelf.Unicode.DecodeAny
import Derived.Shelf.Strings.BuilderCap
import Derived.Test.YtpohhnihgegmfaaGreatDoorProg
import Derived.Test.YtpohhnihgegmfaaGreatDoorBc

namespace Go.Proofs.YtpohhnihgegmfaaGreatDoor
open Go.RowKit
set_option linter.unusedVariables false
set_option linter.unusedSimpArgs false

section
variable {g : Nat} {s : ByteArray} {ma ra : Option Addr} {mc rc : Nat} {wk : Int} {nm : Nat → ByteArray} {c : CalN} {w : World}
theorem dateOf_i (b : CalB c) (h : CalV w s ma ra mc rc nm c) {x Y M d : Int} (r : DtR c true x Y M d) :
    Calls Tryz.prog 36 #[.agg #[.string s, .slice ma c.n mc, .slice ra c.nr rc, .int .i64 wk], .int .i64 x] w fun e w' => e = .returned (.agg #[.int .i64 Y, .int .i64 M, .int .i64 d]) ∧ Ext w w' := by
  obtain ⟨Y', M', rfl, rfl, l, hY⟩ := r.yes rfl
  exact dateOf_v b h l hY
set_option maxHeartbeats 1000000 in
theorem implDateOf_c (wk x : Int) (h : CalV w s ma ra mc rc nm c) {Y M d : Int} (r : DtR c (calB s nm c wk && inB x 0 (c.bef 10000 - 1)) x Y M d) :
    Calls Tryz.prog 8 #[.agg #[.string s, .slice ma c.n mc, .slice ra c.nr rc, .int .i64 wk], .int .i64 x] w fun e w' => e = .returned (.tuple #[.agg #[.int .i64 Y, .int .i64 M, .int .i64 d], .int .i64 (dcC s nm c wk x)]) ∧ Ext w w' := by
  have H := Lib.hid h
  clear h
  obtain ⟨L, hL⟩ : ∃ L, L = c.bef 10000 := ⟨_, rfl⟩
  cases h1 : calB s nm c wk
  · rw [h1] at r
    obtain ⟨rfl, rfl, rfl⟩ := r.no rfl
    clear r hL
    go_enter Tryz.func8, Tryz.ntmps8
    go_wp2_with (go_at_call 31; ((with_reducible refine (validCalendar_v wk (H.out.ext (by repeat (first | with_reducible exact Ext.refl _ | with_reducible assumption | with_reducible refine Ext.alloc ?_ _ | with_reducible refine Ext.drew ?_ | (with_reducible refine Ext.setAt ?_ _ _ _ ?_; rotate_left; omega) | with_reducible refine Ext.trans ?_ (by assumption) | with_reducible exact Past.bel _ | with_reducible refine Ext.trans ?_ (Past.bel _))))).mono ?_); rintro e w' ⟨rfl, hx⟩; (first | (obtain ⟨wx, rfl⟩ := Past.again hx) | (obtain ⟨wx, rfl⟩ := Past.ofd hx) | (obtain ⟨wx, rfl⟩ := Past.of hx))))
    exact bodyPost_ret (v := .tuple #[.agg #[.int .i64 0, .int .i64 0, .int .i64 0], .int .i64 1]) (by simp [results, Tryz.results8, go_sem]) rfl ⟨by simp [dcC, h1], (by repeat (first | with_reducible exact Ext.refl _ | with_reducible assumption | with_reducible refine Ext.alloc ?_ _ | with_reducible refine Ext.drew ?_ | (with_reducible refine Ext.setAt ?_ _ _ _ ?_; rotate_left; omega) | with_reducible refine Ext.trans ?_ (by assumption) | with_reducible exact Past.bel _ | with_reducible refine Ext.trans ?_ (Past.bel _)))⟩
  · have B := Lib.hid (calB_b h1)
    have HLD := Lib.hid (fun W (hq : Ext w W) => (hL ▸ lastDay_v (wk := wk) B.out (H.out.ext hq) : Calls Tryz.prog 35 #[.agg #[.string s, .slice ma c.n mc, .slice ra c.nr rc, .int .i64 wk]] W fun e w' => e = .returned (.int .i64 (L - 1)) ∧ Ext W w'))
    rw [h1, ← hL] at r
    have hcc : dcC s nm c wk x = if inB x 0 (L - 1) then 0 else 2 := by rw [dcC, h1, hL]; rfl
    have HC := Lib.hid hcc
    clear hL hcc
    cases h2 : inB x 0 (L - 1)
    · rw [h2] at r HC
      obtain ⟨rfl, rfl, rfl⟩ := r.no rfl
      clear r
      go_enter Tryz.func8, Tryz.ntmps8
      go_wp2_with (first | (go_at_call 31; ((with_reducible refine (validCalendar_v wk (H.out.ext (by repeat (first | with_reducible exact Ext.refl _ | with_reducible assumption | with_reducible refine Ext.alloc ?_ _ | with_reducible refine Ext.drew ?_ | (with_reducible refine Ext.setAt ?_ _ _ _ ?_; rotate_left; omega) | with_reducible refine Ext.trans ?_ (by assumption) | with_reducible exact Past.bel _ | with_reducible refine Ext.trans ?_ (Past.bel _))))).mono ?_); rintro e w' ⟨rfl, hx⟩; (first | (obtain ⟨wx, rfl⟩ := Past.again hx) | (obtain ⟨wx, rfl⟩ := Past.ofd hx) | (obtain ⟨wx, rfl⟩ := Past.of hx)))) | (go_at_call 35; ((with_reducible refine (HLD.out _ (by repeat (first | with_reducible exact Ext.refl _ | with_reducible assumption | with_reducible refine Ext.alloc ?_ _ | with_reducible refine Ext.drew ?_ | (with_reducible refine Ext.setAt ?_ _ _ _ ?_; rotate_left; omega) | with_reducible refine Ext.trans ?_ (by assumption) | with_reducible exact Past.bel _ | with_reducible refine Ext.trans ?_ (Past.bel _)))).mono ?_); rintro e w' ⟨rfl, hx⟩; (first | (obtain ⟨wx, rfl⟩ := Past.again hx) | (obtain ⟨wx, rfl⟩ := Past.ofd hx) | (obtain ⟨wx, rfl⟩ := Past.of hx)))) | (go_at_call 34; ((with_reducible refine (within_c _ _ _ _).mono ?_); rintro e w' ⟨rfl, rfl⟩)))
      exact bodyPost_ret (v := .tuple #[.agg #[.int .i64 0, .int .i64 0, .int .i64 0], .int .i64 2]) (by simp [results, Tryz.results8, go_sem]) rfl ⟨by rw [HC.out]; rfl, (by repeat (first | with_reducible exact Ext.refl _ | with_reducible assumption | with_reducible refine Ext.alloc ?_ _ | with_reducible refine Ext.drew ?_ | (with_reducible refine Ext.setAt ?_ _ _ _ ?_; rotate_left; omega) | with_reducible refine Ext.trans ?_ (by assumption) | with_reducible exact Past.bel _ | with_reducible refine Ext.trans ?_ (Past.bel _)))⟩
    · rw [h2] at r HC
      have RR := Lib.hid (show DtR c true x Y M d from r)
      clear r
      go_enter Tryz.func8, Tryz.ntmps8
      go_wp2_with (first | (go_at_call 31; ((with_reducible refine (validCalendar_v wk (H.out.ext (by repeat (first | with_reducible exact Ext.refl _ | with_reducible assumption | with_reducible refine Ext.alloc ?_ _ | with_reducible refine Ext.drew ?_ | (with_reducible refine Ext.setAt ?_ _ _ _ ?_; rotate_left; omega) | with_reducible refine Ext.trans ?_ (by assumption) | with_reducible exact Past.bel _ | with_reducible refine Ext.trans ?_ (Past.bel _))))).mono ?_); rintro e w' ⟨rfl, hx⟩; (first | (obtain ⟨wx, rfl⟩ := Past.again hx) | (obtain ⟨wx, rfl⟩ := Past.ofd hx) | (obtain ⟨wx, rfl⟩ := Past.of hx)))) | (go_at_call 35; ((with_reducible refine (HLD.out _ (by repeat (first | with_reducible exact Ext.refl _ | with_reducible assumption | with_reducible refine Ext.alloc ?_ _ | with_reducible refine Ext.drew ?_ | (with_reducible refine Ext.setAt ?_ _ _ _ ?_; rotate_left; omega) | with_reducible refine Ext.trans ?_ (by assumption) | with_reducible exact Past.bel _ | with_reducible refine Ext.trans ?_ (Past.bel _)))).mono ?_); rintro e w' ⟨rfl, hx⟩; (first | (obtain ⟨wx, rfl⟩ := Past.again hx) | (obtain ⟨wx, rfl⟩ := Past.ofd hx) | (obtain ⟨wx, rfl⟩ := Past.of hx)))) | (go_at_call 34; ((with_reducible refine (within_c _ _ _ _).mono ?_); rintro e w' ⟨rfl, rfl⟩)) | (go_at_call 36; ((with_reducible refine (dateOf_i B.out (H.out.ext (by repeat (first | with_reducible exact Ext.refl _ | with_reducible assumption | with_reducible refine Ext.alloc ?_ _ | with_reducible refine Ext.drew ?_ | (with_reducible refine Ext.setAt ?_ _ _ _ ?_; rotate_left; omega) | with_reducible refine Ext.trans ?_ (by assumption) | with_reducible exact Past.bel _ | with_reducible refine Ext.trans ?_ (Past.bel _)))) RR.out).mono ?_); rintro e w' ⟨rfl, hx⟩; (first | (obtain ⟨wx, rfl⟩ := Past.again hx) | (obtain ⟨wx, rfl⟩ := Past.ofd hx) | (obtain ⟨wx, rfl⟩ := Past.of hx)))))
      exact bodyPost_ret (v := .tuple #[.agg #[.int .i64 Y, .int .i64 M, .int .i64 d], .int .i64 0]) (by simp [results, Tryz.results8, go_sem]) rfl ⟨by rw [HC.out]; rfl, (by repeat (first | with_reducible exact Ext.refl _ | with_reducible assumption | with_reducible refine Ext.alloc ?_ _ | with_reducible refine Ext.drew ?_ | (with_reducible refine Ext.setAt ?_ _ _ _ ?_; rotate_left; omega) | with_reducible refine Ext.trans ?_ (by assumption) | with_reducible exact Past.bel _ | with_reducible refine Ext.trans ?_ (Past.bel _)))⟩
end
end Go.Proofs.YtpohhnihgegmfaaGreatDoor

namespace Go.Proofs.YtpohhnihgegmfaaGreatDoor
open Go.RowKit
set_option linter.unusedVariables false
set_option linter.unusedSimpArgs false

section
variable {g : Nat} {s : ByteArray} {ma ra : Option Addr} {mc rc : Nat} {wk : Int} {nm : Nat → ByteArray} {c : CalN} {w : World}
set_option maxHeartbeats 1000000 in
theorem shifted_f (b : CalB c) (h : CalV w s ma ra mc rc nm c) {N k : Int} (n0 : 0 ≤ N) (n1 : N ≤ 12000000) (hx : inB (N + k) 0 (c.bef 10000 - 1) = false) :
    Calls Tryz.prog 41 #[.agg #[.string s, .slice ma c.n mc, .slice ra c.nr rc, .int .i64 wk], .int .i64 N, .int .i64 k] w fun e w' => e = .returned (.tuple #[.agg #[.int .i64 0, .int .i64 0, .int .i64 0], .int .i64 2]) ∧ Ext w w' := by
  have hl := b.last
  obtain ⟨L, hL⟩ : ∃ L, L = c.bef 10000 := ⟨_, rfl⟩
  have HLD := Lib.hid (fun W (hq : Ext w W) => (hL ▸ lastDay_v (wk := wk) b (h.ext hq) : Calls Tryz.prog 35 #[.agg #[.string s, .slice ma c.n mc, .slice ra c.nr rc, .int .i64 wk]] W fun e w' => e = .returned (.int .i64 (L - 1)) ∧ Ext W w'))
  rw [← hL] at hx hl
  rw [← sh_in] at hx
  clear hL b h
  go_enter Tryz.func41, Tryz.ntmps41
  go_wp2_with (first | (go_at_call 35; ((with_reducible refine (HLD.out _ (by repeat (first | with_reducible exact Ext.refl _ | with_reducible assumption | with_reducible refine Ext.alloc ?_ _ | with_reducible refine Ext.drew ?_ | (with_reducible refine Ext.setAt ?_ _ _ _ ?_; rotate_left; omega) | with_reducible refine Ext.trans ?_ (by assumption) | with_reducible exact Past.bel _ | with_reducible refine Ext.trans ?_ (Past.bel _)))).mono ?_); rintro e w' ⟨rfl, hx⟩; (first | (obtain ⟨wx, rfl⟩ := Past.again hx) | (obtain ⟨wx, rfl⟩ := Past.ofd hx) | (obtain ⟨wx, rfl⟩ := Past.of hx)))) | (go_at_call 34; ((with_reducible refine (within_c _ _ _ _).mono ?_); rintro e w' ⟨rfl, rfl⟩)))
  exact bodyPost_ret (v := .tuple #[.agg #[.int .i64 0, .int .i64 0, .int .i64 0], .int .i64 2]) (by simp [results, Tryz.results41, go_sem]) rfl ⟨rfl, (by repeat (first | with_reducible exact Ext.refl _ | with_reducible assumption | with_reducible refine Ext.alloc ?_ _ | with_reducible refine Ext.drew ?_ | (with_reducible refine Ext.setAt ?_ _ _ _ ?_; rotate_left; omega) | with_reducible refine Ext.trans ?_ (by assumption) | with_reducible exact Past.bel _ | with_reducible refine Ext.trans ?_ (Past.bel _)))⟩
set_option maxHeartbeats 1000000 in
theorem shifted_t (b : CalB c) (h : CalV w s ma ra mc rc nm c) {N k : Int} (n0 : 0 ≤ N) (n1 : N ≤ 12000000) (hx : inB (N + k) 0 (c.bef 10000 - 1) = true) {Y M d : Int} (r : DtR c true (N + k) Y M d) :
    Calls Tryz.prog 41 #[.agg #[.string s, .slice ma c.n mc, .slice ra c.nr rc, .int .i64 wk], .int .i64 N, .int .i64 k] w fun e w' => e = .returned (.tuple #[.agg #[.int .i64 Y, .int .i64 M, .int .i64 d], .int .i64 0]) ∧ Ext w w' := by
  have hl := b.last
  have H := Lib.hid h
  have B := Lib.hid b
  have RR := Lib.hid r
  obtain ⟨L, hL⟩ : ∃ L, L = c.bef 10000 := ⟨_, rfl⟩
  have HLD := Lib.hid (fun W (hq : Ext w W) => (hL ▸ lastDay_v (wk := wk) b (h.ext hq) : Calls Tryz.prog 35 #[.agg #[.string s, .slice ma c.n mc, .slice ra c.nr rc, .int .i64 wk]] W fun e w' => e = .returned (.int .i64 (L - 1)) ∧ Ext W w'))
  rw [← hL] at hx hl
  have hx' := inB_t.1 hx
  rw [← sh_in] at hx
  clear hL b h r
  go_enter Tryz.func41, Tryz.ntmps41
  go_wp2_with (first | (go_at_call 35; ((with_reducible refine (HLD.out _ (by repeat (first | with_reducible exact Ext.refl _ | with_reducible assumption | with_reducible refine Ext.alloc ?_ _ | with_reducible refine Ext.drew ?_ | (with_reducible refine Ext.setAt ?_ _ _ _ ?_; rotate_left; omega) | with_reducible refine Ext.trans ?_ (by assumption) | with_reducible exact Past.bel _ | with_reducible refine Ext.trans ?_ (Past.bel _)))).mono ?_); rintro e w' ⟨rfl, hx⟩; (first | (obtain ⟨wx, rfl⟩ := Past.again hx) | (obtain ⟨wx, rfl⟩ := Past.ofd hx) | (obtain ⟨wx, rfl⟩ := Past.of hx)))) | (go_at_call 34; ((with_reducible refine (within_c _ _ _ _).mono ?_); rintro e w' ⟨rfl, rfl⟩)) | (go_at_call 36; ((with_reducible refine (dateOf_i B.out (H.out.ext (by repeat (first | with_reducible exact Ext.refl _ | with_reducible assumption | with_reducible refine Ext.alloc ?_ _ | with_reducible refine Ext.drew ?_ | (with_reducible refine Ext.setAt ?_ _ _ _ ?_; rotate_left; omega) | with_reducible refine Ext.trans ?_ (by assumption) | with_reducible exact Past.bel _ | with_reducible refine Ext.trans ?_ (Past.bel _)))) RR.out).mono ?_); rintro e w' ⟨rfl, hx⟩; (first | (obtain ⟨wx, rfl⟩ := Past.again hx) | (obtain ⟨wx, rfl⟩ := Past.ofd hx) | (obtain ⟨wx, rfl⟩ := Past.of hx)))))
  exact bodyPost_ret (v := .tuple #[.agg #[.int .i64 Y, .int .i64 M, .int .i64 d], .int .i64 0]) (by simp [results, Tryz.results41, go_sem]) rfl ⟨rfl, (by repeat (first | with_reducible exact Ext.refl _ | with_reducible assumption | with_reducible refine Ext.alloc ?_ _ | with_reducible refine Ext.drew ?_ | (with_reducible refine Ext.setAt ?_ _ _ _ ?_; rotate_left; omega) | with_reducible refine Ext.trans ?_ (by assumption) | with_reducible exact Past.bel _ | with_reducible refine Ext.trans ?_ (Past.bel _)))⟩
set_option maxHeartbeats 2000000 in
theorem implAddDays_c (wk y m d k : Int) (h : CalV w s ma ra mc rc nm c) {Y M D : Int} (r : DtR c (calB s nm c wk && adB c y m d k) (dnum c y m d + k) Y M D) :
    Calls Tryz.prog 12 #[.agg #[.string s, .slice ma c.n mc, .slice ra c.nr rc, .int .i64 wk], .agg #[.int .i64 y, .int .i64 m, .int .i64 d], .int .i64 k] w fun e w' => e = .returned (.tuple #[.agg #[.int .i64 Y, .int .i64 M, .int .i64 D], .int .i64 (adC s nm c wk y m d k)]) ∧ Ext w w' := by
  have H := Lib.hid h
  clear h
  cases h1 : calB s nm c wk
  · rw [h1] at r
    obtain ⟨rfl, rfl, rfl⟩ := r.no rfl
    have hc : dyC s nm c wk y m d = 1 := by simp [dyC, h1]
    have HC := Lib.hid (show adC s nm c wk y m d k = 1 by simp [adC, h1])
    clear r
    go_enter Tryz.func12, Tryz.ntmps12
    go_wp2_with (go_at_call 7; ((with_reducible refine (implDayOf_no wk 1 hc (by omega) (H.out.ext (by repeat (first | with_reducible exact Ext.refl _ | with_reducible assumption | with_reducible refine Ext.alloc ?_ _ | with_reducible refine Ext.drew ?_ | (with_reducible refine Ext.setAt ?_ _ _ _ ?_; rotate_left; omega) | with_reducible refine Ext.trans ?_ (by assumption) | with_reducible exact Past.bel _ | with_reducible refine Ext.trans ?_ (Past.bel _))))).mono ?_); rintro e w' ⟨rfl, hx⟩; (first | (obtain ⟨wx, rfl⟩ := Past.again hx) | (obtain ⟨wx, rfl⟩ := Past.ofd hx) | (obtain ⟨wx, rfl⟩ := Past.of hx))))
    exact bodyPost_ret (v := .tuple #[.agg #[.int .i64 0, .int .i64 0, .int .i64 0], .int .i64 1]) (by simp [results, Tryz.results12, go_sem]) rfl ⟨by rw [HC.out], (by repeat (first | with_reducible exact Ext.refl _ | with_reducible assumption | with_reducible refine Ext.alloc ?_ _ | with_reducible refine Ext.drew ?_ | (with_reducible refine Ext.setAt ?_ _ _ _ ?_; rotate_left; omega) | with_reducible refine Ext.trans ?_ (by assumption) | with_reducible exact Past.bel _ | with_reducible refine Ext.trans ?_ (Past.bel _)))⟩
  · have B := Lib.hid (calB_b h1)
    cases h2 : dtB c y m d
    · have h4 : adB c y m d k = false := by simp [adB, h2]
      rw [h1, h4] at r
      obtain ⟨rfl, rfl, rfl⟩ := r.no rfl
      have hc : dyC s nm c wk y m d = 2 := by simp [dyC, h1, h2]
      have HC := Lib.hid (show adC s nm c wk y m d k = 2 by simp [adC, h1, h4])
      clear r h4
      go_enter Tryz.func12, Tryz.ntmps12
      go_wp2_with (go_at_call 7; ((with_reducible refine (implDayOf_no wk 2 hc (by omega) (H.out.ext (by repeat (first | with_reducible exact Ext.refl _ | with_reducible assumption | with_reducible refine Ext.alloc ?_ _ | with_reducible refine Ext.drew ?_ | (with_reducible refine Ext.setAt ?_ _ _ _ ?_; rotate_left; omega) | with_reducible refine Ext.trans ?_ (by assumption) | with_reducible exact Past.bel _ | with_reducible refine Ext.trans ?_ (Past.bel _))))).mono ?_); rintro e w' ⟨rfl, hx⟩; (first | (obtain ⟨wx, rfl⟩ := Past.again hx) | (obtain ⟨wx, rfl⟩ := Past.ofd hx) | (obtain ⟨wx, rfl⟩ := Past.of hx))))
      exact bodyPost_ret (v := .tuple #[.agg #[.int .i64 0, .int .i64 0, .int .i64 0], .int .i64 2]) (by simp [results, Tryz.results12, go_sem]) rfl ⟨by rw [HC.out], (by repeat (first | with_reducible exact Ext.refl _ | with_reducible assumption | with_reducible refine Ext.alloc ?_ _ | with_reducible refine Ext.drew ?_ | (with_reducible refine Ext.setAt ?_ _ _ _ ?_; rotate_left; omega) | with_reducible refine Ext.trans ?_ (by assumption) | with_reducible exact Past.bel _ | with_reducible refine Ext.trans ?_ (Past.bel _)))⟩
    · have b1 := dnum_bd B.out h2
      have hl := B.out.last
      have H1 := Lib.hid h1; have H2 := Lib.hid h2
      cases h3 : inB (dnum c y m d + k) 0 (c.bef 10000 - 1)
      · have h4 : adB c y m d k = false := by simp [adB, h2, h3]
        rw [h1, h4] at r
        obtain ⟨rfl, rfl, rfl⟩ := r.no rfl
        have HC := Lib.hid (show adC s nm c wk y m d k = 2 by simp [adC, h1, h4])
        have HS := Lib.hid (fun W (hq : Ext w W) => shifted_f (wk := wk) B.out (H.out.ext hq) b1.1 (by omega) h3)
        clear r h4 h3 b1 hl
        go_enter Tryz.func12, Tryz.ntmps12
        go_wp2_with (first | (go_at_call 7; ((with_reducible refine (implDayOf_yes wk H1.out H2.out (H.out.ext (by repeat (first | with_reducible exact Ext.refl _ | with_reducible assumption | with_reducible refine Ext.alloc ?_ _ | with_reducible refine Ext.drew ?_ | (with_reducible refine Ext.setAt ?_ _ _ _ ?_; rotate_left; omega) | with_reducible refine Ext.trans ?_ (by assumption) | with_reducible exact Past.bel _ | with_reducible refine Ext.trans ?_ (Past.bel _))))).mono ?_); rintro e w' ⟨rfl, hx⟩; (first | (obtain ⟨wx, rfl⟩ := Past.again hx) | (obtain ⟨wx, rfl⟩ := Past.ofd hx) | (obtain ⟨wx, rfl⟩ := Past.of hx)))) | (go_at_call 41; ((with_reducible refine (HS.out _ (by repeat (first | with_reducible exact Ext.refl _ | with_reducible assumption | with_reducible refine Ext.alloc ?_ _ | with_reducible refine Ext.drew ?_ | (with_reducible refine Ext.setAt ?_ _ _ _ ?_; rotate_left; omega) | with_reducible refine Ext.trans ?_ (by assumption) | with_reducible exact Past.bel _ | with_reducible refine Ext.trans ?_ (Past.bel _)))).mono ?_); rintro e w' ⟨rfl, hx⟩; (first | (obtain ⟨wx, rfl⟩ := Past.again hx) | (obtain ⟨wx, rfl⟩ := Past.ofd hx) | (obtain ⟨wx, rfl⟩ := Past.of hx)))))
        exact bodyPost_ret (v := .tuple #[.agg #[.int .i64 0, .int .i64 0, .int .i64 0], .int .i64 2]) (by simp [results, Tryz.results12, go_sem]) rfl ⟨by rw [HC.out], (by repeat (first | with_reducible exact Ext.refl _ | with_reducible assumption | with_reducible refine Ext.alloc ?_ _ | with_reducible refine Ext.drew ?_ | (with_reducible refine Ext.setAt ?_ _ _ _ ?_; rotate_left; omega) | with_reducible refine Ext.trans ?_ (by assumption) | with_reducible exact Past.bel _ | with_reducible refine Ext.trans ?_ (Past.bel _)))⟩
      · have h4 : adB c y m d k = true := by simp [adB, h2, h3]
        rw [h1, h4] at r
        have HC := Lib.hid (show adC s nm c wk y m d k = 0 by simp [adC, h1, h4])
        have HS := Lib.hid (fun W (hq : Ext w W) => shifted_t (wk := wk) B.out (H.out.ext hq) b1.1 (by omega) h3 (show DtR c true _ Y M D from r))
        clear r h4 h3 b1 hl
        go_enter Tryz.func12, Tryz.ntmps12
        go_wp2_with (first | (go_at_call 7; ((with_reducible refine (implDayOf_yes wk H1.out H2.out (H.out.ext (by repeat (first | with_reducible exact Ext.refl _ | with_reducible assumption | with_reducible refine Ext.alloc ?_ _ | with_reducible refine Ext.drew ?_ | (with_reducible refine Ext.setAt ?_ _ _ _ ?_; rotate_left; omega) | with_reducible refine Ext.trans ?_ (by assumption) | with_reducible exact Past.bel _ | with_reducible refine Ext.trans ?_ (Past.bel _))))).mono ?_); rintro e w' ⟨rfl, hx⟩; (first | (obtain ⟨wx, rfl⟩ := Past.again hx) | (obtain ⟨wx, rfl⟩ := Past.ofd hx) | (obtain ⟨wx, rfl⟩ := Past.of hx)))) | (go_at_call 41; ((with_reducible refine (HS.out _ (by repeat (first | with_reducible exact Ext.refl _ | with_reducible assumption | with_reducible refine Ext.alloc ?_ _ | with_reducible refine Ext.drew ?_ | (with_reducible refine Ext.setAt ?_ _ _ _ ?_; rotate_left; omega) | with_reducible refine Ext.trans ?_ (by assumption) | with_reducible exact Past.bel _ | with_reducible refine Ext.trans ?_ (Past.bel _)))).mono ?_); rintro e w' ⟨rfl, hx⟩; (first | (obtain ⟨wx, rfl⟩ := Past.again hx) | (obtain ⟨wx, rfl⟩ := Past.ofd hx) | (obtain ⟨wx, rfl⟩ := Past.of hx)))))
        exact bodyPost_ret (v := .tuple #[.agg #[.int .i64 Y, .int .i64 M, .int .i64 D], .int .i64 0]) (by simp [results, Tryz.results12, go_sem]) rfl ⟨by rw [HC.out], (by repeat (first | with_reducible exact Ext.refl _ | with_reducible assumption | with_reducible refine Ext.alloc ?_ _ | with_reducible refine Ext.drew ?_ | (with_reducible refine Ext.setAt ?_ _ _ _ ?_; rotate_left; omega) | with_reducible refine Ext.trans ?_ (by assumption) | with_reducible exact Past.bel _ | with_reducible refine Ext.trans ?_ (Past.bel _)))⟩
end
end Go.Proofs.YtpohhnihgegmfaaGreatDoor

namespace Go.Proofs.YtpohhnihgegmfaaGreatDoor
open Go.RowKit
set_option linter.unusedVariables false
set_option linter.unusedSimpArgs false

section
variable {s : ByteArray} {ma ra : Option Addr} {mc rc : Nat} {nm : Nat → ByteArray} {c : CalN} {s2 : ByteArray} {ma2 ra2 : Option Addr} {mc2 rc2 : Nat} {nm2 : Nat → ByteArray} {c2 : CalN} {w : World}
theorem l15Ok_e {g : Nat} {s : ByteArray} {ma ra : Option Addr} {mc rc : Nat} {wk : Int} {nm : Nat → ByteArray} {c : CalN} {w : World} {b : Bool} (hb : calB s nm c wk = b) (h : CalQ w g s ma ra mc rc wk nm c) :
    Calls Tryz.prog 44 #[.pointer (some ⟨g, 0, none⟩)] w fun e w' => e = .returned (.bool b) ∧ Ext w w' := by subst hb; exact l15Ok_q h
end
end Go.Proofs.YtpohhnihgegmfaaGreatDoor

namespace Go.Proofs.YtpohhnihgegmfaaGreatDoor
open Go.RowKit
set_option linter.unusedVariables false
set_option linter.unusedSimpArgs false

theorem loc_of {c : CalN} (b : CalB c) {y m d : Int} (h : dtB c y m d = true) : ∃ Y M : Nat, y = (Y : Int) ∧ m = (M : Int) + 1 ∧ Loc c (dnum c y m d) Y M d ∧ Y ≤ 9999 := by
  obtain ⟨Y, M, rfl, rfl, h1, h2, h3, h4⟩ := dtB_nat h
  exact ⟨Y, M, rfl, rfl, by rw [dnum_nat]; exact Loc.num b h2 h3 h4, h1⟩
/-- a day that leads back -/
theorem conv_back {c c2 : CalN} (b : CalB c) (b2 : CalB c2) {y m d k : Int} (h : dtB c y m d = true) {Y M D : Int} (r : DtR c2 true (dnum c y m d + k) Y M D) :
    dtB c2 Y M D = true ∧ cvB c2 c Y M D (-k) = true ∧ DtR c true (dnum c2 Y M D + -k) y m d := by
  obtain ⟨Y', M', rfl, rfl, hl, h9⟩ := r.yes rfl
  have e1 : dtB c2 (Y' : Int) ((M' : Int) + 1) D = true := dtB_mk b2 hl h9
  have e2 : dnum c2 (Y' : Int) ((M' : Int) + 1) D = dnum c y m d + k := by rw [dnum_nat]; exact hl.eq.symm
  have e3 : dnum c2 (Y' : Int) ((M' : Int) + 1) D + -k = dnum c y m d := by omega
  have bd := dnum_bd b h
  refine ⟨e1, ?_, ?_⟩
  · rw [cvB, e1, e3, inB_t.2 ⟨by omega, by omega⟩]; rfl
  · rw [e3]
    obtain ⟨Y0, M0, h1, h2, h3, h4⟩ := loc_of b h
    exact ⟨fun _ => ⟨Y0, M0, h1, h2, h3, h4⟩, fun e => by cases e⟩
theorem a2Long_c (a1 a2 : Option Addr) (n1 c1 n2 c2 : Nat) (w : World) : Calls Tryz.prog 5 #[.slice a1 n1 c1, .slice a2 n2 c2] w fun e w' => e = .returned (.bool (decide (3000 < n1) || decide (3000 < n2))) ∧ w = w' := by
  by_cases h1 : 3000 < n1
  · have x1 : (3000 : Int) < n1 := by omega
    go_enter Tryz.func5, Tryz.ntmps5
    go_wp2
    go_ret
    exact ⟨ret_bool (by simp [h1]), rfl⟩
  · have x1 : ¬ (3000 : Int) < n1 := by omega
    by_cases h2 : 3000 < n2
    · have x2 : (3000 : Int) < n2 := by omega
      go_enter Tryz.func5, Tryz.ntmps5
      go_wp2
      go_ret
      exact ⟨ret_bool (by simp [h1, h2]), rfl⟩
    · have x2 : ¬ (3000 : Int) < n2 := by omega
      go_enter Tryz.func5, Tryz.ntmps5
      go_wp2
      go_ret
      exact ⟨ret_bool (by simp [h1, h2]), rfl⟩
end Go.Proofs.YtpohhnihgegmfaaGreatDoor

namespace Go.Proofs.YtpohhnihgegmfaaGreatDoor
set_option linter.unusedVariables false
open Lib
theorem digitVal_of {d : Nat} (h : d < 10) : digitVal (UInt8.ofNat (48 + d)) = some d := by
  have e : (UInt8.ofNat (48 + d)).toNat = 48 + d := by rw [UInt8.toNat_ofNat']; omega
  rw [digitVal, e, if_pos (by omega)]; congr 1; omega
theorem digitVal_some {b : UInt8} {d : Nat} (h : digitVal b = some d) : (48 ≤ b.toNat ∧ b.toNat ≤ 57) ∧ d = b.toNat - 48 := by
  unfold digitVal at h
  split at h
  · next h1 => exact ⟨h1, by simpa using h.symm⟩
  · cases h
theorem decFrom_snoc (b : UInt8) : ∀ (l : List UInt8) (acc : Nat), decFrom acc (l ++ [b]) = (decFrom acc l).bind fun n => (digitVal b).map fun d => n * 10 + d
  | [], acc => by simp only [List.nil_append, decFrom]; cases digitVal b <;> rfl
  | a :: t, acc => by
    simp only [List.cons_append, decFrom]
    cases h : digitVal a with
    | none => rfl
    | some d => exact decFrom_snoc b t _
theorem decFrom_digits : ∀ (u : Nat), decFrom 0 (decDigits u) = some u := fun u => by
  induction u using Nat.strongRecOn with
  | ind u ih =>
    rw [decDigits]
    split
    · next h => simp only [decFrom, digitVal_of h]; congr 1; omega
    · next h => rw [decFrom_snoc, ih (u / 10) (by omega), digitVal_of (by omega)]; simp; omega
theorem decDigits_ne (u : Nat) : decDigits u ≠ [] := by
  rw [decDigits]; split <;> simp
theorem decFrom_ge : ∀ (l : List UInt8) (acc v : Nat), decFrom acc l = some v → acc ≤ v
  | [], acc, v, h => by simp [decFrom] at h; omega
  | a :: t, acc, v, h => by
    simp only [decFrom] at h
    cases ha : digitVal a with
    | none => simp [ha] at h
    | some d => simp only [ha] at h; have := decFrom_ge t _ v h; omega
theorem decFrom_lt : ∀ (l : List UInt8) (acc v : Nat), decFrom acc l = some v → v < (acc + 1) * 10 ^ l.length
  | [], acc, v, h => by simp [decFrom] at h; simp; omega
  | a :: t, acc, v, h => by
    simp only [decFrom] at h
    cases ha : digitVal a with
    | none => simp [ha] at h
    | some d =>
      simp only [ha] at h
      have h1 := decFrom_lt t _ v h
      have h2 := digitVal_some ha
      have h3 : (acc * 10 + d + 1) * 10 ^ t.length ≤ ((acc + 1) * 10) * 10 ^ t.length := Nat.mul_le_mul_right _ (by omega)
      rw [List.length_cons, Nat.pow_succ, Nat.mul_comm (10 ^ t.length) 10, ← Nat.mul_assoc]
      omega
theorem decFrom_18 {l : List UInt8} {v : Nat} (h : decFrom 0 l = some v) (hl : l.length ≤ 18) : v < 1000000000000000000 := by
  have h1 := decFrom_lt l 0 v h
  have h2 : 10 ^ l.length ≤ 10 ^ 18 := Nat.pow_le_pow_right (by omega) hl
  have h3 : (10 : Nat) ^ 18 = 1000000000000000000 := rfl
  omega
theorem decDigits_len {u : Nat} (h : u < 1000000000000000000) : (decDigits u).length ≤ 18 ∧ 1 ≤ (decDigits u).length := by
  constructor
  · by_cases h0 : u = 0
    · subst h0; rw [decDigits_one (by decide)]; decide
    · rw [← digs_pos (by omega)]; exact digs_len 18 u (by omega)
  · have := decDigits_ne u
    exact List.length_pos_iff.2 this
theorem parseUintM_ok : ∀ (l : List UInt8) (acc v : Nat), decFrom acc l = some v → v < 1000000000000000000 → parseUintM (2 ^ 64 - 1) acc l = .ok v
  | [], acc, v, h, _ => by simp [decFrom] at h; rw [parseUintM, h]
  | a :: t, acc, v, h, hv => by
    simp only [decFrom] at h
    cases ha : digitVal a with
    | none => simp [ha] at h
    | some d =>
      simp only [ha] at h
      obtain ⟨h1, h2⟩ := digitVal_some ha
      have h3 := decFrom_ge t _ v h
      subst h2
      rw [parseUintM, if_pos h1, if_neg (by omega), if_neg (by omega)]
      exact parseUintM_ok t _ v h hv
/-- the numeral of u begins with a digit -/
theorem decDigits_head (u : Nat) : ∃ c r, decDigits u = c :: r ∧ 48 ≤ c.toNat ∧ c.toNat ≤ 57 := by
  obtain ⟨c, r, hc⟩ := List.exists_cons_of_ne_nil (decDigits_ne u)
  obtain ⟨d, hd⟩ := digit_of_decFrom _ 0 u (decFrom_digits u) 0 c (by rw [hc]; rfl)
  exact ⟨c, r, hc, (digitVal_some hd).1⟩
theorem itoa_cases (n : Int) : (n < 0 ∧ itoa n = 45 :: decDigits n.natAbs) ∨ (0 ≤ n ∧ itoa n = decDigits n.natAbs) := by
  by_cases h : n < 0
  · exact .inl ⟨h, by rw [itoa, if_pos h]⟩
  · exact .inr ⟨by omega, by rw [itoa, if_neg h]; congr 1; omega⟩
/-- small numbers -/
def Sm (n : Int) : Prop := -1000000000000000000 < n ∧ n < 1000000000000000000
theorem parse_itoa {n : Int} (h : Sm n) : parseIntB 64 (itoa n) = .ok n := by
  have hu : n.natAbs < 1000000000000000000 := by have := h.1; have := h.2; omega
  have hp := parseUintM_ok _ 0 _ (decFrom_digits n.natAbs) hu
  have hpb : parseUintB 64 (decDigits n.natAbs) = .ok n.natAbs := by rw [parseUintB, if_neg (decDigits_ne _)]; exact hp
  rcases itoa_cases n with ⟨hn, e⟩ | ⟨hn, e⟩
  · rw [e, parseIntB]
    have e1 : ((45 : UInt8).toNat = 43 ∨ (45 : UInt8).toNat = 45) := .inr rfl
    simp only [if_pos e1, hpb]
    have e2 : (45 : UInt8).toNat = 45 := rfl
    have e4 : (2 : Nat) ^ (64 - 1) = 9223372036854775808 := by decide
    simp only [e2, not_true, false_and, if_false, true_and, if_true, e4]
    rw [if_neg (by omega)]
    congr 1; omega
  · obtain ⟨c, r, hc, h1, h2⟩ := decDigits_head n.natAbs
    rw [e]
    rw [hc] at hpb ⊢
    rw [parseIntB]
    have e1 : ¬ (c.toNat = 43 ∨ c.toNat = 45) := by omega
    have e2 : ¬ c.toNat = 45 := by omega
    have e4 : (2 : Nat) ^ (64 - 1) = 9223372036854775808 := by decide
    simp only [if_neg e1, hpb]
    simp only [e2, not_false_eq_true, true_and, false_and, if_false, e4]
    rw [if_neg (by omega)]
    congr 1; omega
/-- a text without its sign -/
def mag (l : List UInt8) : List UInt8 := trimPrefix l [45]
theorem mag_itoa (n : Int) : mag (itoa n) = decDigits n.natAbs := by
  rcases itoa_cases n with ⟨hn, e⟩ | ⟨hn, e⟩
  · rw [e]; rfl
  · obtain ⟨c, r, hc, h1, h2⟩ := decDigits_head n.natAbs
    rw [e, hc]
    have : hasPrefix (c :: r) [45] = false := by
      unfold hasPrefix
      simp only [List.isPrefixOf, Bool.and_true, beq_eq_false_iff_ne]
      intro e; subst e; exact absurd h1 (by decide)
    rw [mag, trimPrefix, this]; rfl
theorem itoa_inj {m n : Int} (h : itoa m = itoa n) : m = n := by
  have h1 := congrArg mag h
  rw [mag_itoa, mag_itoa] at h1
  have h2 : m.natAbs = n.natAbs := Option.some.inj ((decFrom_digits _).symm.trans ((congrArg (decFrom 0) h1).trans (decFrom_digits _)))
  rcases itoa_cases m with ⟨a1, e1⟩ | ⟨a1, e1⟩ <;> rcases itoa_cases n with ⟨a2, e2⟩ | ⟨a2, e2⟩
  · omega
  · obtain ⟨c, r, hc, h3, h4⟩ := decDigits_head n.natAbs
    rw [e1, e2, hc] at h; injection h with h5; subst h5; exact absurd h3 (by decide)
  · obtain ⟨c, r, hc, h3, h4⟩ := decDigits_head m.natAbs
    rw [e1, e2, hc] at h; injection h with h5; subst h5; exact absurd h3 (by decide)
  · omega
/-- what reading a numeral of at most 18 digits returns -/
structure RdR (l : List UInt8) (x : Int) (b : Bool) : Prop where
  yes : b = true → itoa x = l ∧ Sm x
  no : b = false → x = 0 ∧ ∀ n, Sm n → itoa n ≠ l
theorem RdR.one {l : List UInt8} {x y : Int} {b c : Bool} (h : RdR l x b) (k : RdR l y c) : x = y ∧ b = c := by
  cases b <;> cases c
  · exact ⟨(h.no rfl).1.trans (k.no rfl).1.symm, rfl⟩
  · exact absurd (k.yes rfl).1 ((h.no rfl).2 y (k.yes rfl).2)
  · exact absurd (h.yes rfl).1 ((k.no rfl).2 x (h.yes rfl).2)
  · exact ⟨itoa_inj ((h.yes rfl).1.trans (k.yes rfl).1.symm), rfl⟩
theorem RdR.ex (l : List UInt8) : ∃ x b, RdR l x b := by
  by_cases h : ∃ n, Sm n ∧ itoa n = l
  · obtain ⟨n, h1, h2⟩ := h
    exact ⟨n, true, fun _ => ⟨h2, h1⟩, fun e => by cases e⟩
  · exact ⟨0, false, (fun e => by cases e), fun _ => ⟨rfl, fun n h1 h2 => h ⟨n, h1, h2⟩⟩⟩
theorem RdR.sm {l : List UInt8} {x : Int} {b : Bool} (h : RdR l x b) : Sm x := by
  cases b
  · rw [(h.no rfl).1]; exact ⟨by omega, by omega⟩
  · exact (h.yes rfl).2
theorem sm_mag {l : List UInt8} {n : Int} (h : Sm n) (e : itoa n = l) : mag l = decDigits n.natAbs ∧ 1 ≤ (mag l).length ∧ (mag l).length ≤ 18 := by
  have hu : n.natAbs < 1000000000000000000 := by have := h.1; have := h.2; omega
  have h1 := decDigits_len hu
  rw [← e, mag_itoa]; exact ⟨rfl, h1.2, h1.1⟩
theorem sm_of {l : List UInt8} {n : Int} (e : itoa n = l) (h : (mag l).length ≤ 18) : Sm n := by
  rw [← e, mag_itoa] at h
  have := decFrom_18 (decFrom_digits n.natAbs) h
  exact ⟨by omega, by omega⟩
end Go.Proofs.YtpohhnihgegmfaaGreatDoor

namespace Go.Proofs.YtpohhnihgegmfaaGreatDoor
set_option linter.unusedVariables false
open Lib
/-- the parts of a text between bytes c -/
def splitL (c : UInt8) : List UInt8 → List (List UInt8)
  | [] => [[]]
  | b :: r => if b = c then [] :: splitL c r else match splitL c r with
    | [] => [[b]]
    | x :: xs => (b :: x) :: xs
theorem splitL_ne (c : UInt8) (l : List UInt8) : splitL c l ≠ [] := by
  cases l with
  | nil => simp [splitL]
  | cons b r =>
    rw [splitL]; split
    · simp
    · split <;> simp
theorem splitL_cons (c b : UInt8) (r : List UInt8) (h : b ≠ c) : ∃ x xs, splitL c r = x :: xs ∧ splitL c (b :: r) = (b :: x) :: xs := by
  obtain ⟨x, xs, hx⟩ := List.exists_cons_of_ne_nil (splitL_ne c r)
  exact ⟨x, xs, hx, by rw [splitL, if_neg h, hx]⟩
theorem splitL_hit (c : UInt8) (r : List UInt8) : splitL c (c :: r) = [] :: splitL c r := by rw [splitL, if_pos rfl]
/-- a part without the byte -/
theorem splitL_one (c : UInt8) : ∀ (x : List UInt8), c ∉ x → splitL c x = [x]
  | [], _ => rfl
  | b :: r, h => by
    have hb : b ≠ c := fun e => h (by simp [e])
    have h2 := splitL_one c r (fun e => h (by simp [e]))
    rw [splitL, if_neg hb, h2]
theorem splitL_app (c : UInt8) : ∀ (x y : List UInt8), c ∉ x → splitL c (x ++ c :: y) = x :: splitL c y
  | [], y, _ => splitL_hit c y
  | b :: r, y, h => by
    have hb : b ≠ c := fun e => h (by simp [e])
    have h2 := splitL_app c r y (fun e => h (by simp [e]))
    rw [List.cons_append, splitL, if_neg hb, h2]
/-- put together again -/
def joinL (c : UInt8) : List (List UInt8) → List UInt8
  | [] => []
  | [x] => x
  | x :: y :: ys => x ++ c :: joinL c (y :: ys)
theorem joinL_cons (c : UInt8) (x : List UInt8) {ys : List (List UInt8)} (h : ys ≠ []) : joinL c (x :: ys) = x ++ c :: joinL c ys := by
  obtain ⟨y, zs, rfl⟩ := List.exists_cons_of_ne_nil h; rfl
theorem join_split (c : UInt8) : ∀ l, joinL c (splitL c l) = l
  | [] => rfl
  | b :: r => by
    have ih := join_split c r
    by_cases h : b = c
    · subst h; rw [splitL_hit, joinL_cons _ _ (splitL_ne _ _), ih]; rfl
    · obtain ⟨x, xs, h1, h2⟩ := splitL_cons c b r h
      rw [h2]; rw [h1] at ih
      cases xs with
      | nil => simp only [joinL] at ih ⊢; rw [ih]
      | cons y ys => simp only [joinL] at ih ⊢; rw [List.cons_append, ih]
theorem splitL_free (c : UInt8) : ∀ (l p : List UInt8), p ∈ splitL c l → c ∉ p
  | [], p, h => by simp [splitL] at h; subst h; simp
  | b :: r, p, h => by
    by_cases hb : b = c
    · subst hb
      rw [splitL_hit] at h
      rcases List.mem_cons.1 h with rfl | h
      · simp
      · exact splitL_free _ r p h
    · obtain ⟨x, xs, h1, h2⟩ := splitL_cons c b r hb
      rw [h2] at h
      rcases List.mem_cons.1 h with rfl | h
      · have := splitL_free c r x (by rw [h1]; simp)
        simp only [List.mem_cons, not_or]; exact ⟨fun e => hb e.symm, this⟩
      · exact splitL_free c r p (by rw [h1]; simp [h])
theorem index_head (c : UInt8) (r : List UInt8) : index (c :: r) [c] = 0 := by simp [index, List.isPrefixOf]
theorem index_tail {b c : UInt8} (r : List UInt8) (h : b ≠ c) : index (b :: r) [c] = if index r [c] == -1 then -1 else index r [c] + 1 := by
  rw [index, if_neg]
  simp only [List.isPrefixOf, Bool.and_true, beq_iff_eq]
  exact fun e => h e.symm
/-- the library's parts are these -/
theorem splitK_eq (c : UInt8) : ∀ l, splitK [c] 0 (count l [c]) l = splitL c l
  | [] => by rw [count_miss (by rfl)]; rfl
  | b :: r => by
    have ih := splitK_eq c r
    by_cases h : b = c
    · subst h
      rw [count_cons_eq, Nat.add_comm, splitK, index_head, splitL_hit]
      rw [if_neg (by decide)]
      simp only [Int.toNat_zero, Nat.add_zero, List.take_zero, Nat.zero_add, List.length_singleton, List.drop_one, List.tail_cons]
      rw [ih]
    · rw [count_cons_ne b c r h]
      obtain ⟨x, xs, h1, h2⟩ := splitL_cons c b r h
      cases hk : count r [c] with
      | zero =>
        rw [hk] at ih
        simp only [splitK] at ih ⊢
        rw [h1] at ih; injection ih with e1 e2; subst e1 e2
        rw [h2]
      | succ k =>
        rw [hk] at ih
        have hi : ¬ index r [c] = -1 := fun e => by rw [count_miss e] at hk; cases hk
        have hi2 := index_ge r [c]
        obtain ⟨i, hi3⟩ := Int.eq_ofNat_of_zero_le (show 0 ≤ index r [c] by omega)
        rw [splitK, if_neg (by simpa using hi), hi3] at ih
        have hi4 : index (b :: r) [c] = (i : Int) + 1 := by rw [index_tail r h, if_neg (by simpa using hi), hi3]
        rw [splitK, hi4, if_neg (by simp; omega)]
        rw [h1] at ih
        injection ih with e1 e2
        rw [h2, ← e1, ← e2]
        have e3 : (((i : Nat) : Int) + 1).toNat = i + 1 := by omega
        rw [e3]
        simp
theorem splitB_eq (c : UInt8) (s : ByteArray) : (splitB ⟨#[c]⟩ 0 (countB s ⟨#[c]⟩) s).map (·.data.toList) = splitL c s.data.toList := by
  rw [splitB_data]; exact splitK_eq c s.data.toList
end Go.Proofs.YtpohhnihgegmfaaGreatDoor

namespace Go.Proofs.YtpohhnihgegmfaaGreatDoor
set_option linter.unusedVariables false
open Lib
theorem splitL_len (c : UInt8) : ∀ (l p : List UInt8), p ∈ splitL c l → p.length ≤ l.length
  | [], p, h => by simp [splitL] at h; subst h; simp
  | b :: r, p, h => by
    by_cases hb : b = c
    · subst hb
      rw [splitL_hit] at h
      rcases List.mem_cons.1 h with rfl | h
      · simp
      · have := splitL_len _ r p h; simp; omega
    · obtain ⟨x, xs, h1, h2⟩ := splitL_cons c b r hb
      rw [h2] at h
      rcases List.mem_cons.1 h with rfl | h
      · have := splitL_len c r x (by rw [h1]; simp); simp; omega
      · have := splitL_len c r p (by rw [h1]; simp [h]); simp; omega
theorem dec_no (c : UInt8) (hc : ¬ (48 ≤ c.toNat ∧ c.toNat ≤ 57)) (u : Nat) : c ∉ decDigits u := fun h => by
  obtain ⟨k, hk, e⟩ := List.getElem_of_mem h
  obtain ⟨d, hd⟩ := digit_of_decFrom _ 0 u (decFrom_digits u) k c (by rw [List.getElem?_eq_getElem hk, e])
  exact hc (digitVal_some hd).1
theorem itoa_no {c : UInt8} (hc : ¬ (48 ≤ c.toNat ∧ c.toNat ≤ 57)) {n : Int} (h : 0 ≤ n) : c ∉ itoa n := by
  rcases itoa_cases n with ⟨a, _⟩ | ⟨_, e⟩
  · omega
  · rw [e]; exact dec_no c hc _
/-- three numbers that a date's text can hold -/
def plD (y m d : Int) : Bool := inB y 0 9999 && (inB m 0 9999 && inB d 0 9999)
theorem plD_t {y m d : Int} : plD y m d = true ↔ (0 ≤ y ∧ y ≤ 9999) ∧ (0 ≤ m ∧ m ≤ 9999) ∧ (0 ≤ d ∧ d ≤ 9999) := by
  simp only [plD, Bool.and_eq_true, inB_t]
def dtP (y m d : Int) : List UInt8 := itoa y ++ 45 :: (itoa m ++ 45 :: itoa d)
theorem split_dt {y m d : Int} (h : plD y m d = true) : splitL 45 (dtP y m d) = [itoa y, itoa m, itoa d] := by
  obtain ⟨⟨a, _⟩, ⟨b, _⟩, ⟨c, _⟩⟩ := plD_t.1 h
  have hc : ¬ (48 ≤ (45 : UInt8).toNat ∧ (45 : UInt8).toNat ≤ 57) := by decide
  rw [dtP, splitL_app _ _ _ (itoa_no hc a), splitL_app _ _ _ (itoa_no hc b), splitL_one _ _ (itoa_no hc c)]
/-- what reading a date's text returns -/
structure DR (l : List UInt8) (y m d : Int) (b : Bool) : Prop where
  yes : b = true → plD y m d = true ∧ l = dtP y m d
  no : b = false → (y = 0 ∧ m = 0 ∧ d = 0) ∧ ∀ y' m' d', plD y' m' d' = true → l ≠ dtP y' m' d'
theorem DR.ex (l : List UInt8) : ∃ y m d b, DR l y m d b := by
  by_cases h : ∃ y m d, plD y m d = true ∧ l = dtP y m d
  · obtain ⟨y, m, d, h⟩ := h
    exact ⟨y, m, d, true, fun _ => h, fun e => by cases e⟩
  · exact ⟨0, 0, 0, false, (fun e => by cases e), fun _ => ⟨⟨rfl, rfl, rfl⟩, fun y m d h1 h2 => h ⟨y, m, d, h1, h2⟩⟩⟩
/-- not three parts -/
theorem DR.few {l : List UInt8} {y m d : Int} {b : Bool} (h : DR l y m d b) (hl : (splitL 45 l).length ≠ 3) : b = false := by
  cases b
  · rfl
  · obtain ⟨h1, rfl⟩ := h.yes rfl
    rw [split_dt h1] at hl; exact absurd rfl hl
theorem plD_sm {y m d : Int} (h : plD y m d = true) : Sm y ∧ Sm m ∧ Sm d := by
  have := plD_t.1 h
  exact ⟨⟨by omega, by omega⟩, ⟨by omega, by omega⟩, ⟨by omega, by omega⟩⟩
/-- three parts, each read -/
theorem DR.three {l p0 p1 p2 : List UInt8} {y m d x0 x1 x2 : Int} {b b0 b1 b2 : Bool} (h : DR l y m d b) (hl : splitL 45 l = [p0, p1, p2]) (r0 : RdR p0 x0 b0) (r1 : RdR p1 x1 b1) (r2 : RdR p2 x2 b2) :
    b = (b0 && (b1 && (b2 && plD x0 x1 x2))) ∧ (b = true → y = x0 ∧ m = x1 ∧ d = x2) := by
  have hj : l = p0 ++ 45 :: (p1 ++ 45 :: p2) := by rw [← join_split 45 l, hl]; rfl
  cases b
  · refine ⟨?_, fun e => by cases e⟩
    cases b0
    · rfl
    · cases b1
      · rfl
      · cases b2
        · rfl
        · cases hp : plD x0 x1 x2
          · rfl
          · exact absurd (by rw [hj, ← (r0.yes rfl).1, ← (r1.yes rfl).1, ← (r2.yes rfl).1]; rfl) ((h.no rfl).2 x0 x1 x2 hp)
  · obtain ⟨h1, h2⟩ := h.yes rfl
    have h3 := split_dt h1
    rw [← h2, hl] at h3
    injection h3 with e0 h3; injection h3 with e1 h3; injection h3 with e2 _
    obtain ⟨s0, s1, s2⟩ := plD_sm h1
    have k0 : b0 = true := by
      cases b0
      · exact absurd e0.symm ((r0.no rfl).2 y s0)
      · rfl
    have k1 : b1 = true := by
      cases b1
      · exact absurd e1.symm ((r1.no rfl).2 m s1)
      · rfl
    have k2 : b2 = true := by
      cases b2
      · exact absurd e2.symm ((r2.no rfl).2 d s2)
      · rfl
    have q0 : y = x0 := itoa_inj (e0.symm.trans (r0.yes k0).1.symm)
    have q1 : m = x1 := itoa_inj (e1.symm.trans (r1.yes k1).1.symm)
    have q2 : d = x2 := itoa_inj (e2.symm.trans (r2.yes k2).1.symm)
    refine ⟨?_, fun _ => ⟨q0, q1, q2⟩⟩
    rw [k0, k1, k2, ← q0, ← q1, ← q2, h1]; rfl
end Go.Proofs.YtpohhnihgegmfaaGreatDoor

namespace Go.Proofs
open Go.Shelf
def Tryz.lays169_ren : Go.Shelf.Ren := ⟨fun | 169 => 53 | n => n, fun | 70 => 91 | 9 => 9 | 0 => 0 | 72 => 93 | 37 => 22 | 127 => 131 | 3 => 3 | 5 => 5 | n => n, fun | n => n⟩
theorem Tryz.lays169 : Go.Proofs.Lays.n169 Tryz.prog Tryz.lays169_ren := {
  mixed := by kernel_rfl
  f169 := Tryz.func53.trans (congrArg some (by kernel_rfl))
  t0 := Tryz.underlying0
  a0 := Tryz.isAgg0
  z0 := Tryz.sizeOf0
  v0 := Tryz.zeroValue0
  t3 := Tryz.underlying3
  a3 := Tryz.isAgg3
  z3 := Tryz.sizeOf3
  v3 := Tryz.zeroValue3
  t9 := Tryz.underlying9
  a9 := Tryz.isAgg9
  z9 := Tryz.sizeOf9
  v9 := Tryz.zeroValue9
  t37 := Tryz.underlying22
  a37 := Tryz.isAgg22
  z37 := Tryz.sizeOf22
  v37 := Tryz.zeroValue22
  t70 := Tryz.underlying91
  a70 := Tryz.isAgg91
  z70 := Tryz.sizeOf91
  v70 := Tryz.zeroValue91
  t72 := Tryz.underlying93
  a72 := Tryz.isAgg93
  z72 := Tryz.sizeOf93
  v72 := Tryz.zeroValue93
  t127 := Tryz.underlying131
  a127 := Tryz.isAgg131
  z127 := Tryz.sizeOf131
  v127 := Tryz.zeroValue131 }
theorem Tryz.Builder_Extra_169 : Builder.Extra Tryz.prog Tryz.lays169_ren := {
  sizeBuilder := by kernel_rfl
  liesBuilder := by kernel_rfl
  t5 := Tryz.underlying5
  a5 := Tryz.isAgg5
  z5 := Tryz.sizeOf5
  v5 := Tryz.zeroValue5
  infoByte := by kernel_rfl
  cellsByte := by kernel_rfl
  sizeByte := by kernel_rfl
  neB5 := by decide }
open Go.RowKit in
theorem Tryz.Builder_String_any (B b : Nat) (l : List UInt8) (w : World) (h : Lib.IsBuilder 93 5 B b (Lib.byteCells l) w) (hBw : B ≤ w.heap.size) :
    Calls Tryz.prog 53 #[.pointer (some ⟨b, 0, none⟩)] w fun e w' => e = .returned (.string ⟨l.toArray⟩) ∧ Below B w w' := Any.Builder_String_any Tryz.lays169 Tryz.Builder_Extra_169 B b l w h hBw
open Go.RowKit in
def Tryz.laysM173_ren : Go.Shelf.Ren := ⟨fun | 173 => 74 | 246 => 100 | 283 => 117 | 284 => 118 | 285 => 119 | 286 => 120 | 129 => 132 | 317 => 131 | 318 => 133 | 319 => 134 | 320 => 135 | 337 => 139 | 338 => 140 | n => n, fun | 2 => 2 | 3 => 3 | 9 => 9 | 4 => 4 | 171 => 157 | 0 => 0 | 53 => 105 | 37 => 22 | 5 => 5 | 173 => 160 | 212 => 169 | 51 => 170 | 20 => 20 | 213 => 171 | 46 => 145 | 232 => 184 | 233 => 185 | n => n, fun | 17 => 3 | 18 => 6 | 19 => 7 | n => n⟩
theorem Tryz.laysM173 : Go.Proofs.LaysM.n173 Tryz.prog Tryz.laysM173_ren := {
  mixed := by kernel_rfl
  f129 := Tryz.func132.trans (congrArg some (by kernel_rfl))
  f173 := Tryz.func74.trans (congrArg some (by kernel_rfl))
  f246 := Tryz.func100.trans (congrArg some (by kernel_rfl))
  f283 := Tryz.func117.trans (congrArg some (by kernel_rfl))
  f284 := Tryz.func118.trans (congrArg some (by kernel_rfl))
  f285 := Tryz.func119.trans (congrArg some (by kernel_rfl))
  f286 := Tryz.func120.trans (congrArg some (by kernel_rfl))
  f317 := Tryz.func131.trans (congrArg some (by kernel_rfl))
  f318 := Tryz.func133.trans (congrArg some (by kernel_rfl))
  f319 := Tryz.func134.trans (congrArg some (by kernel_rfl))
  f320 := Tryz.func135.trans (congrArg some (by kernel_rfl))
  f337 := Tryz.func139.trans (congrArg some (by kernel_rfl))
  f338 := Tryz.func140.trans (congrArg some (by kernel_rfl))
  t0 := Tryz.underlying0
  a0 := Tryz.isAgg0
  z0 := Tryz.sizeOf0
  v0 := Tryz.zeroValue0
  t2 := Tryz.underlying2
  a2 := Tryz.isAgg2
  z2 := Tryz.sizeOf2
  v2 := Tryz.zeroValue2
  t3 := Tryz.underlying3
  a3 := Tryz.isAgg3
  z3 := Tryz.sizeOf3
  v3 := Tryz.zeroValue3
  t4 := Tryz.underlying4
  a4 := Tryz.isAgg4
  z4 := Tryz.sizeOf4
  v4 := Tryz.zeroValue4
  t5 := Tryz.underlying5
  a5 := Tryz.isAgg5
  z5 := Tryz.sizeOf5
  v5 := Tryz.zeroValue5
  t9 := Tryz.underlying9
  a9 := Tryz.isAgg9
  z9 := Tryz.sizeOf9
  v9 := Tryz.zeroValue9
  t20 := Tryz.underlying20
  a20 := Tryz.isAgg20
  z20 := Tryz.sizeOf20
  v20 := Tryz.zeroValue20
  t37 := Tryz.underlying22
  a37 := Tryz.isAgg22
  z37 := Tryz.sizeOf22
  v37 := Tryz.zeroValue22
  t46 := Tryz.underlying145
  a46 := Tryz.isAgg145
  z46 := Tryz.sizeOf145
  v46 := Tryz.zeroValue145
  t51 := Tryz.underlying170
  a51 := Tryz.isAgg170
  z51 := Tryz.sizeOf170
  v51 := Tryz.zeroValue170
  t53 := Tryz.underlying105
  a53 := Tryz.isAgg105
  z53 := Tryz.sizeOf105
  v53 := Tryz.zeroValue105
  t171 := Tryz.underlying157
  a171 := Tryz.isAgg157
  z171 := Tryz.sizeOf157
  v171 := Tryz.zeroValue157
  t173 := Tryz.underlying160
  a173 := Tryz.isAgg160
  z173 := Tryz.sizeOf160
  v173 := Tryz.zeroValue160
  t212 := Tryz.underlying169
  a212 := Tryz.isAgg169
  z212 := Tryz.sizeOf169
  v212 := Tryz.zeroValue169
  t213 := Tryz.underlying171
  a213 := Tryz.isAgg171
  z213 := Tryz.sizeOf171
  t232 := Tryz.underlying184
  a232 := Tryz.isAgg184
  z232 := Tryz.sizeOf184
  v232 := Tryz.zeroValue184
  t233 := Tryz.underlying185
  a233 := Tryz.isAgg185
  z233 := Tryz.sizeOf185
  v233 := Tryz.zeroValue185
  g17 := by kernel_rfl
  g18 := by kernel_rfl
  g19 := by kernel_rfl
  i0 := by kernel_rfl
  i2 := by kernel_rfl
  i3 := by kernel_rfl
  i4 := by kernel_rfl
  i5 := by kernel_rfl
  i9 := by kernel_rfl
  i20 := by kernel_rfl
  i37 := by kernel_rfl
  i46 := by kernel_rfl
  i51 := by kernel_rfl
  i53 := by kernel_rfl
  i171 := by kernel_rfl
  i173 := by kernel_rfl
  i212 := by kernel_rfl
  i232 := by kernel_rfl
  i233 := by kernel_rfl
  m17 := by kernel_rfl
  m18 := by kernel_rfl
  m19 := by kernel_rfl }
open Go.RowKit Go.Sort Go.Lib in
theorem Tryz.strconv_FormatInt_10 (n : Int) (h0 : -9223372036854775808 ≤ n) (h1 : n ≤ 9223372036854775807) (w : World) (htab : Lib.TabIs Tryz.prog w "internal/strconv.uint64pow10" .u64 Lib.pow10Tab) :
    Calls Tryz.prog 74 #[.int .i64 n, .int .i64 10] w fun e w' => e = .returned (.string ⟨(Lib.itoa n).toArray⟩) ∧ ∃ k os, w' = grow (w.drewN k) os := Any.strconv_FormatInt_10 Tryz.laysM173 n h0 h1 w htab
def Tryz.laysC174_ren : Go.Shelf.Ren := ⟨fun | 174 => 73 | 247 => 98 | 245 => 99 | 287 => 112 | 279 => 113 | 280 => 114 | 281 => 115 | 282 => 116 | 321 => 126 | 322 => 127 | 316 => 128 | 171 => 130 | 205 => 129 | 243 => 138 | 246 => 100 | 283 => 117 | 284 => 118 | 285 => 119 | 286 => 120 | 129 => 132 | 317 => 131 | 318 => 133 | 319 => 134 | 320 => 135 | 337 => 139 | 338 => 140 | n => n, fun | 9 => 9 | 3 => 3 | 2 => 2 | 75 => 95 | 85 => 121 | 4 => 4 | 167 => 150 | 5 => 5 | 53 => 105 | 175 => 151 | 46 => 145 | 168 => 153 | 37 => 22 | 0 => 0 | 210 => 166 | 21 => 21 | 127 => 131 | 145 => 182 | 143 => 180 | 171 => 157 | 173 => 160 | 212 => 169 | 51 => 170 | 20 => 20 | 213 => 171 | 232 => 184 | 233 => 185 | 80 => 102 | n => n, fun | 15 => 1 | 16 => 2 | 17 => 3 | 18 => 6 | 19 => 7 | n => n⟩
theorem Tryz.laysC174 : Go.Proofs.LaysC.n174 Tryz.prog Tryz.laysC174_ren := {
  mixed := by kernel_rfl
  f129 := Tryz.func132.trans (congrArg some (by kernel_rfl))
  f171 := Tryz.func130.trans (congrArg some (by kernel_rfl))
  f174 := Tryz.func73.trans (congrArg some (by kernel_rfl))
  f205 := Tryz.func129.trans (congrArg some (by kernel_rfl))
  f243 := Tryz.func138.trans (congrArg some (by kernel_rfl))
  f245 := Tryz.func99.trans (congrArg some (by kernel_rfl))
  f246 := Tryz.func100.trans (congrArg some (by kernel_rfl))
  f247 := Tryz.func98.trans (congrArg some (by kernel_rfl))
  f279 := Tryz.func113.trans (congrArg some (by kernel_rfl))
  f280 := Tryz.func114.trans (congrArg some (by kernel_rfl))
  f281 := Tryz.func115.trans (congrArg some (by kernel_rfl))
  f282 := Tryz.func116.trans (congrArg some (by kernel_rfl))
  f283 := Tryz.func117.trans (congrArg some (by kernel_rfl))
  f284 := Tryz.func118.trans (congrArg some (by kernel_rfl))
  f285 := Tryz.func119.trans (congrArg some (by kernel_rfl))
  f286 := Tryz.func120.trans (congrArg some (by kernel_rfl))
  f287 := Tryz.func112.trans (congrArg some (by kernel_rfl))
  f316 := Tryz.func128.trans (congrArg some (by kernel_rfl))
  f317 := Tryz.func131.trans (congrArg some (by kernel_rfl))
  f318 := Tryz.func133.trans (congrArg some (by kernel_rfl))
  f319 := Tryz.func134.trans (congrArg some (by kernel_rfl))
  f320 := Tryz.func135.trans (congrArg some (by kernel_rfl))
  f321 := Tryz.func126.trans (congrArg some (by kernel_rfl))
  f322 := Tryz.func127.trans (congrArg some (by kernel_rfl))
  f337 := Tryz.func139.trans (congrArg some (by kernel_rfl))
  f338 := Tryz.func140.trans (congrArg some (by kernel_rfl))
  t0 := Tryz.underlying0
  a0 := Tryz.isAgg0
  z0 := Tryz.sizeOf0
  v0 := Tryz.zeroValue0
  t2 := Tryz.underlying2
  a2 := Tryz.isAgg2
  z2 := Tryz.sizeOf2
  v2 := Tryz.zeroValue2
  t3 := Tryz.underlying3
  a3 := Tryz.isAgg3
  z3 := Tryz.sizeOf3
  v3 := Tryz.zeroValue3
  t4 := Tryz.underlying4
  a4 := Tryz.isAgg4
  z4 := Tryz.sizeOf4
  v4 := Tryz.zeroValue4
  t5 := Tryz.underlying5
  a5 := Tryz.isAgg5
  z5 := Tryz.sizeOf5
  v5 := Tryz.zeroValue5
  t9 := Tryz.underlying9
  a9 := Tryz.isAgg9
  z9 := Tryz.sizeOf9
  v9 := Tryz.zeroValue9
  t20 := Tryz.underlying20
  a20 := Tryz.isAgg20
  z20 := Tryz.sizeOf20
  v20 := Tryz.zeroValue20
  t21 := Tryz.underlying21
  a21 := Tryz.isAgg21
  z21 := Tryz.sizeOf21
  v21 := Tryz.zeroValue21
  t37 := Tryz.underlying22
  a37 := Tryz.isAgg22
  z37 := Tryz.sizeOf22
  v37 := Tryz.zeroValue22
  t46 := Tryz.underlying145
  a46 := Tryz.isAgg145
  z46 := Tryz.sizeOf145
  v46 := Tryz.zeroValue145
  t51 := Tryz.underlying170
  a51 := Tryz.isAgg170
  z51 := Tryz.sizeOf170
  v51 := Tryz.zeroValue170
  t53 := Tryz.underlying105
  a53 := Tryz.isAgg105
  z53 := Tryz.sizeOf105
  v53 := Tryz.zeroValue105
  t75 := Tryz.underlying95
  a75 := Tryz.isAgg95
  z75 := Tryz.sizeOf95
  v75 := Tryz.zeroValue95
  t85 := Tryz.underlying121
  a85 := Tryz.isAgg121
  z85 := Tryz.sizeOf121
  v85 := Tryz.zeroValue121
  t127 := Tryz.underlying131
  a127 := Tryz.isAgg131
  z127 := Tryz.sizeOf131
  v127 := Tryz.zeroValue131
  t143 := Tryz.underlying180
  a143 := Tryz.isAgg180
  z143 := Tryz.sizeOf180
  v143 := Tryz.zeroValue180
  t145 := Tryz.underlying182
  a145 := Tryz.isAgg182
  z145 := Tryz.sizeOf182
  v145 := Tryz.zeroValue182
  t167 := Tryz.underlying150
  a167 := Tryz.isAgg150
  z167 := Tryz.sizeOf150
  v167 := Tryz.zeroValue150
  t168 := Tryz.underlying153
  a168 := Tryz.isAgg153
  z168 := Tryz.sizeOf153
  v168 := Tryz.zeroValue153
  t171 := Tryz.underlying157
  a171 := Tryz.isAgg157
  z171 := Tryz.sizeOf157
  v171 := Tryz.zeroValue157
  t173 := Tryz.underlying160
  a173 := Tryz.isAgg160
  z173 := Tryz.sizeOf160
  v173 := Tryz.zeroValue160
  t175 := Tryz.underlying151
  a175 := Tryz.isAgg151
  z175 := Tryz.sizeOf151
  v175 := Tryz.zeroValue151
  t210 := Tryz.underlying166
  a210 := Tryz.isAgg166
  z210 := Tryz.sizeOf166
  v210 := Tryz.zeroValue166
  t212 := Tryz.underlying169
  a212 := Tryz.isAgg169
  z212 := Tryz.sizeOf169
  v212 := Tryz.zeroValue169
  t213 := Tryz.underlying171
  a213 := Tryz.isAgg171
  z213 := Tryz.sizeOf171
  t232 := Tryz.underlying184
  a232 := Tryz.isAgg184
  z232 := Tryz.sizeOf184
  v232 := Tryz.zeroValue184
  t233 := Tryz.underlying185
  a233 := Tryz.isAgg185
  z233 := Tryz.sizeOf185
  v233 := Tryz.zeroValue185
  g15 := by kernel_rfl
  g16 := by kernel_rfl
  g17 := by kernel_rfl
  g18 := by kernel_rfl
  g19 := by kernel_rfl
  t80 := Tryz.underlying102
  a80 := Tryz.isAgg102
  z80 := Tryz.sizeOf102
  v80 := Tryz.zeroValue102
  i0 := by kernel_rfl
  i2 := by kernel_rfl
  i3 := by kernel_rfl
  i4 := by kernel_rfl
  i5 := by kernel_rfl
  i9 := by kernel_rfl
  i20 := by kernel_rfl
  i21 := by kernel_rfl
  i37 := by kernel_rfl
  i46 := by kernel_rfl
  i51 := by kernel_rfl
  i53 := by kernel_rfl
  i75 := by kernel_rfl
  i80 := by kernel_rfl
  i85 := by kernel_rfl
  i127 := by kernel_rfl
  i143 := by kernel_rfl
  i145 := by kernel_rfl
  i167 := by kernel_rfl
  i168 := by kernel_rfl
  i171 := by kernel_rfl
  i173 := by kernel_rfl
  i175 := by kernel_rfl
  i210 := by kernel_rfl
  i212 := by kernel_rfl
  i232 := by kernel_rfl
  i233 := by kernel_rfl
  m15 := by kernel_rfl
  m16 := by kernel_rfl
  m17 := by kernel_rfl
  m18 := by kernel_rfl
  m19 := by kernel_rfl
  c0 := by kernel_rfl
  c2 := by kernel_rfl
  c3 := by kernel_rfl
  c4 := by kernel_rfl
  c5 := by kernel_rfl
  c9 := by kernel_rfl
  c20 := by kernel_rfl
  c21 := by kernel_rfl
  c37 := by kernel_rfl
  c46 := by kernel_rfl
  c51 := by kernel_rfl
  c53 := by kernel_rfl
  c75 := by kernel_rfl
  c80 := by kernel_rfl
  c85 := by kernel_rfl
  c127 := by kernel_rfl
  c143 := by kernel_rfl
  c145 := by kernel_rfl
  c167 := by kernel_rfl
  c168 := by kernel_rfl
  c171 := by kernel_rfl
  c173 := by kernel_rfl
  c175 := by kernel_rfl
  c210 := by kernel_rfl
  c212 := by kernel_rfl
  c213 := by kernel_rfl
  c232 := by kernel_rfl
  c233 := by kernel_rfl }
open Go.RowKit in
theorem Tryz.strconv_ParseInt_10_at64_ok (s : ByteArray) (hmax : s.size ≤ 9223372036854775806) (v : Int) (h : Lib.parseIntB 64 s.data.toList = .ok v) (w : World) :
    Calls Tryz.prog 73 #[.string s, .int .i64 10, .int .i64 64] w fun e w' => e = .returned (.tuple #[.int .i64 v, .nilIface]) ∧ (w' = w ∨ ∃ t, w' = Lib.bytesWorld w 5 t) := Any.strconv_ParseInt_10_at64_ok Tryz.laysC174 s hmax v h w
open Go.RowKit in
theorem Tryz.strconv_ParseInt_10_at64_bad (s : ByteArray) (hlim : s.size ≤ 281474976710656) (x : Lib.NumEnd Int) (hx1 : ∀ v, x ≠ .ok v) (hx2 : x ≠ .range) (h : Lib.parseIntB 64 s.data.toList = x) (ev : Value) (w : World) (hv : w.cell? ⟨1, 0, none⟩ = some ev) (hev : ev = .nilIface ∨ ∃ te pe, ev = .iface te pe) :
    Calls Tryz.prog 73 #[.string s, .int .i64 10, .int .i64 64] w fun e w' => ∃ N, e = .returned (.tuple #[.int .i64 (0), .iface 153 (.pointer (some ⟨N, 0, none⟩))]) ∧ w.heap.size ≤ N ∧ w'.heap[N]? = some (.cells #[.string ⟨#[80, 97, 114, 115, 101, 73, 110, 116]⟩, .string s, ev] 166 (0, 0)) ∧ Below w.heap.size w w' := by
  cases x with
  | ok v => exact absurd rfl (hx1 v)
  | range => exact absurd rfl hx2
  | _ => exact Any.strconv_ParseInt_10_at64_syntax Tryz.laysC174 s hlim h ev w hv hev
open Go.RowKit in
theorem Tryz.strconv_ParseInt_10_at64_range (s : ByteArray) (hlim : s.size ≤ 281474976710656) (h : Lib.parseIntB 64 s.data.toList = .range) (ev : Value) (w : World) (hv : w.cell? ⟨2, 0, none⟩ = some ev) (hev : ev = .nilIface ∨ ∃ te pe, ev = .iface te pe) :
    Calls Tryz.prog 73 #[.string s, .int .i64 10, .int .i64 64] w fun e w' => ∃ N, e = .returned (.tuple #[.int .i64 (Lib.intSat 64 s.data.toList), .iface 153 (.pointer (some ⟨N, 0, none⟩))]) ∧ w.heap.size ≤ N ∧ w'.heap[N]? = some (.cells #[.string ⟨#[80, 97, 114, 115, 101, 73, 110, 116]⟩, .string s, ev] 166 (0, 0)) ∧ Below w.heap.size w w' := Any.strconv_ParseInt_10_at64_range Tryz.laysC174 s hlim h ev w hv hev
open Go.RowKit in
def Tryz.lays100_ren : Go.Shelf.Ren := ⟨fun | 100 => 83 | 207 => 104 | n => n, fun | 9 => 9 | 4 => 4 | 3 => 3 | n => n, fun | n => n⟩
theorem Tryz.lays100 : Go.Proofs.Lays.n100 Tryz.prog Tryz.lays100_ren := {
  mixed := by kernel_rfl
  f100 := Tryz.func83.trans (congrArg some (by kernel_rfl))
  f207 := Tryz.func104.trans (congrArg some (by kernel_rfl))
  t3 := Tryz.underlying3
  a3 := Tryz.isAgg3
  z3 := Tryz.sizeOf3
  v3 := Tryz.zeroValue3
  t4 := Tryz.underlying4
  a4 := Tryz.isAgg4
  z4 := Tryz.sizeOf4
  v4 := Tryz.zeroValue4
  t9 := Tryz.underlying9
  a9 := Tryz.isAgg9
  z9 := Tryz.sizeOf9
  v9 := Tryz.zeroValue9 }
open Go.RowKit Go.Lib in
theorem Tryz.strings_HasSuffix (s p : ByteArray) (w : World) (hs : s.size ≤ 9223372036854775807) :
    Calls Tryz.prog 83 #[.string s, .string p] w fun e w' => e = .returned (.bool (Lib.hasSuffix s.data.toList p.data.toList)) ∧ w' = w := Any.strings_HasSuffix Tryz.lays100 s p w hs
def Tryz.lays101_ren : Go.Shelf.Ren := ⟨fun | 101 => 72 | 208 => 97 | 206 => 111 | n => n, fun | 9 => 9 | 4 => 4 | 3 => 3 | n => n, fun | n => n⟩
theorem Tryz.lays101 : Go.Proofs.Lays.n101 Tryz.prog Tryz.lays101_ren := {
  mixed := by kernel_rfl
  f101 := Tryz.func72.trans (congrArg some (by kernel_rfl))
  f206 := Tryz.func111.trans (congrArg some (by kernel_rfl))
  f208 := Tryz.func97.trans (congrArg some (by kernel_rfl))
  t3 := Tryz.underlying3
  a3 := Tryz.isAgg3
  z3 := Tryz.sizeOf3
  v3 := Tryz.zeroValue3
  t4 := Tryz.underlying4
  a4 := Tryz.isAgg4
  z4 := Tryz.sizeOf4
  v4 := Tryz.zeroValue4
  t9 := Tryz.underlying9
  a9 := Tryz.isAgg9
  z9 := Tryz.sizeOf9
  v9 := Tryz.zeroValue9 }
open Go.RowKit Go.Lib in
theorem Tryz.strings_TrimPrefix (s p : ByteArray) (w : World) :
    Calls Tryz.prog 72 #[.string s, .string p] w fun e w' => e = .returned (.string ⟨(Lib.trimPrefix s.data.toList p.data.toList).toArray⟩) ∧ w' = w := Any.strings_TrimPrefix Tryz.lays101 s p w
def Tryz.lays102_ren : Go.Shelf.Ren := ⟨fun | 102 => 84 | 209 => 105 | 207 => 104 | n => n, fun | 9 => 9 | 4 => 4 | 3 => 3 | n => n, fun | n => n⟩
theorem Tryz.lays102 : Go.Proofs.Lays.n102 Tryz.prog Tryz.lays102_ren := {
  mixed := by kernel_rfl
  f102 := Tryz.func84.trans (congrArg some (by kernel_rfl))
  f207 := Tryz.func104.trans (congrArg some (by kernel_rfl))
  f209 := Tryz.func105.trans (congrArg some (by kernel_rfl))
  t3 := Tryz.underlying3
  a3 := Tryz.isAgg3
  z3 := Tryz.sizeOf3
  v3 := Tryz.zeroValue3
  t4 := Tryz.underlying4
  a4 := Tryz.isAgg4
  z4 := Tryz.sizeOf4
  v4 := Tryz.zeroValue4
  t9 := Tryz.underlying9
  a9 := Tryz.isAgg9
  z9 := Tryz.sizeOf9
  v9 := Tryz.zeroValue9 }
open Go.RowKit Go.Lib in
theorem Tryz.strings_TrimSuffix (s p : ByteArray) (w : World) (hs : s.size ≤ 9223372036854775807) :
    Calls Tryz.prog 84 #[.string s, .string p] w fun e w' => e = .returned (.string ⟨(Lib.trimSuffix s.data.toList p.data.toList).toArray⟩) ∧ w' = w := Any.strings_TrimSuffix Tryz.lays102 s p w hs
open Go.RowKit Go.Lib in
def Tryz.lays146_ren : Go.Shelf.Ren := ⟨fun | 146 => 37 | 221 => 71 | 268 => 94 | 138 => 95 | 143 => 96 | 195 => 107 | 197 => 108 | 218 => 109 | 219 => 110 | 260 => 121 | 217 => 122 | 225 => 123 | 224 => 124 | 267 => 125 | 266 => 136 | 314 => 137 | n => n, fun | 9 => 9 | 31 => 72 | 3 => 3 | 4 => 4 | 0 => 0 | 105 => 147 | 21 => 21 | 5 => 5 | 46 => 145 | 119 => 174 | 139 => 177 | 138 => 176 | 146 => 178 | 51 => 170 | n => n, fun | 1 => 0 | 3 => 4 | 4 => 5 | n => n⟩
theorem Tryz.lays146 : Go.Proofs.Lays.n146 Tryz.prog Tryz.lays146_ren := {
  mixed := by kernel_rfl
  f138 := Tryz.func95.trans (congrArg some (by kernel_rfl))
  f143 := Tryz.func96.trans (congrArg some (by kernel_rfl))
  f146 := Tryz.func37.trans (congrArg some (by kernel_rfl))
  f195 := Tryz.func107.trans (congrArg some (by kernel_rfl))
  f197 := Tryz.func108.trans (congrArg some (by kernel_rfl))
  f217 := Tryz.func122.trans (congrArg some (by kernel_rfl))
  f218 := Tryz.func109.trans (congrArg some (by kernel_rfl))
  f219 := Tryz.func110.trans (congrArg some (by kernel_rfl))
  f221 := Tryz.func71.trans (congrArg some (by kernel_rfl))
  f224 := Tryz.func124.trans (congrArg some (by kernel_rfl))
  f225 := Tryz.func123.trans (congrArg some (by kernel_rfl))
  f260 := Tryz.func121.trans (congrArg some (by kernel_rfl))
  f266 := Tryz.func136.trans (congrArg some (by kernel_rfl))
  f267 := Tryz.func125.trans (congrArg some (by kernel_rfl))
  f268 := Tryz.func94.trans (congrArg some (by kernel_rfl))
  f314 := Tryz.func137.trans (congrArg some (by kernel_rfl))
  t0 := Tryz.underlying0
  a0 := Tryz.isAgg0
  z0 := Tryz.sizeOf0
  v0 := Tryz.zeroValue0
  t3 := Tryz.underlying3
  a3 := Tryz.isAgg3
  z3 := Tryz.sizeOf3
  v3 := Tryz.zeroValue3
  t4 := Tryz.underlying4
  a4 := Tryz.isAgg4
  z4 := Tryz.sizeOf4
  v4 := Tryz.zeroValue4
  t5 := Tryz.underlying5
  a5 := Tryz.isAgg5
  z5 := Tryz.sizeOf5
  v5 := Tryz.zeroValue5
  t9 := Tryz.underlying9
  a9 := Tryz.isAgg9
  z9 := Tryz.sizeOf9
  v9 := Tryz.zeroValue9
  t21 := Tryz.underlying21
  a21 := Tryz.isAgg21
  z21 := Tryz.sizeOf21
  v21 := Tryz.zeroValue21
  t31 := Tryz.underlying72
  a31 := Tryz.isAgg72
  z31 := Tryz.sizeOf72
  v31 := Tryz.zeroValue72
  t46 := Tryz.underlying145
  a46 := Tryz.isAgg145
  z46 := Tryz.sizeOf145
  v46 := Tryz.zeroValue145
  t51 := Tryz.underlying170
  a51 := Tryz.isAgg170
  z51 := Tryz.sizeOf170
  v51 := Tryz.zeroValue170
  t105 := Tryz.underlying147
  a105 := Tryz.isAgg147
  z105 := Tryz.sizeOf147
  v105 := Tryz.zeroValue147
  t119 := Tryz.underlying174
  a119 := Tryz.isAgg174
  z119 := Tryz.sizeOf174
  t138 := Tryz.underlying176
  a138 := Tryz.isAgg176
  z138 := Tryz.sizeOf176
  v138 := Tryz.zeroValue176
  t139 := Tryz.underlying177
  a139 := Tryz.isAgg177
  z139 := Tryz.sizeOf177
  v139 := Tryz.zeroValue177
  t146 := Tryz.underlying178
  a146 := Tryz.isAgg178
  z146 := Tryz.sizeOf178
  v146 := Tryz.zeroValue178
  g1 := by kernel_rfl
  g3 := by kernel_rfl
  g4 := by kernel_rfl }
open Go.RowKit Go.Lib in
theorem Tryz.strings_Split (s sep : ByteArray) (m : Int) (w : World) (hs : s.size < 4294967281) (hm : w.cell? ⟨0, 0, none⟩ = some (.int .i64 m)) (h1 : 1 ≤ sep.size) :
    Calls Tryz.prog 37 #[.string s, .string sep] w fun e w' =>
      e = .returned (.slice (some ⟨w.heap.size, 0, none⟩) (Lib.countB s sep + 1) (Lib.countB s sep + 1)) ∧ w' = w.alloc (.cells ((Lib.splitB sep 0 (Lib.countB s sep) s).map Value.string).toArray 9) := Any.strings_Split Tryz.lays146 (by kernel_rfl) s sep m w hs hm h1
end Go.Proofs

namespace Go.Proofs.YtpohhnihgegmfaaGreatDoor
open Go.RowKit
set_option linter.unusedVariables false
set_option linter.unusedSimpArgs false

/-- the library's table of powers reads as it was laid, whatever is made new -/
def Tab (w : World) : Prop := Lib.TabBelow Tryz.prog w.heap.size w "internal/strconv.uint64pow10" .u64 Lib.pow10Tab
theorem Tab.ext {w w' : World} (h : Tab w) (x : Ext w w') : Tab w' := fun w'' x' => h w'' (Ext.trans x x')
theorem decimal_c (n : Int) (w : World) (h0 : -9223372036854775808 ≤ n) (h1 : n ≤ 9223372036854775807) (ht : Tab w) :
    Calls Tryz.prog 40 #[.int .i64 n] w fun e w' => e = .returned (tx (Lib.itoa n)) ∧ Ext w w' := by
  go_enter Tryz.func40, Tryz.ntmps40
  go_wp2_with fail
  refine (Tryz.strconv_FormatInt_10 n h0 h1 w (ht w (Ext.refl w))).mono ?_
  rintro e w' ⟨rfl, k, os, rfl⟩
  go_wp2_with fail
  go_ret
  exact ⟨rfl, Lib.below_grow _ w (Nat.le_refl _) k os⟩
end Go.Proofs.YtpohhnihgegmfaaGreatDoor

namespace Go.Proofs.YtpohhnihgegmfaaGreatDoor
open Go.RowKit
set_option linter.unusedVariables false
set_option linter.unusedSimpArgs false

theorem itoa_len (n : Int) (h0 : -9223372036854775808 ≤ n) (h1 : n ≤ 9223372036854775807) : (Lib.itoa n).length ≤ 20 := by
  by_cases h : n = 0
  · rw [h, itoa_zero]; decide
  · by_cases hn : n < 0
    · obtain ⟨u, hu⟩ : ∃ u : Nat, n = -(u : Int) := ⟨n.natAbs, by omega⟩
      rw [hu, itoa_neg (by omega)]
      have := digs_len 19 u (by omega)
      simp; omega
    · obtain ⟨u, hu⟩ : ∃ u : Nat, n = (u : Int) := ⟨n.natAbs, by omega⟩
      rw [hu, itoa_pos (by omega)]
      have := digs_len 19 u (by omega)
      omega
/-- numbers with a blank between -/
def txt (f : Nat → Int) : Nat → List UInt8
  | 0 => []
  | j + 1 => (if j = 0 then [] else txt f j ++ [32]) ++ Lib.itoa (f j)
theorem txt_len {f : Nat → Int} {n : Nat} (h : ∀ j, j < n → -9223372036854775808 ≤ f j ∧ f j ≤ 9223372036854775807) : (txt f n).length ≤ 21 * n := by
  induction n with
  | zero => simp [txt]
  | succ n ih =>
    have h1 := ih (fun j hj => h j (by omega))
    have h2 := itoa_len (f n) (h n (by omega)).1 (h n (by omega)).2
    rw [txt]
    split
    · simp; omega
    · simp; omega
theorem txt_app (f : Nat → Int) {j : Nat} (h : 0 < j) : txt f (j + 1) = txt f j ++ [32] ++ Lib.itoa (f j) := by rw [txt, if_neg (by omega)]
theorem txt_one (f : Nat → Int) : txt f 1 = Lib.itoa (f 0) := by rw [txt, if_pos rfl]; rfl
theorem s1_four {w : World} {g : Nat} {T : TypeId} {a b c d : Int} (h : Blk w g T #[.int .i64 a, .int .i64 b, .int .i64 c, .int .i64 d]) (z : Nat → Int) (z0 : z 0 = a) (z1 : z 1 = b) (z2 : z 2 = c) (z3 : z 3 = d) : S1 w (some ⟨g, 0, none⟩) 4 z := fun _ =>
  ⟨g, 0, rfl, h.lt, fun j hj => by
    rw [Nat.zero_add, h.cell]
    (obtain rfl | rfl | rfl | rfl : j = 0 ∨ j = 1 ∨ j = 2 ∨ j = 3 := by omega) <;> simp [z0, z1, z2, z3]⟩
theorem two_new' (w : World) (T U : TypeId) (c1 c2 : Array Value) : Blk ((w.alloc (.cells c1 T)).alloc (.cells c2 U)) (w.heap.size + 1) U c2 := by
  have := Blk.new (w.alloc (.cells c1 T)) c2 U
  rwa [World.size_alloc] at this
/-- a fault's text -/
def ft (a b c d : Int) : List UInt8 := Lib.itoa a ++ [32] ++ Lib.itoa b ++ [32] ++ Lib.itoa c ++ [32] ++ Lib.itoa d
structure B64 (n : Int) : Prop where
  lo : -9223372036854775808 ≤ n
  hi : n ≤ 9223372036854775807
end Go.Proofs.YtpohhnihgegmfaaGreatDoor

namespace Go.Proofs.YtpohhnihgegmfaaGreatDoor
open Go.RowKit
set_option linter.unusedVariables false
set_option linter.unusedSimpArgs false

def yn (b : Bool) : List UInt8 := if b then [121, 101, 115] else [110, 111]
def hdL (s : ByteArray) (wk : Int) : List UInt8 := [99, 97, 108, 101, 110, 100, 97, 114, 32] ++ s.data.toList ++ [32] ++ Lib.itoa wk ++ [10]
def moL (nm : Nat → ByteArray) (c : CalN) (j : Nat) : List UInt8 := [109, 111, 110, 116, 104, 32] ++ (nm j).data.toList ++ [32] ++ Lib.itoa (c.dy j) ++ [32] ++ Lib.itoa (c.lp j) ++ [10]
def ruL (c : CalN) (j : Nat) : List UInt8 := [108, 101, 97, 112, 32] ++ Lib.itoa (c.ev j) ++ [32] ++ Lib.itoa (c.rs j) ++ [32] ++ yn (c.lf j) ++ [10]
/-- the lines up to month k -/
def ttM (s : ByteArray) (nm : Nat → ByteArray) (c : CalN) (wk : Int) : Nat → List UInt8
  | 0 => hdL s wk
  | k + 1 => ttM s nm c wk k ++ moL nm c k
/-- the lines up to rule k -/
def ttR (s : ByteArray) (nm : Nat → ByteArray) (c : CalN) (wk : Int) : Nat → List UInt8
  | 0 => ttM s nm c wk c.n
  | k + 1 => ttR s nm c wk k ++ ruL c k
def calL (s : ByteArray) (nm : Nat → ByteArray) (c : CalN) (wk : Int) : List UInt8 := ttR s nm c wk c.nr
/-- a calendar's text -/
def calTx (s : ByteArray) (nm : Nat → ByteArray) (c : CalN) (wk : Int) : List UInt8 := if calB s nm c wk then calL s nm c wk else []
/-- what its text leans on -/
structure TxB (s : ByteArray) (nm : Nat → ByteArray) (c : CalN) (wk : Int) : Prop where
  sz : s.size ≤ 12
  nz : ∀ j, j < c.n → (nm j).size ≤ 12
  wk : B64 wk
  dy : ∀ j, j < c.n → B64 (c.dy j)
  lp : ∀ j, j < c.n → B64 (c.lp j)
  ev : ∀ j, j < c.nr → B64 (c.ev j)
  rs : ∀ j, j < c.nr → B64 (c.rs j)
  n20 : c.n ≤ 20
  nr6 : c.nr ≤ 6
theorem isNm_le {s : ByteArray} (h : isNm s = true) : s.size ≤ 12 := by
  simp only [isNm, Bool.and_eq_true, decide_eq_true_eq] at h; exact h.1.2
theorem txB_of {s : ByteArray} {nm : Nat → ByteArray} {c : CalN} {wk : Int} (h : calB s nm c wk = true) : TxB s nm c wk := by
  have b := calB_b h
  simp only [calB, monB, rulB, Bool.and_eq_true, decide_eq_true_eq, inB_t] at h
  obtain ⟨_, h4, ⟨h5, _⟩, h7⟩ := h
  refine ⟨isNm_le h4, fun j hj => ?_, ⟨by omega, by omega⟩, fun j hj => ?_, fun j hj => ?_, fun j hj => ?_, fun j hj => ?_, b.n20, b.nr6⟩
  · have := monTo_at h5 hj
    simp only [monA, Bool.and_eq_true] at this
    exact isNm_le this.1
  · have := b.dy j hj; exact ⟨by omega, by omega⟩
  · have := b.lp j hj; exact ⟨by omega, by omega⟩
  · have := b.ev j hj; exact ⟨by omega, by omega⟩
  · have := b.rs j hj; have := b.ev j hj; exact ⟨by omega, by omega⟩
section
variable {s : ByteArray} {nm : Nat → ByteArray} {c : CalN} {wk : Int}
theorem ba_len (s : ByteArray) : s.data.toList.length = s.size := Array.length_toList
theorem hdL_len (h : TxB s nm c wk) : (hdL s wk).length ≤ 60 := by
  have h1 := itoa_len wk h.wk.lo h.wk.hi
  have h2 := h.sz
  have h3 := ba_len s
  simp only [hdL, List.length_append, List.length_cons, List.length_nil]; omega
theorem moL_len (h : TxB s nm c wk) {j : Nat} (hj : j < c.n) : (moL nm c j).length ≤ 80 := by
  have h1 := itoa_len _ (h.dy j hj).lo (h.dy j hj).hi
  have h4 := itoa_len _ (h.lp j hj).lo (h.lp j hj).hi
  have h2 := h.nz j hj
  have h3 := ba_len (nm j)
  simp only [moL, List.length_append, List.length_cons, List.length_nil]; omega
theorem yn_len (b : Bool) : (yn b).length ≤ 3 := by cases b <;> decide
theorem ruL_len (h : TxB s nm c wk) {j : Nat} (hj : j < c.nr) : (ruL c j).length ≤ 80 := by
  have h1 := itoa_len _ (h.ev j hj).lo (h.ev j hj).hi
  have h4 := itoa_len _ (h.rs j hj).lo (h.rs j hj).hi
  have h5 := yn_len (c.lf j)
  simp only [ruL, List.length_append, List.length_cons, List.length_nil]; omega
theorem ttM_len (h : TxB s nm c wk) : ∀ {j : Nat}, j ≤ c.n → (ttM s nm c wk j).length ≤ 60 + 80 * j
  | 0, _ => hdL_len h
  | j + 1, hj => by
    have h1 := ttM_len h (j := j) (by omega)
    have h2 := moL_len h (j := j) (by omega)
    rw [ttM, List.length_append]; omega
theorem ttR_len (h : TxB s nm c wk) : ∀ {j : Nat}, j ≤ c.nr → (ttR s nm c wk j).length ≤ 1660 + 80 * j
  | 0, _ => by have := ttM_len h (j := c.n) (Nat.le_refl _); have := h.n20; rw [ttR]; omega
  | j + 1, hj => by
    have h1 := ttR_len h (j := j) (by omega)
    have h2 := ruL_len h (j := j) (by omega)
    rw [ttR, List.length_append]; omega
end
theorem tx_eq {a : ByteArray} {l : List UInt8} (h : a.data.toList = l) : Value.string a = .string ⟨l.toArray⟩ := by
  congr 1; apply ByteArray.ext; rw [← h]
end Go.Proofs.YtpohhnihgegmfaaGreatDoor

namespace Go.Proofs.YtpohhnihgegmfaaGreatDoor
set_option linter.unusedVariables false
set_option linter.unusedSimpArgs false
open Lib
/-- a calendar's contents -/
structure Cl where
  nm : ByteArray
  wk : Int
  M : List Mo
  R : List Ru
def Cl.z : Cl := ⟨⟨#[]⟩, 0, [], []⟩
def Cl.ok (C : Cl) : Bool := calB C.nm (nmOf C.M) (calOf C.M C.R) C.wk
def calK : List UInt8 := [99, 97, 108, 101, 110, 100, 97, 114]
def monK : List UInt8 := [109, 111, 110, 116, 104]
def leaK : List UInt8 := [108, 101, 97, 112]
def lnH (nm : ByteArray) (wk : Int) : List (List UInt8) := [calK, nm.data.toList, itoa wk]
def lnM (q : Mo) : List (List UInt8) := [monK, q.1.data.toList, itoa q.2.1, itoa q.2.2]
def lnR (q : Ru) : List (List UInt8) := [leaK, itoa q.1, itoa q.2.1, yn q.2.2]
def Cl.ws (C : Cl) : List (List (List UInt8)) := lnH C.nm C.wk :: (C.M.map lnM ++ C.R.map lnR)
/-- lines of words, as a text -/
def ltx (L : List (List (List UInt8))) : List UInt8 := L.flatMap fun ws => joinL 32 ws ++ [10]
theorem tx_app (a b : List (List (List UInt8))) : ltx (a ++ b) = ltx a ++ ltx b := by simp [ltx]
theorem tx_one (a : List (List UInt8)) : ltx [a] = joinL 32 a ++ [10] := by simp [ltx]
theorem ttM_tx (nm : ByteArray) (M : List Mo) (R : List Ru) (wk : Int) : ∀ k, k ≤ M.length → ttM nm (nmOf M) (calOf M R) wk k = ltx (lnH nm wk :: (M.take k).map lnM)
  | 0, _ => by simp [ttM, hdL, ltx, lnH, joinL, calK]
  | k + 1, h => by
    have hk : M[k]? = some M[k] := List.getElem?_eq_getElem (by omega)
    rw [ttM, ttM_tx nm M R wk k (by omega), List.take_add_one, hk, List.map_append, ← List.cons_append, tx_app]
    congr 1
    simp [moL, nmOf, calOf, List.getD_eq_getElem?_getD, hk, ltx, lnM, joinL, monK]
theorem ttR_tx (nm : ByteArray) (M : List Mo) (R : List Ru) (wk : Int) : ∀ k, k ≤ R.length → ttR nm (nmOf M) (calOf M R) wk k = ltx (lnH nm wk :: (M.map lnM ++ (R.take k).map lnR))
  | 0, _ => by
    rw [ttR, show (calOf M R).n = M.length from rfl, ttM_tx nm M R wk _ (Nat.le_refl _)]; simp
  | k + 1, h => by
    have hk : R[k]? = some R[k] := List.getElem?_eq_getElem (by omega)
    have e : lnH nm wk :: (M.map lnM ++ ((R.take k).map lnR ++ ((some R[k]).toList).map lnR)) = (lnH nm wk :: (M.map lnM ++ (R.take k).map lnR)) ++ ((some R[k]).toList).map lnR := by simp
    rw [ttR, ttR_tx nm M R wk k (by omega), List.take_add_one, hk, List.map_append, e, tx_app]
    congr 1
    simp [ruL, calOf, List.getD_eq_getElem?_getD, hk, ltx, lnR, joinL, leaK]
theorem calL_tx (C : Cl) : calL C.nm (nmOf C.M) (calOf C.M C.R) C.wk = ltx C.ws := by
  rw [calL, show (calOf C.M C.R).nr = C.R.length from rfl, ttR_tx C.nm C.M C.R C.wk _ (Nat.le_refl _), List.take_length]; rfl
/-- words that hold neither a line's end nor a space -/
def Wd (x : List UInt8) : Prop := 10 ∉ x ∧ 32 ∉ x
def Gd (L : List (List (List UInt8))) : Prop := ∀ ws ∈ L, ws ≠ [] ∧ ∀ x ∈ ws, Wd x
theorem join_no (c : UInt8) : ∀ (ws : List (List UInt8)), c ≠ 32 → (∀ x ∈ ws, c ∉ x) → c ∉ joinL 32 ws
  | [], _, _ => by simp [joinL]
  | [x], _, h => by simpa [joinL] using h
  | x :: y :: ys, hc, h => by
    have ih := join_no c (y :: ys) hc (fun z hz => h z (List.mem_cons_of_mem _ hz))
    simp only [joinL, List.mem_append, List.mem_cons, not_or]
    exact ⟨h x (by simp), hc, ih⟩
theorem split_join : ∀ (ws : List (List UInt8)), ws ≠ [] → (∀ x ∈ ws, (32 : UInt8) ∉ x) → splitL 32 (joinL 32 ws) = ws
  | [], h, _ => absurd rfl h
  | [x], _, h => splitL_one 32 x (h x (by simp))
  | x :: y :: ys, _, h => by
    rw [joinL, splitL_app _ _ _ (h x (by simp)), split_join (y :: ys) (by simp) (fun z hz => h z (List.mem_cons_of_mem _ hz))]
theorem split_tx : ∀ (L : List (List (List UInt8))), Gd L → splitL 10 (ltx L) = L.map (joinL 32) ++ [[]]
  | [], _ => by simp [ltx, splitL]
  | ws :: r, h => by
    have h1 := h ws (by simp)
    have h2 : (10 : UInt8) ∉ joinL 32 ws := join_no 10 ws (by decide) (fun x hx => (h1.2 x hx).1)
    have e : ltx (ws :: r) = joinL 32 ws ++ 10 :: ltx r := by simp [ltx]
    rw [e, splitL_app _ _ _ h2, split_tx r (fun z hz => h z (List.mem_cons_of_mem _ hz))]; rfl
/-- a text's lines but the last, in words -/
def lws (L : List (List UInt8)) : List (List (List UInt8)) := L.map (splitL 32)
theorem lws_tx {L : List (List (List UInt8))} (h : Gd L) : lws (L.map (joinL 32)) = L := by
  rw [lws, List.map_map]
  conv => rhs; rw [← List.map_id L]
  exact List.map_congr_left fun ws hw => split_join ws (h ws hw).1 (fun x hx => ((h ws hw).2 x hx).2)
theorem lws_join (L : List (List UInt8)) : (lws L).map (joinL 32) = L := by
  rw [lws, List.map_map]
  conv => rhs; rw [← List.map_id L]
  exact List.map_congr_left fun x _ => join_split 32 x
theorem dec_wd (u : Nat) : Wd (decDigits u) := ⟨dec_no 10 (by decide) u, dec_no 32 (by decide) u⟩
theorem itoa_wd (n : Int) : Wd (itoa n) := by
  have h := dec_wd n.natAbs
  rcases itoa_cases n with ⟨_, e⟩ | ⟨_, e⟩ <;> rw [e]
  · exact ⟨fun k => by rcases List.mem_cons.1 k with k | k; exact absurd k (by decide); exact h.1 k, fun k => by rcases List.mem_cons.1 k with k | k; exact absurd k (by decide); exact h.2 k⟩
  · exact h
theorem yn_wd (b : Bool) : Wd (yn b) := by cases b <;> exact ⟨by decide, by decide⟩
theorem nmTo_at {s : ByteArray} {n k : Nat} (h : nmTo s n = true) (hk : k < n) : chN k (btN s k) = true := by
  cases e : chN k (btN s k)
  · rw [nmTo_ff hk e] at h; cases h
  · rfl
theorem isNm_wd {s : ByteArray} (h : isNm s = true) : Wd s.data.toList := by
  simp only [isNm, Bool.and_eq_true] at h
  have key : ∀ c : UInt8, c ∈ s.data.toList → chN 0 c.toNat = true ∨ chN 1 c.toNat = true := fun c hc => by
    obtain ⟨k, hk, e⟩ := List.getElem_of_mem hc
    have hk' : k < s.size := by rwa [ba_len] at hk
    have h1 := nmTo_at h.2 hk'
    have e2 : btN s k = c.toNat := by unfold btN; rw [List.getD_eq_getElem?_getD, List.getElem?_eq_getElem hk, e]; rfl
    rw [e2] at h1
    simp only [chN, decide_eq_true_eq] at h1 ⊢
    omega
  exact ⟨fun k => by have := key 10 k; revert this; decide, fun k => by have := key 32 k; revert this; decide⟩
theorem Cl.gd {C : Cl} (h : C.ok = true) : Gd C.ws := by
  have h0 := h
  simp only [Cl.ok, calB, monB, Bool.and_eq_true] at h
  obtain ⟨_, h4, ⟨h5, _⟩, _⟩ := h
  intro ws hw
  rcases List.mem_cons.1 hw with rfl | hw
  · refine ⟨by simp [lnH], fun x hx => ?_⟩
    simp only [lnH, List.mem_cons, List.mem_nil_iff, or_false] at hx
    rcases hx with rfl | rfl | rfl
    · exact ⟨by decide, by decide⟩
    · exact isNm_wd h4
    · exact itoa_wd _
  · rcases List.mem_append.1 hw with hw | hw
    · obtain ⟨q, hq, rfl⟩ := List.mem_map.1 hw
      refine ⟨by simp [lnM], fun x hx => ?_⟩
      simp only [lnM, List.mem_cons, List.mem_nil_iff, or_false] at hx
      rcases hx with rfl | rfl | rfl | rfl
      · exact ⟨by decide, by decide⟩
      · obtain ⟨k, hk, e⟩ := List.getElem_of_mem hq
        have h6 := monTo_at h5 (show k < (calOf C.M C.R).n from hk)
        simp only [monA, Bool.and_eq_true] at h6
        have e2 : nmOf C.M k = q.1 := by simp [nmOf, List.getD_eq_getElem?_getD, List.getElem?_eq_getElem hk, e]
        rw [e2] at h6
        exact isNm_wd h6.1
      · exact itoa_wd _
      · exact itoa_wd _
    · obtain ⟨q, hq, rfl⟩ := List.mem_map.1 hw
      refine ⟨by simp [lnR], fun x hx => ?_⟩
      simp only [lnR, List.mem_cons, List.mem_nil_iff, or_false] at hx
      rcases hx with rfl | rfl | rfl | rfl
      · exact ⟨by decide, by decide⟩
      · exact itoa_wd _
      · exact itoa_wd _
      · exact yn_wd _
/-- the number that a numeral's reading gives, and whether it is one -/
noncomputable def nv (p : List UInt8) : Int := (RdR.ex p).choose
noncomputable def nb (p : List UInt8) : Bool := (RdR.ex p).choose_spec.choose
theorem nv_r (p : List UInt8) : RdR p (nv p) (nb p) := (RdR.ex p).choose_spec.choose_spec
theorem nv_itoa {n : Int} (h : Sm n) : nv (itoa n) = n ∧ nb (itoa n) = true := (nv_r (itoa n)).one ⟨fun _ => ⟨rfl, h⟩, fun e => by cases e⟩
theorem nb_itoa {p : List UInt8} (h : nb p = true) : itoa (nv p) = p := ((nv_r p).yes h).1
def yesK : List UInt8 := [121, 101, 115]
def noK : List UInt8 := [110, 111]
/-- one line of the program's reading -/
noncomputable def stepI (C : Cl) : List (List UInt8) → Option Cl
  | [k, a, b] => if k = calK then some { C with nm := ⟨a.toArray⟩, wk := nv b } else none
  | [k, a, b, c] => if k = monK then some { C with M := C.M ++ [(⟨a.toArray⟩, nv b, nv c)] } else if k = leaK then some { C with R := C.R ++ [(nv a, nv b, decide (c = yesK))] } else none
  | _ => none
noncomputable def runI (C : Cl) : List (List (List UInt8)) → Option Cl
  | [] => some C
  | ws :: r => (stepI C ws).bind fun D => runI D r
theorem runI_app (C : Cl) : ∀ (a b : List (List (List UInt8))), runI C (a ++ b) = (runI C a).bind fun D => runI D b
  | [], b => rfl
  | ws :: r, b => by
    simp only [List.cons_append, runI]
    cases stepI C ws with
    | none => rfl
    | some D => exact runI_app D r b
theorem ba_id (s : ByteArray) : (⟨s.data.toList.toArray⟩ : ByteArray) = s := rfl
theorem runI_M : ∀ (M : List Mo) (C : Cl), (∀ q ∈ M, Sm q.2.1 ∧ Sm q.2.2) → runI C (M.map lnM) = some { C with M := C.M ++ M }
  | [], C, _ => by simp [runI]
  | q :: M, C, h => by
    have h1 := h q (by simp)
    simp only [List.map_cons, runI, lnM, stepI, if_neg (show ¬ monK = calK by decide), if_pos, Option.bind_some]
    rw [runI_M M _ (fun x hx => h x (List.mem_cons_of_mem _ hx)), (nv_itoa h1.1).1, (nv_itoa h1.2).1]
    simp
theorem yn_yes (b : Bool) : decide (yn b = yesK) = b := by cases b <;> rfl
theorem runI_R : ∀ (R : List Ru) (C : Cl), (∀ q ∈ R, Sm q.1 ∧ Sm q.2.1) → runI C (R.map lnR) = some { C with R := C.R ++ R }
  | [], C, _ => by simp [runI]
  | q :: R, C, h => by
    have h1 := h q (by simp)
    simp only [List.map_cons, runI, lnR, stepI, if_neg (show ¬ leaK = monK by decide), if_pos, Option.bind_some]
    rw [runI_R R _ (fun x hx => h x (List.mem_cons_of_mem _ hx)), (nv_itoa h1.1).1, (nv_itoa h1.2).1, yn_yes]
    simp
theorem Cl.sm {C : Cl} (h : C.ok = true) : Sm C.wk ∧ (∀ q ∈ C.M, Sm q.2.1 ∧ Sm q.2.2) ∧ ∀ q ∈ C.R, Sm q.1 ∧ Sm q.2.1 := by
  have b := calB_b h
  simp only [Cl.ok, calB, Bool.and_eq_true, inB_t] at h
  refine ⟨⟨by omega, by omega⟩, fun q hq => ?_, fun q hq => ?_⟩
  · obtain ⟨k, hk, e⟩ := List.getElem_of_mem hq
    have h1 := b.dy k hk
    have h2 := b.lp k hk
    simp only [calOf, List.getD_eq_getElem?_getD, List.getElem?_eq_getElem hk, e, Option.getD_some] at h1 h2
    exact ⟨⟨by omega, by omega⟩, ⟨by omega, by omega⟩⟩
  · obtain ⟨k, hk, e⟩ := List.getElem_of_mem hq
    have h1 := b.ev k hk
    have h2 := b.rs k hk
    simp only [calOf, List.getD_eq_getElem?_getD, List.getElem?_eq_getElem hk, e, Option.getD_some] at h1 h2
    exact ⟨⟨by omega, by omega⟩, ⟨by omega, by omega⟩⟩
/-- a valid calendar's lines are read back -/
theorem runI_ws {C : Cl} (h : C.ok = true) : runI Cl.z C.ws = some C := by
  obtain ⟨h1, h2, h3⟩ := Cl.sm h
  rw [Cl.ws, runI]
  simp only [lnH, stepI, if_pos, Option.bind_some, (nv_itoa h1).1]
  rw [runI_app, runI_M _ _ h2]
  simp only [Option.bind_some]
  rw [runI_R _ _ h3]
  simp [Cl.z]
/-- what reading a calendar's text returns -/
structure CR (l : List UInt8) (C : Cl) (b : Bool) : Prop where
  yes : b = true → C.ok = true ∧ l = ltx C.ws
  no : b = false → C = Cl.z ∧ ∀ D : Cl, D.ok = true → l ≠ ltx D.ws
theorem CR.ex (l : List UInt8) : ∃ C b, CR l C b := by
  by_cases h : ∃ C : Cl, C.ok = true ∧ l = ltx C.ws
  · obtain ⟨C, h⟩ := h; exact ⟨C, true, fun _ => h, fun e => by cases e⟩
  · exact ⟨Cl.z, false, (fun e => by cases e), fun _ => ⟨rfl, fun D h1 h2 => h ⟨D, h1, h2⟩⟩⟩
/-- a text that is a calendar's, in lines -/
theorem lines_of {C : Cl} (h : C.ok = true) : splitL 10 (ltx C.ws) = C.ws.map (joinL 32) ++ [[]] ∧ lws (C.ws.map (joinL 32)) = C.ws := ⟨split_tx _ (Cl.gd h), lws_tx (Cl.gd h)⟩
theorem ws_inj {C D : Cl} (hC : C.ok = true) (hD : D.ok = true) (h : ltx C.ws = ltx D.ws) : C = D := by
  have h1 := split_tx _ (Cl.gd hC)
  rw [h, split_tx _ (Cl.gd hD)] at h1
  have h2 := congrArg lws (List.append_cancel_right h1)
  rw [lws_tx (Cl.gd hD), lws_tx (Cl.gd hC)] at h2
  have h3 := runI_ws hC
  rw [← h2, runI_ws hD] at h3
  exact (Option.some.inj h3).symm
end Go.Proofs.YtpohhnihgegmfaaGreatDoor
