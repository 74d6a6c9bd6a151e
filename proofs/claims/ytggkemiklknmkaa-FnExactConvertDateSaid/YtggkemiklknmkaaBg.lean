/- Laws on one calendar and a date, with numbers as results: their walks. The law on days between dates: its walk. Laws on one calendar, on days: their walks. The law on days added: its walk. -/
import Derived.Test.YtggkemiklknmkaaBc
import Derived.Test.YtggkemiklknmkaaBe

namespace Go.Proofs.Ytggkemiklknmkaa
open Go.RowKit
set_option linter.unusedVariables false
set_option linter.unusedSimpArgs false

set_option maxHeartbeats 8000000 in
theorem walkDayOf (s : ByteArray) (ma ra : Option Addr) (mc rc : Nat) (wk : Int) (nm : Nat → ByteArray) (c : CalN) (y m d : Int)  (w : World) (h : CalA w s ma ra mc rc nm c) :
    Calls Try.prog 5 #[.agg #[.string s, .slice ma c.n mc, .slice ra c.nr rc, .int .i64 wk], .agg #[.int .i64 y, .int .i64 m, .int .i64 d]] w fun e w' => e = .returned (.bool true) ∧ Ext w w' := by
  have H := Lib.hid h
  clear h
  have PA := (CalP.new 25 s ma ra mc rc wk H.out.mem).ext ((Ext.refl _).alloc (.cells #[.int .i64 y, .int .i64 m, .int .i64 d] 39))
  have SK : ∀ w', Ext ((w.alloc (.cells #[.string s, .slice ma c.n mc, .slice ra c.nr rc, .int .i64 wk] 25)).alloc (.cells #[.int .i64 y, .int .i64 m, .int .i64 d] 39)) w' →
      ((w'.cell? ⟨w.heap.size, 0, none⟩ = some (.string s) ∧ w'.cell? ⟨w.heap.size, 1, none⟩ = some (.slice ma c.n mc) ∧ w'.cell? ⟨w.heap.size, 2, none⟩ = some (.slice ra c.nr rc) ∧ w'.cell? ⟨w.heap.size, 3, none⟩ = some (.int .i64 wk)) ∧ (w'.cell? ⟨w.heap.size + 1, 0, none⟩ = some (.int .i64 y) ∧ w'.cell? ⟨w.heap.size + 1, 1, none⟩ = some (.int .i64 m) ∧ w'.cell? ⟨w.heap.size + 1, 2, none⟩ = some (.int .i64 d))) := fun w' hq => by
    have QA := PA.ext (w' := w') hq
    refine ⟨⟨QA.c0, QA.c1, QA.c2, QA.c3⟩, ?_, ?_, ?_⟩ <;> (rw [hq.cell (by simp <;> omega)]; simp [go_sem])
  have SKO := Lib.hid SK
  clear SK PA
  go_enter Try.func5, Try.ntmps5
  go_wp2_with fail
  refine (szCalendar_c s ma ra c.n mc c.nr rc wk nm c.dy c.lp _ _ H.out.nb H.out.rb (by omega) (by omega) H.out.sz H.out.nz (H.out.mem.mo.ext (by repeat (first | with_reducible exact Ext.refl _ | with_reducible assumption | with_reducible refine Ext.alloc ?_ _ | with_reducible refine Ext.drew ?_ | (with_reducible refine Ext.setAt ?_ _ _ _ ?_; rotate_left; omega) | with_reducible refine Ext.trans ?_ (by assumption) | with_reducible exact Past.bel _ | with_reducible refine Ext.trans ?_ (Past.bel _))))).mono ?_
  rintro e w' ⟨r, rfl, y0, y1, y2, hx1⟩
  (first | (obtain ⟨wx1, rfl⟩ := Past.again hx1) | (obtain ⟨wx1, rfl⟩ := Past.of hx1))
  by_cases c1 : r < 0
  · go_wp2_with fail
    go_ret
    exact ⟨rfl, (by repeat (first | with_reducible exact Ext.refl _ | with_reducible assumption | with_reducible refine Ext.alloc ?_ _ | with_reducible refine Ext.drew ?_ | (with_reducible refine Ext.setAt ?_ _ _ _ ?_; rotate_left; omega) | with_reducible refine Ext.trans ?_ (by assumption) | with_reducible exact Past.bel _ | with_reducible refine Ext.trans ?_ (Past.bel _)))⟩
  · obtain ⟨hm, hr⟩ := y2 (by omega)
    go_wp2_with fail
    go_region_held3 (fun w' => ((w'.cell? ⟨w.heap.size, 0, none⟩ = some (.string s) ∧ w'.cell? ⟨w.heap.size, 1, none⟩ = some (.slice ma c.n mc) ∧ w'.cell? ⟨w.heap.size, 2, none⟩ = some (.slice ra c.nr rc) ∧ w'.cell? ⟨w.heap.size, 3, none⟩ = some (.int .i64 wk)) ∧ (w'.cell? ⟨w.heap.size + 1, 0, none⟩ = some (.int .i64 y) ∧ w'.cell? ⟨w.heap.size + 1, 1, none⟩ = some (.int .i64 m) ∧ w'.cell? ⟨w.heap.size + 1, 2, none⟩ = some (.int .i64 d)))) (exact SKO.out _ (by repeat (first | with_reducible exact Ext.refl _ | with_reducible assumption | with_reducible refine Ext.alloc ?_ _ | with_reducible refine Ext.drew ?_ | (with_reducible refine Ext.setAt ?_ _ _ _ ?_; rotate_left; omega) | with_reducible refine Ext.trans ?_ (by assumption) | with_reducible exact Past.bel _ | with_reducible refine Ext.trans ?_ (Past.bel _))))
      (first | (go_at_call 14; ((with_reducible refine (toCalendar_c s ma ra mc rc wk nm c _ hm hr (H.out.mem.ext (by repeat (first | with_reducible exact Ext.refl _ | with_reducible assumption | with_reducible refine Ext.alloc ?_ _ | with_reducible refine Ext.drew ?_ | (with_reducible refine Ext.setAt ?_ _ _ _ ?_; rotate_left; omega) | with_reducible refine Ext.trans ?_ (by assumption) | with_reducible exact Past.bel _ | with_reducible refine Ext.trans ?_ (Past.bel _))))).mono ?_); rintro e w6 ⟨g1, g2, _, _, rfl, hx6, hm2, -⟩)) | (go_at_call 20; ((with_reducible refine (toDate_c _ _ _ _).mono ?_); rintro e w7 ⟨rfl, hx7⟩)) | (go_at_call 19; ((with_reducible refine (specDayOf_c wk y m d ((H.out.v hm hr hm2).ext (by repeat (first | with_reducible exact Ext.refl _ | with_reducible assumption | with_reducible refine Ext.alloc ?_ _ | with_reducible refine Ext.drew ?_ | (with_reducible refine Ext.setAt ?_ _ _ _ ?_; rotate_left; omega) | with_reducible refine Ext.trans ?_ (by assumption) | with_reducible exact Past.bel _ | with_reducible refine Ext.trans ?_ (Past.bel _))))).mono ?_); rintro e w8 ⟨rfl, hx8⟩)))
    all_goals
      obtain ⟨wx3, rfl⟩ := Past.of (w := ((w.alloc (.cells #[.string s, .slice ma c.n mc, .slice ra c.nr rc, .int .i64 wk] 25)).alloc (.cells #[.int .i64 y, .int .i64 m, .int .i64 d] 39))) (w' := w8) (by repeat (first | with_reducible exact Ext.refl _ | with_reducible assumption | with_reducible refine Ext.alloc ?_ _ | with_reducible refine Ext.drew ?_ | (with_reducible refine Ext.setAt ?_ _ _ _ ?_; rotate_left; omega) | with_reducible refine Ext.trans ?_ (by assumption) | with_reducible exact Past.bel _ | with_reducible refine Ext.trans ?_ (Past.bel _)))
      go_wp2_with fail
      refine (toCalendar_c s ma ra mc rc wk nm c _ hm hr (H.out.mem.ext (by repeat (first | with_reducible exact Ext.refl _ | with_reducible assumption | with_reducible refine Ext.alloc ?_ _ | with_reducible refine Ext.drew ?_ | (with_reducible refine Ext.setAt ?_ _ _ _ ?_; rotate_left; omega) | with_reducible refine Ext.trans ?_ (by assumption) | with_reducible exact Past.bel _ | with_reducible refine Ext.trans ?_ (Past.bel _))))).mono ?_
      rintro e w' ⟨g3, g4, _, _, rfl, hx4, hm4, -⟩
      have HM4 := Lib.hid hm4
      have V4 := Lib.hid (H.out.v hm hr hm4)
      clear hm4
      (first | (obtain ⟨wx4, rfl⟩ := Past.again hx4) | (obtain ⟨wx4, rfl⟩ := Past.of hx4))
      have PB := CalP.new 32 s _ _ c.n c.nr wk HM4.out
      have SK : ∀ w', Ext (wx4.out.alloc (.cells #[.string s, .slice (some ⟨g3, 0, none⟩) c.n c.n, .slice (some ⟨g4, 0, none⟩) c.nr c.nr, .int .i64 wk] 32)) w' → ((w'.cell? ⟨w.heap.size, 0, none⟩ = some (.string s) ∧ w'.cell? ⟨w.heap.size, 1, none⟩ = some (.slice ma c.n mc) ∧ w'.cell? ⟨w.heap.size, 2, none⟩ = some (.slice ra c.nr rc) ∧ w'.cell? ⟨w.heap.size, 3, none⟩ = some (.int .i64 wk)) ∧ (w'.cell? ⟨w.heap.size + 1, 0, none⟩ = some (.int .i64 y) ∧ w'.cell? ⟨w.heap.size + 1, 1, none⟩ = some (.int .i64 m) ∧ w'.cell? ⟨w.heap.size + 1, 2, none⟩ = some (.int .i64 d)) ∧ (w'.cell? ⟨wx4.out.heap.size, 0, none⟩ = some (.string s) ∧ w'.cell? ⟨wx4.out.heap.size, 1, none⟩ = some (.slice (some ⟨g3, 0, none⟩) c.n c.n) ∧ w'.cell? ⟨wx4.out.heap.size, 2, none⟩ = some (.slice (some ⟨g4, 0, none⟩) c.nr c.nr) ∧ w'.cell? ⟨wx4.out.heap.size, 3, none⟩ = some (.int .i64 wk))) := fun w' hq => by
        have QB := PB.ext (w' := w') hq
        obtain ⟨q1, q2⟩ := SKO.out w' (Ext.trans (Ext.alloc (Past.bel wx4) _) hq)
        exact ⟨q1, q2, QB.c0, QB.c1, QB.c2, QB.c3⟩
      have SK2 := Lib.hid SK
      clear SK PB
      go_wp2_with fail
      go_region_held3 (fun w' => ((w'.cell? ⟨w.heap.size, 0, none⟩ = some (.string s) ∧ w'.cell? ⟨w.heap.size, 1, none⟩ = some (.slice ma c.n mc) ∧ w'.cell? ⟨w.heap.size, 2, none⟩ = some (.slice ra c.nr rc) ∧ w'.cell? ⟨w.heap.size, 3, none⟩ = some (.int .i64 wk)) ∧ (w'.cell? ⟨w.heap.size + 1, 0, none⟩ = some (.int .i64 y) ∧ w'.cell? ⟨w.heap.size + 1, 1, none⟩ = some (.int .i64 m) ∧ w'.cell? ⟨w.heap.size + 1, 2, none⟩ = some (.int .i64 d)) ∧ (w'.cell? ⟨wx4.out.heap.size, 0, none⟩ = some (.string s) ∧ w'.cell? ⟨wx4.out.heap.size, 1, none⟩ = some (.slice (some ⟨g3, 0, none⟩) c.n c.n) ∧ w'.cell? ⟨wx4.out.heap.size, 2, none⟩ = some (.slice (some ⟨g4, 0, none⟩) c.nr c.nr) ∧ w'.cell? ⟨wx4.out.heap.size, 3, none⟩ = some (.int .i64 wk)))) (exact SK2.out _ (by repeat (first | with_reducible exact Ext.refl _ | with_reducible assumption | with_reducible refine Ext.alloc ?_ _ | with_reducible refine Ext.drew ?_ | (with_reducible refine Ext.setAt ?_ _ _ _ ?_; rotate_left; omega) | with_reducible refine Ext.trans ?_ (by assumption) | with_reducible exact Past.bel _ | with_reducible refine Ext.trans ?_ (Past.bel _))))
        (first | (go_at_call 20; ((with_reducible refine (toDate_c _ _ _ _).mono ?_); rintro e w7 ⟨rfl, hx7⟩)) | (go_at_call 21; ((with_reducible refine (implDayOf_c wk y m d (V4.out.ext (by repeat (first | with_reducible exact Ext.refl _ | with_reducible assumption | with_reducible refine Ext.alloc ?_ _ | with_reducible refine Ext.drew ?_ | (with_reducible refine Ext.setAt ?_ _ _ _ ?_; rotate_left; omega) | with_reducible refine Ext.trans ?_ (by assumption) | with_reducible exact Past.bel _ | with_reducible refine Ext.trans ?_ (Past.bel _))))).mono ?_); rintro e w9 ⟨rfl, hx9⟩)))
      obtain ⟨wx5, rfl⟩ := Past.of (w := (wx4.out.alloc (.cells #[.string s, .slice (some ⟨g3, 0, none⟩) c.n c.n, .slice (some ⟨g4, 0, none⟩) c.nr c.nr, .int .i64 wk] 32))) (w' := w9) (by repeat (first | with_reducible exact Ext.refl _ | with_reducible assumption | with_reducible refine Ext.alloc ?_ _ | with_reducible refine Ext.drew ?_ | (with_reducible refine Ext.setAt ?_ _ _ _ ?_; rotate_left; omega) | with_reducible refine Ext.trans ?_ (by assumption) | with_reducible exact Past.bel _ | with_reducible refine Ext.trans ?_ (Past.bel _)))
      go_wp2_with fail
      go_region_held3 (fun w' => ((w'.cell? ⟨w.heap.size, 0, none⟩ = some (.string s) ∧ w'.cell? ⟨w.heap.size, 1, none⟩ = some (.slice ma c.n mc) ∧ w'.cell? ⟨w.heap.size, 2, none⟩ = some (.slice ra c.nr rc) ∧ w'.cell? ⟨w.heap.size, 3, none⟩ = some (.int .i64 wk)) ∧ (w'.cell? ⟨w.heap.size + 1, 0, none⟩ = some (.int .i64 y) ∧ w'.cell? ⟨w.heap.size + 1, 1, none⟩ = some (.int .i64 m) ∧ w'.cell? ⟨w.heap.size + 1, 2, none⟩ = some (.int .i64 d)) ∧ (w'.cell? ⟨wx4.out.heap.size, 0, none⟩ = some (.string s) ∧ w'.cell? ⟨wx4.out.heap.size, 1, none⟩ = some (.slice (some ⟨g3, 0, none⟩) c.n c.n) ∧ w'.cell? ⟨wx4.out.heap.size, 2, none⟩ = some (.slice (some ⟨g4, 0, none⟩) c.nr c.nr) ∧ w'.cell? ⟨wx4.out.heap.size, 3, none⟩ = some (.int .i64 wk)))) (exact SK2.out _ (by repeat (first | with_reducible exact Ext.refl _ | with_reducible assumption | with_reducible refine Ext.alloc ?_ _ | with_reducible refine Ext.drew ?_ | (with_reducible refine Ext.setAt ?_ _ _ _ ?_; rotate_left; omega) | with_reducible refine Ext.trans ?_ (by assumption) | with_reducible exact Past.bel _ | with_reducible refine Ext.trans ?_ (Past.bel _))))
        (first | (go_at_call 14; ((with_reducible refine (toCalendar_c s ma ra mc rc wk nm c _ hm hr (H.out.mem.ext (by repeat (first | with_reducible exact Ext.refl _ | with_reducible assumption | with_reducible refine Ext.alloc ?_ _ | with_reducible refine Ext.drew ?_ | (with_reducible refine Ext.setAt ?_ _ _ _ ?_; rotate_left; omega) | with_reducible refine Ext.trans ?_ (by assumption) | with_reducible exact Past.bel _ | with_reducible refine Ext.trans ?_ (Past.bel _))))).mono ?_); rintro e wA ⟨g5, g6, _, _, rfl, hxA, hmA, -⟩)) | (go_at_call 16; ((with_reducible refine (eqCalendar_self s _ _ _ _ _ _ _ _ wk nm c _ hm hr (HM4.out.ext (by repeat (first | with_reducible exact Ext.refl _ | with_reducible assumption | with_reducible refine Ext.alloc ?_ _ | with_reducible refine Ext.drew ?_ | (with_reducible refine Ext.setAt ?_ _ _ _ ?_; rotate_left; omega) | with_reducible refine Ext.trans ?_ (by assumption) | with_reducible exact Past.bel _ | with_reducible refine Ext.trans ?_ (Past.bel _)))) (hmA.ext (by repeat (first | with_reducible exact Ext.refl _ | with_reducible assumption | with_reducible refine Ext.alloc ?_ _ | with_reducible refine Ext.drew ?_ | (with_reducible refine Ext.setAt ?_ _ _ _ ?_; rotate_left; omega) | with_reducible refine Ext.trans ?_ (by assumption) | with_reducible exact Past.bel _ | with_reducible refine Ext.trans ?_ (Past.bel _))))).mono ?_); rintro e wB ⟨rfl, hxB⟩)))
      go_wp2_with fail
      go_ret
      exact ⟨rfl, (by repeat (first | with_reducible exact Ext.refl _ | with_reducible assumption | with_reducible refine Ext.alloc ?_ _ | with_reducible refine Ext.drew ?_ | (with_reducible refine Ext.setAt ?_ _ _ _ ?_; rotate_left; omega) | with_reducible refine Ext.trans ?_ (by assumption) | with_reducible exact Past.bel _ | with_reducible refine Ext.trans ?_ (Past.bel _)))⟩
set_option maxHeartbeats 8000000 in
theorem walkWeekdayOf (s : ByteArray) (ma ra : Option Addr) (mc rc : Nat) (wk : Int) (nm : Nat → ByteArray) (c : CalN) (y m d : Int) (f : Int) (hf : -9223372036854775808 ≤ f ∧ f ≤ 9223372036854775807) (w : World) (h : CalA w s ma ra mc rc nm c) :
    Calls Try.prog 7 #[.agg #[.string s, .slice ma c.n mc, .slice ra c.nr rc, .int .i64 wk], .agg #[.int .i64 y, .int .i64 m, .int .i64 d], .int .i64 f] w fun e w' => e = .returned (.bool true) ∧ Ext w w' := by
  have H := Lib.hid h
  clear h
  have PA := (CalP.new 25 s ma ra mc rc wk H.out.mem).ext ((Ext.refl _).alloc (.cells #[.int .i64 y, .int .i64 m, .int .i64 d] 39))
  have SK : ∀ w', Ext ((w.alloc (.cells #[.string s, .slice ma c.n mc, .slice ra c.nr rc, .int .i64 wk] 25)).alloc (.cells #[.int .i64 y, .int .i64 m, .int .i64 d] 39)) w' →
      ((w'.cell? ⟨w.heap.size, 0, none⟩ = some (.string s) ∧ w'.cell? ⟨w.heap.size, 1, none⟩ = some (.slice ma c.n mc) ∧ w'.cell? ⟨w.heap.size, 2, none⟩ = some (.slice ra c.nr rc) ∧ w'.cell? ⟨w.heap.size, 3, none⟩ = some (.int .i64 wk)) ∧ (w'.cell? ⟨w.heap.size + 1, 0, none⟩ = some (.int .i64 y) ∧ w'.cell? ⟨w.heap.size + 1, 1, none⟩ = some (.int .i64 m) ∧ w'.cell? ⟨w.heap.size + 1, 2, none⟩ = some (.int .i64 d))) := fun w' hq => by
    have QA := PA.ext (w' := w') hq
    refine ⟨⟨QA.c0, QA.c1, QA.c2, QA.c3⟩, ?_, ?_, ?_⟩ <;> (rw [hq.cell (by simp <;> omega)]; simp [go_sem])
  have SKO := Lib.hid SK
  clear SK PA
  go_enter Try.func7, Try.ntmps7
  go_wp2_with fail
  refine (szCalendar_c s ma ra c.n mc c.nr rc wk nm c.dy c.lp _ _ H.out.nb H.out.rb (by omega) (by omega) H.out.sz H.out.nz (H.out.mem.mo.ext (by repeat (first | with_reducible exact Ext.refl _ | with_reducible assumption | with_reducible refine Ext.alloc ?_ _ | with_reducible refine Ext.drew ?_ | (with_reducible refine Ext.setAt ?_ _ _ _ ?_; rotate_left; omega) | with_reducible refine Ext.trans ?_ (by assumption) | with_reducible exact Past.bel _ | with_reducible refine Ext.trans ?_ (Past.bel _))))).mono ?_
  rintro e w' ⟨r, rfl, y0, y1, y2, hx1⟩
  (first | (obtain ⟨wx1, rfl⟩ := Past.again hx1) | (obtain ⟨wx1, rfl⟩ := Past.of hx1))
  by_cases c1 : r < 0
  · go_wp2_with fail
    go_ret
    exact ⟨rfl, (by repeat (first | with_reducible exact Ext.refl _ | with_reducible assumption | with_reducible refine Ext.alloc ?_ _ | with_reducible refine Ext.drew ?_ | (with_reducible refine Ext.setAt ?_ _ _ _ ?_; rotate_left; omega) | with_reducible refine Ext.trans ?_ (by assumption) | with_reducible exact Past.bel _ | with_reducible refine Ext.trans ?_ (Past.bel _)))⟩
  · obtain ⟨hm, hr⟩ := y2 (by omega)
    go_wp2_with fail
    go_region_held3 (fun w' => ((w'.cell? ⟨w.heap.size, 0, none⟩ = some (.string s) ∧ w'.cell? ⟨w.heap.size, 1, none⟩ = some (.slice ma c.n mc) ∧ w'.cell? ⟨w.heap.size, 2, none⟩ = some (.slice ra c.nr rc) ∧ w'.cell? ⟨w.heap.size, 3, none⟩ = some (.int .i64 wk)) ∧ (w'.cell? ⟨w.heap.size + 1, 0, none⟩ = some (.int .i64 y) ∧ w'.cell? ⟨w.heap.size + 1, 1, none⟩ = some (.int .i64 m) ∧ w'.cell? ⟨w.heap.size + 1, 2, none⟩ = some (.int .i64 d)))) (exact SKO.out _ (by repeat (first | with_reducible exact Ext.refl _ | with_reducible assumption | with_reducible refine Ext.alloc ?_ _ | with_reducible refine Ext.drew ?_ | (with_reducible refine Ext.setAt ?_ _ _ _ ?_; rotate_left; omega) | with_reducible refine Ext.trans ?_ (by assumption) | with_reducible exact Past.bel _ | with_reducible refine Ext.trans ?_ (Past.bel _))))
      (first | (go_at_call 14; ((with_reducible refine (toCalendar_c s ma ra mc rc wk nm c _ hm hr (H.out.mem.ext (by repeat (first | with_reducible exact Ext.refl _ | with_reducible assumption | with_reducible refine Ext.alloc ?_ _ | with_reducible refine Ext.drew ?_ | (with_reducible refine Ext.setAt ?_ _ _ _ ?_; rotate_left; omega) | with_reducible refine Ext.trans ?_ (by assumption) | with_reducible exact Past.bel _ | with_reducible refine Ext.trans ?_ (Past.bel _))))).mono ?_); rintro e w6 ⟨g1, g2, _, _, rfl, hx6, hm2, -⟩)) | (go_at_call 20; ((with_reducible refine (toDate_c _ _ _ _).mono ?_); rintro e w7 ⟨rfl, hx7⟩)) | (go_at_call 24; ((with_reducible refine (specWeekdayOf_c wk y m d f hf ((H.out.v hm hr hm2).ext (by repeat (first | with_reducible exact Ext.refl _ | with_reducible assumption | with_reducible refine Ext.alloc ?_ _ | with_reducible refine Ext.drew ?_ | (with_reducible refine Ext.setAt ?_ _ _ _ ?_; rotate_left; omega) | with_reducible refine Ext.trans ?_ (by assumption) | with_reducible exact Past.bel _ | with_reducible refine Ext.trans ?_ (Past.bel _))))).mono ?_); rintro e w8 ⟨rfl, hx8⟩)))
    all_goals
      obtain ⟨wx3, rfl⟩ := Past.of (w := ((w.alloc (.cells #[.string s, .slice ma c.n mc, .slice ra c.nr rc, .int .i64 wk] 25)).alloc (.cells #[.int .i64 y, .int .i64 m, .int .i64 d] 39))) (w' := w8) (by repeat (first | with_reducible exact Ext.refl _ | with_reducible assumption | with_reducible refine Ext.alloc ?_ _ | with_reducible refine Ext.drew ?_ | (with_reducible refine Ext.setAt ?_ _ _ _ ?_; rotate_left; omega) | with_reducible refine Ext.trans ?_ (by assumption) | with_reducible exact Past.bel _ | with_reducible refine Ext.trans ?_ (Past.bel _)))
      go_wp2_with fail
      refine (toCalendar_c s ma ra mc rc wk nm c _ hm hr (H.out.mem.ext (by repeat (first | with_reducible exact Ext.refl _ | with_reducible assumption | with_reducible refine Ext.alloc ?_ _ | with_reducible refine Ext.drew ?_ | (with_reducible refine Ext.setAt ?_ _ _ _ ?_; rotate_left; omega) | with_reducible refine Ext.trans ?_ (by assumption) | with_reducible exact Past.bel _ | with_reducible refine Ext.trans ?_ (Past.bel _))))).mono ?_
      rintro e w' ⟨g3, g4, _, _, rfl, hx4, hm4, -⟩
      have HM4 := Lib.hid hm4
      have V4 := Lib.hid (H.out.v hm hr hm4)
      clear hm4
      (first | (obtain ⟨wx4, rfl⟩ := Past.again hx4) | (obtain ⟨wx4, rfl⟩ := Past.of hx4))
      have PB := CalP.new 32 s _ _ c.n c.nr wk HM4.out
      have SK : ∀ w', Ext (wx4.out.alloc (.cells #[.string s, .slice (some ⟨g3, 0, none⟩) c.n c.n, .slice (some ⟨g4, 0, none⟩) c.nr c.nr, .int .i64 wk] 32)) w' → ((w'.cell? ⟨w.heap.size, 0, none⟩ = some (.string s) ∧ w'.cell? ⟨w.heap.size, 1, none⟩ = some (.slice ma c.n mc) ∧ w'.cell? ⟨w.heap.size, 2, none⟩ = some (.slice ra c.nr rc) ∧ w'.cell? ⟨w.heap.size, 3, none⟩ = some (.int .i64 wk)) ∧ (w'.cell? ⟨w.heap.size + 1, 0, none⟩ = some (.int .i64 y) ∧ w'.cell? ⟨w.heap.size + 1, 1, none⟩ = some (.int .i64 m) ∧ w'.cell? ⟨w.heap.size + 1, 2, none⟩ = some (.int .i64 d)) ∧ (w'.cell? ⟨wx4.out.heap.size, 0, none⟩ = some (.string s) ∧ w'.cell? ⟨wx4.out.heap.size, 1, none⟩ = some (.slice (some ⟨g3, 0, none⟩) c.n c.n) ∧ w'.cell? ⟨wx4.out.heap.size, 2, none⟩ = some (.slice (some ⟨g4, 0, none⟩) c.nr c.nr) ∧ w'.cell? ⟨wx4.out.heap.size, 3, none⟩ = some (.int .i64 wk))) := fun w' hq => by
        have QB := PB.ext (w' := w') hq
        obtain ⟨q1, q2⟩ := SKO.out w' (Ext.trans (Ext.alloc (Past.bel wx4) _) hq)
        exact ⟨q1, q2, QB.c0, QB.c1, QB.c2, QB.c3⟩
      have SK2 := Lib.hid SK
      clear SK PB
      go_wp2_with fail
      go_region_held3 (fun w' => ((w'.cell? ⟨w.heap.size, 0, none⟩ = some (.string s) ∧ w'.cell? ⟨w.heap.size, 1, none⟩ = some (.slice ma c.n mc) ∧ w'.cell? ⟨w.heap.size, 2, none⟩ = some (.slice ra c.nr rc) ∧ w'.cell? ⟨w.heap.size, 3, none⟩ = some (.int .i64 wk)) ∧ (w'.cell? ⟨w.heap.size + 1, 0, none⟩ = some (.int .i64 y) ∧ w'.cell? ⟨w.heap.size + 1, 1, none⟩ = some (.int .i64 m) ∧ w'.cell? ⟨w.heap.size + 1, 2, none⟩ = some (.int .i64 d)) ∧ (w'.cell? ⟨wx4.out.heap.size, 0, none⟩ = some (.string s) ∧ w'.cell? ⟨wx4.out.heap.size, 1, none⟩ = some (.slice (some ⟨g3, 0, none⟩) c.n c.n) ∧ w'.cell? ⟨wx4.out.heap.size, 2, none⟩ = some (.slice (some ⟨g4, 0, none⟩) c.nr c.nr) ∧ w'.cell? ⟨wx4.out.heap.size, 3, none⟩ = some (.int .i64 wk)))) (exact SK2.out _ (by repeat (first | with_reducible exact Ext.refl _ | with_reducible assumption | with_reducible refine Ext.alloc ?_ _ | with_reducible refine Ext.drew ?_ | (with_reducible refine Ext.setAt ?_ _ _ _ ?_; rotate_left; omega) | with_reducible refine Ext.trans ?_ (by assumption) | with_reducible exact Past.bel _ | with_reducible refine Ext.trans ?_ (Past.bel _))))
        (first | (go_at_call 20; ((with_reducible refine (toDate_c _ _ _ _).mono ?_); rintro e w7 ⟨rfl, hx7⟩)) | (go_at_call 25; ((with_reducible refine (implWeekdayOf_c wk y m d f hf (V4.out.ext (by repeat (first | with_reducible exact Ext.refl _ | with_reducible assumption | with_reducible refine Ext.alloc ?_ _ | with_reducible refine Ext.drew ?_ | (with_reducible refine Ext.setAt ?_ _ _ _ ?_; rotate_left; omega) | with_reducible refine Ext.trans ?_ (by assumption) | with_reducible exact Past.bel _ | with_reducible refine Ext.trans ?_ (Past.bel _))))).mono ?_); rintro e w9 ⟨rfl, hx9⟩)))
      obtain ⟨wx5, rfl⟩ := Past.of (w := (wx4.out.alloc (.cells #[.string s, .slice (some ⟨g3, 0, none⟩) c.n c.n, .slice (some ⟨g4, 0, none⟩) c.nr c.nr, .int .i64 wk] 32))) (w' := w9) (by repeat (first | with_reducible exact Ext.refl _ | with_reducible assumption | with_reducible refine Ext.alloc ?_ _ | with_reducible refine Ext.drew ?_ | (with_reducible refine Ext.setAt ?_ _ _ _ ?_; rotate_left; omega) | with_reducible refine Ext.trans ?_ (by assumption) | with_reducible exact Past.bel _ | with_reducible refine Ext.trans ?_ (Past.bel _)))
      go_wp2_with fail
      go_region_held3 (fun w' => ((w'.cell? ⟨w.heap.size, 0, none⟩ = some (.string s) ∧ w'.cell? ⟨w.heap.size, 1, none⟩ = some (.slice ma c.n mc) ∧ w'.cell? ⟨w.heap.size, 2, none⟩ = some (.slice ra c.nr rc) ∧ w'.cell? ⟨w.heap.size, 3, none⟩ = some (.int .i64 wk)) ∧ (w'.cell? ⟨w.heap.size + 1, 0, none⟩ = some (.int .i64 y) ∧ w'.cell? ⟨w.heap.size + 1, 1, none⟩ = some (.int .i64 m) ∧ w'.cell? ⟨w.heap.size + 1, 2, none⟩ = some (.int .i64 d)) ∧ (w'.cell? ⟨wx4.out.heap.size, 0, none⟩ = some (.string s) ∧ w'.cell? ⟨wx4.out.heap.size, 1, none⟩ = some (.slice (some ⟨g3, 0, none⟩) c.n c.n) ∧ w'.cell? ⟨wx4.out.heap.size, 2, none⟩ = some (.slice (some ⟨g4, 0, none⟩) c.nr c.nr) ∧ w'.cell? ⟨wx4.out.heap.size, 3, none⟩ = some (.int .i64 wk)))) (exact SK2.out _ (by repeat (first | with_reducible exact Ext.refl _ | with_reducible assumption | with_reducible refine Ext.alloc ?_ _ | with_reducible refine Ext.drew ?_ | (with_reducible refine Ext.setAt ?_ _ _ _ ?_; rotate_left; omega) | with_reducible refine Ext.trans ?_ (by assumption) | with_reducible exact Past.bel _ | with_reducible refine Ext.trans ?_ (Past.bel _))))
        (first | (go_at_call 14; ((with_reducible refine (toCalendar_c s ma ra mc rc wk nm c _ hm hr (H.out.mem.ext (by repeat (first | with_reducible exact Ext.refl _ | with_reducible assumption | with_reducible refine Ext.alloc ?_ _ | with_reducible refine Ext.drew ?_ | (with_reducible refine Ext.setAt ?_ _ _ _ ?_; rotate_left; omega) | with_reducible refine Ext.trans ?_ (by assumption) | with_reducible exact Past.bel _ | with_reducible refine Ext.trans ?_ (Past.bel _))))).mono ?_); rintro e wA ⟨g5, g6, _, _, rfl, hxA, hmA, -⟩)) | (go_at_call 16; ((with_reducible refine (eqCalendar_self s _ _ _ _ _ _ _ _ wk nm c _ hm hr (HM4.out.ext (by repeat (first | with_reducible exact Ext.refl _ | with_reducible assumption | with_reducible refine Ext.alloc ?_ _ | with_reducible refine Ext.drew ?_ | (with_reducible refine Ext.setAt ?_ _ _ _ ?_; rotate_left; omega) | with_reducible refine Ext.trans ?_ (by assumption) | with_reducible exact Past.bel _ | with_reducible refine Ext.trans ?_ (Past.bel _)))) (hmA.ext (by repeat (first | with_reducible exact Ext.refl _ | with_reducible assumption | with_reducible refine Ext.alloc ?_ _ | with_reducible refine Ext.drew ?_ | (with_reducible refine Ext.setAt ?_ _ _ _ ?_; rotate_left; omega) | with_reducible refine Ext.trans ?_ (by assumption) | with_reducible exact Past.bel _ | with_reducible refine Ext.trans ?_ (Past.bel _))))).mono ?_); rintro e wB ⟨rfl, hxB⟩)))
      go_wp2_with fail
      go_ret
      exact ⟨rfl, (by repeat (first | with_reducible exact Ext.refl _ | with_reducible assumption | with_reducible refine Ext.alloc ?_ _ | with_reducible refine Ext.drew ?_ | (with_reducible refine Ext.setAt ?_ _ _ _ ?_; rotate_left; omega) | with_reducible refine Ext.trans ?_ (by assumption) | with_reducible exact Past.bel _ | with_reducible refine Ext.trans ?_ (Past.bel _)))⟩
end Go.Proofs.Ytggkemiklknmkaa

namespace Go.Proofs.Ytggkemiklknmkaa
open Go.RowKit
set_option linter.unusedVariables false
set_option linter.unusedSimpArgs false

set_option maxHeartbeats 8000000 in
theorem walkDaysBetween (s : ByteArray) (ma ra : Option Addr) (mc rc : Nat) (wk : Int) (nm : Nat → ByteArray) (c : CalN) (y m d y' m' d' : Int) (w : World) (h : CalA w s ma ra mc rc nm c) :
    Calls Try.prog 6 #[.agg #[.string s, .slice ma c.n mc, .slice ra c.nr rc, .int .i64 wk], .agg #[.int .i64 y, .int .i64 m, .int .i64 d], .agg #[.int .i64 y', .int .i64 m', .int .i64 d']] w fun e w' => e = .returned (.bool true) ∧ Ext w w' := by
  have H := Lib.hid h
  clear h
  have PA := (CalP.new 25 s ma ra mc rc wk H.out.mem).ext (((Ext.refl _).alloc (.cells #[.int .i64 y, .int .i64 m, .int .i64 d] 39)).alloc (.cells #[.int .i64 y', .int .i64 m', .int .i64 d'] 39))
  have SK : ∀ w', Ext (((w.alloc (.cells #[.string s, .slice ma c.n mc, .slice ra c.nr rc, .int .i64 wk] 25)).alloc (.cells #[.int .i64 y, .int .i64 m, .int .i64 d] 39)).alloc (.cells #[.int .i64 y', .int .i64 m', .int .i64 d'] 39)) w' →
      ((w'.cell? ⟨w.heap.size, 0, none⟩ = some (.string s) ∧ w'.cell? ⟨w.heap.size, 1, none⟩ = some (.slice ma c.n mc) ∧ w'.cell? ⟨w.heap.size, 2, none⟩ = some (.slice ra c.nr rc) ∧ w'.cell? ⟨w.heap.size, 3, none⟩ = some (.int .i64 wk)) ∧ ((w'.cell? ⟨w.heap.size + 1, 0, none⟩ = some (.int .i64 y) ∧ w'.cell? ⟨w.heap.size + 1, 1, none⟩ = some (.int .i64 m) ∧ w'.cell? ⟨w.heap.size + 1, 2, none⟩ = some (.int .i64 d)) ∧ (w'.cell? ⟨w.heap.size + 1 + 1, 0, none⟩ = some (.int .i64 y') ∧ w'.cell? ⟨w.heap.size + 1 + 1, 1, none⟩ = some (.int .i64 m') ∧ w'.cell? ⟨w.heap.size + 1 + 1, 2, none⟩ = some (.int .i64 d')))) := fun w' hq => by
    have QA := PA.ext (w' := w') hq
    refine ⟨⟨QA.c0, QA.c1, QA.c2, QA.c3⟩, ⟨?_, ?_, ?_⟩, ?_, ?_, ?_⟩ <;> (rw [hq.cell (by simp <;> omega)]; simp [go_sem])
  have SKO := Lib.hid SK
  clear SK PA
  go_enter Try.func6, Try.ntmps6
  go_wp2_with fail
  refine (szCalendar_c s ma ra c.n mc c.nr rc wk nm c.dy c.lp _ _ H.out.nb H.out.rb (by omega) (by omega) H.out.sz H.out.nz (H.out.mem.mo.ext (by repeat (first | with_reducible exact Ext.refl _ | with_reducible assumption | with_reducible refine Ext.alloc ?_ _ | with_reducible refine Ext.drew ?_ | (with_reducible refine Ext.setAt ?_ _ _ _ ?_; rotate_left; omega) | with_reducible refine Ext.trans ?_ (by assumption) | with_reducible exact Past.bel _ | with_reducible refine Ext.trans ?_ (Past.bel _))))).mono ?_
  rintro e w' ⟨r, rfl, y0, y1, y2, hx1⟩
  (first | (obtain ⟨wx1, rfl⟩ := Past.again hx1) | (obtain ⟨wx1, rfl⟩ := Past.of hx1))
  by_cases c1 : r < 0
  · go_wp2_with fail
    go_ret
    exact ⟨rfl, (by repeat (first | with_reducible exact Ext.refl _ | with_reducible assumption | with_reducible refine Ext.alloc ?_ _ | with_reducible refine Ext.drew ?_ | (with_reducible refine Ext.setAt ?_ _ _ _ ?_; rotate_left; omega) | with_reducible refine Ext.trans ?_ (by assumption) | with_reducible exact Past.bel _ | with_reducible refine Ext.trans ?_ (Past.bel _)))⟩
  · obtain ⟨hm, hr⟩ := y2 (by omega)
    go_wp2_with fail
    go_region_held3 (fun w' => ((w'.cell? ⟨w.heap.size, 0, none⟩ = some (.string s) ∧ w'.cell? ⟨w.heap.size, 1, none⟩ = some (.slice ma c.n mc) ∧ w'.cell? ⟨w.heap.size, 2, none⟩ = some (.slice ra c.nr rc) ∧ w'.cell? ⟨w.heap.size, 3, none⟩ = some (.int .i64 wk)) ∧ ((w'.cell? ⟨w.heap.size + 1, 0, none⟩ = some (.int .i64 y) ∧ w'.cell? ⟨w.heap.size + 1, 1, none⟩ = some (.int .i64 m) ∧ w'.cell? ⟨w.heap.size + 1, 2, none⟩ = some (.int .i64 d)) ∧ (w'.cell? ⟨w.heap.size + 1 + 1, 0, none⟩ = some (.int .i64 y') ∧ w'.cell? ⟨w.heap.size + 1 + 1, 1, none⟩ = some (.int .i64 m') ∧ w'.cell? ⟨w.heap.size + 1 + 1, 2, none⟩ = some (.int .i64 d'))))) (exact SKO.out _ (by repeat (first | with_reducible exact Ext.refl _ | with_reducible assumption | with_reducible refine Ext.alloc ?_ _ | with_reducible refine Ext.drew ?_ | (with_reducible refine Ext.setAt ?_ _ _ _ ?_; rotate_left; omega) | with_reducible refine Ext.trans ?_ (by assumption) | with_reducible exact Past.bel _ | with_reducible refine Ext.trans ?_ (Past.bel _))))
      (first | (go_at_call 14; ((with_reducible refine (toCalendar_c s ma ra mc rc wk nm c _ hm hr (H.out.mem.ext (by repeat (first | with_reducible exact Ext.refl _ | with_reducible assumption | with_reducible refine Ext.alloc ?_ _ | with_reducible refine Ext.drew ?_ | (with_reducible refine Ext.setAt ?_ _ _ _ ?_; rotate_left; omega) | with_reducible refine Ext.trans ?_ (by assumption) | with_reducible exact Past.bel _ | with_reducible refine Ext.trans ?_ (Past.bel _))))).mono ?_); rintro e w6 ⟨g1, g2, _, _, rfl, hx6, hm2, -⟩)) | (go_at_call 20; ((with_reducible refine (toDate_c _ _ _ _).mono ?_); rintro e w7 ⟨rfl, hx7⟩)) | (go_at_call 22; ((with_reducible refine (specDaysBetween_c wk y m d y' m' d' ((H.out.v hm hr hm2).ext (by repeat (first | with_reducible exact Ext.refl _ | with_reducible assumption | with_reducible refine Ext.alloc ?_ _ | with_reducible refine Ext.drew ?_ | (with_reducible refine Ext.setAt ?_ _ _ _ ?_; rotate_left; omega) | with_reducible refine Ext.trans ?_ (by assumption) | with_reducible exact Past.bel _ | with_reducible refine Ext.trans ?_ (Past.bel _))))).mono ?_); rintro e w8 ⟨rfl, hx8⟩)))
    all_goals
      obtain ⟨wx3, rfl⟩ := Past.of (w := (((w.alloc (.cells #[.string s, .slice ma c.n mc, .slice ra c.nr rc, .int .i64 wk] 25)).alloc (.cells #[.int .i64 y, .int .i64 m, .int .i64 d] 39)).alloc (.cells #[.int .i64 y', .int .i64 m', .int .i64 d'] 39))) (w' := w8) (by repeat (first | with_reducible exact Ext.refl _ | with_reducible assumption | with_reducible refine Ext.alloc ?_ _ | with_reducible refine Ext.drew ?_ | (with_reducible refine Ext.setAt ?_ _ _ _ ?_; rotate_left; omega) | with_reducible refine Ext.trans ?_ (by assumption) | with_reducible exact Past.bel _ | with_reducible refine Ext.trans ?_ (Past.bel _)))
      go_wp2_with fail
      refine (toCalendar_c s ma ra mc rc wk nm c _ hm hr (H.out.mem.ext (by repeat (first | with_reducible exact Ext.refl _ | with_reducible assumption | with_reducible refine Ext.alloc ?_ _ | with_reducible refine Ext.drew ?_ | (with_reducible refine Ext.setAt ?_ _ _ _ ?_; rotate_left; omega) | with_reducible refine Ext.trans ?_ (by assumption) | with_reducible exact Past.bel _ | with_reducible refine Ext.trans ?_ (Past.bel _))))).mono ?_
      rintro e w' ⟨g3, g4, _, _, rfl, hx4, hm4, -⟩
      have HM4 := Lib.hid hm4
      have V4 := Lib.hid (H.out.v hm hr hm4)
      clear hm4
      (first | (obtain ⟨wx4, rfl⟩ := Past.again hx4) | (obtain ⟨wx4, rfl⟩ := Past.of hx4))
      have PB := CalP.new 32 s _ _ c.n c.nr wk HM4.out
      have SK : ∀ w', Ext (wx4.out.alloc (.cells #[.string s, .slice (some ⟨g3, 0, none⟩) c.n c.n, .slice (some ⟨g4, 0, none⟩) c.nr c.nr, .int .i64 wk] 32)) w' → ((w'.cell? ⟨w.heap.size, 0, none⟩ = some (.string s) ∧ w'.cell? ⟨w.heap.size, 1, none⟩ = some (.slice ma c.n mc) ∧ w'.cell? ⟨w.heap.size, 2, none⟩ = some (.slice ra c.nr rc) ∧ w'.cell? ⟨w.heap.size, 3, none⟩ = some (.int .i64 wk)) ∧ ((w'.cell? ⟨w.heap.size + 1, 0, none⟩ = some (.int .i64 y) ∧ w'.cell? ⟨w.heap.size + 1, 1, none⟩ = some (.int .i64 m) ∧ w'.cell? ⟨w.heap.size + 1, 2, none⟩ = some (.int .i64 d)) ∧ (w'.cell? ⟨w.heap.size + 1 + 1, 0, none⟩ = some (.int .i64 y') ∧ w'.cell? ⟨w.heap.size + 1 + 1, 1, none⟩ = some (.int .i64 m') ∧ w'.cell? ⟨w.heap.size + 1 + 1, 2, none⟩ = some (.int .i64 d'))) ∧ (w'.cell? ⟨wx4.out.heap.size, 0, none⟩ = some (.string s) ∧ w'.cell? ⟨wx4.out.heap.size, 1, none⟩ = some (.slice (some ⟨g3, 0, none⟩) c.n c.n) ∧ w'.cell? ⟨wx4.out.heap.size, 2, none⟩ = some (.slice (some ⟨g4, 0, none⟩) c.nr c.nr) ∧ w'.cell? ⟨wx4.out.heap.size, 3, none⟩ = some (.int .i64 wk))) := fun w' hq => by
        have QB := PB.ext (w' := w') hq
        obtain ⟨q1, q2⟩ := SKO.out w' (Ext.trans (Ext.alloc (Past.bel wx4) _) hq)
        exact ⟨q1, q2, QB.c0, QB.c1, QB.c2, QB.c3⟩
      have SK2 := Lib.hid SK
      clear SK PB
      go_wp2_with fail
      go_region_held3 (fun w' => ((w'.cell? ⟨w.heap.size, 0, none⟩ = some (.string s) ∧ w'.cell? ⟨w.heap.size, 1, none⟩ = some (.slice ma c.n mc) ∧ w'.cell? ⟨w.heap.size, 2, none⟩ = some (.slice ra c.nr rc) ∧ w'.cell? ⟨w.heap.size, 3, none⟩ = some (.int .i64 wk)) ∧ ((w'.cell? ⟨w.heap.size + 1, 0, none⟩ = some (.int .i64 y) ∧ w'.cell? ⟨w.heap.size + 1, 1, none⟩ = some (.int .i64 m) ∧ w'.cell? ⟨w.heap.size + 1, 2, none⟩ = some (.int .i64 d)) ∧ (w'.cell? ⟨w.heap.size + 1 + 1, 0, none⟩ = some (.int .i64 y') ∧ w'.cell? ⟨w.heap.size + 1 + 1, 1, none⟩ = some (.int .i64 m') ∧ w'.cell? ⟨w.heap.size + 1 + 1, 2, none⟩ = some (.int .i64 d'))) ∧ (w'.cell? ⟨wx4.out.heap.size, 0, none⟩ = some (.string s) ∧ w'.cell? ⟨wx4.out.heap.size, 1, none⟩ = some (.slice (some ⟨g3, 0, none⟩) c.n c.n) ∧ w'.cell? ⟨wx4.out.heap.size, 2, none⟩ = some (.slice (some ⟨g4, 0, none⟩) c.nr c.nr) ∧ w'.cell? ⟨wx4.out.heap.size, 3, none⟩ = some (.int .i64 wk)))) (exact SK2.out _ (by repeat (first | with_reducible exact Ext.refl _ | with_reducible assumption | with_reducible refine Ext.alloc ?_ _ | with_reducible refine Ext.drew ?_ | (with_reducible refine Ext.setAt ?_ _ _ _ ?_; rotate_left; omega) | with_reducible refine Ext.trans ?_ (by assumption) | with_reducible exact Past.bel _ | with_reducible refine Ext.trans ?_ (Past.bel _))))
        (first | (go_at_call 20; ((with_reducible refine (toDate_c _ _ _ _).mono ?_); rintro e w7 ⟨rfl, hx7⟩)) | (go_at_call 23; ((with_reducible refine (implDaysBetween_c wk y m d y' m' d' (V4.out.ext (by repeat (first | with_reducible exact Ext.refl _ | with_reducible assumption | with_reducible refine Ext.alloc ?_ _ | with_reducible refine Ext.drew ?_ | (with_reducible refine Ext.setAt ?_ _ _ _ ?_; rotate_left; omega) | with_reducible refine Ext.trans ?_ (by assumption) | with_reducible exact Past.bel _ | with_reducible refine Ext.trans ?_ (Past.bel _))))).mono ?_); rintro e w9 ⟨rfl, hx9⟩)))
      obtain ⟨wx5, rfl⟩ := Past.of (w := (wx4.out.alloc (.cells #[.string s, .slice (some ⟨g3, 0, none⟩) c.n c.n, .slice (some ⟨g4, 0, none⟩) c.nr c.nr, .int .i64 wk] 32))) (w' := w9) (by repeat (first | with_reducible exact Ext.refl _ | with_reducible assumption | with_reducible refine Ext.alloc ?_ _ | with_reducible refine Ext.drew ?_ | (with_reducible refine Ext.setAt ?_ _ _ _ ?_; rotate_left; omega) | with_reducible refine Ext.trans ?_ (by assumption) | with_reducible exact Past.bel _ | with_reducible refine Ext.trans ?_ (Past.bel _)))
      go_wp2_with fail
      go_region_held3 (fun w' => ((w'.cell? ⟨w.heap.size, 0, none⟩ = some (.string s) ∧ w'.cell? ⟨w.heap.size, 1, none⟩ = some (.slice ma c.n mc) ∧ w'.cell? ⟨w.heap.size, 2, none⟩ = some (.slice ra c.nr rc) ∧ w'.cell? ⟨w.heap.size, 3, none⟩ = some (.int .i64 wk)) ∧ ((w'.cell? ⟨w.heap.size + 1, 0, none⟩ = some (.int .i64 y) ∧ w'.cell? ⟨w.heap.size + 1, 1, none⟩ = some (.int .i64 m) ∧ w'.cell? ⟨w.heap.size + 1, 2, none⟩ = some (.int .i64 d)) ∧ (w'.cell? ⟨w.heap.size + 1 + 1, 0, none⟩ = some (.int .i64 y') ∧ w'.cell? ⟨w.heap.size + 1 + 1, 1, none⟩ = some (.int .i64 m') ∧ w'.cell? ⟨w.heap.size + 1 + 1, 2, none⟩ = some (.int .i64 d'))) ∧ (w'.cell? ⟨wx4.out.heap.size, 0, none⟩ = some (.string s) ∧ w'.cell? ⟨wx4.out.heap.size, 1, none⟩ = some (.slice (some ⟨g3, 0, none⟩) c.n c.n) ∧ w'.cell? ⟨wx4.out.heap.size, 2, none⟩ = some (.slice (some ⟨g4, 0, none⟩) c.nr c.nr) ∧ w'.cell? ⟨wx4.out.heap.size, 3, none⟩ = some (.int .i64 wk)))) (exact SK2.out _ (by repeat (first | with_reducible exact Ext.refl _ | with_reducible assumption | with_reducible refine Ext.alloc ?_ _ | with_reducible refine Ext.drew ?_ | (with_reducible refine Ext.setAt ?_ _ _ _ ?_; rotate_left; omega) | with_reducible refine Ext.trans ?_ (by assumption) | with_reducible exact Past.bel _ | with_reducible refine Ext.trans ?_ (Past.bel _))))
        (first | (go_at_call 14; ((with_reducible refine (toCalendar_c s ma ra mc rc wk nm c _ hm hr (H.out.mem.ext (by repeat (first | with_reducible exact Ext.refl _ | with_reducible assumption | with_reducible refine Ext.alloc ?_ _ | with_reducible refine Ext.drew ?_ | (with_reducible refine Ext.setAt ?_ _ _ _ ?_; rotate_left; omega) | with_reducible refine Ext.trans ?_ (by assumption) | with_reducible exact Past.bel _ | with_reducible refine Ext.trans ?_ (Past.bel _))))).mono ?_); rintro e wA ⟨g5, g6, _, _, rfl, hxA, hmA, -⟩)) | (go_at_call 16; ((with_reducible refine (eqCalendar_self s _ _ _ _ _ _ _ _ wk nm c _ hm hr (HM4.out.ext (by repeat (first | with_reducible exact Ext.refl _ | with_reducible assumption | with_reducible refine Ext.alloc ?_ _ | with_reducible refine Ext.drew ?_ | (with_reducible refine Ext.setAt ?_ _ _ _ ?_; rotate_left; omega) | with_reducible refine Ext.trans ?_ (by assumption) | with_reducible exact Past.bel _ | with_reducible refine Ext.trans ?_ (Past.bel _)))) (hmA.ext (by repeat (first | with_reducible exact Ext.refl _ | with_reducible assumption | with_reducible refine Ext.alloc ?_ _ | with_reducible refine Ext.drew ?_ | (with_reducible refine Ext.setAt ?_ _ _ _ ?_; rotate_left; omega) | with_reducible refine Ext.trans ?_ (by assumption) | with_reducible exact Past.bel _ | with_reducible refine Ext.trans ?_ (Past.bel _))))).mono ?_); rintro e wB ⟨rfl, hxB⟩)))
      go_wp2_with fail
      go_ret
      exact ⟨rfl, (by repeat (first | with_reducible exact Ext.refl _ | with_reducible assumption | with_reducible refine Ext.alloc ?_ _ | with_reducible refine Ext.drew ?_ | (with_reducible refine Ext.setAt ?_ _ _ _ ?_; rotate_left; omega) | with_reducible refine Ext.trans ?_ (by assumption) | with_reducible exact Past.bel _ | with_reducible refine Ext.trans ?_ (Past.bel _)))⟩
end Go.Proofs.Ytggkemiklknmkaa

namespace Go.Proofs.Ytggkemiklknmkaa
open Go.RowKit
set_option linter.unusedVariables false
set_option linter.unusedSimpArgs false

theorem eqDate_self (y m d : Int) (w : World) : Calls Try.prog 28 #[.agg #[.int .i64 y, .int .i64 m, .int .i64 d], .agg #[.int .i64 y, .int .i64 m, .int .i64 d]] w fun e w' => e = .returned (.bool true) ∧ Ext w w' := by
  go_enter Try.func28, Try.ntmps28
  go_wp2
  go_ret
  exact ⟨rfl, (by repeat (first | with_reducible exact Ext.refl _ | with_reducible assumption | with_reducible refine Ext.alloc ?_ _ | with_reducible refine Ext.drew ?_ | (with_reducible refine Ext.setAt ?_ _ _ _ ?_; rotate_left; omega) | with_reducible refine Ext.trans ?_ (by assumption) | with_reducible exact Past.bel _ | with_reducible refine Ext.trans ?_ (Past.bel _)))⟩
set_option maxHeartbeats 4000000 in
theorem walkCycleOf (s : ByteArray) (ma ra : Option Addr) (mc rc : Nat) (wk : Int) (nm : Nat → ByteArray) (c : CalN)  (w : World) (h : CalA w s ma ra mc rc nm c) :
    Calls Try.prog 3 #[.agg #[.string s, .slice ma c.n mc, .slice ra c.nr rc, .int .i64 wk]] w fun e w' => e = .returned (.bool true) ∧ Ext w w' := by
  have H := Lib.hid h
  clear h
  go_enter Try.func3, Try.ntmps3
  go_wp2_with fail
  refine (szCalendar_c s ma ra c.n mc c.nr rc wk nm c.dy c.lp _ _ H.out.nb H.out.rb (by omega) (by omega) H.out.sz H.out.nz (H.out.mem.mo.ext (by repeat (first | with_reducible exact Ext.refl _ | with_reducible assumption | with_reducible refine Ext.alloc ?_ _ | with_reducible refine Ext.drew ?_ | (with_reducible refine Ext.setAt ?_ _ _ _ ?_; rotate_left; omega) | with_reducible refine Ext.trans ?_ (by assumption) | with_reducible exact Past.bel _ | with_reducible refine Ext.trans ?_ (Past.bel _))))).mono ?_
  rintro e w' ⟨r, rfl, y0, y1, y2, hx1⟩
  (first | (obtain ⟨wx1, rfl⟩ := Past.again hx1) | (obtain ⟨wx1, rfl⟩ := Past.of hx1))
  by_cases c1 : r < 0
  · go_wp2_with fail
    go_ret
    exact ⟨rfl, (by repeat (first | with_reducible exact Ext.refl _ | with_reducible assumption | with_reducible refine Ext.alloc ?_ _ | with_reducible refine Ext.drew ?_ | (with_reducible refine Ext.setAt ?_ _ _ _ ?_; rotate_left; omega) | with_reducible refine Ext.trans ?_ (by assumption) | with_reducible exact Past.bel _ | with_reducible refine Ext.trans ?_ (Past.bel _)))⟩
  · obtain ⟨hm, hr⟩ := y2 (by omega)
    go_wp2_with fail
    refine (toCalendar_c s ma ra mc rc wk nm c _ hm hr (H.out.mem.ext (by repeat (first | with_reducible exact Ext.refl _ | with_reducible assumption | with_reducible refine Ext.alloc ?_ _ | with_reducible refine Ext.drew ?_ | (with_reducible refine Ext.setAt ?_ _ _ _ ?_; rotate_left; omega) | with_reducible refine Ext.trans ?_ (by assumption) | with_reducible exact Past.bel _ | with_reducible refine Ext.trans ?_ (Past.bel _))))).mono ?_
    rintro e w' ⟨g1, g2, _, _, rfl, hx2, hm2, -⟩
    have V2 := Lib.hid (H.out.v hm hr hm2)
    clear hm2
    (first | (obtain ⟨wx2, rfl⟩ := Past.again hx2) | (obtain ⟨wx2, rfl⟩ := Past.of hx2))
    go_wp2_with fail
    refine (specCycleOf_c wk (V2.out.ext (by repeat (first | with_reducible exact Ext.refl _ | with_reducible assumption | with_reducible refine Ext.alloc ?_ _ | with_reducible refine Ext.drew ?_ | (with_reducible refine Ext.setAt ?_ _ _ _ ?_; rotate_left; omega) | with_reducible refine Ext.trans ?_ (by assumption) | with_reducible exact Past.bel _ | with_reducible refine Ext.trans ?_ (Past.bel _))))).mono ?_
    rintro e w' ⟨rfl, hx3⟩
    (first | (obtain ⟨wx3, rfl⟩ := Past.again hx3) | (obtain ⟨wx3, rfl⟩ := Past.of hx3))
    go_wp2_with fail
    refine (toCalendar_c s ma ra mc rc wk nm c _ hm hr (H.out.mem.ext (by repeat (first | with_reducible exact Ext.refl _ | with_reducible assumption | with_reducible refine Ext.alloc ?_ _ | with_reducible refine Ext.drew ?_ | (with_reducible refine Ext.setAt ?_ _ _ _ ?_; rotate_left; omega) | with_reducible refine Ext.trans ?_ (by assumption) | with_reducible exact Past.bel _ | with_reducible refine Ext.trans ?_ (Past.bel _))))).mono ?_
    rintro e w' ⟨g3, g4, _, _, rfl, hx4, hm4, -⟩
    have HM4 := Lib.hid hm4
    have V4 := Lib.hid (H.out.v hm hr hm4)
    clear hm4
    (first | (obtain ⟨wx4, rfl⟩ := Past.again hx4) | (obtain ⟨wx4, rfl⟩ := Past.of hx4))
    go_wp2_with fail
    refine (implCycleOf_c wk (V4.out.ext (by repeat (first | with_reducible exact Ext.refl _ | with_reducible assumption | with_reducible refine Ext.alloc ?_ _ | with_reducible refine Ext.drew ?_ | (with_reducible refine Ext.setAt ?_ _ _ _ ?_; rotate_left; omega) | with_reducible refine Ext.trans ?_ (by assumption) | with_reducible exact Past.bel _ | with_reducible refine Ext.trans ?_ (Past.bel _))))).mono ?_
    rintro e w' ⟨rfl, hx5⟩
    (first | (obtain ⟨wx5, rfl⟩ := Past.again hx5) | (obtain ⟨wx5, rfl⟩ := Past.of hx5))
    go_wp2_with fail
    have PA := CalP.new 25 s ma ra mc rc wk H.out.mem
    have PB := CalP.new 32 s _ _ c.n c.nr wk HM4.out
    have SK : ∀ w', Ext wx5.out w' → (w'.cell? ⟨w.heap.size, 0, none⟩ = some (.string s) ∧ w'.cell? ⟨w.heap.size, 1, none⟩ = some (.slice ma c.n mc) ∧ w'.cell? ⟨w.heap.size, 2, none⟩ = some (.slice ra c.nr rc) ∧ w'.cell? ⟨w.heap.size, 3, none⟩ = some (.int .i64 wk) ∧ w'.cell? ⟨wx4.out.heap.size, 0, none⟩ = some (.string s) ∧ w'.cell? ⟨wx4.out.heap.size, 1, none⟩ = some (.slice (some ⟨g3, 0, none⟩) c.n c.n) ∧ w'.cell? ⟨wx4.out.heap.size, 2, none⟩ = some (.slice (some ⟨g4, 0, none⟩) c.nr c.nr) ∧ w'.cell? ⟨wx4.out.heap.size, 3, none⟩ = some (.int .i64 wk)) := fun w' hq => by
      have QA := PA.ext (w' := w') (by repeat (first | with_reducible exact Ext.refl _ | with_reducible assumption | with_reducible refine Ext.alloc ?_ _ | with_reducible refine Ext.drew ?_ | (with_reducible refine Ext.setAt ?_ _ _ _ ?_; rotate_left; omega) | with_reducible refine Ext.trans ?_ (by assumption) | with_reducible exact Past.bel _ | with_reducible refine Ext.trans ?_ (Past.bel _)))
      have QB := PB.ext (w' := w') (by repeat (first | with_reducible exact Ext.refl _ | with_reducible assumption | with_reducible refine Ext.alloc ?_ _ | with_reducible refine Ext.drew ?_ | (with_reducible refine Ext.setAt ?_ _ _ _ ?_; rotate_left; omega) | with_reducible refine Ext.trans ?_ (by assumption) | with_reducible exact Past.bel _ | with_reducible refine Ext.trans ?_ (Past.bel _)))
      exact ⟨QA.c0, QA.c1, QA.c2, QA.c3, QB.c0, QB.c1, QB.c2, QB.c3⟩
    have SKO := Lib.hid SK
    clear SK PA PB
    go_region_held3 (fun w' => w'.cell? ⟨w.heap.size, 0, none⟩ = some (.string s) ∧ w'.cell? ⟨w.heap.size, 1, none⟩ = some (.slice ma c.n mc) ∧ w'.cell? ⟨w.heap.size, 2, none⟩ = some (.slice ra c.nr rc) ∧ w'.cell? ⟨w.heap.size, 3, none⟩ = some (.int .i64 wk) ∧ w'.cell? ⟨wx4.out.heap.size, 0, none⟩ = some (.string s) ∧ w'.cell? ⟨wx4.out.heap.size, 1, none⟩ = some (.slice (some ⟨g3, 0, none⟩) c.n c.n) ∧ w'.cell? ⟨wx4.out.heap.size, 2, none⟩ = some (.slice (some ⟨g4, 0, none⟩) c.nr c.nr) ∧ w'.cell? ⟨wx4.out.heap.size, 3, none⟩ = some (.int .i64 wk)) (exact SKO.out _ (by repeat (first | with_reducible exact Ext.refl _ | with_reducible assumption | with_reducible refine Ext.alloc ?_ _ | with_reducible refine Ext.drew ?_ | (with_reducible refine Ext.setAt ?_ _ _ _ ?_; rotate_left; omega) | with_reducible refine Ext.trans ?_ (by assumption) | with_reducible exact Past.bel _ | with_reducible refine Ext.trans ?_ (Past.bel _))))
      (first | (go_at_call 14; ((with_reducible refine (toCalendar_c s ma ra mc rc wk nm c _ hm hr (H.out.mem.ext (by repeat (first | with_reducible exact Ext.refl _ | with_reducible assumption | with_reducible refine Ext.alloc ?_ _ | with_reducible refine Ext.drew ?_ | (with_reducible refine Ext.setAt ?_ _ _ _ ?_; rotate_left; omega) | with_reducible refine Ext.trans ?_ (by assumption) | with_reducible exact Past.bel _ | with_reducible refine Ext.trans ?_ (Past.bel _))))).mono ?_); rintro e w6 ⟨g5, g6, _, _, rfl, hx6, hm6, -⟩)) | (go_at_call 16; ((with_reducible refine (eqCalendar_self s _ _ _ _ _ _ _ _ wk nm c _ hm hr (HM4.out.ext (by repeat (first | with_reducible exact Ext.refl _ | with_reducible assumption | with_reducible refine Ext.alloc ?_ _ | with_reducible refine Ext.drew ?_ | (with_reducible refine Ext.setAt ?_ _ _ _ ?_; rotate_left; omega) | with_reducible refine Ext.trans ?_ (by assumption) | with_reducible exact Past.bel _ | with_reducible refine Ext.trans ?_ (Past.bel _)))) (hm6.ext (by repeat (first | with_reducible exact Ext.refl _ | with_reducible assumption | with_reducible refine Ext.alloc ?_ _ | with_reducible refine Ext.drew ?_ | (with_reducible refine Ext.setAt ?_ _ _ _ ?_; rotate_left; omega) | with_reducible refine Ext.trans ?_ (by assumption) | with_reducible exact Past.bel _ | with_reducible refine Ext.trans ?_ (Past.bel _))))).mono ?_); rintro e w7 ⟨rfl, hx7⟩)))
    all_goals
      go_wp2_with fail
      go_ret
      exact ⟨rfl, (by repeat (first | with_reducible exact Ext.refl _ | with_reducible assumption | with_reducible refine Ext.alloc ?_ _ | with_reducible refine Ext.drew ?_ | (with_reducible refine Ext.setAt ?_ _ _ _ ?_; rotate_left; omega) | with_reducible refine Ext.trans ?_ (by assumption) | with_reducible exact Past.bel _ | with_reducible refine Ext.trans ?_ (Past.bel _)))⟩
set_option maxHeartbeats 4000000 in
theorem walkLastDay (s : ByteArray) (ma ra : Option Addr) (mc rc : Nat) (wk : Int) (nm : Nat → ByteArray) (c : CalN)  (w : World) (h : CalA w s ma ra mc rc nm c) :
    Calls Try.prog 4 #[.agg #[.string s, .slice ma c.n mc, .slice ra c.nr rc, .int .i64 wk]] w fun e w' => e = .returned (.bool true) ∧ Ext w w' := by
  have H := Lib.hid h
  clear h
  go_enter Try.func4, Try.ntmps4
  go_wp2_with fail
  refine (szCalendar_c s ma ra c.n mc c.nr rc wk nm c.dy c.lp _ _ H.out.nb H.out.rb (by omega) (by omega) H.out.sz H.out.nz (H.out.mem.mo.ext (by repeat (first | with_reducible exact Ext.refl _ | with_reducible assumption | with_reducible refine Ext.alloc ?_ _ | with_reducible refine Ext.drew ?_ | (with_reducible refine Ext.setAt ?_ _ _ _ ?_; rotate_left; omega) | with_reducible refine Ext.trans ?_ (by assumption) | with_reducible exact Past.bel _ | with_reducible refine Ext.trans ?_ (Past.bel _))))).mono ?_
  rintro e w' ⟨r, rfl, y0, y1, y2, hx1⟩
  (first | (obtain ⟨wx1, rfl⟩ := Past.again hx1) | (obtain ⟨wx1, rfl⟩ := Past.of hx1))
  by_cases c1 : r < 0
  · go_wp2_with fail
    go_ret
    exact ⟨rfl, (by repeat (first | with_reducible exact Ext.refl _ | with_reducible assumption | with_reducible refine Ext.alloc ?_ _ | with_reducible refine Ext.drew ?_ | (with_reducible refine Ext.setAt ?_ _ _ _ ?_; rotate_left; omega) | with_reducible refine Ext.trans ?_ (by assumption) | with_reducible exact Past.bel _ | with_reducible refine Ext.trans ?_ (Past.bel _)))⟩
  · obtain ⟨hm, hr⟩ := y2 (by omega)
    go_wp2_with fail
    refine (toCalendar_c s ma ra mc rc wk nm c _ hm hr (H.out.mem.ext (by repeat (first | with_reducible exact Ext.refl _ | with_reducible assumption | with_reducible refine Ext.alloc ?_ _ | with_reducible refine Ext.drew ?_ | (with_reducible refine Ext.setAt ?_ _ _ _ ?_; rotate_left; omega) | with_reducible refine Ext.trans ?_ (by assumption) | with_reducible exact Past.bel _ | with_reducible refine Ext.trans ?_ (Past.bel _))))).mono ?_
    rintro e w' ⟨g1, g2, _, _, rfl, hx2, hm2, -⟩
    have V2 := Lib.hid (H.out.v hm hr hm2)
    clear hm2
    (first | (obtain ⟨wx2, rfl⟩ := Past.again hx2) | (obtain ⟨wx2, rfl⟩ := Past.of hx2))
    go_wp2_with fail
    refine (specLastDay_c wk (V2.out.ext (by repeat (first | with_reducible exact Ext.refl _ | with_reducible assumption | with_reducible refine Ext.alloc ?_ _ | with_reducible refine Ext.drew ?_ | (with_reducible refine Ext.setAt ?_ _ _ _ ?_; rotate_left; omega) | with_reducible refine Ext.trans ?_ (by assumption) | with_reducible exact Past.bel _ | with_reducible refine Ext.trans ?_ (Past.bel _))))).mono ?_
    rintro e w' ⟨rfl, hx3⟩
    (first | (obtain ⟨wx3, rfl⟩ := Past.again hx3) | (obtain ⟨wx3, rfl⟩ := Past.of hx3))
    go_wp2_with fail
    refine (toCalendar_c s ma ra mc rc wk nm c _ hm hr (H.out.mem.ext (by repeat (first | with_reducible exact Ext.refl _ | with_reducible assumption | with_reducible refine Ext.alloc ?_ _ | with_reducible refine Ext.drew ?_ | (with_reducible refine Ext.setAt ?_ _ _ _ ?_; rotate_left; omega) | with_reducible refine Ext.trans ?_ (by assumption) | with_reducible exact Past.bel _ | with_reducible refine Ext.trans ?_ (Past.bel _))))).mono ?_
    rintro e w' ⟨g3, g4, _, _, rfl, hx4, hm4, -⟩
    have HM4 := Lib.hid hm4
    have V4 := Lib.hid (H.out.v hm hr hm4)
    clear hm4
    (first | (obtain ⟨wx4, rfl⟩ := Past.again hx4) | (obtain ⟨wx4, rfl⟩ := Past.of hx4))
    go_wp2_with fail
    refine (implLastDay_c wk (V4.out.ext (by repeat (first | with_reducible exact Ext.refl _ | with_reducible assumption | with_reducible refine Ext.alloc ?_ _ | with_reducible refine Ext.drew ?_ | (with_reducible refine Ext.setAt ?_ _ _ _ ?_; rotate_left; omega) | with_reducible refine Ext.trans ?_ (by assumption) | with_reducible exact Past.bel _ | with_reducible refine Ext.trans ?_ (Past.bel _))))).mono ?_
    rintro e w' ⟨rfl, hx5⟩
    (first | (obtain ⟨wx5, rfl⟩ := Past.again hx5) | (obtain ⟨wx5, rfl⟩ := Past.of hx5))
    go_wp2_with fail
    have PA := CalP.new 25 s ma ra mc rc wk H.out.mem
    have PB := CalP.new 32 s _ _ c.n c.nr wk HM4.out
    have SK : ∀ w', Ext wx5.out w' → (w'.cell? ⟨w.heap.size, 0, none⟩ = some (.string s) ∧ w'.cell? ⟨w.heap.size, 1, none⟩ = some (.slice ma c.n mc) ∧ w'.cell? ⟨w.heap.size, 2, none⟩ = some (.slice ra c.nr rc) ∧ w'.cell? ⟨w.heap.size, 3, none⟩ = some (.int .i64 wk) ∧ w'.cell? ⟨wx4.out.heap.size, 0, none⟩ = some (.string s) ∧ w'.cell? ⟨wx4.out.heap.size, 1, none⟩ = some (.slice (some ⟨g3, 0, none⟩) c.n c.n) ∧ w'.cell? ⟨wx4.out.heap.size, 2, none⟩ = some (.slice (some ⟨g4, 0, none⟩) c.nr c.nr) ∧ w'.cell? ⟨wx4.out.heap.size, 3, none⟩ = some (.int .i64 wk)) := fun w' hq => by
      have QA := PA.ext (w' := w') (by repeat (first | with_reducible exact Ext.refl _ | with_reducible assumption | with_reducible refine Ext.alloc ?_ _ | with_reducible refine Ext.drew ?_ | (with_reducible refine Ext.setAt ?_ _ _ _ ?_; rotate_left; omega) | with_reducible refine Ext.trans ?_ (by assumption) | with_reducible exact Past.bel _ | with_reducible refine Ext.trans ?_ (Past.bel _)))
      have QB := PB.ext (w' := w') (by repeat (first | with_reducible exact Ext.refl _ | with_reducible assumption | with_reducible refine Ext.alloc ?_ _ | with_reducible refine Ext.drew ?_ | (with_reducible refine Ext.setAt ?_ _ _ _ ?_; rotate_left; omega) | with_reducible refine Ext.trans ?_ (by assumption) | with_reducible exact Past.bel _ | with_reducible refine Ext.trans ?_ (Past.bel _)))
      exact ⟨QA.c0, QA.c1, QA.c2, QA.c3, QB.c0, QB.c1, QB.c2, QB.c3⟩
    have SKO := Lib.hid SK
    clear SK PA PB
    go_region_held3 (fun w' => w'.cell? ⟨w.heap.size, 0, none⟩ = some (.string s) ∧ w'.cell? ⟨w.heap.size, 1, none⟩ = some (.slice ma c.n mc) ∧ w'.cell? ⟨w.heap.size, 2, none⟩ = some (.slice ra c.nr rc) ∧ w'.cell? ⟨w.heap.size, 3, none⟩ = some (.int .i64 wk) ∧ w'.cell? ⟨wx4.out.heap.size, 0, none⟩ = some (.string s) ∧ w'.cell? ⟨wx4.out.heap.size, 1, none⟩ = some (.slice (some ⟨g3, 0, none⟩) c.n c.n) ∧ w'.cell? ⟨wx4.out.heap.size, 2, none⟩ = some (.slice (some ⟨g4, 0, none⟩) c.nr c.nr) ∧ w'.cell? ⟨wx4.out.heap.size, 3, none⟩ = some (.int .i64 wk)) (exact SKO.out _ (by repeat (first | with_reducible exact Ext.refl _ | with_reducible assumption | with_reducible refine Ext.alloc ?_ _ | with_reducible refine Ext.drew ?_ | (with_reducible refine Ext.setAt ?_ _ _ _ ?_; rotate_left; omega) | with_reducible refine Ext.trans ?_ (by assumption) | with_reducible exact Past.bel _ | with_reducible refine Ext.trans ?_ (Past.bel _))))
      (first | (go_at_call 14; ((with_reducible refine (toCalendar_c s ma ra mc rc wk nm c _ hm hr (H.out.mem.ext (by repeat (first | with_reducible exact Ext.refl _ | with_reducible assumption | with_reducible refine Ext.alloc ?_ _ | with_reducible refine Ext.drew ?_ | (with_reducible refine Ext.setAt ?_ _ _ _ ?_; rotate_left; omega) | with_reducible refine Ext.trans ?_ (by assumption) | with_reducible exact Past.bel _ | with_reducible refine Ext.trans ?_ (Past.bel _))))).mono ?_); rintro e w6 ⟨g5, g6, _, _, rfl, hx6, hm6, -⟩)) | (go_at_call 16; ((with_reducible refine (eqCalendar_self s _ _ _ _ _ _ _ _ wk nm c _ hm hr (HM4.out.ext (by repeat (first | with_reducible exact Ext.refl _ | with_reducible assumption | with_reducible refine Ext.alloc ?_ _ | with_reducible refine Ext.drew ?_ | (with_reducible refine Ext.setAt ?_ _ _ _ ?_; rotate_left; omega) | with_reducible refine Ext.trans ?_ (by assumption) | with_reducible exact Past.bel _ | with_reducible refine Ext.trans ?_ (Past.bel _)))) (hm6.ext (by repeat (first | with_reducible exact Ext.refl _ | with_reducible assumption | with_reducible refine Ext.alloc ?_ _ | with_reducible refine Ext.drew ?_ | (with_reducible refine Ext.setAt ?_ _ _ _ ?_; rotate_left; omega) | with_reducible refine Ext.trans ?_ (by assumption) | with_reducible exact Past.bel _ | with_reducible refine Ext.trans ?_ (Past.bel _))))).mono ?_); rintro e w7 ⟨rfl, hx7⟩)))
    all_goals
      go_wp2_with fail
      go_ret
      exact ⟨rfl, (by repeat (first | with_reducible exact Ext.refl _ | with_reducible assumption | with_reducible refine Ext.alloc ?_ _ | with_reducible refine Ext.drew ?_ | (with_reducible refine Ext.setAt ?_ _ _ _ ?_; rotate_left; omega) | with_reducible refine Ext.trans ?_ (by assumption) | with_reducible exact Past.bel _ | with_reducible refine Ext.trans ?_ (Past.bel _)))⟩
set_option maxHeartbeats 4000000 in
theorem walkDateOf (s : ByteArray) (ma ra : Option Addr) (mc rc : Nat) (wk : Int) (nm : Nat → ByteArray) (c : CalN) (x : Int) (w : World) (h : CalA w s ma ra mc rc nm c) :
    Calls Try.prog 8 #[.agg #[.string s, .slice ma c.n mc, .slice ra c.nr rc, .int .i64 wk], .int .i64 x] w fun e w' => e = .returned (.bool true) ∧ Ext w w' := by
  have H := Lib.hid h
  clear h
  obtain ⟨Y, M, D, hr⟩ := (DtR.mk' (c := c) (ok := calB s nm c wk && inB x 0 (c.bef 10000 - 1)) (x := x) (fun h => by rw [Bool.and_eq_true] at h; have h2 := inB_t.1 h.2; exact ⟨calB_b h.1, by omega, by omega⟩))
  have HR := Lib.hid hr
  clear hr
  go_enter Try.func8, Try.ntmps8
  go_wp2_with fail
  refine (szCalendar_c s ma ra c.n mc c.nr rc wk nm c.dy c.lp _ _ H.out.nb H.out.rb (by omega) (by omega) H.out.sz H.out.nz (H.out.mem.mo.ext (by repeat (first | with_reducible exact Ext.refl _ | with_reducible assumption | with_reducible refine Ext.alloc ?_ _ | with_reducible refine Ext.drew ?_ | (with_reducible refine Ext.setAt ?_ _ _ _ ?_; rotate_left; omega) | with_reducible refine Ext.trans ?_ (by assumption) | with_reducible exact Past.bel _ | with_reducible refine Ext.trans ?_ (Past.bel _))))).mono ?_
  rintro e w' ⟨r, rfl, y0, y1, y2, hx1⟩
  (first | (obtain ⟨wx1, rfl⟩ := Past.again hx1) | (obtain ⟨wx1, rfl⟩ := Past.of hx1))
  by_cases c1 : r < 0
  · go_wp2_with fail
    go_ret
    exact ⟨rfl, (by repeat (first | with_reducible exact Ext.refl _ | with_reducible assumption | with_reducible refine Ext.alloc ?_ _ | with_reducible refine Ext.drew ?_ | (with_reducible refine Ext.setAt ?_ _ _ _ ?_; rotate_left; omega) | with_reducible refine Ext.trans ?_ (by assumption) | with_reducible exact Past.bel _ | with_reducible refine Ext.trans ?_ (Past.bel _)))⟩
  · obtain ⟨hm, hr⟩ := y2 (by omega)
    go_wp2_with fail
    refine (toCalendar_c s ma ra mc rc wk nm c _ hm hr (H.out.mem.ext (by repeat (first | with_reducible exact Ext.refl _ | with_reducible assumption | with_reducible refine Ext.alloc ?_ _ | with_reducible refine Ext.drew ?_ | (with_reducible refine Ext.setAt ?_ _ _ _ ?_; rotate_left; omega) | with_reducible refine Ext.trans ?_ (by assumption) | with_reducible exact Past.bel _ | with_reducible refine Ext.trans ?_ (Past.bel _))))).mono ?_
    rintro e w' ⟨g1, g2, _, _, rfl, hx2, hm2, -⟩
    have V2 := Lib.hid (H.out.v hm hr hm2)
    clear hm2
    (first | (obtain ⟨wx2, rfl⟩ := Past.again hx2) | (obtain ⟨wx2, rfl⟩ := Past.of hx2))
    go_wp2_with fail
    refine (specDateOf_c wk x (V2.out.ext (by repeat (first | with_reducible exact Ext.refl _ | with_reducible assumption | with_reducible refine Ext.alloc ?_ _ | with_reducible refine Ext.drew ?_ | (with_reducible refine Ext.setAt ?_ _ _ _ ?_; rotate_left; omega) | with_reducible refine Ext.trans ?_ (by assumption) | with_reducible exact Past.bel _ | with_reducible refine Ext.trans ?_ (Past.bel _)))) HR.out).mono ?_
    rintro e w' ⟨rfl, hx3⟩
    (first | (obtain ⟨wx3, rfl⟩ := Past.again hx3) | (obtain ⟨wx3, rfl⟩ := Past.of hx3))
    go_wp2_with fail
    refine (toCalendar_c s ma ra mc rc wk nm c _ hm hr (H.out.mem.ext (by repeat (first | with_reducible exact Ext.refl _ | with_reducible assumption | with_reducible refine Ext.alloc ?_ _ | with_reducible refine Ext.drew ?_ | (with_reducible refine Ext.setAt ?_ _ _ _ ?_; rotate_left; omega) | with_reducible refine Ext.trans ?_ (by assumption) | with_reducible exact Past.bel _ | with_reducible refine Ext.trans ?_ (Past.bel _))))).mono ?_
    rintro e w' ⟨g3, g4, _, _, rfl, hx4, hm4, -⟩
    have HM4 := Lib.hid hm4
    have V4 := Lib.hid (H.out.v hm hr hm4)
    clear hm4
    (first | (obtain ⟨wx4, rfl⟩ := Past.again hx4) | (obtain ⟨wx4, rfl⟩ := Past.of hx4))
    go_wp2_with fail
    refine (implDateOf_c wk x (V4.out.ext (by repeat (first | with_reducible exact Ext.refl _ | with_reducible assumption | with_reducible refine Ext.alloc ?_ _ | with_reducible refine Ext.drew ?_ | (with_reducible refine Ext.setAt ?_ _ _ _ ?_; rotate_left; omega) | with_reducible refine Ext.trans ?_ (by assumption) | with_reducible exact Past.bel _ | with_reducible refine Ext.trans ?_ (Past.bel _)))) HR.out).mono ?_
    rintro e w' ⟨rfl, hx5⟩
    (first | (obtain ⟨wx5, rfl⟩ := Past.again hx5) | (obtain ⟨wx5, rfl⟩ := Past.of hx5))
    have s4 := wx4.bel.size
    have s5 := wx5.bel.size
    simp only [World.size_alloc] at s4 s5
    have g3' : wx3.out.heap.size < wx4.out.heap.size := by omega
    have g4' : wx3.out.heap.size < wx5.out.heap.size := by omega
    go_wp2_with fail
    refine (eqDate_self _ _ _ _).mono ?_
    rintro e w' ⟨rfl, hx55⟩
    (first | (obtain ⟨wx55, rfl⟩ := Past.again hx55) | (obtain ⟨wx55, rfl⟩ := Past.of hx55))
    go_wp2_with fail
    have PA := CalP.new 25 s ma ra mc rc wk H.out.mem
    have PB := CalP.new 32 s _ _ c.n c.nr wk HM4.out
    have SK : ∀ w', Ext (wx4.out.alloc (.cells #[.string s, .slice (some ⟨g3, 0, none⟩) c.n c.n, .slice (some ⟨g4, 0, none⟩) c.nr c.nr, .int .i64 wk] 32)) w' → (w'.cell? ⟨w.heap.size, 0, none⟩ = some (.string s) ∧ w'.cell? ⟨w.heap.size, 1, none⟩ = some (.slice ma c.n mc) ∧ w'.cell? ⟨w.heap.size, 2, none⟩ = some (.slice ra c.nr rc) ∧ w'.cell? ⟨w.heap.size, 3, none⟩ = some (.int .i64 wk) ∧ w'.cell? ⟨wx4.out.heap.size, 0, none⟩ = some (.string s) ∧ w'.cell? ⟨wx4.out.heap.size, 1, none⟩ = some (.slice (some ⟨g3, 0, none⟩) c.n c.n) ∧ w'.cell? ⟨wx4.out.heap.size, 2, none⟩ = some (.slice (some ⟨g4, 0, none⟩) c.nr c.nr) ∧ w'.cell? ⟨wx4.out.heap.size, 3, none⟩ = some (.int .i64 wk)) := fun w' hq => by
      have QA := PA.ext (w' := w') (by repeat (first | with_reducible exact Ext.refl _ | with_reducible assumption | with_reducible refine Ext.alloc ?_ _ | with_reducible refine Ext.drew ?_ | (with_reducible refine Ext.setAt ?_ _ _ _ ?_; rotate_left; omega) | with_reducible refine Ext.trans ?_ (by assumption) | with_reducible exact Past.bel _ | with_reducible refine Ext.trans ?_ (Past.bel _)))
      have QB := PB.ext (w' := w') (by repeat (first | with_reducible exact Ext.refl _ | with_reducible assumption | with_reducible refine Ext.alloc ?_ _ | with_reducible refine Ext.drew ?_ | (with_reducible refine Ext.setAt ?_ _ _ _ ?_; rotate_left; omega) | with_reducible refine Ext.trans ?_ (by assumption) | with_reducible exact Past.bel _ | with_reducible refine Ext.trans ?_ (Past.bel _)))
      exact ⟨QA.c0, QA.c1, QA.c2, QA.c3, QB.c0, QB.c1, QB.c2, QB.c3⟩
    have SKO := Lib.hid SK
    clear SK PA PB
    go_region_held3 (fun w' => w'.cell? ⟨w.heap.size, 0, none⟩ = some (.string s) ∧ w'.cell? ⟨w.heap.size, 1, none⟩ = some (.slice ma c.n mc) ∧ w'.cell? ⟨w.heap.size, 2, none⟩ = some (.slice ra c.nr rc) ∧ w'.cell? ⟨w.heap.size, 3, none⟩ = some (.int .i64 wk) ∧ w'.cell? ⟨wx4.out.heap.size, 0, none⟩ = some (.string s) ∧ w'.cell? ⟨wx4.out.heap.size, 1, none⟩ = some (.slice (some ⟨g3, 0, none⟩) c.n c.n) ∧ w'.cell? ⟨wx4.out.heap.size, 2, none⟩ = some (.slice (some ⟨g4, 0, none⟩) c.nr c.nr) ∧ w'.cell? ⟨wx4.out.heap.size, 3, none⟩ = some (.int .i64 wk)) (exact SKO.out _ (by repeat (first | with_reducible exact Ext.refl _ | with_reducible assumption | with_reducible refine Ext.alloc ?_ _ | with_reducible refine Ext.drew ?_ | (with_reducible refine Ext.setAt ?_ _ _ _ ?_; rotate_left; omega) | with_reducible refine Ext.trans ?_ (by assumption) | with_reducible exact Past.bel _ | with_reducible refine Ext.trans ?_ (Past.bel _))))
      (first | (go_at_call 14; ((with_reducible refine (toCalendar_c s ma ra mc rc wk nm c _ hm hr (H.out.mem.ext (by repeat (first | with_reducible exact Ext.refl _ | with_reducible assumption | with_reducible refine Ext.alloc ?_ _ | with_reducible refine Ext.drew ?_ | (with_reducible refine Ext.setAt ?_ _ _ _ ?_; rotate_left; omega) | with_reducible refine Ext.trans ?_ (by assumption) | with_reducible exact Past.bel _ | with_reducible refine Ext.trans ?_ (Past.bel _))))).mono ?_); rintro e w6 ⟨g5, g6, _, _, rfl, hx6, hm6, -⟩)) | (go_at_call 16; ((with_reducible refine (eqCalendar_self s _ _ _ _ _ _ _ _ wk nm c _ hm hr (HM4.out.ext (by repeat (first | with_reducible exact Ext.refl _ | with_reducible assumption | with_reducible refine Ext.alloc ?_ _ | with_reducible refine Ext.drew ?_ | (with_reducible refine Ext.setAt ?_ _ _ _ ?_; rotate_left; omega) | with_reducible refine Ext.trans ?_ (by assumption) | with_reducible exact Past.bel _ | with_reducible refine Ext.trans ?_ (Past.bel _)))) (hm6.ext (by repeat (first | with_reducible exact Ext.refl _ | with_reducible assumption | with_reducible refine Ext.alloc ?_ _ | with_reducible refine Ext.drew ?_ | (with_reducible refine Ext.setAt ?_ _ _ _ ?_; rotate_left; omega) | with_reducible refine Ext.trans ?_ (by assumption) | with_reducible exact Past.bel _ | with_reducible refine Ext.trans ?_ (Past.bel _))))).mono ?_); rintro e w7 ⟨rfl, hx7⟩)))
    all_goals
      go_wp2_with fail
      go_ret
      exact ⟨rfl, (by repeat (first | with_reducible exact Ext.refl _ | with_reducible assumption | with_reducible refine Ext.alloc ?_ _ | with_reducible refine Ext.drew ?_ | (with_reducible refine Ext.setAt ?_ _ _ _ ?_; rotate_left; omega) | with_reducible refine Ext.trans ?_ (by assumption) | with_reducible exact Past.bel _ | with_reducible refine Ext.trans ?_ (Past.bel _)))⟩
end Go.Proofs.Ytggkemiklknmkaa

namespace Go.Proofs.Ytggkemiklknmkaa
open Go.RowKit
set_option linter.unusedVariables false
set_option linter.unusedSimpArgs false

set_option maxHeartbeats 8000000 in
theorem walkAddDays (s : ByteArray) (ma ra : Option Addr) (mc rc : Nat) (wk : Int) (nm : Nat → ByteArray) (c : CalN) (y m d k : Int) (w : World) (h : CalA w s ma ra mc rc nm c) :
    Calls Try.prog 10 #[.agg #[.string s, .slice ma c.n mc, .slice ra c.nr rc, .int .i64 wk], .agg #[.int .i64 y, .int .i64 m, .int .i64 d], .int .i64 k] w fun e w' => e = .returned (.bool true) ∧ Ext w w' := by
  have H := Lib.hid h
  clear h
  obtain ⟨Y, M, D, hdr⟩ := DtR.mk' (c := c) (ok := calB s nm c wk && adB c y m d k) (x := dnum c y m d + k) (fun h => by rw [Bool.and_eq_true] at h; have h2 := h.2; rw [adB, Bool.and_eq_true] at h2; have h3 := inB_t.1 h2.2; exact ⟨calB_b h.1, by omega, by omega⟩)
  obtain ⟨K, hK⟩ : ∃ K, K = adC s nm c wk y m d k := ⟨_, rfl⟩
  have hsp : ∀ (m2 r2 : Option Addr) (W : World), CalV W s m2 r2 c.n c.nr nm c → Calls Try.prog 32 #[.agg #[.string s, .slice m2 c.n c.n, .slice r2 c.nr c.nr, .int .i64 wk], .agg #[.int .i64 y, .int .i64 m, .int .i64 d], .int .i64 k] W fun e w' => e = .returned (.tuple #[.agg #[.int .i64 Y, .int .i64 M, .int .i64 D], .int .i64 K]) ∧ Ext W w' := fun _ _ _ hv => by rw [hK]; exact specAddDays_c wk y m d k hv hdr
  have him : ∀ (m2 r2 : Option Addr) (W : World), CalV W s m2 r2 c.n c.nr nm c → Calls Try.prog 33 #[.agg #[.string s, .slice m2 c.n c.n, .slice r2 c.nr c.nr, .int .i64 wk], .agg #[.int .i64 y, .int .i64 m, .int .i64 d], .int .i64 k] W fun e w' => e = .returned (.tuple #[.agg #[.int .i64 Y, .int .i64 M, .int .i64 D], .int .i64 K]) ∧ Ext W w' := fun _ _ _ hv => by rw [hK]; exact implAddDays_c wk y m d k hv hdr
  have HSP := Lib.hid hsp
  have HIM := Lib.hid him
  clear hsp him hK hdr
  have PA := (CalP.new 25 s ma ra mc rc wk H.out.mem).ext ((Ext.refl _).alloc (.cells #[.int .i64 y, .int .i64 m, .int .i64 d] 39))
  have SK : ∀ w', Ext ((w.alloc (.cells #[.string s, .slice ma c.n mc, .slice ra c.nr rc, .int .i64 wk] 25)).alloc (.cells #[.int .i64 y, .int .i64 m, .int .i64 d] 39)) w' → ((w'.cell? ⟨w.heap.size, 0, none⟩ = some (.string s) ∧ w'.cell? ⟨w.heap.size, 1, none⟩ = some (.slice ma c.n mc) ∧ w'.cell? ⟨w.heap.size, 2, none⟩ = some (.slice ra c.nr rc) ∧ w'.cell? ⟨w.heap.size, 3, none⟩ = some (.int .i64 wk)) ∧ (w'.cell? ⟨w.heap.size + 1, 0, none⟩ = some (.int .i64 y) ∧ w'.cell? ⟨w.heap.size + 1, 1, none⟩ = some (.int .i64 m) ∧ w'.cell? ⟨w.heap.size + 1, 2, none⟩ = some (.int .i64 d))) := fun w' hq => by
    have QA := PA.ext (w' := w') hq
    refine ⟨⟨QA.c0, QA.c1, QA.c2, QA.c3⟩, ?_, ?_, ?_⟩ <;> (rw [hq.cell (by simp <;> omega)]; simp [go_sem])
  have SKO := Lib.hid SK
  clear SK PA
  go_enter Try.func10, Try.ntmps10
  go_wp2_with fail
  refine (szCalendar_c s ma ra c.n mc c.nr rc wk nm c.dy c.lp _ _ H.out.nb H.out.rb (by omega) (by omega) H.out.sz H.out.nz (H.out.mem.mo.ext (by repeat (first | with_reducible exact Ext.refl _ | with_reducible assumption | with_reducible refine Ext.alloc ?_ _ | with_reducible refine Ext.drew ?_ | (with_reducible refine Ext.setAt ?_ _ _ _ ?_; rotate_left; omega) | with_reducible refine Ext.trans ?_ (by assumption) | with_reducible exact Past.bel _ | with_reducible refine Ext.trans ?_ (Past.bel _))))).mono ?_
  rintro e w' ⟨r, rfl, y0, y1, y2, hx1⟩
  (first | (obtain ⟨wx1, rfl⟩ := Past.again hx1) | (obtain ⟨wx1, rfl⟩ := Past.of hx1))
  have hz1 := Past.size wx1
  simp only [World.size_alloc] at hz1
  by_cases c1 : r < 0
  · go_wp2_with fail
    go_ret
    exact ⟨rfl, (by repeat (first | with_reducible exact Ext.refl _ | with_reducible assumption | with_reducible refine Ext.alloc ?_ _ | with_reducible refine Ext.drew ?_ | (with_reducible refine Ext.setAt ?_ _ _ _ ?_; rotate_left; omega) | with_reducible refine Ext.trans ?_ (by assumption) | with_reducible exact Past.bel _ | with_reducible refine Ext.trans ?_ (Past.bel _)))⟩
  · obtain ⟨hm, hr⟩ := y2 (by omega)
    go_upto_region 5 with fail
    go_cut [8, 9] (fun s8 s9 wx => ∃ gd : Nat, s8 = .pointer (some ⟨gd, 0, none⟩) ∧ s9 = .int .i64 K ∧ Ext ((w.alloc (.cells #[.string s, .slice ma c.n mc, .slice ra c.nr rc, .int .i64 wk] 25)).alloc (.cells #[.int .i64 y, .int .i64 m, .int .i64 d] 39)) wx ∧ gd < wx.heap.size ∧ (wx.cell? ⟨gd, 0, none⟩ = some (.int .i64 Y) ∧ wx.cell? ⟨gd, 1, none⟩ = some (.int .i64 M) ∧ wx.cell? ⟨gd, 2, none⟩ = some (.int .i64 D)))
    case first =>
      go_region_held3 (fun w' => ((w'.cell? ⟨w.heap.size, 0, none⟩ = some (.string s) ∧ w'.cell? ⟨w.heap.size, 1, none⟩ = some (.slice ma c.n mc) ∧ w'.cell? ⟨w.heap.size, 2, none⟩ = some (.slice ra c.nr rc) ∧ w'.cell? ⟨w.heap.size, 3, none⟩ = some (.int .i64 wk)) ∧ (w'.cell? ⟨w.heap.size + 1, 0, none⟩ = some (.int .i64 y) ∧ w'.cell? ⟨w.heap.size + 1, 1, none⟩ = some (.int .i64 m) ∧ w'.cell? ⟨w.heap.size + 1, 2, none⟩ = some (.int .i64 d)))) (exact SKO.out _ (by repeat (first | with_reducible exact Ext.refl _ | with_reducible assumption | with_reducible refine Ext.alloc ?_ _ | with_reducible refine Ext.drew ?_ | (with_reducible refine Ext.setAt ?_ _ _ _ ?_; rotate_left; (first | omega | with_reducible exact Past.size _ | (simp only [World.size_alloc, World.size_drew, World.size_setCell]; omega))) | with_reducible refine Ext.trans ?_ (by assumption) | with_reducible exact Past.bel _ | with_reducible refine Ext.trans ?_ (Past.bel _))))
        (first | (go_at_call 14; ((with_reducible refine (toCalendar_c s ma ra mc rc wk nm c _ hm hr (H.out.mem.ext (by repeat (first | with_reducible exact Ext.refl _ | with_reducible assumption | with_reducible refine Ext.alloc ?_ _ | with_reducible refine Ext.drew ?_ | (with_reducible refine Ext.setAt ?_ _ _ _ ?_; rotate_left; omega) | with_reducible refine Ext.trans ?_ (by assumption) | with_reducible exact Past.bel _ | with_reducible refine Ext.trans ?_ (Past.bel _))))).mono ?_); rintro e w' ⟨g1, g2, _, _, rfl, hx6, hm2, -⟩; (first | (obtain ⟨wx6, rfl⟩ := Past.again hx6) | (obtain ⟨wx6, rfl⟩ := Past.ofd hx6) | (obtain ⟨wx6, rfl⟩ := Past.of hx6)); have hz6 := Past.size wx6; (try simp only [World.size_alloc, World.size_drew] at hz6))) | (go_at_call 20; ((with_reducible refine (toDate_c _ _ _ _).mono ?_); rintro e w' ⟨rfl, hx7⟩; (first | (obtain ⟨wx7, rfl⟩ := Past.again hx7) | (obtain ⟨wx7, rfl⟩ := Past.ofd hx7) | (obtain ⟨wx7, rfl⟩ := Past.of hx7)); have hz7 := Past.size wx7; (try simp only [World.size_alloc, World.size_drew] at hz7))) | (go_at_call 32; ((with_reducible refine (HSP.out _ _ _ ((H.out.v hm hr hm2).ext (by repeat (first | with_reducible exact Ext.refl _ | with_reducible assumption | with_reducible refine Ext.alloc ?_ _ | with_reducible refine Ext.drew ?_ | (with_reducible refine Ext.setAt ?_ _ _ _ ?_; rotate_left; omega) | with_reducible refine Ext.trans ?_ (by assumption) | with_reducible exact Past.bel _ | with_reducible refine Ext.trans ?_ (Past.bel _))))).mono ?_); rintro e w' ⟨rfl, hx8⟩; (first | (obtain ⟨wx8, rfl⟩ := Past.again hx8) | (obtain ⟨wx8, rfl⟩ := Past.ofd hx8) | (obtain ⟨wx8, rfl⟩ := Past.of hx8)); have hz8 := Past.size wx8; (try simp only [World.size_alloc, World.size_drew] at hz8))))
      all_goals (go_wp2_with fail; go_meet; exact ⟨_, rfl, rfl, (by repeat (first | with_reducible exact Ext.refl _ | with_reducible assumption | with_reducible refine Ext.alloc ?_ _ | with_reducible refine Ext.drew ?_ | (with_reducible refine Ext.setAt ?_ _ _ _ ?_; rotate_left; (first | omega | with_reducible exact Past.size _ | (simp only [World.size_alloc, World.size_drew, World.size_setCell]; omega))) | with_reducible refine Ext.trans ?_ (by assumption) | with_reducible exact Past.bel _ | with_reducible refine Ext.trans ?_ (Past.bel _))), by simp; try omega, by simp [go_sem]⟩)
    case rest =>
      obtain ⟨gd, rfl, rfl, hx3, hgd, q0, q1, q2⟩ := hcut
      obtain ⟨v0, rfl⟩ : ∃ v0 : World, v0 = wc := ⟨_, rfl⟩
      obtain ⟨⟨a0, a1, a2, a3⟩, a4⟩ := SKO.out v0 hx3
      go_wp2_with fail
      refine (toCalendar_c s ma ra mc rc wk nm c _ hm hr (H.out.mem.ext (by repeat (first | with_reducible exact Ext.refl _ | with_reducible assumption | with_reducible refine Ext.alloc ?_ _ | with_reducible refine Ext.drew ?_ | (with_reducible refine Ext.setAt ?_ _ _ _ ?_; rotate_left; omega) | with_reducible refine Ext.trans ?_ (by assumption) | with_reducible exact Past.bel _ | with_reducible refine Ext.trans ?_ (Past.bel _))))).mono ?_
      rintro e w' ⟨g3, g4, _, _, rfl, hx4, hm4, -⟩
      have V4 := Lib.hid (H.out.v hm hr hm4)
      clear hm4
      obtain ⟨wx4, rfl⟩ := Past.of hx4
      have s4 := wx4.bel.size
      have DD := Lib.hid (show ∀ w', Ext v0 w' → (w'.cell? ⟨gd, 0, none⟩ = some (.int .i64 Y) ∧ w'.cell? ⟨gd, 1, none⟩ = some (.int .i64 M) ∧ w'.cell? ⟨gd, 2, none⟩ = some (.int .i64 D)) from fun w' hq => ⟨(hq.cell hgd).trans q0, (hq.cell hgd).trans q1, (hq.cell hgd).trans q2⟩)
      have PB := CalP.new 32 s _ _ c.n c.nr wk V4.out.mem
      have SK : ∀ w', Ext (wx4.out.alloc (.cells #[.string s, .slice (some ⟨g3, 0, none⟩) c.n c.n, .slice (some ⟨g4, 0, none⟩) c.nr c.nr, .int .i64 wk] 32)) w' → (((w'.cell? ⟨w.heap.size, 0, none⟩ = some (.string s) ∧ w'.cell? ⟨w.heap.size, 1, none⟩ = some (.slice ma c.n mc) ∧ w'.cell? ⟨w.heap.size, 2, none⟩ = some (.slice ra c.nr rc) ∧ w'.cell? ⟨w.heap.size, 3, none⟩ = some (.int .i64 wk)) ∧ (w'.cell? ⟨w.heap.size + 1, 0, none⟩ = some (.int .i64 y) ∧ w'.cell? ⟨w.heap.size + 1, 1, none⟩ = some (.int .i64 m) ∧ w'.cell? ⟨w.heap.size + 1, 2, none⟩ = some (.int .i64 d))) ∧ (w'.cell? ⟨gd, 0, none⟩ = some (.int .i64 Y) ∧ w'.cell? ⟨gd, 1, none⟩ = some (.int .i64 M) ∧ w'.cell? ⟨gd, 2, none⟩ = some (.int .i64 D)) ∧ (w'.cell? ⟨wx4.out.heap.size, 0, none⟩ = some (.string s) ∧ w'.cell? ⟨wx4.out.heap.size, 1, none⟩ = some (.slice (some ⟨g3, 0, none⟩) c.n c.n) ∧ w'.cell? ⟨wx4.out.heap.size, 2, none⟩ = some (.slice (some ⟨g4, 0, none⟩) c.nr c.nr) ∧ w'.cell? ⟨wx4.out.heap.size, 3, none⟩ = some (.int .i64 wk))) := fun w' hq => by
        have QB := PB.ext (w' := w') hq
        have hv : Ext v0 w' := Ext.trans (Ext.alloc (Past.bel wx4) _) hq
        exact ⟨SKO.out w' (Ext.trans hx3 hv), DD.out w' hv, QB.c0, QB.c1, QB.c2, QB.c3⟩
      have SK2 := Lib.hid SK
      have hw0 : Ext w v0 := Ext.trans (by repeat (first | with_reducible exact Ext.refl _ | with_reducible assumption | with_reducible refine Ext.alloc ?_ _ | with_reducible refine Ext.drew ?_ | (with_reducible refine Ext.setAt ?_ _ _ _ ?_; rotate_left; omega) | with_reducible refine Ext.trans ?_ (by assumption) | with_reducible exact Past.bel _ | with_reducible refine Ext.trans ?_ (Past.bel _))) hx3
      clear SK PB q0 q1 q2
      go_upto_region 7 with fail
      go_cut [11, 12] (fun s8 s9 wx => ∃ ge : Nat, s8 = .pointer (some ⟨ge, 0, none⟩) ∧ s9 = .int .i64 K ∧ Ext (wx4.out.alloc (.cells #[.string s, .slice (some ⟨g3, 0, none⟩) c.n c.n, .slice (some ⟨g4, 0, none⟩) c.nr c.nr, .int .i64 wk] 32)) wx ∧ ge < wx.heap.size ∧ (wx.cell? ⟨ge, 0, none⟩ = some (.int .i64 Y) ∧ wx.cell? ⟨ge, 1, none⟩ = some (.int .i64 M) ∧ wx.cell? ⟨ge, 2, none⟩ = some (.int .i64 D)))
      case first =>
        go_region_held3 (fun w' => (((w'.cell? ⟨w.heap.size, 0, none⟩ = some (.string s) ∧ w'.cell? ⟨w.heap.size, 1, none⟩ = some (.slice ma c.n mc) ∧ w'.cell? ⟨w.heap.size, 2, none⟩ = some (.slice ra c.nr rc) ∧ w'.cell? ⟨w.heap.size, 3, none⟩ = some (.int .i64 wk)) ∧ (w'.cell? ⟨w.heap.size + 1, 0, none⟩ = some (.int .i64 y) ∧ w'.cell? ⟨w.heap.size + 1, 1, none⟩ = some (.int .i64 m) ∧ w'.cell? ⟨w.heap.size + 1, 2, none⟩ = some (.int .i64 d))) ∧ (w'.cell? ⟨gd, 0, none⟩ = some (.int .i64 Y) ∧ w'.cell? ⟨gd, 1, none⟩ = some (.int .i64 M) ∧ w'.cell? ⟨gd, 2, none⟩ = some (.int .i64 D)) ∧ (w'.cell? ⟨wx4.out.heap.size, 0, none⟩ = some (.string s) ∧ w'.cell? ⟨wx4.out.heap.size, 1, none⟩ = some (.slice (some ⟨g3, 0, none⟩) c.n c.n) ∧ w'.cell? ⟨wx4.out.heap.size, 2, none⟩ = some (.slice (some ⟨g4, 0, none⟩) c.nr c.nr) ∧ w'.cell? ⟨wx4.out.heap.size, 3, none⟩ = some (.int .i64 wk)))) (exact SK2.out _ (by repeat (first | with_reducible exact Ext.refl _ | with_reducible assumption | with_reducible refine Ext.alloc ?_ _ | with_reducible refine Ext.drew ?_ | (with_reducible refine Ext.setAt ?_ _ _ _ ?_; rotate_left; (first | omega | with_reducible exact Past.size _ | (simp only [World.size_alloc, World.size_drew, World.size_setCell]; omega))) | with_reducible refine Ext.trans ?_ (by assumption) | with_reducible exact Past.bel _ | with_reducible refine Ext.trans ?_ (Past.bel _))))
          (first | (go_at_call 20; ((with_reducible refine (toDate_c _ _ _ _).mono ?_); rintro e w' ⟨rfl, hx7⟩; (first | (obtain ⟨wx7, rfl⟩ := Past.again hx7) | (obtain ⟨wx7, rfl⟩ := Past.ofd hx7) | (obtain ⟨wx7, rfl⟩ := Past.of hx7)); have hz7 := Past.size wx7; (try simp only [World.size_alloc, World.size_drew] at hz7))) | (go_at_call 33; ((with_reducible refine (HIM.out _ _ _ (V4.out.ext (by repeat (first | with_reducible exact Ext.refl _ | with_reducible assumption | with_reducible refine Ext.alloc ?_ _ | with_reducible refine Ext.drew ?_ | (with_reducible refine Ext.setAt ?_ _ _ _ ?_; rotate_left; omega) | with_reducible refine Ext.trans ?_ (by assumption) | with_reducible exact Past.bel _ | with_reducible refine Ext.trans ?_ (Past.bel _))))).mono ?_); rintro e w' ⟨rfl, hx8⟩; (first | (obtain ⟨wx8, rfl⟩ := Past.again hx8) | (obtain ⟨wx8, rfl⟩ := Past.ofd hx8) | (obtain ⟨wx8, rfl⟩ := Past.of hx8)); have hz8 := Past.size wx8; (try simp only [World.size_alloc, World.size_drew] at hz8))))
        all_goals (go_wp2_with fail; go_meet; exact ⟨_, rfl, rfl, (by repeat (first | with_reducible exact Ext.refl _ | with_reducible assumption | with_reducible refine Ext.alloc ?_ _ | with_reducible refine Ext.drew ?_ | (with_reducible refine Ext.setAt ?_ _ _ _ ?_; rotate_left; (first | omega | with_reducible exact Past.size _ | (simp only [World.size_alloc, World.size_drew, World.size_setCell]; omega))) | with_reducible refine Ext.trans ?_ (by assumption) | with_reducible exact Past.bel _ | with_reducible refine Ext.trans ?_ (Past.bel _))), by simp; try omega, by simp [go_sem]⟩)
      case rest =>
        obtain ⟨ge, rfl, rfl, hx5, hge, q0, q1, q2⟩ := hcut
        obtain ⟨v1, rfl⟩ : ∃ v1 : World, v1 = wc := ⟨_, rfl⟩
        obtain ⟨k1, ⟨k2, k3, k4⟩, k5⟩ := SK2.out v1 hx5
        have hw1 : Ext w v1 := Ext.trans (by repeat (first | with_reducible exact Ext.refl _ | with_reducible assumption | with_reducible refine Ext.alloc ?_ _ | with_reducible refine Ext.drew ?_ | (with_reducible refine Ext.setAt ?_ _ _ _ ?_; rotate_left; omega) | with_reducible refine Ext.trans ?_ (by assumption) | with_reducible exact Past.bel _ | with_reducible refine Ext.trans ?_ (Past.bel _))) hx5
        go_wp2_with fail
        refine (eqDate_self _ _ _ _).mono ?_
        rintro e w' ⟨rfl, hx55⟩
        have hw2 : Ext w w' := Ext.trans hw1 hx55
        have hx56 := Ext.trans hx5 hx55
        clear k1 k2 k3 k4 k5 q0 q1 q2
        go_wp2_with fail
        go_region_held3 (fun w' => (((w'.cell? ⟨w.heap.size, 0, none⟩ = some (.string s) ∧ w'.cell? ⟨w.heap.size, 1, none⟩ = some (.slice ma c.n mc) ∧ w'.cell? ⟨w.heap.size, 2, none⟩ = some (.slice ra c.nr rc) ∧ w'.cell? ⟨w.heap.size, 3, none⟩ = some (.int .i64 wk)) ∧ (w'.cell? ⟨w.heap.size + 1, 0, none⟩ = some (.int .i64 y) ∧ w'.cell? ⟨w.heap.size + 1, 1, none⟩ = some (.int .i64 m) ∧ w'.cell? ⟨w.heap.size + 1, 2, none⟩ = some (.int .i64 d))) ∧ (w'.cell? ⟨gd, 0, none⟩ = some (.int .i64 Y) ∧ w'.cell? ⟨gd, 1, none⟩ = some (.int .i64 M) ∧ w'.cell? ⟨gd, 2, none⟩ = some (.int .i64 D)) ∧ (w'.cell? ⟨wx4.out.heap.size, 0, none⟩ = some (.string s) ∧ w'.cell? ⟨wx4.out.heap.size, 1, none⟩ = some (.slice (some ⟨g3, 0, none⟩) c.n c.n) ∧ w'.cell? ⟨wx4.out.heap.size, 2, none⟩ = some (.slice (some ⟨g4, 0, none⟩) c.nr c.nr) ∧ w'.cell? ⟨wx4.out.heap.size, 3, none⟩ = some (.int .i64 wk)))) (exact SK2.out _ (by repeat (first | with_reducible exact Ext.refl _ | with_reducible assumption | with_reducible refine Ext.alloc ?_ _ | with_reducible refine Ext.drew ?_ | (with_reducible refine Ext.setAt ?_ _ _ _ ?_; rotate_left; (first | omega | with_reducible exact Past.size _ | (simp only [World.size_alloc, World.size_drew, World.size_setCell]; omega))) | with_reducible refine Ext.trans ?_ (by assumption) | with_reducible exact Past.bel _ | with_reducible refine Ext.trans ?_ (Past.bel _))))
          (first | (go_at_call 14; ((with_reducible refine (toCalendar_c s ma ra mc rc wk nm c _ hm hr (H.out.mem.ext (by repeat (first | with_reducible exact Ext.refl _ | with_reducible assumption | with_reducible refine Ext.alloc ?_ _ | with_reducible refine Ext.drew ?_ | (with_reducible refine Ext.setAt ?_ _ _ _ ?_; rotate_left; omega) | with_reducible refine Ext.trans ?_ (by assumption) | with_reducible exact Past.bel _ | with_reducible refine Ext.trans ?_ (Past.bel _))))).mono ?_); rintro e wA ⟨g5, g6, _, _, rfl, hxA, hmA, -⟩)) | (go_at_call 16; ((with_reducible refine (eqCalendar_self s _ _ _ _ _ _ _ _ wk nm c _ hm hr (V4.out.mem.ext (by repeat (first | with_reducible exact Ext.refl _ | with_reducible assumption | with_reducible refine Ext.alloc ?_ _ | with_reducible refine Ext.drew ?_ | (with_reducible refine Ext.setAt ?_ _ _ _ ?_; rotate_left; omega) | with_reducible refine Ext.trans ?_ (by assumption) | with_reducible exact Past.bel _ | with_reducible refine Ext.trans ?_ (Past.bel _)))) (hmA.ext (by repeat (first | with_reducible exact Ext.refl _ | with_reducible assumption | with_reducible refine Ext.alloc ?_ _ | with_reducible refine Ext.drew ?_ | (with_reducible refine Ext.setAt ?_ _ _ _ ?_; rotate_left; omega) | with_reducible refine Ext.trans ?_ (by assumption) | with_reducible exact Past.bel _ | with_reducible refine Ext.trans ?_ (Past.bel _))))).mono ?_); rintro e wB ⟨rfl, hxB⟩)))
        go_wp2_with fail
        go_ret
        exact ⟨rfl, (by repeat (first | with_reducible exact Ext.refl _ | with_reducible assumption | with_reducible refine Ext.alloc ?_ _ | with_reducible refine Ext.drew ?_ | (with_reducible refine Ext.setAt ?_ _ _ _ ?_; rotate_left; omega) | with_reducible refine Ext.trans ?_ (by assumption) | with_reducible exact Past.bel _ | with_reducible refine Ext.trans ?_ (Past.bel _)))⟩
end Go.Proofs.Ytggkemiklknmkaa
