/- Laws on one calendar and numbers: their walks. -/
import Derived.Test.YtaamnmpbkdinpaaCL1
import Derived.Test.YtaamnmpbkdinpaaCW29
namespace Go.Proofs.Ytaamnmpbkdinpaa
open Go.RowKit
set_option linter.unusedVariables false
set_option linter.unusedSimpArgs false

theorem CalA.v {w W : World} {s : ByteArray} {ma ra : Option Addr} {mc rc : Nat} {nm : Nat → ByteArray} {c : CalN} (h : CalA w s ma ra mc rc nm c) (hm : c.n ≤ 1048576) (hr : c.nr ≤ 1048576) {m2 r2 : Option Addr} (k : CalM W m2 r2 nm c) : CalV W s m2 r2 c.n c.nr nm c :=
  ⟨hm, hr, Nat.le_refl _, by unfold maxLen; omega, h.sz, h.nz, k⟩
set_option maxHeartbeats 4000000 in
theorem walkIsLeapYear (s : ByteArray) (ma ra : Option Addr) (mc rc : Nat) (wk : Int) (nm : Nat → ByteArray) (c : CalN) (y : Int) (w : World) (h : CalA w s ma ra mc rc nm c) :
    Calls Try.prog 5 #[.agg #[.string s, .slice ma c.n mc, .slice ra c.nr rc, .int .i64 wk], .int .i64 y] w fun e w' => e = .returned (.bool true) ∧ Ext w w' := by
  have H := Lib.hid h
  clear h
  go_enter Try.func5, Try.ntmps5
  go_wp2_with fail
  refine (szCalendar_c s ma ra c.n mc c.nr rc wk nm c.dy c.lp _ _ H.out.nb H.out.rb (by omega) (by omega) H.out.sz H.out.nz (H.out.mem.mo.ext (by repeat (first | with_reducible exact Ext.refl _ | with_reducible assumption | with_reducible refine Ext.alloc ?_ _ | with_reducible refine Ext.drew ?_ | (with_reducible refine Ext.setAt ?_ _ _ _ ?_; rotate_left; omega) | with_reducible refine Ext.trans ?_ (by assumption) | with_reducible exact Past.bel _ | with_reducible refine Ext.trans ?_ (Past.bel _))))).mono ?_
  rintro e w' ⟨r, rfl, y0, y1, y2, hx1⟩
  (first | (obtain ⟨wx1, rfl⟩ := Past.again hx1) | (obtain ⟨wx1, rfl⟩ := Past.of hx1))
  by_cases c1 : r < 0
  · go_wp2_with fail
    go_ret
    exact ⟨rfl, (by repeat (first | with_reducible exact Ext.refl _ | with_reducible assumption | with_reducible refine Ext.alloc ?_ _ | with_reducible refine Ext.drew ?_ | (with_reducible refine Ext.setAt ?_ _ _ _ ?_; rotate_left; omega) | with_reducible refine Ext.trans ?_ (by assumption) | with_reducible exact Past.bel _ | with_reducible refine Ext.trans ?_ (Past.bel _)))⟩
  · obtain ⟨hm, hr⟩ := y2 (by omega)
    go_wp2_with fail
    refine (toCalendar_c s ma ra mc rc wk nm c _ hm hr (H.out.mem.ext (by repeat (first | with_reducible exact Ext.refl _ | with_reducible assumption | with_reducible refine Ext.alloc ?_ _ | with_reducible refine Ext.drew ?_ | (with_reducible refine Ext.setAt ?_ _ _ _ ?_; rotate_left; omega) | with_reducible refine Ext.trans ?_ (by assumption) | with_reducible exact Past.bel _ | with_reducible refine Ext.trans ?_ (Past.bel _))))).mono ?_
    rintro e w' ⟨g1, g2, _, _, rfl, hx2, hm2, -⟩
    have V2 := Lib.hid (H.out.v hm hr hm2)
    clear hm2
    (first | (obtain ⟨wx2, rfl⟩ := Past.again hx2) | (obtain ⟨wx2, rfl⟩ := Past.of hx2))
    go_wp2_with fail
    refine (specIsLeapYear_c wk y (V2.out.ext (by repeat (first | with_reducible exact Ext.refl _ | with_reducible assumption | with_reducible refine Ext.alloc ?_ _ | with_reducible refine Ext.drew ?_ | (with_reducible refine Ext.setAt ?_ _ _ _ ?_; rotate_left; omega) | with_reducible refine Ext.trans ?_ (by assumption) | with_reducible exact Past.bel _ | with_reducible refine Ext.trans ?_ (Past.bel _))))).mono ?_
    rintro e w' ⟨rfl, hx3⟩
    (first | (obtain ⟨wx3, rfl⟩ := Past.again hx3) | (obtain ⟨wx3, rfl⟩ := Past.of hx3))
    go_wp2_with fail
    refine (toCalendar_c s ma ra mc rc wk nm c _ hm hr (H.out.mem.ext (by repeat (first | with_reducible exact Ext.refl _ | with_reducible assumption | with_reducible refine Ext.alloc ?_ _ | with_reducible refine Ext.drew ?_ | (with_reducible refine Ext.setAt ?_ _ _ _ ?_; rotate_left; omega) | with_reducible refine Ext.trans ?_ (by assumption) | with_reducible exact Past.bel _ | with_reducible refine Ext.trans ?_ (Past.bel _))))).mono ?_
    rintro e w' ⟨g3, g4, _, _, rfl, hx4, hm4, -⟩
    have HM4 := Lib.hid hm4
    have V4 := Lib.hid (H.out.v hm hr hm4)
    clear hm4
    (first | (obtain ⟨wx4, rfl⟩ := Past.again hx4) | (obtain ⟨wx4, rfl⟩ := Past.of hx4))
    go_wp2_with fail
    refine (implIsLeapYear_c wk y (V4.out.ext (by repeat (first | with_reducible exact Ext.refl _ | with_reducible assumption | with_reducible refine Ext.alloc ?_ _ | with_reducible refine Ext.drew ?_ | (with_reducible refine Ext.setAt ?_ _ _ _ ?_; rotate_left; omega) | with_reducible refine Ext.trans ?_ (by assumption) | with_reducible exact Past.bel _ | with_reducible refine Ext.trans ?_ (Past.bel _))))).mono ?_
    rintro e w' ⟨rfl, hx5⟩
    (first | (obtain ⟨wx5, rfl⟩ := Past.again hx5) | (obtain ⟨wx5, rfl⟩ := Past.of hx5))
    go_wp2_with fail
    have PA := CalP.new 25 s ma ra mc rc wk H.out.mem
    have PB := CalP.new 31 s _ _ c.n c.nr wk HM4.out
    have SK : ∀ w', Ext wx5.out w' → (w'.cell? ⟨w.heap.size, 0, none⟩ = some (.string s) ∧ w'.cell? ⟨w.heap.size, 1, none⟩ = some (.slice ma c.n mc) ∧ w'.cell? ⟨w.heap.size, 2, none⟩ = some (.slice ra c.nr rc) ∧ w'.cell? ⟨w.heap.size, 3, none⟩ = some (.int .i64 wk) ∧ w'.cell? ⟨wx4.out.heap.size, 0, none⟩ = some (.string s) ∧ w'.cell? ⟨wx4.out.heap.size, 1, none⟩ = some (.slice (some ⟨g3, 0, none⟩) c.n c.n) ∧ w'.cell? ⟨wx4.out.heap.size, 2, none⟩ = some (.slice (some ⟨g4, 0, none⟩) c.nr c.nr) ∧ w'.cell? ⟨wx4.out.heap.size, 3, none⟩ = some (.int .i64 wk)) := fun w' hq => by
      have QA := PA.ext (w' := w') (by repeat (first | with_reducible exact Ext.refl _ | with_reducible assumption | with_reducible refine Ext.alloc ?_ _ | with_reducible refine Ext.drew ?_ | (with_reducible refine Ext.setAt ?_ _ _ _ ?_; rotate_left; omega) | with_reducible refine Ext.trans ?_ (by assumption) | with_reducible exact Past.bel _ | with_reducible refine Ext.trans ?_ (Past.bel _)))
      have QB := PB.ext (w' := w') (by repeat (first | with_reducible exact Ext.refl _ | with_reducible assumption | with_reducible refine Ext.alloc ?_ _ | with_reducible refine Ext.drew ?_ | (with_reducible refine Ext.setAt ?_ _ _ _ ?_; rotate_left; omega) | with_reducible refine Ext.trans ?_ (by assumption) | with_reducible exact Past.bel _ | with_reducible refine Ext.trans ?_ (Past.bel _)))
      exact ⟨QA.c0, QA.c1, QA.c2, QA.c3, QB.c0, QB.c1, QB.c2, QB.c3⟩
    have SKO := Lib.hid SK
    clear SK PA PB
    go_region_held3 (fun w' => w'.cell? ⟨w.heap.size, 0, none⟩ = some (.string s) ∧ w'.cell? ⟨w.heap.size, 1, none⟩ = some (.slice ma c.n mc) ∧ w'.cell? ⟨w.heap.size, 2, none⟩ = some (.slice ra c.nr rc) ∧ w'.cell? ⟨w.heap.size, 3, none⟩ = some (.int .i64 wk) ∧ w'.cell? ⟨wx4.out.heap.size, 0, none⟩ = some (.string s) ∧ w'.cell? ⟨wx4.out.heap.size, 1, none⟩ = some (.slice (some ⟨g3, 0, none⟩) c.n c.n) ∧ w'.cell? ⟨wx4.out.heap.size, 2, none⟩ = some (.slice (some ⟨g4, 0, none⟩) c.nr c.nr) ∧ w'.cell? ⟨wx4.out.heap.size, 3, none⟩ = some (.int .i64 wk)) (exact SKO.out _ (by repeat (first | with_reducible exact Ext.refl _ | with_reducible assumption | with_reducible refine Ext.alloc ?_ _ | with_reducible refine Ext.drew ?_ | (with_reducible refine Ext.setAt ?_ _ _ _ ?_; rotate_left; omega) | with_reducible refine Ext.trans ?_ (by assumption) | with_reducible exact Past.bel _ | with_reducible refine Ext.trans ?_ (Past.bel _))))
      (first | (go_at_call 11; ((with_reducible refine (toCalendar_c s ma ra mc rc wk nm c _ hm hr (H.out.mem.ext (by repeat (first | with_reducible exact Ext.refl _ | with_reducible assumption | with_reducible refine Ext.alloc ?_ _ | with_reducible refine Ext.drew ?_ | (with_reducible refine Ext.setAt ?_ _ _ _ ?_; rotate_left; omega) | with_reducible refine Ext.trans ?_ (by assumption) | with_reducible exact Past.bel _ | with_reducible refine Ext.trans ?_ (Past.bel _))))).mono ?_); rintro e w6 ⟨g5, g6, _, _, rfl, hx6, hm6, -⟩)) | (go_at_call 13; ((with_reducible refine (eqCalendar_self s _ _ _ _ _ _ _ _ wk nm c _ hm hr (HM4.out.ext (by repeat (first | with_reducible exact Ext.refl _ | with_reducible assumption | with_reducible refine Ext.alloc ?_ _ | with_reducible refine Ext.drew ?_ | (with_reducible refine Ext.setAt ?_ _ _ _ ?_; rotate_left; omega) | with_reducible refine Ext.trans ?_ (by assumption) | with_reducible exact Past.bel _ | with_reducible refine Ext.trans ?_ (Past.bel _)))) (hm6.ext (by repeat (first | with_reducible exact Ext.refl _ | with_reducible assumption | with_reducible refine Ext.alloc ?_ _ | with_reducible refine Ext.drew ?_ | (with_reducible refine Ext.setAt ?_ _ _ _ ?_; rotate_left; omega) | with_reducible refine Ext.trans ?_ (by assumption) | with_reducible exact Past.bel _ | with_reducible refine Ext.trans ?_ (Past.bel _))))).mono ?_); rintro e w7 ⟨rfl, hx7⟩)))
    all_goals
      go_wp2_with fail
      go_ret
      exact ⟨rfl, (by repeat (first | with_reducible exact Ext.refl _ | with_reducible assumption | with_reducible refine Ext.alloc ?_ _ | with_reducible refine Ext.drew ?_ | (with_reducible refine Ext.setAt ?_ _ _ _ ?_; rotate_left; omega) | with_reducible refine Ext.trans ?_ (by assumption) | with_reducible exact Past.bel _ | with_reducible refine Ext.trans ?_ (Past.bel _)))⟩
set_option maxHeartbeats 4000000 in
theorem walkDaysInMonth (s : ByteArray) (ma ra : Option Addr) (mc rc : Nat) (wk : Int) (nm : Nat → ByteArray) (c : CalN) (y m : Int) (w : World) (h : CalA w s ma ra mc rc nm c) :
    Calls Try.prog 6 #[.agg #[.string s, .slice ma c.n mc, .slice ra c.nr rc, .int .i64 wk], .int .i64 y, .int .i64 m] w fun e w' => e = .returned (.bool true) ∧ Ext w w' := by
  have H := Lib.hid h
  clear h
  go_enter Try.func6, Try.ntmps6
  go_wp2_with fail
  refine (szCalendar_c s ma ra c.n mc c.nr rc wk nm c.dy c.lp _ _ H.out.nb H.out.rb (by omega) (by omega) H.out.sz H.out.nz (H.out.mem.mo.ext (by repeat (first | with_reducible exact Ext.refl _ | with_reducible assumption | with_reducible refine Ext.alloc ?_ _ | with_reducible refine Ext.drew ?_ | (with_reducible refine Ext.setAt ?_ _ _ _ ?_; rotate_left; omega) | with_reducible refine Ext.trans ?_ (by assumption) | with_reducible exact Past.bel _ | with_reducible refine Ext.trans ?_ (Past.bel _))))).mono ?_
  rintro e w' ⟨r, rfl, y0, y1, y2, hx1⟩
  (first | (obtain ⟨wx1, rfl⟩ := Past.again hx1) | (obtain ⟨wx1, rfl⟩ := Past.of hx1))
  by_cases c1 : r < 0
  · go_wp2_with fail
    go_ret
    exact ⟨rfl, (by repeat (first | with_reducible exact Ext.refl _ | with_reducible assumption | with_reducible refine Ext.alloc ?_ _ | with_reducible refine Ext.drew ?_ | (with_reducible refine Ext.setAt ?_ _ _ _ ?_; rotate_left; omega) | with_reducible refine Ext.trans ?_ (by assumption) | with_reducible exact Past.bel _ | with_reducible refine Ext.trans ?_ (Past.bel _)))⟩
  · obtain ⟨hm, hr⟩ := y2 (by omega)
    go_wp2_with fail
    refine (toCalendar_c s ma ra mc rc wk nm c _ hm hr (H.out.mem.ext (by repeat (first | with_reducible exact Ext.refl _ | with_reducible assumption | with_reducible refine Ext.alloc ?_ _ | with_reducible refine Ext.drew ?_ | (with_reducible refine Ext.setAt ?_ _ _ _ ?_; rotate_left; omega) | with_reducible refine Ext.trans ?_ (by assumption) | with_reducible exact Past.bel _ | with_reducible refine Ext.trans ?_ (Past.bel _))))).mono ?_
    rintro e w' ⟨g1, g2, _, _, rfl, hx2, hm2, -⟩
    have V2 := Lib.hid (H.out.v hm hr hm2)
    clear hm2
    (first | (obtain ⟨wx2, rfl⟩ := Past.again hx2) | (obtain ⟨wx2, rfl⟩ := Past.of hx2))
    go_wp2_with fail
    refine (specDaysInMonth_c wk y m (V2.out.ext (by repeat (first | with_reducible exact Ext.refl _ | with_reducible assumption | with_reducible refine Ext.alloc ?_ _ | with_reducible refine Ext.drew ?_ | (with_reducible refine Ext.setAt ?_ _ _ _ ?_; rotate_left; omega) | with_reducible refine Ext.trans ?_ (by assumption) | with_reducible exact Past.bel _ | with_reducible refine Ext.trans ?_ (Past.bel _))))).mono ?_
    rintro e w' ⟨rfl, hx3⟩
    (first | (obtain ⟨wx3, rfl⟩ := Past.again hx3) | (obtain ⟨wx3, rfl⟩ := Past.of hx3))
    go_wp2_with fail
    refine (toCalendar_c s ma ra mc rc wk nm c _ hm hr (H.out.mem.ext (by repeat (first | with_reducible exact Ext.refl _ | with_reducible assumption | with_reducible refine Ext.alloc ?_ _ | with_reducible refine Ext.drew ?_ | (with_reducible refine Ext.setAt ?_ _ _ _ ?_; rotate_left; omega) | with_reducible refine Ext.trans ?_ (by assumption) | with_reducible exact Past.bel _ | with_reducible refine Ext.trans ?_ (Past.bel _))))).mono ?_
    rintro e w' ⟨g3, g4, _, _, rfl, hx4, hm4, -⟩
    have HM4 := Lib.hid hm4
    have V4 := Lib.hid (H.out.v hm hr hm4)
    clear hm4
    (first | (obtain ⟨wx4, rfl⟩ := Past.again hx4) | (obtain ⟨wx4, rfl⟩ := Past.of hx4))
    go_wp2_with fail
    refine (implDaysInMonth_c wk y m (V4.out.ext (by repeat (first | with_reducible exact Ext.refl _ | with_reducible assumption | with_reducible refine Ext.alloc ?_ _ | with_reducible refine Ext.drew ?_ | (with_reducible refine Ext.setAt ?_ _ _ _ ?_; rotate_left; omega) | with_reducible refine Ext.trans ?_ (by assumption) | with_reducible exact Past.bel _ | with_reducible refine Ext.trans ?_ (Past.bel _))))).mono ?_
    rintro e w' ⟨rfl, hx5⟩
    (first | (obtain ⟨wx5, rfl⟩ := Past.again hx5) | (obtain ⟨wx5, rfl⟩ := Past.of hx5))
    go_wp2_with fail
    have PA := CalP.new 25 s ma ra mc rc wk H.out.mem
    have PB := CalP.new 31 s _ _ c.n c.nr wk HM4.out
    have SK : ∀ w', Ext wx5.out w' → (w'.cell? ⟨w.heap.size, 0, none⟩ = some (.string s) ∧ w'.cell? ⟨w.heap.size, 1, none⟩ = some (.slice ma c.n mc) ∧ w'.cell? ⟨w.heap.size, 2, none⟩ = some (.slice ra c.nr rc) ∧ w'.cell? ⟨w.heap.size, 3, none⟩ = some (.int .i64 wk) ∧ w'.cell? ⟨wx4.out.heap.size, 0, none⟩ = some (.string s) ∧ w'.cell? ⟨wx4.out.heap.size, 1, none⟩ = some (.slice (some ⟨g3, 0, none⟩) c.n c.n) ∧ w'.cell? ⟨wx4.out.heap.size, 2, none⟩ = some (.slice (some ⟨g4, 0, none⟩) c.nr c.nr) ∧ w'.cell? ⟨wx4.out.heap.size, 3, none⟩ = some (.int .i64 wk)) := fun w' hq => by
      have QA := PA.ext (w' := w') (by repeat (first | with_reducible exact Ext.refl _ | with_reducible assumption | with_reducible refine Ext.alloc ?_ _ | with_reducible refine Ext.drew ?_ | (with_reducible refine Ext.setAt ?_ _ _ _ ?_; rotate_left; omega) | with_reducible refine Ext.trans ?_ (by assumption) | with_reducible exact Past.bel _ | with_reducible refine Ext.trans ?_ (Past.bel _)))
      have QB := PB.ext (w' := w') (by repeat (first | with_reducible exact Ext.refl _ | with_reducible assumption | with_reducible refine Ext.alloc ?_ _ | with_reducible refine Ext.drew ?_ | (with_reducible refine Ext.setAt ?_ _ _ _ ?_; rotate_left; omega) | with_reducible refine Ext.trans ?_ (by assumption) | with_reducible exact Past.bel _ | with_reducible refine Ext.trans ?_ (Past.bel _)))
      exact ⟨QA.c0, QA.c1, QA.c2, QA.c3, QB.c0, QB.c1, QB.c2, QB.c3⟩
    have SKO := Lib.hid SK
    clear SK PA PB
    go_region_held3 (fun w' => w'.cell? ⟨w.heap.size, 0, none⟩ = some (.string s) ∧ w'.cell? ⟨w.heap.size, 1, none⟩ = some (.slice ma c.n mc) ∧ w'.cell? ⟨w.heap.size, 2, none⟩ = some (.slice ra c.nr rc) ∧ w'.cell? ⟨w.heap.size, 3, none⟩ = some (.int .i64 wk) ∧ w'.cell? ⟨wx4.out.heap.size, 0, none⟩ = some (.string s) ∧ w'.cell? ⟨wx4.out.heap.size, 1, none⟩ = some (.slice (some ⟨g3, 0, none⟩) c.n c.n) ∧ w'.cell? ⟨wx4.out.heap.size, 2, none⟩ = some (.slice (some ⟨g4, 0, none⟩) c.nr c.nr) ∧ w'.cell? ⟨wx4.out.heap.size, 3, none⟩ = some (.int .i64 wk)) (exact SKO.out _ (by repeat (first | with_reducible exact Ext.refl _ | with_reducible assumption | with_reducible refine Ext.alloc ?_ _ | with_reducible refine Ext.drew ?_ | (with_reducible refine Ext.setAt ?_ _ _ _ ?_; rotate_left; omega) | with_reducible refine Ext.trans ?_ (by assumption) | with_reducible exact Past.bel _ | with_reducible refine Ext.trans ?_ (Past.bel _))))
      (first | (go_at_call 11; ((with_reducible refine (toCalendar_c s ma ra mc rc wk nm c _ hm hr (H.out.mem.ext (by repeat (first | with_reducible exact Ext.refl _ | with_reducible assumption | with_reducible refine Ext.alloc ?_ _ | with_reducible refine Ext.drew ?_ | (with_reducible refine Ext.setAt ?_ _ _ _ ?_; rotate_left; omega) | with_reducible refine Ext.trans ?_ (by assumption) | with_reducible exact Past.bel _ | with_reducible refine Ext.trans ?_ (Past.bel _))))).mono ?_); rintro e w6 ⟨g5, g6, _, _, rfl, hx6, hm6, -⟩)) | (go_at_call 13; ((with_reducible refine (eqCalendar_self s _ _ _ _ _ _ _ _ wk nm c _ hm hr (HM4.out.ext (by repeat (first | with_reducible exact Ext.refl _ | with_reducible assumption | with_reducible refine Ext.alloc ?_ _ | with_reducible refine Ext.drew ?_ | (with_reducible refine Ext.setAt ?_ _ _ _ ?_; rotate_left; omega) | with_reducible refine Ext.trans ?_ (by assumption) | with_reducible exact Past.bel _ | with_reducible refine Ext.trans ?_ (Past.bel _)))) (hm6.ext (by repeat (first | with_reducible exact Ext.refl _ | with_reducible assumption | with_reducible refine Ext.alloc ?_ _ | with_reducible refine Ext.drew ?_ | (with_reducible refine Ext.setAt ?_ _ _ _ ?_; rotate_left; omega) | with_reducible refine Ext.trans ?_ (by assumption) | with_reducible exact Past.bel _ | with_reducible refine Ext.trans ?_ (Past.bel _))))).mono ?_); rintro e w7 ⟨rfl, hx7⟩)))
    all_goals
      go_wp2_with fail
      go_ret
      exact ⟨rfl, (by repeat (first | with_reducible exact Ext.refl _ | with_reducible assumption | with_reducible refine Ext.alloc ?_ _ | with_reducible refine Ext.drew ?_ | (with_reducible refine Ext.setAt ?_ _ _ _ ?_; rotate_left; omega) | with_reducible refine Ext.trans ?_ (by assumption) | with_reducible exact Past.bel _ | with_reducible refine Ext.trans ?_ (Past.bel _)))⟩
set_option maxHeartbeats 4000000 in
theorem walkDaysInYear (s : ByteArray) (ma ra : Option Addr) (mc rc : Nat) (wk : Int) (nm : Nat → ByteArray) (c : CalN) (y : Int) (w : World) (h : CalA w s ma ra mc rc nm c) :
    Calls Try.prog 8 #[.agg #[.string s, .slice ma c.n mc, .slice ra c.nr rc, .int .i64 wk], .int .i64 y] w fun e w' => e = .returned (.bool true) ∧ Ext w w' := by
  have H := Lib.hid h
  clear h
  go_enter Try.func8, Try.ntmps8
  go_wp2_with fail
  refine (szCalendar_c s ma ra c.n mc c.nr rc wk nm c.dy c.lp _ _ H.out.nb H.out.rb (by omega) (by omega) H.out.sz H.out.nz (H.out.mem.mo.ext (by repeat (first | with_reducible exact Ext.refl _ | with_reducible assumption | with_reducible refine Ext.alloc ?_ _ | with_reducible refine Ext.drew ?_ | (with_reducible refine Ext.setAt ?_ _ _ _ ?_; rotate_left; omega) | with_reducible refine Ext.trans ?_ (by assumption) | with_reducible exact Past.bel _ | with_reducible refine Ext.trans ?_ (Past.bel _))))).mono ?_
  rintro e w' ⟨r, rfl, y0, y1, y2, hx1⟩
  (first | (obtain ⟨wx1, rfl⟩ := Past.again hx1) | (obtain ⟨wx1, rfl⟩ := Past.of hx1))
  by_cases c1 : r < 0
  · go_wp2_with fail
    go_ret
    exact ⟨rfl, (by repeat (first | with_reducible exact Ext.refl _ | with_reducible assumption | with_reducible refine Ext.alloc ?_ _ | with_reducible refine Ext.drew ?_ | (with_reducible refine Ext.setAt ?_ _ _ _ ?_; rotate_left; omega) | with_reducible refine Ext.trans ?_ (by assumption) | with_reducible exact Past.bel _ | with_reducible refine Ext.trans ?_ (Past.bel _)))⟩
  · obtain ⟨hm, hr⟩ := y2 (by omega)
    go_wp2_with fail
    refine (toCalendar_c s ma ra mc rc wk nm c _ hm hr (H.out.mem.ext (by repeat (first | with_reducible exact Ext.refl _ | with_reducible assumption | with_reducible refine Ext.alloc ?_ _ | with_reducible refine Ext.drew ?_ | (with_reducible refine Ext.setAt ?_ _ _ _ ?_; rotate_left; omega) | with_reducible refine Ext.trans ?_ (by assumption) | with_reducible exact Past.bel _ | with_reducible refine Ext.trans ?_ (Past.bel _))))).mono ?_
    rintro e w' ⟨g1, g2, _, _, rfl, hx2, hm2, -⟩
    have V2 := Lib.hid (H.out.v hm hr hm2)
    clear hm2
    (first | (obtain ⟨wx2, rfl⟩ := Past.again hx2) | (obtain ⟨wx2, rfl⟩ := Past.of hx2))
    go_wp2_with fail
    refine (specDaysInYear_c wk y (V2.out.ext (by repeat (first | with_reducible exact Ext.refl _ | with_reducible assumption | with_reducible refine Ext.alloc ?_ _ | with_reducible refine Ext.drew ?_ | (with_reducible refine Ext.setAt ?_ _ _ _ ?_; rotate_left; omega) | with_reducible refine Ext.trans ?_ (by assumption) | with_reducible exact Past.bel _ | with_reducible refine Ext.trans ?_ (Past.bel _))))).mono ?_
    rintro e w' ⟨rfl, hx3⟩
    (first | (obtain ⟨wx3, rfl⟩ := Past.again hx3) | (obtain ⟨wx3, rfl⟩ := Past.of hx3))
    go_wp2_with fail
    refine (toCalendar_c s ma ra mc rc wk nm c _ hm hr (H.out.mem.ext (by repeat (first | with_reducible exact Ext.refl _ | with_reducible assumption | with_reducible refine Ext.alloc ?_ _ | with_reducible refine Ext.drew ?_ | (with_reducible refine Ext.setAt ?_ _ _ _ ?_; rotate_left; omega) | with_reducible refine Ext.trans ?_ (by assumption) | with_reducible exact Past.bel _ | with_reducible refine Ext.trans ?_ (Past.bel _))))).mono ?_
    rintro e w' ⟨g3, g4, _, _, rfl, hx4, hm4, -⟩
    have HM4 := Lib.hid hm4
    have V4 := Lib.hid (H.out.v hm hr hm4)
    clear hm4
    (first | (obtain ⟨wx4, rfl⟩ := Past.again hx4) | (obtain ⟨wx4, rfl⟩ := Past.of hx4))
    go_wp2_with fail
    refine (implDaysInYear_c wk y (V4.out.ext (by repeat (first | with_reducible exact Ext.refl _ | with_reducible assumption | with_reducible refine Ext.alloc ?_ _ | with_reducible refine Ext.drew ?_ | (with_reducible refine Ext.setAt ?_ _ _ _ ?_; rotate_left; omega) | with_reducible refine Ext.trans ?_ (by assumption) | with_reducible exact Past.bel _ | with_reducible refine Ext.trans ?_ (Past.bel _))))).mono ?_
    rintro e w' ⟨rfl, hx5⟩
    (first | (obtain ⟨wx5, rfl⟩ := Past.again hx5) | (obtain ⟨wx5, rfl⟩ := Past.of hx5))
    go_wp2_with fail
    have PA := CalP.new 25 s ma ra mc rc wk H.out.mem
    have PB := CalP.new 31 s _ _ c.n c.nr wk HM4.out
    have SK : ∀ w', Ext wx5.out w' → (w'.cell? ⟨w.heap.size, 0, none⟩ = some (.string s) ∧ w'.cell? ⟨w.heap.size, 1, none⟩ = some (.slice ma c.n mc) ∧ w'.cell? ⟨w.heap.size, 2, none⟩ = some (.slice ra c.nr rc) ∧ w'.cell? ⟨w.heap.size, 3, none⟩ = some (.int .i64 wk) ∧ w'.cell? ⟨wx4.out.heap.size, 0, none⟩ = some (.string s) ∧ w'.cell? ⟨wx4.out.heap.size, 1, none⟩ = some (.slice (some ⟨g3, 0, none⟩) c.n c.n) ∧ w'.cell? ⟨wx4.out.heap.size, 2, none⟩ = some (.slice (some ⟨g4, 0, none⟩) c.nr c.nr) ∧ w'.cell? ⟨wx4.out.heap.size, 3, none⟩ = some (.int .i64 wk)) := fun w' hq => by
      have QA := PA.ext (w' := w') (by repeat (first | with_reducible exact Ext.refl _ | with_reducible assumption | with_reducible refine Ext.alloc ?_ _ | with_reducible refine Ext.drew ?_ | (with_reducible refine Ext.setAt ?_ _ _ _ ?_; rotate_left; omega) | with_reducible refine Ext.trans ?_ (by assumption) | with_reducible exact Past.bel _ | with_reducible refine Ext.trans ?_ (Past.bel _)))
      have QB := PB.ext (w' := w') (by repeat (first | with_reducible exact Ext.refl _ | with_reducible assumption | with_reducible refine Ext.alloc ?_ _ | with_reducible refine Ext.drew ?_ | (with_reducible refine Ext.setAt ?_ _ _ _ ?_; rotate_left; omega) | with_reducible refine Ext.trans ?_ (by assumption) | with_reducible exact Past.bel _ | with_reducible refine Ext.trans ?_ (Past.bel _)))
      exact ⟨QA.c0, QA.c1, QA.c2, QA.c3, QB.c0, QB.c1, QB.c2, QB.c3⟩
    have SKO := Lib.hid SK
    clear SK PA PB
    go_region_held3 (fun w' => w'.cell? ⟨w.heap.size, 0, none⟩ = some (.string s) ∧ w'.cell? ⟨w.heap.size, 1, none⟩ = some (.slice ma c.n mc) ∧ w'.cell? ⟨w.heap.size, 2, none⟩ = some (.slice ra c.nr rc) ∧ w'.cell? ⟨w.heap.size, 3, none⟩ = some (.int .i64 wk) ∧ w'.cell? ⟨wx4.out.heap.size, 0, none⟩ = some (.string s) ∧ w'.cell? ⟨wx4.out.heap.size, 1, none⟩ = some (.slice (some ⟨g3, 0, none⟩) c.n c.n) ∧ w'.cell? ⟨wx4.out.heap.size, 2, none⟩ = some (.slice (some ⟨g4, 0, none⟩) c.nr c.nr) ∧ w'.cell? ⟨wx4.out.heap.size, 3, none⟩ = some (.int .i64 wk)) (exact SKO.out _ (by repeat (first | with_reducible exact Ext.refl _ | with_reducible assumption | with_reducible refine Ext.alloc ?_ _ | with_reducible refine Ext.drew ?_ | (with_reducible refine Ext.setAt ?_ _ _ _ ?_; rotate_left; omega) | with_reducible refine Ext.trans ?_ (by assumption) | with_reducible exact Past.bel _ | with_reducible refine Ext.trans ?_ (Past.bel _))))
      (first | (go_at_call 11; ((with_reducible refine (toCalendar_c s ma ra mc rc wk nm c _ hm hr (H.out.mem.ext (by repeat (first | with_reducible exact Ext.refl _ | with_reducible assumption | with_reducible refine Ext.alloc ?_ _ | with_reducible refine Ext.drew ?_ | (with_reducible refine Ext.setAt ?_ _ _ _ ?_; rotate_left; omega) | with_reducible refine Ext.trans ?_ (by assumption) | with_reducible exact Past.bel _ | with_reducible refine Ext.trans ?_ (Past.bel _))))).mono ?_); rintro e w6 ⟨g5, g6, _, _, rfl, hx6, hm6, -⟩)) | (go_at_call 13; ((with_reducible refine (eqCalendar_self s _ _ _ _ _ _ _ _ wk nm c _ hm hr (HM4.out.ext (by repeat (first | with_reducible exact Ext.refl _ | with_reducible assumption | with_reducible refine Ext.alloc ?_ _ | with_reducible refine Ext.drew ?_ | (with_reducible refine Ext.setAt ?_ _ _ _ ?_; rotate_left; omega) | with_reducible refine Ext.trans ?_ (by assumption) | with_reducible exact Past.bel _ | with_reducible refine Ext.trans ?_ (Past.bel _)))) (hm6.ext (by repeat (first | with_reducible exact Ext.refl _ | with_reducible assumption | with_reducible refine Ext.alloc ?_ _ | with_reducible refine Ext.drew ?_ | (with_reducible refine Ext.setAt ?_ _ _ _ ?_; rotate_left; omega) | with_reducible refine Ext.trans ?_ (by assumption) | with_reducible exact Past.bel _ | with_reducible refine Ext.trans ?_ (Past.bel _))))).mono ?_); rintro e w7 ⟨rfl, hx7⟩)))
    all_goals
      go_wp2_with fail
      go_ret
      exact ⟨rfl, (by repeat (first | with_reducible exact Ext.refl _ | with_reducible assumption | with_reducible refine Ext.alloc ?_ _ | with_reducible refine Ext.drew ?_ | (with_reducible refine Ext.setAt ?_ _ _ _ ?_; rotate_left; omega) | with_reducible refine Ext.trans ?_ (by assumption) | with_reducible exact Past.bel _ | with_reducible refine Ext.trans ?_ (Past.bel _)))⟩
end Go.Proofs.Ytaamnmpbkdinpaa
