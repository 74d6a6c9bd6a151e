/- Laws on one calendar and numbers: their walks. Calendars' texts: the law. What the cards' listed variables give the walks. -/
import Derived.Test.YtppphpnimecgpaaDoorBd
import Derived.Deep.RegionHeld3
import Derived.Test.YtppphpnimecgpaaDoorRows
import Derived.Test.YtppphpnimecgpaaDoorBb
import Derived.Test.YtppphpnimecgpaaDoorBa
import Derived.ProofKit
import Derived.LaidMore
import Derived.OpenShut
import Derived.Stop.Joined
import Derived.Lib.LaidTab

namespace Go.Proofs.YtppphpnimecgpaaDoor
open Go.RowKit
set_option linter.unusedVariables false
set_option linter.unusedSimpArgs false

theorem CalA.v {w W : World} {s : ByteArray} {ma ra : Option Addr} {mc rc : Nat} {nm : Nat → ByteArray} {c : CalN} (h : CalA w s ma ra mc rc nm c) (hm : c.n ≤ 1048576) (hr : c.nr ≤ 1048576) {m2 r2 : Option Addr} (k : CalM W m2 r2 nm c) : CalV W s m2 r2 c.n c.nr nm c :=
  ⟨hm, hr, Nat.le_refl _, by unfold maxLen; omega, h.sz, h.nz, k⟩
end Go.Proofs.YtppphpnimecgpaaDoor

namespace Go.Proofs.YtppphpnimecgpaaDoor
open Go.RowKit
set_option linter.unusedVariables false
set_option linter.unusedSimpArgs false

set_option maxHeartbeats 2000000 in
theorem specCalendarText_c {s : ByteArray} {ma ra : Option Addr} {mc rc : Nat} (wk : Int) {nm : Nat → ByteArray} {c : CalN} {w : World} (h : CalV w s ma ra mc rc nm c) :
    Calls Tryd.prog 24 #[.agg #[.string s, .slice ma c.n mc, .slice ra c.nr rc, .int .i64 wk]] w fun e w' => e = .returned (.string ⟨(calTx s nm c wk).toArray⟩) ∧ Ext w w' := by
  have HQ := Lib.hid (CalQ.new 42 wk h)
  clear h
  cases hv : calB s nm c wk
  · have HX := Lib.hid (show calTx s nm c wk = [] by rw [calTx, hv]; rfl)
    have HV := Lib.hid (hv ▸ l15Ok_q HQ.out : Calls Tryd.prog 48 #[.pointer (some ⟨w.heap.size, 0, none⟩)] (w.alloc (.cells #[.string s, .slice ma c.n mc, .slice ra c.nr rc, .int .i64 wk] 42)) fun e w' => e = .returned (.bool false) ∧ Ext (w.alloc (.cells #[.string s, .slice ma c.n mc, .slice ra c.nr rc, .int .i64 wk] 42)) w')
    clear hv
    go_enter Tryd.func24, Tryd.ntmps24
    go_wp2_with (go_at_call 48; ((with_reducible refine (HV.out).mono ?_); rintro e w' ⟨rfl, hx⟩; (first | (obtain ⟨wx, rfl⟩ := Past.again hx) | (obtain ⟨wx, rfl⟩ := Past.ofd hx) | (obtain ⟨wx, rfl⟩ := Past.of hx))))
    go_ret
    exact ⟨by rw [HX.out]; rfl, (by repeat (first | with_reducible exact Ext.refl _ | with_reducible assumption | with_reducible refine Ext.alloc ?_ _ | with_reducible refine Ext.drew ?_ | (with_reducible refine Ext.setAt ?_ _ _ _ ?_; rotate_left; omega) | with_reducible refine Ext.trans ?_ (by assumption) | with_reducible exact Past.bel _ | with_reducible refine Ext.trans ?_ (Past.bel _)))⟩
  · have HX := Lib.hid (show calTx s nm c wk = calL s nm c wk by rw [calTx, hv]; rfl)
    have HV := Lib.hid (hv ▸ l15Ok_q HQ.out : Calls Tryd.prog 48 #[.pointer (some ⟨w.heap.size, 0, none⟩)] (w.alloc (.cells #[.string s, .slice ma c.n mc, .slice ra c.nr rc, .int .i64 wk] 42)) fun e w' => e = .returned (.bool true) ∧ Ext (w.alloc (.cells #[.string s, .slice ma c.n mc, .slice ra c.nr rc, .int .i64 wk] 42)) w')
    have b := Lib.hid (txB_of hv)
    clear hv
    go_enter Tryd.func24, Tryd.ntmps24
    go_wp2_with (first | (go_at_call 48; ((with_reducible refine (HV.out).mono ?_); rintro e w' ⟨rfl, hx⟩; (first | (obtain ⟨wx, rfl⟩ := Past.again hx) | (obtain ⟨wx, rfl⟩ := Past.ofd hx) | (obtain ⟨wx, rfl⟩ := Past.of hx)))) | (go_at_call 49; ((with_reducible refine (l15Text_c _ _ _ _ _ _ wk _ _ _ b.out (HQ.out.p.ext (by repeat (first | with_reducible exact Ext.refl _ | with_reducible assumption | with_reducible refine Ext.alloc ?_ _ | with_reducible refine Ext.drew ?_ | (with_reducible refine Ext.setAt ?_ _ _ _ ?_; rotate_left; omega) | with_reducible refine Ext.trans ?_ (by assumption) | with_reducible exact Past.bel _ | with_reducible refine Ext.trans ?_ (Past.bel _))))).mono ?_); rintro e w' ⟨rfl, hx⟩; (first | (obtain ⟨wx, rfl⟩ := Past.again hx) | (obtain ⟨wx, rfl⟩ := Past.ofd hx) | (obtain ⟨wx, rfl⟩ := Past.of hx)))))
    go_ret
    exact ⟨by rw [HX.out]; rfl, (by repeat (first | with_reducible exact Ext.refl _ | with_reducible assumption | with_reducible refine Ext.alloc ?_ _ | with_reducible refine Ext.drew ?_ | (with_reducible refine Ext.setAt ?_ _ _ _ ?_; rotate_left; omega) | with_reducible refine Ext.trans ?_ (by assumption) | with_reducible exact Past.bel _ | with_reducible refine Ext.trans ?_ (Past.bel _)))⟩
set_option maxHeartbeats 4000000 in
theorem walkCalendarText (s : ByteArray) (ma ra : Option Addr) (mc rc : Nat) (wk : Int) (nm : Nat → ByteArray) (c : CalN) (w : World) (h : CalA w s ma ra mc rc nm c) (ht : Tab w) :
    Calls Tryd.prog 7 #[.agg #[.string s, .slice ma c.n mc, .slice ra c.nr rc, .int .i64 wk]] w fun e w' => e = .returned (.bool true) ∧ Ext w w' := by
  have H := Lib.hid h
  have HT := Lib.hid ht
  clear h ht
  obtain ⟨L, hL⟩ : ∃ L, L = calTx s nm c wk := ⟨_, rfl⟩
  have HSP := Lib.hid (fun (m2 r2 : Option Addr) (W : World) (hv : CalV W s m2 r2 c.n c.nr nm c) => (hL ▸ specCalendarText_c wk hv : Calls Tryd.prog 24 #[.agg #[.string s, .slice m2 c.n c.n, .slice r2 c.nr c.nr, .int .i64 wk]] W fun e w' => e = .returned (.string ⟨L.toArray⟩) ∧ Ext W w'))
  have HIM := Lib.hid (fun (m2 r2 : Option Addr) (W : World) (hv : CalV W s m2 r2 c.n c.nr nm c) (hq : Ext w W) => (hL ▸ implCalendarText_c wk hv (HT.out.ext hq) : Calls Tryd.prog 26 #[.agg #[.string s, .slice m2 c.n c.n, .slice r2 c.nr c.nr, .int .i64 wk]] W fun e w' => e = .returned (.string ⟨L.toArray⟩) ∧ Ext W w'))
  clear hL
  go_enter Tryd.func7, Tryd.ntmps7
  go_wp2_with fail
  refine (szCalendar_c s ma ra c.n mc c.nr rc wk nm c.dy c.lp _ _ H.out.nb H.out.rb (by omega) (by omega) H.out.sz H.out.nz (H.out.mem.mo.ext (by repeat (first | with_reducible exact Ext.refl _ | with_reducible assumption | with_reducible refine Ext.alloc ?_ _ | with_reducible refine Ext.drew ?_ | (with_reducible refine Ext.setAt ?_ _ _ _ ?_; rotate_left; omega) | with_reducible refine Ext.trans ?_ (by assumption) | with_reducible exact Past.bel _ | with_reducible refine Ext.trans ?_ (Past.bel _))))).mono ?_
  rintro e w' ⟨r, rfl, y0, y1, y2, hx1⟩
  (first | (obtain ⟨wx1, rfl⟩ := Past.again hx1) | (obtain ⟨wx1, rfl⟩ := Past.of hx1))
  by_cases c1 : r < 0
  · go_wp2_with fail
    go_ret
    exact ⟨rfl, (by repeat (first | with_reducible exact Ext.refl _ | with_reducible assumption | with_reducible refine Ext.alloc ?_ _ | with_reducible refine Ext.drew ?_ | (with_reducible refine Ext.setAt ?_ _ _ _ ?_; rotate_left; omega) | with_reducible refine Ext.trans ?_ (by assumption) | with_reducible exact Past.bel _ | with_reducible refine Ext.trans ?_ (Past.bel _)))⟩
  · obtain ⟨hm, hr⟩ := y2 (by omega)
    go_wp2_with fail
    refine (toCalendar_c s ma ra mc rc wk nm c _ hm hr (H.out.mem.ext (by repeat (first | with_reducible exact Ext.refl _ | with_reducible assumption | with_reducible refine Ext.alloc ?_ _ | with_reducible refine Ext.drew ?_ | (with_reducible refine Ext.setAt ?_ _ _ _ ?_; rotate_left; omega) | with_reducible refine Ext.trans ?_ (by assumption) | with_reducible exact Past.bel _ | with_reducible refine Ext.trans ?_ (Past.bel _))))).mono ?_
    rintro e w' ⟨g1, g2, _, _, rfl, hx2, hm2, -⟩
    have HM2 := Lib.hid hm2
    clear hm2
    (first | (obtain ⟨wx2, rfl⟩ := Past.again hx2) | (obtain ⟨wx2, rfl⟩ := Past.of hx2))
    go_wp2_with fail
    refine (HSP.out _ _ _ ((H.out.v hm hr HM2.out).ext (by repeat (first | with_reducible exact Ext.refl _ | with_reducible assumption | with_reducible refine Ext.alloc ?_ _ | with_reducible refine Ext.drew ?_ | (with_reducible refine Ext.setAt ?_ _ _ _ ?_; rotate_left; omega) | with_reducible refine Ext.trans ?_ (by assumption) | with_reducible exact Past.bel _ | with_reducible refine Ext.trans ?_ (Past.bel _))))).mono ?_
    rintro e w' ⟨rfl, hx3⟩
    (first | (obtain ⟨wx3, rfl⟩ := Past.again hx3) | (obtain ⟨wx3, rfl⟩ := Past.of hx3))
    go_wp2_with fail
    refine (toCalendar_c s ma ra mc rc wk nm c _ hm hr (H.out.mem.ext (by repeat (first | with_reducible exact Ext.refl _ | with_reducible assumption | with_reducible refine Ext.alloc ?_ _ | with_reducible refine Ext.drew ?_ | (with_reducible refine Ext.setAt ?_ _ _ _ ?_; rotate_left; omega) | with_reducible refine Ext.trans ?_ (by assumption) | with_reducible exact Past.bel _ | with_reducible refine Ext.trans ?_ (Past.bel _))))).mono ?_
    rintro e w' ⟨g3, g4, _, _, rfl, hx4, hm4, -⟩
    have HM4 := Lib.hid hm4
    clear hm4
    (first | (obtain ⟨wx4, rfl⟩ := Past.again hx4) | (obtain ⟨wx4, rfl⟩ := Past.of hx4))
    go_wp2_with fail
    refine (HIM.out _ _ _ ((H.out.v hm hr HM4.out).ext (by repeat (first | with_reducible exact Ext.refl _ | with_reducible assumption | with_reducible refine Ext.alloc ?_ _ | with_reducible refine Ext.drew ?_ | (with_reducible refine Ext.setAt ?_ _ _ _ ?_; rotate_left; omega) | with_reducible refine Ext.trans ?_ (by assumption) | with_reducible exact Past.bel _ | with_reducible refine Ext.trans ?_ (Past.bel _)))) (by repeat (first | with_reducible exact Ext.refl _ | with_reducible assumption | with_reducible refine Ext.alloc ?_ _ | with_reducible refine Ext.drew ?_ | (with_reducible refine Ext.setAt ?_ _ _ _ ?_; rotate_left; omega) | with_reducible refine Ext.trans ?_ (by assumption) | with_reducible exact Past.bel _ | with_reducible refine Ext.trans ?_ (Past.bel _)))).mono ?_
    rintro e w' ⟨rfl, hx5⟩
    (first | (obtain ⟨wx5, rfl⟩ := Past.again hx5) | (obtain ⟨wx5, rfl⟩ := Past.of hx5))
    go_wp2_with fail
    have PA := CalP.new 51 s ma ra mc rc wk H.out.mem
    have PB := CalP.new 42 s _ _ c.n c.nr wk HM4.out
    have SK : ∀ w', Ext wx5.out w' → (w'.cell? ⟨w.heap.size, 0, none⟩ = some (.string s) ∧ w'.cell? ⟨w.heap.size, 1, none⟩ = some (.slice ma c.n mc) ∧ w'.cell? ⟨w.heap.size, 2, none⟩ = some (.slice ra c.nr rc) ∧ w'.cell? ⟨w.heap.size, 3, none⟩ = some (.int .i64 wk) ∧ w'.cell? ⟨wx4.out.heap.size, 0, none⟩ = some (.string s) ∧ w'.cell? ⟨wx4.out.heap.size, 1, none⟩ = some (.slice (some ⟨g3, 0, none⟩) c.n c.n) ∧ w'.cell? ⟨wx4.out.heap.size, 2, none⟩ = some (.slice (some ⟨g4, 0, none⟩) c.nr c.nr) ∧ w'.cell? ⟨wx4.out.heap.size, 3, none⟩ = some (.int .i64 wk)) := fun w' hq => by
      have QA := PA.ext (w' := w') (by repeat (first | with_reducible exact Ext.refl _ | with_reducible assumption | with_reducible refine Ext.alloc ?_ _ | with_reducible refine Ext.drew ?_ | (with_reducible refine Ext.setAt ?_ _ _ _ ?_; rotate_left; omega) | with_reducible refine Ext.trans ?_ (by assumption) | with_reducible exact Past.bel _ | with_reducible refine Ext.trans ?_ (Past.bel _)))
      have QB := PB.ext (w' := w') (by repeat (first | with_reducible exact Ext.refl _ | with_reducible assumption | with_reducible refine Ext.alloc ?_ _ | with_reducible refine Ext.drew ?_ | (with_reducible refine Ext.setAt ?_ _ _ _ ?_; rotate_left; omega) | with_reducible refine Ext.trans ?_ (by assumption) | with_reducible exact Past.bel _ | with_reducible refine Ext.trans ?_ (Past.bel _)))
      exact ⟨QA.c0, QA.c1, QA.c2, QA.c3, QB.c0, QB.c1, QB.c2, QB.c3⟩
    have SKO := Lib.hid SK
    clear SK PA PB
    go_region_held3 (fun w' => w'.cell? ⟨w.heap.size, 0, none⟩ = some (.string s) ∧ w'.cell? ⟨w.heap.size, 1, none⟩ = some (.slice ma c.n mc) ∧ w'.cell? ⟨w.heap.size, 2, none⟩ = some (.slice ra c.nr rc) ∧ w'.cell? ⟨w.heap.size, 3, none⟩ = some (.int .i64 wk) ∧ w'.cell? ⟨wx4.out.heap.size, 0, none⟩ = some (.string s) ∧ w'.cell? ⟨wx4.out.heap.size, 1, none⟩ = some (.slice (some ⟨g3, 0, none⟩) c.n c.n) ∧ w'.cell? ⟨wx4.out.heap.size, 2, none⟩ = some (.slice (some ⟨g4, 0, none⟩) c.nr c.nr) ∧ w'.cell? ⟨wx4.out.heap.size, 3, none⟩ = some (.int .i64 wk)) (exact SKO.out _ (by repeat (first | with_reducible exact Ext.refl _ | with_reducible assumption | with_reducible refine Ext.alloc ?_ _ | with_reducible refine Ext.drew ?_ | (with_reducible refine Ext.setAt ?_ _ _ _ ?_; rotate_left; omega) | with_reducible refine Ext.trans ?_ (by assumption) | with_reducible exact Past.bel _ | with_reducible refine Ext.trans ?_ (Past.bel _))))
      (first | (go_at_call 25; ((with_reducible refine (toCalendar_c s ma ra mc rc wk nm c _ hm hr (H.out.mem.ext (by repeat (first | with_reducible exact Ext.refl _ | with_reducible assumption | with_reducible refine Ext.alloc ?_ _ | with_reducible refine Ext.drew ?_ | (with_reducible refine Ext.setAt ?_ _ _ _ ?_; rotate_left; omega) | with_reducible refine Ext.trans ?_ (by assumption) | with_reducible exact Past.bel _ | with_reducible refine Ext.trans ?_ (Past.bel _))))).mono ?_); rintro e w6 ⟨g5, g6, _, _, rfl, hx6, hm6, -⟩)) | (go_at_call 20; ((with_reducible refine (eqCalendar_self s _ _ _ _ _ _ _ _ wk nm c _ hm hr (HM4.out.ext (by repeat (first | with_reducible exact Ext.refl _ | with_reducible assumption | with_reducible refine Ext.alloc ?_ _ | with_reducible refine Ext.drew ?_ | (with_reducible refine Ext.setAt ?_ _ _ _ ?_; rotate_left; omega) | with_reducible refine Ext.trans ?_ (by assumption) | with_reducible exact Past.bel _ | with_reducible refine Ext.trans ?_ (Past.bel _)))) (hm6.ext (by repeat (first | with_reducible exact Ext.refl _ | with_reducible assumption | with_reducible refine Ext.alloc ?_ _ | with_reducible refine Ext.drew ?_ | (with_reducible refine Ext.setAt ?_ _ _ _ ?_; rotate_left; omega) | with_reducible refine Ext.trans ?_ (by assumption) | with_reducible exact Past.bel _ | with_reducible refine Ext.trans ?_ (Past.bel _))))).mono ?_); rintro e w7 ⟨rfl, hx7⟩)))
    all_goals
      go_wp2_with fail
      go_ret
      exact ⟨rfl, (by repeat (first | with_reducible exact Ext.refl _ | with_reducible assumption | with_reducible refine Ext.alloc ?_ _ | with_reducible refine Ext.drew ?_ | (with_reducible refine Ext.setAt ?_ _ _ _ ?_; rotate_left; omega) | with_reducible refine Ext.trans ?_ (by assumption) | with_reducible exact Past.bel _ | with_reducible refine Ext.trans ?_ (Past.bel _)))⟩
end Go.Proofs.YtppphpnimecgpaaDoor

namespace Go.Proofs.YtppphpnimecgpaaDoor
open Go.ChangeShapes Go.WideShapes Go.ChangeAt Go.WideMaps Go.WideElems Go.RowKit
set_option linter.unusedVariables false

theorem b64 {n : Int} (h : (Lit.int .i64 n).wf = true) : B64 n := ⟨(wf_bd h).1, (wf_bd h).2⟩
def laid3 {H : Type} : List (String × DataW H) := [("math/bits.deBruijn32tab", Rows.laid_math_bits_deBruijn32tab), ("math/bits.deBruijn64tab", Rows.laid_math_bits_deBruijn64tab), ("internal/strconv.uint64pow10", Rows.laid_internal_strconv_uint64pow10)]
theorem door_met (os : Os) (args : Array Value) : laidMetH Tryd.prog laid3 ((World.doorLaid Tryd.prog 24 os).forCall (fun _ _ => 0) ⟨#[], args, []⟩).memory :=
  laidMetH_of_parts3 (fuel := 8) (laidMet_of_run' 8 (by kernel_rfl) (by kernel_rfl)) (by kernel_rfl) (by kernel_rfl)
theorem tab_of {W : World} (h : laidMetH Tryd.prog laid3 W) : Tab W := by
  rw [MakeChecks.laidMetH_plain _ _ _ (by kernel_rfl)] at h
  obtain ⟨ps, ⟨g0, t0, cs0, f0, p0, q0, hg0, ht0, hv0, hd0, ⟨g1, t1, cs1, f1, p1, q1, hg1, ht1, hv1, hd1, ⟨g2, t2, cs2, f2, p2, q2, hg2, ht2, hv2, hd2, _, _⟩, _⟩, _⟩, _, _⟩ := h
  have k1 : Tryd.prog.globalNamed "internal/strconv.uint64pow10" = some 0 := by kernel_rfl
  have k2 : (Tryd.prog.globals[0]?).map (·.type) = some 124 := by kernel_rfl
  obtain rfl := Option.some.inj (k1.symm.trans hg2)
  obtain rfl := Option.some.inj (k2.symm.trans ht2)
  refine Lib.tabBelow_of_tabIs ?_
  unfold Lib.TabIs
  rw [hv2, ← Lib.cells_of_tab (k := .u64) (zs := Lib.pow10Tab) (n := 20) Tryd.underlying124 Tryd.underlying116 (by kernel_rfl) (by kernel_rfl) hd2]
end Go.Proofs.YtppphpnimecgpaaDoor
