/- The law on NextFault: its walk. -/
import Derived.Test.YtkihjplemnndeaaBe

namespace Go.Proofs.Ytkihjplemnndeaa
open Go.RowKit
set_option linter.unusedVariables false
set_option linter.unusedSimpArgs false

theorem eqFault_self (y m d k : Int) (w : World) : Calls Try.prog 20 #[.agg #[.int .i64 y, .int .i64 m, .int .i64 d, .int .i64 k], .agg #[.int .i64 y, .int .i64 m, .int .i64 d, .int .i64 k]] w fun e w' => e = .returned (.bool true) ∧ Ext w w' := by
  go_enter Try.func20, Try.ntmps20
  go_wp2
  go_ret
  exact ⟨rfl, (by repeat (first | with_reducible exact Ext.refl _ | with_reducible assumption | with_reducible refine Ext.alloc ?_ _ | with_reducible refine Ext.drew ?_ | (with_reducible refine Ext.setAt ?_ _ _ _ ?_; rotate_left; omega) | with_reducible refine Ext.trans ?_ (by assumption) | with_reducible exact Past.bel _ | with_reducible refine Ext.trans ?_ (Past.bel _)))⟩
set_option maxHeartbeats 8000000 in
theorem walkNextFault (s : ByteArray) (ma ra : Option Addr) (mc rc : Nat) (wk : Int) (nm : Nat → ByteArray) (c : CalN) (a : Option Addr) (n cap : Nat) (z : Nat → Int) (first : Int) (hm' : n ≤ maxLen) (w : World) (h : CalA w s ma ra mc rc nm c) (hs : S1 w a n z) :
    Calls Try.prog 5 #[.agg #[.string s, .slice ma c.n mc, .slice ra c.nr rc, .int .i64 wk], .slice a n cap, .int .i64 first] w fun e w' => e = .returned (.bool true) ∧ Ext w w' := by
  have H := Lib.hid h
  have HS := Lib.hid hs
  have HM' := Lib.hid hm'
  clear h hs hm'
  by_cases hn : n ≤ 1048576
  · have h1 : ¬ (1048576 : Int) < n := by omega
    obtain ⟨⟨q1, q2, q3, q4⟩, hV⟩ : ∃ V, V = nfQ s nm c wk n z first := ⟨_, rfl⟩
    obtain ⟨K, hK⟩ : ∃ K, K = nfK s nm c wk n z first := ⟨_, rfl⟩
    have hsp : ∀ (m2 r2 b2 : Option Addr) (W : World), CalV W s m2 r2 c.n c.nr nm c → S1 W b2 n z → Calls Try.prog 18 #[.agg #[.string s, .slice m2 c.n c.n, .slice r2 c.nr c.nr, .int .i64 wk], .slice b2 n n, .int .i64 first] W fun e w' => e = .returned (.tuple #[.agg #[.int .i64 q1, .int .i64 q2, .int .i64 q3, .int .i64 q4], .int .i64 K]) ∧ Ext W w' := fun _ _ _ _ hv hz => specNextFault_c wk hv hn hz first hV.symm hK.symm
    have him : ∀ (m2 r2 b2 : Option Addr) (W : World), CalV W s m2 r2 c.n c.nr nm c → S1 W b2 n z → Calls Try.prog 19 #[.agg #[.string s, .slice m2 c.n c.n, .slice r2 c.nr c.nr, .int .i64 wk], .slice b2 n n, .int .i64 first] W fun e w' => e = .returned (.tuple #[.agg #[.int .i64 q1, .int .i64 q2, .int .i64 q3, .int .i64 q4], .int .i64 K]) ∧ Ext W w' := fun _ _ _ _ hv hz => implNextFault_c wk hv hn hz first hV.symm hK.symm
    have HSP := Lib.hid hsp
    have HIM := Lib.hid him
    clear hsp him hK hV
    go_enter Try.func5, Try.ntmps5
    go_wp2_with fail
    refine (szCalendar_c s ma ra c.n mc c.nr rc wk nm c.dy c.lp _ _ H.out.nb H.out.rb (by omega) (by omega) H.out.sz H.out.nz (H.out.mem.mo.ext (by repeat (first | with_reducible exact Ext.refl _ | with_reducible assumption | with_reducible refine Ext.alloc ?_ _ | with_reducible refine Ext.drew ?_ | (with_reducible refine Ext.setAt ?_ _ _ _ ?_; rotate_left; omega) | with_reducible refine Ext.trans ?_ (by assumption) | with_reducible exact Past.bel _ | with_reducible refine Ext.trans ?_ (Past.bel _))))).mono ?_
    rintro e w' ⟨r, rfl, y0, y1, y2, hx1⟩
    (first | (obtain ⟨wx1, rfl⟩ := Past.again hx1) | (obtain ⟨wx1, rfl⟩ := Past.of hx1))
    by_cases c1 : r < 0
    · go_wp2_with fail
      go_ret
      exact ⟨rfl, (by repeat (first | with_reducible exact Ext.refl _ | with_reducible assumption | with_reducible refine Ext.alloc ?_ _ | with_reducible refine Ext.drew ?_ | (with_reducible refine Ext.setAt ?_ _ _ _ ?_; rotate_left; omega) | with_reducible refine Ext.trans ?_ (by assumption) | with_reducible exact Past.bel _ | with_reducible refine Ext.trans ?_ (Past.bel _)))⟩
    · obtain ⟨hm, hr⟩ := y2 (by omega)
      go_wp2_with fail
      refine (toCalendar_c s ma ra mc rc wk nm c _ hm hr (H.out.mem.ext (by repeat (first | with_reducible exact Ext.refl _ | with_reducible assumption | with_reducible refine Ext.alloc ?_ _ | with_reducible refine Ext.drew ?_ | (with_reducible refine Ext.setAt ?_ _ _ _ ?_; rotate_left; omega) | with_reducible refine Ext.trans ?_ (by assumption) | with_reducible exact Past.bel _ | with_reducible refine Ext.trans ?_ (Past.bel _))))).mono ?_
      rintro e w' ⟨g1, g2, _, _, rfl, hx2, hm2, -⟩
      have V2 := Lib.hid (H.out.v hm hr hm2)
      clear hm2
      (first | (obtain ⟨wx2, rfl⟩ := Past.again hx2) | (obtain ⟨wx2, rfl⟩ := Past.of hx2))
      go_wp2_with fail
      refine (toInt64S_r _ _ _ _ _ hn (HS.out.ext (by repeat (first | with_reducible exact Ext.refl _ | with_reducible assumption | with_reducible refine Ext.alloc ?_ _ | with_reducible refine Ext.drew ?_ | (with_reducible refine Ext.setAt ?_ _ _ _ ?_; rotate_left; omega) | with_reducible refine Ext.trans ?_ (by assumption) | with_reducible exact Past.bel _ | with_reducible refine Ext.trans ?_ (Past.bel _))))).mono ?_
      rintro e w' ⟨g7, rfl, hx7, hs7⟩
      have HS7 := Lib.hid hs7
      clear hs7
      (first | (obtain ⟨wx7, rfl⟩ := Past.again hx7) | (obtain ⟨wx7, rfl⟩ := Past.of hx7))
      go_wp2_with fail
      refine (HSP.out _ _ _ _ (V2.out.ext (by repeat (first | with_reducible exact Ext.refl _ | with_reducible assumption | with_reducible refine Ext.alloc ?_ _ | with_reducible refine Ext.drew ?_ | (with_reducible refine Ext.setAt ?_ _ _ _ ?_; rotate_left; omega) | with_reducible refine Ext.trans ?_ (by assumption) | with_reducible exact Past.bel _ | with_reducible refine Ext.trans ?_ (Past.bel _)))) (HS7.out.ext (by repeat (first | with_reducible exact Ext.refl _ | with_reducible assumption | with_reducible refine Ext.alloc ?_ _ | with_reducible refine Ext.drew ?_ | (with_reducible refine Ext.setAt ?_ _ _ _ ?_; rotate_left; omega) | with_reducible refine Ext.trans ?_ (by assumption) | with_reducible exact Past.bel _ | with_reducible refine Ext.trans ?_ (Past.bel _))))).mono ?_
      rintro e w' ⟨rfl, hx3⟩
      (first | (obtain ⟨wx3, rfl⟩ := Past.again hx3) | (obtain ⟨wx3, rfl⟩ := Past.of hx3))
      go_wp2_with fail
      refine (toCalendar_c s ma ra mc rc wk nm c _ hm hr (H.out.mem.ext (by repeat (first | with_reducible exact Ext.refl _ | with_reducible assumption | with_reducible refine Ext.alloc ?_ _ | with_reducible refine Ext.drew ?_ | (with_reducible refine Ext.setAt ?_ _ _ _ ?_; rotate_left; omega) | with_reducible refine Ext.trans ?_ (by assumption) | with_reducible exact Past.bel _ | with_reducible refine Ext.trans ?_ (Past.bel _))))).mono ?_
      rintro e w' ⟨g3, g4, _, _, rfl, hx4, hm4, -⟩
      have HM4 := Lib.hid hm4
      have V4 := Lib.hid (H.out.v hm hr hm4)
      clear hm4
      (first | (obtain ⟨wx4, rfl⟩ := Past.again hx4) | (obtain ⟨wx4, rfl⟩ := Past.of hx4))
      go_wp2_with fail
      refine (toInt64S_r _ _ _ _ _ hn (HS.out.ext (by repeat (first | with_reducible exact Ext.refl _ | with_reducible assumption | with_reducible refine Ext.alloc ?_ _ | with_reducible refine Ext.drew ?_ | (with_reducible refine Ext.setAt ?_ _ _ _ ?_; rotate_left; omega) | with_reducible refine Ext.trans ?_ (by assumption) | with_reducible exact Past.bel _ | with_reducible refine Ext.trans ?_ (Past.bel _))))).mono ?_
      rintro e w' ⟨g8, rfl, hx8, hs8⟩
      have HS8 := Lib.hid hs8
      clear hs8
      (first | (obtain ⟨wx8, rfl⟩ := Past.again hx8) | (obtain ⟨wx8, rfl⟩ := Past.of hx8))
      go_wp2_with fail
      refine (HIM.out _ _ _ _ (V4.out.ext (by repeat (first | with_reducible exact Ext.refl _ | with_reducible assumption | with_reducible refine Ext.alloc ?_ _ | with_reducible refine Ext.drew ?_ | (with_reducible refine Ext.setAt ?_ _ _ _ ?_; rotate_left; omega) | with_reducible refine Ext.trans ?_ (by assumption) | with_reducible exact Past.bel _ | with_reducible refine Ext.trans ?_ (Past.bel _)))) (HS8.out.ext (by repeat (first | with_reducible exact Ext.refl _ | with_reducible assumption | with_reducible refine Ext.alloc ?_ _ | with_reducible refine Ext.drew ?_ | (with_reducible refine Ext.setAt ?_ _ _ _ ?_; rotate_left; omega) | with_reducible refine Ext.trans ?_ (by assumption) | with_reducible exact Past.bel _ | with_reducible refine Ext.trans ?_ (Past.bel _))))).mono ?_
      rintro e w' ⟨rfl, hx5⟩
      (first | (obtain ⟨wx5, rfl⟩ := Past.again hx5) | (obtain ⟨wx5, rfl⟩ := Past.of hx5))
      have z5 := wx5.bel.size
      have z4 := wx4.bel.size
      have z3 := wx3.bel.size
      simp only [World.size_alloc] at z3 z4 z5
      have g3' : wx3.out.heap.size < wx4.out.heap.size := by omega
      have g4' : wx3.out.heap.size < wx5.out.heap.size := by omega
      go_wp2_with fail
      refine (eqFault_self _ _ _ _ _).mono ?_
      rintro e w' ⟨rfl, hx55⟩
      (first | (obtain ⟨wx55, rfl⟩ := Past.again hx55) | (obtain ⟨wx55, rfl⟩ := Past.of hx55))
      go_wp2_with fail
      have PA := CalP.new 25 s ma ra mc rc wk H.out.mem
      have PB := CalP.new 33 s _ _ c.n c.nr wk HM4.out
      have SK : ∀ w', Ext (wx5.out.alloc (.cells #[.int .i64 q1, .int .i64 q2, .int .i64 q3, .int .i64 q4] 45)) w' → ((w'.cell? ⟨w.heap.size, 0, none⟩ = some (.string s) ∧ w'.cell? ⟨w.heap.size, 1, none⟩ = some (.slice ma c.n mc) ∧ w'.cell? ⟨w.heap.size, 2, none⟩ = some (.slice ra c.nr rc) ∧ w'.cell? ⟨w.heap.size, 3, none⟩ = some (.int .i64 wk)) ∧ (w'.cell? ⟨wx4.out.heap.size, 0, none⟩ = some (.string s) ∧ w'.cell? ⟨wx4.out.heap.size, 1, none⟩ = some (.slice (some ⟨g3, 0, none⟩) c.n c.n) ∧ w'.cell? ⟨wx4.out.heap.size, 2, none⟩ = some (.slice (some ⟨g4, 0, none⟩) c.nr c.nr) ∧ w'.cell? ⟨wx4.out.heap.size, 3, none⟩ = some (.int .i64 wk))) := fun w' hq => by
        have QA := PA.ext (w' := w') (by repeat (first | with_reducible exact Ext.refl _ | with_reducible assumption | with_reducible refine Ext.alloc ?_ _ | with_reducible refine Ext.drew ?_ | (with_reducible refine Ext.setAt ?_ _ _ _ ?_; rotate_left; omega) | with_reducible refine Ext.trans ?_ (by assumption) | with_reducible exact Past.bel _ | with_reducible refine Ext.trans ?_ (Past.bel _)))
        have QB := PB.ext (w' := w') (by repeat (first | with_reducible exact Ext.refl _ | with_reducible assumption | with_reducible refine Ext.alloc ?_ _ | with_reducible refine Ext.drew ?_ | (with_reducible refine Ext.setAt ?_ _ _ _ ?_; rotate_left; omega) | with_reducible refine Ext.trans ?_ (by assumption) | with_reducible exact Past.bel _ | with_reducible refine Ext.trans ?_ (Past.bel _)))
        exact ⟨⟨QA.c0, QA.c1, QA.c2, QA.c3⟩, QB.c0, QB.c1, QB.c2, QB.c3⟩
      have SKO := Lib.hid SK
      clear SK PA PB
      go_region_held3 (fun w' => ((w'.cell? ⟨w.heap.size, 0, none⟩ = some (.string s) ∧ w'.cell? ⟨w.heap.size, 1, none⟩ = some (.slice ma c.n mc) ∧ w'.cell? ⟨w.heap.size, 2, none⟩ = some (.slice ra c.nr rc) ∧ w'.cell? ⟨w.heap.size, 3, none⟩ = some (.int .i64 wk)) ∧ (w'.cell? ⟨wx4.out.heap.size, 0, none⟩ = some (.string s) ∧ w'.cell? ⟨wx4.out.heap.size, 1, none⟩ = some (.slice (some ⟨g3, 0, none⟩) c.n c.n) ∧ w'.cell? ⟨wx4.out.heap.size, 2, none⟩ = some (.slice (some ⟨g4, 0, none⟩) c.nr c.nr) ∧ w'.cell? ⟨wx4.out.heap.size, 3, none⟩ = some (.int .i64 wk)))) (exact SKO.out _ (by repeat (first | with_reducible exact Ext.refl _ | with_reducible assumption | with_reducible refine Ext.alloc ?_ _ | with_reducible refine Ext.drew ?_ | (with_reducible refine Ext.setAt ?_ _ _ _ ?_; rotate_left; omega) | with_reducible refine Ext.trans ?_ (by assumption) | with_reducible exact Past.bel _ | with_reducible refine Ext.trans ?_ (Past.bel _))))
        (first | (go_at_call 8; ((with_reducible refine (toCalendar_c s ma ra mc rc wk nm c _ hm hr (H.out.mem.ext (by repeat (first | with_reducible exact Ext.refl _ | with_reducible assumption | with_reducible refine Ext.alloc ?_ _ | with_reducible refine Ext.drew ?_ | (with_reducible refine Ext.setAt ?_ _ _ _ ?_; rotate_left; omega) | with_reducible refine Ext.trans ?_ (by assumption) | with_reducible exact Past.bel _ | with_reducible refine Ext.trans ?_ (Past.bel _))))).mono ?_); rintro e wA ⟨g5, g6, _, _, rfl, hx6, hm6, -⟩)) | (go_at_call 11; ((with_reducible refine (eqCalendar_self s _ _ _ _ _ _ _ _ wk nm c _ hm hr (HM4.out.ext (by repeat (first | with_reducible exact Ext.refl _ | with_reducible assumption | with_reducible refine Ext.alloc ?_ _ | with_reducible refine Ext.drew ?_ | (with_reducible refine Ext.setAt ?_ _ _ _ ?_; rotate_left; omega) | with_reducible refine Ext.trans ?_ (by assumption) | with_reducible exact Past.bel _ | with_reducible refine Ext.trans ?_ (Past.bel _)))) (hm6.ext (by repeat (first | with_reducible exact Ext.refl _ | with_reducible assumption | with_reducible refine Ext.alloc ?_ _ | with_reducible refine Ext.drew ?_ | (with_reducible refine Ext.setAt ?_ _ _ _ ?_; rotate_left; omega) | with_reducible refine Ext.trans ?_ (by assumption) | with_reducible exact Past.bel _ | with_reducible refine Ext.trans ?_ (Past.bel _))))).mono ?_); rintro e wB ⟨rfl, hxB⟩)))
      go_wp2_with fail
      refine (toInt64S_r _ _ _ _ _ hn (HS.out.ext (by repeat (first | with_reducible exact Ext.refl _ | with_reducible assumption | with_reducible refine Ext.alloc ?_ _ | with_reducible refine Ext.drew ?_ | (with_reducible refine Ext.setAt ?_ _ _ _ ?_; rotate_left; omega) | with_reducible refine Ext.trans ?_ (by assumption) | with_reducible exact Past.bel _ | with_reducible refine Ext.trans ?_ (Past.bel _))))).mono ?_
      rintro e wC ⟨g9, rfl, hx9, hs9⟩
      have HS9 := Lib.hid hs9
      clear hs9
      go_wp2_with fail
      refine (eqInt64S_self _ _ _ _ _ _ _ hn (HS8.out.ext (by repeat (first | with_reducible exact Ext.refl _ | with_reducible assumption | with_reducible refine Ext.alloc ?_ _ | with_reducible refine Ext.drew ?_ | (with_reducible refine Ext.setAt ?_ _ _ _ ?_; rotate_left; omega) | with_reducible refine Ext.trans ?_ (by assumption) | with_reducible exact Past.bel _ | with_reducible refine Ext.trans ?_ (Past.bel _)))) HS9.out).mono ?_
      rintro e wD ⟨rfl, hx10⟩
      go_wp2_with fail
      go_ret
      exact ⟨rfl, (by repeat (first | with_reducible exact Ext.refl _ | with_reducible assumption | with_reducible refine Ext.alloc ?_ _ | with_reducible refine Ext.drew ?_ | (with_reducible refine Ext.setAt ?_ _ _ _ ?_; rotate_left; omega) | with_reducible refine Ext.trans ?_ (by assumption) | with_reducible exact Past.bel _ | with_reducible refine Ext.trans ?_ (Past.bel _)))⟩
  · have h1 : (1048576 : Int) < n := by omega
    go_enter Try.func5, Try.ntmps5
    go_wp2_with fail
    go_ret
    exact ⟨rfl, (by repeat (first | with_reducible exact Ext.refl _ | with_reducible assumption | with_reducible refine Ext.alloc ?_ _ | with_reducible refine Ext.drew ?_ | (with_reducible refine Ext.setAt ?_ _ _ _ ?_; rotate_left; omega) | with_reducible refine Ext.trans ?_ (by assumption) | with_reducible exact Past.bel _ | with_reducible refine Ext.trans ?_ (Past.bel _)))⟩
end Go.Proofs.Ytkihjplemnndeaa
