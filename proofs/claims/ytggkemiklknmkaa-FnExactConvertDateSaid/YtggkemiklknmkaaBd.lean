/- Dates of numbers: the reference's. Dates of numbers: the program's. Calendars: what the functions on days return. No program in sight. Cycles, days, weeks: the functions as they are called. Days between, days of the week: the functions as they are called. -/
import Derived.Test.YtggkemiklknmkaaBc

namespace Go.Proofs.Ytggkemiklknmkaa
open Go.RowKit
set_option linter.unusedVariables false
set_option linter.unusedSimpArgs false

section
variable {g : Nat} {s : ByteArray} {ma ra : Option Addr} {mc rc : Nat} {wk : Int} {nm : Nat → ByteArray} {c : CalN} {w : World}
set_option maxHeartbeats 2000000 in
theorem l16Date_no (b : CalB c) (h : CalQ w g s ma ra mc rc wk nm c) {x : Int} (hx : inB x 0 (c.bef 10000 - 1) = false) :
    Calls Try.prog 56 #[.pointer (some ⟨g, 0, none⟩), .int .i64 x] w fun e w' => e = .returned (.tuple #[.agg #[.int .i64 0, .int .i64 0, .int .i64 0], .bool false]) ∧ Ext w w' := by
  obtain ⟨L, hL⟩ : ∃ L, L = c.bef 10000 := ⟨_, rfl⟩
  have hl : ∀ W, Ext w W → Calls Try.prog 47 #[.pointer (some ⟨g, 0, none⟩)] W fun e w' => e = .returned (.int .i64 (L - 1)) ∧ Ext W w' := fun W hq => by rw [hL]; exact l16Last_q b (h.ext hq)
  have HL := Lib.hid hl
  rw [← hL] at hx
  clear h b hL hl
  go_enter Try.func56, Try.ntmps56
  go_wp2_with (first | (go_at_call 47; ((with_reducible refine (HL.out _ (by repeat (first | with_reducible exact Ext.refl _ | with_reducible assumption | with_reducible refine Ext.alloc ?_ _ | with_reducible refine Ext.drew ?_ | (with_reducible refine Ext.setAt ?_ _ _ _ ?_; rotate_left; omega) | with_reducible refine Ext.trans ?_ (by assumption) | with_reducible exact Past.bel _ | with_reducible refine Ext.trans ?_ (Past.bel _)))).mono ?_); rintro e w' ⟨rfl, hx⟩; (first | (obtain ⟨wx, rfl⟩ := Past.again hx) | (obtain ⟨wx, rfl⟩ := Past.ofd hx) | (obtain ⟨wx, rfl⟩ := Past.of hx)))) | (go_at_call 53; ((with_reducible refine (l00In_c _ _ _ _).mono ?_); rintro e w' ⟨rfl, rfl⟩)))
  exact bodyPost_ret (v := .tuple #[.agg #[.int .i64 0, .int .i64 0, .int .i64 0], .bool false]) (by simp [results, Try.results56, go_sem]) rfl ⟨rfl, (by repeat (first | with_reducible exact Ext.refl _ | with_reducible assumption | with_reducible refine Ext.alloc ?_ _ | with_reducible refine Ext.drew ?_ | (with_reducible refine Ext.setAt ?_ _ _ _ ?_; rotate_left; omega) | with_reducible refine Ext.trans ?_ (by assumption) | with_reducible exact Past.bel _ | with_reducible refine Ext.trans ?_ (Past.bel _)))⟩
set_option maxHeartbeats 4000000 in
theorem l16Date_yes (b : CalB c) (h : CalQ w g s ma ra mc rc wk nm c) {x : Int} (hx : inB x 0 (c.bef 10000 - 1) = true) {Y M : Nat} {d : Int} (l : Loc c x Y M d) :
    Calls Try.prog 56 #[.pointer (some ⟨g, 0, none⟩), .int .i64 x] w fun e w' => e = .returned (.tuple #[.agg #[.int .i64 (Y : Nat), .int .i64 ((M : Int) + 1), .int .i64 d], .bool true]) ∧ Ext w w' := by
  have hx' := inB_t.1 hx
  have z0 := b.last
  have hY : Y ≤ 9999 := by have := l.lt b (K := 10000) (by omega); omega
  have n20 := b.n20
  have hM := l.mn
  obtain ⟨C, q, hC, c1, c2, e1, e2, d1, d2, hq, hq1⟩ := l.cut b
  have HC := Lib.hid hC
  obtain ⟨L, hL⟩ : ∃ L, L = c.bef 10000 := ⟨_, rfl⟩
  have hl : ∀ W, Ext w W → Calls Try.prog 47 #[.pointer (some ⟨g, 0, none⟩)] W fun e w' => e = .returned (.int .i64 (L - 1)) ∧ Ext W w' := fun W hq => by rw [hL]; exact l16Last_q b (h.ext hq)
  have HL := Lib.hid hl
  rw [← hL] at hx hx' z0
  have H := Lib.hid h
  have B := Lib.hid b
  have LO := Lib.hid l
  have z1 := (b.befC (q * C) (by omega))
  have t1 : x.tdiv (c.bef C) = (q : Int) := by rw [tdiv_nn (by omega), d1]
  have t2 : x.tmod (c.bef C) = x - c.bef (q * C) := by rw [Int.tmod_eq_emod_of_nonneg (by omega), d2]
  have y1 : (q : Int) ≤ 10000 := by omega
  have y2 : (q : Int) * (C : Int) = ((q * C : Nat) : Int) := by simp
  have y3 : 0 ≤ (q : Int) * (C : Int) := by omega
  have y4 : (q : Int) * (C : Int) ≤ 10000 := by omega
  have Y2 := Lib.hid y2
  have DY := Lib.hid l.dd
  have dd := l.day b
  clear h b hC hL hl l y2
  go_enter Try.func56, Try.ntmps56
  go_wp2_with (first | (go_at_call 47; ((with_reducible refine (HL.out _ (by repeat (first | with_reducible exact Ext.refl _ | with_reducible assumption | with_reducible refine Ext.alloc ?_ _ | with_reducible refine Ext.drew ?_ | (with_reducible refine Ext.setAt ?_ _ _ _ ?_; rotate_left; omega) | with_reducible refine Ext.trans ?_ (by assumption) | with_reducible exact Past.bel _ | with_reducible refine Ext.trans ?_ (Past.bel _)))).mono ?_); rintro e w' ⟨rfl, hx⟩; (first | (obtain ⟨wx, rfl⟩ := Past.again hx) | (obtain ⟨wx, rfl⟩ := Past.ofd hx) | (obtain ⟨wx, rfl⟩ := Past.of hx)))) | (go_at_call 53; ((with_reducible refine (l00In_c _ _ _ _).mono ?_); rintro e w' ⟨rfl, rfl⟩)) | (go_at_call 39; ((with_reducible refine (l15Cycle_q B.out (H.out.ext (by repeat (first | with_reducible exact Ext.refl _ | with_reducible assumption | with_reducible refine Ext.alloc ?_ _ | with_reducible refine Ext.drew ?_ | (with_reducible refine Ext.setAt ?_ _ _ _ ?_; rotate_left; omega) | with_reducible refine Ext.trans ?_ (by assumption) | with_reducible exact Past.bel _ | with_reducible refine Ext.trans ?_ (Past.bel _)))) HC.out c2).mono ?_); rintro e w' ⟨rfl, hx⟩; (first | (obtain ⟨wx, rfl⟩ := Past.again hx) | (obtain ⟨wx, rfl⟩ := Past.ofd hx) | (obtain ⟨wx, rfl⟩ := Past.of hx)))))
  rename Past _ => wx0
  have hw0 : Ext w wx0.out := (by repeat (first | with_reducible exact Ext.refl _ | with_reducible assumption | with_reducible refine Ext.alloc ?_ _ | with_reducible refine Ext.drew ?_ | (with_reducible refine Ext.setAt ?_ _ _ _ ?_; rotate_left; omega) | with_reducible refine Ext.trans ?_ (by assumption) | with_reducible exact Past.bel _ | with_reducible refine Ext.trans ?_ (Past.bel _)))
  have HW0 := Lib.hid hw0
  have hws := wx0.bel.size
  simp only [World.size_alloc] at hws
  have RR : ∀ W, Ext wx0.out W → (W.cell? ⟨w.heap.size, 0, none⟩ = some (.int .i64 0) ∧ W.cell? ⟨w.heap.size, 1, none⟩ = some (.int .i64 0) ∧ W.cell? ⟨w.heap.size, 2, none⟩ = some (.int .i64 0)) ∧ (W.frozen? ⟨w.heap.size, 0, none⟩ = false ∧ W.frozen? ⟨w.heap.size, 1, none⟩ = false ∧ W.frozen? ⟨w.heap.size, 2, none⟩ = false) := fun W hq => by
    refine ⟨⟨?_, ?_, ?_⟩, ?_, ?_, ?_⟩
    · rw [hq.cell (by omega)]; simp [go_sem]
    · rw [hq.cell (by omega)]; simp [go_sem]
    · rw [hq.cell (by omega)]; simp [go_sem]
    · rw [Below.frozen (p := ⟨w.heap.size, 0, none⟩) hq (show w.heap.size < wx0.out.heap.size by omega)]; simp [go_sem]
    · rw [Below.frozen (p := ⟨w.heap.size, 1, none⟩) hq (show w.heap.size < wx0.out.heap.size by omega)]; simp [go_sem]
    · rw [Below.frozen (p := ⟨w.heap.size, 2, none⟩) hq (show w.heap.size < wx0.out.heap.size by omega)]; simp [go_sem]
  have RRO := Lib.hid RR
  have hq2 : (q : Int) * (C : Int) = ((q * C : Nat) : Int) := Y2.out
  clear RR hw0 t1 t2 d1 d2 y3 y4
  go_loopw [9] (fun v wr => ∃ j : Nat, q * C ≤ j ∧ j ≤ Y ∧ v = .int .i64 (x - c.bef j) ∧ Ext wx0.out wr ∧ Blk wr wx0.out.heap.size 41 #[.int .i64 (j : Nat), .int .i64 1, .int .i64 0]) (fun v _ => (intOf v).toNat)
  case atStart => exact ⟨q * C, by omega, hq, rfl, (by repeat (first | with_reducible exact Ext.refl _ | with_reducible assumption | with_reducible refine Ext.alloc ?_ _ | with_reducible refine Ext.drew ?_ | (with_reducible refine Ext.setAt ?_ _ _ _ ?_; rotate_left; omega) | with_reducible refine Ext.trans ?_ (by assumption) | with_reducible exact Past.bel _ | with_reducible refine Ext.trans ?_ (Past.bel _))), by rw [← hq2]; exact Blk.new _ _ _⟩
  case round =>
    obtain ⟨j, hj0, hj, rfl, hbl, hblk⟩ := hrel
    have HK := Lib.hid hblk
    have k0 := hblk.cell 0
    have k1 := hblk.cell 1
    have k2 := hblk.cell 2
    have f0 := hblk.frozen 0
    have f1 := hblk.frozen 1
    have f2 := hblk.frozen 2
    have gk := hblk.lt
    simp only [List.getElem?_toArray, List.getElem?_cons_zero, List.getElem?_cons_succ] at k0 k1 k2
    have hb0 : Ext w wr := Ext.trans HW0.out hbl
    have z2 := B.out.yl (j : Int)
    have z3 := B.out.befC j (by omega)
    clear hblk hq2
    by_cases hlt : j < Y
    · have z4 := LO.out.yr B.out hlt
      have z5 := bef_succ (c := c) j
      have Z5 := Lib.hid z5
      clear z5
      go_wp2_with (go_at_call 66; ((with_reducible refine (l15All_q B.out (H.out.ext (by repeat (first | with_reducible exact Ext.refl _ | with_reducible assumption | with_reducible refine Ext.alloc ?_ _ | with_reducible refine Ext.drew ?_ | (with_reducible refine Ext.setAt ?_ _ _ _ ?_; rotate_left; omega) | with_reducible refine Ext.trans ?_ (by assumption) | with_reducible exact Past.bel _ | with_reducible refine Ext.trans ?_ (Past.bel _)))) (by omega) (by omega)).mono ?_); rintro e w' ⟨rfl, hx⟩; (first | (obtain ⟨wx, rfl⟩ := Past.again hx) | (obtain ⟨wx, rfl⟩ := Past.ofd hx) | (obtain ⟨wx, rfl⟩ := Past.of hx))))
      exact ⟨⟨j + 1, by omega, by omega, by rw [Z5.out]; go_num, (by repeat (first | with_reducible exact Ext.refl _ | with_reducible assumption | with_reducible refine Ext.alloc ?_ _ | with_reducible refine Ext.drew ?_ | (with_reducible refine Ext.setAt ?_ _ _ _ ?_; rotate_left; omega) | with_reducible refine Ext.trans ?_ (by assumption) | with_reducible exact Past.bel _ | with_reducible refine Ext.trans ?_ (Past.bel _))), by have hz := (HK.out.ext (Past.bel wx)).set 0 (.int .i64 ((j : Int) + 1)); simpa using hz⟩, by simp [intOf]; omega⟩
    · have hjY : j = Y := by omega
      subst hjY
      have z4 := LO.out.yr'
      go_wp2_with (go_at_call 66; ((with_reducible refine (l15All_q B.out (H.out.ext (by repeat (first | with_reducible exact Ext.refl _ | with_reducible assumption | with_reducible refine Ext.alloc ?_ _ | with_reducible refine Ext.drew ?_ | (with_reducible refine Ext.setAt ?_ _ _ _ ?_; rotate_left; omega) | with_reducible refine Ext.trans ?_ (by assumption) | with_reducible exact Past.bel _ | with_reducible refine Ext.trans ?_ (Past.bel _)))) (by omega) (by omega)).mono ?_); rintro e w' ⟨rfl, hx⟩; (first | (obtain ⟨wx, rfl⟩ := Past.again hx) | (obtain ⟨wx, rfl⟩ := Past.ofd hx) | (obtain ⟨wx, rfl⟩ := Past.of hx))))
      have HK2 := Lib.hid (HK.out.ext (Past.bel wx))
      have HB2 := Lib.hid (show Ext wx0.out wx.out from Ext.trans hbl (Past.bel wx))
      clear hb0 k0 k1 k2 f0 f1 f2 gk hbl z2 z3 z4 HK
      go_loopw [9] (fun v wr => ∃ i : Nat, i ≤ M ∧ v = .int .i64 (x - c.bef j - sm (c.mo (j : Int)) i) ∧ Ext wx0.out wr ∧ Blk wr wx0.out.heap.size 41 #[.int .i64 (j : Nat), .int .i64 ((i : Int) + 1), .int .i64 0]) (fun v _ => (intOf v).toNat)
      case atStart => exact ⟨0, by omega, by simp [sm], HB2.out, HK2.out⟩
      case round =>
        obtain ⟨i, hi, rfl, hbl, hblk⟩ := hrel
        have HK := Lib.hid hblk
        have k0 := hblk.cell 0
        have k1 := hblk.cell 1
        have k2 := hblk.cell 2
        have f0 := hblk.frozen 0
        have f1 := hblk.frozen 1
        have f2 := hblk.frozen 2
        have gk := hblk.lt
        simp only [List.getElem?_toArray, List.getElem?_cons_zero, List.getElem?_cons_succ] at k0 k1 k2
        have hb0 : Ext w wr := Ext.trans HW0.out hbl
        have him : i < c.n := by omega
        have z2 := B.out.mo (j : Int) him
        have z3 := B.out.befC j (by omega)
        have z6 := sm_bd (f := c.mo (j : Int)) (A := 1) (B := 60) (k := i) fun i' hi' => B.out.mo _ (by omega)
        clear hblk
        by_cases hlt : i < M
        · have z4 := LO.out.mr B.out hlt
          go_wp2_with (go_at_call 79; ((with_reducible refine (l15Days_q B.out (H.out.ext (by repeat (first | with_reducible exact Ext.refl _ | with_reducible assumption | with_reducible refine Ext.alloc ?_ _ | with_reducible refine Ext.drew ?_ | (with_reducible refine Ext.setAt ?_ _ _ _ ?_; rotate_left; omega) | with_reducible refine Ext.trans ?_ (by assumption) | with_reducible exact Past.bel _ | with_reducible refine Ext.trans ?_ (Past.bel _)))) (by omega) (by omega) him).mono ?_); rintro e w' ⟨rfl, hx⟩; (first | (obtain ⟨wx, rfl⟩ := Past.again hx) | (obtain ⟨wx, rfl⟩ := Past.ofd hx) | (obtain ⟨wx, rfl⟩ := Past.of hx))))
          exact ⟨⟨i + 1, by omega, by simp only [sm]; go_num, (by repeat (first | with_reducible exact Ext.refl _ | with_reducible assumption | with_reducible refine Ext.alloc ?_ _ | with_reducible refine Ext.drew ?_ | (with_reducible refine Ext.setAt ?_ _ _ _ ?_; rotate_left; omega) | with_reducible refine Ext.trans ?_ (by assumption) | with_reducible exact Past.bel _ | with_reducible refine Ext.trans ?_ (Past.bel _))), by have hz := (HK.out.ext (Past.bel wx)).set 1 (.int .i64 ((i : Int) + 1 + 1)); simpa using hz⟩, by simp [intOf]; omega⟩
        · have him2 : i = M := by omega
          subst him2
          have z4 := LO.out.mr'
          obtain ⟨⟨r0, r1, r2⟩, s0, s1, s2⟩ := RRO.out wr hbl
          have ne1 : ¬ w.heap.size = wx0.out.heap.size := by omega
          have ne2 : ¬ wx0.out.heap.size = w.heap.size := by omega
          have gk2 : w.heap.size < wr.heap.size := by have := hbl.size; omega
          go_wp2_with (go_at_call 79; ((with_reducible refine (l15Days_q B.out (H.out.ext (by repeat (first | with_reducible exact Ext.refl _ | with_reducible assumption | with_reducible refine Ext.alloc ?_ _ | with_reducible refine Ext.drew ?_ | (with_reducible refine Ext.setAt ?_ _ _ _ ?_; rotate_left; omega) | with_reducible refine Ext.trans ?_ (by assumption) | with_reducible exact Past.bel _ | with_reducible refine Ext.trans ?_ (Past.bel _)))) (by omega) (by omega) him).mono ?_); rintro e w' ⟨rfl, hx⟩; (first | (obtain ⟨wx, rfl⟩ := Past.again hx) | (obtain ⟨wx, rfl⟩ := Past.ofd hx) | (obtain ⟨wx, rfl⟩ := Past.of hx))))
          refine bodyPost_ret (v := .tuple #[.agg #[.int .i64 (j : Nat), .int .i64 ((i : Int) + 1), .int .i64 (x - c.bef j - sm (c.mo (j : Int)) i + 1)], .bool true]) (by simp [results, Try.results56, go_sem, r0, r1, r2, gk2, ne1, ne2]) rfl ⟨by rw [DY.out], ?_⟩
          have hb3 : Ext w wx.out := Ext.trans hb0 (Past.bel wx)
          exact (((hb3.setAt _ _ _ (by omega)).setAt _ _ _ (by omega)).setAt _ _ _ (by omega)).setAt _ _ _ (by omega)
end
end Go.Proofs.Ytggkemiklknmkaa

namespace Go.Proofs.Ytggkemiklknmkaa
open Go.RowKit
set_option linter.unusedVariables false
set_option linter.unusedSimpArgs false

section
variable {s : ByteArray} {ma ra : Option Addr} {mc rc : Nat} {wk : Int} {nm : Nat → ByteArray} {c : CalN} {w : World}
set_option maxHeartbeats 4000000 in
theorem dateOf_v (b : CalB c) (h : CalV w s ma ra mc rc nm c) {x : Int} {Y M : Nat} {d : Int} (l : Loc c x Y M d) (hY : Y ≤ 9999) :
    Calls Try.prog 57 #[.agg #[.string s, .slice ma c.n mc, .slice ra c.nr rc, .int .i64 wk], .int .i64 x] w fun e w' => e = .returned (.agg #[.int .i64 (Y : Nat), .int .i64 ((M : Int) + 1), .int .i64 d]) ∧ Ext w w' := by
  have n20 := b.n20
  have hM := l.mn
  have hx0 := (l.nn b).1
  have hx1 : x ≤ 12000000 := by have := (l.nn b).2; have := b.befC (Y + 1) (by omega); omega
  have H := Lib.hid h
  have B := Lib.hid b
  have LO := Lib.hid l
  have DY := Lib.hid l.dd
  have HP := Lib.hid ((h.p 32 wk).ext ((Ext.refl _).alloc (.cells #[.int .i64 0, .int .i64 0, .int .i64 0] 41)))
  have m1 := sm_bd (f := c.dy) (A := 1) (B := 60) (k := c.n) b.dy
  have m2 := sm_bd (f := c.lp) (A := 1) (B := 60) (k := c.n) b.lp
  clear h b l
  go_enter Try.func57, Try.ntmps57
  go_wp2_with (go_at_call 73; ((with_reducible refine (yearLengths_v B.out (H.out.ext (by repeat (first | with_reducible exact Ext.refl _ | with_reducible assumption | with_reducible refine Ext.alloc ?_ _ | with_reducible refine Ext.drew ?_ | (with_reducible refine Ext.setAt ?_ _ _ _ ?_; rotate_left; omega) | with_reducible refine Ext.trans ?_ (by assumption) | with_reducible exact Past.bel _ | with_reducible refine Ext.trans ?_ (Past.bel _))))).mono ?_); rintro e w' ⟨rfl, hx⟩; (first | (obtain ⟨wx, rfl⟩ := Past.again hx) | (obtain ⟨wx, rfl⟩ := Past.ofd hx) | (obtain ⟨wx, rfl⟩ := Past.of hx))))
  have hw0 : Ext w wx.out := (by repeat (first | with_reducible exact Ext.refl _ | with_reducible assumption | with_reducible refine Ext.alloc ?_ _ | with_reducible refine Ext.drew ?_ | (with_reducible refine Ext.setAt ?_ _ _ _ ?_; rotate_left; omega) | with_reducible refine Ext.trans ?_ (by assumption) | with_reducible exact Past.bel _ | with_reducible refine Ext.trans ?_ (Past.bel _)))
  have HW0 := Lib.hid hw0
  have hws := wx.bel.size
  simp only [World.size_alloc] at hws
  have RR : ∀ W, Ext wx.out W → (W.cell? ⟨w.heap.size, 0, none⟩ = some (.string s) ∧ W.cell? ⟨w.heap.size, 1, none⟩ = some (.slice ma c.n mc) ∧ W.cell? ⟨w.heap.size, 2, none⟩ = some (.slice ra c.nr rc) ∧ W.cell? ⟨w.heap.size, 3, none⟩ = some (.int .i64 wk)) ∧ (W.cell? ⟨w.heap.size + 1, 0, none⟩ = some (.int .i64 0) ∧ W.cell? ⟨w.heap.size + 1, 1, none⟩ = some (.int .i64 0) ∧ W.cell? ⟨w.heap.size + 1, 2, none⟩ = some (.int .i64 0)) ∧ (W.frozen? ⟨w.heap.size + 1, 0, none⟩ = false ∧ W.frozen? ⟨w.heap.size + 1, 1, none⟩ = false ∧ W.frozen? ⟨w.heap.size + 1, 2, none⟩ = false) := fun W hq => by
    have hp := (HP.out.ext wx.bel).ext hq
    refine ⟨⟨hp.c0, hp.c1, hp.c2, hp.c3⟩, ⟨?_, ?_, ?_⟩, ?_, ?_, ?_⟩
    · rw [hq.cell (by omega)]; simp [go_sem]
    · rw [hq.cell (by omega)]; simp [go_sem]
    · rw [hq.cell (by omega)]; simp [go_sem]
    · rw [Below.frozen (p := ⟨w.heap.size + 1, 0, none⟩) hq (show w.heap.size + 1 < wx.out.heap.size by omega)]; simp [go_sem]
    · rw [Below.frozen (p := ⟨w.heap.size + 1, 1, none⟩) hq (show w.heap.size + 1 < wx.out.heap.size by omega)]; simp [go_sem]
    · rw [Below.frozen (p := ⟨w.heap.size + 1, 2, none⟩) hq (show w.heap.size + 1 < wx.out.heap.size by omega)]; simp [go_sem]
  have RRO := Lib.hid RR
  clear RR hw0
  rename Past _ => wx0
  go_loopw [1] (fun v wr => ∃ j : Nat, j ≤ Y ∧ v = .int .i64 (x - c.bef j) ∧ Ext wx0.out wr ∧ Blk wr wx0.out.heap.size 41 #[.int .i64 (j : Nat), .int .i64 1, .int .i64 0]) (fun v _ => (intOf v).toNat)
  case atStart => exact ⟨0, by omega, by simp [CalN.bef, sm], (by repeat (first | with_reducible exact Ext.refl _ | with_reducible assumption | with_reducible refine Ext.alloc ?_ _ | with_reducible refine Ext.drew ?_ | (with_reducible refine Ext.setAt ?_ _ _ _ ?_; rotate_left; omega) | with_reducible refine Ext.trans ?_ (by assumption) | with_reducible exact Past.bel _ | with_reducible refine Ext.trans ?_ (Past.bel _))), Blk.new _ _ _⟩
  case round =>
    obtain ⟨j, hj, rfl, hbl, hblk⟩ := hrel
    have HK := Lib.hid hblk
    have k0 := hblk.cell 0
    have k1 := hblk.cell 1
    have k2 := hblk.cell 2
    have f0 := hblk.frozen 0
    have f1 := hblk.frozen 1
    have f2 := hblk.frozen 2
    have gk := hblk.lt
    simp only [List.getElem?_toArray, List.getElem?_cons_zero, List.getElem?_cons_succ] at k0 k1 k2
    have hb0 : Ext w wr := Ext.trans HW0.out hbl
    have z2 := B.out.yl (j : Int)
    have z3 := B.out.befC j (by omega)
    obtain ⟨⟨a0, a1, a2, a3⟩, -, -⟩ := RRO.out wr hbl
    have gk2 : w.heap.size < wr.heap.size := by have := hbl.size; omega
    clear hblk
    have HL := Lib.hid (fun W (hq : Ext w W) => isLeap_v (wk := wk) (y := (j : Int)) B.out (H.out.ext hq) (by omega) (by omega))
    by_cases hlt : j < Y
    · have z4 := LO.out.yr B.out hlt
      have Z5 := Lib.hid (bef_succ (c := c) j)
      cases hlp : c.leap (j : Int)
      · have YL := Lib.hid (yl_f hlp)
        have z6 : sm c.dy c.n ≤ x - c.bef j := by rw [← YL.out]; exact z4
        rw [hlp] at HL
        clear hlp
        go_wp2_with (go_at_call 74; ((with_reducible refine (HL.out _ (by repeat (first | with_reducible exact Ext.refl _ | with_reducible assumption | with_reducible refine Ext.alloc ?_ _ | with_reducible refine Ext.drew ?_ | (with_reducible refine Ext.setAt ?_ _ _ _ ?_; rotate_left; omega) | with_reducible refine Ext.trans ?_ (by assumption) | with_reducible exact Past.bel _ | with_reducible refine Ext.trans ?_ (Past.bel _)))).mono ?_); rintro e w' ⟨rfl, hx⟩; (first | (obtain ⟨wx, rfl⟩ := Past.again hx) | (obtain ⟨wx, rfl⟩ := Past.ofd hx) | (obtain ⟨wx, rfl⟩ := Past.of hx))))
        exact ⟨⟨j + 1, by omega, by rw [Z5.out, YL.out]; go_num, (by repeat (first | with_reducible exact Ext.refl _ | with_reducible assumption | with_reducible refine Ext.alloc ?_ _ | with_reducible refine Ext.drew ?_ | (with_reducible refine Ext.setAt ?_ _ _ _ ?_; rotate_left; omega) | with_reducible refine Ext.trans ?_ (by assumption) | with_reducible exact Past.bel _ | with_reducible refine Ext.trans ?_ (Past.bel _))), by have hz := (HK.out.ext (Past.bel wx)).set 0 (.int .i64 ((j : Int) + 1)); simpa using hz⟩, by simp [intOf]; have := YL.out; omega⟩
      · have YL := Lib.hid (yl_t hlp)
        have z6 : sm c.lp c.n ≤ x - c.bef j := by rw [← YL.out]; exact z4
        rw [hlp] at HL
        clear hlp
        go_wp2_with (go_at_call 74; ((with_reducible refine (HL.out _ (by repeat (first | with_reducible exact Ext.refl _ | with_reducible assumption | with_reducible refine Ext.alloc ?_ _ | with_reducible refine Ext.drew ?_ | (with_reducible refine Ext.setAt ?_ _ _ _ ?_; rotate_left; omega) | with_reducible refine Ext.trans ?_ (by assumption) | with_reducible exact Past.bel _ | with_reducible refine Ext.trans ?_ (Past.bel _)))).mono ?_); rintro e w' ⟨rfl, hx⟩; (first | (obtain ⟨wx, rfl⟩ := Past.again hx) | (obtain ⟨wx, rfl⟩ := Past.ofd hx) | (obtain ⟨wx, rfl⟩ := Past.of hx))))
        exact ⟨⟨j + 1, by omega, by rw [Z5.out, YL.out]; go_num, (by repeat (first | with_reducible exact Ext.refl _ | with_reducible assumption | with_reducible refine Ext.alloc ?_ _ | with_reducible refine Ext.drew ?_ | (with_reducible refine Ext.setAt ?_ _ _ _ ?_; rotate_left; omega) | with_reducible refine Ext.trans ?_ (by assumption) | with_reducible exact Past.bel _ | with_reducible refine Ext.trans ?_ (Past.bel _))), by have hz := (HK.out.ext (Past.bel wx)).set 0 (.int .i64 ((j : Int) + 1)); simpa using hz⟩, by simp [intOf]; have := YL.out; omega⟩
    · have hjY : j = Y := by omega
      subst hjY
      have z4 := LO.out.yr'
      have HL2 := HL
      cases hlp : c.leap (j : Int)
      all_goals
        first
          | (have z6 : x - c.bef j < sm c.dy c.n := by rw [← yl_f hlp]; exact z4)
          | (have z6 : x - c.bef j < sm c.lp c.n := by rw [← yl_t hlp]; exact z4)
        rw [hlp] at HL
        have LP := Lib.hid hlp
        clear hlp
        go_wp2_with (go_at_call 74; ((with_reducible refine (HL.out _ (by repeat (first | with_reducible exact Ext.refl _ | with_reducible assumption | with_reducible refine Ext.alloc ?_ _ | with_reducible refine Ext.drew ?_ | (with_reducible refine Ext.setAt ?_ _ _ _ ?_; rotate_left; omega) | with_reducible refine Ext.trans ?_ (by assumption) | with_reducible exact Past.bel _ | with_reducible refine Ext.trans ?_ (Past.bel _)))).mono ?_); rintro e w' ⟨rfl, hx⟩; (first | (obtain ⟨wx, rfl⟩ := Past.again hx) | (obtain ⟨wx, rfl⟩ := Past.ofd hx) | (obtain ⟨wx, rfl⟩ := Past.of hx))))
        have HK2 := Lib.hid (HK.out.ext (Past.bel wx))
        have HB2 := Lib.hid (show Ext wx0.out wx.out from Ext.trans hbl (Past.bel wx))
        clear hb0 k0 k1 k2 f0 f1 f2 gk hbl z2 z3 z4 HK a0 a1 a2 a3 gk2
        go_loopw [1] (fun v wr => ∃ i : Nat, i ≤ M ∧ v = .int .i64 (x - c.bef j - sm (c.mo (j : Int)) i) ∧ Ext wx0.out wr ∧ Blk wr wx0.out.heap.size 41 #[.int .i64 (j : Nat), .int .i64 ((i : Int) + 1), .int .i64 0]) (fun v _ => (intOf v).toNat)
        case atStart => exact ⟨0, by omega, by simp [sm], HB2.out, HK2.out⟩
        case round =>
          obtain ⟨i, hi, rfl, hbl, hblk⟩ := hrel
          have HK := Lib.hid hblk
          have k0 := hblk.cell 0
          have k1 := hblk.cell 1
          have k2 := hblk.cell 2
          have f0 := hblk.frozen 0
          have f1 := hblk.frozen 1
          have f2 := hblk.frozen 2
          have gk := hblk.lt
          simp only [List.getElem?_toArray, List.getElem?_cons_zero, List.getElem?_cons_succ] at k0 k1 k2
          have hb0 : Ext w wr := Ext.trans HW0.out hbl
          have him : i < c.n := by omega
          have z2 := B.out.mo (j : Int) him
          have z3 := B.out.befC j (by omega)
          have z6 := sm_bd (f := c.mo (j : Int)) (A := 1) (B := 60) (k := i) fun i' hi' => B.out.mo _ (by omega)
          obtain ⟨⟨a0, a1, a2, a3⟩, ⟨r0, r1, r2⟩, s0, s1, s2⟩ := RRO.out wr hbl
          have gk2 : w.heap.size < wr.heap.size := by have := hbl.size; omega
          have gk3 : w.heap.size + 1 < wr.heap.size := by have := hbl.size; omega
          have HD := Lib.hid (fun W (hq : Ext w W) => (LP.out ▸ daysOfMonth_v (wk := wk) (H.out.ext hq) (j : Int) him : Calls Try.prog 82 _ W _))
          clear hblk
          by_cases hlt : i < M
          · have z4 := LO.out.mr B.out hlt
            go_wp2_with (go_at_call 82; ((with_reducible refine (HD.out _ (by repeat (first | with_reducible exact Ext.refl _ | with_reducible assumption | with_reducible refine Ext.alloc ?_ _ | with_reducible refine Ext.drew ?_ | (with_reducible refine Ext.setAt ?_ _ _ _ ?_; rotate_left; omega) | with_reducible refine Ext.trans ?_ (by assumption) | with_reducible exact Past.bel _ | with_reducible refine Ext.trans ?_ (Past.bel _)))).mono ?_); rintro e w' ⟨rfl, hx⟩; (first | (obtain ⟨wx, rfl⟩ := Past.again hx) | (obtain ⟨wx, rfl⟩ := Past.ofd hx) | (obtain ⟨wx, rfl⟩ := Past.of hx))))
            exact ⟨⟨i + 1, by omega, by simp only [sm]; go_num, (by repeat (first | with_reducible exact Ext.refl _ | with_reducible assumption | with_reducible refine Ext.alloc ?_ _ | with_reducible refine Ext.drew ?_ | (with_reducible refine Ext.setAt ?_ _ _ _ ?_; rotate_left; omega) | with_reducible refine Ext.trans ?_ (by assumption) | with_reducible exact Past.bel _ | with_reducible refine Ext.trans ?_ (Past.bel _))), by have hz := (HK.out.ext (Past.bel wx)).set 1 (.int .i64 ((i : Int) + 1 + 1)); simpa using hz⟩, by simp [intOf]; omega⟩
          · have him2 : i = M := by omega
            subst him2
            have z4 := LO.out.mr'
            have ne1 : ¬ w.heap.size + 1 = wx0.out.heap.size := by omega
            have ne2 : ¬ wx0.out.heap.size = w.heap.size + 1 := by omega
            go_wp2_with (go_at_call 82; ((with_reducible refine (HD.out _ (by repeat (first | with_reducible exact Ext.refl _ | with_reducible assumption | with_reducible refine Ext.alloc ?_ _ | with_reducible refine Ext.drew ?_ | (with_reducible refine Ext.setAt ?_ _ _ _ ?_; rotate_left; omega) | with_reducible refine Ext.trans ?_ (by assumption) | with_reducible exact Past.bel _ | with_reducible refine Ext.trans ?_ (Past.bel _)))).mono ?_); rintro e w' ⟨rfl, hx⟩; (first | (obtain ⟨wx, rfl⟩ := Past.again hx) | (obtain ⟨wx, rfl⟩ := Past.ofd hx) | (obtain ⟨wx, rfl⟩ := Past.of hx))))
            refine bodyPost_ret (v := .agg #[.int .i64 (j : Nat), .int .i64 ((i : Int) + 1), .int .i64 (x - c.bef j - sm (c.mo (j : Int)) i + 1)]) (by simp [results, Try.results57, go_sem, r0, r1, r2, gk2, gk3, ne1, ne2]) rfl ⟨by rw [DY.out], ?_⟩
            have hb3 : Ext w wx.out := Ext.trans hb0 (Past.bel wx)
            exact (((hb3.setAt _ _ _ (by omega)).setAt _ _ _ (by omega)).setAt _ _ _ (by omega)).setAt _ _ _ (by omega)
end
end Go.Proofs.Ytggkemiklknmkaa

namespace Go.Proofs.Ytggkemiklknmkaa
set_option linter.unusedVariables false
section
variable (s : ByteArray) (nm : Nat → ByteArray) (c : CalN) (wk : Int)
def caC : Int := if calB s nm c wk then 0 else 1
def cyV : Int := if calB s nm c wk then c.cyc else 0
def cyD : Int := if calB s nm c wk then c.bef c.cyc.toNat else 0
def laV : Int := if calB s nm c wk then c.bef 10000 - 1 else 0
/-- a date's number -/
def dnum (y m d : Int) : Int := c.num y.toNat (m - 1).toNat d
def dyC (y m d : Int) : Int := if calB s nm c wk then (if dtB c y m d then 0 else 2) else 1
def dyV (y m d : Int) : Int := if dyC s nm c wk y m d = 0 then dnum c y m d else 0
def btC (y m d y' m' d' : Int) : Int := if calB s nm c wk then (if dtB c y m d && dtB c y' m' d' then 0 else 2) else 1
def btV (y m d y' m' d' : Int) : Int := if btC s nm c wk y m d y' m' d' = 0 then dnum c y' m' d' - dnum c y m d else 0
def wdC (y m d f : Int) : Int := if calB s nm c wk then (if dtB c y m d && inB f 1 wk then 0 else 2) else 1
def wdV (y m d f : Int) : Int := if wdC s nm c wk y m d f = 0 then (dnum c y m d + f - 1) % wk + 1 else 0
end
theorem calB_w {s : ByteArray} {nm : Nat → ByteArray} {c : CalN} {wk : Int} (h : calB s nm c wk = true) : 1 ≤ wk ∧ wk ≤ 12 := by
  simp only [calB, Bool.and_eq_true, inB_t] at h; exact h.2.2.2
theorem dnum_nat (c : CalN) (Y M : Nat) (d : Int) : dnum c (Y : Int) ((M : Int) + 1) d = c.num Y M d := by
  unfold dnum; rw [succ_pred]; simp
theorem dnum_bd {c : CalN} (b : CalB c) {y m d : Int} (h : dtB c y m d = true) : 0 ≤ dnum c y m d ∧ dnum c y m d < c.bef 10000 := by
  obtain ⟨Y, M, rfl, rfl, h1, h2, h3, h4⟩ := dtB_nat h
  rw [dnum_nat]; exact num_bd b h1 h2 h3 h4
end Go.Proofs.Ytggkemiklknmkaa

namespace Go.Proofs.Ytggkemiklknmkaa
open Go.RowKit
set_option linter.unusedVariables false
set_option linter.unusedSimpArgs false

section
variable {g : Nat} {s : ByteArray} {ma ra : Option Addr} {mc rc : Nat} {wk : Int} {nm : Nat → ByteArray} {c : CalN} {w : World}
theorem l15Cycle_i (b : CalB c) (h : CalQ w g s ma ra mc rc wk nm c) :
    Calls Try.prog 39 #[.pointer (some ⟨g, 0, none⟩)] w fun e w' => e = .returned (.tuple #[.int .i64 c.cyc, .int .i64 (c.bef c.cyc.toNat)]) ∧ Ext w w' := by
  obtain ⟨C, hC, h1, h2⟩ := b.cycN
  have := l15Cycle_q b h hC h2
  rw [hC]; simpa using this
theorem l16Day_i (b : CalB c) (h : CalQ w g s ma ra mc rc wk nm c) {y m d : Int} (hd : dtB c y m d = true) :
    Calls Try.prog 50 #[.pointer (some ⟨g, 0, none⟩), .agg #[.int .i64 y, .int .i64 m, .int .i64 d]] w fun e w' => e = .returned (.int .i64 (dnum c y m d)) ∧ Ext w w' := by
  obtain ⟨Y, M, rfl, rfl, h1, h2, h3, h4⟩ := dtB_nat hd
  rw [dnum_nat]
  exact l16Day_q b h h1 h2 h3 (by have := b.mo (Y : Int) h2; omega)
theorem dayOf_i (b : CalB c) (h : CalV w s ma ra mc rc nm c) {y m d : Int} (hd : dtB c y m d = true) :
    Calls Try.prog 52 #[.agg #[.string s, .slice ma c.n mc, .slice ra c.nr rc, .int .i64 wk], .agg #[.int .i64 y, .int .i64 m, .int .i64 d]] w fun e w' => e = .returned (.int .i64 (dnum c y m d)) ∧ Ext w w' := by
  obtain ⟨Y, M, rfl, rfl, h1, h2, h3, h4⟩ := dtB_nat hd
  rw [dnum_nat]
  exact dayOf_v b h h1 h2 h3 (by have := b.mo (Y : Int) h2; omega)
theorem cycleYears_v (b : CalB c) (h : CalV w s ma ra mc rc nm c) : Calls Try.prog 43 #[.slice ra c.nr rc] w fun e w' => e = .returned (.int .i64 c.cyc) ∧ Ext w w' :=
  cycleYears_c _ _ _ c.ev c.rs c.lf _ h.rb h.mem.ru b.ev
theorem daysBefore_i (b : CalB c) (h : CalV w s ma ra mc rc nm c) :
    Calls Try.prog 44 #[.agg #[.string s, .slice ma c.n mc, .slice ra c.nr rc, .int .i64 wk], .int .i64 c.cyc] w fun e w' => e = .returned (.int .i64 (c.bef c.cyc.toNat)) ∧ Ext w w' := by
  have := b.cyc1
  exact daysBefore_v b h (by omega) (by omega)
set_option maxHeartbeats 1000000 in
theorem implCycleOf_c (wk : Int) (h : CalV w s ma ra mc rc nm c) :
    Calls Try.prog 15 #[.agg #[.string s, .slice ma c.n mc, .slice ra c.nr rc, .int .i64 wk]] w fun e w' => e = .returned (.tuple #[.int .i64 (cyV s nm c wk), .int .i64 (cyD s nm c wk), .int .i64 (caC s nm c wk)]) ∧ Ext w w' := by
  have H := Lib.hid h
  clear h
  cases h1 : calB s nm c wk
  · go_enter Try.func15, Try.ntmps15
    go_wp2_with (go_at_call 42; ((with_reducible refine (validCalendar_v wk (H.out.ext (by repeat (first | with_reducible exact Ext.refl _ | with_reducible assumption | with_reducible refine Ext.alloc ?_ _ | with_reducible refine Ext.drew ?_ | (with_reducible refine Ext.setAt ?_ _ _ _ ?_; rotate_left; omega) | with_reducible refine Ext.trans ?_ (by assumption) | with_reducible exact Past.bel _ | with_reducible refine Ext.trans ?_ (Past.bel _))))).mono ?_); rintro e w' ⟨rfl, hx⟩; (first | (obtain ⟨wx, rfl⟩ := Past.again hx) | (obtain ⟨wx, rfl⟩ := Past.ofd hx) | (obtain ⟨wx, rfl⟩ := Past.of hx))))
    exact bodyPost_ret (v := .tuple #[.int .i64 0, .int .i64 0, .int .i64 1]) (by simp [results, Try.results15, go_sem]) rfl ⟨by simp [cyV, cyD, caC, h1], (by repeat (first | with_reducible exact Ext.refl _ | with_reducible assumption | with_reducible refine Ext.alloc ?_ _ | with_reducible refine Ext.drew ?_ | (with_reducible refine Ext.setAt ?_ _ _ _ ?_; rotate_left; omega) | with_reducible refine Ext.trans ?_ (by assumption) | with_reducible exact Past.bel _ | with_reducible refine Ext.trans ?_ (Past.bel _)))⟩
  · have B := Lib.hid (calB_b h1)
    go_enter Try.func15, Try.ntmps15
    go_wp2_with (first | (go_at_call 42; ((with_reducible refine (validCalendar_v wk (H.out.ext (by repeat (first | with_reducible exact Ext.refl _ | with_reducible assumption | with_reducible refine Ext.alloc ?_ _ | with_reducible refine Ext.drew ?_ | (with_reducible refine Ext.setAt ?_ _ _ _ ?_; rotate_left; omega) | with_reducible refine Ext.trans ?_ (by assumption) | with_reducible exact Past.bel _ | with_reducible refine Ext.trans ?_ (Past.bel _))))).mono ?_); rintro e w' ⟨rfl, hx⟩; (first | (obtain ⟨wx, rfl⟩ := Past.again hx) | (obtain ⟨wx, rfl⟩ := Past.ofd hx) | (obtain ⟨wx, rfl⟩ := Past.of hx)))) | (go_at_call 43; ((with_reducible refine (cycleYears_v B.out (H.out.ext (by repeat (first | with_reducible exact Ext.refl _ | with_reducible assumption | with_reducible refine Ext.alloc ?_ _ | with_reducible refine Ext.drew ?_ | (with_reducible refine Ext.setAt ?_ _ _ _ ?_; rotate_left; omega) | with_reducible refine Ext.trans ?_ (by assumption) | with_reducible exact Past.bel _ | with_reducible refine Ext.trans ?_ (Past.bel _))))).mono ?_); rintro e w' ⟨rfl, hx⟩; (first | (obtain ⟨wx, rfl⟩ := Past.again hx) | (obtain ⟨wx, rfl⟩ := Past.ofd hx) | (obtain ⟨wx, rfl⟩ := Past.of hx)))) | (go_at_call 44; ((with_reducible refine (daysBefore_i B.out (H.out.ext (by repeat (first | with_reducible exact Ext.refl _ | with_reducible assumption | with_reducible refine Ext.alloc ?_ _ | with_reducible refine Ext.drew ?_ | (with_reducible refine Ext.setAt ?_ _ _ _ ?_; rotate_left; omega) | with_reducible refine Ext.trans ?_ (by assumption) | with_reducible exact Past.bel _ | with_reducible refine Ext.trans ?_ (Past.bel _))))).mono ?_); rintro e w' ⟨rfl, hx⟩; (first | (obtain ⟨wx, rfl⟩ := Past.again hx) | (obtain ⟨wx, rfl⟩ := Past.ofd hx) | (obtain ⟨wx, rfl⟩ := Past.of hx)))))
    exact bodyPost_ret (v := .tuple #[.int .i64 c.cyc, .int .i64 (c.bef c.cyc.toNat), .int .i64 0]) (by simp [results, Try.results15, go_sem]) rfl ⟨by simp [cyV, cyD, caC, h1], (by repeat (first | with_reducible exact Ext.refl _ | with_reducible assumption | with_reducible refine Ext.alloc ?_ _ | with_reducible refine Ext.drew ?_ | (with_reducible refine Ext.setAt ?_ _ _ _ ?_; rotate_left; omega) | with_reducible refine Ext.trans ?_ (by assumption) | with_reducible exact Past.bel _ | with_reducible refine Ext.trans ?_ (Past.bel _)))⟩
set_option maxHeartbeats 1000000 in
theorem specCycleOf_c (wk : Int) (h : CalV w s ma ra mc rc nm c) :
    Calls Try.prog 13 #[.agg #[.string s, .slice ma c.n mc, .slice ra c.nr rc, .int .i64 wk]] w fun e w' => e = .returned (.tuple #[.int .i64 (cyV s nm c wk), .int .i64 (cyD s nm c wk), .int .i64 (caC s nm c wk)]) ∧ Ext w w' := by
  have H := Lib.hid (CalQ.new 32 wk h)
  clear h
  cases h1 : calB s nm c wk
  · go_enter Try.func13, Try.ntmps13
    go_wp2_with (go_at_call 38; ((with_reducible refine (l15Ok_q (H.out.ext (by repeat (first | with_reducible exact Ext.refl _ | with_reducible assumption | with_reducible refine Ext.alloc ?_ _ | with_reducible refine Ext.drew ?_ | (with_reducible refine Ext.setAt ?_ _ _ _ ?_; rotate_left; omega) | with_reducible refine Ext.trans ?_ (by assumption) | with_reducible exact Past.bel _ | with_reducible refine Ext.trans ?_ (Past.bel _))))).mono ?_); rintro e w' ⟨rfl, hx⟩; (first | (obtain ⟨wx, rfl⟩ := Past.again hx) | (obtain ⟨wx, rfl⟩ := Past.ofd hx) | (obtain ⟨wx, rfl⟩ := Past.of hx))))
    exact bodyPost_ret (v := .tuple #[.int .i64 0, .int .i64 0, .int .i64 1]) (by simp [results, Try.results13, go_sem]) rfl ⟨by simp [cyV, cyD, caC, h1], (by repeat (first | with_reducible exact Ext.refl _ | with_reducible assumption | with_reducible refine Ext.alloc ?_ _ | with_reducible refine Ext.drew ?_ | (with_reducible refine Ext.setAt ?_ _ _ _ ?_; rotate_left; omega) | with_reducible refine Ext.trans ?_ (by assumption) | with_reducible exact Past.bel _ | with_reducible refine Ext.trans ?_ (Past.bel _)))⟩
  · have B := Lib.hid (calB_b h1)
    go_enter Try.func13, Try.ntmps13
    go_wp2_with (first | (go_at_call 38; ((with_reducible refine (l15Ok_q (H.out.ext (by repeat (first | with_reducible exact Ext.refl _ | with_reducible assumption | with_reducible refine Ext.alloc ?_ _ | with_reducible refine Ext.drew ?_ | (with_reducible refine Ext.setAt ?_ _ _ _ ?_; rotate_left; omega) | with_reducible refine Ext.trans ?_ (by assumption) | with_reducible exact Past.bel _ | with_reducible refine Ext.trans ?_ (Past.bel _))))).mono ?_); rintro e w' ⟨rfl, hx⟩; (first | (obtain ⟨wx, rfl⟩ := Past.again hx) | (obtain ⟨wx, rfl⟩ := Past.ofd hx) | (obtain ⟨wx, rfl⟩ := Past.of hx)))) | (go_at_call 39; ((with_reducible refine (l15Cycle_i B.out (H.out.ext (by repeat (first | with_reducible exact Ext.refl _ | with_reducible assumption | with_reducible refine Ext.alloc ?_ _ | with_reducible refine Ext.drew ?_ | (with_reducible refine Ext.setAt ?_ _ _ _ ?_; rotate_left; omega) | with_reducible refine Ext.trans ?_ (by assumption) | with_reducible exact Past.bel _ | with_reducible refine Ext.trans ?_ (Past.bel _))))).mono ?_); rintro e w' ⟨rfl, hx⟩; (first | (obtain ⟨wx, rfl⟩ := Past.again hx) | (obtain ⟨wx, rfl⟩ := Past.ofd hx) | (obtain ⟨wx, rfl⟩ := Past.of hx)))))
    exact bodyPost_ret (v := .tuple #[.int .i64 c.cyc, .int .i64 (c.bef c.cyc.toNat), .int .i64 0]) (by simp [results, Try.results13, go_sem]) rfl ⟨by simp [cyV, cyD, caC, h1], (by repeat (first | with_reducible exact Ext.refl _ | with_reducible assumption | with_reducible refine Ext.alloc ?_ _ | with_reducible refine Ext.drew ?_ | (with_reducible refine Ext.setAt ?_ _ _ _ ?_; rotate_left; omega) | with_reducible refine Ext.trans ?_ (by assumption) | with_reducible exact Past.bel _ | with_reducible refine Ext.trans ?_ (Past.bel _)))⟩
theorem implLastDay_c (wk : Int) (h : CalV w s ma ra mc rc nm c) :
    Calls Try.prog 18 #[.agg #[.string s, .slice ma c.n mc, .slice ra c.nr rc, .int .i64 wk]] w fun e w' => e = .returned (.tuple #[.int .i64 (laV s nm c wk), .int .i64 (caC s nm c wk)]) ∧ Ext w w' := by
  have H := Lib.hid h
  clear h
  cases h1 : calB s nm c wk
  · go_enter Try.func18, Try.ntmps18
    go_wp2_with (go_at_call 42; ((with_reducible refine (validCalendar_v wk (H.out.ext (by repeat (first | with_reducible exact Ext.refl _ | with_reducible assumption | with_reducible refine Ext.alloc ?_ _ | with_reducible refine Ext.drew ?_ | (with_reducible refine Ext.setAt ?_ _ _ _ ?_; rotate_left; omega) | with_reducible refine Ext.trans ?_ (by assumption) | with_reducible exact Past.bel _ | with_reducible refine Ext.trans ?_ (Past.bel _))))).mono ?_); rintro e w' ⟨rfl, hx⟩; (first | (obtain ⟨wx, rfl⟩ := Past.again hx) | (obtain ⟨wx, rfl⟩ := Past.ofd hx) | (obtain ⟨wx, rfl⟩ := Past.of hx))))
    go_ret2
    exact ⟨by simp [laV, caC, h1], (by repeat (first | with_reducible exact Ext.refl _ | with_reducible assumption | with_reducible refine Ext.alloc ?_ _ | with_reducible refine Ext.drew ?_ | (with_reducible refine Ext.setAt ?_ _ _ _ ?_; rotate_left; omega) | with_reducible refine Ext.trans ?_ (by assumption) | with_reducible exact Past.bel _ | with_reducible refine Ext.trans ?_ (Past.bel _)))⟩
  · have B := Lib.hid (calB_b h1)
    go_enter Try.func18, Try.ntmps18
    go_wp2_with (first | (go_at_call 42; ((with_reducible refine (validCalendar_v wk (H.out.ext (by repeat (first | with_reducible exact Ext.refl _ | with_reducible assumption | with_reducible refine Ext.alloc ?_ _ | with_reducible refine Ext.drew ?_ | (with_reducible refine Ext.setAt ?_ _ _ _ ?_; rotate_left; omega) | with_reducible refine Ext.trans ?_ (by assumption) | with_reducible exact Past.bel _ | with_reducible refine Ext.trans ?_ (Past.bel _))))).mono ?_); rintro e w' ⟨rfl, hx⟩; (first | (obtain ⟨wx, rfl⟩ := Past.again hx) | (obtain ⟨wx, rfl⟩ := Past.ofd hx) | (obtain ⟨wx, rfl⟩ := Past.of hx)))) | (go_at_call 48; ((with_reducible refine (lastDay_v B.out (H.out.ext (by repeat (first | with_reducible exact Ext.refl _ | with_reducible assumption | with_reducible refine Ext.alloc ?_ _ | with_reducible refine Ext.drew ?_ | (with_reducible refine Ext.setAt ?_ _ _ _ ?_; rotate_left; omega) | with_reducible refine Ext.trans ?_ (by assumption) | with_reducible exact Past.bel _ | with_reducible refine Ext.trans ?_ (Past.bel _))))).mono ?_); rintro e w' ⟨rfl, hx⟩; (first | (obtain ⟨wx, rfl⟩ := Past.again hx) | (obtain ⟨wx, rfl⟩ := Past.ofd hx) | (obtain ⟨wx, rfl⟩ := Past.of hx)))))
    go_ret2
    exact ⟨by simp [laV, caC, h1], (by repeat (first | with_reducible exact Ext.refl _ | with_reducible assumption | with_reducible refine Ext.alloc ?_ _ | with_reducible refine Ext.drew ?_ | (with_reducible refine Ext.setAt ?_ _ _ _ ?_; rotate_left; omega) | with_reducible refine Ext.trans ?_ (by assumption) | with_reducible exact Past.bel _ | with_reducible refine Ext.trans ?_ (Past.bel _)))⟩
theorem specLastDay_c (wk : Int) (h : CalV w s ma ra mc rc nm c) :
    Calls Try.prog 17 #[.agg #[.string s, .slice ma c.n mc, .slice ra c.nr rc, .int .i64 wk]] w fun e w' => e = .returned (.tuple #[.int .i64 (laV s nm c wk), .int .i64 (caC s nm c wk)]) ∧ Ext w w' := by
  have H := Lib.hid (CalQ.new 32 wk h)
  clear h
  cases h1 : calB s nm c wk
  · go_enter Try.func17, Try.ntmps17
    go_wp2_with (go_at_call 38; ((with_reducible refine (l15Ok_q (H.out.ext (by repeat (first | with_reducible exact Ext.refl _ | with_reducible assumption | with_reducible refine Ext.alloc ?_ _ | with_reducible refine Ext.drew ?_ | (with_reducible refine Ext.setAt ?_ _ _ _ ?_; rotate_left; omega) | with_reducible refine Ext.trans ?_ (by assumption) | with_reducible exact Past.bel _ | with_reducible refine Ext.trans ?_ (Past.bel _))))).mono ?_); rintro e w' ⟨rfl, hx⟩; (first | (obtain ⟨wx, rfl⟩ := Past.again hx) | (obtain ⟨wx, rfl⟩ := Past.ofd hx) | (obtain ⟨wx, rfl⟩ := Past.of hx))))
    go_ret2
    exact ⟨by simp [laV, caC, h1], (by repeat (first | with_reducible exact Ext.refl _ | with_reducible assumption | with_reducible refine Ext.alloc ?_ _ | with_reducible refine Ext.drew ?_ | (with_reducible refine Ext.setAt ?_ _ _ _ ?_; rotate_left; omega) | with_reducible refine Ext.trans ?_ (by assumption) | with_reducible exact Past.bel _ | with_reducible refine Ext.trans ?_ (Past.bel _)))⟩
  · have B := Lib.hid (calB_b h1)
    go_enter Try.func17, Try.ntmps17
    go_wp2_with (first | (go_at_call 38; ((with_reducible refine (l15Ok_q (H.out.ext (by repeat (first | with_reducible exact Ext.refl _ | with_reducible assumption | with_reducible refine Ext.alloc ?_ _ | with_reducible refine Ext.drew ?_ | (with_reducible refine Ext.setAt ?_ _ _ _ ?_; rotate_left; omega) | with_reducible refine Ext.trans ?_ (by assumption) | with_reducible exact Past.bel _ | with_reducible refine Ext.trans ?_ (Past.bel _))))).mono ?_); rintro e w' ⟨rfl, hx⟩; (first | (obtain ⟨wx, rfl⟩ := Past.again hx) | (obtain ⟨wx, rfl⟩ := Past.ofd hx) | (obtain ⟨wx, rfl⟩ := Past.of hx)))) | (go_at_call 47; ((with_reducible refine (l16Last_q B.out (H.out.ext (by repeat (first | with_reducible exact Ext.refl _ | with_reducible assumption | with_reducible refine Ext.alloc ?_ _ | with_reducible refine Ext.drew ?_ | (with_reducible refine Ext.setAt ?_ _ _ _ ?_; rotate_left; omega) | with_reducible refine Ext.trans ?_ (by assumption) | with_reducible exact Past.bel _ | with_reducible refine Ext.trans ?_ (Past.bel _))))).mono ?_); rintro e w' ⟨rfl, hx⟩; (first | (obtain ⟨wx, rfl⟩ := Past.again hx) | (obtain ⟨wx, rfl⟩ := Past.ofd hx) | (obtain ⟨wx, rfl⟩ := Past.of hx)))))
    go_ret2
    exact ⟨by simp [laV, caC, h1], (by repeat (first | with_reducible exact Ext.refl _ | with_reducible assumption | with_reducible refine Ext.alloc ?_ _ | with_reducible refine Ext.drew ?_ | (with_reducible refine Ext.setAt ?_ _ _ _ ?_; rotate_left; omega) | with_reducible refine Ext.trans ?_ (by assumption) | with_reducible exact Past.bel _ | with_reducible refine Ext.trans ?_ (Past.bel _)))⟩
set_option maxHeartbeats 1000000 in
theorem implDayOf_c (wk y m d : Int) (h : CalV w s ma ra mc rc nm c) :
    Calls Try.prog 21 #[.agg #[.string s, .slice ma c.n mc, .slice ra c.nr rc, .int .i64 wk], .agg #[.int .i64 y, .int .i64 m, .int .i64 d]] w fun e w' => e = .returned (.tuple #[.int .i64 (dyV s nm c wk y m d), .int .i64 (dyC s nm c wk y m d)]) ∧ Ext w w' := by
  have H := Lib.hid h
  clear h
  cases h1 : calB s nm c wk
  · go_enter Try.func21, Try.ntmps21
    go_wp2_with (go_at_call 42; ((with_reducible refine (validCalendar_v wk (H.out.ext (by repeat (first | with_reducible exact Ext.refl _ | with_reducible assumption | with_reducible refine Ext.alloc ?_ _ | with_reducible refine Ext.drew ?_ | (with_reducible refine Ext.setAt ?_ _ _ _ ?_; rotate_left; omega) | with_reducible refine Ext.trans ?_ (by assumption) | with_reducible exact Past.bel _ | with_reducible refine Ext.trans ?_ (Past.bel _))))).mono ?_); rintro e w' ⟨rfl, hx⟩; (first | (obtain ⟨wx, rfl⟩ := Past.again hx) | (obtain ⟨wx, rfl⟩ := Past.ofd hx) | (obtain ⟨wx, rfl⟩ := Past.of hx))))
    go_ret2
    exact ⟨by simp [dyV, dyC, h1], (by repeat (first | with_reducible exact Ext.refl _ | with_reducible assumption | with_reducible refine Ext.alloc ?_ _ | with_reducible refine Ext.drew ?_ | (with_reducible refine Ext.setAt ?_ _ _ _ ?_; rotate_left; omega) | with_reducible refine Ext.trans ?_ (by assumption) | with_reducible exact Past.bel _ | with_reducible refine Ext.trans ?_ (Past.bel _)))⟩
  · have B := Lib.hid (calB_b h1)
    cases h2 : dtB c y m d
    · have h3 : vdR s nm c wk y m d = false := by simp [vdR, h2]
      go_enter Try.func21, Try.ntmps21
      go_wp2_with (first | (go_at_call 42; ((with_reducible refine (validCalendar_v wk (H.out.ext (by repeat (first | with_reducible exact Ext.refl _ | with_reducible assumption | with_reducible refine Ext.alloc ?_ _ | with_reducible refine Ext.drew ?_ | (with_reducible refine Ext.setAt ?_ _ _ _ ?_; rotate_left; omega) | with_reducible refine Ext.trans ?_ (by assumption) | with_reducible exact Past.bel _ | with_reducible refine Ext.trans ?_ (Past.bel _))))).mono ?_); rintro e w' ⟨rfl, hx⟩; (first | (obtain ⟨wx, rfl⟩ := Past.again hx) | (obtain ⟨wx, rfl⟩ := Past.ofd hx) | (obtain ⟨wx, rfl⟩ := Past.of hx)))) | (go_at_call 51; ((with_reducible refine (implValidDate_c wk y m d (H.out.ext (by repeat (first | with_reducible exact Ext.refl _ | with_reducible assumption | with_reducible refine Ext.alloc ?_ _ | with_reducible refine Ext.drew ?_ | (with_reducible refine Ext.setAt ?_ _ _ _ ?_; rotate_left; omega) | with_reducible refine Ext.trans ?_ (by assumption) | with_reducible exact Past.bel _ | with_reducible refine Ext.trans ?_ (Past.bel _))))).mono ?_); rintro e w' ⟨rfl, hx⟩; (first | (obtain ⟨wx, rfl⟩ := Past.again hx) | (obtain ⟨wx, rfl⟩ := Past.ofd hx) | (obtain ⟨wx, rfl⟩ := Past.of hx)))))
      go_ret2
      exact ⟨by simp [dyV, dyC, h1, h2], (by repeat (first | with_reducible exact Ext.refl _ | with_reducible assumption | with_reducible refine Ext.alloc ?_ _ | with_reducible refine Ext.drew ?_ | (with_reducible refine Ext.setAt ?_ _ _ _ ?_; rotate_left; omega) | with_reducible refine Ext.trans ?_ (by assumption) | with_reducible exact Past.bel _ | with_reducible refine Ext.trans ?_ (Past.bel _)))⟩
    · have h3 : vdR s nm c wk y m d = true := by simp [vdR, h1, h2]
      go_enter Try.func21, Try.ntmps21
      go_wp2_with (first | (go_at_call 42; ((with_reducible refine (validCalendar_v wk (H.out.ext (by repeat (first | with_reducible exact Ext.refl _ | with_reducible assumption | with_reducible refine Ext.alloc ?_ _ | with_reducible refine Ext.drew ?_ | (with_reducible refine Ext.setAt ?_ _ _ _ ?_; rotate_left; omega) | with_reducible refine Ext.trans ?_ (by assumption) | with_reducible exact Past.bel _ | with_reducible refine Ext.trans ?_ (Past.bel _))))).mono ?_); rintro e w' ⟨rfl, hx⟩; (first | (obtain ⟨wx, rfl⟩ := Past.again hx) | (obtain ⟨wx, rfl⟩ := Past.ofd hx) | (obtain ⟨wx, rfl⟩ := Past.of hx)))) | (go_at_call 51; ((with_reducible refine (implValidDate_c wk y m d (H.out.ext (by repeat (first | with_reducible exact Ext.refl _ | with_reducible assumption | with_reducible refine Ext.alloc ?_ _ | with_reducible refine Ext.drew ?_ | (with_reducible refine Ext.setAt ?_ _ _ _ ?_; rotate_left; omega) | with_reducible refine Ext.trans ?_ (by assumption) | with_reducible exact Past.bel _ | with_reducible refine Ext.trans ?_ (Past.bel _))))).mono ?_); rintro e w' ⟨rfl, hx⟩; (first | (obtain ⟨wx, rfl⟩ := Past.again hx) | (obtain ⟨wx, rfl⟩ := Past.ofd hx) | (obtain ⟨wx, rfl⟩ := Past.of hx)))) | (go_at_call 52; ((with_reducible refine (dayOf_i B.out (H.out.ext (by repeat (first | with_reducible exact Ext.refl _ | with_reducible assumption | with_reducible refine Ext.alloc ?_ _ | with_reducible refine Ext.drew ?_ | (with_reducible refine Ext.setAt ?_ _ _ _ ?_; rotate_left; omega) | with_reducible refine Ext.trans ?_ (by assumption) | with_reducible exact Past.bel _ | with_reducible refine Ext.trans ?_ (Past.bel _)))) h2).mono ?_); rintro e w' ⟨rfl, hx⟩; (first | (obtain ⟨wx, rfl⟩ := Past.again hx) | (obtain ⟨wx, rfl⟩ := Past.ofd hx) | (obtain ⟨wx, rfl⟩ := Past.of hx)))))
      go_ret2
      exact ⟨by simp [dyV, dyC, h1, h2], (by repeat (first | with_reducible exact Ext.refl _ | with_reducible assumption | with_reducible refine Ext.alloc ?_ _ | with_reducible refine Ext.drew ?_ | (with_reducible refine Ext.setAt ?_ _ _ _ ?_; rotate_left; omega) | with_reducible refine Ext.trans ?_ (by assumption) | with_reducible exact Past.bel _ | with_reducible refine Ext.trans ?_ (Past.bel _)))⟩
set_option maxHeartbeats 1000000 in
theorem specDayOf_c (wk y m d : Int) (h : CalV w s ma ra mc rc nm c) :
    Calls Try.prog 19 #[.agg #[.string s, .slice ma c.n mc, .slice ra c.nr rc, .int .i64 wk], .agg #[.int .i64 y, .int .i64 m, .int .i64 d]] w fun e w' => e = .returned (.tuple #[.int .i64 (dyV s nm c wk y m d), .int .i64 (dyC s nm c wk y m d)]) ∧ Ext w w' := by
  have H := Lib.hid (CalQ.new 32 wk h)
  clear h
  cases h1 : calB s nm c wk
  · go_enter Try.func19, Try.ntmps19
    go_wp2_with (go_at_call 38; ((with_reducible refine (l15Ok_q (H.out.ext (by repeat (first | with_reducible exact Ext.refl _ | with_reducible assumption | with_reducible refine Ext.alloc ?_ _ | with_reducible refine Ext.drew ?_ | (with_reducible refine Ext.setAt ?_ _ _ _ ?_; rotate_left; omega) | with_reducible refine Ext.trans ?_ (by assumption) | with_reducible exact Past.bel _ | with_reducible refine Ext.trans ?_ (Past.bel _))))).mono ?_); rintro e w' ⟨rfl, hx⟩; (first | (obtain ⟨wx, rfl⟩ := Past.again hx) | (obtain ⟨wx, rfl⟩ := Past.ofd hx) | (obtain ⟨wx, rfl⟩ := Past.of hx))))
    go_ret2
    exact ⟨by simp [dyV, dyC, h1], (by repeat (first | with_reducible exact Ext.refl _ | with_reducible assumption | with_reducible refine Ext.alloc ?_ _ | with_reducible refine Ext.drew ?_ | (with_reducible refine Ext.setAt ?_ _ _ _ ?_; rotate_left; omega) | with_reducible refine Ext.trans ?_ (by assumption) | with_reducible exact Past.bel _ | with_reducible refine Ext.trans ?_ (Past.bel _)))⟩
  · have B := Lib.hid (calB_b h1)
    cases h2 : dtB c y m d
    · go_enter Try.func19, Try.ntmps19
      go_wp2_with (first | (go_at_call 38; ((with_reducible refine (l15Ok_q (H.out.ext (by repeat (first | with_reducible exact Ext.refl _ | with_reducible assumption | with_reducible refine Ext.alloc ?_ _ | with_reducible refine Ext.drew ?_ | (with_reducible refine Ext.setAt ?_ _ _ _ ?_; rotate_left; omega) | with_reducible refine Ext.trans ?_ (by assumption) | with_reducible exact Past.bel _ | with_reducible refine Ext.trans ?_ (Past.bel _))))).mono ?_); rintro e w' ⟨rfl, hx⟩; (first | (obtain ⟨wx, rfl⟩ := Past.again hx) | (obtain ⟨wx, rfl⟩ := Past.ofd hx) | (obtain ⟨wx, rfl⟩ := Past.of hx)))) | (go_at_call 49; ((with_reducible refine (l16Ok_q B.out (H.out.ext (by repeat (first | with_reducible exact Ext.refl _ | with_reducible assumption | with_reducible refine Ext.alloc ?_ _ | with_reducible refine Ext.drew ?_ | (with_reducible refine Ext.setAt ?_ _ _ _ ?_; rotate_left; omega) | with_reducible refine Ext.trans ?_ (by assumption) | with_reducible exact Past.bel _ | with_reducible refine Ext.trans ?_ (Past.bel _)))) y m d).mono ?_); rintro e w' ⟨rfl, hx⟩; (first | (obtain ⟨wx, rfl⟩ := Past.again hx) | (obtain ⟨wx, rfl⟩ := Past.ofd hx) | (obtain ⟨wx, rfl⟩ := Past.of hx)))))
      go_ret2
      exact ⟨by simp [dyV, dyC, h1, h2], (by repeat (first | with_reducible exact Ext.refl _ | with_reducible assumption | with_reducible refine Ext.alloc ?_ _ | with_reducible refine Ext.drew ?_ | (with_reducible refine Ext.setAt ?_ _ _ _ ?_; rotate_left; omega) | with_reducible refine Ext.trans ?_ (by assumption) | with_reducible exact Past.bel _ | with_reducible refine Ext.trans ?_ (Past.bel _)))⟩
    · go_enter Try.func19, Try.ntmps19
      go_wp2_with (first | (go_at_call 38; ((with_reducible refine (l15Ok_q (H.out.ext (by repeat (first | with_reducible exact Ext.refl _ | with_reducible assumption | with_reducible refine Ext.alloc ?_ _ | with_reducible refine Ext.drew ?_ | (with_reducible refine Ext.setAt ?_ _ _ _ ?_; rotate_left; omega) | with_reducible refine Ext.trans ?_ (by assumption) | with_reducible exact Past.bel _ | with_reducible refine Ext.trans ?_ (Past.bel _))))).mono ?_); rintro e w' ⟨rfl, hx⟩; (first | (obtain ⟨wx, rfl⟩ := Past.again hx) | (obtain ⟨wx, rfl⟩ := Past.ofd hx) | (obtain ⟨wx, rfl⟩ := Past.of hx)))) | (go_at_call 49; ((with_reducible refine (l16Ok_q B.out (H.out.ext (by repeat (first | with_reducible exact Ext.refl _ | with_reducible assumption | with_reducible refine Ext.alloc ?_ _ | with_reducible refine Ext.drew ?_ | (with_reducible refine Ext.setAt ?_ _ _ _ ?_; rotate_left; omega) | with_reducible refine Ext.trans ?_ (by assumption) | with_reducible exact Past.bel _ | with_reducible refine Ext.trans ?_ (Past.bel _)))) y m d).mono ?_); rintro e w' ⟨rfl, hx⟩; (first | (obtain ⟨wx, rfl⟩ := Past.again hx) | (obtain ⟨wx, rfl⟩ := Past.ofd hx) | (obtain ⟨wx, rfl⟩ := Past.of hx)))) | (go_at_call 50; ((with_reducible refine (l16Day_i B.out (H.out.ext (by repeat (first | with_reducible exact Ext.refl _ | with_reducible assumption | with_reducible refine Ext.alloc ?_ _ | with_reducible refine Ext.drew ?_ | (with_reducible refine Ext.setAt ?_ _ _ _ ?_; rotate_left; omega) | with_reducible refine Ext.trans ?_ (by assumption) | with_reducible exact Past.bel _ | with_reducible refine Ext.trans ?_ (Past.bel _)))) h2).mono ?_); rintro e w' ⟨rfl, hx⟩; (first | (obtain ⟨wx, rfl⟩ := Past.again hx) | (obtain ⟨wx, rfl⟩ := Past.ofd hx) | (obtain ⟨wx, rfl⟩ := Past.of hx)))))
      go_ret2
      exact ⟨by simp [dyV, dyC, h1, h2], (by repeat (first | with_reducible exact Ext.refl _ | with_reducible assumption | with_reducible refine Ext.alloc ?_ _ | with_reducible refine Ext.drew ?_ | (with_reducible refine Ext.setAt ?_ _ _ _ ?_; rotate_left; omega) | with_reducible refine Ext.trans ?_ (by assumption) | with_reducible exact Past.bel _ | with_reducible refine Ext.trans ?_ (Past.bel _)))⟩
end
end Go.Proofs.Ytggkemiklknmkaa

namespace Go.Proofs.Ytggkemiklknmkaa
open Go.RowKit
set_option linter.unusedVariables false
set_option linter.unusedSimpArgs false

section
variable {g : Nat} {s : ByteArray} {ma ra : Option Addr} {mc rc : Nat} {wk : Int} {nm : Nat → ByteArray} {c : CalN} {w : World}
theorem implValidDate_e {s : ByteArray} {ma ra : Option Addr} {mc rc : Nat} (wk : Int) {nm : Nat → ByteArray} {c : CalN} {y m d : Int} {w : World} {b : Bool} (h1 : calB s nm c wk = true) (hb : dtB c y m d = b) (h : CalV w s ma ra mc rc nm c) :
    Calls Try.prog 51 #[.agg #[.string s, .slice ma c.n mc, .slice ra c.nr rc, .int .i64 wk], .agg #[.int .i64 y, .int .i64 m, .int .i64 d]] w fun e w' => e = .returned (.bool b) ∧ Ext w w' := by
  have : b = vdR s nm c wk y m d := by rw [vdR, h1, hb]; rfl
  rw [this]; exact implValidDate_c wk y m d h
theorem l16Ok_e {g : Nat} {s : ByteArray} {ma ra : Option Addr} {mc rc : Nat} {wk : Int} {nm : Nat → ByteArray} {c : CalN} {w : World} (b : CalB c) (h : CalQ w g s ma ra mc rc wk nm c) {y m d : Int} {bb : Bool} (hb : dtB c y m d = bb) :
    Calls Try.prog 49 #[.pointer (some ⟨g, 0, none⟩), .agg #[.int .i64 y, .int .i64 m, .int .i64 d]] w fun e w' => e = .returned (.bool bb) ∧ Ext w w' := by subst hb; exact l16Ok_q b h y m d
set_option maxHeartbeats 2000000 in
theorem implDaysBetween_c (wk y m d y' m' d' : Int) (h : CalV w s ma ra mc rc nm c) :
    Calls Try.prog 23 #[.agg #[.string s, .slice ma c.n mc, .slice ra c.nr rc, .int .i64 wk], .agg #[.int .i64 y, .int .i64 m, .int .i64 d], .agg #[.int .i64 y', .int .i64 m', .int .i64 d']] w fun e w' => e = .returned (.tuple #[.int .i64 (btV s nm c wk y m d y' m' d'), .int .i64 (btC s nm c wk y m d y' m' d')]) ∧ Ext w w' := by
  have H := Lib.hid h
  clear h
  cases h1 : calB s nm c wk
  · go_enter Try.func23, Try.ntmps23
    go_wp2_with (go_at_call 42; ((with_reducible refine (validCalendar_v wk (H.out.ext (by repeat (first | with_reducible exact Ext.refl _ | with_reducible assumption | with_reducible refine Ext.alloc ?_ _ | with_reducible refine Ext.drew ?_ | (with_reducible refine Ext.setAt ?_ _ _ _ ?_; rotate_left; omega) | with_reducible refine Ext.trans ?_ (by assumption) | with_reducible exact Past.bel _ | with_reducible refine Ext.trans ?_ (Past.bel _))))).mono ?_); rintro e w' ⟨rfl, hx⟩; (first | (obtain ⟨wx, rfl⟩ := Past.again hx) | (obtain ⟨wx, rfl⟩ := Past.ofd hx) | (obtain ⟨wx, rfl⟩ := Past.of hx))))
    go_ret2
    exact ⟨by simp [btV, btC, h1], (by repeat (first | with_reducible exact Ext.refl _ | with_reducible assumption | with_reducible refine Ext.alloc ?_ _ | with_reducible refine Ext.drew ?_ | (with_reducible refine Ext.setAt ?_ _ _ _ ?_; rotate_left; omega) | with_reducible refine Ext.trans ?_ (by assumption) | with_reducible exact Past.bel _ | with_reducible refine Ext.trans ?_ (Past.bel _)))⟩
  · have B := Lib.hid (calB_b h1)
    cases h2 : dtB c y m d
    · go_enter Try.func23, Try.ntmps23
      go_wp2_with (first | (go_at_call 42; ((with_reducible refine (validCalendar_v wk (H.out.ext (by repeat (first | with_reducible exact Ext.refl _ | with_reducible assumption | with_reducible refine Ext.alloc ?_ _ | with_reducible refine Ext.drew ?_ | (with_reducible refine Ext.setAt ?_ _ _ _ ?_; rotate_left; omega) | with_reducible refine Ext.trans ?_ (by assumption) | with_reducible exact Past.bel _ | with_reducible refine Ext.trans ?_ (Past.bel _))))).mono ?_); rintro e w' ⟨rfl, hx⟩; (first | (obtain ⟨wx, rfl⟩ := Past.again hx) | (obtain ⟨wx, rfl⟩ := Past.ofd hx) | (obtain ⟨wx, rfl⟩ := Past.of hx)))) | (go_at_call 51; ((with_reducible refine (implValidDate_e wk h1 h2 (H.out.ext (by repeat (first | with_reducible exact Ext.refl _ | with_reducible assumption | with_reducible refine Ext.alloc ?_ _ | with_reducible refine Ext.drew ?_ | (with_reducible refine Ext.setAt ?_ _ _ _ ?_; rotate_left; omega) | with_reducible refine Ext.trans ?_ (by assumption) | with_reducible exact Past.bel _ | with_reducible refine Ext.trans ?_ (Past.bel _))))).mono ?_); rintro e w' ⟨rfl, hx⟩; (first | (obtain ⟨wx, rfl⟩ := Past.again hx) | (obtain ⟨wx, rfl⟩ := Past.ofd hx) | (obtain ⟨wx, rfl⟩ := Past.of hx)))))
      go_ret2
      exact ⟨by simp [btV, btC, h1, h2], (by repeat (first | with_reducible exact Ext.refl _ | with_reducible assumption | with_reducible refine Ext.alloc ?_ _ | with_reducible refine Ext.drew ?_ | (with_reducible refine Ext.setAt ?_ _ _ _ ?_; rotate_left; omega) | with_reducible refine Ext.trans ?_ (by assumption) | with_reducible exact Past.bel _ | with_reducible refine Ext.trans ?_ (Past.bel _)))⟩
    · cases h3 : dtB c y' m' d'
      · have H2 := Lib.hid h2; have H3 := Lib.hid h3; have H1 := Lib.hid h1
        go_enter Try.func23, Try.ntmps23
        go_wp2_with (go_at_call 42; ((with_reducible refine (validCalendar_v wk (H.out.ext (by repeat (first | with_reducible exact Ext.refl _ | with_reducible assumption | with_reducible refine Ext.alloc ?_ _ | with_reducible refine Ext.drew ?_ | (with_reducible refine Ext.setAt ?_ _ _ _ ?_; rotate_left; omega) | with_reducible refine Ext.trans ?_ (by assumption) | with_reducible exact Past.bel _ | with_reducible refine Ext.trans ?_ (Past.bel _))))).mono ?_); rintro e w' ⟨rfl, hx⟩; (first | (obtain ⟨wx, rfl⟩ := Past.again hx) | (obtain ⟨wx, rfl⟩ := Past.ofd hx) | (obtain ⟨wx, rfl⟩ := Past.of hx))))
        go_wp2_with (first | (go_at_call 51; ((with_reducible refine (implValidDate_e wk H1.out H2.out (H.out.ext (by repeat (first | with_reducible exact Ext.refl _ | with_reducible assumption | with_reducible refine Ext.alloc ?_ _ | with_reducible refine Ext.drew ?_ | (with_reducible refine Ext.setAt ?_ _ _ _ ?_; rotate_left; omega) | with_reducible refine Ext.trans ?_ (by assumption) | with_reducible exact Past.bel _ | with_reducible refine Ext.trans ?_ (Past.bel _))))).mono ?_); rintro e w' ⟨rfl, hx⟩; (first | (obtain ⟨wx, rfl⟩ := Past.again hx) | (obtain ⟨wx, rfl⟩ := Past.ofd hx) | (obtain ⟨wx, rfl⟩ := Past.of hx)))) | (go_at_call 51; ((with_reducible refine (implValidDate_e wk H1.out H3.out (H.out.ext (by repeat (first | with_reducible exact Ext.refl _ | with_reducible assumption | with_reducible refine Ext.alloc ?_ _ | with_reducible refine Ext.drew ?_ | (with_reducible refine Ext.setAt ?_ _ _ _ ?_; rotate_left; omega) | with_reducible refine Ext.trans ?_ (by assumption) | with_reducible exact Past.bel _ | with_reducible refine Ext.trans ?_ (Past.bel _))))).mono ?_); rintro e w' ⟨rfl, hx⟩; (first | (obtain ⟨wx, rfl⟩ := Past.again hx) | (obtain ⟨wx, rfl⟩ := Past.ofd hx) | (obtain ⟨wx, rfl⟩ := Past.of hx)))))
        go_ret2
        exact ⟨by simp [btV, btC, h1, h2, h3], (by repeat (first | with_reducible exact Ext.refl _ | with_reducible assumption | with_reducible refine Ext.alloc ?_ _ | with_reducible refine Ext.drew ?_ | (with_reducible refine Ext.setAt ?_ _ _ _ ?_; rotate_left; omega) | with_reducible refine Ext.trans ?_ (by assumption) | with_reducible exact Past.bel _ | with_reducible refine Ext.trans ?_ (Past.bel _)))⟩
      · have H2 := Lib.hid h2; have H3 := Lib.hid h3; have H1 := Lib.hid h1
        have b1 := dnum_bd B.out h2
        have b2 := dnum_bd B.out h3
        obtain ⟨L, hL⟩ : ∃ L, L = c.bef 10000 := ⟨_, rfl⟩
        have hl := B.out.last
        rw [← hL] at b1 b2 hl
        clear hL
        have e1 := IntWalk.i64_in (dnum c y' m' d' - dnum c y m d) (by omega)
        go_enter Try.func23, Try.ntmps23
        go_wp2_with (go_at_call 42; ((with_reducible refine (validCalendar_v wk (H.out.ext (by repeat (first | with_reducible exact Ext.refl _ | with_reducible assumption | with_reducible refine Ext.alloc ?_ _ | with_reducible refine Ext.drew ?_ | (with_reducible refine Ext.setAt ?_ _ _ _ ?_; rotate_left; omega) | with_reducible refine Ext.trans ?_ (by assumption) | with_reducible exact Past.bel _ | with_reducible refine Ext.trans ?_ (Past.bel _))))).mono ?_); rintro e w' ⟨rfl, hx⟩; (first | (obtain ⟨wx, rfl⟩ := Past.again hx) | (obtain ⟨wx, rfl⟩ := Past.ofd hx) | (obtain ⟨wx, rfl⟩ := Past.of hx))))
        go_wp2_with (first | (go_at_call 51; ((with_reducible refine (implValidDate_e wk H1.out H2.out (H.out.ext (by repeat (first | with_reducible exact Ext.refl _ | with_reducible assumption | with_reducible refine Ext.alloc ?_ _ | with_reducible refine Ext.drew ?_ | (with_reducible refine Ext.setAt ?_ _ _ _ ?_; rotate_left; omega) | with_reducible refine Ext.trans ?_ (by assumption) | with_reducible exact Past.bel _ | with_reducible refine Ext.trans ?_ (Past.bel _))))).mono ?_); rintro e w' ⟨rfl, hx⟩; (first | (obtain ⟨wx, rfl⟩ := Past.again hx) | (obtain ⟨wx, rfl⟩ := Past.ofd hx) | (obtain ⟨wx, rfl⟩ := Past.of hx)))) | (go_at_call 51; ((with_reducible refine (implValidDate_e wk H1.out H3.out (H.out.ext (by repeat (first | with_reducible exact Ext.refl _ | with_reducible assumption | with_reducible refine Ext.alloc ?_ _ | with_reducible refine Ext.drew ?_ | (with_reducible refine Ext.setAt ?_ _ _ _ ?_; rotate_left; omega) | with_reducible refine Ext.trans ?_ (by assumption) | with_reducible exact Past.bel _ | with_reducible refine Ext.trans ?_ (Past.bel _))))).mono ?_); rintro e w' ⟨rfl, hx⟩; (first | (obtain ⟨wx, rfl⟩ := Past.again hx) | (obtain ⟨wx, rfl⟩ := Past.ofd hx) | (obtain ⟨wx, rfl⟩ := Past.of hx)))))
        have hz := wx.bel.size
        simp only [World.size_alloc] at hz
        have g0 : w.heap.size < wx.out.heap.size := by omega
        have g1 : w.heap.size + 1 < wx.out.heap.size := by omega
        have g2 : w.heap.size + 1 + 1 < wx.out.heap.size := by omega
        refine wp_region_past (by kernel_rfl) (by kernel_rfl) ?_
        repeat (go_big_quiet_step (first | (go_at_call 52; exact Calls.past (dayOf_i B.out (H.out.ext (by repeat (first | with_reducible exact Ext.refl _ | with_reducible assumption | with_reducible refine Ext.alloc ?_ _ | with_reducible refine Ext.drew ?_ | (with_reducible refine Ext.setAt ?_ _ _ _ ?_; rotate_left; omega) | with_reducible refine Ext.trans ?_ (by assumption) | with_reducible exact Past.bel _ | with_reducible refine Ext.trans ?_ (Past.bel _)))) H2.out)) | (go_at_call 52; exact Calls.past (dayOf_i B.out (H.out.ext (by repeat (first | with_reducible exact Ext.refl _ | with_reducible assumption | with_reducible refine Ext.alloc ?_ _ | with_reducible refine Ext.drew ?_ | (with_reducible refine Ext.setAt ?_ _ _ _ ?_; rotate_left; omega) | with_reducible refine Ext.trans ?_ (by assumption) | with_reducible exact Past.bel _ | with_reducible refine Ext.trans ?_ (Past.bel _)))) H3.out))))
        refine wpQuiet_nil ?_
        rintro _ ⟨wx, rfl⟩
        go_wp2_with fail
        go_ret2
        exact ⟨by simp [btV, btC, h1, h2, h3], (by repeat (first | with_reducible exact Ext.refl _ | with_reducible assumption | with_reducible refine Ext.alloc ?_ _ | with_reducible refine Ext.drew ?_ | (with_reducible refine Ext.setAt ?_ _ _ _ ?_; rotate_left; omega) | with_reducible refine Ext.trans ?_ (by assumption) | with_reducible exact Past.bel _ | with_reducible refine Ext.trans ?_ (Past.bel _)))⟩
set_option maxHeartbeats 2000000 in
theorem specDaysBetween_c (wk y m d y' m' d' : Int) (h : CalV w s ma ra mc rc nm c) :
    Calls Try.prog 22 #[.agg #[.string s, .slice ma c.n mc, .slice ra c.nr rc, .int .i64 wk], .agg #[.int .i64 y, .int .i64 m, .int .i64 d], .agg #[.int .i64 y', .int .i64 m', .int .i64 d']] w fun e w' => e = .returned (.tuple #[.int .i64 (btV s nm c wk y m d y' m' d'), .int .i64 (btC s nm c wk y m d y' m' d')]) ∧ Ext w w' := by
  have H := Lib.hid (CalQ.new 32 wk h)
  clear h
  cases h1 : calB s nm c wk
  · go_enter Try.func22, Try.ntmps22
    go_wp2_with (go_at_call 38; ((with_reducible refine (l15Ok_q (H.out.ext (by repeat (first | with_reducible exact Ext.refl _ | with_reducible assumption | with_reducible refine Ext.alloc ?_ _ | with_reducible refine Ext.drew ?_ | (with_reducible refine Ext.setAt ?_ _ _ _ ?_; rotate_left; omega) | with_reducible refine Ext.trans ?_ (by assumption) | with_reducible exact Past.bel _ | with_reducible refine Ext.trans ?_ (Past.bel _))))).mono ?_); rintro e w' ⟨rfl, hx⟩; (first | (obtain ⟨wx, rfl⟩ := Past.again hx) | (obtain ⟨wx, rfl⟩ := Past.ofd hx) | (obtain ⟨wx, rfl⟩ := Past.of hx))))
    go_ret2
    exact ⟨by simp [btV, btC, h1], (by repeat (first | with_reducible exact Ext.refl _ | with_reducible assumption | with_reducible refine Ext.alloc ?_ _ | with_reducible refine Ext.drew ?_ | (with_reducible refine Ext.setAt ?_ _ _ _ ?_; rotate_left; omega) | with_reducible refine Ext.trans ?_ (by assumption) | with_reducible exact Past.bel _ | with_reducible refine Ext.trans ?_ (Past.bel _)))⟩
  · have B := Lib.hid (calB_b h1)
    cases h2 : dtB c y m d
    · go_enter Try.func22, Try.ntmps22
      go_wp2_with (first | (go_at_call 38; ((with_reducible refine (l15Ok_q (H.out.ext (by repeat (first | with_reducible exact Ext.refl _ | with_reducible assumption | with_reducible refine Ext.alloc ?_ _ | with_reducible refine Ext.drew ?_ | (with_reducible refine Ext.setAt ?_ _ _ _ ?_; rotate_left; omega) | with_reducible refine Ext.trans ?_ (by assumption) | with_reducible exact Past.bel _ | with_reducible refine Ext.trans ?_ (Past.bel _))))).mono ?_); rintro e w' ⟨rfl, hx⟩; (first | (obtain ⟨wx, rfl⟩ := Past.again hx) | (obtain ⟨wx, rfl⟩ := Past.ofd hx) | (obtain ⟨wx, rfl⟩ := Past.of hx)))) | (go_at_call 49; ((with_reducible refine (l16Ok_e B.out (H.out.ext (by repeat (first | with_reducible exact Ext.refl _ | with_reducible assumption | with_reducible refine Ext.alloc ?_ _ | with_reducible refine Ext.drew ?_ | (with_reducible refine Ext.setAt ?_ _ _ _ ?_; rotate_left; omega) | with_reducible refine Ext.trans ?_ (by assumption) | with_reducible exact Past.bel _ | with_reducible refine Ext.trans ?_ (Past.bel _)))) h2).mono ?_); rintro e w' ⟨rfl, hx⟩; (first | (obtain ⟨wx, rfl⟩ := Past.again hx) | (obtain ⟨wx, rfl⟩ := Past.ofd hx) | (obtain ⟨wx, rfl⟩ := Past.of hx)))))
      go_ret2
      exact ⟨by simp [btV, btC, h1, h2], (by repeat (first | with_reducible exact Ext.refl _ | with_reducible assumption | with_reducible refine Ext.alloc ?_ _ | with_reducible refine Ext.drew ?_ | (with_reducible refine Ext.setAt ?_ _ _ _ ?_; rotate_left; omega) | with_reducible refine Ext.trans ?_ (by assumption) | with_reducible exact Past.bel _ | with_reducible refine Ext.trans ?_ (Past.bel _)))⟩
    · cases h3 : dtB c y' m' d'
      · have H2 := Lib.hid h2; have H3 := Lib.hid h3
        go_enter Try.func22, Try.ntmps22
        go_wp2_with (go_at_call 38; ((with_reducible refine (l15Ok_q (H.out.ext (by repeat (first | with_reducible exact Ext.refl _ | with_reducible assumption | with_reducible refine Ext.alloc ?_ _ | with_reducible refine Ext.drew ?_ | (with_reducible refine Ext.setAt ?_ _ _ _ ?_; rotate_left; omega) | with_reducible refine Ext.trans ?_ (by assumption) | with_reducible exact Past.bel _ | with_reducible refine Ext.trans ?_ (Past.bel _))))).mono ?_); rintro e w' ⟨rfl, hx⟩; (first | (obtain ⟨wx, rfl⟩ := Past.again hx) | (obtain ⟨wx, rfl⟩ := Past.ofd hx) | (obtain ⟨wx, rfl⟩ := Past.of hx))))
        go_wp2_with (first | (go_at_call 49; ((with_reducible refine (l16Ok_e B.out (H.out.ext (by repeat (first | with_reducible exact Ext.refl _ | with_reducible assumption | with_reducible refine Ext.alloc ?_ _ | with_reducible refine Ext.drew ?_ | (with_reducible refine Ext.setAt ?_ _ _ _ ?_; rotate_left; omega) | with_reducible refine Ext.trans ?_ (by assumption) | with_reducible exact Past.bel _ | with_reducible refine Ext.trans ?_ (Past.bel _)))) H2.out).mono ?_); rintro e w' ⟨rfl, hx⟩; (first | (obtain ⟨wx, rfl⟩ := Past.again hx) | (obtain ⟨wx, rfl⟩ := Past.ofd hx) | (obtain ⟨wx, rfl⟩ := Past.of hx)))) | (go_at_call 49; ((with_reducible refine (l16Ok_e B.out (H.out.ext (by repeat (first | with_reducible exact Ext.refl _ | with_reducible assumption | with_reducible refine Ext.alloc ?_ _ | with_reducible refine Ext.drew ?_ | (with_reducible refine Ext.setAt ?_ _ _ _ ?_; rotate_left; omega) | with_reducible refine Ext.trans ?_ (by assumption) | with_reducible exact Past.bel _ | with_reducible refine Ext.trans ?_ (Past.bel _)))) H3.out).mono ?_); rintro e w' ⟨rfl, hx⟩; (first | (obtain ⟨wx, rfl⟩ := Past.again hx) | (obtain ⟨wx, rfl⟩ := Past.ofd hx) | (obtain ⟨wx, rfl⟩ := Past.of hx)))))
        go_ret2
        exact ⟨by simp [btV, btC, h1, h2, h3], (by repeat (first | with_reducible exact Ext.refl _ | with_reducible assumption | with_reducible refine Ext.alloc ?_ _ | with_reducible refine Ext.drew ?_ | (with_reducible refine Ext.setAt ?_ _ _ _ ?_; rotate_left; omega) | with_reducible refine Ext.trans ?_ (by assumption) | with_reducible exact Past.bel _ | with_reducible refine Ext.trans ?_ (Past.bel _)))⟩
      · have H2 := Lib.hid h2; have H3 := Lib.hid h3
        have b1 := dnum_bd B.out h2
        have b2 := dnum_bd B.out h3
        obtain ⟨L, hL⟩ : ∃ L, L = c.bef 10000 := ⟨_, rfl⟩
        have hl := B.out.last
        rw [← hL] at b1 b2 hl
        clear hL
        have e1 := IntWalk.i64_in (dnum c y' m' d' - dnum c y m d) (by omega)
        go_enter Try.func22, Try.ntmps22
        go_wp2_with (go_at_call 38; ((with_reducible refine (l15Ok_q (H.out.ext (by repeat (first | with_reducible exact Ext.refl _ | with_reducible assumption | with_reducible refine Ext.alloc ?_ _ | with_reducible refine Ext.drew ?_ | (with_reducible refine Ext.setAt ?_ _ _ _ ?_; rotate_left; omega) | with_reducible refine Ext.trans ?_ (by assumption) | with_reducible exact Past.bel _ | with_reducible refine Ext.trans ?_ (Past.bel _))))).mono ?_); rintro e w' ⟨rfl, hx⟩; (first | (obtain ⟨wx, rfl⟩ := Past.again hx) | (obtain ⟨wx, rfl⟩ := Past.ofd hx) | (obtain ⟨wx, rfl⟩ := Past.of hx))))
        go_wp2_with (first | (go_at_call 49; ((with_reducible refine (l16Ok_e B.out (H.out.ext (by repeat (first | with_reducible exact Ext.refl _ | with_reducible assumption | with_reducible refine Ext.alloc ?_ _ | with_reducible refine Ext.drew ?_ | (with_reducible refine Ext.setAt ?_ _ _ _ ?_; rotate_left; omega) | with_reducible refine Ext.trans ?_ (by assumption) | with_reducible exact Past.bel _ | with_reducible refine Ext.trans ?_ (Past.bel _)))) H2.out).mono ?_); rintro e w' ⟨rfl, hx⟩; (first | (obtain ⟨wx, rfl⟩ := Past.again hx) | (obtain ⟨wx, rfl⟩ := Past.ofd hx) | (obtain ⟨wx, rfl⟩ := Past.of hx)))) | (go_at_call 49; ((with_reducible refine (l16Ok_e B.out (H.out.ext (by repeat (first | with_reducible exact Ext.refl _ | with_reducible assumption | with_reducible refine Ext.alloc ?_ _ | with_reducible refine Ext.drew ?_ | (with_reducible refine Ext.setAt ?_ _ _ _ ?_; rotate_left; omega) | with_reducible refine Ext.trans ?_ (by assumption) | with_reducible exact Past.bel _ | with_reducible refine Ext.trans ?_ (Past.bel _)))) H3.out).mono ?_); rintro e w' ⟨rfl, hx⟩; (first | (obtain ⟨wx, rfl⟩ := Past.again hx) | (obtain ⟨wx, rfl⟩ := Past.ofd hx) | (obtain ⟨wx, rfl⟩ := Past.of hx)))))
        have hz := wx.bel.size
        simp only [World.size_alloc] at hz
        have g0 : w.heap.size < wx.out.heap.size := by omega
        have g1 : w.heap.size + 1 < wx.out.heap.size := by omega
        have g2 : w.heap.size + 1 + 1 < wx.out.heap.size := by omega
        refine wp_region_past (by kernel_rfl) (by kernel_rfl) ?_
        repeat (go_big_quiet_step (first | (go_at_call 50; exact Calls.past (l16Day_i B.out (H.out.ext (by repeat (first | with_reducible exact Ext.refl _ | with_reducible assumption | with_reducible refine Ext.alloc ?_ _ | with_reducible refine Ext.drew ?_ | (with_reducible refine Ext.setAt ?_ _ _ _ ?_; rotate_left; omega) | with_reducible refine Ext.trans ?_ (by assumption) | with_reducible exact Past.bel _ | with_reducible refine Ext.trans ?_ (Past.bel _)))) H2.out)) | (go_at_call 50; exact Calls.past (l16Day_i B.out (H.out.ext (by repeat (first | with_reducible exact Ext.refl _ | with_reducible assumption | with_reducible refine Ext.alloc ?_ _ | with_reducible refine Ext.drew ?_ | (with_reducible refine Ext.setAt ?_ _ _ _ ?_; rotate_left; omega) | with_reducible refine Ext.trans ?_ (by assumption) | with_reducible exact Past.bel _ | with_reducible refine Ext.trans ?_ (Past.bel _)))) H3.out))))
        refine wpQuiet_nil ?_
        rintro _ ⟨wx, rfl⟩
        go_wp2_with fail
        go_ret2
        exact ⟨by simp [btV, btC, h1, h2, h3], (by repeat (first | with_reducible exact Ext.refl _ | with_reducible assumption | with_reducible refine Ext.alloc ?_ _ | with_reducible refine Ext.drew ?_ | (with_reducible refine Ext.setAt ?_ _ _ _ ?_; rotate_left; omega) | with_reducible refine Ext.trans ?_ (by assumption) | with_reducible exact Past.bel _ | with_reducible refine Ext.trans ?_ (Past.bel _)))⟩
end
end Go.Proofs.Ytggkemiklknmkaa
