/- Leap years: the reference's. Days of months, of years: the program's. Days before a year: the program's. Days of months, of years: the reference's. Days of years: the reference's. Years of a cycle: the reference's. Names: the program's and the reference's. Names: the reference's. Months of a calendar: the reference's. Valid calendars: the reference's. Names among others: the program's. Valid calendars: the program's. Leap years: the functions as they are called. -/
import Derived.Test.YtpohhnihgegmfaaGreatDoorBb
import Derived.Lib.ConvBytes
import Derived.Lib.UnsafeStr
import Derived.Laws.Closers25b

namespace Go.Proofs.YtpohhnihgegmfaaGreatDoor
open Go.RowKit
set_option linter.unusedVariables false
set_option linter.unusedSimpArgs false

set_option maxHeartbeats 1000000 in
theorem l15Leap_c (g : Nat) (ra : Option Addr) (n rc : Nat) (ev rs : Nat → Int) (lf : Nat → Bool) (y : Int) (w : World) (hg : g < w.heap.size) (hc : w.cell? ⟨g, 2, none⟩ = some (.slice ra n rc)) (hn : n ≤ 1048576) (hy : 0 ≤ y) (hy' : y ≤ 1000000000000) (hs : R3 w ra n ev rs lf) (he : ∀ j, j < n → 1 ≤ ev j ∧ ev j ≤ 1000) :
    Calls Tryz.prog 92 #[.pointer (some ⟨g, 0, none⟩), .int .i64 y] w fun e w' => e = .returned (.bool (lpTo ev rs lf y n)) ∧ Ext w w' := by
  have HS := Lib.hid hs
  have HE := Lib.hid he
  clear hs he
  go_enter Tryz.func92, Tryz.ntmps92
  go_wp2_with fail
  go_loopw [5, 6] (fun b i wr => ∃ j : Nat, j ≤ n ∧ i = .int .i64 j ∧ b = .bool (lpTo ev rs lf y j) ∧ Ext w wr) (fun _ i _ => n - (intOf i).toNat)
  case atStart => exact ⟨0, by omega, rfl, rfl, (by repeat (first | with_reducible exact Ext.refl _ | with_reducible assumption | with_reducible refine Ext.alloc ?_ _ | with_reducible refine Ext.drew ?_ | (with_reducible refine Ext.setAt ?_ _ _ _ ?_; rotate_left; omega) | with_reducible refine Ext.trans ?_ (by assumption) | with_reducible exact Past.bel _ | with_reducible refine Ext.trans ?_ (Past.bel _)))⟩
  case round =>
    obtain ⟨j, hj, rfl, rfl, hbl⟩ := hrel
    have hc1 : wr.cell? ⟨g, 2, none⟩ = some (.slice ra n rc) := by rw [hbl.cell hg]; exact hc
    have hg1 : g < wr.heap.size := Nat.lt_of_lt_of_le hg hbl.size
    have HC := Lib.hid hc
    clear hc
    by_cases hlt : j < n
    · obtain ⟨b1, o1, rfl, hb1, q1, q2, q3⟩ := (R3.ext HS.out hbl).at hlt
      have hev := HE.out j hlt
      obtain ⟨t0, t1, t2⟩ := tmod_bd hy (show 0 < ev j by omega)
      by_cases h : y % ev j = rs j
      · have hb0 : (y % ev j == rs j) = true := by simpa using h
        have H := Lib.hid h
        clear h t0
        go_wp2_with fail
        refine wp_region_past (by kernel_rfl) (by kernel_rfl) ?_
        repeat (go_big_quiet_step (fail))
        refine wpQuiet_nil ?_
        rintro _ ⟨wx, rfl⟩
        go_wp2_with fail
        exact ⟨⟨j + 1, by omega, by go_num, by simp [lpTo, H.out], (by repeat (first | with_reducible exact Ext.refl _ | with_reducible assumption | with_reducible refine Ext.alloc ?_ _ | with_reducible refine Ext.drew ?_ | (with_reducible refine Ext.setAt ?_ _ _ _ ?_; rotate_left; omega) | with_reducible refine Ext.trans ?_ (by assumption) | with_reducible exact Past.bel _ | with_reducible refine Ext.trans ?_ (Past.bel _)))⟩, by simp [intOf]; omega⟩
      · have hb0 : (y % ev j == rs j) = false := by simpa using h
        have H := Lib.hid h
        clear h t0
        go_wp2_with fail
        refine wp_region_past (by kernel_rfl) (by kernel_rfl) ?_
        repeat (go_big_quiet_step (fail))
        refine wpQuiet_nil ?_
        rintro _ ⟨wx, rfl⟩
        go_wp2_with fail
        exact ⟨⟨j + 1, by omega, by go_num, by simp [lpTo, H.out], (by repeat (first | with_reducible exact Ext.refl _ | with_reducible assumption | with_reducible refine Ext.alloc ?_ _ | with_reducible refine Ext.drew ?_ | (with_reducible refine Ext.setAt ?_ _ _ _ ?_; rotate_left; omega) | with_reducible refine Ext.trans ?_ (by assumption) | with_reducible exact Past.bel _ | with_reducible refine Ext.trans ?_ (Past.bel _)))⟩, by simp [intOf]; omega⟩
    · obtain rfl : j = n := by omega
      go_wp2_with fail
      go_ret
      exact ⟨rfl, (by repeat (first | with_reducible exact Ext.refl _ | with_reducible assumption | with_reducible refine Ext.alloc ?_ _ | with_reducible refine Ext.drew ?_ | (with_reducible refine Ext.setAt ?_ _ _ _ ?_; rotate_left; omega) | with_reducible refine Ext.trans ?_ (by assumption) | with_reducible exact Past.bel _ | with_reducible refine Ext.trans ?_ (Past.bel _)))⟩
end Go.Proofs.YtpohhnihgegmfaaGreatDoor

namespace Go.Proofs.YtpohhnihgegmfaaGreatDoor
open Go.RowKit
set_option linter.unusedVariables false
set_option linter.unusedSimpArgs false

set_option maxHeartbeats 1000000 in
theorem daysOfMonth_c (s : ByteArray) (ma ra : Option Addr) (n mc rn rc : Nat) (wk : Int) (nm : Nat → ByteArray) (dy lp : Nat → Int) (l : Bool) (j : Nat) (w : World) (hn : n ≤ 1048576) (hs : S3 w ma n nm dy lp) (hj : j < n) :
    Calls Tryz.prog 58 #[.agg #[.string s, .slice ma n mc, .slice ra rn rc, .int .i64 wk], .bool l, .int .i64 ((j : Int) + 1)] w fun e w' => e = .returned (.int .i64 (if l then lp j else dy j)) ∧ Ext w w' := by
  obtain ⟨b1, o1, rfl, hb1, q1, q2, q3⟩ := hs.at hj
  have x0 : (0 : Int) ≤ (j : Int) := by omega
  have x1 : (j : Int) < (n : Int) := by omega
  cases l
  · go_enter Tryz.func58, Tryz.ntmps58
    go_wp2
    go_ret
    exact ⟨rfl, (by repeat (first | with_reducible exact Ext.refl _ | with_reducible assumption | with_reducible refine Ext.alloc ?_ _ | with_reducible refine Ext.drew ?_ | (with_reducible refine Ext.setAt ?_ _ _ _ ?_; rotate_left; omega) | with_reducible refine Ext.trans ?_ (by assumption) | with_reducible exact Past.bel _ | with_reducible refine Ext.trans ?_ (Past.bel _)))⟩
  · go_enter Tryz.func58, Tryz.ntmps58
    go_wp2
    go_ret
    exact ⟨rfl, (by repeat (first | with_reducible exact Ext.refl _ | with_reducible assumption | with_reducible refine Ext.alloc ?_ _ | with_reducible refine Ext.drew ?_ | (with_reducible refine Ext.setAt ?_ _ _ _ ?_; rotate_left; omega) | with_reducible refine Ext.trans ?_ (by assumption) | with_reducible exact Past.bel _ | with_reducible refine Ext.trans ?_ (Past.bel _)))⟩
end Go.Proofs.YtpohhnihgegmfaaGreatDoor

namespace Go.Proofs.YtpohhnihgegmfaaGreatDoor
open Go.RowKit
set_option linter.unusedVariables false
set_option linter.unusedSimpArgs false

theorem yl_if (c : CalN) (y : Int) : c.yl y = if c.leap y then sm c.lp c.n else sm c.dy c.n := by
  unfold CalN.yl CalN.mo
  cases c.leap y <;> rfl
set_option maxHeartbeats 1000000 in
theorem daysBefore_c (s : ByteArray) (ma ra : Option Addr) (mc rc : Nat) (wk : Int) (nm : Nat → ByteArray) (c : CalN) (k : Nat) (w : World) (b : CalB c) (h : CalM w ma ra nm c) (hk : k ≤ 10000) :
    Calls Tryz.prog 47 #[.agg #[.string s, .slice ma c.n mc, .slice ra c.nr rc, .int .i64 wk], .int .i64 (k : Nat)] w fun e w' => e = .returned (.int .i64 (c.bef k)) ∧ Ext w w' := by
  have H := Lib.hid h
  have B := Lib.hid b
  have n20 := b.n20
  have nr6 := b.nr6
  clear h b
  go_enter Tryz.func47, Tryz.ntmps47
  go_wp2_with (go_at_call 59; ((with_reducible refine (yearLengths_c _ _ _ _ _ _ _ _ nm _ _ _ (by omega) (H.out.mo.ext (by repeat (first | with_reducible exact Ext.refl _ | with_reducible assumption | with_reducible refine Ext.alloc ?_ _ | with_reducible refine Ext.drew ?_ | (with_reducible refine Ext.setAt ?_ _ _ _ ?_; rotate_left; omega) | with_reducible refine Ext.trans ?_ (by assumption) | with_reducible exact Past.bel _ | with_reducible refine Ext.trans ?_ (Past.bel _)))) (by omega) (fun j hj => ⟨B.out.dy j hj, B.out.lp j hj⟩)).mono ?_); rintro e w' ⟨rfl, hx⟩; (first | (obtain ⟨wx, rfl⟩ := Past.again hx) | (obtain ⟨wx, rfl⟩ := Past.ofd hx) | (obtain ⟨wx, rfl⟩ := Past.of hx)); have hz := Past.size wx; (try simp only [World.size_alloc, World.size_drew] at hz)))
  go_loopw [7, 8] (fun d i wr => ∃ j : Nat, j ≤ k ∧ i = .int .i64 j ∧ d = .int .i64 (c.bef j) ∧ Ext w wr ∧ w.heap.size < wr.heap.size ∧ wr.cell? ⟨w.heap.size, 0, none⟩ = some (.string s) ∧ wr.cell? ⟨w.heap.size, 1, none⟩ = some (.slice ma c.n mc) ∧ wr.cell? ⟨w.heap.size, 2, none⟩ = some (.slice ra c.nr rc) ∧ wr.cell? ⟨w.heap.size, 3, none⟩ = some (.int .i64 wk)) (fun _ i _ => k - (intOf i).toNat)
  case atStart => exact ⟨0, by omega, rfl, rfl, (by repeat (first | with_reducible exact Ext.refl _ | with_reducible assumption | with_reducible refine Ext.alloc ?_ _ | with_reducible refine Ext.drew ?_ | (with_reducible refine Ext.setAt ?_ _ _ _ ?_; rotate_left; omega) | with_reducible refine Ext.trans ?_ (by assumption) | with_reducible exact Past.bel _ | with_reducible refine Ext.trans ?_ (Past.bel _))), by omega, by simp [go_sem], by simp [go_sem], by simp [go_sem], by simp [go_sem]⟩
  case round =>
    obtain ⟨j, hj, rfl, rfl, hbl, hsz, k0, k1, k2, k3⟩ := hrel
    have hb1 := B.out.bef j
    by_cases hlt : j < k
    · have x1 : (j : Int) < (k : Int) := by omega
      obtain ⟨L, hL⟩ : ∃ L, L = c.leap (j : Int) := ⟨_, rfl⟩
      have hst : c.bef (j + 1) = c.bef j + (if L then sm c.lp c.n else sm c.dy c.n) := by
        rw [hL, ← yl_if]; rfl
      have ST := Lib.hid hst
      have hil : ∀ W, Ext w W → Calls Tryz.prog 56 #[.agg #[.string s, .slice ma c.n mc, .slice ra c.nr rc, .int .i64 wk], .int .i64 (j : Int)] W fun e w' => e = .returned (.bool L) ∧ Ext W w' := fun W hx => by
        rw [hL]; exact isLeap_c _ c.nr _ _ _ _ _ _ (by omega) (by omega) (by omega) (H.out.ru.ext hx) B.out.ev _ _ _ _ _
      have HIL := Lib.hid hil
      have z1 := sm_bd (f := c.dy) (A := 1) (B := 60) (k := c.n) B.out.dy
      have z2 := sm_bd (f := c.lp) (A := 1) (B := 60) (k := c.n) B.out.lp
      clear hst hil hL
      cases L
      all_goals
        go_wp2_with fail
        refine (HIL.out _ (by repeat (first | with_reducible exact Ext.refl _ | with_reducible assumption | with_reducible refine Ext.alloc ?_ _ | with_reducible refine Ext.drew ?_ | (with_reducible refine Ext.setAt ?_ _ _ _ ?_; rotate_left; omega) | with_reducible refine Ext.trans ?_ (by assumption) | with_reducible exact Past.bel _ | with_reducible refine Ext.trans ?_ (Past.bel _)))).mono ?_
        rintro e w1 ⟨rfl, hx1⟩
        have m0 : w1.cell? ⟨w.heap.size, 0, none⟩ = some (.string s) := by rw [hx1.cell hsz]; exact k0
        have m1 : w1.cell? ⟨w.heap.size, 1, none⟩ = some (.slice ma c.n mc) := by rw [hx1.cell hsz]; exact k1
        have m2 : w1.cell? ⟨w.heap.size, 2, none⟩ = some (.slice ra c.nr rc) := by rw [hx1.cell hsz]; exact k2
        have m3 : w1.cell? ⟨w.heap.size, 3, none⟩ = some (.int .i64 wk) := by rw [hx1.cell hsz]; exact k3
        have hs1 := Nat.lt_of_lt_of_le hsz hx1.size
        go_wp2_with fail
        exact ⟨⟨j + 1, by omega, by go_num, by rw [ST.out]; simp, (by repeat (first | with_reducible exact Ext.refl _ | with_reducible assumption | with_reducible refine Ext.alloc ?_ _ | with_reducible refine Ext.drew ?_ | (with_reducible refine Ext.setAt ?_ _ _ _ ?_; rotate_left; omega) | with_reducible refine Ext.trans ?_ (by assumption) | with_reducible exact Past.bel _ | with_reducible refine Ext.trans ?_ (Past.bel _))), hs1, m0, m1, m2, m3⟩, by simp [intOf]; omega⟩
    · obtain rfl : j = k := by omega
      go_wp2_with fail
      go_ret
      exact ⟨rfl, (by repeat (first | with_reducible exact Ext.refl _ | with_reducible assumption | with_reducible refine Ext.alloc ?_ _ | with_reducible refine Ext.drew ?_ | (with_reducible refine Ext.setAt ?_ _ _ _ ?_; rotate_left; omega) | with_reducible refine Ext.trans ?_ (by assumption) | with_reducible exact Past.bel _ | with_reducible refine Ext.trans ?_ (Past.bel _)))⟩
end Go.Proofs.YtpohhnihgegmfaaGreatDoor

namespace Go.Proofs.YtpohhnihgegmfaaGreatDoor
open Go.RowKit
set_option linter.unusedVariables false
set_option linter.unusedSimpArgs false

/-- a calendar behind a pointer: its cells in block g -/
structure CalP (w : World) (g : Nat) (s : ByteArray) (ma ra : Option Addr) (mc rc : Nat) (wk : Int) (nm : Nat → ByteArray) (c : CalN) : Prop where
  lt : g < w.heap.size
  c0 : w.cell? ⟨g, 0, none⟩ = some (.string s)
  c1 : w.cell? ⟨g, 1, none⟩ = some (.slice ma c.n mc)
  c2 : w.cell? ⟨g, 2, none⟩ = some (.slice ra c.nr rc)
  c3 : w.cell? ⟨g, 3, none⟩ = some (.int .i64 wk)
  mem : CalM w ma ra nm c
theorem CalP.ext {w w' : World} {g : Nat} {s : ByteArray} {ma ra : Option Addr} {mc rc : Nat} {wk : Int} {nm : Nat → ByteArray} {c : CalN} (h : CalP w g s ma ra mc rc wk nm c) (e : Ext w w') : CalP w' g s ma ra mc rc wk nm c :=
  ⟨Nat.lt_of_lt_of_le h.lt e.size, (e.cell h.lt).trans h.c0, (e.cell h.lt).trans h.c1, (e.cell h.lt).trans h.c2, (e.cell h.lt).trans h.c3, h.mem.ext e⟩
set_option maxHeartbeats 1000000 in
theorem l15Days_c (g : Nat) (s : ByteArray) (ma ra : Option Addr) (mc rc : Nat) (wk : Int) (nm : Nat → ByteArray) (c : CalN) (y : Int) (j : Nat) (w : World) (b : CalB c) (h : CalP w g s ma ra mc rc wk nm c) (hy : 0 ≤ y) (hy' : y ≤ 1000000000000) (hj : j < c.n) :
    Calls Tryz.prog 67 #[.pointer (some ⟨g, 0, none⟩), .int .i64 y, .int .i64 (j : Nat)] w fun e w' => e = .returned (.int .i64 (c.mo y j)) ∧ Ext w w' := by
  obtain ⟨L, hL⟩ : ∃ L, L = c.leap y := ⟨_, rfl⟩
  have nr6 := b.nr6
  have n20 := b.n20
  have hil : ∀ W, Ext w W → Calls Tryz.prog 92 #[.pointer (some ⟨g, 0, none⟩), .int .i64 y] W fun e w' => e = .returned (.bool L) ∧ Ext W w' := fun W hx => by
    rw [hL]; exact l15Leap_c _ _ c.nr _ _ _ _ _ _ (h.ext hx).lt (h.ext hx).c2 (by omega) hy hy' (h.ext hx).mem.ru b.ev
  have HIL := Lib.hid hil
  have hst : c.mo y j = if L then c.lp j else c.dy j := by rw [hL]; rfl
  have ST := Lib.hid hst
  obtain ⟨b1, o1, e1, hb1, q1, q2, q3⟩ := h.mem.mo.at hj
  subst e1
  have g0 := h.lt
  have p1 := h.c1
  have x0 : (0 : Int) ≤ (j : Int) := by omega
  have x1 : (j : Int) < (c.n : Int) := by omega
  clear hil hst hL h
  cases L
  all_goals
    go_enter Tryz.func67, Tryz.ntmps67
    go_wp2_with (go_at_call 92; ((with_reducible refine (HIL.out _ (by repeat (first | with_reducible exact Ext.refl _ | with_reducible assumption | with_reducible refine Ext.alloc ?_ _ | with_reducible refine Ext.drew ?_ | (with_reducible refine Ext.setAt ?_ _ _ _ ?_; rotate_left; omega) | with_reducible refine Ext.trans ?_ (by assumption) | with_reducible exact Past.bel _ | with_reducible refine Ext.trans ?_ (Past.bel _)))).mono ?_); rintro e w' ⟨rfl, hx⟩; (first | (obtain ⟨wx, rfl⟩ := Past.again hx) | (obtain ⟨wx, rfl⟩ := Past.ofd hx) | (obtain ⟨wx, rfl⟩ := Past.of hx))))
    go_ret
    exact ⟨ret_i64 (by rw [ST.out]; simp), (by repeat (first | with_reducible exact Ext.refl _ | with_reducible assumption | with_reducible refine Ext.alloc ?_ _ | with_reducible refine Ext.drew ?_ | (with_reducible refine Ext.setAt ?_ _ _ _ ?_; rotate_left; omega) | with_reducible refine Ext.trans ?_ (by assumption) | with_reducible exact Past.bel _ | with_reducible refine Ext.trans ?_ (Past.bel _)))⟩
end Go.Proofs.YtpohhnihgegmfaaGreatDoor

namespace Go.Proofs.YtpohhnihgegmfaaGreatDoor
open Go.RowKit
set_option linter.unusedVariables false
set_option linter.unusedSimpArgs false

end Go.Proofs.YtpohhnihgegmfaaGreatDoor

namespace Go.Proofs.YtpohhnihgegmfaaGreatDoor
open Go.RowKit
set_option linter.unusedVariables false
set_option linter.unusedSimpArgs false

set_option maxHeartbeats 2000000 in
theorem l15Years_c (a : Option Addr) (n c : Nat) (ev rs : Nat → Int) (lf : Nat → Bool) (w : World) (hn : n ≤ 1048576) (hs : R3 w a n ev rs lf) :
    Calls Tryz.prog 76 #[.slice a n c] w fun e w' => ∃ x b, e = .returned (.tuple #[.int .i64 x, .bool b]) ∧ YrR ev rs n x b ∧ Ext w w' := by
  have HS := Lib.hid hs
  clear hs
  go_enter Tryz.func76, Tryz.ntmps76
  go_wp2_with fail
  go_loopw [4, 5] (fun y i wr => ∃ j : Nat, j ≤ n ∧ i = .int .i64 j ∧ y = .int .i64 (cyY ev j) ∧ rulTo ev rs j = true ∧ cyY ev j ≤ 2000 ∧ Ext w wr) (fun _ i _ => n - (intOf i).toNat)
  case atStart => exact ⟨0, by omega, rfl, rfl, rfl, by simp [cyY], (by repeat (first | with_reducible exact Ext.refl _ | with_reducible assumption | with_reducible refine Ext.alloc ?_ _ | with_reducible refine Ext.drew ?_ | (with_reducible refine Ext.setAt ?_ _ _ _ ?_; rotate_left; omega) | with_reducible refine Ext.trans ?_ (by assumption) | with_reducible exact Past.bel _ | with_reducible refine Ext.trans ?_ (Past.bel _)))⟩
  case round =>
    obtain ⟨j, hj, rfl, rfl, hr, h2, hbl⟩ := hrel
    have HR := Lib.hid hr
    clear hr
    by_cases hlt : j < n
    · obtain ⟨b1, o1, rfl, hb1, q1, q2, q3⟩ := (R3.ext HS.out hbl).at hlt
      by_cases t1 : inB (ev j) 1 1000 = true
      · have t1' := inB_t.1 t1
        by_cases t2 : inB (rs j) 0 (ev j - 1) = true
        · have he : ∀ i, i < j + 1 → 1 ≤ ev i ∧ ev i ≤ 1000 := fun i hi => by
            by_cases e : i = j
            · subst e; exact t1'
            · exact (rulTo_at HR.out (show i < j by omega)).1
          obtain ⟨y0, y1, g0, d0, d1, p0, p1⟩ := cyS (ev := ev) (k := j) he
          have st : cyY ev (j + 1) = cyY ev j / gcdI (cyY ev j) (ev j) * ev j := by simp only [cyY]; rw [if_pos h2]
          have hr1 : rulTo ev rs (j + 1) = true := by simp only [rulTo, HR.out, t1, t2]; rfl
          have ST := Lib.hid st
          have HR1 := Lib.hid hr1
          obtain ⟨Y, hY⟩ : ∃ Y, Y = cyY ev j := ⟨_, rfl⟩
          rw [← hY] at y0 y1 g0 d0 d1 p0 p1 h2 ⊢
          obtain ⟨G, hG⟩ : ∃ G, G = gcdI Y (ev j) := ⟨_, rfl⟩
          rw [← hG] at g0 d0 d1 p0 p1
          have w1 := IntWalk.i64_in (Y / G) (by have := d1 h2; omega)
          have w2 := IntWalk.i64_in (Y / G * ev j) (by have := p1 h2; omega)
          have u1 : Y.tdiv G = Y / G := tdiv_nn (by omega)
          have cg : ∀ W, Calls Tryz.prog 86 #[.int .i64 Y, .int .i64 (ev j)] W fun e w' => e = .returned (.int .i64 G) ∧ W = w' := fun W => by
            rw [hG]; exact l02Gcd_c _ _ _ (by omega) (by omega) (by omega) (by omega)
          have CG := Lib.hid cg
          have HY := Lib.hid hY
          have HG := Lib.hid hG
          have hz : Y / G * ev j = cyY ev (j + 1) := by rw [st, ← hY, ← hG]
          have HZ := Lib.hid hz
          clear st cg hY hG hr1 hz he
          by_cases hbig : 2000 < Y / G * ev j
          · go_wp2_with fail
            refine wp_region_past (by kernel_rfl) (by kernel_rfl) ?_
            repeat (go_big_quiet_step ((go_at_call 79; exact Calls.past_same (l00In_c _ _ _ _))))
            refine wpQuiet_nil ?_
            rintro _ ⟨wx, rfl⟩
            go_wp2_with fail
            refine wp_region_past (by kernel_rfl) (by kernel_rfl) ?_
            repeat (go_big_quiet_step ((go_at_call 86; exact Calls.past_same (CG.out _))))
            refine wpQuiet_nil ?_
            rintro _ ⟨wx, rfl⟩
            go_wp2_with fail
            go_ret2
            exact ⟨_, _, rfl, ⟨(rulB_many (k := j + 1) (by omega) (by rw [← HZ.out]; exact hbig)).symm, fun e => by cases e⟩, (by repeat (first | with_reducible exact Ext.refl _ | with_reducible assumption | with_reducible refine Ext.alloc ?_ _ | with_reducible refine Ext.drew ?_ | (with_reducible refine Ext.setAt ?_ _ _ _ ?_; rotate_left; omega) | with_reducible refine Ext.trans ?_ (by assumption) | with_reducible exact Past.bel _ | with_reducible refine Ext.trans ?_ (Past.bel _)))⟩
          · go_wp2_with fail
            refine wp_region_past (by kernel_rfl) (by kernel_rfl) ?_
            repeat (go_big_quiet_step ((go_at_call 79; exact Calls.past_same (l00In_c _ _ _ _))))
            refine wpQuiet_nil ?_
            rintro _ ⟨wx, rfl⟩
            go_wp2_with fail
            refine wp_region_past (by kernel_rfl) (by kernel_rfl) ?_
            repeat (go_big_quiet_step ((go_at_call 86; exact Calls.past_same (CG.out _))))
            refine wpQuiet_nil ?_
            rintro _ ⟨wx, rfl⟩
            go_wp2_with fail
            exact ⟨⟨j + 1, by omega, by go_num, by rw [HZ.out], HR1.out, by rw [← HZ.out]; omega, (by repeat (first | with_reducible exact Ext.refl _ | with_reducible assumption | with_reducible refine Ext.alloc ?_ _ | with_reducible refine Ext.drew ?_ | (with_reducible refine Ext.setAt ?_ _ _ _ ?_; rotate_left; omega) | with_reducible refine Ext.trans ?_ (by assumption) | with_reducible exact Past.bel _ | with_reducible refine Ext.trans ?_ (Past.bel _)))⟩, by simp [intOf]; omega⟩
        · have t3 : inB (rs j) 0 (ev j - 1) = false := by simpa using t2
          clear t2
          go_wp2_with fail
          refine wp_region_past (by kernel_rfl) (by kernel_rfl) ?_
          repeat (go_big_quiet_step ((go_at_call 79; exact Calls.past_same (l00In_c _ _ _ _))))
          refine wpQuiet_nil ?_
          rintro _ ⟨wx, rfl⟩
          go_wp2_with fail
          go_ret2
          exact ⟨_, _, rfl, ⟨(rulB_bad hlt (by simp [t3])).symm, fun e => by cases e⟩, (by repeat (first | with_reducible exact Ext.refl _ | with_reducible assumption | with_reducible refine Ext.alloc ?_ _ | with_reducible refine Ext.drew ?_ | (with_reducible refine Ext.setAt ?_ _ _ _ ?_; rotate_left; omega) | with_reducible refine Ext.trans ?_ (by assumption) | with_reducible exact Past.bel _ | with_reducible refine Ext.trans ?_ (Past.bel _)))⟩
      · have t3 : inB (ev j) 1 1000 = false := by simpa using t1
        clear t1
        go_wp2_with fail
        refine wp_region_past (by kernel_rfl) (by kernel_rfl) ?_
        repeat (go_big_quiet_step ((go_at_call 79; exact Calls.past_same (l00In_c _ _ _ _))))
        refine wpQuiet_nil ?_
        rintro _ ⟨wx, rfl⟩
        go_wp2_with fail
        go_ret2
        exact ⟨_, _, rfl, ⟨(rulB_bad hlt (by simp [t3])).symm, fun e => by cases e⟩, (by repeat (first | with_reducible exact Ext.refl _ | with_reducible assumption | with_reducible refine Ext.alloc ?_ _ | with_reducible refine Ext.drew ?_ | (with_reducible refine Ext.setAt ?_ _ _ _ ?_; rotate_left; omega) | with_reducible refine Ext.trans ?_ (by assumption) | with_reducible exact Past.bel _ | with_reducible refine Ext.trans ?_ (Past.bel _)))⟩
    · obtain rfl : j = n := by omega
      by_cases h6 : j ≤ 6
      · have x6 : (j : Int) ≤ 6 := by omega
        go_wp2_with fail
        go_ret2
        exact ⟨_, _, rfl, ⟨by simp [rulB, HR.out, h2, h6], fun _ => rfl⟩, (by repeat (first | with_reducible exact Ext.refl _ | with_reducible assumption | with_reducible refine Ext.alloc ?_ _ | with_reducible refine Ext.drew ?_ | (with_reducible refine Ext.setAt ?_ _ _ _ ?_; rotate_left; omega) | with_reducible refine Ext.trans ?_ (by assumption) | with_reducible exact Past.bel _ | with_reducible refine Ext.trans ?_ (Past.bel _)))⟩
      · have x6 : ¬ (j : Int) ≤ 6 := by omega
        go_wp2_with fail
        go_ret2
        exact ⟨_, .inl ⟨rfl, ⟨by simp [rulB, h6], fun e => by cases e⟩, (by repeat (first | with_reducible exact Ext.refl _ | with_reducible assumption | with_reducible refine Ext.alloc ?_ _ | with_reducible refine Ext.drew ?_ | (with_reducible refine Ext.setAt ?_ _ _ _ ?_; rotate_left; omega) | with_reducible refine Ext.trans ?_ (by assumption) | with_reducible exact Past.bel _ | with_reducible refine Ext.trans ?_ (Past.bel _)))⟩⟩
end Go.Proofs.YtpohhnihgegmfaaGreatDoor

namespace Go.Proofs.YtpohhnihgegmfaaGreatDoor
open Go.RowKit
set_option linter.unusedVariables false
set_option linter.unusedSimpArgs false

open Go.Lib in
theorem ext_bytes (w : World) (e : TypeId) (s : ByteArray) : Ext w (Lib.bytesWorld w e s) :=
  below_freeze ((Below.drew (Below.refl _ w)).alloc (Nat.le_refl _) _) (p := ⟨w.heap.size, _, none⟩) (Nat.le_refl _) 1
set_option maxHeartbeats 2000000 in
theorem implIsName_c (s : ByteArray) (w : World) (hz : s.size ≤ 9223372036854775807) :
    Calls Tryz.prog 68 #[.string s] w fun e w' => e = .returned (.bool (isNm s)) ∧ Ext w w' := by
  have hz' : (s.size : Int) ≤ 9223372036854775807 := by omega
  by_cases z1 : s.size < 1
  · have y1 : (s.size : Int) < 1 := by omega
    go_enter Tryz.func68, Tryz.ntmps68
    go_wp2_with fail
    go_ret
    exact ⟨ret_bool (isNm_0 z1).symm, (by repeat (first | with_reducible exact Ext.refl _ | with_reducible assumption | with_reducible refine Ext.alloc ?_ _ | with_reducible refine Ext.drew ?_ | (with_reducible refine Ext.setAt ?_ _ _ _ ?_; rotate_left; omega) | with_reducible refine Ext.trans ?_ (by assumption) | with_reducible exact Past.bel _ | with_reducible refine Ext.trans ?_ (Past.bel _)))⟩
  · have y1 : ¬ (s.size : Int) < 1 := by omega
    by_cases z2 : 12 < s.size
    · have y2 : (12 : Int) < s.size := by omega
      go_enter Tryz.func68, Tryz.ntmps68
      go_wp2_with fail
      go_ret
      exact ⟨ret_bool (isNm_12 z2).symm, (by repeat (first | with_reducible exact Ext.refl _ | with_reducible assumption | with_reducible refine Ext.alloc ?_ _ | with_reducible refine Ext.drew ?_ | (with_reducible refine Ext.setAt ?_ _ _ _ ?_; rotate_left; omega) | with_reducible refine Ext.trans ?_ (by assumption) | with_reducible exact Past.bel _ | with_reducible refine Ext.trans ?_ (Past.bel _)))⟩
    · have y2 : ¬ (12 : Int) < s.size := by omega
      have hcv := Lib.run_convert_string_bytes (P := Tryz.prog) w 9 22 5 s (u := .string) Tryz.underlying9 Tryz.underlying22 Tryz.underlying5
      have hbw : Ext w (Lib.bytesWorld w 5 s) := ext_bytes w 5 s
      have hcl : ∀ j, j < s.size → (Lib.bytesWorld w 5 s).cell? ⟨w.heap.size, j, none⟩ = some (.int .u8 (btN s j : Nat)) := fun j hj => Lib.bytesWorld_cell w 5 s j hj
      obtain ⟨W1, hW⟩ : ∃ W1, W1 = Lib.bytesWorld w 5 s := ⟨_, rfl⟩
      rw [← hW] at hcv hbw hcl
      have HC := Lib.hid hcl
      clear hcl hW
      go_enter Tryz.func68, Tryz.ntmps68
      go_wp2_with fail
      clear hcv
      go_loop [18] (fun i => ∃ j : Nat, j ≤ s.size ∧ i = .int .i64 j ∧ nmTo s j = true) (fun i => s.size - (intOf i).toNat)
      case atStart => exact ⟨0, by omega, rfl, rfl⟩
      case round =>
        obtain ⟨j, hj, rfl, hr⟩ := hrel
        have HR := Lib.hid hr
        clear hr
        by_cases hlt : j < s.size
        · have q1 := HC.out j hlt
          obtain ⟨C, hC⟩ : ∃ C, C = btN s j := ⟨_, rfl⟩
          rw [← hC] at q1
          have HB := Lib.hid hC
          clear hC
          go_wp2_with fail
          all_goals first
            | (go_ret; exact ⟨ret_bool (isNm_ff hlt (by rw [← HB.out]; clear HC q1 hbw HB HR; grind [chN])).symm, (by repeat (first | with_reducible exact Ext.refl _ | with_reducible assumption | with_reducible refine Ext.alloc ?_ _ | with_reducible refine Ext.drew ?_ | (with_reducible refine Ext.setAt ?_ _ _ _ ?_; rotate_left; omega) | with_reducible refine Ext.trans ?_ (by assumption) | with_reducible exact Past.bel _ | with_reducible refine Ext.trans ?_ (Past.bel _)))⟩)
            | (refine ⟨⟨j + 1, by omega, by go_num, ?_⟩, by simp [intOf]; omega⟩; have h2 : chN j C = true := (by clear HC q1 hbw HB HR; grind [chN]); rw [HB.out] at h2; simp only [nmTo, HR.out, h2]; rfl)
        · obtain rfl : j = s.size := by omega
          go_wp2_with fail
          go_ret
          exact ⟨ret_bool (isNm_tt (by omega) (by omega) HR.out).symm, (by repeat (first | with_reducible exact Ext.refl _ | with_reducible assumption | with_reducible refine Ext.alloc ?_ _ | with_reducible refine Ext.drew ?_ | (with_reducible refine Ext.setAt ?_ _ _ _ ?_; rotate_left; omega) | with_reducible refine Ext.trans ?_ (by assumption) | with_reducible exact Past.bel _ | with_reducible refine Ext.trans ?_ (Past.bel _)))⟩
end Go.Proofs.YtpohhnihgegmfaaGreatDoor

namespace Go.Proofs.YtpohhnihgegmfaaGreatDoor
open Go.RowKit
set_option linter.unusedVariables false
set_option linter.unusedSimpArgs false

theorem l01Small_c (c : Nat) (w : World) : Calls Tryz.prog 101 #[.int .u8 (c : Nat)] w fun e w' => e = .returned (.bool (chS c)) ∧ w = w' := by
  go_enter Tryz.func101, Tryz.ntmps101
  go_wp2
  all_goals (go_ret; refine ⟨ret_bool ?_, rfl⟩; rw [Bool.eq_iff_iff]; simp [chS]; try omega)
theorem l01Digit_c (c : Nat) (w : World) : Calls Tryz.prog 102 #[.int .u8 (c : Nat)] w fun e w' => e = .returned (.bool (chD c)) ∧ w = w' := by
  go_enter Tryz.func102, Tryz.ntmps102
  go_wp2
  all_goals (go_ret; refine ⟨ret_bool ?_, rfl⟩; rw [Bool.eq_iff_iff]; simp [chD]; try omega)
set_option maxHeartbeats 2000000 in
theorem specIsName_c (s : ByteArray) (w : World) (hz : s.size ≤ 9223372036854775807) :
    Calls Tryz.prog 77 #[.string s] w fun e w' => e = .returned (.bool (isNm s)) ∧ w = w' := by
  have hz' : (s.size : Int) ≤ 9223372036854775807 := by omega
  by_cases z1 : s.size < 1
  · obtain rfl : s = ⟨#[]⟩ := by
      obtain ⟨⟨l⟩⟩ := s
      cases l with
      | nil => rfl
      | cons x l => simp [ByteArray.size] at z1
    go_enter Tryz.func77, Tryz.ntmps77
    go_wp2_with fail
    go_ret
    exact ⟨ret_bool (isNm_0 z1).symm, rfl⟩
  · have y0 : ¬ s.toList = [] := fun e => by have e2 := (toList_nil_iff_emptyBytes s).1 e; subst e2; exact z1 (by decide)
    have y1 : s.toList.isEmpty = false := by simpa using y0
    by_cases z2 : 12 < s.size
    · have y2 : (12 : Int) < s.size := by omega
      go_enter Tryz.func77, Tryz.ntmps77
      go_wp2_with fail
      go_ret
      exact ⟨ret_bool (isNm_12 z2).symm, rfl⟩
    · have y2 : ¬ (12 : Int) < s.size := by omega
      have y3 : (0 : Int) < s.size := by omega
      have y4 : 0 < s.size := by omega
      cases hs : chS s[0].toNat
      · have HS := Lib.hid hs
        clear hs
        go_enter Tryz.func77, Tryz.ntmps77
        go_wp2_with (go_at_call 101; ((with_reducible refine (l01Small_c _ _).mono ?_); rintro e w' ⟨rfl, rfl⟩; rw [HS.out]))
        go_ret
        exact ⟨ret_bool (isNm_ff y4 (chN_0 (by rw [← btN_at y4]; exact HS.out))).symm, rfl⟩
      · have HS := Lib.hid hs
        clear hs
        go_enter Tryz.func77, Tryz.ntmps77
        go_wp2_with (go_at_call 101; ((with_reducible refine (l01Small_c _ _).mono ?_); rintro e w' ⟨rfl, rfl⟩; rw [HS.out]))
        go_loop [3] (fun i => ∃ j : Nat, j ≤ s.size ∧ i = .int .i64 j ∧ nmTo s j = true) (fun i => s.size - (intOf i).toNat)
        case atStart => exact ⟨0, by omega, rfl, rfl⟩
        case round =>
          obtain ⟨j, hj, rfl, hr⟩ := hrel
          have HR := Lib.hid hr
          clear hr
          by_cases hlt : j < s.size
          · have HB := Lib.hid (btN_at hlt)
            by_cases h0 : j = 0
            · subst h0
              go_wp2_with (go_at_call 101; ((with_reducible refine (l01Small_c _ _).mono ?_); rintro e w' ⟨rfl, rfl⟩; rw [HS.out]))
              exact ⟨⟨1, by omega, rfl, by simp only [nmTo, HR.out]; rw [← HB.out, chN_S HS.out]; rfl⟩, by simp [intOf]; omega⟩
            · have N0 := Lib.hid h0
              clear h0
              cases a1 : chS s[j].toNat
              · cases a2 : chD s[j].toNat
                · by_cases a3 : s[j].toNat = 45
                  · have b3 : ((s[j].toNat : Int) != 45) = false := by simp; omega
                    have A1 := Lib.hid a1; have A2 := Lib.hid a2; have A3 := Lib.hid a3
                    clear a1 a2 a3
                    go_wp2_with (first | (go_at_call 101; ((with_reducible refine (l01Small_c _ _).mono ?_); rintro e w' ⟨rfl, rfl⟩; rw [A1.out])) | (go_at_call 102; ((with_reducible refine (l01Digit_c _ _).mono ?_); rintro e w' ⟨rfl, rfl⟩; rw [A2.out])))
                    exact ⟨⟨j + 1, by omega, by go_num, by simp only [nmTo, HR.out]; rw [← HB.out, chN_m N0.out A3.out]; rfl⟩, by simp [intOf]; omega⟩
                  · have b3 : ((s[j].toNat : Int) != 45) = true := by simp; omega
                    have A1 := Lib.hid a1; have A2 := Lib.hid a2; have A3 := Lib.hid a3
                    clear a1 a2 a3
                    go_wp2_with (first | (go_at_call 101; ((with_reducible refine (l01Small_c _ _).mono ?_); rintro e w' ⟨rfl, rfl⟩; rw [A1.out])) | (go_at_call 102; ((with_reducible refine (l01Digit_c _ _).mono ?_); rintro e w' ⟨rfl, rfl⟩; rw [A2.out])))
                    go_ret
                    exact ⟨ret_bool (isNm_ff hlt (by rw [← HB.out]; exact chN_f A1.out A2.out A3.out)).symm, rfl⟩
                · have A1 := Lib.hid a1; have A2 := Lib.hid a2
                  clear a1 a2
                  go_wp2_with (first | (go_at_call 101; ((with_reducible refine (l01Small_c _ _).mono ?_); rintro e w' ⟨rfl, rfl⟩; rw [A1.out])) | (go_at_call 102; ((with_reducible refine (l01Digit_c _ _).mono ?_); rintro e w' ⟨rfl, rfl⟩; rw [A2.out])))
                  exact ⟨⟨j + 1, by omega, by go_num, by simp only [nmTo, HR.out]; rw [← HB.out, chN_D N0.out A2.out]; rfl⟩, by simp [intOf]; omega⟩
              · have A1 := Lib.hid a1
                clear a1
                go_wp2_with (first | (go_at_call 101; ((with_reducible refine (l01Small_c _ _).mono ?_); rintro e w' ⟨rfl, rfl⟩; rw [A1.out])))
                exact ⟨⟨j + 1, by omega, by go_num, by simp only [nmTo, HR.out]; rw [← HB.out, chN_S A1.out]; rfl⟩, by simp [intOf]; omega⟩
          · obtain rfl : j = s.size := by omega
            go_wp2_with fail
            go_ret
            exact ⟨ret_bool (isNm_tt (by omega) (by omega) HR.out).symm, rfl⟩
end Go.Proofs.YtpohhnihgegmfaaGreatDoor

namespace Go.Proofs.YtpohhnihgegmfaaGreatDoor
open Go.RowKit
set_option linter.unusedVariables false
set_option linter.unusedSimpArgs false

theorem bs_ne {x y : ByteArray} (h : ¬ x = y) : (x.toList == y.toList) = false := by
  simp only [ByteArray.toList_eq, beq_eq_false_iff_ne, ne_eq]
  intro e
  obtain ⟨⟨a⟩⟩ := x; obtain ⟨⟨b⟩⟩ := y
  simp only at e; subst e; exact h rfl
theorem bs_eq {x y : ByteArray} (h : x = y) : (x.toList == y.toList) = true := by subst h; simp
set_option maxHeartbeats 2000000 in
theorem l15Months_c (a : Option Addr) (n c : Nat) (nm : Nat → ByteArray) (dy lp : Nat → Int) (w : World) (hn : n ≤ 1048576) (hs : S3 w a n nm dy lp) (hz : ∀ i, i < n → (nm i).size ≤ 9223372036854775807) :
    Calls Tryz.prog 78 #[.slice a n c] w fun e w' => e = .returned (.bool (monB nm dy lp n)) ∧ Ext w w' := by
  have HS := Lib.hid hs
  have HZ := Lib.hid hz
  clear hs hz
  go_enter Tryz.func78, Tryz.ntmps78
  go_wp2_with fail
  go_loopw [3] (fun i wr => ∃ j : Nat, j ≤ n ∧ i = .int .i64 j ∧ monTo nm dy lp j = true ∧ Ext w wr) (fun i _ => n - (intOf i).toNat)
  case atStart => exact ⟨0, by omega, rfl, rfl, (by repeat (first | with_reducible exact Ext.refl _ | with_reducible assumption | with_reducible refine Ext.alloc ?_ _ | with_reducible refine Ext.drew ?_ | (with_reducible refine Ext.setAt ?_ _ _ _ ?_; rotate_left; omega) | with_reducible refine Ext.trans ?_ (by assumption) | with_reducible exact Past.bel _ | with_reducible refine Ext.trans ?_ (Past.bel _)))⟩
  case round =>
    obtain ⟨j, hj, rfl, hr, hbl⟩ := hrel
    have HR := Lib.hid hr
    clear hr
    by_cases hlt : j < n
    · have hsr := S3.ext HS.out hbl
      have HSR := Lib.hid hsr
      obtain ⟨b1, o1, rfl, hb1, q1, q2, q3⟩ := hsr.at hlt
      clear hsr
      have zj := HZ.out j hlt
      cases h1 : isNm (nm j)
      · go_wp2_with (go_at_call 77; ((with_reducible refine (specIsName_c _ _ zj).mono ?_); rintro e w' ⟨rfl, rfl⟩))
        go_ret
        exact ⟨ret_bool (by unfold monB; rw [monTo_ff hlt (monA_1 h1)]; rfl), (by repeat (first | with_reducible exact Ext.refl _ | with_reducible assumption | with_reducible refine Ext.alloc ?_ _ | with_reducible refine Ext.drew ?_ | (with_reducible refine Ext.setAt ?_ _ _ _ ?_; rotate_left; omega) | with_reducible refine Ext.trans ?_ (by assumption) | with_reducible exact Past.bel _ | with_reducible refine Ext.trans ?_ (Past.bel _)))⟩
      · cases h2 : inB (dy j) 1 60
        · go_wp2_with (first | (go_at_call 77; ((with_reducible refine (specIsName_c _ _ zj).mono ?_); rintro e w' ⟨rfl, rfl⟩)) | (go_at_call 79; ((with_reducible refine (l00In_c _ _ _ _).mono ?_); rintro e w' ⟨rfl, rfl⟩)))
          go_ret
          exact ⟨ret_bool (by unfold monB; rw [monTo_ff hlt (monA_2 h2)]; rfl), (by repeat (first | with_reducible exact Ext.refl _ | with_reducible assumption | with_reducible refine Ext.alloc ?_ _ | with_reducible refine Ext.drew ?_ | (with_reducible refine Ext.setAt ?_ _ _ _ ?_; rotate_left; omega) | with_reducible refine Ext.trans ?_ (by assumption) | with_reducible exact Past.bel _ | with_reducible refine Ext.trans ?_ (Past.bel _)))⟩
        · cases h3 : inB (lp j) 1 60
          · go_wp2_with (first | (go_at_call 77; ((with_reducible refine (specIsName_c _ _ zj).mono ?_); rintro e w' ⟨rfl, rfl⟩)) | (go_at_call 79; ((with_reducible refine (l00In_c _ _ _ _).mono ?_); rintro e w' ⟨rfl, rfl⟩)))
            go_ret
            exact ⟨ret_bool (by unfold monB; rw [monTo_ff hlt (monA_3 h3)]; rfl), (by repeat (first | with_reducible exact Ext.refl _ | with_reducible assumption | with_reducible refine Ext.alloc ?_ _ | with_reducible refine Ext.drew ?_ | (with_reducible refine Ext.setAt ?_ _ _ _ ?_; rotate_left; omega) | with_reducible refine Ext.trans ?_ (by assumption) | with_reducible exact Past.bel _ | with_reducible refine Ext.trans ?_ (Past.bel _)))⟩
          · go_wp2_with (first | (go_at_call 77; ((with_reducible refine (specIsName_c _ _ zj).mono ?_); rintro e w' ⟨rfl, rfl⟩)) | (go_at_call 79; ((with_reducible refine (l00In_c _ _ _ _).mono ?_); rintro e w' ⟨rfl, rfl⟩)))
            have H1 := Lib.hid h1; have H2 := Lib.hid h2; have H3 := Lib.hid h3
            clear h1 h2 h3 q1 q2 q3
            go_loopw [4] (fun k ws => ∃ i : Nat, i ≤ j ∧ k = .int .i64 i ∧ frTo nm j i = true ∧ Ext wr ws) (fun k _ => j - (intOf k).toNat)
            case atStart => exact ⟨0, by omega, rfl, rfl, (by repeat (first | with_reducible exact Ext.refl _ | with_reducible assumption | with_reducible refine Ext.alloc ?_ _ | with_reducible refine Ext.drew ?_ | (with_reducible refine Ext.setAt ?_ _ _ _ ?_; rotate_left; omega) | with_reducible refine Ext.trans ?_ (by assumption) | with_reducible exact Past.bel _ | with_reducible refine Ext.trans ?_ (Past.bel _)))⟩
            case round =>
              obtain ⟨i, hi, rfl, hf, hbl2⟩ := hrel
              have HF := Lib.hid hf
              clear hf
              by_cases hij : i < j
              · obtain ⟨b1, o1, e1, hb1, q1, _, _⟩ := (S3.ext HSR.out hbl2).at (show i < n by omega)
                obtain ⟨b2, o2, e2, hb2, q2, _, _⟩ := (S3.ext HSR.out hbl2).at hlt
                cases e1
                cases e2
                by_cases e : nm i = nm j
                · have d1 : decide (nm i = nm j) = true := by simpa using e
                  have d2 := bs_eq e
                  have E := Lib.hid e
                  clear e
                  go_wp2_with fail
                  refine wp_region_past (by kernel_rfl) (by kernel_rfl) ?_
                  repeat (go_big_quiet_step (fail))
                  refine wpQuiet_nil ?_
                  rintro _ ⟨wx, rfl⟩
                  go_wp2_with fail
                  go_ret
                  exact ⟨ret_bool (by unfold monB; rw [monTo_ff hlt (monA_4 (frTo_ff hij E.out))]; rfl), (by repeat (first | with_reducible exact Ext.refl _ | with_reducible assumption | with_reducible refine Ext.alloc ?_ _ | with_reducible refine Ext.drew ?_ | (with_reducible refine Ext.setAt ?_ _ _ _ ?_; rotate_left; omega) | with_reducible refine Ext.trans ?_ (by assumption) | with_reducible exact Past.bel _ | with_reducible refine Ext.trans ?_ (Past.bel _)))⟩
                · have d1 : decide (nm i = nm j) = false := by simpa using e
                  have d2 := bs_ne e
                  have E := Lib.hid e
                  clear e
                  go_wp2_with fail
                  refine wp_region_past (by kernel_rfl) (by kernel_rfl) ?_
                  repeat (go_big_quiet_step (fail))
                  refine wpQuiet_nil ?_
                  rintro _ ⟨wx, rfl⟩
                  go_wp2_with fail
                  exact ⟨⟨i + 1, by omega, by go_num, by simp only [frTo, HF.out, d1]; rfl, (by repeat (first | with_reducible exact Ext.refl _ | with_reducible assumption | with_reducible refine Ext.alloc ?_ _ | with_reducible refine Ext.drew ?_ | (with_reducible refine Ext.setAt ?_ _ _ _ ?_; rotate_left; omega) | with_reducible refine Ext.trans ?_ (by assumption) | with_reducible exact Past.bel _ | with_reducible refine Ext.trans ?_ (Past.bel _)))⟩, by simp [intOf]; omega⟩
              · obtain rfl : i = j := by omega
                go_wp2_with fail
                exact ⟨⟨i + 1, by omega, by go_num, by simp only [monTo, HR.out, monA_t H1.out H2.out H3.out HF.out]; rfl, (by repeat (first | with_reducible exact Ext.refl _ | with_reducible assumption | with_reducible refine Ext.alloc ?_ _ | with_reducible refine Ext.drew ?_ | (with_reducible refine Ext.setAt ?_ _ _ _ ?_; rotate_left; omega) | with_reducible refine Ext.trans ?_ (by assumption) | with_reducible exact Past.bel _ | with_reducible refine Ext.trans ?_ (Past.bel _)))⟩, by simp [intOf]; omega⟩
    · obtain rfl : j = n := by omega
      go_wp2_with (go_at_call 79; ((with_reducible refine (l00In_c _ _ _ _).mono ?_); rintro e w' ⟨rfl, rfl⟩))
      go_ret
      exact ⟨ret_bool (by unfold monB; rw [HR.out]; rfl), (by repeat (first | with_reducible exact Ext.refl _ | with_reducible assumption | with_reducible refine Ext.alloc ?_ _ | with_reducible refine Ext.drew ?_ | (with_reducible refine Ext.setAt ?_ _ _ _ ?_; rotate_left; omega) | with_reducible refine Ext.trans ?_ (by assumption) | with_reducible exact Past.bel _ | with_reducible refine Ext.trans ?_ (Past.bel _)))⟩
end Go.Proofs.YtpohhnihgegmfaaGreatDoor

namespace Go.Proofs.YtpohhnihgegmfaaGreatDoor
open Go.RowKit
set_option linter.unusedVariables false
set_option linter.unusedSimpArgs false

set_option maxHeartbeats 2000000 in
theorem l15Ok_c (g : Nat) (s : ByteArray) (ma ra : Option Addr) (mc rc : Nat) (wk : Int) (nm : Nat → ByteArray) (c : CalN) (w : World) (hm : c.n ≤ 1048576) (hr : c.nr ≤ 1048576) (hs : s.size ≤ 9223372036854775807) (hz : ∀ i, i < c.n → (nm i).size ≤ 9223372036854775807) (h : CalP w g s ma ra mc rc wk nm c) :
    Calls Tryz.prog 44 #[.pointer (some ⟨g, 0, none⟩)] w fun e w' => e = .returned (.bool (calB s nm c wk)) ∧ Ext w w' := by
  have H := Lib.hid h
  have HZ := Lib.hid hz
  have g0 := h.lt
  have p0 := h.c0
  have p1 := h.c1
  have p2 := h.c2
  have p3 := h.c3
  have hy : ∀ W, Ext w W → Calls Tryz.prog 76 #[.slice ra c.nr rc] W fun e w' => ∃ x, e = .returned (.tuple #[.int .i64 x, .bool (rulB c.ev c.rs c.nr)]) ∧ Ext W w' := fun W hx =>
    (l15Years_c _ _ _ _ _ _ W hr (h.ext hx).mem.ru).mono fun e w' ⟨x, b, he, hb, hx⟩ => ⟨x, by rw [he, hb.ok], hx⟩
  have HY := Lib.hid hy
  clear h hz hy
  cases h1 : rulB c.ev c.rs c.nr
  · have H1 := Lib.hid h1
    rw [h1] at HY
    clear h1
    go_enter Tryz.func44, Tryz.ntmps44
    go_wp2_with fail
    refine (HY.out _ (by repeat (first | with_reducible exact Ext.refl _ | with_reducible assumption | with_reducible refine Ext.alloc ?_ _ | with_reducible refine Ext.drew ?_ | (with_reducible refine Ext.setAt ?_ _ _ _ ?_; rotate_left; omega) | with_reducible refine Ext.trans ?_ (by assumption) | with_reducible exact Past.bel _ | with_reducible refine Ext.trans ?_ (Past.bel _)))).mono ?_
    rintro e w' ⟨x, rfl, hx1⟩
    (first | (obtain ⟨wx1, rfl⟩ := Past.again hx1) | (obtain ⟨wx1, rfl⟩ := Past.of hx1))
    go_wp2_with fail
    go_ret
    exact ⟨ret_bool (by unfold calB; rw [H1.out]; rfl), (by repeat (first | with_reducible exact Ext.refl _ | with_reducible assumption | with_reducible refine Ext.alloc ?_ _ | with_reducible refine Ext.drew ?_ | (with_reducible refine Ext.setAt ?_ _ _ _ ?_; rotate_left; omega) | with_reducible refine Ext.trans ?_ (by assumption) | with_reducible exact Past.bel _ | with_reducible refine Ext.trans ?_ (Past.bel _)))⟩
  · have H1 := Lib.hid h1
    rw [h1] at HY
    clear h1
    go_enter Tryz.func44, Tryz.ntmps44
    go_wp2_with fail
    refine (HY.out _ (by repeat (first | with_reducible exact Ext.refl _ | with_reducible assumption | with_reducible refine Ext.alloc ?_ _ | with_reducible refine Ext.drew ?_ | (with_reducible refine Ext.setAt ?_ _ _ _ ?_; rotate_left; omega) | with_reducible refine Ext.trans ?_ (by assumption) | with_reducible exact Past.bel _ | with_reducible refine Ext.trans ?_ (Past.bel _)))).mono ?_
    rintro e w' ⟨x, rfl, hx1⟩
    (first | (obtain ⟨wx1, rfl⟩ := Past.again hx1) | (obtain ⟨wx1, rfl⟩ := Past.of hx1))
    cases h2 : isNm s
    · go_wp2_with (go_at_call 77; ((with_reducible refine (specIsName_c _ _ hs).mono ?_); rintro e w' ⟨rfl, rfl⟩))
      go_ret
      exact ⟨ret_bool (by unfold calB; rw [H1.out, h2]; rfl), (by repeat (first | with_reducible exact Ext.refl _ | with_reducible assumption | with_reducible refine Ext.alloc ?_ _ | with_reducible refine Ext.drew ?_ | (with_reducible refine Ext.setAt ?_ _ _ _ ?_; rotate_left; omega) | with_reducible refine Ext.trans ?_ (by assumption) | with_reducible exact Past.bel _ | with_reducible refine Ext.trans ?_ (Past.bel _)))⟩
    · cases h3 : monB nm c.dy c.lp c.n
      · go_wp2_with (first | (go_at_call 77; ((with_reducible refine (specIsName_c _ _ hs).mono ?_); rintro e w' ⟨rfl, rfl⟩)) | (go_at_call 78; ((with_reducible refine (l15Months_c _ _ _ nm c.dy c.lp _ hm (H.out.ext (by repeat (first | with_reducible exact Ext.refl _ | with_reducible assumption | with_reducible refine Ext.alloc ?_ _ | with_reducible refine Ext.drew ?_ | (with_reducible refine Ext.setAt ?_ _ _ _ ?_; rotate_left; omega) | with_reducible refine Ext.trans ?_ (by assumption) | with_reducible exact Past.bel _ | with_reducible refine Ext.trans ?_ (Past.bel _)))).mem.mo HZ.out).mono ?_); rintro e w' ⟨rfl, hx⟩; (first | (obtain ⟨wx, rfl⟩ := Past.again hx) | (obtain ⟨wx, rfl⟩ := Past.ofd hx) | (obtain ⟨wx, rfl⟩ := Past.of hx)))))
        go_ret
        exact ⟨ret_bool (by unfold calB; rw [H1.out, h2, h3]; rfl), (by repeat (first | with_reducible exact Ext.refl _ | with_reducible assumption | with_reducible refine Ext.alloc ?_ _ | with_reducible refine Ext.drew ?_ | (with_reducible refine Ext.setAt ?_ _ _ _ ?_; rotate_left; omega) | with_reducible refine Ext.trans ?_ (by assumption) | with_reducible exact Past.bel _ | with_reducible refine Ext.trans ?_ (Past.bel _)))⟩
      · go_wp2_with (first | (go_at_call 77; ((with_reducible refine (specIsName_c _ _ hs).mono ?_); rintro e w' ⟨rfl, rfl⟩)) | (go_at_call 78; ((with_reducible refine (l15Months_c _ _ _ nm c.dy c.lp _ hm (H.out.ext (by repeat (first | with_reducible exact Ext.refl _ | with_reducible assumption | with_reducible refine Ext.alloc ?_ _ | with_reducible refine Ext.drew ?_ | (with_reducible refine Ext.setAt ?_ _ _ _ ?_; rotate_left; omega) | with_reducible refine Ext.trans ?_ (by assumption) | with_reducible exact Past.bel _ | with_reducible refine Ext.trans ?_ (Past.bel _)))).mem.mo HZ.out).mono ?_); rintro e w' ⟨rfl, hx⟩; (first | (obtain ⟨wx, rfl⟩ := Past.again hx) | (obtain ⟨wx, rfl⟩ := Past.ofd hx) | (obtain ⟨wx, rfl⟩ := Past.of hx)))) | (go_at_call 79; ((with_reducible refine (l00In_c _ _ _ _).mono ?_); rintro e w' ⟨rfl, rfl⟩)))
        go_ret
        exact ⟨ret_bool (by unfold calB; rw [H1.out, h2, h3]; rfl), (by repeat (first | with_reducible exact Ext.refl _ | with_reducible assumption | with_reducible refine Ext.alloc ?_ _ | with_reducible refine Ext.drew ?_ | (with_reducible refine Ext.setAt ?_ _ _ _ ?_; rotate_left; omega) | with_reducible refine Ext.trans ?_ (by assumption) | with_reducible exact Past.bel _ | with_reducible refine Ext.trans ?_ (Past.bel _)))⟩
/-- a calendar laid into a new block -/
theorem CalP.new {w : World} (T : TypeId) (s : ByteArray) (ma ra : Option Addr) (mc rc : Nat) (wk : Int) {nm : Nat → ByteArray} {c : CalN} (h : CalM w ma ra nm c) :
    CalP (w.alloc (.cells #[.string s, .slice ma c.n mc, .slice ra c.nr rc, .int .i64 wk] T)) w.heap.size s ma ra mc rc wk nm c :=
  ⟨by simp, by simp [go_sem], by simp [go_sem], by simp [go_sem], by simp [go_sem], h.ext ((Ext.refl w).alloc _)⟩
end Go.Proofs.YtpohhnihgegmfaaGreatDoor

namespace Go.Proofs.YtpohhnihgegmfaaGreatDoor
open Go.RowKit
set_option linter.unusedVariables false
set_option linter.unusedSimpArgs false

theorem bs_dec (x y : ByteArray) : (x.toList == y.toList) = decide (x = y) := by
  by_cases e : x = y
  · rw [bs_eq e]; simp [e]
  · rw [bs_ne e]; simp [e]
theorem validPred_c (g : Nat) (x y : ByteArray) (a b : Int) (w : World) (hg : g < w.heap.size) (hc : w.cell? ⟨g, 0, none⟩ = some (.string y)) :
    Calls Tryz.prog 70 #[.agg #[.string x, .int .i64 a, .int .i64 b], .pointer (some ⟨g, 0, none⟩)] w fun e w' => e = .returned (.bool (decide (x = y))) ∧ Ext w w' := by
  go_enter Tryz.func70, Tryz.ntmps70
  go_wp2_with fail
  go_ret
  exact ⟨ret_bool (bs_dec x y), (by repeat (first | with_reducible exact Ext.refl _ | with_reducible assumption | with_reducible refine Ext.alloc ?_ _ | with_reducible refine Ext.drew ?_ | (with_reducible refine Ext.setAt ?_ _ _ _ ?_; rotate_left; omega) | with_reducible refine Ext.trans ?_ (by assumption) | with_reducible exact Past.bel _ | with_reducible refine Ext.trans ?_ (Past.bel _)))⟩
set_option maxHeartbeats 1000000 in
theorem idxFunc_c (g : Nat) (a : Option Addr) (n c : Nat) (nm : Nat → ByteArray) (dy lp : Nat → Int) (k : Nat) (w : World) (hn : n ≤ 1048576) (hs : S3 w a n nm dy lp) (hg : g < w.heap.size) (hc : w.cell? ⟨g, 0, none⟩ = some (.string (nm k))) :
    Calls Tryz.prog 93 #[.slice a n c, .func (.func 70) #[] #[.pointer (some ⟨g, 0, none⟩)]] w fun e w' => ∃ r : Int, e = .returned (.int .i64 r) ∧ decide (r ≥ 0) = !frTo nm k n ∧ Ext w w' := by
  have HS := Lib.hid hs
  have HC := Lib.hid hc
  clear hs hc
  go_enter Tryz.func93, Tryz.ntmps93
  go_wp2_with fail
  go_loopw [8] (fun i wr => ∃ j : Nat, j ≤ n ∧ i = .int .i64 j ∧ frTo nm k j = true ∧ Ext w wr) (fun i _ => n - (intOf i).toNat)
  case atStart => exact ⟨0, by omega, rfl, rfl, (by repeat (first | with_reducible exact Ext.refl _ | with_reducible assumption | with_reducible refine Ext.alloc ?_ _ | with_reducible refine Ext.drew ?_ | (with_reducible refine Ext.setAt ?_ _ _ _ ?_; rotate_left; omega) | with_reducible refine Ext.trans ?_ (by assumption) | with_reducible exact Past.bel _ | with_reducible refine Ext.trans ?_ (Past.bel _)))⟩
  case round =>
    obtain ⟨j, hj, rfl, hf, hbl⟩ := hrel
    have HF := Lib.hid hf
    clear hf
    by_cases hlt : j < n
    · obtain ⟨b1, o1, rfl, hb1, q1, q2, q3⟩ := (S3.ext HS.out hbl).at hlt
      have g1 := Nat.lt_of_lt_of_le hg hbl.size
      have c1 := Lib.hid ((hbl.cell hg).trans HC.out)
      cases hd : decide (nm j = nm k)
      · have HD := Lib.hid hd
        clear hd
        go_wp2_with fail
        refine (validPred_c g (nm j) (nm k) (dy j) (lp j) _ g1 c1.out).mono ?_
        rintro e w' ⟨rfl, hx1⟩
        rw [HD.out]
        (first | (obtain ⟨wx1, rfl⟩ := Past.again hx1) | (obtain ⟨wx1, rfl⟩ := Past.of hx1))
        go_wp2_with fail
        exact ⟨⟨j + 1, by omega, by go_num, by simp only [frTo, HF.out, HD.out]; rfl, (by repeat (first | with_reducible exact Ext.refl _ | with_reducible assumption | with_reducible refine Ext.alloc ?_ _ | with_reducible refine Ext.drew ?_ | (with_reducible refine Ext.setAt ?_ _ _ _ ?_; rotate_left; omega) | with_reducible refine Ext.trans ?_ (by assumption) | with_reducible exact Past.bel _ | with_reducible refine Ext.trans ?_ (Past.bel _)))⟩, by simp [intOf]; omega⟩
      · have HD := Lib.hid hd
        clear hd
        go_wp2_with fail
        refine (validPred_c g (nm j) (nm k) (dy j) (lp j) _ g1 c1.out).mono ?_
        rintro e w' ⟨rfl, hx1⟩
        rw [HD.out]
        (first | (obtain ⟨wx1, rfl⟩ := Past.again hx1) | (obtain ⟨wx1, rfl⟩ := Past.of hx1))
        go_wp2_with fail
        go_ret
        exact ⟨_, rfl, by rw [frTo_ff hlt (by simpa using HD.out)]; simp, (by repeat (first | with_reducible exact Ext.refl _ | with_reducible assumption | with_reducible refine Ext.alloc ?_ _ | with_reducible refine Ext.drew ?_ | (with_reducible refine Ext.setAt ?_ _ _ _ ?_; rotate_left; omega) | with_reducible refine Ext.trans ?_ (by assumption) | with_reducible exact Past.bel _ | with_reducible refine Ext.trans ?_ (Past.bel _)))⟩
    · obtain rfl : j = n := by omega
      go_wp2_with fail
      go_ret
      exact ⟨_, rfl, by rw [HF.out]; decide, (by repeat (first | with_reducible exact Ext.refl _ | with_reducible assumption | with_reducible refine Ext.alloc ?_ _ | with_reducible refine Ext.drew ?_ | (with_reducible refine Ext.setAt ?_ _ _ _ ?_; rotate_left; omega) | with_reducible refine Ext.trans ?_ (by assumption) | with_reducible exact Past.bel _ | with_reducible refine Ext.trans ?_ (Past.bel _)))⟩
theorem contFunc_c (g : Nat) (a : Option Addr) (n c : Nat) (nm : Nat → ByteArray) (dy lp : Nat → Int) (k : Nat) (w : World) (hn : n ≤ 1048576) (hs : S3 w a n nm dy lp) (hg : g < w.heap.size) (hc : w.cell? ⟨g, 0, none⟩ = some (.string (nm k))) :
    Calls Tryz.prog 69 #[.slice a n c, .func (.func 70) #[] #[.pointer (some ⟨g, 0, none⟩)]] w fun e w' => e = .returned (.bool (!frTo nm k n)) ∧ Ext w w' := by
  have HC := Lib.hid (idxFunc_c g a n c nm dy lp k w hn hs hg hc)
  clear hs hc
  go_enter Tryz.func69, Tryz.ntmps69
  go_wp2_with fail
  refine HC.out.mono ?_
  rintro e w' ⟨r, rfl, hr, hx1⟩
  (first | (obtain ⟨wx1, rfl⟩ := Past.again hx1) | (obtain ⟨wx1, rfl⟩ := Past.of hx1))
  have HR := Lib.hid hr
  clear hr
  go_wp2_with fail
  go_ret
  refine ⟨ret_bool ?_, (by repeat (first | with_reducible exact Ext.refl _ | with_reducible assumption | with_reducible refine Ext.alloc ?_ _ | with_reducible refine Ext.drew ?_ | (with_reducible refine Ext.setAt ?_ _ _ _ ?_; rotate_left; omega) | with_reducible refine Ext.trans ?_ (by assumption) | with_reducible exact Past.bel _ | with_reducible refine Ext.trans ?_ (Past.bel _)))⟩
  rw [← HR.out]
  try rfl
end Go.Proofs.YtpohhnihgegmfaaGreatDoor

namespace Go.Proofs.YtpohhnihgegmfaaGreatDoor
open Go.RowKit
set_option linter.unusedVariables false
set_option linter.unusedSimpArgs false

theorem S3.take {w : World} {a : Option Addr} {n k : Nat} {nm : Nat → ByteArray} {dy lp : Nat → Int} (s : S3 w a n nm dy lp) (hk : k ≤ n) : S3 w a k nm dy lp := fun h0 => by
  obtain ⟨b, o, ha, hb, hc⟩ := s (by omega)
  exact ⟨b, o, ha, hb, fun i hi => hc i (by omega)⟩
set_option maxHeartbeats 4000000 in
theorem validCalendar_c (s : ByteArray) (ma ra : Option Addr) (mc rc : Nat) (wk : Int) (nm : Nat → ByteArray) (c : CalN) (w : World) (hm : c.n ≤ 1048576) (hr : c.nr ≤ 1048576) (hmc : c.n ≤ mc) (hmx : mc ≤ maxLen) (hs : s.size ≤ 9223372036854775807) (hz : ∀ i, i < c.n → (nm i).size ≤ 9223372036854775807) (h : CalM w ma ra nm c) :
    Calls Tryz.prog 31 #[.agg #[.string s, .slice ma c.n mc, .slice ra c.nr rc, .int .i64 wk]] w fun e w' => e = .returned (.bool (calB s nm c wk)) ∧ Ext w w' := by
  have HP := Lib.hid (CalP.new 27 s ma ra mc rc wk h)
  have HZ := Lib.hid hz
  unfold maxLen at hmx
  clear h hz
  cases h1 : isNm s
  · go_enter Tryz.func31, Tryz.ntmps31
    go_wp2_with (first | (go_at_call 68; ((with_reducible refine (implIsName_c _ _ hs).mono ?_); rintro e w' ⟨rfl, hx⟩; (first | (obtain ⟨wx, rfl⟩ := Past.again hx) | (obtain ⟨wx, rfl⟩ := Past.ofd hx) | (obtain ⟨wx, rfl⟩ := Past.of hx)))))
    go_ret
    exact ⟨ret_bool (calB_1 h1).symm, (by repeat (first | with_reducible exact Ext.refl _ | with_reducible assumption | with_reducible refine Ext.alloc ?_ _ | with_reducible refine Ext.drew ?_ | (with_reducible refine Ext.setAt ?_ _ _ _ ?_; rotate_left; omega) | with_reducible refine Ext.trans ?_ (by assumption) | with_reducible exact Past.bel _ | with_reducible refine Ext.trans ?_ (Past.bel _)))⟩
  · cases h2 : inB (c.n : Int) 1 20
    · have h2' := inB_f.1 h2
      have H2 := Lib.hid h2
      clear h2
      by_cases x1 : (c.n : Int) < 1
      · go_enter Tryz.func31, Tryz.ntmps31
        go_wp2_with (first | (go_at_call 68; ((with_reducible refine (implIsName_c _ _ hs).mono ?_); rintro e w' ⟨rfl, hx⟩; (first | (obtain ⟨wx, rfl⟩ := Past.again hx) | (obtain ⟨wx, rfl⟩ := Past.ofd hx) | (obtain ⟨wx, rfl⟩ := Past.of hx)))))
        go_ret
        exact ⟨ret_bool (calB_2 H2.out).symm, (by repeat (first | with_reducible exact Ext.refl _ | with_reducible assumption | with_reducible refine Ext.alloc ?_ _ | with_reducible refine Ext.drew ?_ | (with_reducible refine Ext.setAt ?_ _ _ _ ?_; rotate_left; omega) | with_reducible refine Ext.trans ?_ (by assumption) | with_reducible exact Past.bel _ | with_reducible refine Ext.trans ?_ (Past.bel _)))⟩
      · have x2 : (20 : Int) < c.n := by omega
        clear h2'
        go_enter Tryz.func31, Tryz.ntmps31
        go_wp2_with (first | (go_at_call 68; ((with_reducible refine (implIsName_c _ _ hs).mono ?_); rintro e w' ⟨rfl, hx⟩; (first | (obtain ⟨wx, rfl⟩ := Past.again hx) | (obtain ⟨wx, rfl⟩ := Past.ofd hx) | (obtain ⟨wx, rfl⟩ := Past.of hx)))))
        go_ret
        exact ⟨ret_bool (calB_2 H2.out).symm, (by repeat (first | with_reducible exact Ext.refl _ | with_reducible assumption | with_reducible refine Ext.alloc ?_ _ | with_reducible refine Ext.drew ?_ | (with_reducible refine Ext.setAt ?_ _ _ _ ?_; rotate_left; omega) | with_reducible refine Ext.trans ?_ (by assumption) | with_reducible exact Past.bel _ | with_reducible refine Ext.trans ?_ (Past.bel _)))⟩
    · obtain ⟨y1, y2⟩ := inB_t.1 h2
      have H2 := Lib.hid h2
      clear h2
      have x1 : ¬ (c.n : Int) < 1 := by omega
      have x2 : ¬ (20 : Int) < c.n := by omega
      by_cases h3 : 6 < c.nr
      · have x3 : (6 : Int) < c.nr := by omega
        go_enter Tryz.func31, Tryz.ntmps31
        go_wp2_with (first | (go_at_call 68; ((with_reducible refine (implIsName_c _ _ hs).mono ?_); rintro e w' ⟨rfl, hx⟩; (first | (obtain ⟨wx, rfl⟩ := Past.again hx) | (obtain ⟨wx, rfl⟩ := Past.ofd hx) | (obtain ⟨wx, rfl⟩ := Past.of hx)))))
        go_ret
        exact ⟨ret_bool (calB_3 h3).symm, (by repeat (first | with_reducible exact Ext.refl _ | with_reducible assumption | with_reducible refine Ext.alloc ?_ _ | with_reducible refine Ext.drew ?_ | (with_reducible refine Ext.setAt ?_ _ _ _ ?_; rotate_left; omega) | with_reducible refine Ext.trans ?_ (by assumption) | with_reducible exact Past.bel _ | with_reducible refine Ext.trans ?_ (Past.bel _)))⟩
      · have x3 : ¬ (6 : Int) < c.nr := by omega
        cases h4 : inB wk 1 12
        · go_enter Tryz.func31, Tryz.ntmps31
          go_wp2_with (first | (go_at_call 68; ((with_reducible refine (implIsName_c _ _ hs).mono ?_); rintro e w' ⟨rfl, hx⟩; (first | (obtain ⟨wx, rfl⟩ := Past.again hx) | (obtain ⟨wx, rfl⟩ := Past.ofd hx) | (obtain ⟨wx, rfl⟩ := Past.of hx)))) | (go_at_call 34; ((with_reducible refine (within_c _ _ _ _).mono ?_); rintro e w' ⟨rfl, rfl⟩)))
          go_ret
          exact ⟨ret_bool (calB_4 h4).symm, (by repeat (first | with_reducible exact Ext.refl _ | with_reducible assumption | with_reducible refine Ext.alloc ?_ _ | with_reducible refine Ext.drew ?_ | (with_reducible refine Ext.setAt ?_ _ _ _ ?_; rotate_left; omega) | with_reducible refine Ext.trans ?_ (by assumption) | with_reducible exact Past.bel _ | with_reducible refine Ext.trans ?_ (Past.bel _)))⟩
        · go_enter Tryz.func31, Tryz.ntmps31
          go_wp2_with (first | (go_at_call 68; ((with_reducible refine (implIsName_c _ _ hs).mono ?_); rintro e w' ⟨rfl, hx⟩; (first | (obtain ⟨wx, rfl⟩ := Past.again hx) | (obtain ⟨wx, rfl⟩ := Past.ofd hx) | (obtain ⟨wx, rfl⟩ := Past.of hx)))) | (go_at_call 34; ((with_reducible refine (within_c _ _ _ _).mono ?_); rintro e w' ⟨rfl, rfl⟩)))
          have H1 := Lib.hid h1; have H4 := Lib.hid h4
          clear h1 h4
          go_loopw [38] (fun i wr => ∃ j : Nat, j ≤ c.n ∧ i = .int .i64 j ∧ monTo nm c.dy c.lp j = true ∧ Ext (w.alloc (.cells #[.string s, .slice ma c.n mc, .slice ra c.nr rc, .int .i64 wk] 27)) wr) (fun i _ => c.n - (intOf i).toNat)
          case atStart => exact ⟨0, by omega, rfl, rfl, (by repeat (first | with_reducible exact Ext.refl _ | with_reducible assumption | with_reducible refine Ext.alloc ?_ _ | with_reducible refine Ext.drew ?_ | (with_reducible refine Ext.setAt ?_ _ _ _ ?_; rotate_left; omega) | with_reducible refine Ext.trans ?_ (by assumption) | with_reducible exact Past.bel _ | with_reducible refine Ext.trans ?_ (Past.bel _)))⟩
          case round =>
            obtain ⟨j, hj, rfl, hmt, hbl⟩ := hrel
            have HM := Lib.hid hmt
            have hp := HP.out.ext hbl
            have HP2 := Lib.hid hp
            have g0 := hp.lt
            have p1 := hp.c1
            have p2 := hp.c2
            have hb0 : Ext w wr := Ext.trans (Ext.alloc (Ext.refl w) _) hbl
            clear hmt
            by_cases hlt : j < c.n
            · obtain ⟨b1, o1, rfl, hb1, q1, q2, q3⟩ := hp.mem.mo.at hlt
              have zj := HZ.out j hlt
              clear hp
              have x4 : (j : Int) ≤ (mc : Int) := by omega
              cases k1 : isNm (nm j)
              · go_wp2_with (first | (go_at_call 68; ((with_reducible refine (implIsName_c _ _ zj).mono ?_); rintro e w' ⟨rfl, hx⟩; (first | (obtain ⟨wx, rfl⟩ := Past.again hx) | (obtain ⟨wx, rfl⟩ := Past.ofd hx) | (obtain ⟨wx, rfl⟩ := Past.of hx)))))
                go_ret
                exact ⟨ret_bool (calB_5 hlt (monA_1 k1)).symm, (by repeat (first | with_reducible exact Ext.refl _ | with_reducible assumption | with_reducible refine Ext.alloc ?_ _ | with_reducible refine Ext.drew ?_ | (with_reducible refine Ext.setAt ?_ _ _ _ ?_; rotate_left; omega) | with_reducible refine Ext.trans ?_ (by assumption) | with_reducible exact Past.bel _ | with_reducible refine Ext.trans ?_ (Past.bel _)))⟩
              · cases k2 : inB (c.dy j) 1 60
                · go_wp2_with (first | (go_at_call 68; ((with_reducible refine (implIsName_c _ _ zj).mono ?_); rintro e w' ⟨rfl, hx⟩; (first | (obtain ⟨wx, rfl⟩ := Past.again hx) | (obtain ⟨wx, rfl⟩ := Past.ofd hx) | (obtain ⟨wx, rfl⟩ := Past.of hx)))) | (go_at_call 34; ((with_reducible refine (within_c _ _ _ _).mono ?_); rintro e w' ⟨rfl, rfl⟩)))
                  go_ret
                  exact ⟨ret_bool (calB_5 hlt (monA_2 k2)).symm, (by repeat (first | with_reducible exact Ext.refl _ | with_reducible assumption | with_reducible refine Ext.alloc ?_ _ | with_reducible refine Ext.drew ?_ | (with_reducible refine Ext.setAt ?_ _ _ _ ?_; rotate_left; omega) | with_reducible refine Ext.trans ?_ (by assumption) | with_reducible exact Past.bel _ | with_reducible refine Ext.trans ?_ (Past.bel _)))⟩
                · cases k3 : inB (c.lp j) 1 60
                  · go_wp2_with (first | (go_at_call 68; ((with_reducible refine (implIsName_c _ _ zj).mono ?_); rintro e w' ⟨rfl, hx⟩; (first | (obtain ⟨wx, rfl⟩ := Past.again hx) | (obtain ⟨wx, rfl⟩ := Past.ofd hx) | (obtain ⟨wx, rfl⟩ := Past.of hx)))) | (go_at_call 34; ((with_reducible refine (within_c _ _ _ _).mono ?_); rintro e w' ⟨rfl, rfl⟩)))
                    go_ret
                    exact ⟨ret_bool (calB_5 hlt (monA_3 k3)).symm, (by repeat (first | with_reducible exact Ext.refl _ | with_reducible assumption | with_reducible refine Ext.alloc ?_ _ | with_reducible refine Ext.drew ?_ | (with_reducible refine Ext.setAt ?_ _ _ _ ?_; rotate_left; omega) | with_reducible refine Ext.trans ?_ (by assumption) | with_reducible exact Past.bel _ | with_reducible refine Ext.trans ?_ (Past.bel _)))⟩
                  · cases k4 : frTo nm j j
                    · go_wp2_with (first | (go_at_call 68; ((with_reducible refine (implIsName_c _ _ zj).mono ?_); rintro e w' ⟨rfl, hx⟩; (first | (obtain ⟨wx, rfl⟩ := Past.again hx) | (obtain ⟨wx, rfl⟩ := Past.ofd hx) | (obtain ⟨wx, rfl⟩ := Past.of hx)))) | (go_at_call 34; ((with_reducible refine (within_c _ _ _ _).mono ?_); rintro e w' ⟨rfl, rfl⟩)))
                      refine (contFunc_c _ _ _ _ nm c.dy c.lp j _ (by omega) (S3.take (HP2.out.mem.mo.ext (by repeat (first | with_reducible exact Ext.refl _ | with_reducible assumption | with_reducible refine Ext.alloc ?_ _ | with_reducible refine Ext.drew ?_ | (with_reducible refine Ext.setAt ?_ _ _ _ ?_; rotate_left; omega) | with_reducible refine Ext.trans ?_ (by assumption) | with_reducible exact Past.bel _ | with_reducible refine Ext.trans ?_ (Past.bel _)))) (by omega)) (by simp [go_sem]) (by simp [go_sem])).mono ?_
                      rintro e w' ⟨rfl, hx1⟩
                      (first | (obtain ⟨wx1, rfl⟩ := Past.again hx1) | (obtain ⟨wx1, rfl⟩ := Past.of hx1))
                      go_wp2_with fail
                      go_ret
                      exact ⟨ret_bool (calB_5 hlt (monA_4 k4)).symm, (by repeat (first | with_reducible exact Ext.refl _ | with_reducible assumption | with_reducible refine Ext.alloc ?_ _ | with_reducible refine Ext.drew ?_ | (with_reducible refine Ext.setAt ?_ _ _ _ ?_; rotate_left; omega) | with_reducible refine Ext.trans ?_ (by assumption) | with_reducible exact Past.bel _ | with_reducible refine Ext.trans ?_ (Past.bel _)))⟩
                    · go_wp2_with (first | (go_at_call 68; ((with_reducible refine (implIsName_c _ _ zj).mono ?_); rintro e w' ⟨rfl, hx⟩; (first | (obtain ⟨wx, rfl⟩ := Past.again hx) | (obtain ⟨wx, rfl⟩ := Past.ofd hx) | (obtain ⟨wx, rfl⟩ := Past.of hx)))) | (go_at_call 34; ((with_reducible refine (within_c _ _ _ _).mono ?_); rintro e w' ⟨rfl, rfl⟩)))
                      refine (contFunc_c _ _ _ _ nm c.dy c.lp j _ (by omega) (S3.take (HP2.out.mem.mo.ext (by repeat (first | with_reducible exact Ext.refl _ | with_reducible assumption | with_reducible refine Ext.alloc ?_ _ | with_reducible refine Ext.drew ?_ | (with_reducible refine Ext.setAt ?_ _ _ _ ?_; rotate_left; omega) | with_reducible refine Ext.trans ?_ (by assumption) | with_reducible exact Past.bel _ | with_reducible refine Ext.trans ?_ (Past.bel _)))) (by omega)) (by simp [go_sem]) (by simp [go_sem])).mono ?_
                      rintro e w' ⟨rfl, hx1⟩
                      (first | (obtain ⟨wx1, rfl⟩ := Past.again hx1) | (obtain ⟨wx1, rfl⟩ := Past.of hx1))
                      have HA := Lib.hid (monA_t k1 k2 k3 k4)
                      go_wp2_with fail
                      exact ⟨⟨j + 1, by omega, by go_num, by simp only [monTo, HM.out, HA.out]; rfl, (by repeat (first | with_reducible exact Ext.refl _ | with_reducible assumption | with_reducible refine Ext.alloc ?_ _ | with_reducible refine Ext.drew ?_ | (with_reducible refine Ext.setAt ?_ _ _ _ ?_; rotate_left; omega) | with_reducible refine Ext.trans ?_ (by assumption) | with_reducible exact Past.bel _ | with_reducible refine Ext.trans ?_ (Past.bel _)))⟩, by simp [intOf]; omega⟩
            · obtain rfl : j = c.n := by omega
              clear hp
              go_wp2_with fail
              have HBL := Lib.hid hb0
              have HPB := Lib.hid (HP.out.ext hbl)
              clear hb0 HP2 p1 p2
              go_loopw [69] (fun i ws => ∃ j : Nat, j ≤ c.nr ∧ i = .int .i64 j ∧ rulTo c.ev c.rs j = true ∧ Ext wr ws) (fun i _ => c.nr - (intOf i).toNat)
              case atStart => exact ⟨0, by omega, rfl, rfl, (by repeat (first | with_reducible exact Ext.refl _ | with_reducible assumption | with_reducible refine Ext.alloc ?_ _ | with_reducible refine Ext.drew ?_ | (with_reducible refine Ext.setAt ?_ _ _ _ ?_; rotate_left; omega) | with_reducible refine Ext.trans ?_ (by assumption) | with_reducible exact Past.bel _ | with_reducible refine Ext.trans ?_ (Past.bel _)))⟩
              case round =>
                obtain ⟨j, hj2, rfl, hrt, hbl2⟩ := hrel
                have HR := Lib.hid hrt
                have hp := HPB.out.ext hbl2
                have HP2 := Lib.hid hp
                have g1 := hp.lt
                have p2 := hp.c2
                have hb0 := Ext.trans HBL.out hbl2
                clear hrt
                by_cases hlt : j < c.nr
                · obtain ⟨b1, o1, rfl, hb1, q1, q2, q3⟩ := hp.mem.ru.at hlt
                  clear hp
                  cases k1 : inB (c.ev j) 1 1000
                  · go_wp2_with (first | (go_at_call 34; ((with_reducible refine (within_c _ _ _ _).mono ?_); rintro e w' ⟨rfl, rfl⟩)))
                    go_ret
                    exact ⟨ret_bool (calB_6 hlt (by rw [k1]; rfl)).symm, (by repeat (first | with_reducible exact Ext.refl _ | with_reducible assumption | with_reducible refine Ext.alloc ?_ _ | with_reducible refine Ext.drew ?_ | (with_reducible refine Ext.setAt ?_ _ _ _ ?_; rotate_left; omega) | with_reducible refine Ext.trans ?_ (by assumption) | with_reducible exact Past.bel _ | with_reducible refine Ext.trans ?_ (Past.bel _)))⟩
                  · have k1' := inB_t.1 k1
                    cases k2 : inB (c.rs j) 0 (c.ev j - 1)
                    · go_wp2_with (first | (go_at_call 34; ((with_reducible refine (within_c _ _ _ _).mono ?_); rintro e w' ⟨rfl, rfl⟩)))
                      go_ret
                      exact ⟨ret_bool (calB_6 hlt (by rw [k1, k2]; rfl)).symm, (by repeat (first | with_reducible exact Ext.refl _ | with_reducible assumption | with_reducible refine Ext.alloc ?_ _ | with_reducible refine Ext.drew ?_ | (with_reducible refine Ext.setAt ?_ _ _ _ ?_; rotate_left; omega) | with_reducible refine Ext.trans ?_ (by assumption) | with_reducible exact Past.bel _ | with_reducible refine Ext.trans ?_ (Past.bel _)))⟩
                    · go_wp2_with (first | (go_at_call 34; ((with_reducible refine (within_c _ _ _ _).mono ?_); rintro e w' ⟨rfl, rfl⟩)))
                      exact ⟨⟨j + 1, by omega, by go_num, by simp only [rulTo, HR.out, k1, k2]; rfl, (by repeat (first | with_reducible exact Ext.refl _ | with_reducible assumption | with_reducible refine Ext.alloc ?_ _ | with_reducible refine Ext.drew ?_ | (with_reducible refine Ext.setAt ?_ _ _ _ ?_; rotate_left; omega) | with_reducible refine Ext.trans ?_ (by assumption) | with_reducible exact Past.bel _ | with_reducible refine Ext.trans ?_ (Past.bel _)))⟩, by simp [intOf]; omega⟩
                · obtain rfl : j = c.nr := by omega
                  clear hp
                  have HE := Lib.hid (fun i (hi : i < c.nr) => (rulTo_at HR.out hi).1)
                  have HV := Lib.hid (calB_7 (s := s) (nm := nm) (c := c) (wk := wk) H1.out H2.out (by omega) H4.out HM.out HR.out)
                  go_wp2_with (first | (go_at_call 46; ((with_reducible refine (cycleYears_c _ _ _ c.ev c.rs c.lf _ hr (HP2.out.mem.ru.ext (by repeat (first | with_reducible exact Ext.refl _ | with_reducible assumption | with_reducible refine Ext.alloc ?_ _ | with_reducible refine Ext.drew ?_ | (with_reducible refine Ext.setAt ?_ _ _ _ ?_; rotate_left; omega) | with_reducible refine Ext.trans ?_ (by assumption) | with_reducible exact Past.bel _ | with_reducible refine Ext.trans ?_ (Past.bel _)))) HE.out).mono ?_); rintro e w' ⟨rfl, hx⟩; (first | (obtain ⟨wx, rfl⟩ := Past.again hx) | (obtain ⟨wx, rfl⟩ := Past.ofd hx) | (obtain ⟨wx, rfl⟩ := Past.of hx)))))
                  go_ret
                  exact ⟨ret_bool HV.out.symm, (by repeat (first | with_reducible exact Ext.refl _ | with_reducible assumption | with_reducible refine Ext.alloc ?_ _ | with_reducible refine Ext.drew ?_ | (with_reducible refine Ext.setAt ?_ _ _ _ ?_; rotate_left; omega) | with_reducible refine Ext.trans ?_ (by assumption) | with_reducible exact Past.bel _ | with_reducible refine Ext.trans ?_ (Past.bel _)))⟩
end Go.Proofs.YtpohhnihgegmfaaGreatDoor

namespace Go.Proofs.YtpohhnihgegmfaaGreatDoor
open Go.RowKit
set_option linter.unusedVariables false
set_option linter.unusedSimpArgs false

/-- a calendar handed on by value -/
structure CalV (w : World) (s : ByteArray) (ma ra : Option Addr) (mc rc : Nat) (nm : Nat → ByteArray) (c : CalN) : Prop where
  nb : c.n ≤ 1048576
  rb : c.nr ≤ 1048576
  mb : c.n ≤ mc
  mx : mc ≤ maxLen
  sz : s.size ≤ 9223372036854775807
  nz : ∀ i, i < c.n → (nm i).size ≤ 9223372036854775807
  mem : CalM w ma ra nm c
theorem CalV.ext {w w' : World} {s : ByteArray} {ma ra : Option Addr} {mc rc : Nat} {nm : Nat → ByteArray} {c : CalN} (h : CalV w s ma ra mc rc nm c) (e : Ext w w') : CalV w' s ma ra mc rc nm c := { h with mem := h.mem.ext e }
/-- a calendar behind a pointer, with its bounds -/
structure CalQ (w : World) (g : Nat) (s : ByteArray) (ma ra : Option Addr) (mc rc : Nat) (wk : Int) (nm : Nat → ByteArray) (c : CalN) : Prop where
  nb : c.n ≤ 1048576
  rb : c.nr ≤ 1048576
  sz : s.size ≤ 9223372036854775807
  nz : ∀ i, i < c.n → (nm i).size ≤ 9223372036854775807
  p : CalP w g s ma ra mc rc wk nm c
theorem CalQ.ext {w w' : World} {g : Nat} {s : ByteArray} {ma ra : Option Addr} {mc rc : Nat} {wk : Int} {nm : Nat → ByteArray} {c : CalN} (h : CalQ w g s ma ra mc rc wk nm c) (e : Ext w w') : CalQ w' g s ma ra mc rc wk nm c := { h with p := h.p.ext e }
theorem CalQ.new {w : World} (T : TypeId) {s : ByteArray} {ma ra : Option Addr} {mc rc : Nat} (wk : Int) {nm : Nat → ByteArray} {c : CalN} (h : CalV w s ma ra mc rc nm c) :
    CalQ (w.alloc (.cells #[.string s, .slice ma c.n mc, .slice ra c.nr rc, .int .i64 wk] T)) w.heap.size s ma ra mc rc wk nm c :=
  ⟨h.nb, h.rb, h.sz, h.nz, CalP.new T s ma ra mc rc wk h.mem⟩
theorem validCalendar_v {s : ByteArray} {ma ra : Option Addr} {mc rc : Nat} (wk : Int) {nm : Nat → ByteArray} {c : CalN} {w : World} (h : CalV w s ma ra mc rc nm c) :
    Calls Tryz.prog 31 #[.agg #[.string s, .slice ma c.n mc, .slice ra c.nr rc, .int .i64 wk]] w fun e w' => e = .returned (.bool (calB s nm c wk)) ∧ Ext w w' :=
  validCalendar_c _ _ _ _ _ _ _ _ _ h.nb h.rb h.mb h.mx h.sz h.nz h.mem
theorem l15Ok_q {g : Nat} {s : ByteArray} {ma ra : Option Addr} {mc rc : Nat} {wk : Int} {nm : Nat → ByteArray} {c : CalN} {w : World} (h : CalQ w g s ma ra mc rc wk nm c) :
    Calls Tryz.prog 44 #[.pointer (some ⟨g, 0, none⟩)] w fun e w' => e = .returned (.bool (calB s nm c wk)) ∧ Ext w w' :=
  l15Ok_c _ _ _ _ _ _ _ _ _ _ h.nb h.rb h.sz h.nz h.p
theorem isYear_c (y : Int) (w : World) : Calls Tryz.prog 39 #[.int .i64 y] w fun e w' => e = .returned (.bool (inB y 0 9999)) ∧ w = w' := by
  go_enter Tryz.func39, Tryz.ntmps39
  go_wp2_with (go_at_call 34; ((with_reducible refine (within_c _ _ _ _).mono ?_); rintro e w' ⟨rfl, rfl⟩))
  go_ret
  exact ⟨rfl, rfl⟩
theorem l15Year_c (y : Int) (w : World) : Calls Tryz.prog 80 #[.int .i64 y] w fun e w' => e = .returned (.bool (inB y 0 9999)) ∧ w = w' := by
  go_enter Tryz.func80, Tryz.ntmps80
  go_wp2_with (go_at_call 79; ((with_reducible refine (l00In_c _ _ _ _).mono ?_); rintro e w' ⟨rfl, rfl⟩))
  go_ret
  exact ⟨rfl, rfl⟩
theorem isMonth_c (s : ByteArray) (ma ra : Option Addr) (n mc rn rc : Nat) (wk m : Int) (w : World) : Calls Tryz.prog 57 #[.agg #[.string s, .slice ma n mc, .slice ra rn rc, .int .i64 wk], .int .i64 m] w fun e w' => e = .returned (.bool (inB m 1 (n : Int))) ∧ Ext w w' := by
  go_enter Tryz.func57, Tryz.ntmps57
  go_wp2_with (go_at_call 34; ((with_reducible refine (within_c _ _ _ _).mono ?_); rintro e w' ⟨rfl, rfl⟩))
  go_ret
  exact ⟨rfl, (by repeat (first | with_reducible exact Ext.refl _ | with_reducible assumption | with_reducible refine Ext.alloc ?_ _ | with_reducible refine Ext.drew ?_ | (with_reducible refine Ext.setAt ?_ _ _ _ ?_; rotate_left; omega) | with_reducible refine Ext.trans ?_ (by assumption) | with_reducible exact Past.bel _ | with_reducible refine Ext.trans ?_ (Past.bel _)))⟩
theorem isLeap_v {s : ByteArray} {ma ra : Option Addr} {mc rc : Nat} {wk : Int} {nm : Nat → ByteArray} {c : CalN} {w : World} (b : CalB c) (h : CalV w s ma ra mc rc nm c) {y : Int} (hy : 0 ≤ y) (hy' : y ≤ 1000000000000) :
    Calls Tryz.prog 56 #[.agg #[.string s, .slice ma c.n mc, .slice ra c.nr rc, .int .i64 wk], .int .i64 y] w fun e w' => e = .returned (.bool (c.leap y)) ∧ Ext w w' :=
  isLeap_c _ _ _ _ _ _ _ _ h.rb hy hy' h.mem.ru b.ev _ _ _ _ _
theorem l15Leap_q {g : Nat} {s : ByteArray} {ma ra : Option Addr} {mc rc : Nat} {wk : Int} {nm : Nat → ByteArray} {c : CalN} {w : World} (b : CalB c) (h : CalQ w g s ma ra mc rc wk nm c) {y : Int} (hy : 0 ≤ y) (hy' : y ≤ 1000000000000) :
    Calls Tryz.prog 92 #[.pointer (some ⟨g, 0, none⟩), .int .i64 y] w fun e w' => e = .returned (.bool (c.leap y)) ∧ Ext w w' :=
  l15Leap_c _ _ _ _ _ _ _ _ _ h.p.lt h.p.c2 h.rb hy hy' h.p.mem.ru b.ev
/-- what IsLeapYear returns -/
def leapR (s : ByteArray) (nm : Nat → ByteArray) (c : CalN) (wk y : Int) : Bool := calB s nm c wk && (inB y 0 9999 && c.leap y)
theorem implIsLeapYear_c {s : ByteArray} {ma ra : Option Addr} {mc rc : Nat} (wk : Int) {nm : Nat → ByteArray} {c : CalN} (y : Int) {w : World} (h : CalV w s ma ra mc rc nm c) :
    Calls Tryz.prog 25 #[.agg #[.string s, .slice ma c.n mc, .slice ra c.nr rc, .int .i64 wk], .int .i64 y] w fun e w' => e = .returned (.bool (leapR s nm c wk y)) ∧ Ext w w' := by
  have H := Lib.hid h
  clear h
  cases h1 : calB s nm c wk
  · go_enter Tryz.func25, Tryz.ntmps25
    go_wp2_with (go_at_call 31; ((with_reducible refine (validCalendar_v wk (H.out.ext (by repeat (first | with_reducible exact Ext.refl _ | with_reducible assumption | with_reducible refine Ext.alloc ?_ _ | with_reducible refine Ext.drew ?_ | (with_reducible refine Ext.setAt ?_ _ _ _ ?_; rotate_left; omega) | with_reducible refine Ext.trans ?_ (by assumption) | with_reducible exact Past.bel _ | with_reducible refine Ext.trans ?_ (Past.bel _))))).mono ?_); rintro e w' ⟨rfl, hx⟩; (first | (obtain ⟨wx, rfl⟩ := Past.again hx) | (obtain ⟨wx, rfl⟩ := Past.ofd hx) | (obtain ⟨wx, rfl⟩ := Past.of hx))))
    go_ret
    exact ⟨ret_bool (by simp [leapR, h1]), (by repeat (first | with_reducible exact Ext.refl _ | with_reducible assumption | with_reducible refine Ext.alloc ?_ _ | with_reducible refine Ext.drew ?_ | (with_reducible refine Ext.setAt ?_ _ _ _ ?_; rotate_left; omega) | with_reducible refine Ext.trans ?_ (by assumption) | with_reducible exact Past.bel _ | with_reducible refine Ext.trans ?_ (Past.bel _)))⟩
  · have b := calB_b h1
    have B := Lib.hid b
    clear b
    cases h2 : inB y 0 9999
    · go_enter Tryz.func25, Tryz.ntmps25
      go_wp2_with (first | (go_at_call 31; ((with_reducible refine (validCalendar_v wk (H.out.ext (by repeat (first | with_reducible exact Ext.refl _ | with_reducible assumption | with_reducible refine Ext.alloc ?_ _ | with_reducible refine Ext.drew ?_ | (with_reducible refine Ext.setAt ?_ _ _ _ ?_; rotate_left; omega) | with_reducible refine Ext.trans ?_ (by assumption) | with_reducible exact Past.bel _ | with_reducible refine Ext.trans ?_ (Past.bel _))))).mono ?_); rintro e w' ⟨rfl, hx⟩; (first | (obtain ⟨wx, rfl⟩ := Past.again hx) | (obtain ⟨wx, rfl⟩ := Past.ofd hx) | (obtain ⟨wx, rfl⟩ := Past.of hx)))) | (go_at_call 39; ((with_reducible refine (isYear_c _ _).mono ?_); rintro e w' ⟨rfl, rfl⟩)))
      go_ret
      exact ⟨ret_bool (by simp [leapR, h2]), (by repeat (first | with_reducible exact Ext.refl _ | with_reducible assumption | with_reducible refine Ext.alloc ?_ _ | with_reducible refine Ext.drew ?_ | (with_reducible refine Ext.setAt ?_ _ _ _ ?_; rotate_left; omega) | with_reducible refine Ext.trans ?_ (by assumption) | with_reducible exact Past.bel _ | with_reducible refine Ext.trans ?_ (Past.bel _)))⟩
    · have h2' := inB_t.1 h2
      go_enter Tryz.func25, Tryz.ntmps25
      go_wp2_with (first | (go_at_call 31; ((with_reducible refine (validCalendar_v wk (H.out.ext (by repeat (first | with_reducible exact Ext.refl _ | with_reducible assumption | with_reducible refine Ext.alloc ?_ _ | with_reducible refine Ext.drew ?_ | (with_reducible refine Ext.setAt ?_ _ _ _ ?_; rotate_left; omega) | with_reducible refine Ext.trans ?_ (by assumption) | with_reducible exact Past.bel _ | with_reducible refine Ext.trans ?_ (Past.bel _))))).mono ?_); rintro e w' ⟨rfl, hx⟩; (first | (obtain ⟨wx, rfl⟩ := Past.again hx) | (obtain ⟨wx, rfl⟩ := Past.ofd hx) | (obtain ⟨wx, rfl⟩ := Past.of hx)))) | (go_at_call 39; ((with_reducible refine (isYear_c _ _).mono ?_); rintro e w' ⟨rfl, rfl⟩)) | (go_at_call 56; ((with_reducible refine (isLeap_v B.out (H.out.ext (by repeat (first | with_reducible exact Ext.refl _ | with_reducible assumption | with_reducible refine Ext.alloc ?_ _ | with_reducible refine Ext.drew ?_ | (with_reducible refine Ext.setAt ?_ _ _ _ ?_; rotate_left; omega) | with_reducible refine Ext.trans ?_ (by assumption) | with_reducible exact Past.bel _ | with_reducible refine Ext.trans ?_ (Past.bel _)))) h2'.1 (by omega)).mono ?_); rintro e w' ⟨rfl, hx⟩; (first | (obtain ⟨wx, rfl⟩ := Past.again hx) | (obtain ⟨wx, rfl⟩ := Past.ofd hx) | (obtain ⟨wx, rfl⟩ := Past.of hx)))))
      go_ret
      exact ⟨ret_bool (by simp [leapR, h1, h2]), (by repeat (first | with_reducible exact Ext.refl _ | with_reducible assumption | with_reducible refine Ext.alloc ?_ _ | with_reducible refine Ext.drew ?_ | (with_reducible refine Ext.setAt ?_ _ _ _ ?_; rotate_left; omega) | with_reducible refine Ext.trans ?_ (by assumption) | with_reducible exact Past.bel _ | with_reducible refine Ext.trans ?_ (Past.bel _)))⟩
end Go.Proofs.YtpohhnihgegmfaaGreatDoor
