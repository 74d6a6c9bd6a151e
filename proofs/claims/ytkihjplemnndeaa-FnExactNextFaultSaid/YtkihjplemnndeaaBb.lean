/- Calendars: copied, compared. Cycles of rules: the program's. Leap years: the program's. Lengths of years: the program's. Leap years: the reference's. Days of months, of years: the program's. Days before a year: the program's. Days of months, of years: the reference's. Days of years: the reference's. Rules: when their years are valid. No program in sight. Years of a cycle: the reference's. Names. No program in sight. Names: the program's and the reference's. Names: the reference's. Calendars: when their months are valid. No program in sight. Months of a calendar: the reference's. Valid calendars: the reference's. Names among others: the program's. -/
import Derived.Test.YtkihjplemnndeaaBa
import Derived.Lib.ConvBytes
import Derived.Lib.UnsafeStr
import Derived.Laws.Closers25b

namespace Go.Proofs.Ytkihjplemnndeaa
open Go.RowKit
set_option linter.unusedVariables false
set_option linter.unusedSimpArgs false

theorem toMonthS_o (a : Option Addr) (n c : Nat) (nm : Nat → ByteArray) (dy lp : Nat → Int) (w : World) (hn : n ≤ 1048576) (hs : S3 w a n nm dy lp) :
    Calls Try.prog 27 #[.slice a n c] w fun e w' => ∃ g xs, e = .returned (.slice (some ⟨g, 0, none⟩) n n) ∧ Ext w w' ∧ S3 w' (some ⟨g, 0, none⟩) n nm dy lp ∧ w'.ownsRow w.heap.size 83 3 (.slice (some ⟨g, 0, none⟩) n n) n xs :=
  (toMonthS_c a n c nm dy lp w hn hs).mono fun e w' ⟨cur, he, hx, hb, hz, hc⟩ => ⟨_, cur.toList, he, hx, C3.s3 hb hc, by simpa using hz, .inr ⟨_, n, cur, rfl, Nat.le_refl _, hb, Nat.le_refl _, by unfold maxLen; omega, hz, by rw [← hz]; exact List.take_of_length_le (by simp)⟩⟩
theorem toLeapRuleS_o (a : Option Addr) (n c : Nat) (ev rs : Nat → Int) (lf : Nat → Bool) (w : World) (hn : n ≤ 1048576) (hs : R3 w a n ev rs lf) :
    Calls Try.prog 28 #[.slice a n c] w fun e w' => ∃ g xs, e = .returned (.slice (some ⟨g, 0, none⟩) n n) ∧ Ext w w' ∧ R3 w' (some ⟨g, 0, none⟩) n ev rs lf ∧ w'.ownsRow w.heap.size 86 3 (.slice (some ⟨g, 0, none⟩) n n) n xs :=
  (toLeapRuleS_c a n c ev rs lf w hn hs).mono fun e w' ⟨cur, he, hx, hb, hz, hc⟩ => ⟨_, cur.toList, he, hx, C3.r3 hb hc, by simpa using hz, .inr ⟨_, n, cur, rfl, Nat.le_refl _, hb, Nat.le_refl _, by unfold maxLen; omega, hz, by rw [← hz]; exact List.take_of_length_le (by simp)⟩⟩
theorem S3.set {w : World} {g n : Nat} {nm : Nat → ByteArray} {dy lp : Nat → Int} (h : S3 w (some ⟨g, 0, none⟩) n nm dy lp) {b : Nat} (hb : b ≠ g) (o : Nat) (u : Value) : S3 (w.setCell ⟨b, o, none⟩ u) (some ⟨g, 0, none⟩) n nm dy lp := fun hn => by
  obtain ⟨b', off', e, hl, hc⟩ := h hn
  obtain ⟨rfl, rfl⟩ : b' = g ∧ off' = 0 := by simp at e; exact ⟨e.1.symm, e.2.symm⟩
  have hx := grown_set (w := w) b o u
  refine ⟨b', 0, rfl, by simpa using hl, fun j hj => ?_⟩
  obtain ⟨c1, c2, c3⟩ := hc j hj
  refine ⟨?_, ?_, ?_⟩ <;> (rw [World.cell?_of_block (hx.block b' hl (fun e => hb (by simpa using e.symm)))]; assumption)
theorem R3.set {w : World} {g n : Nat} {ev rs : Nat → Int} {lf : Nat → Bool} (h : R3 w (some ⟨g, 0, none⟩) n ev rs lf) {b : Nat} (hb : b ≠ g) (o : Nat) (u : Value) : R3 (w.setCell ⟨b, o, none⟩ u) (some ⟨g, 0, none⟩) n ev rs lf := fun hn => by
  obtain ⟨b', off', e, hl, hc⟩ := h hn
  obtain ⟨rfl, rfl⟩ : b' = g ∧ off' = 0 := by simp at e; exact ⟨e.1.symm, e.2.symm⟩
  have hx := grown_set (w := w) b o u
  refine ⟨b', 0, rfl, by simpa using hl, fun j hj => ?_⟩
  obtain ⟨c1, c2, c3⟩ := hc j hj
  refine ⟨?_, ?_, ?_⟩ <;> (rw [World.cell?_of_block (hx.block b' hl (fun e => hb (by simpa using e.symm)))]; assumption)
theorem own_off {w : World} {base : Nat} {e : TypeId} {size g n cap : Nat} {xs : List Value} (h : w.ownsRow base e size (.slice (some ⟨g, 0, none⟩) n cap) n xs) {b : Nat} (hb : b ≠ g) (o : Nat) (u : Value) : (w.setCell ⟨b, o, none⟩ u).ownsRow base e size (.slice (some ⟨g, 0, none⟩) n cap) n xs :=
  h.kept (grown_set b o u) (.inr (fun e => hb (by simpa [Value.ownBlock] using e.symm)))
/-- a calendar's months and rules in memory -/
structure CalM (w : World) (ma ra : Option Addr) (nm : Nat → ByteArray) (c : CalN) : Prop where
  mo : S3 w ma c.n nm c.dy c.lp
  ru : R3 w ra c.nr c.ev c.rs c.lf
theorem CalM.ext {w w' : World} {ma ra : Option Addr} {nm : Nat → ByteArray} {c : CalN} (h : CalM w ma ra nm c) (e : Ext w w') : CalM w' ma ra nm c := ⟨h.mo.ext e, h.ru.ext e⟩
set_option maxHeartbeats 1000000 in
theorem toCalendar_c (s : ByteArray) (ma ra : Option Addr) (mc rc : Nat) (wk : Int) (nm : Nat → ByteArray) (c : CalN) (w : World) (hm : c.n ≤ 1048576) (hr : c.nr ≤ 1048576) (h : CalM w ma ra nm c) :
    Calls Try.prog 8 #[.agg #[.string s, .slice ma c.n mc, .slice ra c.nr rc, .int .i64 wk]] w fun e w' => ∃ g1 g2 xs ys, e = .returned (.agg #[.string s, .slice (some ⟨g1, 0, none⟩) c.n c.n, .slice (some ⟨g2, 0, none⟩) c.nr c.nr, .int .i64 wk]) ∧ Ext w w' ∧ CalM w' (some ⟨g1, 0, none⟩) (some ⟨g2, 0, none⟩) nm c ∧
      w'.ownsRow w.heap.size 83 3 (.slice (some ⟨g1, 0, none⟩) c.n c.n) c.n xs ∧ w'.ownsRow w.heap.size 86 3 (.slice (some ⟨g2, 0, none⟩) c.nr c.nr) c.nr ys ∧ g1 ≠ g2 := by
  have H := Lib.hid h
  clear h
  go_enter Try.func8, Try.ntmps8
  go_wp2_with fail
  refine (toMonthS_o _ _ _ _ _ _ _ hm (H.out.mo.ext (by repeat (first | with_reducible exact Ext.refl _ | with_reducible assumption | with_reducible refine Ext.alloc ?_ _ | with_reducible refine Ext.drew ?_ | (with_reducible refine Ext.setAt ?_ _ _ _ ?_; rotate_left; omega) | with_reducible refine Ext.trans ?_ (by assumption) | with_reducible exact Past.bel _ | with_reducible refine Ext.trans ?_ (Past.bel _))))).mono ?_
  rintro e w' ⟨g1, xs, rfl, hx1, hs1, ho1⟩
  have HS1 := Lib.hid hs1
  have HO1 := Lib.hid ho1
  clear hs1 ho1
  have z1 := hx1.size
  simp only [World.size_alloc] at z1
  have a0 : w.heap.size < w'.heap.size := by omega
  have a1 : w.heap.size + 1 < w'.heap.size := by omega
  have a2 : w.heap.size + 1 + 1 < w'.heap.size := by omega
  have c0 : w'.cell? ⟨w.heap.size, 0, none⟩ = some (.string s) := by rw [hx1.cell (by simp <;> omega)]; simp [go_sem]
  have c2 : w'.cell? ⟨w.heap.size, 2, none⟩ = some (.slice ra c.nr rc) := by rw [hx1.cell (by simp <;> omega)]; simp [go_sem]
  have c3 : w'.cell? ⟨w.heap.size, 3, none⟩ = some (.int .i64 wk) := by rw [hx1.cell (by simp <;> omega)]; simp [go_sem]
  have d0 : w'.cell? ⟨w.heap.size + 1 + 1, 0, none⟩ = some (.string s) := by rw [hx1.cell (by simp <;> omega)]; simp [go_sem]
  have d1 : w'.cell? ⟨w.heap.size + 1 + 1, 1, none⟩ = some (.slice none 0 0) := by rw [hx1.cell (by simp <;> omega)]; simp [go_sem]
  have d2 : w'.cell? ⟨w.heap.size + 1 + 1, 2, none⟩ = some (.slice none 0 0) := by rw [hx1.cell (by simp <;> omega)]; simp [go_sem]
  have d3 : w'.cell? ⟨w.heap.size + 1 + 1, 3, none⟩ = some (.int .i64 0) := by rw [hx1.cell (by simp <;> omega)]; simp [go_sem]
  have f1 : w'.frozen? ⟨w.heap.size + 1 + 1, 1, none⟩ = false := by rw [Below.frozen (p := ⟨w.heap.size + 1 + 1, 1, none⟩) hx1 (by simp <;> omega)]; simp [go_sem]
  have f2 : w'.frozen? ⟨w.heap.size + 1 + 1, 2, none⟩ = false := by rw [Below.frozen (p := ⟨w.heap.size + 1 + 1, 2, none⟩) hx1 (by simp <;> omega)]; simp [go_sem]
  have f3 : w'.frozen? ⟨w.heap.size + 1 + 1, 3, none⟩ = false := by rw [Below.frozen (p := ⟨w.heap.size + 1 + 1, 3, none⟩) hx1 (by simp <;> omega)]; simp [go_sem]
  have r0 : ∀ j, j < 4 → ∃ v, w'.cell? ⟨w.heap.size + 1, j, none⟩ = some v ∧ w'.frozen? ⟨w.heap.size + 1, j, none⟩ = false := fun j hj => by
    obtain rfl | rfl | rfl | rfl : j = 0 ∨ j = 1 ∨ j = 2 ∨ j = 3 := by omega
    all_goals (refine ⟨_, by rw [hx1.cell (by simp <;> omega)]; simp [go_sem]; rfl, ?_⟩; rw [Below.frozen (p := ⟨w.heap.size + 1, _, none⟩) hx1 (by simp <;> omega)]; simp [go_sem])
  have R0 := Lib.hid r0
  clear r0
  have hxw : Ext w w' := Ext.trans (by repeat (first | with_reducible exact Ext.refl _ | with_reducible assumption | with_reducible refine Ext.alloc ?_ _ | with_reducible refine Ext.drew ?_ | (with_reducible refine Ext.setAt ?_ _ _ _ ?_; rotate_left; omega) | with_reducible refine Ext.trans ?_ (by assumption) | with_reducible exact Past.bel _ | with_reducible refine Ext.trans ?_ (Past.bel _))) hx1
  clear hx1 z1
  go_wp2_with fail
  refine (toLeapRuleS_o _ _ _ _ _ _ _ hr (H.out.ru.ext (by repeat (first | with_reducible exact Ext.refl _ | with_reducible assumption | with_reducible refine Ext.alloc ?_ _ | with_reducible refine Ext.drew ?_ | (with_reducible refine Ext.setAt ?_ _ _ _ ?_; rotate_left; omega) | with_reducible refine Ext.trans ?_ (by assumption) | with_reducible exact Past.bel _ | with_reducible refine Ext.trans ?_ (Past.bel _))))).mono ?_
  rintro e w'' ⟨g2, ys, rfl, hx2, hs2, ho2⟩
  have HS2 := Lib.hid hs2
  have HO2 := Lib.hid ho2
  clear hs2 ho2
  have z2 := hx2.size
  simp only [World.size_setCell] at z2
  have b3 : w''.cell? ⟨w.heap.size, 3, none⟩ = some (.int .i64 wk) := by rw [hx2.cell (by simp <;> omega)]; simp [go_sem, c3]
  have b0 : w''.cell? ⟨w.heap.size + 1 + 1, 0, none⟩ = some (.string s) := by rw [hx2.cell (by simp <;> omega)]; simp [go_sem, d0]
  have b1 : w''.cell? ⟨w.heap.size + 1 + 1, 1, none⟩ = some (.slice (some ⟨g1, 0, none⟩) c.n c.n) := by rw [hx2.cell (by simp <;> omega)]; simp [go_sem, d1]
  have b2 : w''.cell? ⟨w.heap.size + 1 + 1, 2, none⟩ = some (.slice none 0 0) := by rw [hx2.cell (by simp <;> omega)]; simp [go_sem, d2]
  have b4 : w''.cell? ⟨w.heap.size + 1 + 1, 3, none⟩ = some (.int .i64 0) := by rw [hx2.cell (by simp <;> omega)]; simp [go_sem, d3]
  have h2 : w''.frozen? ⟨w.heap.size + 1 + 1, 2, none⟩ = false := by rw [Below.frozen (p := ⟨w.heap.size + 1 + 1, 2, none⟩) hx2 (by simp <;> omega)]; simp [go_sem, f2]
  have h3 : w''.frozen? ⟨w.heap.size + 1 + 1, 3, none⟩ = false := by rw [Below.frozen (p := ⟨w.heap.size + 1 + 1, 3, none⟩) hx2 (by simp <;> omega)]; simp [go_sem, f3]
  have r0 : ∀ j, j < 4 → ∃ v, w''.cell? ⟨w.heap.size + 1, j, none⟩ = some v ∧ w''.frozen? ⟨w.heap.size + 1, j, none⟩ = false := fun j hj => by
    obtain ⟨v, hv, hf⟩ := R0.out j hj
    refine ⟨v, by rw [hx2.cell (by simp <;> omega)]; simp [go_sem, hv], ?_⟩
    rw [Below.frozen (p := ⟨w.heap.size + 1, j, none⟩) hx2 (by simp <;> omega)]; simp [go_sem, hf]
  obtain ⟨v0, p0, q0⟩ := r0 0 (by omega)
  obtain ⟨v1, p1, q1⟩ := r0 1 (by omega)
  obtain ⟨v2, p2, q2⟩ := r0 2 (by omega)
  obtain ⟨v3, p3, q3⟩ := r0 3 (by omega)
  have HX2 := Lib.hid hx2
  have HXW := Lib.hid hxw
  have hg1 : g1 < w'.heap.size := (HO1.out.lt g1 rfl).2
  have hg2 := (HO2.out.lt g2 rfl).1
  simp only [World.size_setCell] at hg2
  have hg3 := (HO1.out.lt g1 rfl).1
  simp only [World.size_alloc] at hg3
  have S1' := Lib.hid ((HS1.out.set (b := w.heap.size + 1 + 1) (by omega) 1 (.slice (some ⟨g1, 0, none⟩) c.n c.n)).ext hx2)
  have O1' := Lib.hid (own_ext (own_off (b := w.heap.size + 1 + 1) HO1.out (by omega) 1 (.slice (some ⟨g1, 0, none⟩) c.n c.n)) hx2)
  have N1 : w.heap.size + 1 + 1 ≠ g1 := by omega
  have N2 : w.heap.size + 1 ≠ g1 := by omega
  have N3 : w.heap.size + 1 + 1 ≠ g2 := by omega
  have N4 : w.heap.size + 1 ≠ g2 := by omega
  have N5 : g1 ≠ g2 := by omega
  have NN := Lib.hid (And.intro N1 (And.intro N2 (And.intro N3 (And.intro N4 N5))))
  clear hx2 hxw r0 c0 c2 c3 d0 d1 d2 d3 f1 f2 f3 N1 N2 N3 N4 N5 hg3 hg1 hg2
  go_wp2_with fail
  obtain ⟨N1, N2, N3, N4, N5⟩ := NN.out
  have hxw := HXW.out
  have hx2 := HX2.out
  refine bodyPost_ret (v := .agg #[.string s, .slice (some ⟨g1, 0, none⟩) c.n c.n, .slice (some ⟨g2, 0, none⟩) c.nr c.nr, .int .i64 wk]) (by simp [results, Try.results8, go_sem, p0, p1, p2, p3]) rfl ⟨g1, g2, xs, ys, rfl, (by repeat (first | with_reducible exact Ext.refl _ | with_reducible assumption | with_reducible refine Ext.alloc ?_ _ | with_reducible refine Ext.drew ?_ | (with_reducible refine Ext.setAt ?_ _ _ _ ?_; rotate_left; omega) | with_reducible refine Ext.trans ?_ (by assumption) | with_reducible exact Past.bel _ | with_reducible refine Ext.trans ?_ (Past.bel _))), ⟨?_, ?_⟩, ?_, ?_, N5⟩
  · exact (((((S1'.out.set N1 _ _).set N1 _ _).set N2 _ _).set N2 _ _).set N2 _ _).set N2 _ _
  · exact (((((HS2.out.set N3 _ _).set N3 _ _).set N4 _ _).set N4 _ _).set N4 _ _).set N4 _ _
  · exact own_base (own_off (own_off (own_off (own_off (own_off (own_off O1'.out N1 _ _) N1 _ _) N2 _ _) N2 _ _) N2 _ _) N2 _ _) (by simp only [World.size_alloc]; omega)
  · exact own_base (own_off (own_off (own_off (own_off (own_off (own_off HO2.out N3 _ _) N3 _ _) N4 _ _) N4 _ _) N4 _ _) N4 _ _) (by simp only [World.size_setCell]; omega)
end Go.Proofs.Ytkihjplemnndeaa

namespace Go.Proofs.Ytkihjplemnndeaa
open Go.RowKit
set_option linter.unusedVariables false
set_option linter.unusedSimpArgs false

theorem tdiv_nn {a b : Int} (ha : 0 ≤ a) : a.tdiv b = a / b := Int.tdiv_eq_ediv_of_nonneg ha
set_option maxHeartbeats 1000000 in
theorem cycleYears_c (a : Option Addr) (n c : Nat) (ev rs : Nat → Int) (lf : Nat → Bool) (w : World) (hn : n ≤ 1048576) (hs : R3 w a n ev rs lf) (he : ∀ j, j < n → 1 ≤ ev j ∧ ev j ≤ 1000) :
    Calls Try.prog 57 #[.slice a n c] w fun e w' => e = .returned (.int .i64 (cyY ev n)) ∧ Ext w w' := by
  have HS := Lib.hid hs
  have HE := Lib.hid he
  clear hs he
  go_enter Try.func57, Try.ntmps57
  go_wp2_with fail
  go_loopw [3, 8] (fun y i wr => ∃ j : Nat, j ≤ n ∧ i = .int .i64 j ∧ y = .int .i64 (cyY ev j) ∧ Ext w wr) (fun _ i _ => n - (intOf i).toNat)
  case atStart => exact ⟨0, by omega, rfl, rfl, (by repeat (first | with_reducible exact Ext.refl _ | with_reducible assumption | with_reducible refine Ext.alloc ?_ _ | with_reducible refine Ext.drew ?_ | (with_reducible refine Ext.setAt ?_ _ _ _ ?_; rotate_left; omega) | with_reducible refine Ext.trans ?_ (by assumption) | with_reducible exact Past.bel _ | with_reducible refine Ext.trans ?_ (Past.bel _)))⟩
  case round =>
    obtain ⟨j, hj, rfl, rfl, hbl⟩ := hrel
    by_cases hlt : j < n
    · obtain ⟨b1, o1, rfl, hb1, q1, q2, q3⟩ := (R3.ext HS.out hbl).at hlt
      obtain ⟨y0, y1, g0, d0, d1, p0, p1⟩ := cyS (ev := ev) (k := j) fun i hi => HE.out i (by omega)
      have e1 := HE.out j hlt
      by_cases h2 : cyY ev j ≤ 2000
      · have st : cyY ev (j + 1) = cyY ev j / gcdI (cyY ev j) (ev j) * ev j := by simp only [cyY]; rw [if_pos h2]
        have ST := Lib.hid st
        obtain ⟨Y, hY⟩ : ∃ Y, Y = cyY ev j := ⟨_, rfl⟩
        rw [← hY] at y0 y1 g0 d0 d1 p0 p1 h2 ⊢
        obtain ⟨G, hG⟩ : ∃ G, G = gcdI Y (ev j) := ⟨_, rfl⟩
        rw [← hG] at g0 d0 d1 p0 p1
        have w1 := IntWalk.i64_in (Y / G) (by have := d1 h2; omega)
        have w2 := IntWalk.i64_in (Y / G * ev j) (by have := p1 h2; omega)
        have t1 : Y.tdiv G = Y / G := tdiv_nn (by omega)
        have cg : ∀ W, Calls Try.prog 65 #[.int .i64 Y, .int .i64 (ev j)] W fun e w' => e = .returned (.int .i64 G) ∧ Ext W w' := fun W => by
          rw [hG]; exact gcd_c _ _ _ (by omega) (by omega) (by omega) (by omega)
        have CG := Lib.hid cg
        have HY := Lib.hid hY
        have HG := Lib.hid hG
        clear st cg hY hG
        go_wp2_with fail
        refine wp_region_past (by kernel_rfl) (by kernel_rfl) ?_
        repeat (go_big_quiet_step ((go_at_call 65; exact Calls.past (CG.out _))))
        refine wpQuiet_nil ?_
        rintro _ ⟨wx, rfl⟩
        go_wp2_with fail
        exact ⟨⟨j + 1, by omega, by go_num, congrArg _ (by rw [ST.out, ← HY.out, ← HG.out]), (by repeat (first | with_reducible exact Ext.refl _ | with_reducible assumption | with_reducible refine Ext.alloc ?_ _ | with_reducible refine Ext.drew ?_ | (with_reducible refine Ext.setAt ?_ _ _ _ ?_; rotate_left; omega) | with_reducible refine Ext.trans ?_ (by assumption) | with_reducible exact Past.bel _ | with_reducible refine Ext.trans ?_ (Past.bel _)))⟩, by simp [intOf]; omega⟩
      · have st : cyY ev (j + 1) = cyY ev j := by simp only [cyY]; rw [if_neg h2]
        have ST := Lib.hid st
        clear st
        go_wp2_with fail
        exact ⟨⟨j + 1, by omega, by go_num, by rw [ST.out], (by repeat (first | with_reducible exact Ext.refl _ | with_reducible assumption | with_reducible refine Ext.alloc ?_ _ | with_reducible refine Ext.drew ?_ | (with_reducible refine Ext.setAt ?_ _ _ _ ?_; rotate_left; omega) | with_reducible refine Ext.trans ?_ (by assumption) | with_reducible exact Past.bel _ | with_reducible refine Ext.trans ?_ (Past.bel _)))⟩, by simp [intOf]; omega⟩
    · obtain rfl : j = n := by omega
      go_wp2_with fail
      go_ret
      exact ⟨rfl, (by repeat (first | with_reducible exact Ext.refl _ | with_reducible assumption | with_reducible refine Ext.alloc ?_ _ | with_reducible refine Ext.drew ?_ | (with_reducible refine Ext.setAt ?_ _ _ _ ?_; rotate_left; omega) | with_reducible refine Ext.trans ?_ (by assumption) | with_reducible exact Past.bel _ | with_reducible refine Ext.trans ?_ (Past.bel _)))⟩
end Go.Proofs.Ytkihjplemnndeaa

namespace Go.Proofs.Ytkihjplemnndeaa
open Go.RowKit
set_option linter.unusedVariables false
set_option linter.unusedSimpArgs false

set_option maxHeartbeats 1000000 in
theorem isLeap_c (ra : Option Addr) (n rc : Nat) (ev rs : Nat → Int) (lf : Nat → Bool) (y : Int) (w : World) (hn : n ≤ 1048576) (hy : 0 ≤ y) (hy' : y ≤ 1000000000000) (hs : R3 w ra n ev rs lf) (he : ∀ j, j < n → 1 ≤ ev j ∧ ev j ≤ 1000) (nm : ByteArray) (a : Option Addr) (mn mc : Nat) (k : Int) :
    Calls Try.prog 32 #[.agg #[.string nm, .slice a mn mc, .slice ra n rc, .int .i64 k], .int .i64 y] w fun e w' => e = .returned (.bool (lpTo ev rs lf y n)) ∧ Ext w w' := by
  have HS := Lib.hid hs
  have HE := Lib.hid he
  clear hs he
  go_enter Try.func32, Try.ntmps32
  go_wp2_with fail
  go_loopw [5, 11] (fun b i wr => ∃ j : Nat, j ≤ n ∧ i = .int .i64 j ∧ b = .bool (lpTo ev rs lf y j) ∧ Ext w wr) (fun _ i _ => n - (intOf i).toNat)
  case atStart => exact ⟨0, by omega, rfl, rfl, (by repeat (first | with_reducible exact Ext.refl _ | with_reducible assumption | with_reducible refine Ext.alloc ?_ _ | with_reducible refine Ext.drew ?_ | (with_reducible refine Ext.setAt ?_ _ _ _ ?_; rotate_left; omega) | with_reducible refine Ext.trans ?_ (by assumption) | with_reducible exact Past.bel _ | with_reducible refine Ext.trans ?_ (Past.bel _)))⟩
  case round =>
    obtain ⟨j, hj, rfl, rfl, hbl⟩ := hrel
    by_cases hlt : j < n
    · obtain ⟨b1, o1, rfl, hb1, q1, q2, q3⟩ := (R3.ext HS.out hbl).at hlt
      have hev := HE.out j hlt
      obtain ⟨t0, t1, t2⟩ := tmod_bd hy (show 0 < ev j by omega)
      by_cases h : y % ev j = rs j
      · have hb0 : (y % ev j == rs j) = true := by simpa using h
        have H := Lib.hid h
        clear h t0
        go_wp2_with fail
        refine wp_region_past (by kernel_rfl) (by kernel_rfl) ?_
        repeat (go_big_quiet_step (fail))
        refine wpQuiet_nil ?_
        rintro _ ⟨wx, rfl⟩
        go_wp2_with fail
        exact ⟨⟨j + 1, by omega, by go_num, by simp [lpTo, H.out], (by repeat (first | with_reducible exact Ext.refl _ | with_reducible assumption | with_reducible refine Ext.alloc ?_ _ | with_reducible refine Ext.drew ?_ | (with_reducible refine Ext.setAt ?_ _ _ _ ?_; rotate_left; omega) | with_reducible refine Ext.trans ?_ (by assumption) | with_reducible exact Past.bel _ | with_reducible refine Ext.trans ?_ (Past.bel _)))⟩, by simp [intOf]; omega⟩
      · have hb0 : (y % ev j == rs j) = false := by simpa using h
        have H := Lib.hid h
        clear h t0
        go_wp2_with fail
        refine wp_region_past (by kernel_rfl) (by kernel_rfl) ?_
        repeat (go_big_quiet_step (fail))
        refine wpQuiet_nil ?_
        rintro _ ⟨wx, rfl⟩
        go_wp2_with fail
        exact ⟨⟨j + 1, by omega, by go_num, by simp [lpTo, H.out], (by repeat (first | with_reducible exact Ext.refl _ | with_reducible assumption | with_reducible refine Ext.alloc ?_ _ | with_reducible refine Ext.drew ?_ | (with_reducible refine Ext.setAt ?_ _ _ _ ?_; rotate_left; omega) | with_reducible refine Ext.trans ?_ (by assumption) | with_reducible exact Past.bel _ | with_reducible refine Ext.trans ?_ (Past.bel _)))⟩, by simp [intOf]; omega⟩
    · obtain rfl : j = n := by omega
      go_wp2_with fail
      go_ret
      exact ⟨rfl, (by repeat (first | with_reducible exact Ext.refl _ | with_reducible assumption | with_reducible refine Ext.alloc ?_ _ | with_reducible refine Ext.drew ?_ | (with_reducible refine Ext.setAt ?_ _ _ _ ?_; rotate_left; omega) | with_reducible refine Ext.trans ?_ (by assumption) | with_reducible exact Past.bel _ | with_reducible refine Ext.trans ?_ (Past.bel _)))⟩
end Go.Proofs.Ytkihjplemnndeaa

namespace Go.Proofs.Ytkihjplemnndeaa
open Go.RowKit
set_option linter.unusedVariables false
set_option linter.unusedSimpArgs false

end Go.Proofs.Ytkihjplemnndeaa

namespace Go.Proofs.Ytkihjplemnndeaa
open Go.RowKit
set_option linter.unusedVariables false
set_option linter.unusedSimpArgs false

set_option maxHeartbeats 1000000 in
theorem l15Leap_c (g : Nat) (ra : Option Addr) (n rc : Nat) (ev rs : Nat → Int) (lf : Nat → Bool) (y : Int) (w : World) (hg : g < w.heap.size) (hc : w.cell? ⟨g, 2, none⟩ = some (.slice ra n rc)) (hn : n ≤ 1048576) (hy : 0 ≤ y) (hy' : y ≤ 1000000000000) (hs : R3 w ra n ev rs lf) (he : ∀ j, j < n → 1 ≤ ev j ∧ ev j ≤ 1000) :
    Calls Try.prog 68 #[.pointer (some ⟨g, 0, none⟩), .int .i64 y] w fun e w' => e = .returned (.bool (lpTo ev rs lf y n)) ∧ Ext w w' := by
  have HS := Lib.hid hs
  have HE := Lib.hid he
  clear hs he
  go_enter Try.func68, Try.ntmps68
  go_wp2_with fail
  go_loopw [5, 6] (fun b i wr => ∃ j : Nat, j ≤ n ∧ i = .int .i64 j ∧ b = .bool (lpTo ev rs lf y j) ∧ Ext w wr) (fun _ i _ => n - (intOf i).toNat)
  case atStart => exact ⟨0, by omega, rfl, rfl, (by repeat (first | with_reducible exact Ext.refl _ | with_reducible assumption | with_reducible refine Ext.alloc ?_ _ | with_reducible refine Ext.drew ?_ | (with_reducible refine Ext.setAt ?_ _ _ _ ?_; rotate_left; omega) | with_reducible refine Ext.trans ?_ (by assumption) | with_reducible exact Past.bel _ | with_reducible refine Ext.trans ?_ (Past.bel _)))⟩
  case round =>
    obtain ⟨j, hj, rfl, rfl, hbl⟩ := hrel
    have hc1 : wr.cell? ⟨g, 2, none⟩ = some (.slice ra n rc) := by rw [hbl.cell hg]; exact hc
    have hg1 : g < wr.heap.size := Nat.lt_of_lt_of_le hg hbl.size
    have HC := Lib.hid hc
    clear hc
    by_cases hlt : j < n
    · obtain ⟨b1, o1, rfl, hb1, q1, q2, q3⟩ := (R3.ext HS.out hbl).at hlt
      have hev := HE.out j hlt
      obtain ⟨t0, t1, t2⟩ := tmod_bd hy (show 0 < ev j by omega)
      by_cases h : y % ev j = rs j
      · have hb0 : (y % ev j == rs j) = true := by simpa using h
        have H := Lib.hid h
        clear h t0
        go_wp2_with fail
        refine wp_region_past (by kernel_rfl) (by kernel_rfl) ?_
        repeat (go_big_quiet_step (fail))
        refine wpQuiet_nil ?_
        rintro _ ⟨wx, rfl⟩
        go_wp2_with fail
        exact ⟨⟨j + 1, by omega, by go_num, by simp [lpTo, H.out], (by repeat (first | with_reducible exact Ext.refl _ | with_reducible assumption | with_reducible refine Ext.alloc ?_ _ | with_reducible refine Ext.drew ?_ | (with_reducible refine Ext.setAt ?_ _ _ _ ?_; rotate_left; omega) | with_reducible refine Ext.trans ?_ (by assumption) | with_reducible exact Past.bel _ | with_reducible refine Ext.trans ?_ (Past.bel _)))⟩, by simp [intOf]; omega⟩
      · have hb0 : (y % ev j == rs j) = false := by simpa using h
        have H := Lib.hid h
        clear h t0
        go_wp2_with fail
        refine wp_region_past (by kernel_rfl) (by kernel_rfl) ?_
        repeat (go_big_quiet_step (fail))
        refine wpQuiet_nil ?_
        rintro _ ⟨wx, rfl⟩
        go_wp2_with fail
        exact ⟨⟨j + 1, by omega, by go_num, by simp [lpTo, H.out], (by repeat (first | with_reducible exact Ext.refl _ | with_reducible assumption | with_reducible refine Ext.alloc ?_ _ | with_reducible refine Ext.drew ?_ | (with_reducible refine Ext.setAt ?_ _ _ _ ?_; rotate_left; omega) | with_reducible refine Ext.trans ?_ (by assumption) | with_reducible exact Past.bel _ | with_reducible refine Ext.trans ?_ (Past.bel _)))⟩, by simp [intOf]; omega⟩
    · obtain rfl : j = n := by omega
      go_wp2_with fail
      go_ret
      exact ⟨rfl, (by repeat (first | with_reducible exact Ext.refl _ | with_reducible assumption | with_reducible refine Ext.alloc ?_ _ | with_reducible refine Ext.drew ?_ | (with_reducible refine Ext.setAt ?_ _ _ _ ?_; rotate_left; omega) | with_reducible refine Ext.trans ?_ (by assumption) | with_reducible exact Past.bel _ | with_reducible refine Ext.trans ?_ (Past.bel _)))⟩
end Go.Proofs.Ytkihjplemnndeaa

namespace Go.Proofs.Ytkihjplemnndeaa
open Go.RowKit
set_option linter.unusedVariables false
set_option linter.unusedSimpArgs false

set_option maxHeartbeats 1000000 in
theorem daysOfMonth_c (s : ByteArray) (ma ra : Option Addr) (n mc rn rc : Nat) (wk : Int) (nm : Nat → ByteArray) (dy lp : Nat → Int) (l : Bool) (j : Nat) (w : World) (hn : n ≤ 1048576) (hs : S3 w ma n nm dy lp) (hj : j < n) :
    Calls Try.prog 33 #[.agg #[.string s, .slice ma n mc, .slice ra rn rc, .int .i64 wk], .bool l, .int .i64 ((j : Int) + 1)] w fun e w' => e = .returned (.int .i64 (if l then lp j else dy j)) ∧ Ext w w' := by
  obtain ⟨b1, o1, rfl, hb1, q1, q2, q3⟩ := hs.at hj
  have x0 : (0 : Int) ≤ (j : Int) := by omega
  have x1 : (j : Int) < (n : Int) := by omega
  cases l
  · go_enter Try.func33, Try.ntmps33
    go_wp2
    go_ret
    exact ⟨rfl, (by repeat (first | with_reducible exact Ext.refl _ | with_reducible assumption | with_reducible refine Ext.alloc ?_ _ | with_reducible refine Ext.drew ?_ | (with_reducible refine Ext.setAt ?_ _ _ _ ?_; rotate_left; omega) | with_reducible refine Ext.trans ?_ (by assumption) | with_reducible exact Past.bel _ | with_reducible refine Ext.trans ?_ (Past.bel _)))⟩
  · go_enter Try.func33, Try.ntmps33
    go_wp2
    go_ret
    exact ⟨rfl, (by repeat (first | with_reducible exact Ext.refl _ | with_reducible assumption | with_reducible refine Ext.alloc ?_ _ | with_reducible refine Ext.drew ?_ | (with_reducible refine Ext.setAt ?_ _ _ _ ?_; rotate_left; omega) | with_reducible refine Ext.trans ?_ (by assumption) | with_reducible exact Past.bel _ | with_reducible refine Ext.trans ?_ (Past.bel _)))⟩
end Go.Proofs.Ytkihjplemnndeaa

namespace Go.Proofs.Ytkihjplemnndeaa
open Go.RowKit
set_option linter.unusedVariables false
set_option linter.unusedSimpArgs false

theorem yl_if (c : CalN) (y : Int) : c.yl y = if c.leap y then sm c.lp c.n else sm c.dy c.n := by
  unfold CalN.yl CalN.mo
  cases c.leap y <;> rfl
end Go.Proofs.Ytkihjplemnndeaa

namespace Go.Proofs.Ytkihjplemnndeaa
open Go.RowKit
set_option linter.unusedVariables false
set_option linter.unusedSimpArgs false

/-- a calendar behind a pointer: its cells in block g -/
structure CalP (w : World) (g : Nat) (s : ByteArray) (ma ra : Option Addr) (mc rc : Nat) (wk : Int) (nm : Nat → ByteArray) (c : CalN) : Prop where
  lt : g < w.heap.size
  c0 : w.cell? ⟨g, 0, none⟩ = some (.string s)
  c1 : w.cell? ⟨g, 1, none⟩ = some (.slice ma c.n mc)
  c2 : w.cell? ⟨g, 2, none⟩ = some (.slice ra c.nr rc)
  c3 : w.cell? ⟨g, 3, none⟩ = some (.int .i64 wk)
  mem : CalM w ma ra nm c
theorem CalP.ext {w w' : World} {g : Nat} {s : ByteArray} {ma ra : Option Addr} {mc rc : Nat} {wk : Int} {nm : Nat → ByteArray} {c : CalN} (h : CalP w g s ma ra mc rc wk nm c) (e : Ext w w') : CalP w' g s ma ra mc rc wk nm c :=
  ⟨Nat.lt_of_lt_of_le h.lt e.size, (e.cell h.lt).trans h.c0, (e.cell h.lt).trans h.c1, (e.cell h.lt).trans h.c2, (e.cell h.lt).trans h.c3, h.mem.ext e⟩
set_option maxHeartbeats 1000000 in
theorem l15Days_c (g : Nat) (s : ByteArray) (ma ra : Option Addr) (mc rc : Nat) (wk : Int) (nm : Nat → ByteArray) (c : CalN) (y : Int) (j : Nat) (w : World) (b : CalB c) (h : CalP w g s ma ra mc rc wk nm c) (hy : 0 ≤ y) (hy' : y ≤ 1000000000000) (hj : j < c.n) :
    Calls Try.prog 50 #[.pointer (some ⟨g, 0, none⟩), .int .i64 y, .int .i64 (j : Nat)] w fun e w' => e = .returned (.int .i64 (c.mo y j)) ∧ Ext w w' := by
  obtain ⟨L, hL⟩ : ∃ L, L = c.leap y := ⟨_, rfl⟩
  have nr6 := b.nr6
  have n20 := b.n20
  have hil : ∀ W, Ext w W → Calls Try.prog 68 #[.pointer (some ⟨g, 0, none⟩), .int .i64 y] W fun e w' => e = .returned (.bool L) ∧ Ext W w' := fun W hx => by
    rw [hL]; exact l15Leap_c _ _ c.nr _ _ _ _ _ _ (h.ext hx).lt (h.ext hx).c2 (by omega) hy hy' (h.ext hx).mem.ru b.ev
  have HIL := Lib.hid hil
  have hst : c.mo y j = if L then c.lp j else c.dy j := by rw [hL]; rfl
  have ST := Lib.hid hst
  obtain ⟨b1, o1, e1, hb1, q1, q2, q3⟩ := h.mem.mo.at hj
  subst e1
  have g0 := h.lt
  have p1 := h.c1
  have x0 : (0 : Int) ≤ (j : Int) := by omega
  have x1 : (j : Int) < (c.n : Int) := by omega
  clear hil hst hL h
  cases L
  all_goals
    go_enter Try.func50, Try.ntmps50
    go_wp2_with (go_at_call 68; ((with_reducible refine (HIL.out _ (by repeat (first | with_reducible exact Ext.refl _ | with_reducible assumption | with_reducible refine Ext.alloc ?_ _ | with_reducible refine Ext.drew ?_ | (with_reducible refine Ext.setAt ?_ _ _ _ ?_; rotate_left; omega) | with_reducible refine Ext.trans ?_ (by assumption) | with_reducible exact Past.bel _ | with_reducible refine Ext.trans ?_ (Past.bel _)))).mono ?_); rintro e w' ⟨rfl, hx⟩; (first | (obtain ⟨wx, rfl⟩ := Past.again hx) | (obtain ⟨wx, rfl⟩ := Past.ofd hx) | (obtain ⟨wx, rfl⟩ := Past.of hx))))
    go_ret
    exact ⟨ret_i64 (by rw [ST.out]; simp), (by repeat (first | with_reducible exact Ext.refl _ | with_reducible assumption | with_reducible refine Ext.alloc ?_ _ | with_reducible refine Ext.drew ?_ | (with_reducible refine Ext.setAt ?_ _ _ _ ?_; rotate_left; omega) | with_reducible refine Ext.trans ?_ (by assumption) | with_reducible exact Past.bel _ | with_reducible refine Ext.trans ?_ (Past.bel _)))⟩
end Go.Proofs.Ytkihjplemnndeaa

namespace Go.Proofs.Ytkihjplemnndeaa
open Go.RowKit
set_option linter.unusedVariables false
set_option linter.unusedSimpArgs false

end Go.Proofs.Ytkihjplemnndeaa

namespace Go.Proofs.Ytkihjplemnndeaa
set_option linter.unusedVariables false
/-- the rules are valid -/
def rulB (ev rs : Nat → Int) (n : Nat) : Bool := rulTo ev rs n && decide (cyY ev n ≤ 2000) && decide (n ≤ 6)
theorem rulB_bad {ev rs : Nat → Int} {n k : Nat} (hk : k < n) (hb : (inB (ev k) 1 1000 && inB (rs k) 0 (ev k - 1)) = false) : rulB ev rs n = false := by rw [rulB, rulTo_ff hk hb]; rfl
theorem rulB_many {ev rs : Nat → Int} {n k : Nat} (hk : k ≤ n) (h : 2000 < cyY ev k) : rulB ev rs n = false := by
  have := cyY_stuck h n hk
  simp only [rulB, show decide (cyY ev n ≤ 2000) = false by simpa using this, Bool.and_false, Bool.false_and]
/-- what l15Years returns -/
structure YrR (ev rs : Nat → Int) (n : Nat) (x : Int) (b : Bool) : Prop where
  ok : b = rulB ev rs n
  yr : b = true → x = cyY ev n
end Go.Proofs.Ytkihjplemnndeaa

namespace Go.Proofs.Ytkihjplemnndeaa
open Go.RowKit
set_option linter.unusedVariables false
set_option linter.unusedSimpArgs false

set_option maxHeartbeats 2000000 in
theorem l15Years_c (a : Option Addr) (n c : Nat) (ev rs : Nat → Int) (lf : Nat → Bool) (w : World) (hn : n ≤ 1048576) (hs : R3 w a n ev rs lf) :
    Calls Try.prog 46 #[.slice a n c] w fun e w' => ∃ x b, e = .returned (.tuple #[.int .i64 x, .bool b]) ∧ YrR ev rs n x b ∧ Ext w w' := by
  have HS := Lib.hid hs
  clear hs
  go_enter Try.func46, Try.ntmps46
  go_wp2_with fail
  go_loopw [4, 5] (fun y i wr => ∃ j : Nat, j ≤ n ∧ i = .int .i64 j ∧ y = .int .i64 (cyY ev j) ∧ rulTo ev rs j = true ∧ cyY ev j ≤ 2000 ∧ Ext w wr) (fun _ i _ => n - (intOf i).toNat)
  case atStart => exact ⟨0, by omega, rfl, rfl, rfl, by simp [cyY], (by repeat (first | with_reducible exact Ext.refl _ | with_reducible assumption | with_reducible refine Ext.alloc ?_ _ | with_reducible refine Ext.drew ?_ | (with_reducible refine Ext.setAt ?_ _ _ _ ?_; rotate_left; omega) | with_reducible refine Ext.trans ?_ (by assumption) | with_reducible exact Past.bel _ | with_reducible refine Ext.trans ?_ (Past.bel _)))⟩
  case round =>
    obtain ⟨j, hj, rfl, rfl, hr, h2, hbl⟩ := hrel
    have HR := Lib.hid hr
    clear hr
    by_cases hlt : j < n
    · obtain ⟨b1, o1, rfl, hb1, q1, q2, q3⟩ := (R3.ext HS.out hbl).at hlt
      by_cases t1 : inB (ev j) 1 1000 = true
      · have t1' := inB_t.1 t1
        by_cases t2 : inB (rs j) 0 (ev j - 1) = true
        · have he : ∀ i, i < j + 1 → 1 ≤ ev i ∧ ev i ≤ 1000 := fun i hi => by
            by_cases e : i = j
            · subst e; exact t1'
            · exact (rulTo_at HR.out (show i < j by omega)).1
          obtain ⟨y0, y1, g0, d0, d1, p0, p1⟩ := cyS (ev := ev) (k := j) he
          have st : cyY ev (j + 1) = cyY ev j / gcdI (cyY ev j) (ev j) * ev j := by simp only [cyY]; rw [if_pos h2]
          have hr1 : rulTo ev rs (j + 1) = true := by simp only [rulTo, HR.out, t1, t2]; rfl
          have ST := Lib.hid st
          have HR1 := Lib.hid hr1
          obtain ⟨Y, hY⟩ : ∃ Y, Y = cyY ev j := ⟨_, rfl⟩
          rw [← hY] at y0 y1 g0 d0 d1 p0 p1 h2 ⊢
          obtain ⟨G, hG⟩ : ∃ G, G = gcdI Y (ev j) := ⟨_, rfl⟩
          rw [← hG] at g0 d0 d1 p0 p1
          have w1 := IntWalk.i64_in (Y / G) (by have := d1 h2; omega)
          have w2 := IntWalk.i64_in (Y / G * ev j) (by have := p1 h2; omega)
          have u1 : Y.tdiv G = Y / G := tdiv_nn (by omega)
          have cg : ∀ W, Calls Try.prog 62 #[.int .i64 Y, .int .i64 (ev j)] W fun e w' => e = .returned (.int .i64 G) ∧ W = w' := fun W => by
            rw [hG]; exact l02Gcd_c _ _ _ (by omega) (by omega) (by omega) (by omega)
          have CG := Lib.hid cg
          have HY := Lib.hid hY
          have HG := Lib.hid hG
          have hz : Y / G * ev j = cyY ev (j + 1) := by rw [st, ← hY, ← hG]
          have HZ := Lib.hid hz
          clear st cg hY hG hr1 hz he
          by_cases hbig : 2000 < Y / G * ev j
          · go_wp2_with fail
            refine wp_region_past (by kernel_rfl) (by kernel_rfl) ?_
            repeat (go_big_quiet_step ((go_at_call 49; exact Calls.past_same (l00In_c _ _ _ _))))
            refine wpQuiet_nil ?_
            rintro _ ⟨wx, rfl⟩
            go_wp2_with fail
            refine wp_region_past (by kernel_rfl) (by kernel_rfl) ?_
            repeat (go_big_quiet_step ((go_at_call 62; exact Calls.past_same (CG.out _))))
            refine wpQuiet_nil ?_
            rintro _ ⟨wx, rfl⟩
            go_wp2_with fail
            go_ret2
            exact ⟨_, _, rfl, ⟨(rulB_many (k := j + 1) (by omega) (by rw [← HZ.out]; exact hbig)).symm, fun e => by cases e⟩, (by repeat (first | with_reducible exact Ext.refl _ | with_reducible assumption | with_reducible refine Ext.alloc ?_ _ | with_reducible refine Ext.drew ?_ | (with_reducible refine Ext.setAt ?_ _ _ _ ?_; rotate_left; omega) | with_reducible refine Ext.trans ?_ (by assumption) | with_reducible exact Past.bel _ | with_reducible refine Ext.trans ?_ (Past.bel _)))⟩
          · go_wp2_with fail
            refine wp_region_past (by kernel_rfl) (by kernel_rfl) ?_
            repeat (go_big_quiet_step ((go_at_call 49; exact Calls.past_same (l00In_c _ _ _ _))))
            refine wpQuiet_nil ?_
            rintro _ ⟨wx, rfl⟩
            go_wp2_with fail
            refine wp_region_past (by kernel_rfl) (by kernel_rfl) ?_
            repeat (go_big_quiet_step ((go_at_call 62; exact Calls.past_same (CG.out _))))
            refine wpQuiet_nil ?_
            rintro _ ⟨wx, rfl⟩
            go_wp2_with fail
            exact ⟨⟨j + 1, by omega, by go_num, by rw [HZ.out], HR1.out, by rw [← HZ.out]; omega, (by repeat (first | with_reducible exact Ext.refl _ | with_reducible assumption | with_reducible refine Ext.alloc ?_ _ | with_reducible refine Ext.drew ?_ | (with_reducible refine Ext.setAt ?_ _ _ _ ?_; rotate_left; omega) | with_reducible refine Ext.trans ?_ (by assumption) | with_reducible exact Past.bel _ | with_reducible refine Ext.trans ?_ (Past.bel _)))⟩, by simp [intOf]; omega⟩
        · have t3 : inB (rs j) 0 (ev j - 1) = false := by simpa using t2
          clear t2
          go_wp2_with fail
          refine wp_region_past (by kernel_rfl) (by kernel_rfl) ?_
          repeat (go_big_quiet_step ((go_at_call 49; exact Calls.past_same (l00In_c _ _ _ _))))
          refine wpQuiet_nil ?_
          rintro _ ⟨wx, rfl⟩
          go_wp2_with fail
          go_ret2
          exact ⟨_, _, rfl, ⟨(rulB_bad hlt (by simp [t3])).symm, fun e => by cases e⟩, (by repeat (first | with_reducible exact Ext.refl _ | with_reducible assumption | with_reducible refine Ext.alloc ?_ _ | with_reducible refine Ext.drew ?_ | (with_reducible refine Ext.setAt ?_ _ _ _ ?_; rotate_left; omega) | with_reducible refine Ext.trans ?_ (by assumption) | with_reducible exact Past.bel _ | with_reducible refine Ext.trans ?_ (Past.bel _)))⟩
      · have t3 : inB (ev j) 1 1000 = false := by simpa using t1
        clear t1
        go_wp2_with fail
        refine wp_region_past (by kernel_rfl) (by kernel_rfl) ?_
        repeat (go_big_quiet_step ((go_at_call 49; exact Calls.past_same (l00In_c _ _ _ _))))
        refine wpQuiet_nil ?_
        rintro _ ⟨wx, rfl⟩
        go_wp2_with fail
        go_ret2
        exact ⟨_, _, rfl, ⟨(rulB_bad hlt (by simp [t3])).symm, fun e => by cases e⟩, (by repeat (first | with_reducible exact Ext.refl _ | with_reducible assumption | with_reducible refine Ext.alloc ?_ _ | with_reducible refine Ext.drew ?_ | (with_reducible refine Ext.setAt ?_ _ _ _ ?_; rotate_left; omega) | with_reducible refine Ext.trans ?_ (by assumption) | with_reducible exact Past.bel _ | with_reducible refine Ext.trans ?_ (Past.bel _)))⟩
    · obtain rfl : j = n := by omega
      by_cases h6 : j ≤ 6
      · have x6 : (j : Int) ≤ 6 := by omega
        go_wp2_with fail
        go_ret2
        exact ⟨_, _, rfl, ⟨by simp [rulB, HR.out, h2, h6], fun _ => rfl⟩, (by repeat (first | with_reducible exact Ext.refl _ | with_reducible assumption | with_reducible refine Ext.alloc ?_ _ | with_reducible refine Ext.drew ?_ | (with_reducible refine Ext.setAt ?_ _ _ _ ?_; rotate_left; omega) | with_reducible refine Ext.trans ?_ (by assumption) | with_reducible exact Past.bel _ | with_reducible refine Ext.trans ?_ (Past.bel _)))⟩
      · have x6 : ¬ (j : Int) ≤ 6 := by omega
        go_wp2_with fail
        go_ret2
        exact ⟨_, .inl ⟨rfl, ⟨by simp [rulB, h6], fun e => by cases e⟩, (by repeat (first | with_reducible exact Ext.refl _ | with_reducible assumption | with_reducible refine Ext.alloc ?_ _ | with_reducible refine Ext.drew ?_ | (with_reducible refine Ext.setAt ?_ _ _ _ ?_; rotate_left; omega) | with_reducible refine Ext.trans ?_ (by assumption) | with_reducible exact Past.bel _ | with_reducible refine Ext.trans ?_ (Past.bel _)))⟩⟩
end Go.Proofs.Ytkihjplemnndeaa

namespace Go.Proofs.Ytkihjplemnndeaa
set_option linter.unusedVariables false
/-- byte i of a text, as a number -/
def btN (s : ByteArray) (i : Nat) : Nat := (s.data.toList.getD i 0).toNat
/-- byte c may stand at place i of a name -/
def chN (i c : Nat) : Bool := decide ((97 ≤ c ∧ c ≤ 122) ∨ (i ≠ 0 ∧ ((48 ≤ c ∧ c ≤ 57) ∨ c = 45)))
def nmTo (s : ByteArray) : Nat → Bool
  | 0 => true
  | k + 1 => nmTo s k && chN k (btN s k)
theorem nmTo_ff {s : ByteArray} {n k : Nat} (hk : k < n) (h : chN k (btN s k) = false) : nmTo s n = false := by
  induction n with
  | zero => omega
  | succ n ih =>
    by_cases e : k = n
    · subst e; simp only [nmTo, h, Bool.and_false]
    · simp only [nmTo, ih (by omega), Bool.false_and]
/-- a text is a name -/
def isNm (s : ByteArray) : Bool := decide (1 ≤ s.size) && decide (s.size ≤ 12) && nmTo s s.size
theorem isNm_0 {s : ByteArray} (h : s.size < 1) : isNm s = false := by simp [isNm]; omega
theorem isNm_12 {s : ByteArray} (h : 12 < s.size) : isNm s = false := by simp [isNm]; omega
theorem isNm_ff {s : ByteArray} {k : Nat} (hk : k < s.size) (h : chN k (btN s k) = false) : isNm s = false := by simp [isNm, nmTo_ff hk h]
theorem isNm_tt {s : ByteArray} (h1 : 1 ≤ s.size) (h2 : s.size ≤ 12) (h : nmTo s s.size = true) : isNm s = true := by simp [isNm, h, h1, h2]
def chS (c : Nat) : Bool := decide (97 ≤ c ∧ c ≤ 122)
def chD (c : Nat) : Bool := decide (48 ≤ c ∧ c ≤ 57)
theorem btN_at {s : ByteArray} {j : Nat} (h : j < s.size) : s[j].toNat = btN s j := by
  have h' : j < s.data.size := h
  unfold btN
  rw [List.getD_eq_getElem?_getD, List.getElem?_eq_getElem (by simpa using h)]
  rfl
theorem chN_S {i c : Nat} (h : chS c = true) : chN i c = true := by simp [chS] at h; simp [chN]; omega
theorem chN_D {i c : Nat} (hi : i ≠ 0) (h : chD c = true) : chN i c = true := by simp [chD] at h; simp [chN]; omega
theorem chN_m {i c : Nat} (hi : i ≠ 0) (h : c = 45) : chN i c = true := by simp [chN]; omega
theorem chN_0 {c : Nat} (h : chS c = false) : chN 0 c = false := by simp [chS] at h; simp [chN]; omega
theorem chN_f {i c : Nat} (h : chS c = false) (h2 : chD c = false) (h3 : c ≠ 45) : chN i c = false := by simp [chS] at h; simp [chD] at h2; simp [chN]; omega
end Go.Proofs.Ytkihjplemnndeaa

namespace Go.Proofs.Ytkihjplemnndeaa
open Go.RowKit
set_option linter.unusedVariables false
set_option linter.unusedSimpArgs false

open Go.Lib in
theorem ext_bytes (w : World) (e : TypeId) (s : ByteArray) : Ext w (Lib.bytesWorld w e s) :=
  below_freeze ((Below.drew (Below.refl _ w)).alloc (Nat.le_refl _) _) (p := ⟨w.heap.size, _, none⟩) (Nat.le_refl _) 1
set_option maxHeartbeats 2000000 in
theorem implIsName_c (s : ByteArray) (w : World) (hz : s.size ≤ 9223372036854775807) :
    Calls Try.prog 53 #[.string s] w fun e w' => e = .returned (.bool (isNm s)) ∧ Ext w w' := by
  have hz' : (s.size : Int) ≤ 9223372036854775807 := by omega
  by_cases z1 : s.size < 1
  · have y1 : (s.size : Int) < 1 := by omega
    go_enter Try.func53, Try.ntmps53
    go_wp2_with fail
    go_ret
    exact ⟨ret_bool (isNm_0 z1).symm, (by repeat (first | with_reducible exact Ext.refl _ | with_reducible assumption | with_reducible refine Ext.alloc ?_ _ | with_reducible refine Ext.drew ?_ | (with_reducible refine Ext.setAt ?_ _ _ _ ?_; rotate_left; omega) | with_reducible refine Ext.trans ?_ (by assumption) | with_reducible exact Past.bel _ | with_reducible refine Ext.trans ?_ (Past.bel _)))⟩
  · have y1 : ¬ (s.size : Int) < 1 := by omega
    by_cases z2 : 12 < s.size
    · have y2 : (12 : Int) < s.size := by omega
      go_enter Try.func53, Try.ntmps53
      go_wp2_with fail
      go_ret
      exact ⟨ret_bool (isNm_12 z2).symm, (by repeat (first | with_reducible exact Ext.refl _ | with_reducible assumption | with_reducible refine Ext.alloc ?_ _ | with_reducible refine Ext.drew ?_ | (with_reducible refine Ext.setAt ?_ _ _ _ ?_; rotate_left; omega) | with_reducible refine Ext.trans ?_ (by assumption) | with_reducible exact Past.bel _ | with_reducible refine Ext.trans ?_ (Past.bel _)))⟩
    · have y2 : ¬ (12 : Int) < s.size := by omega
      have hcv := Lib.run_convert_string_bytes (P := Try.prog) w 9 98 5 s (u := .string) Try.underlying9 Try.underlying98 Try.underlying5
      have hbw : Ext w (Lib.bytesWorld w 5 s) := ext_bytes w 5 s
      have hcl : ∀ j, j < s.size → (Lib.bytesWorld w 5 s).cell? ⟨w.heap.size, j, none⟩ = some (.int .u8 (btN s j : Nat)) := fun j hj => Lib.bytesWorld_cell w 5 s j hj
      obtain ⟨W1, hW⟩ : ∃ W1, W1 = Lib.bytesWorld w 5 s := ⟨_, rfl⟩
      rw [← hW] at hcv hbw hcl
      have HC := Lib.hid hcl
      clear hcl hW
      go_enter Try.func53, Try.ntmps53
      go_wp2_with fail
      clear hcv
      go_loop [18] (fun i => ∃ j : Nat, j ≤ s.size ∧ i = .int .i64 j ∧ nmTo s j = true) (fun i => s.size - (intOf i).toNat)
      case atStart => exact ⟨0, by omega, rfl, rfl⟩
      case round =>
        obtain ⟨j, hj, rfl, hr⟩ := hrel
        have HR := Lib.hid hr
        clear hr
        by_cases hlt : j < s.size
        · have q1 := HC.out j hlt
          obtain ⟨C, hC⟩ : ∃ C, C = btN s j := ⟨_, rfl⟩
          rw [← hC] at q1
          have HB := Lib.hid hC
          clear hC
          go_wp2_with fail
          all_goals first
            | (go_ret; exact ⟨ret_bool (isNm_ff hlt (by rw [← HB.out]; clear HC q1 hbw HB HR; grind [chN])).symm, (by repeat (first | with_reducible exact Ext.refl _ | with_reducible assumption | with_reducible refine Ext.alloc ?_ _ | with_reducible refine Ext.drew ?_ | (with_reducible refine Ext.setAt ?_ _ _ _ ?_; rotate_left; omega) | with_reducible refine Ext.trans ?_ (by assumption) | with_reducible exact Past.bel _ | with_reducible refine Ext.trans ?_ (Past.bel _)))⟩)
            | (refine ⟨⟨j + 1, by omega, by go_num, ?_⟩, by simp [intOf]; omega⟩; have h2 : chN j C = true := (by clear HC q1 hbw HB HR; grind [chN]); rw [HB.out] at h2; simp only [nmTo, HR.out, h2]; rfl)
        · obtain rfl : j = s.size := by omega
          go_wp2_with fail
          go_ret
          exact ⟨ret_bool (isNm_tt (by omega) (by omega) HR.out).symm, (by repeat (first | with_reducible exact Ext.refl _ | with_reducible assumption | with_reducible refine Ext.alloc ?_ _ | with_reducible refine Ext.drew ?_ | (with_reducible refine Ext.setAt ?_ _ _ _ ?_; rotate_left; omega) | with_reducible refine Ext.trans ?_ (by assumption) | with_reducible exact Past.bel _ | with_reducible refine Ext.trans ?_ (Past.bel _)))⟩
end Go.Proofs.Ytkihjplemnndeaa

namespace Go.Proofs.Ytkihjplemnndeaa
open Go.RowKit
set_option linter.unusedVariables false
set_option linter.unusedSimpArgs false

theorem l01Small_c (c : Nat) (w : World) : Calls Try.prog 66 #[.int .u8 (c : Nat)] w fun e w' => e = .returned (.bool (chS c)) ∧ w = w' := by
  go_enter Try.func66, Try.ntmps66
  go_wp2
  all_goals (go_ret; refine ⟨ret_bool ?_, rfl⟩; rw [Bool.eq_iff_iff]; simp [chS]; try omega)
theorem l01Digit_c (c : Nat) (w : World) : Calls Try.prog 67 #[.int .u8 (c : Nat)] w fun e w' => e = .returned (.bool (chD c)) ∧ w = w' := by
  go_enter Try.func67, Try.ntmps67
  go_wp2
  all_goals (go_ret; refine ⟨ret_bool ?_, rfl⟩; rw [Bool.eq_iff_iff]; simp [chD]; try omega)
set_option maxHeartbeats 2000000 in
theorem specIsName_c (s : ByteArray) (w : World) (hz : s.size ≤ 9223372036854775807) :
    Calls Try.prog 47 #[.string s] w fun e w' => e = .returned (.bool (isNm s)) ∧ w = w' := by
  have hz' : (s.size : Int) ≤ 9223372036854775807 := by omega
  by_cases z1 : s.size < 1
  · obtain rfl : s = ⟨#[]⟩ := by
      obtain ⟨⟨l⟩⟩ := s
      cases l with
      | nil => rfl
      | cons x l => simp [ByteArray.size] at z1
    go_enter Try.func47, Try.ntmps47
    go_wp2_with fail
    go_ret
    exact ⟨ret_bool (isNm_0 z1).symm, rfl⟩
  · have y0 : ¬ s.toList = [] := fun e => by have e2 := (toList_nil_iff_emptyBytes s).1 e; subst e2; exact z1 (by decide)
    have y1 : s.toList.isEmpty = false := by simpa using y0
    by_cases z2 : 12 < s.size
    · have y2 : (12 : Int) < s.size := by omega
      go_enter Try.func47, Try.ntmps47
      go_wp2_with fail
      go_ret
      exact ⟨ret_bool (isNm_12 z2).symm, rfl⟩
    · have y2 : ¬ (12 : Int) < s.size := by omega
      have y3 : (0 : Int) < s.size := by omega
      have y4 : 0 < s.size := by omega
      cases hs : chS s[0].toNat
      · have HS := Lib.hid hs
        clear hs
        go_enter Try.func47, Try.ntmps47
        go_wp2_with (go_at_call 66; ((with_reducible refine (l01Small_c _ _).mono ?_); rintro e w' ⟨rfl, rfl⟩; rw [HS.out]))
        go_ret
        exact ⟨ret_bool (isNm_ff y4 (chN_0 (by rw [← btN_at y4]; exact HS.out))).symm, rfl⟩
      · have HS := Lib.hid hs
        clear hs
        go_enter Try.func47, Try.ntmps47
        go_wp2_with (go_at_call 66; ((with_reducible refine (l01Small_c _ _).mono ?_); rintro e w' ⟨rfl, rfl⟩; rw [HS.out]))
        go_loop [3] (fun i => ∃ j : Nat, j ≤ s.size ∧ i = .int .i64 j ∧ nmTo s j = true) (fun i => s.size - (intOf i).toNat)
        case atStart => exact ⟨0, by omega, rfl, rfl⟩
        case round =>
          obtain ⟨j, hj, rfl, hr⟩ := hrel
          have HR := Lib.hid hr
          clear hr
          by_cases hlt : j < s.size
          · have HB := Lib.hid (btN_at hlt)
            by_cases h0 : j = 0
            · subst h0
              go_wp2_with (go_at_call 66; ((with_reducible refine (l01Small_c _ _).mono ?_); rintro e w' ⟨rfl, rfl⟩; rw [HS.out]))
              exact ⟨⟨1, by omega, rfl, by simp only [nmTo, HR.out]; rw [← HB.out, chN_S HS.out]; rfl⟩, by simp [intOf]; omega⟩
            · have N0 := Lib.hid h0
              clear h0
              cases a1 : chS s[j].toNat
              · cases a2 : chD s[j].toNat
                · by_cases a3 : s[j].toNat = 45
                  · have b3 : ((s[j].toNat : Int) != 45) = false := by simp; omega
                    have A1 := Lib.hid a1; have A2 := Lib.hid a2; have A3 := Lib.hid a3
                    clear a1 a2 a3
                    go_wp2_with (first | (go_at_call 66; ((with_reducible refine (l01Small_c _ _).mono ?_); rintro e w' ⟨rfl, rfl⟩; rw [A1.out])) | (go_at_call 67; ((with_reducible refine (l01Digit_c _ _).mono ?_); rintro e w' ⟨rfl, rfl⟩; rw [A2.out])))
                    exact ⟨⟨j + 1, by omega, by go_num, by simp only [nmTo, HR.out]; rw [← HB.out, chN_m N0.out A3.out]; rfl⟩, by simp [intOf]; omega⟩
                  · have b3 : ((s[j].toNat : Int) != 45) = true := by simp; omega
                    have A1 := Lib.hid a1; have A2 := Lib.hid a2; have A3 := Lib.hid a3
                    clear a1 a2 a3
                    go_wp2_with (first | (go_at_call 66; ((with_reducible refine (l01Small_c _ _).mono ?_); rintro e w' ⟨rfl, rfl⟩; rw [A1.out])) | (go_at_call 67; ((with_reducible refine (l01Digit_c _ _).mono ?_); rintro e w' ⟨rfl, rfl⟩; rw [A2.out])))
                    go_ret
                    exact ⟨ret_bool (isNm_ff hlt (by rw [← HB.out]; exact chN_f A1.out A2.out A3.out)).symm, rfl⟩
                · have A1 := Lib.hid a1; have A2 := Lib.hid a2
                  clear a1 a2
                  go_wp2_with (first | (go_at_call 66; ((with_reducible refine (l01Small_c _ _).mono ?_); rintro e w' ⟨rfl, rfl⟩; rw [A1.out])) | (go_at_call 67; ((with_reducible refine (l01Digit_c _ _).mono ?_); rintro e w' ⟨rfl, rfl⟩; rw [A2.out])))
                  exact ⟨⟨j + 1, by omega, by go_num, by simp only [nmTo, HR.out]; rw [← HB.out, chN_D N0.out A2.out]; rfl⟩, by simp [intOf]; omega⟩
              · have A1 := Lib.hid a1
                clear a1
                go_wp2_with (first | (go_at_call 66; ((with_reducible refine (l01Small_c _ _).mono ?_); rintro e w' ⟨rfl, rfl⟩; rw [A1.out])))
                exact ⟨⟨j + 1, by omega, by go_num, by simp only [nmTo, HR.out]; rw [← HB.out, chN_S A1.out]; rfl⟩, by simp [intOf]; omega⟩
          · obtain rfl : j = s.size := by omega
            go_wp2_with fail
            go_ret
            exact ⟨ret_bool (isNm_tt (by omega) (by omega) HR.out).symm, rfl⟩
end Go.Proofs.Ytkihjplemnndeaa

namespace Go.Proofs.Ytkihjplemnndeaa
set_option linter.unusedVariables false
/-- none of the first j names is the one at place k -/
def frTo (nm : Nat → ByteArray) (k : Nat) : Nat → Bool
  | 0 => true
  | j + 1 => frTo nm k j && !decide (nm j = nm k)
theorem frTo_ff {nm : Nat → ByteArray} {k n j : Nat} (hj : j < n) (h : nm j = nm k) : frTo nm k n = false := by
  induction n with
  | zero => omega
  | succ n ih =>
    by_cases e : j = n
    · subst e; simp [frTo, h]
    · simp only [frTo, ih (by omega), Bool.false_and]
theorem frTo_at {nm : Nat → ByteArray} {k n j : Nat} (h : frTo nm k n = true) (hj : j < n) : ¬ nm j = nm k := fun e => by rw [frTo_ff hj e] at h; cases h
/-- month k is valid, as the one behind the first k -/
def monA (nm : Nat → ByteArray) (dy lp : Nat → Int) (k : Nat) : Bool := isNm (nm k) && (inB (dy k) 1 60 && (inB (lp k) 1 60 && frTo nm k k))
def monTo (nm : Nat → ByteArray) (dy lp : Nat → Int) : Nat → Bool
  | 0 => true
  | k + 1 => monTo nm dy lp k && monA nm dy lp k
theorem monTo_ff {nm : Nat → ByteArray} {dy lp : Nat → Int} {n k : Nat} (hk : k < n) (h : monA nm dy lp k = false) : monTo nm dy lp n = false := by
  induction n with
  | zero => omega
  | succ n ih =>
    by_cases e : k = n
    · subst e; simp only [monTo, h, Bool.and_false]
    · simp only [monTo, ih (by omega), Bool.false_and]
theorem monTo_at {nm : Nat → ByteArray} {dy lp : Nat → Int} {n k : Nat} (h : monTo nm dy lp n = true) (hk : k < n) : monA nm dy lp k = true := by
  cases e : monA nm dy lp k
  · rw [monTo_ff hk e] at h; cases h
  · rfl
theorem monA_1 {nm : Nat → ByteArray} {dy lp : Nat → Int} {k : Nat} (h : isNm (nm k) = false) : monA nm dy lp k = false := by simp [monA, h]
theorem monA_2 {nm : Nat → ByteArray} {dy lp : Nat → Int} {k : Nat} (h : inB (dy k) 1 60 = false) : monA nm dy lp k = false := by simp [monA, h]
theorem monA_3 {nm : Nat → ByteArray} {dy lp : Nat → Int} {k : Nat} (h : inB (lp k) 1 60 = false) : monA nm dy lp k = false := by simp [monA, h]
theorem monA_4 {nm : Nat → ByteArray} {dy lp : Nat → Int} {k : Nat} (h : frTo nm k k = false) : monA nm dy lp k = false := by simp [monA, h]
theorem monA_t {nm : Nat → ByteArray} {dy lp : Nat → Int} {k : Nat} (h1 : isNm (nm k) = true) (h2 : inB (dy k) 1 60 = true) (h3 : inB (lp k) 1 60 = true) (h4 : frTo nm k k = true) : monA nm dy lp k = true := by simp [monA, h1, h2, h3, h4]
def monB (nm : Nat → ByteArray) (dy lp : Nat → Int) (n : Nat) : Bool := monTo nm dy lp n && inB (n : Int) 1 20
/-- a calendar is valid: its name, the names of its months, its numbers, its week -/
def calB (s : ByteArray) (nm : Nat → ByteArray) (c : CalN) (wk : Int) : Bool := rulB c.ev c.rs c.nr && (isNm s && (monB nm c.dy c.lp c.n && inB wk 1 12))
theorem calB_b {s : ByteArray} {nm : Nat → ByteArray} {c : CalN} {wk : Int} (h : calB s nm c wk = true) : CalB c := by
  simp only [calB, monB, rulB, Bool.and_eq_true, decide_eq_true_eq, inB_t] at h
  obtain ⟨⟨⟨h1, h2⟩, h3⟩, h4, ⟨h5, h6⟩, h7⟩ := h
  have hm : ∀ j, j < c.n → inB (c.dy j) 1 60 = true ∧ inB (c.lp j) 1 60 = true := fun j hj => by
    have := monTo_at h5 hj
    simp only [monA, Bool.and_eq_true] at this
    exact ⟨this.2.1, this.2.2.1⟩
  exact ⟨h3, by omega, by omega, fun j hj => (rulTo_at h1 hj).1, fun j hj => (rulTo_at h1 hj).2, fun j hj => inB_t.1 (hm j hj).1, fun j hj => inB_t.1 (hm j hj).2, h2⟩
section
variable {s : ByteArray} {nm : Nat → ByteArray} {c : CalN} {wk : Int}
theorem calB_1 (h : isNm s = false) : calB s nm c wk = false := by simp [calB, h]
theorem calB_2 (h : inB (c.n : Int) 1 20 = false) : calB s nm c wk = false := by simp [calB, monB, h]
theorem calB_3 (h : 6 < c.nr) : calB s nm c wk = false := by simp [calB, rulB]; omega
theorem calB_4 (h : inB wk 1 12 = false) : calB s nm c wk = false := by simp [calB, h]
theorem calB_5 {k : Nat} (hk : k < c.n) (h : monA nm c.dy c.lp k = false) : calB s nm c wk = false := by simp [calB, monB, monTo_ff hk h]
theorem calB_6 {k : Nat} (hk : k < c.nr) (h : (inB (c.ev k) 1 1000 && inB (c.rs k) 0 (c.ev k - 1)) = false) : calB s nm c wk = false := by simp only [calB, rulB_bad hk h, Bool.false_and]
theorem calB_7 (h1 : isNm s = true) (h2 : inB (c.n : Int) 1 20 = true) (h3 : c.nr ≤ 6) (h4 : inB wk 1 12 = true) (h5 : monTo nm c.dy c.lp c.n = true) (h6 : rulTo c.ev c.rs c.nr = true) : calB s nm c wk = decide (cyY c.ev c.nr ≤ 2000) := by simp [calB, monB, rulB, h1, h2, h3, h4, h5, h6]
end
end Go.Proofs.Ytkihjplemnndeaa

namespace Go.Proofs.Ytkihjplemnndeaa
open Go.RowKit
set_option linter.unusedVariables false
set_option linter.unusedSimpArgs false

theorem bs_ne {x y : ByteArray} (h : ¬ x = y) : (x.toList == y.toList) = false := by
  simp only [ByteArray.toList_eq, beq_eq_false_iff_ne, ne_eq]
  intro e
  obtain ⟨⟨a⟩⟩ := x; obtain ⟨⟨b⟩⟩ := y
  simp only at e; subst e; exact h rfl
theorem bs_eq {x y : ByteArray} (h : x = y) : (x.toList == y.toList) = true := by subst h; simp
set_option maxHeartbeats 2000000 in
theorem l15Months_c (a : Option Addr) (n c : Nat) (nm : Nat → ByteArray) (dy lp : Nat → Int) (w : World) (hn : n ≤ 1048576) (hs : S3 w a n nm dy lp) (hz : ∀ i, i < n → (nm i).size ≤ 9223372036854775807) :
    Calls Try.prog 48 #[.slice a n c] w fun e w' => e = .returned (.bool (monB nm dy lp n)) ∧ Ext w w' := by
  have HS := Lib.hid hs
  have HZ := Lib.hid hz
  clear hs hz
  go_enter Try.func48, Try.ntmps48
  go_wp2_with fail
  go_loopw [3] (fun i wr => ∃ j : Nat, j ≤ n ∧ i = .int .i64 j ∧ monTo nm dy lp j = true ∧ Ext w wr) (fun i _ => n - (intOf i).toNat)
  case atStart => exact ⟨0, by omega, rfl, rfl, (by repeat (first | with_reducible exact Ext.refl _ | with_reducible assumption | with_reducible refine Ext.alloc ?_ _ | with_reducible refine Ext.drew ?_ | (with_reducible refine Ext.setAt ?_ _ _ _ ?_; rotate_left; omega) | with_reducible refine Ext.trans ?_ (by assumption) | with_reducible exact Past.bel _ | with_reducible refine Ext.trans ?_ (Past.bel _)))⟩
  case round =>
    obtain ⟨j, hj, rfl, hr, hbl⟩ := hrel
    have HR := Lib.hid hr
    clear hr
    by_cases hlt : j < n
    · have hsr := S3.ext HS.out hbl
      have HSR := Lib.hid hsr
      obtain ⟨b1, o1, rfl, hb1, q1, q2, q3⟩ := hsr.at hlt
      clear hsr
      have zj := HZ.out j hlt
      cases h1 : isNm (nm j)
      · go_wp2_with (go_at_call 47; ((with_reducible refine (specIsName_c _ _ zj).mono ?_); rintro e w' ⟨rfl, rfl⟩))
        go_ret
        exact ⟨ret_bool (by unfold monB; rw [monTo_ff hlt (monA_1 h1)]; rfl), (by repeat (first | with_reducible exact Ext.refl _ | with_reducible assumption | with_reducible refine Ext.alloc ?_ _ | with_reducible refine Ext.drew ?_ | (with_reducible refine Ext.setAt ?_ _ _ _ ?_; rotate_left; omega) | with_reducible refine Ext.trans ?_ (by assumption) | with_reducible exact Past.bel _ | with_reducible refine Ext.trans ?_ (Past.bel _)))⟩
      · cases h2 : inB (dy j) 1 60
        · go_wp2_with (first | (go_at_call 47; ((with_reducible refine (specIsName_c _ _ zj).mono ?_); rintro e w' ⟨rfl, rfl⟩)) | (go_at_call 49; ((with_reducible refine (l00In_c _ _ _ _).mono ?_); rintro e w' ⟨rfl, rfl⟩)))
          go_ret
          exact ⟨ret_bool (by unfold monB; rw [monTo_ff hlt (monA_2 h2)]; rfl), (by repeat (first | with_reducible exact Ext.refl _ | with_reducible assumption | with_reducible refine Ext.alloc ?_ _ | with_reducible refine Ext.drew ?_ | (with_reducible refine Ext.setAt ?_ _ _ _ ?_; rotate_left; omega) | with_reducible refine Ext.trans ?_ (by assumption) | with_reducible exact Past.bel _ | with_reducible refine Ext.trans ?_ (Past.bel _)))⟩
        · cases h3 : inB (lp j) 1 60
          · go_wp2_with (first | (go_at_call 47; ((with_reducible refine (specIsName_c _ _ zj).mono ?_); rintro e w' ⟨rfl, rfl⟩)) | (go_at_call 49; ((with_reducible refine (l00In_c _ _ _ _).mono ?_); rintro e w' ⟨rfl, rfl⟩)))
            go_ret
            exact ⟨ret_bool (by unfold monB; rw [monTo_ff hlt (monA_3 h3)]; rfl), (by repeat (first | with_reducible exact Ext.refl _ | with_reducible assumption | with_reducible refine Ext.alloc ?_ _ | with_reducible refine Ext.drew ?_ | (with_reducible refine Ext.setAt ?_ _ _ _ ?_; rotate_left; omega) | with_reducible refine Ext.trans ?_ (by assumption) | with_reducible exact Past.bel _ | with_reducible refine Ext.trans ?_ (Past.bel _)))⟩
          · go_wp2_with (first | (go_at_call 47; ((with_reducible refine (specIsName_c _ _ zj).mono ?_); rintro e w' ⟨rfl, rfl⟩)) | (go_at_call 49; ((with_reducible refine (l00In_c _ _ _ _).mono ?_); rintro e w' ⟨rfl, rfl⟩)))
            have H1 := Lib.hid h1; have H2 := Lib.hid h2; have H3 := Lib.hid h3
            clear h1 h2 h3 q1 q2 q3
            go_loopw [4] (fun k ws => ∃ i : Nat, i ≤ j ∧ k = .int .i64 i ∧ frTo nm j i = true ∧ Ext wr ws) (fun k _ => j - (intOf k).toNat)
            case atStart => exact ⟨0, by omega, rfl, rfl, (by repeat (first | with_reducible exact Ext.refl _ | with_reducible assumption | with_reducible refine Ext.alloc ?_ _ | with_reducible refine Ext.drew ?_ | (with_reducible refine Ext.setAt ?_ _ _ _ ?_; rotate_left; omega) | with_reducible refine Ext.trans ?_ (by assumption) | with_reducible exact Past.bel _ | with_reducible refine Ext.trans ?_ (Past.bel _)))⟩
            case round =>
              obtain ⟨i, hi, rfl, hf, hbl2⟩ := hrel
              have HF := Lib.hid hf
              clear hf
              by_cases hij : i < j
              · obtain ⟨b1, o1, e1, hb1, q1, _, _⟩ := (S3.ext HSR.out hbl2).at (show i < n by omega)
                obtain ⟨b2, o2, e2, hb2, q2, _, _⟩ := (S3.ext HSR.out hbl2).at hlt
                cases e1
                cases e2
                by_cases e : nm i = nm j
                · have d1 : decide (nm i = nm j) = true := by simpa using e
                  have d2 := bs_eq e
                  have E := Lib.hid e
                  clear e
                  go_wp2_with fail
                  refine wp_region_past (by kernel_rfl) (by kernel_rfl) ?_
                  repeat (go_big_quiet_step (fail))
                  refine wpQuiet_nil ?_
                  rintro _ ⟨wx, rfl⟩
                  go_wp2_with fail
                  go_ret
                  exact ⟨ret_bool (by unfold monB; rw [monTo_ff hlt (monA_4 (frTo_ff hij E.out))]; rfl), (by repeat (first | with_reducible exact Ext.refl _ | with_reducible assumption | with_reducible refine Ext.alloc ?_ _ | with_reducible refine Ext.drew ?_ | (with_reducible refine Ext.setAt ?_ _ _ _ ?_; rotate_left; omega) | with_reducible refine Ext.trans ?_ (by assumption) | with_reducible exact Past.bel _ | with_reducible refine Ext.trans ?_ (Past.bel _)))⟩
                · have d1 : decide (nm i = nm j) = false := by simpa using e
                  have d2 := bs_ne e
                  have E := Lib.hid e
                  clear e
                  go_wp2_with fail
                  refine wp_region_past (by kernel_rfl) (by kernel_rfl) ?_
                  repeat (go_big_quiet_step (fail))
                  refine wpQuiet_nil ?_
                  rintro _ ⟨wx, rfl⟩
                  go_wp2_with fail
                  exact ⟨⟨i + 1, by omega, by go_num, by simp only [frTo, HF.out, d1]; rfl, (by repeat (first | with_reducible exact Ext.refl _ | with_reducible assumption | with_reducible refine Ext.alloc ?_ _ | with_reducible refine Ext.drew ?_ | (with_reducible refine Ext.setAt ?_ _ _ _ ?_; rotate_left; omega) | with_reducible refine Ext.trans ?_ (by assumption) | with_reducible exact Past.bel _ | with_reducible refine Ext.trans ?_ (Past.bel _)))⟩, by simp [intOf]; omega⟩
              · obtain rfl : i = j := by omega
                go_wp2_with fail
                exact ⟨⟨i + 1, by omega, by go_num, by simp only [monTo, HR.out, monA_t H1.out H2.out H3.out HF.out]; rfl, (by repeat (first | with_reducible exact Ext.refl _ | with_reducible assumption | with_reducible refine Ext.alloc ?_ _ | with_reducible refine Ext.drew ?_ | (with_reducible refine Ext.setAt ?_ _ _ _ ?_; rotate_left; omega) | with_reducible refine Ext.trans ?_ (by assumption) | with_reducible exact Past.bel _ | with_reducible refine Ext.trans ?_ (Past.bel _)))⟩, by simp [intOf]; omega⟩
    · obtain rfl : j = n := by omega
      go_wp2_with (go_at_call 49; ((with_reducible refine (l00In_c _ _ _ _).mono ?_); rintro e w' ⟨rfl, rfl⟩))
      go_ret
      exact ⟨ret_bool (by unfold monB; rw [HR.out]; rfl), (by repeat (first | with_reducible exact Ext.refl _ | with_reducible assumption | with_reducible refine Ext.alloc ?_ _ | with_reducible refine Ext.drew ?_ | (with_reducible refine Ext.setAt ?_ _ _ _ ?_; rotate_left; omega) | with_reducible refine Ext.trans ?_ (by assumption) | with_reducible exact Past.bel _ | with_reducible refine Ext.trans ?_ (Past.bel _)))⟩
end Go.Proofs.Ytkihjplemnndeaa

namespace Go.Proofs.Ytkihjplemnndeaa
open Go.RowKit
set_option linter.unusedVariables false
set_option linter.unusedSimpArgs false

set_option maxHeartbeats 2000000 in
theorem l15Ok_c (g : Nat) (s : ByteArray) (ma ra : Option Addr) (mc rc : Nat) (wk : Int) (nm : Nat → ByteArray) (c : CalN) (w : World) (hm : c.n ≤ 1048576) (hr : c.nr ≤ 1048576) (hs : s.size ≤ 9223372036854775807) (hz : ∀ i, i < c.n → (nm i).size ≤ 9223372036854775807) (h : CalP w g s ma ra mc rc wk nm c) :
    Calls Try.prog 23 #[.pointer (some ⟨g, 0, none⟩)] w fun e w' => e = .returned (.bool (calB s nm c wk)) ∧ Ext w w' := by
  have H := Lib.hid h
  have HZ := Lib.hid hz
  have g0 := h.lt
  have p0 := h.c0
  have p1 := h.c1
  have p2 := h.c2
  have p3 := h.c3
  have hy : ∀ W, Ext w W → Calls Try.prog 46 #[.slice ra c.nr rc] W fun e w' => ∃ x, e = .returned (.tuple #[.int .i64 x, .bool (rulB c.ev c.rs c.nr)]) ∧ Ext W w' := fun W hx =>
    (l15Years_c _ _ _ _ _ _ W hr (h.ext hx).mem.ru).mono fun e w' ⟨x, b, he, hb, hx⟩ => ⟨x, by rw [he, hb.ok], hx⟩
  have HY := Lib.hid hy
  clear h hz hy
  cases h1 : rulB c.ev c.rs c.nr
  · have H1 := Lib.hid h1
    rw [h1] at HY
    clear h1
    go_enter Try.func23, Try.ntmps23
    go_wp2_with fail
    refine (HY.out _ (by repeat (first | with_reducible exact Ext.refl _ | with_reducible assumption | with_reducible refine Ext.alloc ?_ _ | with_reducible refine Ext.drew ?_ | (with_reducible refine Ext.setAt ?_ _ _ _ ?_; rotate_left; omega) | with_reducible refine Ext.trans ?_ (by assumption) | with_reducible exact Past.bel _ | with_reducible refine Ext.trans ?_ (Past.bel _)))).mono ?_
    rintro e w' ⟨x, rfl, hx1⟩
    (first | (obtain ⟨wx1, rfl⟩ := Past.again hx1) | (obtain ⟨wx1, rfl⟩ := Past.of hx1))
    go_wp2_with fail
    go_ret
    exact ⟨ret_bool (by unfold calB; rw [H1.out]; rfl), (by repeat (first | with_reducible exact Ext.refl _ | with_reducible assumption | with_reducible refine Ext.alloc ?_ _ | with_reducible refine Ext.drew ?_ | (with_reducible refine Ext.setAt ?_ _ _ _ ?_; rotate_left; omega) | with_reducible refine Ext.trans ?_ (by assumption) | with_reducible exact Past.bel _ | with_reducible refine Ext.trans ?_ (Past.bel _)))⟩
  · have H1 := Lib.hid h1
    rw [h1] at HY
    clear h1
    go_enter Try.func23, Try.ntmps23
    go_wp2_with fail
    refine (HY.out _ (by repeat (first | with_reducible exact Ext.refl _ | with_reducible assumption | with_reducible refine Ext.alloc ?_ _ | with_reducible refine Ext.drew ?_ | (with_reducible refine Ext.setAt ?_ _ _ _ ?_; rotate_left; omega) | with_reducible refine Ext.trans ?_ (by assumption) | with_reducible exact Past.bel _ | with_reducible refine Ext.trans ?_ (Past.bel _)))).mono ?_
    rintro e w' ⟨x, rfl, hx1⟩
    (first | (obtain ⟨wx1, rfl⟩ := Past.again hx1) | (obtain ⟨wx1, rfl⟩ := Past.of hx1))
    cases h2 : isNm s
    · go_wp2_with (go_at_call 47; ((with_reducible refine (specIsName_c _ _ hs).mono ?_); rintro e w' ⟨rfl, rfl⟩))
      go_ret
      exact ⟨ret_bool (by unfold calB; rw [H1.out, h2]; rfl), (by repeat (first | with_reducible exact Ext.refl _ | with_reducible assumption | with_reducible refine Ext.alloc ?_ _ | with_reducible refine Ext.drew ?_ | (with_reducible refine Ext.setAt ?_ _ _ _ ?_; rotate_left; omega) | with_reducible refine Ext.trans ?_ (by assumption) | with_reducible exact Past.bel _ | with_reducible refine Ext.trans ?_ (Past.bel _)))⟩
    · cases h3 : monB nm c.dy c.lp c.n
      · go_wp2_with (first | (go_at_call 47; ((with_reducible refine (specIsName_c _ _ hs).mono ?_); rintro e w' ⟨rfl, rfl⟩)) | (go_at_call 48; ((with_reducible refine (l15Months_c _ _ _ nm c.dy c.lp _ hm (H.out.ext (by repeat (first | with_reducible exact Ext.refl _ | with_reducible assumption | with_reducible refine Ext.alloc ?_ _ | with_reducible refine Ext.drew ?_ | (with_reducible refine Ext.setAt ?_ _ _ _ ?_; rotate_left; omega) | with_reducible refine Ext.trans ?_ (by assumption) | with_reducible exact Past.bel _ | with_reducible refine Ext.trans ?_ (Past.bel _)))).mem.mo HZ.out).mono ?_); rintro e w' ⟨rfl, hx⟩; (first | (obtain ⟨wx, rfl⟩ := Past.again hx) | (obtain ⟨wx, rfl⟩ := Past.ofd hx) | (obtain ⟨wx, rfl⟩ := Past.of hx)))))
        go_ret
        exact ⟨ret_bool (by unfold calB; rw [H1.out, h2, h3]; rfl), (by repeat (first | with_reducible exact Ext.refl _ | with_reducible assumption | with_reducible refine Ext.alloc ?_ _ | with_reducible refine Ext.drew ?_ | (with_reducible refine Ext.setAt ?_ _ _ _ ?_; rotate_left; omega) | with_reducible refine Ext.trans ?_ (by assumption) | with_reducible exact Past.bel _ | with_reducible refine Ext.trans ?_ (Past.bel _)))⟩
      · go_wp2_with (first | (go_at_call 47; ((with_reducible refine (specIsName_c _ _ hs).mono ?_); rintro e w' ⟨rfl, rfl⟩)) | (go_at_call 48; ((with_reducible refine (l15Months_c _ _ _ nm c.dy c.lp _ hm (H.out.ext (by repeat (first | with_reducible exact Ext.refl _ | with_reducible assumption | with_reducible refine Ext.alloc ?_ _ | with_reducible refine Ext.drew ?_ | (with_reducible refine Ext.setAt ?_ _ _ _ ?_; rotate_left; omega) | with_reducible refine Ext.trans ?_ (by assumption) | with_reducible exact Past.bel _ | with_reducible refine Ext.trans ?_ (Past.bel _)))).mem.mo HZ.out).mono ?_); rintro e w' ⟨rfl, hx⟩; (first | (obtain ⟨wx, rfl⟩ := Past.again hx) | (obtain ⟨wx, rfl⟩ := Past.ofd hx) | (obtain ⟨wx, rfl⟩ := Past.of hx)))) | (go_at_call 49; ((with_reducible refine (l00In_c _ _ _ _).mono ?_); rintro e w' ⟨rfl, rfl⟩)))
        go_ret
        exact ⟨ret_bool (by unfold calB; rw [H1.out, h2, h3]; rfl), (by repeat (first | with_reducible exact Ext.refl _ | with_reducible assumption | with_reducible refine Ext.alloc ?_ _ | with_reducible refine Ext.drew ?_ | (with_reducible refine Ext.setAt ?_ _ _ _ ?_; rotate_left; omega) | with_reducible refine Ext.trans ?_ (by assumption) | with_reducible exact Past.bel _ | with_reducible refine Ext.trans ?_ (Past.bel _)))⟩
/-- a calendar laid into a new block -/
theorem CalP.new {w : World} (T : TypeId) (s : ByteArray) (ma ra : Option Addr) (mc rc : Nat) (wk : Int) {nm : Nat → ByteArray} {c : CalN} (h : CalM w ma ra nm c) :
    CalP (w.alloc (.cells #[.string s, .slice ma c.n mc, .slice ra c.nr rc, .int .i64 wk] T)) w.heap.size s ma ra mc rc wk nm c :=
  ⟨by simp, by simp [go_sem], by simp [go_sem], by simp [go_sem], by simp [go_sem], h.ext ((Ext.refl w).alloc _)⟩
end Go.Proofs.Ytkihjplemnndeaa

namespace Go.Proofs.Ytkihjplemnndeaa
open Go.RowKit
set_option linter.unusedVariables false
set_option linter.unusedSimpArgs false

theorem bs_dec (x y : ByteArray) : (x.toList == y.toList) = decide (x = y) := by
  by_cases e : x = y
  · rw [bs_eq e]; simp [e]
  · rw [bs_ne e]; simp [e]
theorem validPred_c (g : Nat) (x y : ByteArray) (a b : Int) (w : World) (hg : g < w.heap.size) (hc : w.cell? ⟨g, 0, none⟩ = some (.string y)) :
    Calls Try.prog 56 #[.agg #[.string x, .int .i64 a, .int .i64 b], .pointer (some ⟨g, 0, none⟩)] w fun e w' => e = .returned (.bool (decide (x = y))) ∧ Ext w w' := by
  go_enter Try.func56, Try.ntmps56
  go_wp2_with fail
  go_ret
  exact ⟨ret_bool (bs_dec x y), (by repeat (first | with_reducible exact Ext.refl _ | with_reducible assumption | with_reducible refine Ext.alloc ?_ _ | with_reducible refine Ext.drew ?_ | (with_reducible refine Ext.setAt ?_ _ _ _ ?_; rotate_left; omega) | with_reducible refine Ext.trans ?_ (by assumption) | with_reducible exact Past.bel _ | with_reducible refine Ext.trans ?_ (Past.bel _)))⟩
set_option maxHeartbeats 1000000 in
theorem idxFunc_c (g : Nat) (a : Option Addr) (n c : Nat) (nm : Nat → ByteArray) (dy lp : Nat → Int) (k : Nat) (w : World) (hn : n ≤ 1048576) (hs : S3 w a n nm dy lp) (hg : g < w.heap.size) (hc : w.cell? ⟨g, 0, none⟩ = some (.string (nm k))) :
    Calls Try.prog 69 #[.slice a n c, .func (.func 56) #[] #[.pointer (some ⟨g, 0, none⟩)]] w fun e w' => ∃ r : Int, e = .returned (.int .i64 r) ∧ decide (r ≥ 0) = !frTo nm k n ∧ Ext w w' := by
  have HS := Lib.hid hs
  have HC := Lib.hid hc
  clear hs hc
  go_enter Try.func69, Try.ntmps69
  go_wp2_with fail
  go_loopw [8] (fun i wr => ∃ j : Nat, j ≤ n ∧ i = .int .i64 j ∧ frTo nm k j = true ∧ Ext w wr) (fun i _ => n - (intOf i).toNat)
  case atStart => exact ⟨0, by omega, rfl, rfl, (by repeat (first | with_reducible exact Ext.refl _ | with_reducible assumption | with_reducible refine Ext.alloc ?_ _ | with_reducible refine Ext.drew ?_ | (with_reducible refine Ext.setAt ?_ _ _ _ ?_; rotate_left; omega) | with_reducible refine Ext.trans ?_ (by assumption) | with_reducible exact Past.bel _ | with_reducible refine Ext.trans ?_ (Past.bel _)))⟩
  case round =>
    obtain ⟨j, hj, rfl, hf, hbl⟩ := hrel
    have HF := Lib.hid hf
    clear hf
    by_cases hlt : j < n
    · obtain ⟨b1, o1, rfl, hb1, q1, q2, q3⟩ := (S3.ext HS.out hbl).at hlt
      have g1 := Nat.lt_of_lt_of_le hg hbl.size
      have c1 := Lib.hid ((hbl.cell hg).trans HC.out)
      cases hd : decide (nm j = nm k)
      · have HD := Lib.hid hd
        clear hd
        go_wp2_with fail
        refine (validPred_c g (nm j) (nm k) (dy j) (lp j) _ g1 c1.out).mono ?_
        rintro e w' ⟨rfl, hx1⟩
        rw [HD.out]
        (first | (obtain ⟨wx1, rfl⟩ := Past.again hx1) | (obtain ⟨wx1, rfl⟩ := Past.of hx1))
        go_wp2_with fail
        exact ⟨⟨j + 1, by omega, by go_num, by simp only [frTo, HF.out, HD.out]; rfl, (by repeat (first | with_reducible exact Ext.refl _ | with_reducible assumption | with_reducible refine Ext.alloc ?_ _ | with_reducible refine Ext.drew ?_ | (with_reducible refine Ext.setAt ?_ _ _ _ ?_; rotate_left; omega) | with_reducible refine Ext.trans ?_ (by assumption) | with_reducible exact Past.bel _ | with_reducible refine Ext.trans ?_ (Past.bel _)))⟩, by simp [intOf]; omega⟩
      · have HD := Lib.hid hd
        clear hd
        go_wp2_with fail
        refine (validPred_c g (nm j) (nm k) (dy j) (lp j) _ g1 c1.out).mono ?_
        rintro e w' ⟨rfl, hx1⟩
        rw [HD.out]
        (first | (obtain ⟨wx1, rfl⟩ := Past.again hx1) | (obtain ⟨wx1, rfl⟩ := Past.of hx1))
        go_wp2_with fail
        go_ret
        exact ⟨_, rfl, by rw [frTo_ff hlt (by simpa using HD.out)]; simp, (by repeat (first | with_reducible exact Ext.refl _ | with_reducible assumption | with_reducible refine Ext.alloc ?_ _ | with_reducible refine Ext.drew ?_ | (with_reducible refine Ext.setAt ?_ _ _ _ ?_; rotate_left; omega) | with_reducible refine Ext.trans ?_ (by assumption) | with_reducible exact Past.bel _ | with_reducible refine Ext.trans ?_ (Past.bel _)))⟩
    · obtain rfl : j = n := by omega
      go_wp2_with fail
      go_ret
      exact ⟨_, rfl, by rw [HF.out]; decide, (by repeat (first | with_reducible exact Ext.refl _ | with_reducible assumption | with_reducible refine Ext.alloc ?_ _ | with_reducible refine Ext.drew ?_ | (with_reducible refine Ext.setAt ?_ _ _ _ ?_; rotate_left; omega) | with_reducible refine Ext.trans ?_ (by assumption) | with_reducible exact Past.bel _ | with_reducible refine Ext.trans ?_ (Past.bel _)))⟩
theorem contFunc_c (g : Nat) (a : Option Addr) (n c : Nat) (nm : Nat → ByteArray) (dy lp : Nat → Int) (k : Nat) (w : World) (hn : n ≤ 1048576) (hs : S3 w a n nm dy lp) (hg : g < w.heap.size) (hc : w.cell? ⟨g, 0, none⟩ = some (.string (nm k))) :
    Calls Try.prog 55 #[.slice a n c, .func (.func 56) #[] #[.pointer (some ⟨g, 0, none⟩)]] w fun e w' => e = .returned (.bool (!frTo nm k n)) ∧ Ext w w' := by
  have HC := Lib.hid (idxFunc_c g a n c nm dy lp k w hn hs hg hc)
  clear hs hc
  go_enter Try.func55, Try.ntmps55
  go_wp2_with fail
  refine HC.out.mono ?_
  rintro e w' ⟨r, rfl, hr, hx1⟩
  (first | (obtain ⟨wx1, rfl⟩ := Past.again hx1) | (obtain ⟨wx1, rfl⟩ := Past.of hx1))
  have HR := Lib.hid hr
  clear hr
  go_wp2_with fail
  go_ret
  refine ⟨ret_bool ?_, (by repeat (first | with_reducible exact Ext.refl _ | with_reducible assumption | with_reducible refine Ext.alloc ?_ _ | with_reducible refine Ext.drew ?_ | (with_reducible refine Ext.setAt ?_ _ _ _ ?_; rotate_left; omega) | with_reducible refine Ext.trans ?_ (by assumption) | with_reducible exact Past.bel _ | with_reducible refine Ext.trans ?_ (Past.bel _)))⟩
  rw [← HR.out]
  try rfl
end Go.Proofs.Ytkihjplemnndeaa
