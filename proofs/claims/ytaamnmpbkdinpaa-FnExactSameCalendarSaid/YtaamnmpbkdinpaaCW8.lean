/- Calendars: copied, compared. -/
import Derived.Test.YtaamnmpbkdinpaaCW7
import Derived.Test.YtaamnmpbkdinpaaCPlain2
import Derived.Test.YtaamnmpbkdinpaaMem3
namespace Go.Proofs.Ytaamnmpbkdinpaa
open Go.RowKit
set_option linter.unusedVariables false
set_option linter.unusedSimpArgs false

theorem toMonthS_o (a : Option Addr) (n c : Nat) (nm : Nat → ByteArray) (dy lp : Nat → Int) (w : World) (hn : n ≤ 1048576) (hs : S3 w a n nm dy lp) :
    Calls Try.prog 28 #[.slice a n c] w fun e w' => ∃ g xs, e = .returned (.slice (some ⟨g, 0, none⟩) n n) ∧ Ext w w' ∧ S3 w' (some ⟨g, 0, none⟩) n nm dy lp ∧ w'.ownsRow w.heap.size 56 3 (.slice (some ⟨g, 0, none⟩) n n) n xs :=
  (toMonthS_c a n c nm dy lp w hn hs).mono fun e w' ⟨cur, he, hx, hb, hz, hc⟩ => ⟨_, cur.toList, he, hx, C3.s3 hb hc, by simpa using hz, .inr ⟨_, n, cur, rfl, Nat.le_refl _, hb, Nat.le_refl _, by unfold maxLen; omega, hz, by rw [← hz]; exact List.take_of_length_le (by simp)⟩⟩
theorem toLeapRuleS_o (a : Option Addr) (n c : Nat) (ev rs : Nat → Int) (lf : Nat → Bool) (w : World) (hn : n ≤ 1048576) (hs : R3 w a n ev rs lf) :
    Calls Try.prog 29 #[.slice a n c] w fun e w' => ∃ g xs, e = .returned (.slice (some ⟨g, 0, none⟩) n n) ∧ Ext w w' ∧ R3 w' (some ⟨g, 0, none⟩) n ev rs lf ∧ w'.ownsRow w.heap.size 59 3 (.slice (some ⟨g, 0, none⟩) n n) n xs :=
  (toLeapRuleS_c a n c ev rs lf w hn hs).mono fun e w' ⟨cur, he, hx, hb, hz, hc⟩ => ⟨_, cur.toList, he, hx, C3.r3 hb hc, by simpa using hz, .inr ⟨_, n, cur, rfl, Nat.le_refl _, hb, Nat.le_refl _, by unfold maxLen; omega, hz, by rw [← hz]; exact List.take_of_length_le (by simp)⟩⟩
theorem S3.set {w : World} {g n : Nat} {nm : Nat → ByteArray} {dy lp : Nat → Int} (h : S3 w (some ⟨g, 0, none⟩) n nm dy lp) {b : Nat} (hb : b ≠ g) (o : Nat) (u : Value) : S3 (w.setCell ⟨b, o, none⟩ u) (some ⟨g, 0, none⟩) n nm dy lp := fun hn => by
  obtain ⟨b', off', e, hl, hc⟩ := h hn
  obtain ⟨rfl, rfl⟩ : b' = g ∧ off' = 0 := by simp at e; exact ⟨e.1.symm, e.2.symm⟩
  have hx := grown_set (w := w) b o u
  refine ⟨b', 0, rfl, by simpa using hl, fun j hj => ?_⟩
  obtain ⟨c1, c2, c3⟩ := hc j hj
  refine ⟨?_, ?_, ?_⟩ <;> (rw [World.cell?_of_block (hx.block b' hl (fun e => hb (by simpa using e.symm)))]; assumption)
theorem R3.set {w : World} {g n : Nat} {ev rs : Nat → Int} {lf : Nat → Bool} (h : R3 w (some ⟨g, 0, none⟩) n ev rs lf) {b : Nat} (hb : b ≠ g) (o : Nat) (u : Value) : R3 (w.setCell ⟨b, o, none⟩ u) (some ⟨g, 0, none⟩) n ev rs lf := fun hn => by
  obtain ⟨b', off', e, hl, hc⟩ := h hn
  obtain ⟨rfl, rfl⟩ : b' = g ∧ off' = 0 := by simp at e; exact ⟨e.1.symm, e.2.symm⟩
  have hx := grown_set (w := w) b o u
  refine ⟨b', 0, rfl, by simpa using hl, fun j hj => ?_⟩
  obtain ⟨c1, c2, c3⟩ := hc j hj
  refine ⟨?_, ?_, ?_⟩ <;> (rw [World.cell?_of_block (hx.block b' hl (fun e => hb (by simpa using e.symm)))]; assumption)
theorem own_off {w : World} {base : Nat} {e : TypeId} {size g n cap : Nat} {xs : List Value} (h : w.ownsRow base e size (.slice (some ⟨g, 0, none⟩) n cap) n xs) {b : Nat} (hb : b ≠ g) (o : Nat) (u : Value) : (w.setCell ⟨b, o, none⟩ u).ownsRow base e size (.slice (some ⟨g, 0, none⟩) n cap) n xs :=
  h.kept (grown_set b o u) (.inr (fun e => hb (by simpa [Value.ownBlock] using e.symm)))
/-- a calendar's months and rules in memory -/
structure CalM (w : World) (ma ra : Option Addr) (nm : Nat → ByteArray) (c : CalN) : Prop where
  mo : S3 w ma c.n nm c.dy c.lp
  ru : R3 w ra c.nr c.ev c.rs c.lf
theorem CalM.ext {w w' : World} {ma ra : Option Addr} {nm : Nat → ByteArray} {c : CalN} (h : CalM w ma ra nm c) (e : Ext w w') : CalM w' ma ra nm c := ⟨h.mo.ext e, h.ru.ext e⟩
set_option maxHeartbeats 1000000 in
theorem toCalendar_c (s : ByteArray) (ma ra : Option Addr) (mc rc : Nat) (wk : Int) (nm : Nat → ByteArray) (c : CalN) (w : World) (hm : c.n ≤ 1048576) (hr : c.nr ≤ 1048576) (h : CalM w ma ra nm c) :
    Calls Try.prog 11 #[.agg #[.string s, .slice ma c.n mc, .slice ra c.nr rc, .int .i64 wk]] w fun e w' => ∃ g1 g2 xs ys, e = .returned (.agg #[.string s, .slice (some ⟨g1, 0, none⟩) c.n c.n, .slice (some ⟨g2, 0, none⟩) c.nr c.nr, .int .i64 wk]) ∧ Ext w w' ∧ CalM w' (some ⟨g1, 0, none⟩) (some ⟨g2, 0, none⟩) nm c ∧
      w'.ownsRow w.heap.size 56 3 (.slice (some ⟨g1, 0, none⟩) c.n c.n) c.n xs ∧ w'.ownsRow w.heap.size 59 3 (.slice (some ⟨g2, 0, none⟩) c.nr c.nr) c.nr ys ∧ g1 ≠ g2 := by
  have H := Lib.hid h
  clear h
  go_enter Try.func11, Try.ntmps11
  go_wp2_with fail
  refine (toMonthS_o _ _ _ _ _ _ _ hm (H.out.mo.ext (by repeat (first | with_reducible exact Ext.refl _ | with_reducible assumption | with_reducible refine Ext.alloc ?_ _ | with_reducible refine Ext.drew ?_ | (with_reducible refine Ext.setAt ?_ _ _ _ ?_; rotate_left; omega) | with_reducible refine Ext.trans ?_ (by assumption) | with_reducible exact Past.bel _ | with_reducible refine Ext.trans ?_ (Past.bel _))))).mono ?_
  rintro e w' ⟨g1, xs, rfl, hx1, hs1, ho1⟩
  have HS1 := Lib.hid hs1
  have HO1 := Lib.hid ho1
  clear hs1 ho1
  have z1 := hx1.size
  simp only [World.size_alloc] at z1
  have a0 : w.heap.size < w'.heap.size := by omega
  have a1 : w.heap.size + 1 < w'.heap.size := by omega
  have a2 : w.heap.size + 1 + 1 < w'.heap.size := by omega
  have c0 : w'.cell? ⟨w.heap.size, 0, none⟩ = some (.string s) := by rw [hx1.cell (by simp <;> omega)]; simp [go_sem]
  have c2 : w'.cell? ⟨w.heap.size, 2, none⟩ = some (.slice ra c.nr rc) := by rw [hx1.cell (by simp <;> omega)]; simp [go_sem]
  have c3 : w'.cell? ⟨w.heap.size, 3, none⟩ = some (.int .i64 wk) := by rw [hx1.cell (by simp <;> omega)]; simp [go_sem]
  have d0 : w'.cell? ⟨w.heap.size + 1 + 1, 0, none⟩ = some (.string s) := by rw [hx1.cell (by simp <;> omega)]; simp [go_sem]
  have d1 : w'.cell? ⟨w.heap.size + 1 + 1, 1, none⟩ = some (.slice none 0 0) := by rw [hx1.cell (by simp <;> omega)]; simp [go_sem]
  have d2 : w'.cell? ⟨w.heap.size + 1 + 1, 2, none⟩ = some (.slice none 0 0) := by rw [hx1.cell (by simp <;> omega)]; simp [go_sem]
  have d3 : w'.cell? ⟨w.heap.size + 1 + 1, 3, none⟩ = some (.int .i64 0) := by rw [hx1.cell (by simp <;> omega)]; simp [go_sem]
  have f1 : w'.frozen? ⟨w.heap.size + 1 + 1, 1, none⟩ = false := by rw [Below.frozen (p := ⟨w.heap.size + 1 + 1, 1, none⟩) hx1 (by simp <;> omega)]; simp [go_sem]
  have f2 : w'.frozen? ⟨w.heap.size + 1 + 1, 2, none⟩ = false := by rw [Below.frozen (p := ⟨w.heap.size + 1 + 1, 2, none⟩) hx1 (by simp <;> omega)]; simp [go_sem]
  have f3 : w'.frozen? ⟨w.heap.size + 1 + 1, 3, none⟩ = false := by rw [Below.frozen (p := ⟨w.heap.size + 1 + 1, 3, none⟩) hx1 (by simp <;> omega)]; simp [go_sem]
  have r0 : ∀ j, j < 4 → ∃ v, w'.cell? ⟨w.heap.size + 1, j, none⟩ = some v ∧ w'.frozen? ⟨w.heap.size + 1, j, none⟩ = false := fun j hj => by
    obtain rfl | rfl | rfl | rfl : j = 0 ∨ j = 1 ∨ j = 2 ∨ j = 3 := by omega
    all_goals (refine ⟨_, by rw [hx1.cell (by simp <;> omega)]; simp [go_sem]; rfl, ?_⟩; rw [Below.frozen (p := ⟨w.heap.size + 1, _, none⟩) hx1 (by simp <;> omega)]; simp [go_sem])
  have R0 := Lib.hid r0
  clear r0
  have hxw : Ext w w' := Ext.trans (by repeat (first | with_reducible exact Ext.refl _ | with_reducible assumption | with_reducible refine Ext.alloc ?_ _ | with_reducible refine Ext.drew ?_ | (with_reducible refine Ext.setAt ?_ _ _ _ ?_; rotate_left; omega) | with_reducible refine Ext.trans ?_ (by assumption) | with_reducible exact Past.bel _ | with_reducible refine Ext.trans ?_ (Past.bel _))) hx1
  clear hx1 z1
  go_wp2_with fail
  refine (toLeapRuleS_o _ _ _ _ _ _ _ hr (H.out.ru.ext (by repeat (first | with_reducible exact Ext.refl _ | with_reducible assumption | with_reducible refine Ext.alloc ?_ _ | with_reducible refine Ext.drew ?_ | (with_reducible refine Ext.setAt ?_ _ _ _ ?_; rotate_left; omega) | with_reducible refine Ext.trans ?_ (by assumption) | with_reducible exact Past.bel _ | with_reducible refine Ext.trans ?_ (Past.bel _))))).mono ?_
  rintro e w'' ⟨g2, ys, rfl, hx2, hs2, ho2⟩
  have HS2 := Lib.hid hs2
  have HO2 := Lib.hid ho2
  clear hs2 ho2
  have z2 := hx2.size
  simp only [World.size_setCell] at z2
  have b3 : w''.cell? ⟨w.heap.size, 3, none⟩ = some (.int .i64 wk) := by rw [hx2.cell (by simp <;> omega)]; simp [go_sem, c3]
  have b0 : w''.cell? ⟨w.heap.size + 1 + 1, 0, none⟩ = some (.string s) := by rw [hx2.cell (by simp <;> omega)]; simp [go_sem, d0]
  have b1 : w''.cell? ⟨w.heap.size + 1 + 1, 1, none⟩ = some (.slice (some ⟨g1, 0, none⟩) c.n c.n) := by rw [hx2.cell (by simp <;> omega)]; simp [go_sem, d1]
  have b2 : w''.cell? ⟨w.heap.size + 1 + 1, 2, none⟩ = some (.slice none 0 0) := by rw [hx2.cell (by simp <;> omega)]; simp [go_sem, d2]
  have b4 : w''.cell? ⟨w.heap.size + 1 + 1, 3, none⟩ = some (.int .i64 0) := by rw [hx2.cell (by simp <;> omega)]; simp [go_sem, d3]
  have h2 : w''.frozen? ⟨w.heap.size + 1 + 1, 2, none⟩ = false := by rw [Below.frozen (p := ⟨w.heap.size + 1 + 1, 2, none⟩) hx2 (by simp <;> omega)]; simp [go_sem, f2]
  have h3 : w''.frozen? ⟨w.heap.size + 1 + 1, 3, none⟩ = false := by rw [Below.frozen (p := ⟨w.heap.size + 1 + 1, 3, none⟩) hx2 (by simp <;> omega)]; simp [go_sem, f3]
  have r0 : ∀ j, j < 4 → ∃ v, w''.cell? ⟨w.heap.size + 1, j, none⟩ = some v ∧ w''.frozen? ⟨w.heap.size + 1, j, none⟩ = false := fun j hj => by
    obtain ⟨v, hv, hf⟩ := R0.out j hj
    refine ⟨v, by rw [hx2.cell (by simp <;> omega)]; simp [go_sem, hv], ?_⟩
    rw [Below.frozen (p := ⟨w.heap.size + 1, j, none⟩) hx2 (by simp <;> omega)]; simp [go_sem, hf]
  obtain ⟨v0, p0, q0⟩ := r0 0 (by omega)
  obtain ⟨v1, p1, q1⟩ := r0 1 (by omega)
  obtain ⟨v2, p2, q2⟩ := r0 2 (by omega)
  obtain ⟨v3, p3, q3⟩ := r0 3 (by omega)
  have HX2 := Lib.hid hx2
  have HXW := Lib.hid hxw
  have hg1 : g1 < w'.heap.size := (HO1.out.lt g1 rfl).2
  have hg2 := (HO2.out.lt g2 rfl).1
  simp only [World.size_setCell] at hg2
  have hg3 := (HO1.out.lt g1 rfl).1
  simp only [World.size_alloc] at hg3
  have S1' := Lib.hid ((HS1.out.set (b := w.heap.size + 1 + 1) (by omega) 1 (.slice (some ⟨g1, 0, none⟩) c.n c.n)).ext hx2)
  have O1' := Lib.hid (own_ext (own_off (b := w.heap.size + 1 + 1) HO1.out (by omega) 1 (.slice (some ⟨g1, 0, none⟩) c.n c.n)) hx2)
  have N1 : w.heap.size + 1 + 1 ≠ g1 := by omega
  have N2 : w.heap.size + 1 ≠ g1 := by omega
  have N3 : w.heap.size + 1 + 1 ≠ g2 := by omega
  have N4 : w.heap.size + 1 ≠ g2 := by omega
  have N5 : g1 ≠ g2 := by omega
  have NN := Lib.hid (And.intro N1 (And.intro N2 (And.intro N3 (And.intro N4 N5))))
  clear hx2 hxw r0 c0 c2 c3 d0 d1 d2 d3 f1 f2 f3 N1 N2 N3 N4 N5 hg3 hg1 hg2
  go_wp2_with fail
  obtain ⟨N1, N2, N3, N4, N5⟩ := NN.out
  have hxw := HXW.out
  have hx2 := HX2.out
  refine bodyPost_ret (v := .agg #[.string s, .slice (some ⟨g1, 0, none⟩) c.n c.n, .slice (some ⟨g2, 0, none⟩) c.nr c.nr, .int .i64 wk]) (by simp [results, Try.results11, go_sem, p0, p1, p2, p3]) rfl ⟨g1, g2, xs, ys, rfl, (by repeat (first | with_reducible exact Ext.refl _ | with_reducible assumption | with_reducible refine Ext.alloc ?_ _ | with_reducible refine Ext.drew ?_ | (with_reducible refine Ext.setAt ?_ _ _ _ ?_; rotate_left; omega) | with_reducible refine Ext.trans ?_ (by assumption) | with_reducible exact Past.bel _ | with_reducible refine Ext.trans ?_ (Past.bel _))), ⟨?_, ?_⟩, ?_, ?_, N5⟩
  · exact (((((S1'.out.set N1 _ _).set N1 _ _).set N2 _ _).set N2 _ _).set N2 _ _).set N2 _ _
  · exact (((((HS2.out.set N3 _ _).set N3 _ _).set N4 _ _).set N4 _ _).set N4 _ _).set N4 _ _
  · exact own_base (own_off (own_off (own_off (own_off (own_off (own_off O1'.out N1 _ _) N1 _ _) N2 _ _) N2 _ _) N2 _ _) N2 _ _) (by simp only [World.size_alloc]; omega)
  · exact own_base (own_off (own_off (own_off (own_off (own_off (own_off HO2.out N3 _ _) N3 _ _) N4 _ _) N4 _ _) N4 _ _) N4 _ _) (by simp only [World.size_setCell]; omega)
end Go.Proofs.Ytaamnmpbkdinpaa
