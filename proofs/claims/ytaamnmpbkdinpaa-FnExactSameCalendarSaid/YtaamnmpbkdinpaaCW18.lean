/- Days of months, of years: the reference's. -/
import Derived.Test.YtaamnmpbkdinpaaCW17
namespace Go.Proofs.Ytaamnmpbkdinpaa
open Go.RowKit
set_option linter.unusedVariables false
set_option linter.unusedSimpArgs false

/-- a calendar behind a pointer: its cells in block g -/
structure CalP (w : World) (g : Nat) (s : ByteArray) (ma ra : Option Addr) (mc rc : Nat) (wk : Int) (nm : Nat → ByteArray) (c : CalN) : Prop where
  lt : g < w.heap.size
  c0 : w.cell? ⟨g, 0, none⟩ = some (.string s)
  c1 : w.cell? ⟨g, 1, none⟩ = some (.slice ma c.n mc)
  c2 : w.cell? ⟨g, 2, none⟩ = some (.slice ra c.nr rc)
  c3 : w.cell? ⟨g, 3, none⟩ = some (.int .i64 wk)
  mem : CalM w ma ra nm c
theorem CalP.ext {w w' : World} {g : Nat} {s : ByteArray} {ma ra : Option Addr} {mc rc : Nat} {wk : Int} {nm : Nat → ByteArray} {c : CalN} (h : CalP w g s ma ra mc rc wk nm c) (e : Ext w w') : CalP w' g s ma ra mc rc wk nm c :=
  ⟨Nat.lt_of_lt_of_le h.lt e.size, (e.cell h.lt).trans h.c0, (e.cell h.lt).trans h.c1, (e.cell h.lt).trans h.c2, (e.cell h.lt).trans h.c3, h.mem.ext e⟩
set_option maxHeartbeats 1000000 in
theorem l15Days_c (g : Nat) (s : ByteArray) (ma ra : Option Addr) (mc rc : Nat) (wk : Int) (nm : Nat → ByteArray) (c : CalN) (y : Int) (j : Nat) (w : World) (b : CalB c) (h : CalP w g s ma ra mc rc wk nm c) (hy : 0 ≤ y) (hy' : y ≤ 1000000000000) (hj : j < c.n) :
    Calls Try.prog 45 #[.pointer (some ⟨g, 0, none⟩), .int .i64 y, .int .i64 (j : Nat)] w fun e w' => e = .returned (.int .i64 (c.mo y j)) ∧ Ext w w' := by
  obtain ⟨L, hL⟩ : ∃ L, L = c.leap y := ⟨_, rfl⟩
  have nr6 := b.nr6
  have n20 := b.n20
  have hil : ∀ W, Ext w W → Calls Try.prog 41 #[.pointer (some ⟨g, 0, none⟩), .int .i64 y] W fun e w' => e = .returned (.bool L) ∧ Ext W w' := fun W hx => by
    rw [hL]; exact l15Leap_c _ _ c.nr _ _ _ _ _ _ (h.ext hx).lt (h.ext hx).c2 (by omega) hy hy' (h.ext hx).mem.ru b.ev
  have HIL := Lib.hid hil
  have hst : c.mo y j = if L then c.lp j else c.dy j := by rw [hL]; rfl
  have ST := Lib.hid hst
  obtain ⟨b1, o1, e1, hb1, q1, q2, q3⟩ := h.mem.mo.at hj
  subst e1
  have g0 := h.lt
  have p1 := h.c1
  have x0 : (0 : Int) ≤ (j : Int) := by omega
  have x1 : (j : Int) < (c.n : Int) := by omega
  clear hil hst hL h
  cases L
  all_goals
    go_enter Try.func45, Try.ntmps45
    go_wp2_with (go_at_call 41; ((with_reducible refine (HIL.out _ (by repeat (first | with_reducible exact Ext.refl _ | with_reducible assumption | with_reducible refine Ext.alloc ?_ _ | with_reducible refine Ext.drew ?_ | (with_reducible refine Ext.setAt ?_ _ _ _ ?_; rotate_left; omega) | with_reducible refine Ext.trans ?_ (by assumption) | with_reducible exact Past.bel _ | with_reducible refine Ext.trans ?_ (Past.bel _)))).mono ?_); rintro e w' ⟨rfl, hx⟩; (first | (obtain ⟨wx, rfl⟩ := Past.again hx) | (obtain ⟨wx, rfl⟩ := Past.ofd hx) | (obtain ⟨wx, rfl⟩ := Past.of hx))))
    go_ret
    exact ⟨ret_i64 (by rw [ST.out]; simp), (by repeat (first | with_reducible exact Ext.refl _ | with_reducible assumption | with_reducible refine Ext.alloc ?_ _ | with_reducible refine Ext.drew ?_ | (with_reducible refine Ext.setAt ?_ _ _ _ ?_; rotate_left; omega) | with_reducible refine Ext.trans ?_ (by assumption) | with_reducible exact Past.bel _ | with_reducible refine Ext.trans ?_ (Past.bel _)))⟩
end Go.Proofs.Ytaamnmpbkdinpaa
