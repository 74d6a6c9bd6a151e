/- Lists of readings: summed. -/
import Derived.Test.YtfpbmceflpohnaaW4
import Derived.Test.YtfpbmceflpohnaaPlain4
namespace Go.Proofs.Ytfpbmceflpohnaa
open Go.RowKit
set_option linter.unusedVariables false
set_option linter.unusedSimpArgs false

def fitA (c x y xx xy : Int) : Array Value := #[.int .i64 c, .int .i64 x, .int .i64 y, .int .i64 xx, .int .i64 xy]
/-- a block that holds a fit: its cells -/
theorem fit_cells {w : World} {g T : Nat} {c x y xx xy : Int} (b : Blk w g T (fitA c x y xx xy)) :
    (w.cell? ⟨g, 0, none⟩ = some (.int .i64 c) ∧ w.cell? ⟨g, 1, none⟩ = some (.int .i64 x) ∧ w.cell? ⟨g, 2, none⟩ = some (.int .i64 y) ∧ w.cell? ⟨g, 3, none⟩ = some (.int .i64 xx) ∧ w.cell? ⟨g, 4, none⟩ = some (.int .i64 xy)) ∧
    (w.frozen? ⟨g, 0, none⟩ = false ∧ w.frozen? ⟨g, 1, none⟩ = false ∧ w.frozen? ⟨g, 2, none⟩ = false ∧ w.frozen? ⟨g, 3, none⟩ = false ∧ w.frozen? ⟨g, 4, none⟩ = false) :=
  ⟨⟨b.cell 0, b.cell 1, b.cell 2, b.cell 3, b.cell 4⟩, b.frozen 0, b.frozen 1, b.frozen 2, b.frozen 3, b.frozen 4⟩
theorem fit_set {w : World} {g T : Nat} {c x y xx xy c' x' y' xx' xy' : Int} (b : Blk w g T (fitA c x y xx xy)) :
    Blk (((((w.setCell ⟨g, 0, none⟩ (.int .i64 c')).setCell ⟨g, 1, none⟩ (.int .i64 x')).setCell ⟨g, 2, none⟩ (.int .i64 y')).setCell ⟨g, 3, none⟩ (.int .i64 xx')).setCell ⟨g, 4, none⟩ (.int .i64 xy')) g T (fitA c' x' y' xx' xy') :=
  ((((b.set 0 _).set 1 _).set 2 _).set 3 _).set 4 _
theorem fit_other {w : World} {g T b : Nat} {cur : Array Value} {u0 u1 u2 u3 u4 : Value} (h : Blk w g T cur) (hne : g ≠ b) :
    Blk (((((w.setCell ⟨b, 0, none⟩ u0).setCell ⟨b, 1, none⟩ u1).setCell ⟨b, 2, none⟩ u2).setCell ⟨b, 3, none⟩ u3).setCell ⟨b, 4, none⟩ u4) g T cur :=
  ((((h.other _ _ _ hne).other _ _ _ hne).other _ _ _ hne).other _ _ _ hne).other _ _ _ hne
theorem two_new (w : World) (T : Nat) (c1 c2 : Array Value) : Blk ((w.alloc (.cells c1 T)).alloc (.cells c2 T)) w.heap.size T c1 ∧ Blk ((w.alloc (.cells c1 T)).alloc (.cells c2 T)) (w.heap.size + 1) T c2 :=
  ⟨(Blk.new w c1 T).ext ((Ext.refl _).alloc _), by have := Blk.new (w.alloc (.cells c1 T)) c2 T; rwa [World.size_alloc] at this⟩
set_option maxHeartbeats 1000000 in
theorem l14Fit_c (a : Option Addr) (n c : Nat) (h o : Nat → Int) (w : World) (hv : rdV n h o = true) (hs : S2 w a n h o) :
    Calls Try.prog 69 #[.slice a n c] w fun e w' => e = .returned (.agg #[.int .i64 n, .int .i64 (sm h n), .int .i64 (sm o n), .int .i64 (sXX h n), .int .i64 (sXY h o n)]) ∧ Ext w w' := by
  have HS := Lib.hid hs
  have r := rb_of hv
  have hn := r.n60
  clear hs hv
  go_enter Try.func69, Try.ntmps69
  go_wp2_with fail
  go_loopw [4] (fun i wr => ∃ k : Nat, k ≤ n ∧ i = .int .i64 k ∧ Ext w wr ∧ Blk wr w.heap.size 25 (fitA 0 0 0 0 0) ∧ Blk wr (w.heap.size + 1) 25 (fitA n (sm h k) (sm o k) (sXX h k) (sXY h o k))) (fun i _ => n - (intOf i).toNat)
  case atStart => exact ⟨0, by omega, rfl, (by repeat (first | with_reducible exact Ext.refl _ | with_reducible assumption | with_reducible refine Ext.alloc ?_ _ | with_reducible refine Ext.drew ?_ | (with_reducible refine Ext.setAt ?_ _ _ _ ?_; rotate_left; omega) | with_reducible refine Ext.trans ?_ (by assumption) | with_reducible exact Past.bel _ | with_reducible refine Ext.trans ?_ (Past.bel _))), (two_new _ _ _ _).1, (two_new _ _ _ _).2⟩
  case round =>
    obtain ⟨k, hk, rfl, hbl, hB0, hB1⟩ := hrel
    have H0 := Lib.hid hB0
    have H1 := Lib.hid hB1
    by_cases hlt : k < n
    · obtain ⟨⟨c0, c1, c2, c3, c4⟩, f0, f1, f2, f3, f4⟩ := fit_cells hB1
      clear hB0 hB1
      obtain ⟨b1, o1, rfl, hb1, q1, q2⟩ := (S2.ext HS.out hbl).at hlt
      obtain ⟨x0, x1, y0, y1, xx0, xx1, xy0, xy1⟩ := r.sb hk
      obtain ⟨hh0, hh1⟩ := r.hh hlt
      obtain ⟨ho0, ho1⟩ := r.ho hlt
      obtain ⟨h0, h1⟩ := r.bh k hlt
      obtain ⟨g0, g1⟩ := r.bo k hlt
      have R := Lib.hid r
      clear r
      go_wp2_with fail
      exact ⟨⟨k + 1, by omega, by go_num, (by repeat (first | with_reducible exact Ext.refl _ | with_reducible assumption | with_reducible refine Ext.alloc ?_ _ | with_reducible refine Ext.drew ?_ | (with_reducible refine Ext.setAt ?_ _ _ _ ?_; rotate_left; omega) | with_reducible refine Ext.trans ?_ (by assumption) | with_reducible exact Past.bel _ | with_reducible refine Ext.trans ?_ (Past.bel _))), fit_other H0.out (by omega), fit_set H1.out⟩, by simp [intOf]; omega⟩
    · obtain rfl : k = n := by omega
      obtain ⟨⟨c0, c1, c2, c3, c4⟩, f0, f1, f2, f3, f4⟩ := fit_cells hB1
      obtain ⟨⟨d0, d1, d2, d3, d4⟩, e0, e1, e2, e3, e4⟩ := fit_cells hB0
      clear hB0 hB1
      go_wp2_with fail
      exact bodyPost_ret (v := .agg (fitA k (sm h k) (sm o k) (sXX h k) (sXY h o k))) (by simp [results, Try.results69, go_sem, fitA, d0, d1, d2, d3, d4]) rfl ⟨rfl, (by repeat (first | with_reducible exact Ext.refl _ | with_reducible assumption | with_reducible refine Ext.alloc ?_ _ | with_reducible refine Ext.drew ?_ | (with_reducible refine Ext.setAt ?_ _ _ _ ?_; rotate_left; omega) | with_reducible refine Ext.trans ?_ (by assumption) | with_reducible exact Past.bel _ | with_reducible refine Ext.trans ?_ (Past.bel _)))⟩
set_option maxHeartbeats 2000000 in
theorem fitOf_c (a : Option Addr) (n c : Nat) (h o : Nat → Int) (w : World) (hv : rdV n h o = true) (hs : S2 w a n h o) :
    Calls Try.prog 70 #[.slice a n c] w fun e w' => e = .returned (.agg #[.int .i64 n, .int .i64 (sm h n), .int .i64 (sm o n), .int .i64 (sXX h n), .int .i64 (sXY h o n)]) ∧ Ext w w' := by
  have HS := Lib.hid hs
  have r := rb_of hv
  have hn := r.n60
  clear hs hv
  go_enter Try.func70, Try.ntmps70
  go_wp2_with fail
  go_loopw [8] (fun i wr => ∃ k : Nat, k ≤ n ∧ i = .int .i64 k ∧ Ext w wr ∧ Blk wr w.heap.size 25 (fitA 0 0 0 0 0) ∧ Blk wr (w.heap.size + 1) 25 (fitA k (sm h k) (sm o k) (sXX h k) (sXY h o k))) (fun i _ => n - (intOf i).toNat)
  case atStart => exact ⟨0, by omega, rfl, (by repeat (first | with_reducible exact Ext.refl _ | with_reducible assumption | with_reducible refine Ext.alloc ?_ _ | with_reducible refine Ext.drew ?_ | (with_reducible refine Ext.setAt ?_ _ _ _ ?_; rotate_left; omega) | with_reducible refine Ext.trans ?_ (by assumption) | with_reducible exact Past.bel _ | with_reducible refine Ext.trans ?_ (Past.bel _))), (two_new _ _ _ _).1, (two_new _ _ _ _).2⟩
  case round =>
    obtain ⟨k, hk, rfl, hbl, hB0, hB1⟩ := hrel
    have H0 := Lib.hid hB0
    have H1 := Lib.hid hB1
    by_cases hlt : k < n
    · obtain ⟨⟨c0, c1, c2, c3, c4⟩, f0, f1, f2, f3, f4⟩ := fit_cells hB1
      have hg := hB1.lt
      clear hB0 hB1
      obtain ⟨b1, o1, rfl, hb1, q1, q2⟩ := (S2.ext HS.out hbl).at hlt
      obtain ⟨x0, x1, y0, y1, xx0, xx1, xy0, xy1⟩ := r.sb hk
      obtain ⟨hh0, hh1⟩ := r.hh hlt
      obtain ⟨ho0, ho1⟩ := r.ho hlt
      obtain ⟨h0, h1⟩ := r.bh k hlt
      obtain ⟨g0, g1⟩ := r.bo k hlt
      have R := Lib.hid r
      clear r
      go_wp2_with fail
      exact ⟨⟨k + 1, by omega, by go_num, (by repeat (first | with_reducible exact Ext.refl _ | with_reducible assumption | with_reducible refine Ext.alloc ?_ _ | with_reducible refine Ext.drew ?_ | (with_reducible refine Ext.setAt ?_ _ _ _ ?_; rotate_left; omega) | with_reducible refine Ext.trans ?_ (by assumption) | with_reducible exact Past.bel _ | with_reducible refine Ext.trans ?_ (Past.bel _))), (fit_other H0.out (by omega)).ext ((Ext.refl _).alloc _), (fit_set H1.out).ext ((Ext.refl _).alloc _)⟩, by simp [intOf]; omega⟩
    · obtain rfl : k = n := by omega
      obtain ⟨⟨c0, c1, c2, c3, c4⟩, f0, f1, f2, f3, f4⟩ := fit_cells hB1
      obtain ⟨⟨d0, d1, d2, d3, d4⟩, e0, e1, e2, e3, e4⟩ := fit_cells hB0
      clear hB0 hB1
      go_wp2_with fail
      exact bodyPost_ret (v := .agg (fitA k (sm h k) (sm o k) (sXX h k) (sXY h o k))) (by simp [results, Try.results70, go_sem, fitA, d0, d1, d2, d3, d4]) rfl ⟨rfl, (by repeat (first | with_reducible exact Ext.refl _ | with_reducible assumption | with_reducible refine Ext.alloc ?_ _ | with_reducible refine Ext.drew ?_ | (with_reducible refine Ext.setAt ?_ _ _ _ ?_; rotate_left; omega) | with_reducible refine Ext.trans ?_ (by assumption) | with_reducible exact Past.bel _ | with_reducible refine Ext.trans ?_ (Past.bel _)))⟩
set_option maxHeartbeats 400000 in
theorem specFitOf_c (a : Option Addr) (n c : Nat) (h o : Nat → Int) (w : World) (hn : n ≤ 1048576) (hs : S2 w a n h o) :
    Calls Try.prog 32 #[.slice a n c] w fun e w' => e = .returned (.tuple #[.agg #[.int .i64 (fX (rdV n h o) n), .int .i64 (fX (rdV n h o) (sm h n)), .int .i64 (fX (rdV n h o) (sm o n)), .int .i64 (fX (rdV n h o) (sXX h n)), .int .i64 (fX (rdV n h o) (sXY h o n))], .int .i64 (fC (rdV n h o))]) ∧ Ext w w' := by
  have HS := Lib.hid hs
  clear hs
  by_cases hv : rdV n h o = true
  · have HV := Lib.hid hv
    go_enter Try.func32, Try.ntmps32
    go_wp2_with (first | (go_at_call 58; ((with_reducible refine (l14Ok_c _ _ _ _ _ _ hn (HS.out.ext (by repeat (first | with_reducible exact Ext.refl _ | with_reducible assumption | with_reducible refine Ext.alloc ?_ _ | with_reducible refine Ext.drew ?_ | (with_reducible refine Ext.setAt ?_ _ _ _ ?_; rotate_left; omega) | with_reducible refine Ext.trans ?_ (by assumption) | with_reducible exact Past.bel _ | with_reducible refine Ext.trans ?_ (Past.bel _))))).mono ?_); rintro e w' ⟨rfl, hx⟩; (first | (obtain ⟨wx, rfl⟩ := Past.again hx) | (obtain ⟨wx, rfl⟩ := Past.ofd hx) | (obtain ⟨wx, rfl⟩ := Past.of hx)))) | (go_at_call 69; ((with_reducible refine (l14Fit_c _ _ _ _ _ _ HV.out (HS.out.ext (by repeat (first | with_reducible exact Ext.refl _ | with_reducible assumption | with_reducible refine Ext.alloc ?_ _ | with_reducible refine Ext.drew ?_ | (with_reducible refine Ext.setAt ?_ _ _ _ ?_; rotate_left; omega) | with_reducible refine Ext.trans ?_ (by assumption) | with_reducible exact Past.bel _ | with_reducible refine Ext.trans ?_ (Past.bel _))))).mono ?_); rintro e w' ⟨rfl, hx⟩; (first | (obtain ⟨wx, rfl⟩ := Past.again hx) | (obtain ⟨wx, rfl⟩ := Past.ofd hx) | (obtain ⟨wx, rfl⟩ := Past.of hx)))))
    exact bodyPost_ret (v := .tuple #[.agg #[.int .i64 n, .int .i64 (sm h n), .int .i64 (sm o n), .int .i64 (sXX h n), .int .i64 (sXY h o n)], .int .i64 0]) (by simp [results, Try.results32, go_sem]) rfl ⟨by rw [HV.out]; rfl, (by repeat (first | with_reducible exact Ext.refl _ | with_reducible assumption | with_reducible refine Ext.alloc ?_ _ | with_reducible refine Ext.drew ?_ | (with_reducible refine Ext.setAt ?_ _ _ _ ?_; rotate_left; omega) | with_reducible refine Ext.trans ?_ (by assumption) | with_reducible exact Past.bel _ | with_reducible refine Ext.trans ?_ (Past.bel _)))⟩
  · have hf : rdV n h o = false := by simpa using hv
    go_enter Try.func32, Try.ntmps32
    go_wp2_with (first | (go_at_call 58; ((with_reducible refine (l14Ok_c _ _ _ _ _ _ hn (HS.out.ext (by repeat (first | with_reducible exact Ext.refl _ | with_reducible assumption | with_reducible refine Ext.alloc ?_ _ | with_reducible refine Ext.drew ?_ | (with_reducible refine Ext.setAt ?_ _ _ _ ?_; rotate_left; omega) | with_reducible refine Ext.trans ?_ (by assumption) | with_reducible exact Past.bel _ | with_reducible refine Ext.trans ?_ (Past.bel _))))).mono ?_); rintro e w' ⟨rfl, hx⟩; (first | (obtain ⟨wx, rfl⟩ := Past.again hx) | (obtain ⟨wx, rfl⟩ := Past.ofd hx) | (obtain ⟨wx, rfl⟩ := Past.of hx)))))
    exact bodyPost_ret (v := .tuple #[.agg #[.int .i64 0, .int .i64 0, .int .i64 0, .int .i64 0, .int .i64 0], .int .i64 1]) (by simp [results, Try.results32, go_sem]) rfl ⟨by rw [hf]; rfl, (by repeat (first | with_reducible exact Ext.refl _ | with_reducible assumption | with_reducible refine Ext.alloc ?_ _ | with_reducible refine Ext.drew ?_ | (with_reducible refine Ext.setAt ?_ _ _ _ ?_; rotate_left; omega) | with_reducible refine Ext.trans ?_ (by assumption) | with_reducible exact Past.bel _ | with_reducible refine Ext.trans ?_ (Past.bel _)))⟩
set_option maxHeartbeats 400000 in
theorem implFitOf_c (a : Option Addr) (n c : Nat) (h o : Nat → Int) (w : World) (hn : n ≤ 1048576) (hs : S2 w a n h o) :
    Calls Try.prog 33 #[.slice a n c] w fun e w' => e = .returned (.tuple #[.agg #[.int .i64 (fX (rdV n h o) n), .int .i64 (fX (rdV n h o) (sm h n)), .int .i64 (fX (rdV n h o) (sm o n)), .int .i64 (fX (rdV n h o) (sXX h n)), .int .i64 (fX (rdV n h o) (sXY h o n))], .int .i64 (fC (rdV n h o))]) ∧ Ext w w' := by
  have HS := Lib.hid hs
  clear hs
  by_cases hv : rdV n h o = true
  · have HV := Lib.hid hv
    go_enter Try.func33, Try.ntmps33
    go_wp2_with (first | (go_at_call 23; ((with_reducible refine (validReadings_c _ _ _ _ _ _ hn (HS.out.ext (by repeat (first | with_reducible exact Ext.refl _ | with_reducible assumption | with_reducible refine Ext.alloc ?_ _ | with_reducible refine Ext.drew ?_ | (with_reducible refine Ext.setAt ?_ _ _ _ ?_; rotate_left; omega) | with_reducible refine Ext.trans ?_ (by assumption) | with_reducible exact Past.bel _ | with_reducible refine Ext.trans ?_ (Past.bel _))))).mono ?_); rintro e w' ⟨rfl, hx⟩; (first | (obtain ⟨wx, rfl⟩ := Past.again hx) | (obtain ⟨wx, rfl⟩ := Past.ofd hx) | (obtain ⟨wx, rfl⟩ := Past.of hx)))) | (go_at_call 70; ((with_reducible refine (fitOf_c _ _ _ _ _ _ HV.out (HS.out.ext (by repeat (first | with_reducible exact Ext.refl _ | with_reducible assumption | with_reducible refine Ext.alloc ?_ _ | with_reducible refine Ext.drew ?_ | (with_reducible refine Ext.setAt ?_ _ _ _ ?_; rotate_left; omega) | with_reducible refine Ext.trans ?_ (by assumption) | with_reducible exact Past.bel _ | with_reducible refine Ext.trans ?_ (Past.bel _))))).mono ?_); rintro e w' ⟨rfl, hx⟩; (first | (obtain ⟨wx, rfl⟩ := Past.again hx) | (obtain ⟨wx, rfl⟩ := Past.ofd hx) | (obtain ⟨wx, rfl⟩ := Past.of hx)))))
    exact bodyPost_ret (v := .tuple #[.agg #[.int .i64 n, .int .i64 (sm h n), .int .i64 (sm o n), .int .i64 (sXX h n), .int .i64 (sXY h o n)], .int .i64 0]) (by simp [results, Try.results33, go_sem]) rfl ⟨by rw [HV.out]; rfl, (by repeat (first | with_reducible exact Ext.refl _ | with_reducible assumption | with_reducible refine Ext.alloc ?_ _ | with_reducible refine Ext.drew ?_ | (with_reducible refine Ext.setAt ?_ _ _ _ ?_; rotate_left; omega) | with_reducible refine Ext.trans ?_ (by assumption) | with_reducible exact Past.bel _ | with_reducible refine Ext.trans ?_ (Past.bel _)))⟩
  · have hf : rdV n h o = false := by simpa using hv
    go_enter Try.func33, Try.ntmps33
    go_wp2_with (first | (go_at_call 23; ((with_reducible refine (validReadings_c _ _ _ _ _ _ hn (HS.out.ext (by repeat (first | with_reducible exact Ext.refl _ | with_reducible assumption | with_reducible refine Ext.alloc ?_ _ | with_reducible refine Ext.drew ?_ | (with_reducible refine Ext.setAt ?_ _ _ _ ?_; rotate_left; omega) | with_reducible refine Ext.trans ?_ (by assumption) | with_reducible exact Past.bel _ | with_reducible refine Ext.trans ?_ (Past.bel _))))).mono ?_); rintro e w' ⟨rfl, hx⟩; (first | (obtain ⟨wx, rfl⟩ := Past.again hx) | (obtain ⟨wx, rfl⟩ := Past.ofd hx) | (obtain ⟨wx, rfl⟩ := Past.of hx)))))
    exact bodyPost_ret (v := .tuple #[.agg #[.int .i64 0, .int .i64 0, .int .i64 0, .int .i64 0, .int .i64 0], .int .i64 1]) (by simp [results, Try.results33, go_sem]) rfl ⟨by rw [hf]; rfl, (by repeat (first | with_reducible exact Ext.refl _ | with_reducible assumption | with_reducible refine Ext.alloc ?_ _ | with_reducible refine Ext.drew ?_ | (with_reducible refine Ext.setAt ?_ _ _ _ ?_; rotate_left; omega) | with_reducible refine Ext.trans ?_ (by assumption) | with_reducible exact Past.bel _ | with_reducible refine Ext.trans ?_ (Past.bel _)))⟩
theorem eqFit_self (c x y xx xy : Int) (w : World) :
    Calls Try.prog 27 #[.agg #[.int .i64 c, .int .i64 x, .int .i64 y, .int .i64 xx, .int .i64 xy], .agg #[.int .i64 c, .int .i64 x, .int .i64 y, .int .i64 xx, .int .i64 xy]] w fun e w' => e = .returned (.bool true) ∧ Ext w w' :=
  (eqFit_c c x y xx xy c x y xx xy w).mono fun e w' ⟨he, hx⟩ => ⟨by rw [he]; simp, hx⟩
end Go.Proofs.Ytfpbmceflpohnaa
