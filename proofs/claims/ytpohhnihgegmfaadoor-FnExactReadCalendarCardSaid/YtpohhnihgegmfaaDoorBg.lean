/- Calendars: compared. Calendars: compared as wholes. Calendars marked; marks held; calendars of their own compared. The law on reading calendars: its walk. What the cards' listed variables give the walks that read. -/
import Derived.Test.YtpohhnihgegmfaaDoorBb
import Derived.Test.YtpohhnihgegmfaaDoorBd
import Derived.Test.YtpohhnihgegmfaaDoorBf
import Derived.Test.YtpohhnihgegmfaaDoorRows
import Derived.Test.YtpohhnihgegmfaaDoorBa
import Derived.ProofKit
import Derived.LaidMore
import Derived.OpenShut
import Derived.Stop.Joined
import Derived.Lib.LaidTab
import Derived.Lay
import Derived.HandedShaped
import Derived.Shelf.Vars

namespace Go.Proofs.YtpohhnihgegmfaaDoor
open Go.RowKit
set_option linter.unusedVariables false
set_option linter.unusedSimpArgs false

theorem eqMonth_self (s : ByteArray) (a b : Int) (w : World) :
    Calls Tryd.prog 49 #[.agg #[.string s, .int .i64 a, .int .i64 b], .agg #[.string s, .int .i64 a, .int .i64 b]] w fun e w' => e = .returned (.bool true) ∧ Ext w w' := by
  go_enter Tryd.func49, Tryd.ntmps49
  go_wp2
  go_ret
  exact ⟨rfl, (by repeat (first | with_reducible exact Ext.refl _ | with_reducible assumption | with_reducible refine Ext.alloc ?_ _ | with_reducible refine Ext.drew ?_ | (with_reducible refine Ext.setAt ?_ _ _ _ ?_; rotate_left; omega) | with_reducible refine Ext.trans ?_ (by assumption) | with_reducible exact Past.bel _ | with_reducible refine Ext.trans ?_ (Past.bel _)))⟩
theorem eqLeapRule_self (a b : Int) (l : Bool) (w : World) :
    Calls Tryd.prog 50 #[.agg #[.int .i64 a, .int .i64 b, .bool l], .agg #[.int .i64 a, .int .i64 b, .bool l]] w fun e w' => e = .returned (.bool true) ∧ Ext w w' := by
  go_enter Tryd.func50, Tryd.ntmps50
  go_wp2
  go_ret
  exact ⟨rfl, (by repeat (first | with_reducible exact Ext.refl _ | with_reducible assumption | with_reducible refine Ext.alloc ?_ _ | with_reducible refine Ext.drew ?_ | (with_reducible refine Ext.setAt ?_ _ _ _ ?_; rotate_left; omega) | with_reducible refine Ext.trans ?_ (by assumption) | with_reducible exact Past.bel _ | with_reducible refine Ext.trans ?_ (Past.bel _)))⟩
set_option maxHeartbeats 400000 in
theorem eqMonthS_self (aa ab : Option Addr) (n ca cb : Nat) (nm : Nat → ByteArray) (dy lp : Nat → Int) (w : World) (hn : n ≤ 1048576) (ha : S3 w aa n nm dy lp) (hb : S3 w ab n nm dy lp) :
    Calls Tryd.prog 24 #[.slice aa n ca, .slice ab n cb] w fun e w' => e = .returned (.bool true) ∧ Ext w w' := by
  have HA := Lib.hid ha
  have HB := Lib.hid hb
  clear ha hb
  go_enter Tryd.func24, Tryd.ntmps24
  go_wp2_with fail
  go_loopw [5] (fun i wr => ∃ k : Nat, k ≤ n ∧ i = .int .i64 k ∧ Ext w wr) (fun i _ => n - (intOf i).toNat)
  case atStart => exact ⟨0, by omega, rfl, Ext.refl _⟩
  case round =>
    obtain ⟨k, hk, rfl, hbl⟩ := hrel
    by_cases hlt : k < n
    · obtain ⟨b1, o1, rfl, hb1, q1, q2, q3⟩ := (S3.ext HA.out hbl).at hlt
      obtain ⟨b2, o2, rfl, hb2, q4, q5, q6⟩ := (S3.ext HB.out hbl).at hlt
      go_wp2_with fail
      refine wp_region_past (by kernel_rfl) (by kernel_rfl) ?_
      repeat (go_big_quiet_step ((go_at_call 49; exact Calls.past (eqMonth_self _ _ _ _))))
      refine wpQuiet_nil ?_
      rintro _ ⟨wx, rfl⟩
      go_wp2_with fail
      exact ⟨⟨k + 1, by omega, by go_num, (by repeat (first | with_reducible exact Ext.refl _ | with_reducible assumption | with_reducible refine Ext.alloc ?_ _ | with_reducible refine Ext.drew ?_ | (with_reducible refine Ext.setAt ?_ _ _ _ ?_; rotate_left; omega) | with_reducible refine Ext.trans ?_ (by assumption) | with_reducible exact Past.bel _ | with_reducible refine Ext.trans ?_ (Past.bel _)))⟩, by simp [intOf]; omega⟩
    · obtain rfl : k = n := by omega
      go_wp2_with fail
      go_ret
      exact ⟨rfl, hbl⟩
set_option maxHeartbeats 400000 in
theorem eqLeapRuleS_self (aa ab : Option Addr) (n ca cb : Nat) (ev rs : Nat → Int) (lf : Nat → Bool) (w : World) (hn : n ≤ 1048576) (ha : R3 w aa n ev rs lf) (hb : R3 w ab n ev rs lf) :
    Calls Tryd.prog 25 #[.slice aa n ca, .slice ab n cb] w fun e w' => e = .returned (.bool true) ∧ Ext w w' := by
  have HA := Lib.hid ha
  have HB := Lib.hid hb
  clear ha hb
  go_enter Tryd.func25, Tryd.ntmps25
  go_wp2_with fail
  go_loopw [5] (fun i wr => ∃ k : Nat, k ≤ n ∧ i = .int .i64 k ∧ Ext w wr) (fun i _ => n - (intOf i).toNat)
  case atStart => exact ⟨0, by omega, rfl, Ext.refl _⟩
  case round =>
    obtain ⟨k, hk, rfl, hbl⟩ := hrel
    by_cases hlt : k < n
    · obtain ⟨b1, o1, rfl, hb1, q1, q2, q3⟩ := (R3.ext HA.out hbl).at hlt
      obtain ⟨b2, o2, rfl, hb2, q4, q5, q6⟩ := (R3.ext HB.out hbl).at hlt
      go_wp2_with fail
      refine wp_region_past (by kernel_rfl) (by kernel_rfl) ?_
      repeat (go_big_quiet_step ((go_at_call 50; exact Calls.past (eqLeapRule_self _ _ _ _))))
      refine wpQuiet_nil ?_
      rintro _ ⟨wx, rfl⟩
      go_wp2_with fail
      exact ⟨⟨k + 1, by omega, by go_num, (by repeat (first | with_reducible exact Ext.refl _ | with_reducible assumption | with_reducible refine Ext.alloc ?_ _ | with_reducible refine Ext.drew ?_ | (with_reducible refine Ext.setAt ?_ _ _ _ ?_; rotate_left; omega) | with_reducible refine Ext.trans ?_ (by assumption) | with_reducible exact Past.bel _ | with_reducible refine Ext.trans ?_ (Past.bel _)))⟩, by simp [intOf]; omega⟩
    · obtain rfl : k = n := by omega
      go_wp2_with fail
      go_ret
      exact ⟨rfl, hbl⟩
end Go.Proofs.YtpohhnihgegmfaaDoor

namespace Go.Proofs.YtpohhnihgegmfaaDoor
open Go.RowKit
set_option linter.unusedVariables false
set_option linter.unusedSimpArgs false

set_option maxHeartbeats 400000 in
theorem eqCalendar_self (s : ByteArray) (m1 r1 m2 r2 : Option Addr) (c1 d1 c2 d2 : Nat) (wk : Int) (nm : Nat → ByteArray) (c : CalN) (w : World) (hm : c.n ≤ 1048576) (hr : c.nr ≤ 1048576) (h1 : CalM w m1 r1 nm c) (h2 : CalM w m2 r2 nm c) :
    Calls Tryd.prog 10 #[.agg #[.string s, .slice m1 c.n c1, .slice r1 c.nr d1, .int .i64 wk], .agg #[.string s, .slice m2 c.n c2, .slice r2 c.nr d2, .int .i64 wk]] w fun e w' => e = .returned (.bool true) ∧ Ext w w' := by
  have H1 := Lib.hid h1
  have H2 := Lib.hid h2
  clear h1 h2
  go_enter Tryd.func10, Tryd.ntmps10
  go_wp2_with fail
  refine (eqMonthS_self _ _ _ _ _ _ _ _ _ hm (H1.out.mo.ext (by repeat (first | with_reducible exact Ext.refl _ | with_reducible assumption | with_reducible refine Ext.alloc ?_ _ | with_reducible refine Ext.drew ?_ | (with_reducible refine Ext.setAt ?_ _ _ _ ?_; rotate_left; omega) | with_reducible refine Ext.trans ?_ (by assumption) | with_reducible exact Past.bel _ | with_reducible refine Ext.trans ?_ (Past.bel _)))) (H2.out.mo.ext (by repeat (first | with_reducible exact Ext.refl _ | with_reducible assumption | with_reducible refine Ext.alloc ?_ _ | with_reducible refine Ext.drew ?_ | (with_reducible refine Ext.setAt ?_ _ _ _ ?_; rotate_left; omega) | with_reducible refine Ext.trans ?_ (by assumption) | with_reducible exact Past.bel _ | with_reducible refine Ext.trans ?_ (Past.bel _))))).mono ?_
  rintro e w1 ⟨rfl, hx1⟩
  have e1 : ∀ k v, k < 4 → ((w.alloc (.cells #[.string s, .slice m1 c.n c1, .slice r1 c.nr d1, .int .i64 wk] 31)).alloc (.cells #[.string s, .slice m2 c.n c2, .slice r2 c.nr d2, .int .i64 wk] 31)).cell? ⟨w.heap.size, k, none⟩ = some v → w1.cell? ⟨w.heap.size, k, none⟩ = some v := fun k v _ h => by rw [hx1.cell (by simp <;> omega)]; exact h
  have e2 : ∀ k v, k < 4 → ((w.alloc (.cells #[.string s, .slice m1 c.n c1, .slice r1 c.nr d1, .int .i64 wk] 31)).alloc (.cells #[.string s, .slice m2 c.n c2, .slice r2 c.nr d2, .int .i64 wk] 31)).cell? ⟨w.heap.size + 1, k, none⟩ = some v → w1.cell? ⟨w.heap.size + 1, k, none⟩ = some v := fun k v _ h => by rw [hx1.cell (by simp <;> omega)]; exact h
  have a2 := e1 2 (.slice r1 c.nr d1) (by omega) (by simp [go_sem])
  have a3 := e1 3 (.int .i64 wk) (by omega) (by simp [go_sem])
  have b2 := e2 2 (.slice r2 c.nr d2) (by omega) (by simp [go_sem])
  have b3 := e2 3 (.int .i64 wk) (by omega) (by simp [go_sem])
  have z1 := hx1.size
  simp only [World.size_alloc] at z1
  have hxw : Ext w w1 := Ext.trans (by repeat (first | with_reducible exact Ext.refl _ | with_reducible assumption | with_reducible refine Ext.alloc ?_ _ | with_reducible refine Ext.drew ?_ | (with_reducible refine Ext.setAt ?_ _ _ _ ?_; rotate_left; omega) | with_reducible refine Ext.trans ?_ (by assumption) | with_reducible exact Past.bel _ | with_reducible refine Ext.trans ?_ (Past.bel _))) hx1
  clear e1 e2 hx1
  have g0 : w.heap.size < w1.heap.size := by omega
  have g1 : w.heap.size + 1 < w1.heap.size := by omega
  go_wp2_with fail
  refine (eqLeapRuleS_self _ _ _ _ _ _ _ _ _ hr (H1.out.ru.ext (by repeat (first | with_reducible exact Ext.refl _ | with_reducible assumption | with_reducible refine Ext.alloc ?_ _ | with_reducible refine Ext.drew ?_ | (with_reducible refine Ext.setAt ?_ _ _ _ ?_; rotate_left; omega) | with_reducible refine Ext.trans ?_ (by assumption) | with_reducible exact Past.bel _ | with_reducible refine Ext.trans ?_ (Past.bel _)))) (H2.out.ru.ext (by repeat (first | with_reducible exact Ext.refl _ | with_reducible assumption | with_reducible refine Ext.alloc ?_ _ | with_reducible refine Ext.drew ?_ | (with_reducible refine Ext.setAt ?_ _ _ _ ?_; rotate_left; omega) | with_reducible refine Ext.trans ?_ (by assumption) | with_reducible exact Past.bel _ | with_reducible refine Ext.trans ?_ (Past.bel _))))).mono ?_
  rintro e w2 ⟨rfl, hx2⟩
  have u3 : w2.cell? ⟨w.heap.size, 3, none⟩ = some (.int .i64 wk) := by rw [hx2.cell g0]; exact a3
  have v3 : w2.cell? ⟨w.heap.size + 1, 3, none⟩ = some (.int .i64 wk) := by rw [hx2.cell g1]; exact b3
  go_wp2_with fail
  go_ret
  exact ⟨rfl, (by repeat (first | with_reducible exact Ext.refl _ | with_reducible assumption | with_reducible refine Ext.alloc ?_ _ | with_reducible refine Ext.drew ?_ | (with_reducible refine Ext.setAt ?_ _ _ _ ?_; rotate_left; omega) | with_reducible refine Ext.trans ?_ (by assumption) | with_reducible exact Past.bel _ | with_reducible refine Ext.trans ?_ (Past.bel _)))⟩
end Go.Proofs.YtpohhnihgegmfaaDoor

namespace Go.Proofs.YtpohhnihgegmfaaDoor
open Go.RowKit
set_option linter.unusedVariables false
set_option linter.unusedSimpArgs false

theorem eqCal_own {w : World} {b1 b2 b3 b4 : Nat} {M : List Mo} {R : List Ru} {a1 a2 a3 a4 : Option Addr} {c1 c2 c3 c4 : Nat} (nm : ByteArray) (wk : Int) (hM : M.length ≤ 1000) (hR : R.length ≤ 1000)
    (h1 : w.ownsRow b1 68 3 (.slice a1 M.length c1) M.length (MT M)) (h2 : w.ownsRow b2 70 3 (.slice a2 R.length c2) R.length (RT R)) (h3 : w.ownsRow b3 68 3 (.slice a3 M.length c3) M.length (MT M)) (h4 : w.ownsRow b4 70 3 (.slice a4 R.length c4) R.length (RT R)) :
    Calls Tryd.prog 10 #[.agg #[.string nm, .slice a1 M.length c1, .slice a2 R.length c2, .int .i64 wk], .agg #[.string nm, .slice a3 M.length c3, .slice a4 R.length c4, .int .i64 wk]] w fun e w' => e = .returned (.bool true) ∧ Ext w w' :=
  eqCalendar_self nm a1 a2 a3 a4 c1 c2 c3 c4 wk (nmOf M) (calOf M R) w (Nat.le_trans hM (by decide)) (Nat.le_trans hR (by decide)) (own_calM h1 h2) (own_calM h3 h4)
set_option maxHeartbeats 1000000 in
theorem markCal_c (a1 a2 : Option Addr) (n1 n2 c1 c2 b1 b2 : Nat) (nm : ByteArray) (wk : Int) (xs ys : List Value) (w : World) (hn1 : n1 ≤ 1000) (hn2 : n2 ≤ 1000) (h1 : w.ownsRow b1 68 3 (.slice a1 n1 c1) n1 xs) (h2 : w.ownsRow b2 70 3 (.slice a2 n2 c2) n2 ys)
    (ap : ((Value.slice a1 n1 c1).ownBlock = none ∨ (Value.slice a1 n1 c1).ownBlock ≠ (Value.slice a2 n2 c2).ownBlock) ∧ ((Value.slice a2 n2 c2).ownBlock = none ∨ (Value.slice a2 n2 c2).ownBlock ≠ (Value.slice a1 n1 c1).ownBlock)) :
    Calls Tryd.prog 11 #[.agg #[.string nm, .slice a1 n1 c1, .slice a2 n2 c2, .int .i64 wk], .int .i64 1] w fun e w' => e = .returned (.int .i64 ((1 + n1 * 3 + n2 * 3 : Nat) : Int)) ∧ w'.ownsRow b1 68 3 (.slice a1 n1 c1) n1 (markedF (mM 1) xs (n1 * 3)) ∧ w'.ownsRow b2 70 3 (.slice a2 n2 c2) n2 (markedF (mR (1 + n1 * 3)) ys (n2 * 3)) ∧
      ∃ wm, w.grownBy wm (Value.slice a1 n1 c1).ownBlock ∧ wm.grownBy w' (Value.slice a2 n2 c2).ownBlock := by
  have H1 := Lib.hid h1
  have H2 := Lib.hid h2
  have AP := Lib.hid ap
  clear h1 h2 ap
  go_enter Tryd.func11, Tryd.ntmps11
  go_wp2_with fail
  refine (markMonthS_c a1 n1 c1 b1 1 xs _ hn1 (by omega) (own_ext H1.out (by repeat (first | with_reducible exact Ext.refl _ | with_reducible assumption | with_reducible refine Ext.alloc ?_ _ | with_reducible refine Ext.drew ?_ | (with_reducible refine Ext.setAt ?_ _ _ _ ?_; rotate_left; omega) | with_reducible refine Ext.trans ?_ (by assumption) | with_reducible exact Past.bel _ | with_reducible refine Ext.trans ?_ (Past.bel _))))).mono ?_
  rintro e w1 ⟨rfl, ho1, hg1⟩
  have B0 := Blk.new w #[.string nm, .slice a1 n1 c1, .slice a2 n2 c2, .int .i64 wk] 31
  obtain ⟨k1, k2, k3, k4, k5, k6, k7, k8, k9⟩ := (B0.grown hg1 (fun e => by have := (H1.out.lt _ e.symm).2; omega)).cel
  have G1 := Lib.hid (grown_trans (grown_weak (ext_grown ((Ext.refl w).alloc (.cells #[.string nm, .slice a1 n1 c1, .slice a2 n2 c2, .int .i64 wk] 31)))) hg1)
  have O1 := Lib.hid ho1
  have O2 := Lib.hid ((own_ext (w' := w.alloc _) H2.out ((Ext.refl _).alloc (.cells #[.string nm, .slice a1 n1 c1, .slice a2 n2 c2, .int .i64 wk] 31))).kept hg1 AP.out.2)
  obtain ⟨K, hK⟩ : ∃ K, K = 1 + n1 * 3 := ⟨_, rfl⟩
  rw [← hK]
  have HK := Lib.hid hK
  have hKb : K ≤ 3001 := by omega
  clear B0 hg1 ho1 hK
  go_wp2_with fail
  refine (markLeapRuleS_c a2 n2 c2 b2 K ys _ hn2 (by omega) O2.out).mono ?_
  rintro e w2 ⟨rfl, ho2, hg2⟩
  have P1 := Lib.hid (O1.out.kept hg2 AP.out.1)
  have P2 := Lib.hid ho2
  have G2 := Lib.hid hg2
  clear ho2 hg2
  go_wp2_with fail
  go_ret
  exact ⟨ret_i64 (by have := HK.out; subst this; simp), P1.out, by rw [← HK.out]; exact P2.out, _, G1.out, G2.out⟩
set_option maxHeartbeats 1000000 in
theorem heldCal_c (a1 a2 : Option Addr) (n1 n2 c1 c2 b1 b2 : Nat) (nm : ByteArray) (wk : Int) (xs ys : List Value) (w : World) (hn1 : n1 ≤ 1000) (hn2 : n2 ≤ 1000) (hx : xs.length = n1 * 3) (hy : ys.length = n2 * 3) (h1 : w.ownsRow b1 68 3 (.slice a1 n1 c1) n1 (markedF (mM 1) xs (n1 * 3))) (h2 : w.ownsRow b2 70 3 (.slice a2 n2 c2) n2 (markedF (mR (1 + n1 * 3)) ys (n2 * 3))) :
    Calls Tryd.prog 12 #[.agg #[.string nm, .slice a1 n1 c1, .slice a2 n2 c2, .int .i64 wk], .int .i64 1] w fun e w' => e = .returned (.int .i64 ((1 + n1 * 3 + n2 * 3 : Nat) : Int)) ∧ Ext w w' := by
  have H1 := Lib.hid h1
  have H2 := Lib.hid h2
  clear h1 h2
  go_enter Tryd.func12, Tryd.ntmps12
  go_wp2_with fail
  refine (heldMonthS_c a1 n1 c1 b1 1 xs _ hn1 (by omega) hx (own_ext H1.out (by repeat (first | with_reducible exact Ext.refl _ | with_reducible assumption | with_reducible refine Ext.alloc ?_ _ | with_reducible refine Ext.drew ?_ | (with_reducible refine Ext.setAt ?_ _ _ _ ?_; rotate_left; omega) | with_reducible refine Ext.trans ?_ (by assumption) | with_reducible exact Past.bel _ | with_reducible refine Ext.trans ?_ (Past.bel _))))).mono ?_
  rintro e w1 ⟨rfl, hx1⟩
  obtain ⟨k1, k2, k3, k4, k5, k6, k7, k8, k9⟩ := ((Blk.new w #[.string nm, .slice a1 n1 c1, .slice a2 n2 c2, .int .i64 wk] 31).ext hx1).cel
  have e1 : Ext w w1 := Ext.trans (by repeat (first | with_reducible exact Ext.refl _ | with_reducible assumption | with_reducible refine Ext.alloc ?_ _ | with_reducible refine Ext.drew ?_ | (with_reducible refine Ext.setAt ?_ _ _ _ ?_; rotate_left; omega) | with_reducible refine Ext.trans ?_ (by assumption) | with_reducible exact Past.bel _ | with_reducible refine Ext.trans ?_ (Past.bel _))) hx1
  obtain ⟨K, hK⟩ : ∃ K, K = 1 + n1 * 3 := ⟨_, rfl⟩
  have HK := Lib.hid hK
  rw [← hK] at H2
  rw [← hK]
  have hKb : K ≤ 3001 := by omega
  have y0 : ¬ (K : Int) < 0 := by omega
  clear hK hx1
  go_wp2_with fail
  refine (heldLeapRuleS_c a2 n2 c2 b2 K ys _ hn2 (by omega) hy (own_ext H2.out e1)).mono ?_
  rintro e w2 ⟨rfl, rfl⟩
  obtain ⟨L, hL⟩ : ∃ L, L = K + n2 * 3 := ⟨_, rfl⟩
  rw [← hL]
  have y1 : ¬ (L : Int) < 0 := by omega
  have HL := Lib.hid hL
  clear hL
  go_wp2_with fail
  go_ret
  exact ⟨ret_i64 (by have h1 := HL.out; have h2 := HK.out; omega), e1⟩
end Go.Proofs.YtpohhnihgegmfaaDoor

namespace Go.Proofs.YtpohhnihgegmfaaDoor
open Go.ChangeShapes Go.WideShapes Go.ChangeAt Go.RowKit
set_option linter.unusedVariables false
set_option linter.unusedSimpArgs false

theorem cr_len {l : List UInt8} {C : Cl} {b : Bool} (r : CR l C b) : C.M.length ≤ 20 ∧ C.R.length ≤ 6 := by
  cases b
  · obtain ⟨rfl, -⟩ := r.no rfl
    exact ⟨Nat.zero_le _, Nat.zero_le _⟩
  · have h := calB_b (r.yes rfl).1
    exact ⟨h.n20, h.nr6⟩
set_option maxRecDepth 100000 in
set_option maxHeartbeats 8000000 in
theorem walkReadCalendar (s : ByteArray) (hs : s.size ≤ maxLen) (w : World) (ht : Gl w) :
    Calls Tryd.prog 4 #[.string s] w fun e w' => e = .returned (.bool true) ∧ Ext w w' := by
  have HT := Lib.hid ht
  clear ht
  have hz : (s.size : Int) ≤ 9223372036854775807 := by unfold maxLen at hs; omega
  clear hs
  by_cases hlong : 1048576 < s.size
  · have x0 : (1048576 : Int) < s.size := by omega
    go_enter Tryd.func4, Tryd.ntmps4
    go_wp2_with fail
    go_ret
    exact ⟨rfl, (by repeat (first | with_reducible exact Ext.refl _ | with_reducible assumption | with_reducible refine Ext.alloc ?_ _ | with_reducible refine Ext.drew ?_ | (with_reducible refine Ext.setAt ?_ _ _ _ ?_; rotate_left; omega) | with_reducible refine Ext.trans ?_ (by assumption) | with_reducible exact Past.bel _ | with_reducible refine Ext.trans ?_ (Past.bel _)))⟩
  · have x0 : ¬ (1048576 : Int) < s.size := by omega
    have hs20 : s.size ≤ 1048576 := by omega
    obtain ⟨C, b, r⟩ := CR.ex s.data.toList
    obtain ⟨hM, hR⟩ := cr_len r
    have HSP := Lib.hid (fun W => specReadCalendar_c s W hs20 r)
    have HIM := Lib.hid (fun W (hg : Gl W) => implReadCalendar_c s W hs20 hg r)
    clear r hs20
    obtain ⟨nm, wk, M, R⟩ := C
    simp only at hM hR
    go_enter Tryd.func4, Tryd.ntmps4
    go_wp2_with fail
    refine (HSP.out _).mono ?_
    rintro e w1 ⟨a1, c1, a2, c2, rfl, hx1, om1, or1⟩
    have OM1 := Lib.hid om1
    have OR1 := Lib.hid or1
    clear om1 or1
    go_wp2_with fail
    have B1 := Blk.new w1 #[.string nm, .slice a1 M.length c1, .slice a2 R.length c2, .int .i64 wk] 31
    have e1 : Ext w (w1.alloc (.cells #[.string nm, .slice a1 M.length c1, .slice a2 R.length c2, .int .i64 wk] 31)) := Ext.alloc hx1 _
    have M1 := own_ext OM1.out ((Ext.refl w1).alloc (.cells #[.string nm, .slice a1 M.length c1, .slice a2 R.length c2, .int .i64 wk] 31))
    have R1 := own_ext OR1.out ((Ext.refl w1).alloc (.cells #[.string nm, .slice a1 M.length c1, .slice a2 R.length c2, .int .i64 wk] 31))
    obtain ⟨g1, hg1⟩ : ∃ g, g = w1.heap.size := ⟨_, rfl⟩
    generalize hX : w1.alloc (.cells #[.string nm, .slice a1 M.length c1, .slice a2 R.length c2, .int .i64 wk] 31) = X at B1 e1 M1 R1 ⊢
    rw [← hg1] at B1 ⊢
    clear hX hg1 hx1 OM1 OR1
    refine (HIM.out _ (HT.out.ext e1)).mono ?_
    rintro e w2 ⟨a3, c3, a4, c4, rfl, hx2, om2, or2⟩
    have e2 : Ext w w2 := Ext.trans e1 hx2
    have hAl := (Ext.refl w2).alloc (.cells #[.string nm, .slice a3 M.length c3, .slice a4 R.length c4, .int .i64 wk] 31)
    have B1' := Lib.hid ((B1.ext hx2).ext hAl)
    have M1' := Lib.hid (own_ext (own_ext M1 hx2) hAl)
    have R1' := Lib.hid (own_ext (own_ext R1 hx2) hAl)
    have M2 := Lib.hid (own_ext om2 hAl)
    have R2 := Lib.hid (own_ext or2 hAl)
    have B2 := Lib.hid (Blk.new w2 #[.string nm, .slice a3 M.length c3, .slice a4 R.length c4, .int .i64 wk] 31)
    have e3 : Ext w (w2.alloc (.cells #[.string nm, .slice a3 M.length c3, .slice a4 R.length c4, .int .i64 wk] 31)) := Ext.alloc e2 _
    have AP := Lib.hid (And.intro (own_apart or2 om2 (by decide)) (own_apart om2 or2 (by decide)))
    have HM2 := Lib.hid (fun k hk => (om2.lt k hk).2)
    have HR2 := Lib.hid (fun k hk => (or2.lt k hk).2)
    have lw := Lib.hid (fun k hk => (M1.lt k hk).2)
    have lr := Lib.hid (fun k hk => (R1.lt k hk).2)
    have lb := B1.lt
    have wX := e1.size
    have lz := hx2.size
    obtain ⟨k1, k2, k3, k4, k5, k6, k7, k8, k9⟩ := B1'.out.cel
    obtain ⟨j1, j2, j3, j4, j5, j6, j7, j8, j9⟩ := B2.out.cel
    clear B1 M1 R1 om2 or2 e1 hAl hx2
    go_wp2_with fail
    clear k1 k2 k3 k4 k5 k6 k7 k8 k9 j1 j2 j3 j4 j5 j6 j7 j8 j9
    have m2 := Lib.hid (fun k (hk : (Value.slice a3 M.length c3).ownBlock = some k) => (show k < w2.heap.size from by have := HM2.out k hk; exact this))
    have r2 := Lib.hid (fun k (hk : (Value.slice a4 R.length c4).ownBlock = some k) => (show k < w2.heap.size from by have := HR2.out k hk; exact this))
    obtain ⟨g2, hg2⟩ : ∃ g, g = w2.heap.size := ⟨_, rfl⟩
    rw [← hg2] at B2 m2 r2
    rw [← hg2]
    generalize hY : w2.alloc (.cells #[.string nm, .slice a3 M.length c3, .slice a4 R.length c4, .int .i64 wk] 31) = Y at B1' M1' R1' M2 R2 B2 e3 ⊢
    have hXY : X.heap.size ≤ g2 := by omega
    clear hY hg2 lz
    refine (eqCal_own nm wk (by omega) (by omega) M2.out R2.out M1'.out R1'.out).mono ?_
    rintro e w3 ⟨rfl, hx3⟩
    have e4 : Ext w w3 := Ext.trans e3 hx3
    have B1 := Lib.hid (B1'.out.ext hx3)
    have B2' := Lib.hid (B2.out.ext hx3)
    have M1 := Lib.hid (own_ext M1'.out hx3)
    have R1 := Lib.hid (own_ext R1'.out hx3)
    have M2' := Lib.hid (own_ext M2.out hx3)
    have R2' := Lib.hid (own_ext R2.out hx3)
    obtain ⟨k1, k2, k3, k4, k5, k6, k7, k8, k9⟩ := B1.out.cel
    obtain ⟨j1, j2, j3, j4, j5, j6, j7, j8, j9⟩ := B2'.out.cel
    clear B1' B2 M1' R1' M2 R2 e3 hx3
    go_wp2_with fail
    refine (markCal_c a3 a4 M.length R.length c3 c4 _ _ nm wk (MT M) (RT R) _ (by omega) (by omega) M2'.out R2'.out AP.out).mono ?_
    rintro e w4 ⟨rfl, om4, or4, wm, hgm, hgn⟩
    have nm1 : ∀ b, b < X.heap.size → some b ≠ (Value.slice a3 M.length c3).ownBlock := fun b hb e => by have := (M2'.out.lt b e.symm).1; omega
    have nm2 : ∀ b, b < X.heap.size → some b ≠ (Value.slice a4 R.length c4).ownBlock := fun b hb e => by have := (R2'.out.lt b e.symm).1; omega
    have B1' := Lib.hid ((B1.out.grown hgm (nm1 _ lb)).grown hgn (nm2 _ lb))
    have B2 := Lib.hid ((B2'.out.grown hgm (fun e => by have := m2.out _ e.symm; omega)).grown hgn (fun e => by have := r2.out _ e.symm; omega))
    have keep : ∀ {b : Nat} {e : TypeId} {v : Value} {n : Nat} {xs : List Value}, w3.ownsRow b e 3 v n xs → (∀ k, v.ownBlock = some k → k < X.heap.size) → w4.ownsRow b e 3 v n xs := fun {b e v n xs} h hk => by
      refine (h.kept hgm ?_).kept hgn ?_
      · cases hv : v.ownBlock with
        | none => exact .inl rfl
        | some k => exact .inr (nm1 k (hk k hv))
      · cases hv : v.ownBlock with
        | none => exact .inl rfl
        | some k => exact .inr (nm2 k (hk k hv))
    have M1' := Lib.hid (keep M1.out lw.out)
    have R1' := Lib.hid (keep R1.out lr.out)
    have M4 := Lib.hid om4
    have R4 := Lib.hid or4
    have e5 : Ext w w4 := Ext.grown (Ext.grown e4 hgm (fun k hk => by have := (M2'.out.lt k hk).1; omega)) hgn (fun k hk => by have := (R2'.out.lt k hk).1; omega)
    obtain ⟨K, hK⟩ : ∃ K, K = 1 + M.length * 3 + R.length * 3 := ⟨_, rfl⟩
    rw [← hK]
    have y0 : ¬ (K : Int) < 0 := by omega
    have HK := Lib.hid hK
    clear k1 k2 k3 k4 k5 k6 k7 k8 k9 j1 j2 j3 j4 j5 j6 j7 j8 j9
    obtain ⟨k1, k2, k3, k4, k5, k6, k7, k8, k9⟩ := B1'.out.cel
    obtain ⟨j1, j2, j3, j4, j5, j6, j7, j8, j9⟩ := B2.out.cel
    clear B1 B2' M1 R1 M2' R2' keep nm1 nm2 hgm hgn om4 or4 e4 hK
    go_wp2_with fail
    have HH := Lib.hid (fun W (hq : Ext w4 W) => (HK.out ▸ heldCal_c a3 a4 M.length R.length c3 c4 _ _ nm wk (MT M) (RT R) W (by omega) (by omega) (MT_len M) (RT_len R) (own_ext M4.out hq) (own_ext R4.out hq) : Calls Tryd.prog 12 #[.agg #[.string nm, .slice a3 M.length c3, .slice a4 R.length c4, .int .i64 wk], .int .i64 1] W fun e w' => e = .returned (.int .i64 (K : Int)) ∧ Ext W w'))
    refine (HH.out _ (Ext.refl _)).mono ?_
    rintro e w5 ⟨rfl, hx5⟩
    have e6 : Ext w w5 := Ext.trans e5 hx5
    have B1 := Lib.hid (B1'.out.ext hx5)
    have B2' := Lib.hid (B2.out.ext hx5)
    have M1 := Lib.hid (own_ext M1'.out hx5)
    have R1 := Lib.hid (own_ext R1'.out hx5)
    clear k1 k2 k3 k4 k5 k6 k7 k8 k9 j1 j2 j3 j4 j5 j6 j7 j8 j9
    obtain ⟨k1, k2, k3, k4, k5, k6, k7, k8, k9⟩ := B1.out.cel
    obtain ⟨j1, j2, j3, j4, j5, j6, j7, j8, j9⟩ := B2'.out.cel
    clear B1' B2 M1' R1' e5
    go_wp2_with fail
    refine (HIM.out _ (HT.out.ext e6)).mono ?_
    rintro e w6 ⟨a5, c5, a6, c6, rfl, hx6, om6, or6⟩
    have hAl := (Ext.refl w6).alloc (.cells #[.string nm, .slice a5 M.length c5, .slice a6 R.length c6, .int .i64 wk] 31)
    have hx7 := Ext.trans hx6 hAl
    have B1' := Lib.hid (B1.out.ext hx7)
    have B2 := Lib.hid (B2'.out.ext hx7)
    have M1' := Lib.hid (own_ext M1.out hx7)
    have R1' := Lib.hid (own_ext R1.out hx7)
    have M6 := Lib.hid (own_ext om6 hAl)
    have R6 := Lib.hid (own_ext or6 hAl)
    have B3 := Lib.hid (Blk.new w6 #[.string nm, .slice a5 M.length c5, .slice a6 R.length c6, .int .i64 wk] 31)
    have e7 : Ext w (w6.alloc (.cells #[.string nm, .slice a5 M.length c5, .slice a6 R.length c6, .int .i64 wk] 31)) := Ext.trans e6 hx7
    have x7 : Ext w4 (w6.alloc (.cells #[.string nm, .slice a5 M.length c5, .slice a6 R.length c6, .int .i64 wk] 31)) := Ext.trans hx5 hx7
    have lt6 := Nat.lt_of_lt_of_le B1.out.lt hx6.size
    have lt7 := Nat.lt_of_lt_of_le B2'.out.lt hx6.size
    clear k1 k2 k3 k4 k5 k6 k7 k8 k9 j1 j2 j3 j4 j5 j6 j7 j8 j9
    obtain ⟨k1, k2, k3, k4, k5, k6, k7, k8, k9⟩ := B1'.out.cel
    obtain ⟨j1, j2, j3, j4, j5, j6, j7, j8, j9⟩ := B2.out.cel
    obtain ⟨l1, l2, l3, l4, l5, l6, l7, l8, l9⟩ := B3.out.cel
    clear B1 B2' M1 R1 om6 or6 hAl hx7 e6 hx5 hx6
    go_wp2_with fail
    generalize hZ : w6.alloc (.cells #[.string nm, .slice a5 M.length c5, .slice a6 R.length c6, .int .i64 wk] 31) = Z at B1' M1' R1' M6 R6 B2 e7 x7 ⊢
    clear hZ k1 k2 k3 k4 k5 k6 k7 k8 k9 j1 j2 j3 j4 j5 j6 j7 j8 j9 l1 l2 l3 l4 l5 l6 l7 l8 l9
    refine (eqCal_own nm wk (by omega) (by omega) M6.out R6.out M1'.out R1'.out).mono ?_
    rintro e w8 ⟨rfl, hx8⟩
    have e8 : Ext w w8 := Ext.trans e7 hx8
    have x8 : Ext w4 w8 := Ext.trans x7 hx8
    have B2' := Lib.hid (B2.out.ext hx8)
    obtain ⟨j1, j2, j3, j4, j5, j6, j7, j8, j9⟩ := B2'.out.cel
    clear B1' M1' R1' M6 R6 B2 e7 x7 hx8
    go_wp2_with fail
    refine (HH.out _ x8).mono ?_
    rintro e w9 ⟨rfl, hx9⟩
    have e9 : Ext w w9 := Ext.trans e8 hx9
    go_wp2_with fail
    go_ret
    exact ⟨rfl, e9⟩
end Go.Proofs.YtpohhnihgegmfaaDoor

namespace Go.Proofs.YtpohhnihgegmfaaDoor
open Go.ChangeShapes Go.WideShapes Go.ChangeAt Go.WideMaps Go.WideElems Go.RowKit
set_option linter.unusedVariables false

def laid7 : List (String × DataW Unit) := [("math/bits.deBruijn32tab", Rows.laid_math_bits_deBruijn32tab), ("math/bits.deBruijn64tab", Rows.laid_math_bits_deBruijn64tab), ("internal/strconv.uint64pow10", Rows.laid_internal_strconv_uint64pow10), ("unicode/utf8.acceptRanges", Rows.laid_unicode_utf8_acceptRanges), ("strconv.ErrRange", Rows.laid_strconv_ErrRange), ("strconv.ErrSyntax", Rows.laid_strconv_ErrSyntax), ("unicode/utf8.first", Rows.laid_unicode_utf8_first)]
theorem open_str {P : Program} {H : Type} {enc : TypeId × Value → H} {w : World} {base : Nat} {spare : Nat → Bool} {held : Bool} {r : Reach} {b0 : Nat} {t : TypeId} {v : Value} {d : DataW H} {p : List MemPlace} (ht : P.underlying t = some .string) (hv : Value.okWide P w r b0 t v) (h : DataW.Trod enc P w base spare held t v d p) :
    ∃ s : ByteArray, v = .string s ∧ s.size ≤ maxLen := by
  obtain ⟨s0, rfl⟩ := okWide_string ht hv
  obtain ⟨fuel, hf⟩ := h
  obtain ⟨s, hs, _, hz⟩ := DataW.trod_string ht hf
  obtain rfl : s0 = s := by simpa [Value.cells] using hs
  exact ⟨s0, rfl, hz⟩
theorem iface_read {P : Program} {w : World} {sp : Nat → Bool} {fuel : Nat} {t : TypeId} {ms : Array (String × TypeId)} {cs : List Value} {name : String} {d : DataW Unit} {p : List MemPlace}
    (ht : P.underlying t = some (.interface ms)) (h : DataW.trod (fun _ => ()) P w 0 sp false fuel t cs = some (.iface name d, p)) : ∃ u v, cs = [.iface u v] := by
  cases fuel with
  | zero => simp [DataW.trod] at h
  | succ n =>
    unfold DataW.trod at h
    rw [ht] at h
    split at h <;> simp_all
theorem cell_lt {w : World} {b o : Nat} {v : Value} (h : w.cell? ⟨b, o, none⟩ = some v) : b < w.heap.size := by
  rcases Nat.lt_or_ge b w.heap.size with h' | h'
  · exact h'
  · simp [World.cell?, Array.getElem?_eq_none h'] at h
theorem gl_of {W : World} (h : laidMetH Tryd.prog laid7 W) (hs : W.ShapedOpen Tryd.prog) : Gl W := by
  rw [MakeChecks.laidMetH_plain _ _ _ (by kernel_rfl)] at h
  obtain ⟨m, hm⟩ : ∃ m, W.cell? ⟨0, 0, none⟩ = some (.int .i64 m) := cell_of_shapedOpen_int (zero := #[.int .i64 0]) (t := 3) hs (of_decide_eq_true (by kernel_rfl)) (by kernel_rfl) rfl (by kernel_rfl) (by kernel_rfl) Tryd.underlying3
  obtain ⟨ps, ⟨g0, t0, cs0, f0, p0, q0, hg0, ht0, hv0, hd0, ⟨g1, t1, cs1, f1, p1, q1, hg1, ht1, hv1, hd1, ⟨g2, t2, cs2, f2, p2, q2, hg2, ht2, hv2, hd2, ⟨g3, t3, cs3, f3, p3, q3, hg3, ht3, hv3, hd3, ⟨g4, t4, cs4, f4, p4, q4, hg4, ht4, hv4, hd4, ⟨g5, t5, cs5, f5, p5, q5, hg5, ht5, hv5, hd5, _⟩, _⟩, _⟩, _⟩, _⟩, _⟩, _, _⟩ := h
  refine ⟨?_, ⟨m, fun w' x => (x.cell (cell_lt hm)).trans hm⟩, ?_, ?_⟩
  · have k1 : Tryd.prog.globalNamed "internal/strconv.uint64pow10" = some 5 := by kernel_rfl
    have k2 : (Tryd.prog.globals[5]?).map (·.type) = some 130 := by kernel_rfl
    obtain rfl := Option.some.inj (k1.symm.trans hg2)
    obtain rfl := Option.some.inj (k2.symm.trans ht2)
    refine Lib.tabBelow_of_tabIs ?_
    unfold Lib.TabIs
    rw [hv2, ← Lib.cells_of_tab (k := .u64) (zs := Lib.pow10Tab) (n := 20) Tryd.underlying130 Tryd.underlying99 (by kernel_rfl) (by kernel_rfl) hd2]
  · have k1 : Tryd.prog.globalNamed "strconv.ErrSyntax" = some 1 := by kernel_rfl
    have k2 : (Tryd.prog.globals[1]?).map (·.type) = some 59 := by kernel_rfl
    obtain rfl := Option.some.inj (k1.symm.trans hg5)
    obtain rfl := Option.some.inj (k2.symm.trans ht5)
    obtain ⟨u, v, e⟩ := iface_read Tryd.underlying59 hd5
    have hc : W.cell? ⟨1, 0, none⟩ = some (.iface u v) := by
      rw [World.var?_cell hg5 hv5 0, ← Array.getElem?_toList, e]; rfl
    exact ⟨_, Or.inr ⟨u, v, rfl⟩, fun w' x => (x.cell (cell_lt hc)).trans hc⟩
  · have k1 : Tryd.prog.globalNamed "strconv.ErrRange" = some 2 := by kernel_rfl
    have k2 : (Tryd.prog.globals[2]?).map (·.type) = some 59 := by kernel_rfl
    obtain rfl := Option.some.inj (k1.symm.trans hg4)
    obtain rfl := Option.some.inj (k2.symm.trans ht4)
    obtain ⟨u, v, e⟩ := iface_read Tryd.underlying59 hd4
    have hc : W.cell? ⟨2, 0, none⟩ = some (.iface u v) := by
      rw [World.var?_cell hg4 hv4 0, ← Array.getElem?_toList, e]; rfl
    exact ⟨_, Or.inr ⟨u, v, rfl⟩, fun w' x => (x.cell (cell_lt hc)).trans hc⟩
theorem laid7_met (os : Os) (args : Array Value) : laidMetH Tryd.prog laid7 ((World.laidAll Tryd.prog os laid7).forCall (fun _ _ => 0) ⟨#[], args, []⟩).memory := by
  rw [MakeChecks.laidMetH_plain _ _ _ (by kernel_rfl)]
  exact laidMet_laidAll _ (by kernel_rfl) (by kernel_rfl)
/-- a row whose listed variables are laid, the world's shape handed on -/
theorem row_shaped {H : Type} {enc : TypeId × Value → H} {a : Assume} {C : Checked} {os : Os} {f : FuncId} {fn : Func} {s : ChangeSpec} {conds : List PathCond} {apart fresh handsOn again : Bool} {X : World → Prop}
    (hX : ∀ (w w' : World), w.heap = w'.heap → X w → X w')
    (own : ownKnob C.prog.godebug = none) (started : os.Started) (noInit : C.prog.inits.idxOf? f = none) (hfn : C.prog.funcs[f]? = some fn)
    (witness : ∃ (w : World) (tape : Tape) (i : Input), w.os = os ∧ (w.forCall tape i).Shaped C.prog ∧ i.vars = [] ∧ Input.okWide C.prog (w.forCall tape i) .any w.heap.size f i ∧
      ((s.pre enc C.prog fn conds apart (w.forCall tape i).memory i.args ∧ X (w.forCall tape i).memory) ∧ sizedMet enc C.prog fn (OpenSpec.ofChange s) apart (w.forCall tape i).memory i.args) ∧ a.holds C.prog (lone (Frame.enter C.prog f i.args .normal) [] (w.forCall tape i)))
    (contract : ∀ (W : World) (base : Nat) (args : Array Value) (ds gs : List (DataW H)) (before : List MemPlace),
      (∀ (j : Nat) t v, fn.params[j]? = some t → args[j]? = some v → Value.okWide C.prog W .any base t v) →
      DataW.Whole enc C.prog fn.params.toList s.vars apart W args.toList ds gs before → X W → W.ShapedOpen C.prog →
      Calls C.prog f args W fun e W' => ∃ v, e = .returned v ∧ s.post enc C.prog fn apart fresh handsOn again W args v W') :
    ReturnsInHanded a C os f .any (fun w args => (s.pre enc C.prog fn conds apart w args ∧ X w) ∧ sizedMet enc C.prog fn (OpenSpec.ofChange s) apart w args) (s.post enc C.prog fn apart fresh handsOn again) := by
  refine returnsInHanded_of_calls own started noInit witness ?_
  rintro w tape i - hsh - ⟨_, _, _, fn', hfn', _, _, _, _, hval⟩ ⟨⟨⟨ds, gs, before, hw, _⟩, hx⟩, _⟩ _
  obtain rfl : fn' = fn := Option.some.inj (hfn'.symm.trans hfn)
  refine (contract (w.forCall tape i) w.heap.size i.args ds gs before hval (DataW.Whole.of_heap (w' := w.forCall tape i) (by rfl) hw) (hX _ _ (by rfl) hx) hsh).mono ?_
  rintro e W' ⟨v, rfl, hp⟩
  exact ChangeSpec.post_blind hp
theorem laid7_shaped (os : Os) (args : Array Value) : ((World.laidAll Tryd.prog os laid7).forCall (fun _ _ => 0) ⟨#[], args, []⟩).Shaped Tryd.prog :=
  World.shaped_of_ZipB (by kernel_rfl) (by kernel_rfl)
end Go.Proofs.YtpohhnihgegmfaaDoor
