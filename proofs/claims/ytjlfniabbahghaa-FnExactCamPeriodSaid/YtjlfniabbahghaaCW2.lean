/- Cams: checked. -/
import Derived.Test.YtjlfniabbahghaaCW1
import Derived.Test.YtjlfniabbahghaaCPlain4
namespace Go.Proofs.Ytjlfniabbahghaa
open Go.RowKit
set_option linter.unusedVariables false
set_option linter.unusedSimpArgs false

set_option maxHeartbeats 400000 in
theorem eqInt64S_c (aa ab : Option Addr) (n m ca cb : Nat) (f g : Nat → Int) (w : World) (hn : n ≤ 1048576) (hm : m ≤ 1048576) (ha : S1 w aa n f) (hb : S1 w ab m g) :
    Calls Try.prog 10 #[.slice aa n ca, .slice ab m cb] w fun e w' => e = .returned (.bool (n == m && eq1To f g n)) ∧ Ext w w' := by
  have HA := Lib.hid ha
  have HB := Lib.hid hb
  clear ha hb
  by_cases hnm : n = m
  · subst hnm
    go_enter Try.func10, Try.ntmps10
    go_wp2_with fail
    go_loopw [5] (fun i wr => ∃ k : Nat, k ≤ n ∧ i = .int .i64 k ∧ Ext w wr ∧ eq1To f g k = true) (fun i _ => n - (intOf i).toNat)
    case atStart => exact ⟨0, by omega, rfl, Ext.refl _, rfl⟩
    case round =>
      obtain ⟨k, hk, rfl, hbl, heq⟩ := hrel
      have HE := Lib.hid heq
      clear heq
      by_cases hlt : k < n
      · obtain ⟨b1, o1, rfl, hb1, q1⟩ := (S1.ext HA.out hbl).at hlt
        obtain ⟨b2, o2, rfl, hb2, q3⟩ := (S1.ext HB.out hbl).at hlt
        by_cases hne : f k = g k
        · have hb0 : (f k != g k) = false := by simpa using hne
          have HN := Lib.hid hne
          clear hne
          go_wp2_with fail
          refine wp_region_past (by kernel_rfl) (by kernel_rfl) ?_
          repeat (go_big_quiet_step (fail))
          refine wpQuiet_nil ?_
          rintro _ ⟨wx, rfl⟩
          go_wp2_with fail
          exact ⟨⟨k + 1, by omega, by go_num, (by repeat (first | with_reducible exact Ext.refl _ | with_reducible assumption | with_reducible refine Ext.alloc ?_ _ | with_reducible refine Ext.drew ?_ | (with_reducible refine Ext.setAt ?_ _ _ _ ?_; rotate_left; omega) | with_reducible refine Ext.trans ?_ (by assumption) | with_reducible exact Past.bel _ | with_reducible refine Ext.trans ?_ (Past.bel _))), by simp [eq1To, HE.out, HN.out]⟩, by simp [intOf]; omega⟩
        · have hb0 : (f k != g k) = true := by simpa using hne
          have HN := Lib.hid hne
          clear hne
          go_wp2_with fail
          refine wp_region_past (by kernel_rfl) (by kernel_rfl) ?_
          repeat (go_big_quiet_step (fail))
          refine wpQuiet_nil ?_
          rintro _ ⟨wx, rfl⟩
          go_wp2_with fail
          go_ret
          exact ⟨ret_bool (by rw [eq1To_ff hlt HN.out]; simp), (by repeat (first | with_reducible exact Ext.refl _ | with_reducible assumption | with_reducible refine Ext.alloc ?_ _ | with_reducible refine Ext.drew ?_ | (with_reducible refine Ext.setAt ?_ _ _ _ ?_; rotate_left; omega) | with_reducible refine Ext.trans ?_ (by assumption) | with_reducible exact Past.bel _ | with_reducible refine Ext.trans ?_ (Past.bel _)))⟩
      · obtain rfl : k = n := by omega
        go_wp2_with fail
        go_ret
        exact ⟨ret_bool (by simp [HE.out]), hbl⟩
  · have hne : ((n : Int) != (m : Int)) = true := by simp; omega
    go_enter Try.func10, Try.ntmps10
    go_wp2_with fail
    go_ret
    exact ⟨ret_bool (by simp [hnm]), Ext.refl _⟩
theorem eqInt64S_self (aa ab : Option Addr) (n ca cb : Nat) (f : Nat → Int) (w : World) (hn : n ≤ 1048576) (ha : S1 w aa n f) (hb : S1 w ab n f) :
    Calls Try.prog 10 #[.slice aa n ca, .slice ab n cb] w fun e w' => e = .returned (.bool true) ∧ Ext w w' :=
  (eqInt64S_c aa ab n n ca cb f f w hn hn ha hb).mono fun e w' ⟨he, hx⟩ => ⟨by rw [he, eq1To_self]; simp, hx⟩
set_option maxHeartbeats 400000 in
theorem toInt64S_c (a : Option Addr) (n c : Nat) (z : Nat → Int) (w : World) (hn : n ≤ 1048576) (hs : S1 w a n z) :
    Calls Try.prog 8 #[.slice a n c] w fun e w' => ∃ cur, e = .returned (.slice (some ⟨w.heap.size, 0, none⟩) n n) ∧ Ext w w' ∧ Blk w' w.heap.size 2 cur ∧ cur.size = n ∧ C1 cur n z := by
  have HS := Lib.hid hs
  clear hs
  have hmk := make_run (P := Try.prog) 22 2 (.int .i64 0) 1 8 Try.underlying22 (by kernel_rfl) n (by omega) (by omega)
  go_enter Try.func8, Try.ntmps8
  go_wp2_with fail
  clear hmk
  go_loopw [4] (fun i wr => ∃ (k : Nat) (cur : Array Value), k ≤ n ∧ i = .int .i64 k ∧ Ext w wr ∧ Blk wr w.heap.size 2 cur ∧ cur.size = n ∧ C1 cur k z) (fun i _ => n - (intOf i).toNat)
  case atStart => exact ⟨0, _, by omega, rfl, (by repeat (first | with_reducible exact Ext.refl _ | with_reducible assumption | with_reducible refine Ext.alloc ?_ _ | with_reducible refine Ext.drew ?_ | (with_reducible refine Ext.setAt ?_ _ _ _ ?_; rotate_left; omega) | with_reducible refine Ext.trans ?_ (by assumption) | with_reducible exact Past.bel _ | with_reducible refine Ext.trans ?_ (Past.bel _))), Blk.new _ _ _, by simp [Mk.size], C1.zero _ _⟩
  case round =>
    obtain ⟨k, cur, hk, rfl, hext, hblk, hcs, hc2⟩ := hrel
    have HB := Lib.hid hblk
    have HC := Lib.hid hc2
    have HZ := Lib.hid hcs
    have hgs := hblk.lt
    by_cases hlt : k < n
    · obtain ⟨b1, o1, rfl, hb1, q1⟩ := (S1.ext HS.out hext).at hlt
      obtain ⟨v1, e1⟩ : ∃ v, wr.cell? ⟨w.heap.size, k, none⟩ = some v := ⟨cur[k]'(by omega), by rw [hblk.cell]; simp⟩
      have f1 := hblk.frozen k
      clear hblk hcs hc2
      go_wp2_with fail
      exact ⟨⟨k + 1, _, by omega, by go_num, (by repeat (first | with_reducible exact Ext.refl _ | with_reducible assumption | with_reducible refine Ext.alloc ?_ _ | with_reducible refine Ext.drew ?_ | (with_reducible refine Ext.setAt ?_ _ _ _ ?_; rotate_left; omega) | with_reducible refine Ext.trans ?_ (by assumption) | with_reducible exact Past.bel _ | with_reducible refine Ext.trans ?_ (Past.bel _))), HB.out.set _ _, by simp [HZ.out], HC.out.step (by rw [HZ.out]; omega)⟩, by simp [intOf]; omega⟩
    · clear hblk hcs hc2
      obtain rfl : k = n := by omega
      go_wp2_with fail
      go_ret
      exact ⟨cur, rfl, hext, HB.out, HZ.out, HC.out⟩
theorem toInt64S_r (a : Option Addr) (n c : Nat) (z : Nat → Int) (w : World) (hn : n ≤ 1048576) (hs : S1 w a n z) :
    Calls Try.prog 8 #[.slice a n c] w fun e w' => ∃ g, e = .returned (.slice (some ⟨g, 0, none⟩) n n) ∧ Ext w w' ∧ S1 w' (some ⟨g, 0, none⟩) n z :=
  (toInt64S_c a n c z w hn hs).mono fun e w' ⟨cur, he, hx, hb, _, hc⟩ => ⟨_, he, hx, C1.s1 hb hc⟩
set_option maxHeartbeats 400000 in
theorem validCam_c (a : Option Addr) (n c : Nat) (z : Nat → Int) (w : World) (hn : n ≤ 1048576) (hs : S1 w a n z) :
    Calls Try.prog 9 #[.slice a n c] w fun e w' => e = .returned (.bool (camV n z)) ∧ w = w' := by
  have HS := Lib.hid hs
  clear hs
  go_enter Try.func9, Try.ntmps9
  go_wp2_with fail
  go_loop [7] (fun i => ∃ j : Nat, j ≤ n ∧ i = .int .i64 j ∧ camTo z j = true) (fun i => n - (intOf i).toNat)
  case atStart => exact ⟨0, by omega, rfl, rfl⟩
  case round =>
    obtain ⟨j, hj, rfl, hz⟩ := hrel
    have HZ := Lib.hid hz
    clear hz
    by_cases hlt : j < n
    · obtain ⟨b, off, rfl, hb, hc⟩ := HS.out.at hlt
      by_cases h0 : inB (z j) 1 60 = true
      · go_wp2_with (go_at_call 22; ((with_reducible refine (within_c _ _ _ _).mono ?_); rintro e w' ⟨rfl, rfl⟩))
        exact ⟨⟨j + 1, by omega, by go_num, by simp [camTo, HZ.out, h0]⟩, by simp [intOf]; omega⟩
      · have h1 : inB (z j) 1 60 = false := by simpa using h0
        clear h0
        go_wp2_with (go_at_call 22; ((with_reducible refine (within_c _ _ _ _).mono ?_); rintro e w' ⟨rfl, rfl⟩))
        go_ret
        exact ⟨ret_bool (camV_ff hlt h1), rfl⟩
    · obtain rfl : j = n := by omega
      go_wp2_with (go_at_call 22; ((with_reducible refine (within_c _ _ _ _).mono ?_); rintro e w' ⟨rfl, rfl⟩))
      all_goals go_ret
      all_goals exact ⟨ret_bool (by rw [camV, HZ.out]; rw [Bool.eq_iff_iff]; simp [inB] <;> omega), rfl⟩
set_option maxHeartbeats 400000 in
theorem l17Ok_c (a : Option Addr) (n c : Nat) (z : Nat → Int) (w : World) (hn : n ≤ 1048576) (hs : S1 w a n z) :
    Calls Try.prog 21 #[.slice a n c] w fun e w' => e = .returned (.bool (camV n z)) ∧ w = w' := by
  have HS := Lib.hid hs
  clear hs
  go_enter Try.func21, Try.ntmps21
  go_wp2_with fail
  go_loop [3] (fun i => ∃ j : Nat, j ≤ n ∧ i = .int .i64 j ∧ camTo z j = true) (fun i => n - (intOf i).toNat)
  case atStart => exact ⟨0, by omega, rfl, rfl⟩
  case round =>
    obtain ⟨j, hj, rfl, hz⟩ := hrel
    have HZ := Lib.hid hz
    clear hz
    by_cases hlt : j < n
    · obtain ⟨b, off, rfl, hb, hc⟩ := HS.out.at hlt
      by_cases h0 : inB (z j) 1 60 = true
      · go_wp2_with (go_at_call 28; ((with_reducible refine (l00In_c _ _ _ _).mono ?_); rintro e w' ⟨rfl, rfl⟩))
        exact ⟨⟨j + 1, by omega, by go_num, by simp [camTo, HZ.out, h0]⟩, by simp [intOf]; omega⟩
      · have h1 : inB (z j) 1 60 = false := by simpa using h0
        clear h0
        go_wp2_with (go_at_call 28; ((with_reducible refine (l00In_c _ _ _ _).mono ?_); rintro e w' ⟨rfl, rfl⟩))
        go_ret
        exact ⟨ret_bool (camV_ff hlt h1), rfl⟩
    · obtain rfl : j = n := by omega
      go_wp2_with (go_at_call 28; ((with_reducible refine (l00In_c _ _ _ _).mono ?_); rintro e w' ⟨rfl, rfl⟩))
      all_goals go_ret
      all_goals exact ⟨ret_bool (by rw [camV, HZ.out]; rw [Bool.eq_iff_iff]; simp [inB] <;> omega), rfl⟩
theorem specValidCam_c (a : Option Addr) (n c : Nat) (z : Nat → Int) (w : World) (hn : n ≤ 1048576) (hs : S1 w a n z) :
    Calls Try.prog 7 #[.slice a n c] w fun e w' => e = .returned (.bool (camV n z)) ∧ w = w' := by
  go_enter Try.func7, Try.ntmps7
  go_wp2_with (go_at_call 21; ((with_reducible refine (l17Ok_c _ _ _ _ _ hn hs).mono ?_); rintro e w' ⟨rfl, rfl⟩))
  go_ret
  exact ⟨rfl, rfl⟩
set_option maxHeartbeats 400000 in
theorem walkValidCam (a : Option Addr) (n c : Nat) (z : Nat → Int) (hm : n ≤ maxLen) (w : World) (hs : S1 w a n z) :
    Calls Try.prog 3 #[.slice a n c] w fun e w' => e = .returned (.bool true) ∧ Ext w w' := by
  have HS := Lib.hid hs
  clear hs
  have hm' : (n : Int) ≤ 9223372036854775807 := by unfold maxLen at hm; omega
  clear hm
  by_cases hn : n ≤ 1048576
  · have h1 : ¬ (1048576 : Int) < n := by omega
    go_enter Try.func3, Try.ntmps3
    go_wp2_with fail
    refine (toInt64S_r _ _ _ _ _ hn HS.out).mono ?_
    rintro e w' ⟨g1, rfl, hx1, hs1⟩
    have HS1 := Lib.hid hs1
    clear hs1
    (first | (obtain ⟨wx1, rfl⟩ := Past.again hx1) | (obtain ⟨wx1, rfl⟩ := Past.of hx1))
    go_wp2_with (go_at_call 7; ((with_reducible refine (specValidCam_c _ _ _ _ _ hn HS1.out).mono ?_); rintro e w' ⟨rfl, rfl⟩))
    refine (toInt64S_r _ _ _ _ _ hn (HS.out.ext (by repeat (first | with_reducible exact Ext.refl _ | with_reducible assumption | with_reducible refine Ext.alloc ?_ _ | with_reducible refine Ext.drew ?_ | (with_reducible refine Ext.setAt ?_ _ _ _ ?_; rotate_left; omega) | with_reducible refine Ext.trans ?_ (by assumption) | with_reducible exact Past.bel _ | with_reducible refine Ext.trans ?_ (Past.bel _))))).mono ?_
    rintro e w' ⟨g2, rfl, hx2, hs2⟩
    have HS2 := Lib.hid hs2
    clear hs2
    (first | (obtain ⟨wx2, rfl⟩ := Past.again hx2) | (obtain ⟨wx2, rfl⟩ := Past.of hx2))
    go_wp2_with (go_at_call 9; ((with_reducible refine (validCam_c _ _ _ _ _ hn HS2.out).mono ?_); rintro e w' ⟨rfl, rfl⟩))
    refine (toInt64S_r _ _ _ _ _ hn (HS.out.ext (by repeat (first | with_reducible exact Ext.refl _ | with_reducible assumption | with_reducible refine Ext.alloc ?_ _ | with_reducible refine Ext.drew ?_ | (with_reducible refine Ext.setAt ?_ _ _ _ ?_; rotate_left; omega) | with_reducible refine Ext.trans ?_ (by assumption) | with_reducible exact Past.bel _ | with_reducible refine Ext.trans ?_ (Past.bel _))))).mono ?_
    rintro e w' ⟨g3, rfl, hx3, hs3⟩
    have HS3 := Lib.hid hs3
    clear hs3
    (first | (obtain ⟨wx3, rfl⟩ := Past.again hx3) | (obtain ⟨wx3, rfl⟩ := Past.of hx3))
    go_wp2_with fail
    refine (eqInt64S_self _ _ _ _ _ _ _ hn (HS2.out.ext (by repeat (first | with_reducible exact Ext.refl _ | with_reducible assumption | with_reducible refine Ext.alloc ?_ _ | with_reducible refine Ext.drew ?_ | (with_reducible refine Ext.setAt ?_ _ _ _ ?_; rotate_left; omega) | with_reducible refine Ext.trans ?_ (by assumption) | with_reducible exact Past.bel _ | with_reducible refine Ext.trans ?_ (Past.bel _)))) HS3.out).mono ?_
    rintro e w' ⟨rfl, hx4⟩
    (first | (obtain ⟨wx4, rfl⟩ := Past.again hx4) | (obtain ⟨wx4, rfl⟩ := Past.of hx4))
    go_wp2_with fail
    go_ret
    exact ⟨rfl, (by repeat (first | with_reducible exact Ext.refl _ | with_reducible assumption | with_reducible refine Ext.alloc ?_ _ | with_reducible refine Ext.drew ?_ | (with_reducible refine Ext.setAt ?_ _ _ _ ?_; rotate_left; omega) | with_reducible refine Ext.trans ?_ (by assumption) | with_reducible exact Past.bel _ | with_reducible refine Ext.trans ?_ (Past.bel _)))⟩
  · have h1 : (1048576 : Int) < n := by omega
    go_enter Try.func3, Try.ntmps3
    go_wp2_with fail
    go_ret
    exact ⟨rfl, (by repeat (first | with_reducible exact Ext.refl _ | with_reducible assumption | with_reducible refine Ext.alloc ?_ _ | with_reducible refine Ext.drew ?_ | (with_reducible refine Ext.setAt ?_ _ _ _ ?_; rotate_left; omega) | with_reducible refine Ext.trans ?_ (by assumption) | with_reducible exact Past.bel _ | with_reducible refine Ext.trans ?_ (Past.bel _)))⟩
end Go.Proofs.Ytjlfniabbahghaa
