/- Lists of integers: compared, marked, held; absolute values. -/
import Derived.Test.YtfpbmceflpohnaaW6
import Derived.Test.YtfpbmceflpohnaaMem
import Derived.Test.YtfpbmceflpohnaaPlain8
namespace Go.Proofs.Ytfpbmceflpohnaa
open Go.RowKit
set_option linter.unusedVariables false
set_option linter.unusedSimpArgs false

theorem ret_abs {n q : Int} (h : q = absI n) : Ending.returned (.int .i64 q) = .returned (.int .i64 (absI n)) := by rw [h]
theorem abs_c (n : Int) (w : World) (h0 : -9223372036854775807 ≤ n) (h1 : n ≤ 9223372036854775807) :
    Calls Try.prog 73 #[.int .i64 n] w fun e w' => e = .returned (.int .i64 (absI n)) ∧ w = w' := by
  go_enter Try.func73, Try.ntmps73
  go_wp2
  all_goals (go_ret; exact ⟨ret_abs (by unfold absI; split <;> omega), rfl⟩)
theorem l02Size_c (n : Int) (w : World) (h0 : -9223372036854775807 ≤ n) (h1 : n ≤ 9223372036854775807) :
    Calls Try.prog 72 #[.int .i64 n] w fun e w' => e = .returned (.int .i64 (absI n)) ∧ w = w' := by
  go_enter Try.func72, Try.ntmps72
  go_wp2
  all_goals (go_ret; exact ⟨ret_abs (by unfold absI; split <;> omega), rfl⟩)
set_option maxHeartbeats 400000 in
theorem l02Near_c (n d : Int) (w : World) (hd : 0 < d) (hd1 : d ≤ 1000000000000000000) (h0 : -3000000000000000000 ≤ n) (h1 : n ≤ 3000000000000000000) :
    Calls Try.prog 74 #[.int .i64 n, .int .i64 d] w fun e w' => e = .returned (.int .i64 (nearD n d)) ∧ w = w' := by
  go_enter Try.func74, Try.ntmps74
  go_wp2_with (go_at_call 81; ((with_reducible refine (l02Down_c _ _ _ (by omega) (by omega) (by omega)).mono ?_); rintro e w' ⟨rfl, rfl⟩))
  go_ret
  exact ⟨rfl, rfl⟩
theorem toReadingS_o (a : Option Addr) (n c : Nat) (h o : Nat → Int) (w : World) (hn : n ≤ 1048576) (hs : S2 w a n h o) :
    Calls Try.prog 22 #[.slice a n c] w fun e w' => ∃ g xs, e = .returned (.slice (some ⟨g, 0, none⟩) n n) ∧ Ext w w' ∧ S2 w' (some ⟨g, 0, none⟩) n h o ∧ w'.ownsRow w.heap.size 61 2 (.slice (some ⟨g, 0, none⟩) n n) n xs :=
  (toReadingS_c a n c h o w hn hs).mono fun e w' ⟨cur, he, hx, hb, hz, hc⟩ => ⟨_, cur.toList, he, hx, C2.s2 hb hc, by simpa using hz, .inr ⟨_, n, cur, rfl, Nat.le_refl _, hb, Nat.le_refl _, by unfold maxLen; omega, hz, by rw [← hz]; exact List.take_of_length_le (by simp)⟩⟩
set_option maxHeartbeats 400000 in
theorem eqInt64S_c (aa ab : Option Addr) (n m ca cb : Nat) (f g : Nat → Int) (w : World) (hn : n ≤ 1048576) (hm : m ≤ 1048576) (ha : S1 w aa n f) (hb : S1 w ab m g) :
    Calls Try.prog 38 #[.slice aa n ca, .slice ab m cb] w fun e w' => e = .returned (.bool (n == m && eq1To f g n)) ∧ Ext w w' := by
  have HA := Lib.hid ha
  have HB := Lib.hid hb
  clear ha hb
  by_cases hnm : n = m
  · subst hnm
    go_enter Try.func38, Try.ntmps38
    go_wp2_with fail
    go_loopw [5] (fun i wr => ∃ k : Nat, k ≤ n ∧ i = .int .i64 k ∧ Ext w wr ∧ eq1To f g k = true) (fun i _ => n - (intOf i).toNat)
    case atStart => exact ⟨0, by omega, rfl, Ext.refl _, rfl⟩
    case round =>
      obtain ⟨k, hk, rfl, hbl, heq⟩ := hrel
      have HE := Lib.hid heq
      clear heq
      by_cases hlt : k < n
      · obtain ⟨b1, o1, rfl, hb1, q1⟩ := (S1.ext HA.out hbl).at hlt
        obtain ⟨b2, o2, rfl, hb2, q3⟩ := (S1.ext HB.out hbl).at hlt
        by_cases hne : f k = g k
        · have hb0 : (f k != g k) = false := by simpa using hne
          have HN := Lib.hid hne
          clear hne
          go_wp2_with fail
          refine wp_region_past (by kernel_rfl) (by kernel_rfl) ?_
          repeat (go_big_quiet_step (fail))
          refine wpQuiet_nil ?_
          rintro _ ⟨wx, rfl⟩
          go_wp2_with fail
          exact ⟨⟨k + 1, by omega, by go_num, (by repeat (first | with_reducible exact Ext.refl _ | with_reducible assumption | with_reducible refine Ext.alloc ?_ _ | with_reducible refine Ext.drew ?_ | (with_reducible refine Ext.setAt ?_ _ _ _ ?_; rotate_left; omega) | with_reducible refine Ext.trans ?_ (by assumption) | with_reducible exact Past.bel _ | with_reducible refine Ext.trans ?_ (Past.bel _))), by simp [eq1To, HE.out, HN.out]⟩, by simp [intOf]; omega⟩
        · have hb0 : (f k != g k) = true := by simpa using hne
          have HN := Lib.hid hne
          clear hne
          go_wp2_with fail
          refine wp_region_past (by kernel_rfl) (by kernel_rfl) ?_
          repeat (go_big_quiet_step (fail))
          refine wpQuiet_nil ?_
          rintro _ ⟨wx, rfl⟩
          go_wp2_with fail
          go_ret
          exact ⟨ret_bool (by rw [eq1To_ff hlt HN.out]; simp), (by repeat (first | with_reducible exact Ext.refl _ | with_reducible assumption | with_reducible refine Ext.alloc ?_ _ | with_reducible refine Ext.drew ?_ | (with_reducible refine Ext.setAt ?_ _ _ _ ?_; rotate_left; omega) | with_reducible refine Ext.trans ?_ (by assumption) | with_reducible exact Past.bel _ | with_reducible refine Ext.trans ?_ (Past.bel _)))⟩
      · obtain rfl : k = n := by omega
        go_wp2_with fail
        go_ret
        exact ⟨ret_bool (by simp [HE.out]), hbl⟩
  · have hne : ((n : Int) != (m : Int)) = true := by simp; omega
    go_enter Try.func38, Try.ntmps38
    go_wp2_with fail
    go_ret
    exact ⟨ret_bool (by simp [hnm]), Ext.refl _⟩
theorem eqInt64S_self (aa ab : Option Addr) (n ca cb : Nat) (f : Nat → Int) (w : World) (hn : n ≤ 1048576) (ha : S1 w aa n f) (hb : S1 w ab n f) :
    Calls Try.prog 38 #[.slice aa n ca, .slice ab n cb] w fun e w' => e = .returned (.bool true) ∧ Ext w w' :=
  (eqInt64S_c aa ab n n ca cb f f w hn hn ha hb).mono fun e w' ⟨he, hx⟩ => ⟨by rw [he, eq1To_self]; simp, hx⟩
set_option maxHeartbeats 400000 in
theorem markInt64S_c (a : Option Addr) (n c base : Nat) (k0 : Int) (xs : List Value) (w : World) (hn : n ≤ 1048576) (h0 : 0 ≤ k0) (h1 : k0 ≤ 1048576) (hs : w.ownsRow base 2 1 (.slice a n c) n xs) :
    Calls Try.prog 40 #[.slice a n c, .int .i64 k0] w fun e w' => e = .returned (.int .i64 (k0 + n)) ∧ w'.ownsRow base 2 1 (.slice a n c) n (ups k0 n) ∧ w.grownBy w' (Value.slice a n c).ownBlock := by
  have HS := Lib.hid hs
  have hl : xs.length = n := by simpa using hs.1
  clear hs
  go_enter Try.func40, Try.ntmps40
  go_wp2_with fail
  go_loopw [1, 5] (fun q i wr => ∃ j : Nat, j ≤ n ∧ i = .int .i64 j ∧ q = .int .i64 (k0 + j) ∧ wr.ownsRow base 2 1 (.slice a n c) n (marked k0 xs j) ∧ w.grownBy wr (Value.slice a n c).ownBlock) (fun _ i _ => n - (intOf i).toNat)
  case atStart => exact ⟨0, by omega, rfl, by simp, HS.out, World.grownBy.refl _ _⟩
  case round =>
    obtain ⟨j, hj, rfl, rfl, ho, hg⟩ := hrel
    by_cases hlt : j < n
    · obtain ⟨g, rfl, hb1, hb2, q1, q2⟩ := own_at ho hlt
      have HO := Lib.hid ho
      have HG := Lib.hid hg
      obtain ⟨v, q3⟩ : ∃ v, wr.cell? ⟨g, j, none⟩ = some v := ⟨(marked k0 xs j)[j]'(by rw [marked_length]; omega), by rw [q1]; exact List.getElem?_eq_getElem _⟩
      clear q1 ho hg
      go_wp2_with fail
      exact ⟨⟨j + 1, by omega, by go_num, congrArg _ (by omega), own_set HO.out _, grown_trans HG.out (grown_set _ _ _)⟩, by simp [intOf]; omega⟩
    · obtain rfl : j = n := by omega
      have HO := Lib.hid ho
      have HG := Lib.hid hg
      clear ho hg
      go_wp2_with fail
      go_ret
      exact ⟨rfl, by have := HO.out; rw [← hl, marked_all, hl] at this; rw [hl] at *; exact this, HG.out⟩
set_option maxHeartbeats 400000 in
theorem heldInt64S_c (a : Option Addr) (n c base : Nat) (k0 : Int) (w : World) (hn : n ≤ 1048576) (h0 : 0 ≤ k0) (h1 : k0 ≤ 1048576) (hs : w.ownsRow base 2 1 (.slice a n c) n (ups k0 n)) :
    Calls Try.prog 41 #[.slice a n c, .int .i64 k0] w fun e w' => e = .returned (.int .i64 (k0 + n)) ∧ w = w' := by
  have HS := Lib.hid hs
  clear hs
  go_enter Try.func41, Try.ntmps41
  go_wp2_with fail
  go_loop [1, 5] (fun q i => ∃ j : Nat, j ≤ n ∧ i = .int .i64 j ∧ q = .int .i64 (k0 + j)) (fun _ i => n - (intOf i).toNat)
  case atStart => exact ⟨0, by omega, rfl, by simp⟩
  case round =>
    obtain ⟨j, hj, rfl, rfl⟩ := hrel
    by_cases hlt : j < n
    · obtain ⟨g, rfl, hb1, hb2, q1, q2⟩ := own_at HS.out hlt
      rw [ups_at k0 hlt] at q1
      go_wp2_with fail
      exact ⟨⟨j + 1, by omega, by go_num, congrArg _ (by omega)⟩, by simp [intOf]; omega⟩
    · obtain rfl : j = n := by omega
      go_wp2_with fail
      go_ret
      exact ⟨rfl, rfl⟩
set_option maxHeartbeats 400000 in
theorem markReadingS_c (a : Option Addr) (n c base : Nat) (k0 : Int) (xs : List Value) (w : World) (hn : n ≤ 1048576) (h0 : 0 ≤ k0) (h1 : k0 ≤ 1048576) (hs : w.ownsRow base 61 2 (.slice a n c) n xs) :
    Calls Try.prog 39 #[.slice a n c, .int .i64 k0] w fun e w' => e = .returned (.int .i64 (k0 + 2 * n)) ∧ w.grownBy w' (Value.slice a n c).ownBlock := by
  have HS := Lib.hid hs
  have hl : xs.length = n * 2 := hs.1
  clear hs
  go_enter Try.func39, Try.ntmps39
  go_wp2_with fail
  go_loopw [1, 5] (fun q i wr => ∃ (j : Nat) (ys : List Value), j ≤ n ∧ i = .int .i64 j ∧ q = .int .i64 (k0 + 2 * j) ∧ ys.length = n * 2 ∧ wr.ownsRow base 61 2 (.slice a n c) n ys ∧ w.grownBy wr (Value.slice a n c).ownBlock) (fun _ i _ => n - (intOf i).toNat)
  case atStart => exact ⟨0, xs, by omega, rfl, by simp, hl, HS.out, World.grownBy.refl _ _⟩
  case round =>
    obtain ⟨j, ys, hj, rfl, rfl, hy, ho, hg⟩ := hrel
    have HY := Lib.hid hy
    by_cases hlt : j < n
    · obtain ⟨g, rfl, hb1, hb2, ⟨q1, q2⟩, q3, q4⟩ := own_at2 ho hlt
      have HO := Lib.hid ho
      have HG := Lib.hid hg
      obtain ⟨v, q5⟩ : ∃ v, wr.cell? ⟨g, j * 2, none⟩ = some v := ⟨ys[j * 2]'(by omega), by rw [q1]; exact List.getElem?_eq_getElem _⟩
      obtain ⟨u, q6⟩ : ∃ v, wr.cell? ⟨g, j * 2 + 1, none⟩ = some v := ⟨ys[j * 2 + 1]'(by omega), by rw [q3]; exact List.getElem?_eq_getElem _⟩
      clear q1 q3 ho hg hy hl
      go_wp2_with fail
      exact ⟨⟨j + 1, _, by omega, by go_num, congrArg _ (by omega), by simpa using HY.out, own_set (own_set HO.out _) _, grown_trans (grown_trans HG.out (grown_set _ _ _)) (grown_set _ _ _)⟩, by simp [intOf]; omega⟩
    · obtain rfl : j = n := by omega
      have HG := Lib.hid hg
      clear ho hg
      go_wp2_with fail
      go_ret
      exact ⟨rfl, HG.out⟩
end Go.Proofs.Ytfpbmceflpohnaa
