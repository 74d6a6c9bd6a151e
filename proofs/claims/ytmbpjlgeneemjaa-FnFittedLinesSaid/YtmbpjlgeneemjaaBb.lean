/- Lists of readings: copied, compared, checked, summed. Lists of readings, by index: valid ones. No program in sight. Lists of readings: checked. Sums over lists of readings. No program in sight. Lists of readings: summed. Laws on lists of readings that only read: ValidReadings, FitOf. The best change of a mean: both ways to it come to the same. No program in sight. The best change: the products in the spelling of the walks. No program in sight. The best change: the reference's round. No program in sight. Lists of integers: compared; absolute values. No program in sight. Lists of integers: compared, marked, held; absolute values. Dice and draws: numbers that follow from bytes. Draws: a source of numbers. Draws: pick, one, among. -/
import Derived.Test.YtmbpjlgeneemjaaBa

namespace Go.Proofs.Ytmbpjlgeneemjaa
open Go.RowKit
set_option linter.unusedVariables false
set_option linter.unusedSimpArgs false

theorem toReading_c (a b : Int) (w : World) :
    Calls Try.prog 68 #[.agg #[.int .i64 a, .int .i64 b]] w fun e w' => e = .returned (.agg #[.int .i64 a, .int .i64 b]) ∧ Ext w w' := by
  go_enter Try.func68, Try.ntmps68
  go_wp2
  exact bodyPost_ret (v := .agg #[.int .i64 a, .int .i64 b]) (by simp [results, Try.results68, go_sem]) rfl ⟨rfl, (by repeat (first | with_reducible exact Ext.refl _ | with_reducible assumption | with_reducible refine Ext.alloc ?_ _ | with_reducible refine Ext.drew ?_ | (with_reducible refine Ext.setAt ?_ _ _ _ ?_; rotate_left; omega) | with_reducible refine Ext.trans ?_ (by assumption) | with_reducible exact Past.bel _ | with_reducible refine Ext.trans ?_ (Past.bel _)))⟩
theorem eqReading_c (a b c d : Int) (w : World) :
    Calls Try.prog 70 #[.agg #[.int .i64 a, .int .i64 b], .agg #[.int .i64 c, .int .i64 d]] w fun e w' => e = .returned (.bool (eq2 a b c d)) ∧ Ext w w' := by
  go_enter Try.func70, Try.ntmps70
  go_wp2
  all_goals (go_ret; refine ⟨ret_bool ?_, (by repeat (first | with_reducible exact Ext.refl _ | with_reducible assumption | with_reducible refine Ext.alloc ?_ _ | with_reducible refine Ext.drew ?_ | (with_reducible refine Ext.setAt ?_ _ _ _ ?_; rotate_left; omega) | with_reducible refine Ext.trans ?_ (by assumption) | with_reducible exact Past.bel _ | with_reducible refine Ext.trans ?_ (Past.bel _)))⟩)
  all_goals simp_all [eq2]
theorem szReadingS_c (a : Option Addr) (n c : Nat) (l : Int) (w : World) (hl : 0 ≤ l) (hl' : l ≤ 1048576) (hn : n ≤ maxLen) :
    Calls Try.prog 37 #[.slice a n c, .int .i64 l] w fun e w' => e = .returned (.int .i64 (if l < n then -1 else l - n)) ∧ w = w' := by
  have hn' : (n : Int) ≤ 9223372036854775807 := by unfold maxLen at hn; omega
  clear hn
  by_cases h : l < n
  · go_enter Try.func37, Try.ntmps37
    go_wp2
    go_ret
    exact ⟨rfl, rfl⟩
  · go_enter Try.func37, Try.ntmps37
    go_wp2
    go_ret
    exact ⟨rfl, rfl⟩
set_option maxHeartbeats 400000 in
theorem toReadingS_c (a : Option Addr) (n c : Nat) (h o : Nat → Int) (w : World) (hn : n ≤ 1048576) (hs : S2 w a n h o) :
    Calls Try.prog 39 #[.slice a n c] w fun e w' => ∃ cur, e = .returned (.slice (some ⟨w.heap.size, 0, none⟩) n n) ∧ Ext w w' ∧ Blk w' w.heap.size 33 cur ∧ cur.size = n * 2 ∧ C2 cur n h o := by
  have HS := Lib.hid hs
  clear hs
  have hmk := make_run (P := Try.prog) 24 33 (.agg #[.int .i64 0, .int .i64 0]) 2 16 Try.underlying24 (by kernel_rfl) n (by omega) (by omega)
  go_enter Try.func39, Try.ntmps39
  go_wp2_with fail
  clear hmk
  go_loopw [4] (fun i wr => ∃ (k : Nat) (cur : Array Value), k ≤ n ∧ i = .int .i64 k ∧ Ext w wr ∧ Blk wr w.heap.size 33 cur ∧ cur.size = n * 2 ∧ C2 cur k h o) (fun i _ => n - (intOf i).toNat)
  case atStart => exact ⟨0, _, by omega, rfl, (by repeat (first | with_reducible exact Ext.refl _ | with_reducible assumption | with_reducible refine Ext.alloc ?_ _ | with_reducible refine Ext.drew ?_ | (with_reducible refine Ext.setAt ?_ _ _ _ ?_; rotate_left; omega) | with_reducible refine Ext.trans ?_ (by assumption) | with_reducible exact Past.bel _ | with_reducible refine Ext.trans ?_ (Past.bel _))), Blk.new _ _ _, Mk.size _ _, C2.zero _ _ _⟩
  case round =>
    obtain ⟨k, cur, hk, rfl, hext, hblk, hcs, hc2⟩ := hrel
    have HB := Lib.hid hblk
    have HC := Lib.hid hc2
    have HZ := Lib.hid hcs
    have hgs := hblk.lt
    by_cases hlt : k < n
    · obtain ⟨b1, o1, rfl, hb1, q1, q2⟩ := (S2.ext HS.out hext).at hlt
      have e1 : ∃ v, wr.cell? ⟨w.heap.size, k * 2, none⟩ = some v := ⟨cur[k * 2]'(by omega), by rw [hblk.cell]; simp⟩
      have e2 : ∃ v, wr.cell? ⟨w.heap.size, k * 2 + 1, none⟩ = some v := ⟨cur[k * 2 + 1]'(by omega), by rw [hblk.cell]; simp⟩
      obtain ⟨v1, e1⟩ := e1
      obtain ⟨v2, e2⟩ := e2
      have f1 := hblk.frozen (k * 2)
      have f2 := hblk.frozen (k * 2 + 1)
      clear hblk hcs hc2
      go_wp2_with (go_at_call 68; ((with_reducible refine (toReading_c _ _ _).mono ?_); rintro e w' ⟨rfl, hx⟩; (first | (obtain ⟨wx, rfl⟩ := Past.again hx) | (obtain ⟨wx, rfl⟩ := Past.ofd hx) | (obtain ⟨wx, rfl⟩ := Past.of hx))))
      exact ⟨⟨k + 1, _, by omega, by go_num, (by repeat (first | with_reducible exact Ext.refl _ | with_reducible assumption | with_reducible refine Ext.alloc ?_ _ | with_reducible refine Ext.drew ?_ | (with_reducible refine Ext.setAt ?_ _ _ _ ?_; rotate_left; omega) | with_reducible refine Ext.trans ?_ (by assumption) | with_reducible exact Past.bel _ | with_reducible refine Ext.trans ?_ (Past.bel _))), ((HB.out.ext (Past.bel wx)).set _ _).set _ _, by simp [HZ.out], HC.out.step (by rw [HZ.out]; omega)⟩, by simp [intOf]; omega⟩
    · clear hblk hcs hc2
      obtain rfl : k = n := by omega
      go_wp2_with fail
      go_ret
      exact ⟨cur, rfl, hext, HB.out, HZ.out, HC.out⟩
set_option maxHeartbeats 400000 in
theorem eqReadingS_c (aa ab : Option Addr) (n m ca cb : Nat) (h o h' o' : Nat → Int) (w : World) (hn : n ≤ 1048576) (hm : m ≤ 1048576) (ha : S2 w aa n h o) (hb : S2 w ab m h' o') :
    Calls Try.prog 41 #[.slice aa n ca, .slice ab m cb] w fun e w' => e = .returned (.bool (n == m && eqTo h o h' o' n)) ∧ Ext w w' := by
  have HA := Lib.hid ha
  have HB := Lib.hid hb
  clear ha hb
  by_cases hnm : n = m
  · subst hnm
    go_enter Try.func41, Try.ntmps41
    go_wp2_with fail
    go_loopw [5] (fun i wr => ∃ k : Nat, k ≤ n ∧ i = .int .i64 k ∧ Ext w wr ∧ eqTo h o h' o' k = true) (fun i _ => n - (intOf i).toNat)
    case atStart => exact ⟨0, by omega, rfl, Ext.refl _, rfl⟩
    case round =>
      obtain ⟨k, hk, rfl, hbl, heq⟩ := hrel
      have HE := Lib.hid heq
      clear heq
      by_cases hlt : k < n
      · obtain ⟨b1, o1, rfl, hb1, q1, q2⟩ := (S2.ext HA.out hbl).at hlt
        obtain ⟨b2, o2, rfl, hb2, q3, q4⟩ := (S2.ext HB.out hbl).at hlt
        go_wp2_with fail
        refine wp_region_past (by kernel_rfl) (by kernel_rfl) ?_
        repeat (go_big_quiet_step ((go_at_call 70; exact Calls.past (eqReading_c _ _ _ _ _))))
        refine wpQuiet_nil ?_
        rintro _ ⟨wx, rfl⟩
        go_wp2_with fail
        · have ht : eq2 (h k) (o k) (h' k) (o' k) = false := by simpa using ‹(!eq2 (h k) (o k) (h' k) (o' k)) = true›
          go_ret
          exact ⟨ret_bool (by rw [eqTo_ff hlt ht]; simp), (by repeat (first | with_reducible exact Ext.refl _ | with_reducible assumption | with_reducible refine Ext.alloc ?_ _ | with_reducible refine Ext.drew ?_ | (with_reducible refine Ext.setAt ?_ _ _ _ ?_; rotate_left; omega) | with_reducible refine Ext.trans ?_ (by assumption) | with_reducible exact Past.bel _ | with_reducible refine Ext.trans ?_ (Past.bel _)))⟩
        · have ht : eq2 (h k) (o k) (h' k) (o' k) = true := by simpa using ‹(!eq2 (h k) (o k) (h' k) (o' k)) = false›
          exact ⟨⟨k + 1, by omega, by go_num, (by repeat (first | with_reducible exact Ext.refl _ | with_reducible assumption | with_reducible refine Ext.alloc ?_ _ | with_reducible refine Ext.drew ?_ | (with_reducible refine Ext.setAt ?_ _ _ _ ?_; rotate_left; omega) | with_reducible refine Ext.trans ?_ (by assumption) | with_reducible exact Past.bel _ | with_reducible refine Ext.trans ?_ (Past.bel _))), by simp [eqTo, HE.out, ht]⟩, by simp [intOf]; omega⟩
      · obtain rfl : k = n := by omega
        go_wp2_with fail
        go_ret
        exact ⟨ret_bool (by simp [HE.out]), hbl⟩
  · have hne : ((n : Int) != (m : Int)) = true := by simp; omega
    go_enter Try.func41, Try.ntmps41
    go_wp2_with fail
    go_ret
    exact ⟨ret_bool (by simp [hnm]), Ext.refl _⟩
end Go.Proofs.Ytmbpjlgeneemjaa

namespace Go.Proofs.Ytmbpjlgeneemjaa
set_option linter.unusedVariables false
/-- reading k fits behind the one before it -/
def rdAt (h o : Nat → Int) (k : Nat) : Bool := inB (h k) 0 10000 && inB (o k) (-100000) 100000 && (k == 0 || decide (h (k - 1) < h k))
def rdTo (h o : Nat → Int) : Nat → Bool
  | 0 => true
  | k + 1 => rdTo h o k && rdAt h o k
/-- a list of readings is valid -/
def rdV (n : Nat) (h o : Nat → Int) : Bool := rdTo h o n && decide (n ≤ 60)
theorem rdTo_ff {h o : Nat → Int} {k n : Nat} (hk : k < n) (hh : rdAt h o k = false) : rdTo h o n = false := by
  induction n with
  | zero => omega
  | succ n ih =>
    by_cases e : k = n
    · subst e; simp only [rdTo, hh, Bool.and_false]
    · simp only [rdTo, ih (by omega), Bool.false_and]
theorem rdV_ff {h o : Nat → Int} {k n : Nat} (hk : k < n) (hh : rdAt h o k = false) : false = rdV n h o := by rw [rdV, rdTo_ff hk hh]; rfl
theorem rdTo_at {h o : Nat → Int} {k n : Nat} (hh : rdTo h o n = true) (hk : k < n) : rdAt h o k = true := by
  cases e : rdAt h o k with
  | true => rfl
  | false => rw [rdTo_ff hk e] at hh; cases hh
theorem rdTo_le {h o : Nat → Int} {k n : Nat} (hh : rdTo h o n = true) (hk : k ≤ n) : rdTo h o k = true := by
  induction n with
  | zero => have : k = 0 := by omega
            subst this; rfl
  | succ n ih =>
    by_cases e : k = n + 1
    · subst e; exact hh
    · simp only [rdTo, Bool.and_eq_true] at hh; exact ih hh.1 (by omega)
/-- five ways through the test of one reading -/
theorem rd_ways (h o : Nat → Int) (k : Nat) :
    (inB (h k) 0 10000 = false ∧ rdAt h o k = false) ∨ (inB (h k) 0 10000 = true ∧ inB (o k) (-100000) 100000 = false ∧ rdAt h o k = false) ∨
    (inB (h k) 0 10000 = true ∧ inB (o k) (-100000) 100000 = true ∧ k = 0 ∧ rdAt h o k = true) ∨
    (inB (h k) 0 10000 = true ∧ inB (o k) (-100000) 100000 = true ∧ 0 < k ∧ h k ≤ h (k - 1) ∧ rdAt h o k = false) ∨
    (inB (h k) 0 10000 = true ∧ inB (o k) (-100000) 100000 = true ∧ 0 < k ∧ h (k - 1) < h k ∧ rdAt h o k = true) := by
  unfold rdAt
  cases h1 : inB (h k) 0 10000 with
  | false => exact .inl ⟨rfl, rfl⟩
  | true =>
    cases h2 : inB (o k) (-100000) 100000 with
    | false => exact .inr (.inl ⟨rfl, rfl, rfl⟩)
    | true =>
      by_cases h3 : k = 0
      · exact .inr (.inr (.inl ⟨rfl, rfl, h3, by simp [h3]⟩))
      · by_cases h4 : h (k - 1) < h k
        · exact .inr (.inr (.inr (.inr ⟨rfl, rfl, by omega, h4, by simp [h4]⟩)))
        · exact .inr (.inr (.inr (.inl ⟨rfl, rfl, by omega, by omega, by simp [h4, h3]⟩)))
end Go.Proofs.Ytmbpjlgeneemjaa

namespace Go.Proofs.Ytmbpjlgeneemjaa
open Go.RowKit
set_option linter.unusedVariables false
set_option linter.unusedSimpArgs false

set_option maxHeartbeats 1000000 in
theorem l14Ok_c (a : Option Addr) (n c : Nat) (h o : Nat → Int) (w : World) (hn : n ≤ 1048576) (hs : S2 w a n h o) :
    Calls Try.prog 48 #[.slice a n c] w fun e w' => e = .returned (.bool (rdV n h o)) ∧ Ext w w' := by
  have HS := Lib.hid hs
  clear hs
  go_enter Try.func48, Try.ntmps48
  go_wp2_with fail
  go_loopw [3] (fun i wr => ∃ k : Nat, k ≤ n ∧ i = .int .i64 k ∧ Ext w wr ∧ rdTo h o k = true) (fun i _ => n - (intOf i).toNat)
  case atStart => exact ⟨0, by omega, rfl, Ext.refl _, rfl⟩
  case round =>
    obtain ⟨k, hk, rfl, hbl, heq⟩ := hrel
    have HE := Lib.hid heq
    clear heq
    by_cases hlt : k < n
    · obtain ⟨b1, o1, rfl, hb1, q1, q2⟩ := (S2.ext HS.out hbl).at hlt
      rcases rd_ways h o k with ⟨g1, g2⟩ | ⟨g1, g2, g3⟩ | ⟨g1, g2, g3, g4⟩ | ⟨g1, g2, g3, g4, g5⟩ | ⟨g1, g2, g3, g4, g5⟩
      · have G := Lib.hid g2
        clear g2
        go_wp2_with fail
        refine wp_region_past (by kernel_rfl) (by kernel_rfl) ?_
        repeat (go_big_quiet_step ((first | (go_at_call 63; exact Calls.past_same (l00In_c _ _ _ _)))))
        refine wpQuiet_nil ?_
        rintro _ ⟨wx, rfl⟩
        go_wp2_with fail
        go_ret
        exact ⟨ret_bool (rdV_ff hlt G.out), (by repeat (first | with_reducible exact Ext.refl _ | with_reducible assumption | with_reducible refine Ext.alloc ?_ _ | with_reducible refine Ext.drew ?_ | (with_reducible refine Ext.setAt ?_ _ _ _ ?_; rotate_left; omega) | with_reducible refine Ext.trans ?_ (by assumption) | with_reducible exact Past.bel _ | with_reducible refine Ext.trans ?_ (Past.bel _)))⟩
      · have G := Lib.hid g3
        clear g3
        go_wp2_with fail
        refine wp_region_past (by kernel_rfl) (by kernel_rfl) ?_
        repeat (go_big_quiet_step ((first | (go_at_call 63; exact Calls.past_same (l00In_c _ _ _ _)))))
        refine wpQuiet_nil ?_
        rintro _ ⟨wx, rfl⟩
        go_wp2_with fail
        go_ret
        exact ⟨ret_bool (rdV_ff hlt G.out), (by repeat (first | with_reducible exact Ext.refl _ | with_reducible assumption | with_reducible refine Ext.alloc ?_ _ | with_reducible refine Ext.drew ?_ | (with_reducible refine Ext.setAt ?_ _ _ _ ?_; rotate_left; omega) | with_reducible refine Ext.trans ?_ (by assumption) | with_reducible exact Past.bel _ | with_reducible refine Ext.trans ?_ (Past.bel _)))⟩
      · have G := Lib.hid g4
        have hd : decide (0 < k) = false := by simp; omega
        clear g3 g4
        go_wp2_with fail
        refine wp_region_past (by kernel_rfl) (by kernel_rfl) ?_
        repeat (go_big_quiet_step ((first | (go_at_call 63; exact Calls.past_same (l00In_c _ _ _ _)))))
        refine wpQuiet_nil ?_
        rintro _ ⟨wx, rfl⟩
        go_wp2_with fail
        exact ⟨⟨k + 1, by omega, by go_num, (by repeat (first | with_reducible exact Ext.refl _ | with_reducible assumption | with_reducible refine Ext.alloc ?_ _ | with_reducible refine Ext.drew ?_ | (with_reducible refine Ext.setAt ?_ _ _ _ ?_; rotate_left; omega) | with_reducible refine Ext.trans ?_ (by assumption) | with_reducible exact Past.bel _ | with_reducible refine Ext.trans ?_ (Past.bel _))), by simp [rdTo, HE.out, G.out]⟩, by simp [intOf]; omega⟩
      · have G := Lib.hid g5
        have hd : decide (0 < k) = true := by simp; omega
        obtain ⟨_, _, hh, _, q3, q4⟩ := (S2.ext HS.out hbl).at (show k - 1 < n by omega)
        obtain ⟨rfl, rfl⟩ := by simpa using hh
        clear g5
        go_wp2_with fail
        refine wp_region_past (by kernel_rfl) (by kernel_rfl) ?_
        repeat (go_big_quiet_step ((first | (go_at_call 63; exact Calls.past_same (l00In_c _ _ _ _)))))
        refine wpQuiet_nil ?_
        rintro _ ⟨wx, rfl⟩
        go_wp2_with fail
        go_ret
        exact ⟨ret_bool (rdV_ff hlt G.out), (by repeat (first | with_reducible exact Ext.refl _ | with_reducible assumption | with_reducible refine Ext.alloc ?_ _ | with_reducible refine Ext.drew ?_ | (with_reducible refine Ext.setAt ?_ _ _ _ ?_; rotate_left; omega) | with_reducible refine Ext.trans ?_ (by assumption) | with_reducible exact Past.bel _ | with_reducible refine Ext.trans ?_ (Past.bel _)))⟩
      · have G := Lib.hid g5
        have hd : decide (0 < k) = true := by simp; omega
        have hd2 : decide (h k ≤ h (k - 1)) = false := by simp; omega
        obtain ⟨_, _, hh, _, q3, q4⟩ := (S2.ext HS.out hbl).at (show k - 1 < n by omega)
        obtain ⟨rfl, rfl⟩ := by simpa using hh
        clear g5
        go_wp2_with fail
        refine wp_region_past (by kernel_rfl) (by kernel_rfl) ?_
        repeat (go_big_quiet_step ((first | (go_at_call 63; exact Calls.past_same (l00In_c _ _ _ _)))))
        refine wpQuiet_nil ?_
        rintro _ ⟨wx, rfl⟩
        go_wp2_with fail
        exact ⟨⟨k + 1, by omega, by go_num, (by repeat (first | with_reducible exact Ext.refl _ | with_reducible assumption | with_reducible refine Ext.alloc ?_ _ | with_reducible refine Ext.drew ?_ | (with_reducible refine Ext.setAt ?_ _ _ _ ?_; rotate_left; omega) | with_reducible refine Ext.trans ?_ (by assumption) | with_reducible exact Past.bel _ | with_reducible refine Ext.trans ?_ (Past.bel _))), by simp [rdTo, HE.out, G.out]⟩, by simp [intOf]; omega⟩
    · obtain rfl : k = n := by omega
      go_wp2_with fail
      go_ret
      exact ⟨ret_bool (by rw [rdV, HE.out]; simp; omega), (by repeat (first | with_reducible exact Ext.refl _ | with_reducible assumption | with_reducible refine Ext.alloc ?_ _ | with_reducible refine Ext.drew ?_ | (with_reducible refine Ext.setAt ?_ _ _ _ ?_; rotate_left; omega) | with_reducible refine Ext.trans ?_ (by assumption) | with_reducible exact Past.bel _ | with_reducible refine Ext.trans ?_ (Past.bel _)))⟩
theorem specValidReadings_c (a : Option Addr) (n c : Nat) (h o : Nat → Int) (w : World) (hn : n ≤ 1048576) (hs : S2 w a n h o) :
    Calls Try.prog 21 #[.slice a n c] w fun e w' => e = .returned (.bool (rdV n h o)) ∧ Ext w w' := by
  have HS := Lib.hid hs
  clear hs
  go_enter Try.func21, Try.ntmps21
  go_wp2_with (go_at_call 48; ((with_reducible refine (l14Ok_c _ _ _ _ _ _ hn HS.out).mono ?_); rintro e w' ⟨rfl, hx⟩; (first | (obtain ⟨wx, rfl⟩ := Past.again hx) | (obtain ⟨wx, rfl⟩ := Past.ofd hx) | (obtain ⟨wx, rfl⟩ := Past.of hx))))
  go_ret
  exact ⟨rfl, (by repeat (first | with_reducible exact Ext.refl _ | with_reducible assumption | with_reducible refine Ext.alloc ?_ _ | with_reducible refine Ext.drew ?_ | (with_reducible refine Ext.setAt ?_ _ _ _ ?_; rotate_left; omega) | with_reducible refine Ext.trans ?_ (by assumption) | with_reducible exact Past.bel _ | with_reducible refine Ext.trans ?_ (Past.bel _)))⟩
set_option maxHeartbeats 1000000 in
theorem validReadings_c (a : Option Addr) (n c : Nat) (h o : Nat → Int) (w : World) (hn : n ≤ 1048576) (hs : S2 w a n h o) :
    Calls Try.prog 20 #[.slice a n c] w fun e w' => e = .returned (.bool (rdV n h o)) ∧ Ext w w' := by
  have HS := Lib.hid hs
  clear hs
  go_enter Try.func20, Try.ntmps20
  go_wp2_with fail
  go_loopw [7] (fun i wr => ∃ k : Nat, k ≤ n ∧ i = .int .i64 k ∧ Ext w wr ∧ rdTo h o k = true) (fun i _ => n - (intOf i).toNat)
  case atStart => exact ⟨0, by omega, rfl, Ext.refl _, rfl⟩
  case round =>
    obtain ⟨k, hk, rfl, hbl, heq⟩ := hrel
    have HE := Lib.hid heq
    clear heq
    by_cases hlt : k < n
    · obtain ⟨b1, o1, rfl, hb1, q1, q2⟩ := (S2.ext HS.out hbl).at hlt
      have hb2 : b1 < wr.heap.size + 1 := by omega
      rcases rd_ways h o k with ⟨g1, g2⟩ | ⟨g1, g2, g3⟩ | ⟨g1, g2, g3, g4⟩ | ⟨g1, g2, g3, g4, g5⟩ | ⟨g1, g2, g3, g4, g5⟩
      · have G := Lib.hid g2
        clear g2
        go_wp2_with fail
        refine wp_region_past (by kernel_rfl) (by kernel_rfl) ?_
        repeat (go_big_quiet_step ((first | (go_at_call 50; exact Calls.past_same (within_c _ _ _ _)))))
        refine wpQuiet_nil ?_
        rintro _ ⟨wx, rfl⟩
        go_wp2_with fail
        go_ret
        exact ⟨ret_bool (rdV_ff hlt G.out), (by repeat (first | with_reducible exact Ext.refl _ | with_reducible assumption | with_reducible refine Ext.alloc ?_ _ | with_reducible refine Ext.drew ?_ | (with_reducible refine Ext.setAt ?_ _ _ _ ?_; rotate_left; omega) | with_reducible refine Ext.trans ?_ (by assumption) | with_reducible exact Past.bel _ | with_reducible refine Ext.trans ?_ (Past.bel _)))⟩
      · have G := Lib.hid g3
        clear g3
        go_wp2_with fail
        refine wp_region_past (by kernel_rfl) (by kernel_rfl) ?_
        repeat (go_big_quiet_step ((first | (go_at_call 50; exact Calls.past_same (within_c _ _ _ _)))))
        refine wpQuiet_nil ?_
        rintro _ ⟨wx, rfl⟩
        go_wp2_with fail
        go_ret
        exact ⟨ret_bool (rdV_ff hlt G.out), (by repeat (first | with_reducible exact Ext.refl _ | with_reducible assumption | with_reducible refine Ext.alloc ?_ _ | with_reducible refine Ext.drew ?_ | (with_reducible refine Ext.setAt ?_ _ _ _ ?_; rotate_left; omega) | with_reducible refine Ext.trans ?_ (by assumption) | with_reducible exact Past.bel _ | with_reducible refine Ext.trans ?_ (Past.bel _)))⟩
      · have G := Lib.hid g4
        have hd : decide (0 < k) = false := by simp; omega
        clear g3 g4
        go_wp2_with fail
        refine wp_region_past (by kernel_rfl) (by kernel_rfl) ?_
        repeat (go_big_quiet_step ((first | (go_at_call 50; exact Calls.past_same (within_c _ _ _ _)))))
        refine wpQuiet_nil ?_
        rintro _ ⟨wx, rfl⟩
        go_wp2_with fail
        exact ⟨⟨k + 1, by omega, by go_num, (by repeat (first | with_reducible exact Ext.refl _ | with_reducible assumption | with_reducible refine Ext.alloc ?_ _ | with_reducible refine Ext.drew ?_ | (with_reducible refine Ext.setAt ?_ _ _ _ ?_; rotate_left; omega) | with_reducible refine Ext.trans ?_ (by assumption) | with_reducible exact Past.bel _ | with_reducible refine Ext.trans ?_ (Past.bel _))), by simp [rdTo, HE.out, G.out]⟩, by simp [intOf]; omega⟩
      · have G := Lib.hid g5
        have hd : decide (0 < k) = true := by simp; omega
        obtain ⟨_, _, hh, _, q3, q4⟩ := (S2.ext HS.out hbl).at (show k - 1 < n by omega)
        obtain ⟨rfl, rfl⟩ := by simpa using hh
        clear g5
        go_wp2_with fail
        refine wp_region_past (by kernel_rfl) (by kernel_rfl) ?_
        repeat (go_big_quiet_step ((first | (go_at_call 50; exact Calls.past_same (within_c _ _ _ _)))))
        refine wpQuiet_nil ?_
        rintro _ ⟨wx, rfl⟩
        go_wp2_with fail
        go_ret
        exact ⟨ret_bool (rdV_ff hlt G.out), (by repeat (first | with_reducible exact Ext.refl _ | with_reducible assumption | with_reducible refine Ext.alloc ?_ _ | with_reducible refine Ext.drew ?_ | (with_reducible refine Ext.setAt ?_ _ _ _ ?_; rotate_left; omega) | with_reducible refine Ext.trans ?_ (by assumption) | with_reducible exact Past.bel _ | with_reducible refine Ext.trans ?_ (Past.bel _)))⟩
      · have G := Lib.hid g5
        have hd : decide (0 < k) = true := by simp; omega
        have hd2 : decide (h k ≤ h (k - 1)) = false := by simp; omega
        obtain ⟨_, _, hh, _, q3, q4⟩ := (S2.ext HS.out hbl).at (show k - 1 < n by omega)
        obtain ⟨rfl, rfl⟩ := by simpa using hh
        clear g5
        go_wp2_with fail
        refine wp_region_past (by kernel_rfl) (by kernel_rfl) ?_
        repeat (go_big_quiet_step ((first | (go_at_call 50; exact Calls.past_same (within_c _ _ _ _)))))
        refine wpQuiet_nil ?_
        rintro _ ⟨wx, rfl⟩
        go_wp2_with fail
        exact ⟨⟨k + 1, by omega, by go_num, (by repeat (first | with_reducible exact Ext.refl _ | with_reducible assumption | with_reducible refine Ext.alloc ?_ _ | with_reducible refine Ext.drew ?_ | (with_reducible refine Ext.setAt ?_ _ _ _ ?_; rotate_left; omega) | with_reducible refine Ext.trans ?_ (by assumption) | with_reducible exact Past.bel _ | with_reducible refine Ext.trans ?_ (Past.bel _))), by simp [rdTo, HE.out, G.out]⟩, by simp [intOf]; omega⟩
    · obtain rfl : k = n := by omega
      go_wp2_with fail
      go_ret
      exact ⟨ret_bool (by rw [rdV, HE.out]; simp; omega), (by repeat (first | with_reducible exact Ext.refl _ | with_reducible assumption | with_reducible refine Ext.alloc ?_ _ | with_reducible refine Ext.drew ?_ | (with_reducible refine Ext.setAt ?_ _ _ _ ?_; rotate_left; omega) | with_reducible refine Ext.trans ?_ (by assumption) | with_reducible exact Past.bel _ | with_reducible refine Ext.trans ?_ (Past.bel _)))⟩
end Go.Proofs.Ytmbpjlgeneemjaa

namespace Go.Proofs.Ytmbpjlgeneemjaa
set_option linter.unusedVariables false
/-- the sum of the first k -/
def sm (f : Nat → Int) : Nat → Int
  | 0 => 0
  | k + 1 => sm f k + f k
def sXX (h : Nat → Int) (k : Nat) : Int := sm (fun i => h i * h i) k
def sXY (h o : Nat → Int) (k : Nat) : Int := sm (fun i => h i * o i) k
theorem sm_bd {f : Nat → Int} {A B : Int} {k : Nat} (hf : ∀ j, j < k → A ≤ f j ∧ f j ≤ B) : A * k ≤ sm f k ∧ sm f k ≤ B * k := by
  induction k with
  | zero => simp [sm]
  | succ k ih =>
    have h1 := ih (fun j hj => hf j (by omega))
    have h2 := hf k (by omega)
    have e1 : A * ((k + 1 : Nat) : Int) = A * k + A := by rw [Int.natCast_add, Int.mul_add]; simp
    have e2 : B * ((k + 1 : Nat) : Int) = B * k + B := by rw [Int.natCast_add, Int.mul_add]; simp
    rw [e1, e2]
    simp only [sm]
    omega
/-- what a valid list bounds -/
structure RB (n : Nat) (h o : Nat → Int) : Prop where
  n60 : n ≤ 60
  bh : ∀ j, j < n → 0 ≤ h j ∧ h j ≤ 10000
  bo : ∀ j, j < n → -100000 ≤ o j ∧ o j ≤ 100000
  up : ∀ j, j + 1 < n → h j < h (j + 1)
theorem rb_of {n : Nat} {h o : Nat → Int} (hv : rdV n h o = true) : RB n h o := by
  simp only [rdV, Bool.and_eq_true, decide_eq_true_eq] at hv
  have ha : ∀ j, j < n → inB (h j) 0 10000 = true ∧ inB (o j) (-100000) 100000 = true ∧ (j = 0 ∨ h (j - 1) < h j) := fun j hj => by
    have := rdTo_at hv.1 hj
    simp only [rdAt, Bool.and_eq_true, Bool.or_eq_true, decide_eq_true_eq, beq_iff_eq] at this
    exact ⟨this.1.1, this.1.2, this.2⟩
  refine ⟨hv.2, fun j hj => inB_t.1 (ha j hj).1, fun j hj => inB_t.1 (ha j hj).2.1, fun j hj => ?_⟩
  have := (ha (j + 1) hj).2.2
  simpa using this
/-- the bounds on the sums of the first k readings, and on what the next one adds -/
structure SB (h o : Nat → Int) (k : Nat) : Prop where
  x0 : 0 ≤ sm h k
  x1 : sm h k ≤ 600000
  y0 : -6000000 ≤ sm o k
  y1 : sm o k ≤ 6000000
  xx0 : 0 ≤ sXX h k
  xx1 : sXX h k ≤ 6000000000
  xy0 : -60000000000 ≤ sXY h o k
  xy1 : sXY h o k ≤ 60000000000
theorem RB.hh {n : Nat} {h o : Nat → Int} (r : RB n h o) {j : Nat} (hj : j < n) : 0 ≤ h j * h j ∧ h j * h j ≤ 100000000 := by
  have := r.bh j hj; exact mul_nn this.1 this.2 this.1 this.2
theorem RB.ho {n : Nat} {h o : Nat → Int} (r : RB n h o) {j : Nat} (hj : j < n) : -1000000000 ≤ h j * o j ∧ h j * o j ≤ 1000000000 := by
  have h1 := r.bh j hj; have h2 := r.bo j hj
  have := mul_bd (A := 10000) (B := 100000) (by omega) h1.2 (by omega) h2.2
  omega
theorem RB.sb {n : Nat} {h o : Nat → Int} (r : RB n h o) {k : Nat} (hk : k ≤ n) : SB h o k := by
  have a := sm_bd (f := h) (A := 0) (B := 10000) (k := k) (fun j hj => r.bh j (by omega))
  have b := sm_bd (f := o) (A := -100000) (B := 100000) (k := k) (fun j hj => r.bo j (by omega))
  have c := sm_bd (f := fun i => h i * h i) (A := 0) (B := 100000000) (k := k) (fun j hj => r.hh (by omega))
  have d := sm_bd (f := fun i => h i * o i) (A := -1000000000) (B := 1000000000) (k := k) (fun j hj => r.ho (by omega))
  have := r.n60
  constructor <;> (try unfold sXX) <;> (try unfold sXY) <;> omega
/-- a value where a list is valid, else 0; the code -/
def fX (v : Bool) (z : Int) : Int := if v then z else 0
def fC (v : Bool) : Int := if v then 0 else 1
end Go.Proofs.Ytmbpjlgeneemjaa

namespace Go.Proofs.Ytmbpjlgeneemjaa
open Go.RowKit
set_option linter.unusedVariables false
set_option linter.unusedSimpArgs false

def fitA (c x y xx xy : Int) : Array Value := #[.int .i64 c, .int .i64 x, .int .i64 y, .int .i64 xx, .int .i64 xy]
/-- a block that holds a fit: its cells -/
theorem fit_cells {w : World} {g T : Nat} {c x y xx xy : Int} (b : Blk w g T (fitA c x y xx xy)) :
    (w.cell? ⟨g, 0, none⟩ = some (.int .i64 c) ∧ w.cell? ⟨g, 1, none⟩ = some (.int .i64 x) ∧ w.cell? ⟨g, 2, none⟩ = some (.int .i64 y) ∧ w.cell? ⟨g, 3, none⟩ = some (.int .i64 xx) ∧ w.cell? ⟨g, 4, none⟩ = some (.int .i64 xy)) ∧
    (w.frozen? ⟨g, 0, none⟩ = false ∧ w.frozen? ⟨g, 1, none⟩ = false ∧ w.frozen? ⟨g, 2, none⟩ = false ∧ w.frozen? ⟨g, 3, none⟩ = false ∧ w.frozen? ⟨g, 4, none⟩ = false) :=
  ⟨⟨b.cell 0, b.cell 1, b.cell 2, b.cell 3, b.cell 4⟩, b.frozen 0, b.frozen 1, b.frozen 2, b.frozen 3, b.frozen 4⟩
theorem fit_set {w : World} {g T : Nat} {c x y xx xy c' x' y' xx' xy' : Int} (b : Blk w g T (fitA c x y xx xy)) :
    Blk (((((w.setCell ⟨g, 0, none⟩ (.int .i64 c')).setCell ⟨g, 1, none⟩ (.int .i64 x')).setCell ⟨g, 2, none⟩ (.int .i64 y')).setCell ⟨g, 3, none⟩ (.int .i64 xx')).setCell ⟨g, 4, none⟩ (.int .i64 xy')) g T (fitA c' x' y' xx' xy') :=
  ((((b.set 0 _).set 1 _).set 2 _).set 3 _).set 4 _
theorem fit_other {w : World} {g T b : Nat} {cur : Array Value} {u0 u1 u2 u3 u4 : Value} (h : Blk w g T cur) (hne : g ≠ b) :
    Blk (((((w.setCell ⟨b, 0, none⟩ u0).setCell ⟨b, 1, none⟩ u1).setCell ⟨b, 2, none⟩ u2).setCell ⟨b, 3, none⟩ u3).setCell ⟨b, 4, none⟩ u4) g T cur :=
  ((((h.other _ _ _ hne).other _ _ _ hne).other _ _ _ hne).other _ _ _ hne).other _ _ _ hne
theorem two_new (w : World) (T : Nat) (c1 c2 : Array Value) : Blk ((w.alloc (.cells c1 T)).alloc (.cells c2 T)) w.heap.size T c1 ∧ Blk ((w.alloc (.cells c1 T)).alloc (.cells c2 T)) (w.heap.size + 1) T c2 :=
  ⟨(Blk.new w c1 T).ext ((Ext.refl _).alloc _), by have := Blk.new (w.alloc (.cells c1 T)) c2 T; rwa [World.size_alloc] at this⟩
set_option maxHeartbeats 1000000 in
theorem l14Fit_c (a : Option Addr) (n c : Nat) (h o : Nat → Int) (w : World) (hv : rdV n h o = true) (hs : S2 w a n h o) :
    Calls Try.prog 52 #[.slice a n c] w fun e w' => e = .returned (.agg #[.int .i64 n, .int .i64 (sm h n), .int .i64 (sm o n), .int .i64 (sXX h n), .int .i64 (sXY h o n)]) ∧ Ext w w' := by
  have HS := Lib.hid hs
  have r := rb_of hv
  have hn := r.n60
  clear hs hv
  go_enter Try.func52, Try.ntmps52
  go_wp2_with fail
  go_loopw [4] (fun i wr => ∃ k : Nat, k ≤ n ∧ i = .int .i64 k ∧ Ext w wr ∧ Blk wr w.heap.size 38 (fitA 0 0 0 0 0) ∧ Blk wr (w.heap.size + 1) 38 (fitA n (sm h k) (sm o k) (sXX h k) (sXY h o k))) (fun i _ => n - (intOf i).toNat)
  case atStart => exact ⟨0, by omega, rfl, (by repeat (first | with_reducible exact Ext.refl _ | with_reducible assumption | with_reducible refine Ext.alloc ?_ _ | with_reducible refine Ext.drew ?_ | (with_reducible refine Ext.setAt ?_ _ _ _ ?_; rotate_left; omega) | with_reducible refine Ext.trans ?_ (by assumption) | with_reducible exact Past.bel _ | with_reducible refine Ext.trans ?_ (Past.bel _))), (two_new _ _ _ _).1, (two_new _ _ _ _).2⟩
  case round =>
    obtain ⟨k, hk, rfl, hbl, hB0, hB1⟩ := hrel
    have H0 := Lib.hid hB0
    have H1 := Lib.hid hB1
    by_cases hlt : k < n
    · obtain ⟨⟨c0, c1, c2, c3, c4⟩, f0, f1, f2, f3, f4⟩ := fit_cells hB1
      clear hB0 hB1
      obtain ⟨b1, o1, rfl, hb1, q1, q2⟩ := (S2.ext HS.out hbl).at hlt
      obtain ⟨x0, x1, y0, y1, xx0, xx1, xy0, xy1⟩ := r.sb hk
      obtain ⟨hh0, hh1⟩ := r.hh hlt
      obtain ⟨ho0, ho1⟩ := r.ho hlt
      obtain ⟨h0, h1⟩ := r.bh k hlt
      obtain ⟨g0, g1⟩ := r.bo k hlt
      have R := Lib.hid r
      clear r
      go_wp2_with fail
      exact ⟨⟨k + 1, by omega, by go_num, (by repeat (first | with_reducible exact Ext.refl _ | with_reducible assumption | with_reducible refine Ext.alloc ?_ _ | with_reducible refine Ext.drew ?_ | (with_reducible refine Ext.setAt ?_ _ _ _ ?_; rotate_left; omega) | with_reducible refine Ext.trans ?_ (by assumption) | with_reducible exact Past.bel _ | with_reducible refine Ext.trans ?_ (Past.bel _))), fit_other H0.out (by omega), fit_set H1.out⟩, by simp [intOf]; omega⟩
    · obtain rfl : k = n := by omega
      obtain ⟨⟨c0, c1, c2, c3, c4⟩, f0, f1, f2, f3, f4⟩ := fit_cells hB1
      obtain ⟨⟨d0, d1, d2, d3, d4⟩, e0, e1, e2, e3, e4⟩ := fit_cells hB0
      clear hB0 hB1
      go_wp2_with fail
      exact bodyPost_ret (v := .agg (fitA k (sm h k) (sm o k) (sXX h k) (sXY h o k))) (by simp [results, Try.results52, go_sem, fitA, d0, d1, d2, d3, d4]) rfl ⟨rfl, (by repeat (first | with_reducible exact Ext.refl _ | with_reducible assumption | with_reducible refine Ext.alloc ?_ _ | with_reducible refine Ext.drew ?_ | (with_reducible refine Ext.setAt ?_ _ _ _ ?_; rotate_left; omega) | with_reducible refine Ext.trans ?_ (by assumption) | with_reducible exact Past.bel _ | with_reducible refine Ext.trans ?_ (Past.bel _)))⟩
set_option maxHeartbeats 2000000 in
theorem fitOf_c (a : Option Addr) (n c : Nat) (h o : Nat → Int) (w : World) (hv : rdV n h o = true) (hs : S2 w a n h o) :
    Calls Try.prog 47 #[.slice a n c] w fun e w' => e = .returned (.agg #[.int .i64 n, .int .i64 (sm h n), .int .i64 (sm o n), .int .i64 (sXX h n), .int .i64 (sXY h o n)]) ∧ Ext w w' := by
  have HS := Lib.hid hs
  have r := rb_of hv
  have hn := r.n60
  clear hs hv
  go_enter Try.func47, Try.ntmps47
  go_wp2_with fail
  go_loopw [8] (fun i wr => ∃ k : Nat, k ≤ n ∧ i = .int .i64 k ∧ Ext w wr ∧ Blk wr w.heap.size 38 (fitA 0 0 0 0 0) ∧ Blk wr (w.heap.size + 1) 38 (fitA k (sm h k) (sm o k) (sXX h k) (sXY h o k))) (fun i _ => n - (intOf i).toNat)
  case atStart => exact ⟨0, by omega, rfl, (by repeat (first | with_reducible exact Ext.refl _ | with_reducible assumption | with_reducible refine Ext.alloc ?_ _ | with_reducible refine Ext.drew ?_ | (with_reducible refine Ext.setAt ?_ _ _ _ ?_; rotate_left; omega) | with_reducible refine Ext.trans ?_ (by assumption) | with_reducible exact Past.bel _ | with_reducible refine Ext.trans ?_ (Past.bel _))), (two_new _ _ _ _).1, (two_new _ _ _ _).2⟩
  case round =>
    obtain ⟨k, hk, rfl, hbl, hB0, hB1⟩ := hrel
    have H0 := Lib.hid hB0
    have H1 := Lib.hid hB1
    by_cases hlt : k < n
    · obtain ⟨⟨c0, c1, c2, c3, c4⟩, f0, f1, f2, f3, f4⟩ := fit_cells hB1
      have hg := hB1.lt
      clear hB0 hB1
      obtain ⟨b1, o1, rfl, hb1, q1, q2⟩ := (S2.ext HS.out hbl).at hlt
      obtain ⟨x0, x1, y0, y1, xx0, xx1, xy0, xy1⟩ := r.sb hk
      obtain ⟨hh0, hh1⟩ := r.hh hlt
      obtain ⟨ho0, ho1⟩ := r.ho hlt
      obtain ⟨h0, h1⟩ := r.bh k hlt
      obtain ⟨g0, g1⟩ := r.bo k hlt
      have R := Lib.hid r
      clear r
      go_wp2_with fail
      exact ⟨⟨k + 1, by omega, by go_num, (by repeat (first | with_reducible exact Ext.refl _ | with_reducible assumption | with_reducible refine Ext.alloc ?_ _ | with_reducible refine Ext.drew ?_ | (with_reducible refine Ext.setAt ?_ _ _ _ ?_; rotate_left; omega) | with_reducible refine Ext.trans ?_ (by assumption) | with_reducible exact Past.bel _ | with_reducible refine Ext.trans ?_ (Past.bel _))), (fit_other H0.out (by omega)).ext ((Ext.refl _).alloc _), (fit_set H1.out).ext ((Ext.refl _).alloc _)⟩, by simp [intOf]; omega⟩
    · obtain rfl : k = n := by omega
      obtain ⟨⟨c0, c1, c2, c3, c4⟩, f0, f1, f2, f3, f4⟩ := fit_cells hB1
      obtain ⟨⟨d0, d1, d2, d3, d4⟩, e0, e1, e2, e3, e4⟩ := fit_cells hB0
      clear hB0 hB1
      go_wp2_with fail
      exact bodyPost_ret (v := .agg (fitA k (sm h k) (sm o k) (sXX h k) (sXY h o k))) (by simp [results, Try.results47, go_sem, fitA, d0, d1, d2, d3, d4]) rfl ⟨rfl, (by repeat (first | with_reducible exact Ext.refl _ | with_reducible assumption | with_reducible refine Ext.alloc ?_ _ | with_reducible refine Ext.drew ?_ | (with_reducible refine Ext.setAt ?_ _ _ _ ?_; rotate_left; omega) | with_reducible refine Ext.trans ?_ (by assumption) | with_reducible exact Past.bel _ | with_reducible refine Ext.trans ?_ (Past.bel _)))⟩
set_option maxHeartbeats 400000 in
theorem specFitOf_c (a : Option Addr) (n c : Nat) (h o : Nat → Int) (w : World) (hn : n ≤ 1048576) (hs : S2 w a n h o) :
    Calls Try.prog 18 #[.slice a n c] w fun e w' => e = .returned (.tuple #[.agg #[.int .i64 (fX (rdV n h o) n), .int .i64 (fX (rdV n h o) (sm h n)), .int .i64 (fX (rdV n h o) (sm o n)), .int .i64 (fX (rdV n h o) (sXX h n)), .int .i64 (fX (rdV n h o) (sXY h o n))], .int .i64 (fC (rdV n h o))]) ∧ Ext w w' := by
  have HS := Lib.hid hs
  clear hs
  by_cases hv : rdV n h o = true
  · have HV := Lib.hid hv
    go_enter Try.func18, Try.ntmps18
    go_wp2_with (first | (go_at_call 48; ((with_reducible refine (l14Ok_c _ _ _ _ _ _ hn (HS.out.ext (by repeat (first | with_reducible exact Ext.refl _ | with_reducible assumption | with_reducible refine Ext.alloc ?_ _ | with_reducible refine Ext.drew ?_ | (with_reducible refine Ext.setAt ?_ _ _ _ ?_; rotate_left; omega) | with_reducible refine Ext.trans ?_ (by assumption) | with_reducible exact Past.bel _ | with_reducible refine Ext.trans ?_ (Past.bel _))))).mono ?_); rintro e w' ⟨rfl, hx⟩; (first | (obtain ⟨wx, rfl⟩ := Past.again hx) | (obtain ⟨wx, rfl⟩ := Past.ofd hx) | (obtain ⟨wx, rfl⟩ := Past.of hx)))) | (go_at_call 52; ((with_reducible refine (l14Fit_c _ _ _ _ _ _ HV.out (HS.out.ext (by repeat (first | with_reducible exact Ext.refl _ | with_reducible assumption | with_reducible refine Ext.alloc ?_ _ | with_reducible refine Ext.drew ?_ | (with_reducible refine Ext.setAt ?_ _ _ _ ?_; rotate_left; omega) | with_reducible refine Ext.trans ?_ (by assumption) | with_reducible exact Past.bel _ | with_reducible refine Ext.trans ?_ (Past.bel _))))).mono ?_); rintro e w' ⟨rfl, hx⟩; (first | (obtain ⟨wx, rfl⟩ := Past.again hx) | (obtain ⟨wx, rfl⟩ := Past.ofd hx) | (obtain ⟨wx, rfl⟩ := Past.of hx)))))
    exact bodyPost_ret (v := .tuple #[.agg #[.int .i64 n, .int .i64 (sm h n), .int .i64 (sm o n), .int .i64 (sXX h n), .int .i64 (sXY h o n)], .int .i64 0]) (by simp [results, Try.results18, go_sem]) rfl ⟨by rw [HV.out]; rfl, (by repeat (first | with_reducible exact Ext.refl _ | with_reducible assumption | with_reducible refine Ext.alloc ?_ _ | with_reducible refine Ext.drew ?_ | (with_reducible refine Ext.setAt ?_ _ _ _ ?_; rotate_left; omega) | with_reducible refine Ext.trans ?_ (by assumption) | with_reducible exact Past.bel _ | with_reducible refine Ext.trans ?_ (Past.bel _)))⟩
  · have hf : rdV n h o = false := by simpa using hv
    go_enter Try.func18, Try.ntmps18
    go_wp2_with (first | (go_at_call 48; ((with_reducible refine (l14Ok_c _ _ _ _ _ _ hn (HS.out.ext (by repeat (first | with_reducible exact Ext.refl _ | with_reducible assumption | with_reducible refine Ext.alloc ?_ _ | with_reducible refine Ext.drew ?_ | (with_reducible refine Ext.setAt ?_ _ _ _ ?_; rotate_left; omega) | with_reducible refine Ext.trans ?_ (by assumption) | with_reducible exact Past.bel _ | with_reducible refine Ext.trans ?_ (Past.bel _))))).mono ?_); rintro e w' ⟨rfl, hx⟩; (first | (obtain ⟨wx, rfl⟩ := Past.again hx) | (obtain ⟨wx, rfl⟩ := Past.ofd hx) | (obtain ⟨wx, rfl⟩ := Past.of hx)))))
    exact bodyPost_ret (v := .tuple #[.agg #[.int .i64 0, .int .i64 0, .int .i64 0, .int .i64 0, .int .i64 0], .int .i64 1]) (by simp [results, Try.results18, go_sem]) rfl ⟨by rw [hf]; rfl, (by repeat (first | with_reducible exact Ext.refl _ | with_reducible assumption | with_reducible refine Ext.alloc ?_ _ | with_reducible refine Ext.drew ?_ | (with_reducible refine Ext.setAt ?_ _ _ _ ?_; rotate_left; omega) | with_reducible refine Ext.trans ?_ (by assumption) | with_reducible exact Past.bel _ | with_reducible refine Ext.trans ?_ (Past.bel _)))⟩
set_option maxHeartbeats 400000 in
theorem implFitOf_c (a : Option Addr) (n c : Nat) (h o : Nat → Int) (w : World) (hn : n ≤ 1048576) (hs : S2 w a n h o) :
    Calls Try.prog 17 #[.slice a n c] w fun e w' => e = .returned (.tuple #[.agg #[.int .i64 (fX (rdV n h o) n), .int .i64 (fX (rdV n h o) (sm h n)), .int .i64 (fX (rdV n h o) (sm o n)), .int .i64 (fX (rdV n h o) (sXX h n)), .int .i64 (fX (rdV n h o) (sXY h o n))], .int .i64 (fC (rdV n h o))]) ∧ Ext w w' := by
  have HS := Lib.hid hs
  clear hs
  by_cases hv : rdV n h o = true
  · have HV := Lib.hid hv
    go_enter Try.func17, Try.ntmps17
    go_wp2_with (first | (go_at_call 20; ((with_reducible refine (validReadings_c _ _ _ _ _ _ hn (HS.out.ext (by repeat (first | with_reducible exact Ext.refl _ | with_reducible assumption | with_reducible refine Ext.alloc ?_ _ | with_reducible refine Ext.drew ?_ | (with_reducible refine Ext.setAt ?_ _ _ _ ?_; rotate_left; omega) | with_reducible refine Ext.trans ?_ (by assumption) | with_reducible exact Past.bel _ | with_reducible refine Ext.trans ?_ (Past.bel _))))).mono ?_); rintro e w' ⟨rfl, hx⟩; (first | (obtain ⟨wx, rfl⟩ := Past.again hx) | (obtain ⟨wx, rfl⟩ := Past.ofd hx) | (obtain ⟨wx, rfl⟩ := Past.of hx)))) | (go_at_call 47; ((with_reducible refine (fitOf_c _ _ _ _ _ _ HV.out (HS.out.ext (by repeat (first | with_reducible exact Ext.refl _ | with_reducible assumption | with_reducible refine Ext.alloc ?_ _ | with_reducible refine Ext.drew ?_ | (with_reducible refine Ext.setAt ?_ _ _ _ ?_; rotate_left; omega) | with_reducible refine Ext.trans ?_ (by assumption) | with_reducible exact Past.bel _ | with_reducible refine Ext.trans ?_ (Past.bel _))))).mono ?_); rintro e w' ⟨rfl, hx⟩; (first | (obtain ⟨wx, rfl⟩ := Past.again hx) | (obtain ⟨wx, rfl⟩ := Past.ofd hx) | (obtain ⟨wx, rfl⟩ := Past.of hx)))))
    exact bodyPost_ret (v := .tuple #[.agg #[.int .i64 n, .int .i64 (sm h n), .int .i64 (sm o n), .int .i64 (sXX h n), .int .i64 (sXY h o n)], .int .i64 0]) (by simp [results, Try.results17, go_sem]) rfl ⟨by rw [HV.out]; rfl, (by repeat (first | with_reducible exact Ext.refl _ | with_reducible assumption | with_reducible refine Ext.alloc ?_ _ | with_reducible refine Ext.drew ?_ | (with_reducible refine Ext.setAt ?_ _ _ _ ?_; rotate_left; omega) | with_reducible refine Ext.trans ?_ (by assumption) | with_reducible exact Past.bel _ | with_reducible refine Ext.trans ?_ (Past.bel _)))⟩
  · have hf : rdV n h o = false := by simpa using hv
    go_enter Try.func17, Try.ntmps17
    go_wp2_with (first | (go_at_call 20; ((with_reducible refine (validReadings_c _ _ _ _ _ _ hn (HS.out.ext (by repeat (first | with_reducible exact Ext.refl _ | with_reducible assumption | with_reducible refine Ext.alloc ?_ _ | with_reducible refine Ext.drew ?_ | (with_reducible refine Ext.setAt ?_ _ _ _ ?_; rotate_left; omega) | with_reducible refine Ext.trans ?_ (by assumption) | with_reducible exact Past.bel _ | with_reducible refine Ext.trans ?_ (Past.bel _))))).mono ?_); rintro e w' ⟨rfl, hx⟩; (first | (obtain ⟨wx, rfl⟩ := Past.again hx) | (obtain ⟨wx, rfl⟩ := Past.ofd hx) | (obtain ⟨wx, rfl⟩ := Past.of hx)))))
    exact bodyPost_ret (v := .tuple #[.agg #[.int .i64 0, .int .i64 0, .int .i64 0, .int .i64 0, .int .i64 0], .int .i64 1]) (by simp [results, Try.results17, go_sem]) rfl ⟨by rw [hf]; rfl, (by repeat (first | with_reducible exact Ext.refl _ | with_reducible assumption | with_reducible refine Ext.alloc ?_ _ | with_reducible refine Ext.drew ?_ | (with_reducible refine Ext.setAt ?_ _ _ _ ?_; rotate_left; omega) | with_reducible refine Ext.trans ?_ (by assumption) | with_reducible exact Past.bel _ | with_reducible refine Ext.trans ?_ (Past.bel _)))⟩
end Go.Proofs.Ytmbpjlgeneemjaa

namespace Go.Proofs.Ytmbpjlgeneemjaa
open Go.RowKit
set_option linter.unusedVariables false
set_option linter.unusedSimpArgs false

theorem toReadingS_r (a : Option Addr) (n c : Nat) (h o : Nat → Int) (w : World) (hn : n ≤ 1048576) (hs : S2 w a n h o) :
    Calls Try.prog 39 #[.slice a n c] w fun e w' => ∃ g, e = .returned (.slice (some ⟨g, 0, none⟩) n n) ∧ Ext w w' ∧ S2 w' (some ⟨g, 0, none⟩) n h o :=
  (toReadingS_c a n c h o w hn hs).mono fun e w' ⟨cur, he, hx, hb, _, hc⟩ => ⟨_, he, hx, C2.s2 hb hc⟩
theorem eqReadingS_self (aa ab : Option Addr) (n ca cb : Nat) (h o : Nat → Int) (w : World) (hn : n ≤ 1048576) (ha : S2 w aa n h o) (hb : S2 w ab n h o) :
    Calls Try.prog 41 #[.slice aa n ca, .slice ab n cb] w fun e w' => e = .returned (.bool true) ∧ Ext w w' :=
  (eqReadingS_c aa ab n n ca cb h o h o w hn hn ha hb).mono fun e w' ⟨he, hx⟩ => ⟨by rw [he, eqTo_self]; simp, hx⟩
end Go.Proofs.Ytmbpjlgeneemjaa

namespace Go.Proofs.Ytmbpjlgeneemjaa
set_option linter.unusedVariables false
set_option linter.unusedSimpArgs false
def sq (o : Nat → Int) (k : Nat) : Int := sm (fun i => o i * o i) k
theorem sm_shift (f : Nat → Int) (k m : Nat) : sm (fun i => f (i + k)) m = sm f (m + k) - sm f k := by
  induction m with
  | zero => simp [sm]
  | succ m ih => simp only [sm, ih, show m + 1 + k = (m + k) + 1 by omega]; omega
theorem sm_rest (f : Nat → Int) {k n : Nat} (h : k ≤ n) : sm (fun i => f (i + k)) (n - k) = sm f n - sm f k := by
  rw [sm_shift, show n - k + k = n by omega]
theorem sq_rest (o : Nat → Int) {k n : Nat} (h : k ≤ n) : sq (fun i => o (i + k)) (n - k) = sq o n - sq o k := sm_rest (fun i => o i * o i) h
/-- what is greatest at the best change, and what it is divided by -/
def bcU (n : Nat) (o : Nat → Int) (k : Nat) : Int := sm o k * sm o k * ((n : Int) - k) + (sm o n - sm o k) * (sm o n - sm o k) * k
def bcD (n : Nat) (k : Nat) : Int := (k : Int) * ((n : Int) - k)
/-- the best so far, behind j places -/
def bc (n : Nat) (o : Nat → Int) : Nat → Int × Int × Int
  | 0 => (0, -1, 1)
  | j + 1 => if (bc n o j).2.1 * bcD n (j + 1) < bcU n o (j + 1) * (bc n o j).2.2 then ((j : Int) + 1, bcU n o (j + 1), bcD n (j + 1)) else bc n o j
structure OffB (n : Nat) (o : Nat → Int) : Prop where
  n60 : n ≤ 60
  bo : ∀ j, j < n → -100000 ≤ o j ∧ o j ≤ 100000
theorem OffB.s {n : Nat} {o : Nat → Int} (b : OffB n o) {k : Nat} (hk : k ≤ n) : -6000000 ≤ sm o k ∧ sm o k ≤ 6000000 := by
  have := sm_bd (f := o) (A := -100000) (B := 100000) (k := k) (fun j hj => b.bo j (by omega))
  have := b.n60; omega
theorem OffB.oo {n : Nat} {o : Nat → Int} (b : OffB n o) {j : Nat} (hj : j < n) : 0 ≤ o j * o j ∧ o j * o j ≤ 10000000000 := by
  have h := b.bo j hj
  have := mul_bd (A := 100000) (B := 100000) (by omega) h.2 (by omega) h.2
  have h2 : 0 ≤ o j * o j := by
    rcases Int.le_total 0 (o j) with h3 | h3
    · exact Int.mul_nonneg h3 h3
    · exact Int.mul_nonneg_of_nonpos_of_nonpos h3 h3
  omega
theorem OffB.q {n : Nat} {o : Nat → Int} (b : OffB n o) {k : Nat} (hk : k ≤ n) : 0 ≤ sq o k ∧ sq o k ≤ 600000000000 := by
  have := sm_bd (f := fun i => o i * o i) (A := 0) (B := 10000000000) (k := k) (fun j hj => b.oo (by omega))
  have := b.n60; unfold sq; omega
theorem sqr_nn (x : Int) : 0 ≤ x * x := by
  rcases Int.le_total 0 x with h3 | h3
  · exact Int.mul_nonneg h3 h3
  · exact Int.mul_nonneg_of_nonpos_of_nonpos h3 h3
theorem OffB.ss {n : Nat} {o : Nat → Int} (b : OffB n o) {k : Nat} (hk : k ≤ n) : 0 ≤ sm o k * sm o k ∧ sm o k * sm o k ≤ 36000000000000 := by
  have h := b.s hk
  have := mul_bd (A := 6000000) (B := 6000000) (by omega) h.2 (by omega) h.2
  exact ⟨sqr_nn _, by omega⟩
theorem OffB.tail {n : Nat} {o : Nat → Int} (b : OffB n o) {k : Nat} (hk : k ≤ n) : OffB (n - k) (fun i => o (i + k)) :=
  ⟨by have := b.n60; omega, fun j hj => b.bo _ (by omega)⟩
theorem OffB.tt {n : Nat} {o : Nat → Int} (b : OffB n o) {k : Nat} (hk : k ≤ n) : 0 ≤ (sm o n - sm o k) * (sm o n - sm o k) ∧ (sm o n - sm o k) * (sm o n - sm o k) ≤ 36000000000000 := by
  rw [← sm_rest o hk]; exact (b.tail hk).ss (Nat.le_refl _)
theorem OffB.t {n : Nat} {o : Nat → Int} (b : OffB n o) {k : Nat} (hk : k ≤ n) : -6000000 ≤ sm o n - sm o k ∧ sm o n - sm o k ≤ 6000000 := by
  rw [← sm_rest o hk]; exact (b.tail hk).s (Nat.le_refl _)
/-- the products on the way -/
structure BCB (n : Nat) (o : Nat → Int) (k : Nat) : Prop where
  a0 : 0 ≤ sm o k * sm o k * ((n : Int) - k)
  a1 : sm o k * sm o k * ((n : Int) - k) ≤ 2160000000000000
  b0 : 0 ≤ (sm o n - sm o k) * (sm o n - sm o k) * k
  b1 : (sm o n - sm o k) * (sm o n - sm o k) * k ≤ 2160000000000000
  d0 : 0 < bcD n k
  d1 : bcD n k ≤ 900
  u0 : 0 ≤ bcU n o k
  u1 : bcU n o k ≤ 4320000000000000
theorem bcb {n : Nat} {o : Nat → Int} (b : OffB n o) {k : Nat} (h1 : 1 ≤ k) (hk : k < n) : BCB n o k := by
  have h60 := b.n60
  have s := b.ss (k := k) (by omega)
  have t := b.tt (k := k) (by omega)
  have a := mul_nn (b := (n : Int) - k) (B := 60) s.1 s.2 (by omega) (by omega)
  have c := mul_nn (b := (k : Int)) (B := 60) t.1 t.2 (by omega) (by omega)
  have d : 0 < bcD n k := Int.mul_pos (by omega) (by omega)
  have d' : bcD n k ≤ 900 := by
    unfold bcD
    have e := sqr_nn (30 - (k : Int))
    have e1 : (30 - (k : Int)) * (30 - k) = 900 - 60 * k + k * k := by simp only [Int.sub_mul, Int.mul_sub]; omega
    have e2 : (k : Int) * n ≤ k * 60 := Int.mul_le_mul_of_nonneg_left (by omega) (by omega)
    rw [Int.mul_sub]; omega
  refine ⟨a.1, by omega, c.1, by omega, d, d', ?_, ?_⟩ <;> unfold bcU <;> omega
/-- the state behind j places -/
structure BSt (n : Nat) (o : Nat → Int) (j : Nat) : Prop where
  d0 : 0 < (bc n o j).2.2
  d1 : (bc n o j).2.2 ≤ 900
  u0 : -1 ≤ (bc n o j).2.1
  u1 : (bc n o j).2.1 ≤ 4320000000000000
  b0 : 0 ≤ (bc n o j).1
  b1 : (bc n o j).1 ≤ j
  z : (bc n o j).1 = 0 ↔ j = 0
  i : j = 0 → bc n o j = (0, -1, 1)
theorem bst {n : Nat} {o : Nat → Int} (b : OffB n o) {j : Nat} (hj : j < n) : BSt n o j := by
  induction j with
  | zero => constructor <;> simp [bc]
  | succ j ih =>
    have s := ih (by omega)
    have c := bcb b (k := j + 1) (by omega) hj
    have hup : ∀ x : Int × Int × Int, x = (if (bc n o j).2.1 * bcD n (j + 1) < bcU n o (j + 1) * (bc n o j).2.2 then ((j : Int) + 1, bcU n o (j + 1), bcD n (j + 1)) else bc n o j) →
        (0 < x.2.2 ∧ x.2.2 ≤ 900 ∧ -1 ≤ x.2.1 ∧ x.2.1 ≤ 4320000000000000 ∧ 0 ≤ x.1 ∧ x.1 ≤ j + 1 ∧ x.1 ≠ 0) := fun x hx => by
      split at hx
      · subst hx; have := c.d0; have := c.d1; have := c.u0; have := c.u1; simp only; omega
      · rename_i hn
        subst hx
        have h0 : j ≠ 0 := fun e => by
          subst e
          have h0' := c.u0; have := c.d0
          simp only [bc] at hn; omega
        have := s.d0; have := s.d1; have := s.u0; have := s.u1; have := s.b0; have := s.b1
        have hz : (bc n o j).1 ≠ 0 := fun e => h0 (s.z.1 e)
        omega
    obtain ⟨x1, x2, x3, x4, x5, x6, x7⟩ := hup (bc n o (j + 1)) rfl
    refine ⟨x1, x2, x3, x4, x5, by omega, ⟨fun e => absurd e x7, fun e => by omega⟩, fun e => by omega⟩
/-- the reference's terms: the spread of both parts -/
def spr (n : Nat) (o : Nat → Int) : Int := (n : Int) * sq o n - sm o n * sm o n
theorem spr_sum {n : Nat} {o : Nat → Int} {k : Nat} (hk : k ≤ n) :
    spr k o * ((n : Int) - k) + spr (n - k) (fun i => o (i + k)) * k = bcD n k * sq o n - bcU n o k := by
  unfold spr bcD bcU
  rw [sm_rest o hk, sq_rest o hk, Int.natCast_sub hk]
  generalize (n : Int) = N
  generalize (k : Int) = K
  generalize sq o n = A
  generalize sq o k = B
  generalize sm o n = S
  generalize sm o k = T
  simp only [Int.sub_mul, Int.mul_sub, Int.add_mul, Int.mul_add, Int.mul_assoc, Int.mul_comm, Int.mul_left_comm]
  omega
theorem offB_of {n : Nat} {h o : Nat → Int} (r : RB n h o) : OffB n o := ⟨r.n60, r.bo⟩
end Go.Proofs.Ytmbpjlgeneemjaa

namespace Go.Proofs.Ytmbpjlgeneemjaa
set_option linter.unusedVariables false
theorem bcU_succ (n : Nat) (o : Nat → Int) (j : Nat) : bcU n o (j + 1) = (sm o j + o j) * (sm o j + o j) * ((n : Int) - (j + 1)) + (sm o n - (sm o j + o j)) * (sm o n - (sm o j + o j)) * ((j : Int) + 1) := by
  unfold bcU; simp only [sm, Int.natCast_add, Int.natCast_one]
theorem bcD_succ (n : Nat) (j : Nat) : bcD n (j + 1) = ((j : Int) + 1) * ((n : Int) - (j + 1)) := by
  unfold bcD; simp only [Int.natCast_add, Int.natCast_one]
/-- the program's round -/
structure BW (n : Nat) (o : Nat → Int) (j : Nat) : Prop where
  s0 : -6000000 ≤ sm o j
  s1 : sm o j ≤ 6000000
  x0 : -100000 ≤ o j
  x1 : o j ≤ 100000
  a0 : 0 ≤ (sm o j + o j) * (sm o j + o j)
  a1 : (sm o j + o j) * (sm o j + o j) ≤ 36000000000000
  b0 : 0 ≤ (sm o j + o j) * (sm o j + o j) * ((n : Int) - (j + 1))
  b1 : (sm o j + o j) * (sm o j + o j) * ((n : Int) - (j + 1)) ≤ 2160000000000000
  c0 : 0 ≤ (sm o n - (sm o j + o j)) * (sm o n - (sm o j + o j))
  c1 : (sm o n - (sm o j + o j)) * (sm o n - (sm o j + o j)) ≤ 36000000000000
  e0 : 0 ≤ (sm o n - (sm o j + o j)) * (sm o n - (sm o j + o j)) * ((j : Int) + 1)
  e1 : (sm o n - (sm o j + o j)) * (sm o n - (sm o j + o j)) * ((j : Int) + 1) ≤ 2160000000000000
  d0 : 0 ≤ ((j : Int) + 1) * ((n : Int) - (j + 1))
  d1 : ((j : Int) + 1) * ((n : Int) - (j + 1)) ≤ 900
  p0 : -1 ≤ ((sm o j + o j) * (sm o j + o j) * ((n : Int) - (j + 1)) + (sm o n - (sm o j + o j)) * (sm o n - (sm o j + o j)) * ((j : Int) + 1)) * (bc n o j).2.2
  p1 : ((sm o j + o j) * (sm o j + o j) * ((n : Int) - (j + 1)) + (sm o n - (sm o j + o j)) * (sm o n - (sm o j + o j)) * ((j : Int) + 1)) * (bc n o j).2.2 ≤ 3888000000000000000
  q0 : -900 ≤ (bc n o j).2.1 * (((j : Int) + 1) * ((n : Int) - (j + 1)))
  q1 : (bc n o j).2.1 * (((j : Int) + 1) * ((n : Int) - (j + 1))) ≤ 3888000000000000000
  t0 : -6000000 ≤ sm o n
  t1 : sm o n ≤ 6000000
theorem bw_of {n : Nat} {o : Nat → Int} (b : OffB n o) {j : Nat} (hj : j + 1 < n) : BW n o j := by
  have c := bcb b (k := j + 1) (by omega) hj
  have s := bst b (j := j) (by omega)
  have ss := b.ss (k := j + 1) (by omega)
  have tt := b.tt (k := j + 1) (by omega)
  have sj := b.s (k := j) (by omega)
  have sn := b.s (k := n) (Nat.le_refl n)
  have xj := b.bo j (by omega)
  obtain ⟨c1, c2, c3, c4, c5, c6, c7, c8⟩ := c
  have u := s.u0
  have u' := s.u1
  have d := s.d0
  have d' := s.d1
  have p := mul_nn (a := bcU n o (j + 1)) (b := (bc n o j).2.2) c7 c8 (by omega) d'
  have q1 : (bc n o j).2.1 * bcD n (j + 1) ≤ 4320000000000000 * 900 := by
    rcases Int.lt_or_le (bc n o j).2.1 0 with h | h
    · have := Int.mul_nonneg (a := -(bc n o j).2.1) (b := bcD n (j + 1)) (by omega) (by omega)
      rw [Int.neg_mul] at this; omega
    · exact (mul_nn h u' (by omega) c6).2
  have q0 : -900 ≤ (bc n o j).2.1 * bcD n (j + 1) := by
    rcases Int.lt_or_le (bc n o j).2.1 0 with h | h
    · have e : (bc n o j).2.1 = -1 := by omega
      rw [e]; omega
    · have := Int.mul_nonneg h (show 0 ≤ bcD n (j + 1) by omega); omega
  rw [bcU_succ] at p
  rw [bcD_succ] at q0 q1 c5 c6
  simp only [sm, Int.natCast_add, Int.natCast_one] at c1 c2 c3 c4 ss tt
  constructor <;> omega
theorem bc_t {n : Nat} {o : Nat → Int} {j : Nat} (h : (bc n o j).2.1 * (((j : Int) + 1) * ((n : Int) - (j + 1))) < ((sm o j + o j) * (sm o j + o j) * ((n : Int) - (j + 1)) + (sm o n - (sm o j + o j)) * (sm o n - (sm o j + o j)) * ((j : Int) + 1)) * (bc n o j).2.2) :
    (bc n o (j + 1)).1 = (j : Int) + 1 ∧ (bc n o (j + 1)).2.1 = (sm o j + o j) * (sm o j + o j) * ((n : Int) - (j + 1)) + (sm o n - (sm o j + o j)) * (sm o n - (sm o j + o j)) * ((j : Int) + 1) ∧ (bc n o (j + 1)).2.2 = ((j : Int) + 1) * ((n : Int) - (j + 1)) := by
  simp only [bc]; rw [bcU_succ, bcD_succ, if_pos h]; exact ⟨rfl, rfl, rfl⟩
theorem bc_f {n : Nat} {o : Nat → Int} {j : Nat} (h : ¬ (bc n o j).2.1 * (((j : Int) + 1) * ((n : Int) - (j + 1))) < ((sm o j + o j) * (sm o j + o j) * ((n : Int) - (j + 1)) + (sm o n - (sm o j + o j)) * (sm o n - (sm o j + o j)) * ((j : Int) + 1)) * (bc n o j).2.2) :
    bc n o (j + 1) = bc n o j := by
  simp only [bc]; rw [bcU_succ, bcD_succ, if_neg h]
theorem bc_f' {n : Nat} {o : Nat → Int} {j : Nat} (h : ((sm o j + o j) * (sm o j + o j) * ((n : Int) - (j + 1)) + (sm o n - (sm o j + o j)) * (sm o n - (sm o j + o j)) * ((j : Int) + 1)) * (bc n o j).2.2 ≤ (bc n o j).2.1 * (((j : Int) + 1) * ((n : Int) - (j + 1)))) :
    bc n o (j + 1) = bc n o j := bc_f (by omega)
/-- code and place of the best change -/
def bcCode (n : Nat) (f o : Nat → Int) : Int := if rdV n f o then (if n < 2 then 6 else 0) else 1
def bcRes (n : Nat) (f o : Nat → Int) : Int := if bcCode n f o = 0 then (bc n o (n - 1)).1 else 0
/-- the reference's round -/
def bcN (n : Nat) (o : Nat → Int) (j : Nat) : Int := if j = 0 then 0 else (bc n o j).2.2 * sq o n - (bc n o j).2.1
end Go.Proofs.Ytmbpjlgeneemjaa

namespace Go.Proofs.Ytmbpjlgeneemjaa
set_option linter.unusedVariables false
set_option linter.unusedSimpArgs false
theorem OffB.le {n : Nat} {o : Nat → Int} (b : OffB n o) {k : Nat} (hk : k ≤ n) : OffB k o := ⟨by have := b.n60; omega, fun j hj => b.bo j (by omega)⟩
theorem spr_bd {n : Nat} {o : Nat → Int} (b : OffB n o) : -36000000000000 ≤ spr n o ∧ spr n o ≤ 36000000000000 := by
  have s := b.ss (Nat.le_refl n)
  have q := b.q (Nat.le_refl n)
  have h60 := b.n60
  have := mul_nn (a := (n : Int)) (A := 60) (by omega) (by omega) q.1 q.2
  unfold spr; omega
/-- the reference's term of a place -/
def rN (n : Nat) (o : Nat → Int) (j : Nat) : Int := spr (j + 1) o * ((n : Int) - (j + 1)) + spr (n - (j + 1)) (fun i => o (i + (j + 1))) * ((j : Int) + 1)
theorem rN_eq {n : Nat} {o : Nat → Int} {j : Nat} (hj : j + 1 < n) : rN n o j = ((j : Int) + 1) * ((n : Int) - (j + 1)) * sq o n - ((sm o j + o j) * (sm o j + o j) * ((n : Int) - (j + 1)) + (sm o n - (sm o j + o j)) * (sm o n - (sm o j + o j)) * ((j : Int) + 1)) := by
  have h := spr_sum (n := n) (o := o) (k := j + 1) (by omega)
  rw [bcD_succ, bcU_succ] at h
  simpa only [rN, Int.natCast_add, Int.natCast_one] using h
theorem bcN_bd {n : Nat} {o : Nat → Int} (b : OffB n o) {j : Nat} (hj : j < n) : -5000000000000000 ≤ bcN n o j ∧ bcN n o j ≤ 5000000000000000 := by
  have s := bst b hj
  have q := b.q (Nat.le_refl n)
  unfold bcN
  split
  · omega
  · have := mul_nn (by have := s.d0; omega) s.d1 q.1 q.2
    have := s.u0; have := s.u1
    omega
structure BR (n : Nat) (o : Nat → Int) (j : Nat) : Prop where
  a0 : -36000000000000 ≤ spr (j + 1) o
  a1 : spr (j + 1) o ≤ 36000000000000
  b0 : -36000000000000 ≤ spr (n - (j + 1)) (fun i => o (i + (j + 1)))
  b1 : spr (n - (j + 1)) (fun i => o (i + (j + 1))) ≤ 36000000000000
  c0 : -2160000000000000 ≤ spr (j + 1) o * ((n : Int) - (j + 1))
  c1 : spr (j + 1) o * ((n : Int) - (j + 1)) ≤ 2160000000000000
  d0 : -2160000000000000 ≤ spr (n - (j + 1)) (fun i => o (i + (j + 1))) * ((j : Int) + 1)
  d1 : spr (n - (j + 1)) (fun i => o (i + (j + 1))) * ((j : Int) + 1) ≤ 2160000000000000
  e0 : 0 ≤ ((j : Int) + 1) * ((n : Int) - (j + 1))
  e1 : ((j : Int) + 1) * ((n : Int) - (j + 1)) ≤ 900
  p0 : -4500000000000000000 ≤ (spr (j + 1) o * ((n : Int) - (j + 1)) + spr (n - (j + 1)) (fun i => o (i + (j + 1))) * ((j : Int) + 1)) * (bc n o j).2.2
  p1 : (spr (j + 1) o * ((n : Int) - (j + 1)) + spr (n - (j + 1)) (fun i => o (i + (j + 1))) * ((j : Int) + 1)) * (bc n o j).2.2 ≤ 4500000000000000000
  q0 : -4500000000000000000 ≤ bcN n o j * (((j : Int) + 1) * ((n : Int) - (j + 1)))
  q1 : bcN n o j * (((j : Int) + 1) * ((n : Int) - (j + 1))) ≤ 4500000000000000000
theorem br_of {n : Nat} {o : Nat → Int} (b : OffB n o) {j : Nat} (hj : j + 1 < n) : BR n o j := by
  have w := bw_of b hj
  have s := bst b (j := j) (by omega)
  have a := spr_bd (b.le (k := j + 1) (by omega))
  have c := spr_bd (b.tail (k := j + 1) (by omega))
  have h60 := b.n60
  have p := mul_bd (a := spr (j + 1) o) (b := (n : Int) - (j + 1)) (A := 36000000000000) (B := 60) (by omega) a.2 (by omega) (by omega)
  have q := mul_bd (a := spr (n - (j + 1)) (fun i => o (i + (j + 1)))) (b := (j : Int) + 1) (A := 36000000000000) (B := 60) (by omega) c.2 (by omega) (by omega)
  have d0 := s.d0
  have x := mul_bd (a := spr (j + 1) o * ((n : Int) - (j + 1)) + spr (n - (j + 1)) (fun i => o (i + (j + 1))) * ((j : Int) + 1)) (b := (bc n o j).2.2) (A := 4320000000000000) (B := 900) (by omega) (by omega) (by omega) s.d1
  have nb := bcN_bd b (j := j) (by omega)
  have y := mul_bd (a := bcN n o j) (b := ((j : Int) + 1) * ((n : Int) - (j + 1))) (A := 5000000000000000) (B := 900) (by omega) nb.2 (by have := w.d0; omega) w.d1
  exact ⟨a.1, a.2, c.1, c.2, by omega, by omega, by omega, by omega, w.d0, w.d1, by omega, by omega, by omega, by omega⟩
theorem bc_one {n : Nat} {o : Nat → Int} (b : OffB n o) (h1 : 0 + 1 < n) : (bc n o 0).2.1 * (((0 : Nat) : Int) + 1) * ((n : Int) - (((0 : Nat) : Int) + 1)) < 0 := by
  simp [bc]; omega
/-- which of the two is less: the reference's test and the program's -/
theorem cmp_eq {D S U d u : Int} : (D * S - U) * d < (d * S - u) * D ↔ u * D < U * d := by
  have e1 : (D * S - U) * d = D * S * d - U * d := Int.sub_mul _ _ _
  have e2 : (d * S - u) * D = d * S * D - u * D := Int.sub_mul _ _ _
  have e3 : D * S * d = d * S * D := by rw [Int.mul_comm (D * S) d, Int.mul_comm D S, ← Int.mul_assoc]
  omega
theorem bcN_succ_t {n : Nat} {o : Nat → Int} {j : Nat} (hj : j + 1 < n) (e2 : (bc n o (j + 1)).2.1 = (sm o j + o j) * (sm o j + o j) * ((n : Int) - (j + 1)) + (sm o n - (sm o j + o j)) * (sm o n - (sm o j + o j)) * ((j : Int) + 1)) (e3 : (bc n o (j + 1)).2.2 = ((j : Int) + 1) * ((n : Int) - (j + 1))) :
    spr (j + 1) o * ((n : Int) - (j + 1)) + spr (n - (j + 1)) (fun i => o (i + (j + 1))) * ((j : Int) + 1) = bcN n o (j + 1) := by
  have := rN_eq (o := o) hj
  unfold bcN; rw [if_neg (by omega), e2, e3]
  simpa only [rN] using this
/-- the round's outcomes: the first place; a better one; no better one -/
theorem r_first {n : Nat} {o : Nat → Int} (b : OffB n o) {j : Nat} (hj : j + 1 < n) (h0 : j = 0) :
    (bc n o (j + 1)).1 = (j : Int) + 1 ∧ (bc n o (j + 1)).2.2 = ((j : Int) + 1) * ((n : Int) - (j + 1)) ∧ spr (j + 1) o * ((n : Int) - (j + 1)) + spr (n - (j + 1)) (fun i => o (i + (j + 1))) * ((j : Int) + 1) = bcN n o (j + 1) := by
  have w := bw_of b hj
  have hlt : (bc n o j).2.1 * (((j : Int) + 1) * ((n : Int) - (j + 1))) < ((sm o j + o j) * (sm o j + o j) * ((n : Int) - (j + 1)) + (sm o n - (sm o j + o j)) * (sm o n - (sm o j + o j)) * ((j : Int) + 1)) * (bc n o j).2.2 := by
    have e := (bst b (j := j) (by omega)).i h0
    rw [e]
    have := w.b0; have := w.e0
    have : 0 < ((j : Int) + 1) * ((n : Int) - (j + 1)) := Int.mul_pos (by omega) (by omega)
    simp only [Int.mul_one]; omega
  obtain ⟨e1, e2, e3⟩ := bc_t hlt
  exact ⟨e1, e3, bcN_succ_t hj e2 e3⟩
theorem r_better {n : Nat} {o : Nat → Int} {j : Nat} (hj : j + 1 < n) (h0 : j ≠ 0)
    (h : (spr (j + 1) o * ((n : Int) - (j + 1)) + spr (n - (j + 1)) (fun i => o (i + (j + 1))) * ((j : Int) + 1)) * (bc n o j).2.2 < bcN n o j * (((j : Int) + 1) * ((n : Int) - (j + 1)))) :
    (bc n o (j + 1)).1 = (j : Int) + 1 ∧ (bc n o (j + 1)).2.2 = ((j : Int) + 1) * ((n : Int) - (j + 1)) ∧ spr (j + 1) o * ((n : Int) - (j + 1)) + spr (n - (j + 1)) (fun i => o (i + (j + 1))) * ((j : Int) + 1) = bcN n o (j + 1) := by
  have e := rN_eq (o := o) hj
  unfold rN at e
  rw [e] at h
  unfold bcN at h
  rw [if_neg h0] at h
  obtain ⟨e1, e2, e3⟩ := bc_t (cmp_eq.1 h)
  exact ⟨e1, e3, bcN_succ_t hj e2 e3⟩
theorem r_not {n : Nat} {o : Nat → Int} {j : Nat} (hj : j + 1 < n) (h0 : j ≠ 0)
    (h : bcN n o j * (((j : Int) + 1) * ((n : Int) - (j + 1))) ≤ (spr (j + 1) o * ((n : Int) - (j + 1)) + spr (n - (j + 1)) (fun i => o (i + (j + 1))) * ((j : Int) + 1)) * (bc n o j).2.2) :
    bc n o (j + 1) = bc n o j ∧ bcN n o (j + 1) = bcN n o j := by
  have e := rN_eq (o := o) hj
  unfold rN at e
  rw [e] at h
  have hb : bc n o (j + 1) = bc n o j := bc_f fun h2 => by
    have := cmp_eq (D := ((j : Int) + 1) * ((n : Int) - (j + 1))) (S := sq o n) (d := (bc n o j).2.2) (u := (bc n o j).2.1) |>.2 h2
    unfold bcN at h
    rw [if_neg h0] at h
    omega
  refine ⟨hb, ?_⟩
  unfold bcN; rw [hb, if_neg h0, if_neg (by omega)]
end Go.Proofs.Ytmbpjlgeneemjaa

namespace Go.Proofs.Ytmbpjlgeneemjaa
set_option linter.unusedVariables false
def eq1To (f g : Nat → Int) : Nat → Bool
  | 0 => true
  | k + 1 => eq1To f g k && (f k == g k)
theorem eq1To_ff {f g : Nat → Int} {k n : Nat} (hk : k < n) (hh : f k ≠ g k) : eq1To f g n = false := by
  induction n with
  | zero => omega
  | succ n ih =>
    by_cases e : k = n
    · subst e; simp [eq1To, hh]
    · simp only [eq1To, ih (by omega), Bool.false_and]
theorem eq1To_self {f : Nat → Int} {n : Nat} : eq1To f f n = true := by
  induction n with
  | zero => rfl
  | succ n ih => simp [eq1To, ih]
def absI (n : Int) : Int := if n < 0 then -n else n
end Go.Proofs.Ytmbpjlgeneemjaa

namespace Go.Proofs.Ytmbpjlgeneemjaa
open Go.RowKit
set_option linter.unusedVariables false
set_option linter.unusedSimpArgs false

theorem ret_abs {n q : Int} (h : q = absI n) : Ending.returned (.int .i64 q) = .returned (.int .i64 (absI n)) := by rw [h]
theorem abs_c (n : Int) (w : World) (h0 : -9223372036854775807 ≤ n) (h1 : n ≤ 9223372036854775807) :
    Calls Try.prog 51 #[.int .i64 n] w fun e w' => e = .returned (.int .i64 (absI n)) ∧ w = w' := by
  go_enter Try.func51, Try.ntmps51
  go_wp2
  all_goals (go_ret; exact ⟨ret_abs (by unfold absI; split <;> omega), rfl⟩)
theorem l02Size_c (n : Int) (w : World) (h0 : -9223372036854775807 ≤ n) (h1 : n ≤ 9223372036854775807) :
    Calls Try.prog 71 #[.int .i64 n] w fun e w' => e = .returned (.int .i64 (absI n)) ∧ w = w' := by
  go_enter Try.func71, Try.ntmps71
  go_wp2
  all_goals (go_ret; exact ⟨ret_abs (by unfold absI; split <;> omega), rfl⟩)
set_option maxHeartbeats 400000 in
theorem l02Near_c (n d : Int) (w : World) (hd : 0 < d) (hd1 : d ≤ 1000000000000000000) (h0 : -3000000000000000000 ≤ n) (h1 : n ≤ 3000000000000000000) :
    Calls Try.prog 58 #[.int .i64 n, .int .i64 d] w fun e w' => e = .returned (.int .i64 (nearD n d)) ∧ w = w' := by
  go_enter Try.func58, Try.ntmps58
  go_wp2_with (go_at_call 73; ((with_reducible refine (l02Down_c _ _ _ (by omega) (by omega) (by omega)).mono ?_); rintro e w' ⟨rfl, rfl⟩))
  go_ret
  exact ⟨rfl, rfl⟩
theorem toReadingS_o (a : Option Addr) (n c : Nat) (h o : Nat → Int) (w : World) (hn : n ≤ 1048576) (hs : S2 w a n h o) :
    Calls Try.prog 39 #[.slice a n c] w fun e w' => ∃ g xs, e = .returned (.slice (some ⟨g, 0, none⟩) n n) ∧ Ext w w' ∧ S2 w' (some ⟨g, 0, none⟩) n h o ∧ w'.ownsRow w.heap.size 33 2 (.slice (some ⟨g, 0, none⟩) n n) n xs :=
  (toReadingS_c a n c h o w hn hs).mono fun e w' ⟨cur, he, hx, hb, hz, hc⟩ => ⟨_, cur.toList, he, hx, C2.s2 hb hc, by simpa using hz, .inr ⟨_, n, cur, rfl, Nat.le_refl _, hb, Nat.le_refl _, by unfold maxLen; omega, hz, by rw [← hz]; exact List.take_of_length_le (by simp)⟩⟩
end Go.Proofs.Ytmbpjlgeneemjaa

namespace Go.Proofs.Ytmbpjlgeneemjaa
open Go.RowKit
set_option linter.unusedVariables false
set_option linter.unusedSimpArgs false

/-- A slice of bytes reads as 'f'. -/
def U8 (w : World) (a : Option Addr) (n : Nat) (f : Nat → Nat) : Prop :=
  0 < n → ∃ b off, a = some ⟨b, off, none⟩ ∧ b < w.heap.size ∧ ∀ j, j < n → w.cell? ⟨b, off + j, none⟩ = some (.int .u8 (f j : Nat))
theorem U8.ext {w w' : World} {a : Option Addr} {n : Nat} {f : Nat → Nat} (s : U8 w a n f) (e : Ext w w') : U8 w' a n f := fun hn => by
  obtain ⟨b, off, ha, hb, hc⟩ := s hn
  exact ⟨b, off, ha, Nat.lt_of_lt_of_le hb e.size, fun j hj => by rw [e.cell hb]; exact hc j hj⟩
theorem U8.at {w : World} {a : Option Addr} {n : Nat} {f : Nat → Nat} (s : U8 w a n f) {j : Nat} (hj : j < n) :
    ∃ b off, a = some ⟨b, off, none⟩ ∧ b < w.heap.size ∧ w.cell? ⟨b, off + j, none⟩ = some (.int .u8 (f j : Nat)) := by
  obtain ⟨b, off, ha, hb, hc⟩ := s (by omega)
  exact ⟨b, off, ha, hb, hc j hj⟩
theorem f6big_c (a : Option Addr) (n c : Nat) (w : World) : Calls Try.prog 9 #[.slice a n c] w fun e w' => e = .returned (.bool (decide (4096 < n))) ∧ w = w' := by
  go_enter Try.func9, Try.ntmps9
  go_wp2
  go_ret
  exact ⟨ret_bool (by simp; omega), rfl⟩
set_option maxHeartbeats 1000000 in
theorem f6roll_c (a : Option Addr) (n c : Nat) (f : Nat → Nat) (seed : Int) (w : World) (hn : n ≤ 1048576) (hs : U8 w a n f) :
    Calls Try.prog 13 #[.slice a n c, .int .u64 seed] w fun e w' => ∃ g hh, e = .returned (.pointer (some ⟨g, 0, none⟩)) ∧ Blk w' g 63 #[.slice a n c, .int .i64 0, .int .u64 hh] ∧ w.heap.size ≤ g ∧ Ext w w' := by
  have HS := Lib.hid hs
  clear hs
  go_enter Try.func13, Try.ntmps13
  go_wp2_with fail
  go_loopw [6] (fun i wr => ∃ (j : Nat) (hh : Int), j ≤ n ∧ i = .int .i64 (j : Int) ∧ Ext w wr ∧ Blk wr w.heap.size 63 #[.slice a n c, .int .i64 0, .int .u64 hh]) (fun i _ => n - (intOf i).toNat)
  case atStart => exact ⟨0, _, by omega, rfl, (by repeat (first | with_reducible exact Ext.refl _ | with_reducible assumption | with_reducible refine Ext.alloc ?_ _ | with_reducible refine Ext.drew ?_ | (with_reducible refine Ext.setAt ?_ _ _ _ ?_; rotate_left; omega) | with_reducible refine Ext.trans ?_ (by assumption) | with_reducible exact Past.bel _ | with_reducible refine Ext.trans ?_ (Past.bel _))), Blk.new _ _ _⟩
  case round =>
    obtain ⟨j, hh, hj, rfl, hbl, ho⟩ := hrel
    have HB := Lib.hid ho
    by_cases hlt : j < n
    · obtain ⟨b1, o1, rfl, hb1, q1⟩ := (HS.out.ext hbl).at hlt
      have c2 := ho.cell 2
      have f2 := ho.frozen 2
      have x0 : (0 : Int) ≤ (j : Int) := by omega
      have x1 : (j : Int) < (n : Int) := by omega
      clear ho
      go_wp2_with fail
      go_region
      all_goals (go_wp2_with fail; exact ⟨⟨j + 1, _, by omega, by go_num, (by repeat (first | with_reducible exact Ext.refl _ | with_reducible assumption | with_reducible refine Ext.alloc ?_ _ | with_reducible refine Ext.drew ?_ | (with_reducible refine Ext.setAt ?_ _ _ _ ?_; rotate_left; omega) | with_reducible refine Ext.trans ?_ (by assumption) | with_reducible exact Past.bel _ | with_reducible refine Ext.trans ?_ (Past.bel _))), HB.out.set 2 _⟩, by simp [intOf]; omega⟩)
    · go_wp2_with fail
      go_ret
      exact ⟨_, _, rfl, HB.out, Nat.le_refl _, (by repeat (first | with_reducible exact Ext.refl _ | with_reducible assumption | with_reducible refine Ext.alloc ?_ _ | with_reducible refine Ext.drew ?_ | (with_reducible refine Ext.setAt ?_ _ _ _ ?_; rotate_left; omega) | with_reducible refine Ext.trans ?_ (by assumption) | with_reducible exact Past.bel _ | with_reducible refine Ext.trans ?_ (Past.bel _)))⟩
theorem mask24 (E : Int) (h0 : 0 ≤ E) (h1 : E ≤ 18446744073709551615) : ∃ X, bits BinOp.and IntKind.u64 E 16777215 = X ∧ 0 ≤ X ∧ X ≤ 16777215 := by
  have h := bits_and_u64_nat E.toNat 16777215 (by omega) (by omega)
  rw [Int.toNat_of_nonneg h0] at h
  have := Nat.and_le_right (n := E.toNat) (m := 16777215)
  exact ⟨_, h, by omega, by omega⟩
theorem grown_drew {w w' : World} {row : Option Nat} (h : w.grownBy w' row) : w.grownBy w'.drew row := ⟨h.os, h.tape, h.output, h.size, h.block⟩
/-- what 'below' leaves of a dice -/
structure Dice (w : World) (g : Nat) (a : Option Addr) (n c : Nat) : Prop where
  blk : ∃ (i : Nat) (hh : Int), Blk w g 63 #[.slice a n c, .int .i64 i, .int .u64 hh] ∧ i ≤ n
set_option maxHeartbeats 2000000 in
theorem below_c (g : Nat) (a : Option Addr) (n c : Nat) (f : Nat → Nat) (m : Int) (w : World) (hm : 1 ≤ m) (hn : n ≤ 1048576) (hs : U8 w a n f) (hf : ∀ j, j < n → f j ≤ 255) (hd : Dice w g a n c) (hne : 0 < n → ∀ ad, a = some ad → ad.block ≠ g) :
    Calls Try.prog 14 #[.pointer (some ⟨g, 0, none⟩), .int .i64 m] w fun e w' => ∃ x : Int, e = .returned (.int .i64 x) ∧ 0 ≤ x ∧ x < m ∧ Dice w' g a n c ∧ w.grownBy w' (some g) := by
  obtain ⟨⟨i, hh, hb, hi⟩⟩ := hd
  have HB := Lib.hid hb
  have c0 := hb.cell 0
  have c1 := hb.cell 1
  have c2 := hb.cell 2
  have f1 := hb.frozen 1
  have f2 := hb.frozen 2
  clear hb
  obtain ⟨X, hX, X0, X1⟩ := mask24 (IntKind.u64.wrap (IntKind.u64.wrap (hh * 6364136223846793005) + 1442695040888963407) / 8589934592) (by rw [IntKind.wrap_u64]; omega) (by rw [IntKind.wrap_u64]; omega)
  have hw : wrap64 X = X := IntWalk.wrap64_in X (by omega)
  have k0 : ∀ u, (w.setCell ⟨g, 2, none⟩ u).cell? ⟨g, 0, none⟩ = some (.slice a n c) := fun u => by simp [go_sem, c0]
  have k1 : ∀ u, (w.setCell ⟨g, 2, none⟩ u).cell? ⟨g, 1, none⟩ = some (.int .i64 i) := fun u => by simp [go_sem, c1]
  have K0 := Lib.hid k0
  have K1 := Lib.hid k1
  clear k0 k1
  by_cases hlt : i < n
  · obtain ⟨b1, o1, rfl, hb1, q1⟩ := hs.at hlt
    have hg := hne (by omega) _ rfl
    simp only at hg
    have hfi := hf i hlt
    have k2 : ∀ u, (w.setCell ⟨g, 2, none⟩ u).cell? ⟨b1, o1 + i, none⟩ = some (.int .u8 (f i : Nat)) := fun u => by simp [go_sem, q1, hg]
    have K2 := Lib.hid k2
    clear k2
    have x0 : (0 : Int) ≤ (i : Int) := by omega
    have x1 : (i : Int) < (n : Int) := by omega
    have x2 : IntKind.i64.wrap (f i : Int) = (f i : Int) := IntWalk.i64_in _ (by omega)
    have x3 : IntKind.i64.wrap (X + (f i : Int)) = X + (f i : Int) := IntWalk.i64_in _ (by omega)
    have r0 := Int.tmod_nonneg m (show (0 : Int) ≤ X + (f i : Int) by omega)
    have r1 := Int.tmod_lt_of_pos (X + (f i : Int)) (show 0 < m by omega)
    go_enter Try.func14, Try.ntmps14
    go_wp2_with fail
    go_region_held3 (fun w' => w'.cell? ⟨g, 0, none⟩ = some (.slice (some ⟨b1, o1, none⟩) n c) ∧ w'.cell? ⟨g, 1, none⟩ = some (.int .i64 i)) (exact ⟨K0.out _, K1.out _⟩) (fail)
    go_wp2_with fail
    go_region_held3 (fun w' => w'.cell? ⟨g, 0, none⟩ = some (.slice (some ⟨b1, o1, none⟩) n c) ∧ w'.cell? ⟨g, 1, none⟩ = some (.int .i64 i) ∧ w'.cell? ⟨b1, o1 + i, none⟩ = some (.int .u8 (f i : Nat))) (exact ⟨K0.out _, K1.out _, K2.out _⟩) (fail)
    go_wp2_with fail
    go_ret
    refine ⟨(X + (f i : Int)) % m, rfl, Int.emod_nonneg _ (by omega), Int.emod_lt_of_pos _ (by omega), ⟨⟨i + 1, IntKind.u64.wrap (IntKind.u64.wrap (hh * 6364136223846793005) + 1442695040888963407), ?_, by omega⟩⟩, grown_drew (grown_drew (grown_trans (grown_set g 2 _) (grown_set g 1 _)))⟩
    exact (HB.out.set 2 (.int .u64 (IntKind.u64.wrap (IntKind.u64.wrap (hh * 6364136223846793005) + 1442695040888963407)))).set 1 (.int .i64 ((i : Int) + 1))
  · have x1 : (n : Int) ≤ (i : Int) := by omega
    have r0 := Int.tmod_nonneg m X0
    have r1 := Int.tmod_lt_of_pos X (show 0 < m by omega)
    go_enter Try.func14, Try.ntmps14
    go_wp2_with fail
    go_region_held3 (fun w' => w'.cell? ⟨g, 0, none⟩ = some (.slice a n c) ∧ w'.cell? ⟨g, 1, none⟩ = some (.int .i64 i)) (exact ⟨K0.out _, K1.out _⟩) (fail)
    go_wp2_with fail
    go_ret
    exact ⟨X % m, rfl, Int.emod_nonneg _ (by omega), Int.emod_lt_of_pos _ (by omega), ⟨⟨i, _, HB.out.set 2 _, by omega⟩⟩, grown_drew (grown_set g 2 _)⟩
end Go.Proofs.Ytmbpjlgeneemjaa

namespace Go.Proofs.Ytmbpjlgeneemjaa
open Go.RowKit
set_option linter.unusedVariables false
set_option linter.unusedSimpArgs false

/-- A source in block g: its bytes, at most K taken. -/
structure Src (w : World) (g : Nat) (a : Option Addr) (n c : Nat) (f : Nat → Nat) (K : Nat) : Prop where
  blk : ∃ (i : Nat) (hh : Int), Blk w g 78 #[.slice a n c, .int .i64 i, .int .u64 hh] ∧ i ≤ K
  byt : U8 w a n f
  far : 0 < n → ∀ ad, a = some ad → ad.block ≠ g
  low : ∀ j, j < n → f j ≤ 255
theorem mask8 (E : Int) (h0 : 0 ≤ E) (h1 : E ≤ 18446744073709551615) : ∃ X, bits BinOp.and IntKind.u64 E 255 = X ∧ 0 ≤ X ∧ X ≤ 255 := by
  have h := bits_and_u64_nat E.toNat 255 (by omega) (by omega)
  rw [Int.toNat_of_nonneg h0] at h
  have := Nat.and_le_right (n := E.toNat) (m := 255)
  exact ⟨_, h, by omega, by omega⟩
theorem U8.but {w w' : World} {a : Option Addr} {n g : Nat} {f : Nat → Nat} (s : U8 w a n f) (hg : w.grownBy w' (some g)) (hne : 0 < n → ∀ ad, a = some ad → ad.block ≠ g) : U8 w' a n f := fun hn => by
  obtain ⟨b, off, ha, hb, hc⟩ := s hn
  refine ⟨b, off, ha, Nat.lt_of_lt_of_le hb hg.size, fun j hj => ?_⟩
  rw [World.cell?_of_block (a := ⟨b, off + j, none⟩) (hg.block b hb (fun e => hne hn _ ha (by simpa using e)))]
  exact hc j hj
theorem l00From_c (a : Option Addr) (n c : Nat) (f : Nat → Nat) (w : World) (hs : U8 w a n f) (hl : ∀ j, j < n → f j ≤ 255) (hf : 0 < n → ∀ ad, a = some ad → ad.block < w.heap.size) :
    Calls Try.prog 46 #[.slice a n c] w fun e w' => e = .returned (.pointer (some ⟨w.heap.size, 0, none⟩)) ∧ Src w' w.heap.size a n c f 0 ∧ Ext w w' := by
  have HS := Lib.hid hs
  clear hs
  go_enter Try.func46, Try.ntmps46
  go_wp2
  go_ret
  exact ⟨rfl, ⟨⟨0, 0, Blk.new _ _ _, Nat.le_refl _⟩, HS.out.ext (by repeat (first | with_reducible exact Ext.refl _ | with_reducible assumption | with_reducible refine Ext.alloc ?_ _ | with_reducible refine Ext.drew ?_ | (with_reducible refine Ext.setAt ?_ _ _ _ ?_; rotate_left; omega) | with_reducible refine Ext.trans ?_ (by assumption) | with_reducible exact Past.bel _ | with_reducible refine Ext.trans ?_ (Past.bel _))), fun h0 ad ha => by have := hf h0 ad ha; omega, hl⟩, (by repeat (first | with_reducible exact Ext.refl _ | with_reducible assumption | with_reducible refine Ext.alloc ?_ _ | with_reducible refine Ext.drew ?_ | (with_reducible refine Ext.setAt ?_ _ _ _ ?_; rotate_left; omega) | with_reducible refine Ext.trans ?_ (by assumption) | with_reducible exact Past.bel _ | with_reducible refine Ext.trans ?_ (Past.bel _)))⟩
set_option maxHeartbeats 2000000 in
theorem next_c (g : Nat) (a : Option Addr) (n c : Nat) (f : Nat → Nat) (K : Nat) (w : World) (hn : n ≤ 1048576) (hK : K ≤ 1000000) (hd : Src w g a n c f K) :
    Calls Try.prog 74 #[.pointer (some ⟨g, 0, none⟩)] w fun e w' => ∃ x : Int, e = .returned (.int .i64 x) ∧ 0 ≤ x ∧ x ≤ 255 ∧ Src w' g a n c f (K + 1) ∧ w.grownBy w' (some g) := by
  obtain ⟨⟨i, hh, hb, hi⟩, hs, hne, hlo⟩ := hd
  have HB := Lib.hid hb
  have HS := Lib.hid hs
  have c0 := hb.cell 0
  have c1 := hb.cell 1
  have c2 := hb.cell 2
  have f1 := hb.frozen 1
  have f2 := hb.frozen 2
  clear hb
  have C0 := Lib.hid c0
  have C1 := Lib.hid c1
  have k0 : ∀ u v, ((w.setCell ⟨g, 1, none⟩ u).setCell ⟨g, 2, none⟩ v).cell? ⟨g, 0, none⟩ = some (.slice a n c) := fun u v => by simp [go_sem, c0]
  have k1 : ∀ u v, ((w.setCell ⟨g, 1, none⟩ u).setCell ⟨g, 2, none⟩ v).cell? ⟨g, 1, none⟩ = some u := fun u v => by simp [go_sem, c1]
  have K0 := Lib.hid k0
  have K1 := Lib.hid k1
  clear k0 k1
  have x3 : IntKind.i64.wrap ((i : Int) + 1) = (i : Int) + 1 := IntWalk.i64_in _ (by omega)
  by_cases hlt : i < n
  · obtain ⟨b1, o1, rfl, hb1, q1⟩ := hs.at hlt
    have hg := hne (by omega) _ rfl
    simp only at hg
    have hfi := hlo i hlt
    have x0 : (0 : Int) ≤ (i : Int) := by omega
    have x1 : (i : Int) < (n : Int) := by omega
    have x5 : (i : Int) + 1 ≤ (n : Int) := by omega
    have x2 : IntKind.i64.wrap (f i : Int) = (f i : Int) := IntWalk.i64_in _ (by omega)
    have HN := Lib.hid hne
    have HL := Lib.hid hlo
    clear hs hlo hne
    go_enter Try.func74, Try.ntmps74
    go_wp2_with fail
    go_region_held3 (fun w' => w'.cell? ⟨g, 0, none⟩ = some (.slice (some ⟨b1, o1, none⟩) n c) ∧ w'.cell? ⟨g, 1, none⟩ = some (.int .i64 i)) (exact ⟨C0.out, C1.out⟩) (fail)
    go_wp2_with fail
    go_region_held3 (fun w' => w'.cell? ⟨g, 0, none⟩ = some (.slice (some ⟨b1, o1, none⟩) n c) ∧ w'.cell? ⟨g, 1, none⟩ = some (.int .i64 i) ∧ w'.cell? ⟨b1, o1 + i, none⟩ = some (.int .u8 (f i : Nat))) (exact ⟨C0.out, C1.out, q1⟩) (fail)
    go_wp2_with fail
    go_region_held3 (fun w' => w'.cell? ⟨g, 0, none⟩ = some (.slice (some ⟨b1, o1, none⟩) n c) ∧ w'.cell? ⟨g, 1, none⟩ = some (.int .i64 ((i : Int) + 1))) (exact ⟨K0.out _ _, K1.out _ _⟩) (fail)
    go_wp2_with fail
    go_ret
    have hgr := grown_drew (grown_drew (grown_drew (grown_trans (grown_set (w := w) g 1 (.int .i64 ((i : Int) + 1))) (grown_set g 2 (.int .u64 (IntKind.u64.wrap (IntKind.u64.wrap (IntKind.u64.wrap (hh * 6364136223846793005) + (f i : Int)) + 1442695040888963407)))))))
    exact ⟨(f i : Int), rfl, by omega, by omega, ⟨⟨i + 1, IntKind.u64.wrap (IntKind.u64.wrap (IntKind.u64.wrap (hh * 6364136223846793005) + (f i : Int)) + 1442695040888963407), (HB.out.set 1 (.int .i64 ((i : Int) + 1))).set 2 (.int .u64 (IntKind.u64.wrap (IntKind.u64.wrap (IntKind.u64.wrap (hh * 6364136223846793005) + (f i : Int)) + 1442695040888963407))), by omega⟩, HS.out.but hgr HN.out, HN.out, HL.out⟩, hgr⟩
  · have x1 : (n : Int) ≤ (i : Int) := by omega
    have x5 : (n : Int) < (i : Int) + 1 := by omega
    obtain ⟨X, hX, X0, X1⟩ := mask8 (IntKind.u64.wrap (IntKind.u64.wrap (IntKind.u64.wrap (hh * 6364136223846793005)) + 1442695040888963407) / 1099511627776) (by rw [IntKind.wrap_u64]; omega) (by rw [IntKind.wrap_u64]; omega)
    have hw : wrap64 X = X := IntWalk.wrap64_in X (by omega)
    have HN := Lib.hid hne
    have HL := Lib.hid hlo
    clear hs hlo hne
    go_enter Try.func74, Try.ntmps74
    go_wp2_with fail
    go_region_held3 (fun w' => w'.cell? ⟨g, 0, none⟩ = some (.slice a n c) ∧ w'.cell? ⟨g, 1, none⟩ = some (.int .i64 i)) (exact ⟨C0.out, C1.out⟩) (fail)
    go_wp2_with fail
    go_region_held3 (fun w' => w'.cell? ⟨g, 0, none⟩ = some (.slice a n c) ∧ w'.cell? ⟨g, 1, none⟩ = some (.int .i64 ((i : Int) + 1))) (exact ⟨K0.out _ _, K1.out _ _⟩) (fail)
    go_wp2_with fail
    go_ret
    have hgr := grown_drew (grown_drew (grown_trans (grown_set (w := w) g 1 (.int .i64 ((i : Int) + 1))) (grown_set g 2 (.int .u64 (IntKind.u64.wrap (IntKind.u64.wrap (IntKind.u64.wrap (hh * 6364136223846793005)) + 1442695040888963407))))))
    exact ⟨X, rfl, X0, X1, ⟨⟨i + 1, IntKind.u64.wrap (IntKind.u64.wrap (IntKind.u64.wrap (hh * 6364136223846793005)) + 1442695040888963407), (HB.out.set 1 (.int .i64 ((i : Int) + 1))).set 2 (.int .u64 (IntKind.u64.wrap (IntKind.u64.wrap (IntKind.u64.wrap (hh * 6364136223846793005)) + 1442695040888963407))), by omega⟩, HS.out.but hgr HN.out, HN.out, HL.out⟩, hgr⟩
end Go.Proofs.Ytmbpjlgeneemjaa

namespace Go.Proofs.Ytmbpjlgeneemjaa
open Go.RowKit
set_option linter.unusedVariables false
set_option linter.unusedSimpArgs false

theorem grown_refl (w : World) (row : Option Nat) : w.grownBy w row := ⟨rfl, rfl, rfl, Nat.le_refl _, fun _ _ _ => rfl⟩
theorem Src.le {w : World} {g : Nat} {a : Option Addr} {n c : Nat} {f : Nat → Nat} {K L : Nat} (h : Src w g a n c f K) (hl : K ≤ L) : Src w g a n c f L := by
  obtain ⟨⟨i, hh, hb, hi⟩, hs, hne, hlo⟩ := h
  exact ⟨⟨i, hh, hb, by omega⟩, hs, hne, hlo⟩
set_option maxHeartbeats 1000000 in
theorem pick_c (g : Nat) (a : Option Addr) (n c : Nat) (f : Nat → Nat) (K : Nat) (m : Int) (w : World) (hn : n ≤ 1048576) (hK : K ≤ 999999) (hd : Src w g a n c f K) :
    Calls Try.prog 60 #[.pointer (some ⟨g, 0, none⟩), .int .i64 m] w fun e w' => ∃ x : Int, e = .returned (.int .i64 x) ∧ 0 ≤ x ∧ (x = 0 ∨ x < m) ∧ x ≤ 65535 ∧ Src w' g a n c f (K + 2) ∧ w.grownBy w' (some g) := by
  by_cases h1 : m ≤ 1
  · go_enter Try.func60, Try.ntmps60
    go_wp2
    go_ret
    exact ⟨0, rfl, by omega, .inl rfl, by omega, hd.le (by omega), grown_refl _ _⟩
  · by_cases h2 : 200 < m
    · go_enter Try.func60, Try.ntmps60
      go_wp2_with fail
      refine (next_c g a n c f K _ hn (by omega) hd).mono ?_
      rintro e w1 ⟨x, rfl, x0, x1, hs1, hg1⟩
      have e1 := IntWalk.i64_in (x * 256) (by omega)
      go_wp2_with fail
      refine (next_c g a n c f (K + 1) _ hn (by omega) hs1).mono ?_
      rintro e w2 ⟨y, rfl, y0, y1, hs2, hg2⟩
      have e2 := IntWalk.i64_in (x * 256 + y) (by omega)
      have e3 : wrap64 (x * 256) = x * 256 := IntWalk.wrap64_in _ (by omega)
      have e4 : wrap64 (x * 256 + y) = x * 256 + y := IntWalk.wrap64_in _ (by omega)
      go_wp2_with fail
      go_ret
      refine ⟨(x * 256 + y) % m, ?_, Int.emod_nonneg _ (by omega), .inr (Int.emod_lt_of_pos _ (by omega)), ?_, hs2, grown_trans hg1 hg2⟩
      · simp [go_sem]
      · have q1 := Int.mul_ediv_add_emod (x * 256 + y) m; have q2 := Int.mul_nonneg (show 0 ≤ m by omega) (Int.ediv_nonneg (show 0 ≤ x * 256 + y by omega) (show 0 ≤ m by omega)); omega
    · go_enter Try.func60, Try.ntmps60
      go_wp2_with fail
      refine (next_c g a n c f K _ hn (by omega) hd).mono ?_
      rintro e w1 ⟨x, rfl, x0, x1, hs1, hg1⟩
      go_wp2_with fail
      go_ret
      exact ⟨x % m, by simp [go_sem], Int.emod_nonneg _ (by omega), .inr (Int.emod_lt_of_pos _ (by omega)), by have := Int.emod_lt_of_pos x (show 0 < m by omega); omega, hs1.le (by omega), hg1⟩
theorem one_c (g : Nat) (a : Option Addr) (n c : Nat) (f : Nat → Nat) (K : Nat) (m : Int) (w : World) (hn : n ≤ 1048576) (hK : K ≤ 999999) (hd : Src w g a n c f K) :
    Calls Try.prog 61 #[.pointer (some ⟨g, 0, none⟩), .int .i64 m] w fun e w' => ∃ b : Bool, e = .returned (.bool b) ∧ Src w' g a n c f (K + 2) ∧ w.grownBy w' (some g) := by
  go_enter Try.func61, Try.ntmps61
  go_wp2_with fail
  refine (pick_c g a n c f K m _ hn hK hd).mono ?_
  rintro e w1 ⟨x, rfl, x0, x1, x2, hs1, hg1⟩
  go_wp2_with fail
  go_ret
  exact ⟨_, rfl, hs1, hg1⟩
theorem among_c (g : Nat) (a : Option Addr) (n c : Nat) (f : Nat → Nat) (K : Nat) (la : Option Addr) (ln lc : Nat) (z : Nat → Int) (w : World) (hn : n ≤ 1048576) (hK : K ≤ 999999) (hd : Src w g a n c f K) (hl : 1 ≤ ln) (hl2 : ln ≤ 1048576) (hs : S1 w la ln z) (hne : ∀ ad, la = some ad → ad.block ≠ g) :
    Calls Try.prog 62 #[.pointer (some ⟨g, 0, none⟩), .slice la ln lc] w fun e w' => ∃ j : Nat, e = .returned (.int .i64 (z j)) ∧ j < ln ∧ Src w' g a n c f (K + 2) ∧ w.grownBy w' (some g) := by
  go_enter Try.func62, Try.ntmps62
  go_wp2_with fail
  refine (pick_c g a n c f K ln _ hn hK hd).mono ?_
  rintro e w1 ⟨x, rfl, x0, x1, x2, hs1, hg1⟩
  obtain ⟨j, rfl⟩ := Int.eq_ofNat_of_zero_le x0
  have hj : j < ln := by omega
  obtain ⟨b, off, rfl, hb, hc⟩ := (hs.but hg1 (fun ad e => by have := hne ad e; simpa using this)).at hj
  have y0 : (0 : Int) ≤ (j : Int) := by omega
  have y1 : (j : Int) < (ln : Int) := by omega
  go_wp2_with fail
  go_ret
  exact ⟨j, by simp [go_sem], hj, hs1, hg1⟩
end Go.Proofs.Ytmbpjlgeneemjaa
