/- The period of a cam. -/
import Derived.Test.YtjlfniabbahghaaCW2
import Derived.Test.YtjlfniabbahghaaCPlain5
namespace Go.Proofs.Ytjlfniabbahghaa
open Go.RowKit
set_option linter.unusedVariables false
set_option linter.unusedSimpArgs false

theorem S1.left {w : World} {a : Option Addr} {n k : Nat} {f : Nat → Int} (s : S1 w a n f) (hk : k ≤ n) : S1 w a k f := fun hp => by
  obtain ⟨b', off', e, hb, hc⟩ := s (by omega)
  exact ⟨b', off', e, hb, fun j hj => hc j (by omega)⟩
theorem S1.right {w : World} {b off n k : Nat} {f : Nat → Int} (s : S1 w (some ⟨b, off, none⟩) n f) (hk : k ≤ n) : S1 w (some ⟨b, off + k, none⟩) (n - k) (fun i => f (i + k)) := fun hp => by
  obtain ⟨b', off', e, hb, hc⟩ := s (by omega)
  simp only [Option.some.injEq, Addr.mk.injEq, and_true] at e
  obtain ⟨rfl, rfl⟩ := e
  refine ⟨b, _, rfl, hb, fun j hj => ?_⟩
  have := hc (j + k) (by omega)
  rw [show off + k + j = off + (j + k) by omega]
  exact this
set_option maxHeartbeats 400000 in
theorem slicesEqual_c (aa ab : Option Addr) (n ca cb : Nat) (f g : Nat → Int) (w : World) (hn : n ≤ 1048576) (ha : S1 w aa n f) (hb : S1 w ab n g) :
    Calls Try.prog 27 #[.slice aa n ca, .slice ab n cb] w fun e w' => e = .returned (.bool (eq1To f g n)) ∧ Ext w w' := by
  have HA := Lib.hid ha
  have HB := Lib.hid hb
  clear ha hb
  go_enter Try.func27, Try.ntmps27
  go_wp2_with fail
  go_loopw [13] (fun i wr => ∃ k : Nat, k ≤ n ∧ i = .int .i64 k ∧ Ext w wr ∧ eq1To f g k = true) (fun i _ => n - (intOf i).toNat)
  case atStart => exact ⟨0, by omega, rfl, Ext.refl _, rfl⟩
  case round =>
    obtain ⟨k, hk, rfl, hbl, heq⟩ := hrel
    have HE := Lib.hid heq
    clear heq
    by_cases hlt : k < n
    · obtain ⟨b1, o1, rfl, hb1, q1⟩ := (S1.ext HA.out hbl).at hlt
      obtain ⟨b2, o2, rfl, hb2, q3⟩ := (S1.ext HB.out hbl).at hlt
      by_cases hne : f k = g k
      · have hb0 : (f k != g k) = false := by simpa using hne
        have HN := Lib.hid hne
        clear hne
        go_wp2_with fail
        refine wp_region_past (by kernel_rfl) (by kernel_rfl) ?_
        repeat (go_big_quiet_step (fail))
        refine wpQuiet_nil ?_
        rintro _ ⟨wx, rfl⟩
        go_wp2_with fail
        exact ⟨⟨k + 1, by omega, by go_num, (by repeat (first | with_reducible exact Ext.refl _ | with_reducible assumption | with_reducible refine Ext.alloc ?_ _ | with_reducible refine Ext.drew ?_ | (with_reducible refine Ext.setAt ?_ _ _ _ ?_; rotate_left; omega) | with_reducible refine Ext.trans ?_ (by assumption) | with_reducible exact Past.bel _ | with_reducible refine Ext.trans ?_ (Past.bel _))), by simp [eq1To, HE.out, HN.out]⟩, by simp [intOf]; omega⟩
      · have hb0 : (f k != g k) = true := by simpa using hne
        have HN := Lib.hid hne
        clear hne
        go_wp2_with fail
        refine wp_region_past (by kernel_rfl) (by kernel_rfl) ?_
        repeat (go_big_quiet_step (fail))
        refine wpQuiet_nil ?_
        rintro _ ⟨wx, rfl⟩
        go_wp2_with fail
        go_ret
        exact ⟨ret_bool (by rw [eq1To_ff hlt HN.out]), (by repeat (first | with_reducible exact Ext.refl _ | with_reducible assumption | with_reducible refine Ext.alloc ?_ _ | with_reducible refine Ext.drew ?_ | (with_reducible refine Ext.setAt ?_ _ _ _ ?_; rotate_left; omega) | with_reducible refine Ext.trans ?_ (by assumption) | with_reducible exact Past.bel _ | with_reducible refine Ext.trans ?_ (Past.bel _)))⟩
    · obtain rfl : k = n := by omega
      go_wp2_with fail
      go_ret
      exact ⟨ret_bool (by simp [HE.out]), hbl⟩
set_option maxHeartbeats 2000000 in
theorem implCamPeriod_c (a : Option Addr) (n c : Nat) (z : Nat → Int) (w : World) (hn : n ≤ 1048576) (hnc : n ≤ c) (hcm : c ≤ maxLen) (hs : S1 w a n z) :
    Calls Try.prog 20 #[.slice a n c] w fun e w' => ∃ p k : Int, e = .returned (.tuple #[.int .i64 p, .int .i64 k]) ∧ PerR z n p k ∧ Ext w w' := by
  have HS := Lib.hid hs
  clear hs
  have hc' : (c : Int) ≤ 9223372036854775807 := by unfold maxLen at hcm; omega
  clear hcm
  by_cases hv : camV n z = true
  · have HV := Lib.hid hv
    have hn1 : 1 ≤ n := by
      have := hv
      simp only [camV, Bool.and_eq_true, inB_t] at this
      omega
    go_enter Try.func20, Try.ntmps20
    go_wp2_with (first | (go_at_call 9; ((with_reducible refine (validCam_c _ _ _ _ _ hn HS.out).mono ?_); rintro e w' ⟨rfl, rfl⟩)))
    go_loopw [4] (fun i wr => ∃ p : Nat, 1 ≤ p ∧ p ≤ n ∧ i = .int .i64 p ∧ Ext w wr ∧ ∀ q, 1 ≤ q → q < p → perB z n q = false) (fun i _ => n - (intOf i).toNat)
    case atStart => exact ⟨1, by omega, by omega, rfl, (by repeat (first | with_reducible exact Ext.refl _ | with_reducible assumption | with_reducible refine Ext.alloc ?_ _ | with_reducible refine Ext.drew ?_ | (with_reducible refine Ext.setAt ?_ _ _ _ ?_; rotate_left; omega) | with_reducible refine Ext.trans ?_ (by assumption) | with_reducible exact Past.bel _ | with_reducible refine Ext.trans ?_ (Past.bel _))), by omega⟩
    case round =>
      obtain ⟨p, hp1, hpn, rfl, hbl, hno⟩ := hrel
      have HNO := Lib.hid hno
      clear hno
      obtain ⟨b1, o1, rfl, hb1, q1⟩ := (S1.ext HS.out hbl).at (show 0 < n by omega)
      have hp2 : p ≤ c := by omega
      have y0 : (0 : Int) ≤ (p : Int) := by omega
      have y1 : (p : Int) ≤ (n : Int) := by omega
      have y2 : (n : Int) - (p : Int) = ((n - p : Nat) : Int) := by omega
      have y3 := IntWalk.i64_in ((n - p : Nat) : Int) (by omega)
      have SL := Lib.hid ((S1.ext HS.out hbl).left (k := n - p) (by omega))
      by_cases hck : c = p
      · subst hck
        obtain rfl : n = c := by omega
        go_wp2_with fail
        refine wp_region_past (by kernel_rfl) (by kernel_rfl) ?_
        repeat (go_big_quiet_step ((first | (go_at_call 27; exact Calls.past (slicesEqual_c _ _ 0 _ _ (fun _ => 0) (fun _ => 0) _ (by omega) (fun h => absurd h (Nat.lt_irrefl 0)) (fun h => absurd h (Nat.lt_irrefl 0)))))))
        refine wpQuiet_nil ?_
        rintro _ ⟨wx, rfl⟩
        go_wp2_with fail
        go_ret2
        exact ⟨_, _, rfl, PerR.yes HV.out ⟨by omega, by omega, perB_full _ _, HNO.out⟩, (by repeat (first | with_reducible exact Ext.refl _ | with_reducible assumption | with_reducible refine Ext.alloc ?_ _ | with_reducible refine Ext.drew ?_ | (with_reducible refine Ext.setAt ?_ _ _ _ ?_; rotate_left; omega) | with_reducible refine Ext.trans ?_ (by assumption) | with_reducible exact Past.bel _ | with_reducible refine Ext.trans ?_ (Past.bel _)))⟩
      · have SR := Lib.hid ((S1.ext HS.out hbl).right (k := p) (by omega))
        by_cases hb : eq1To (fun i => z (i + p)) z (n - p) = true
        · have HB := Lib.hid (show perB z n p = true from hb)
          go_wp2_with fail
          refine wp_region_past (by kernel_rfl) (by kernel_rfl) ?_
          repeat (go_big_quiet_step ((first | (go_at_call 27; exact Calls.past (slicesEqual_c _ _ _ _ _ _ _ _ (by omega) (SR.out.ext (Past.bel _)) (SL.out.ext (Past.bel _)))))))
          refine wpQuiet_nil ?_
          rintro _ ⟨wx, rfl⟩
          go_wp2_with fail
          go_ret2
          exact ⟨_, _, rfl, PerR.yes HV.out ⟨hp1, hpn, HB.out, HNO.out⟩, (by repeat (first | with_reducible exact Ext.refl _ | with_reducible assumption | with_reducible refine Ext.alloc ?_ _ | with_reducible refine Ext.drew ?_ | (with_reducible refine Ext.setAt ?_ _ _ _ ?_; rotate_left; omega) | with_reducible refine Ext.trans ?_ (by assumption) | with_reducible exact Past.bel _ | with_reducible refine Ext.trans ?_ (Past.bel _)))⟩
        · have hb' : eq1To (fun i => z (i + p)) z (n - p) = false := by simpa using hb
          have HB := Lib.hid (show perB z n p = false from hb')
          have hlt : p < n := by
            rcases Nat.lt_or_ge p n with h | h
            · exact h
            · obtain rfl : p = n := by omega
              have h1 := HB.out; rw [perB_full] at h1; cases h1
          clear hb
          go_wp2_with fail
          refine wp_region_past (by kernel_rfl) (by kernel_rfl) ?_
          repeat (go_big_quiet_step ((first | (go_at_call 27; exact Calls.past (slicesEqual_c _ _ _ _ _ _ _ _ (by omega) (SR.out.ext (Past.bel _)) (SL.out.ext (Past.bel _)))))))
          refine wpQuiet_nil ?_
          rintro _ ⟨wx, rfl⟩
          go_wp2_with fail
          exact ⟨⟨p + 1, by omega, by omega, by go_num, (by repeat (first | with_reducible exact Ext.refl _ | with_reducible assumption | with_reducible refine Ext.alloc ?_ _ | with_reducible refine Ext.drew ?_ | (with_reducible refine Ext.setAt ?_ _ _ _ ?_; rotate_left; omega) | with_reducible refine Ext.trans ?_ (by assumption) | with_reducible exact Past.bel _ | with_reducible refine Ext.trans ?_ (Past.bel _))), fun q h1 h2 => by
            rcases Nat.lt_succ_iff_lt_or_eq.1 h2 with h | rfl
            · exact HNO.out q h1 h
            · exact HB.out⟩, by simp [intOf]; omega⟩
  · have hf : camV n z = false := by simpa using hv
    have HV := Lib.hid hf
    go_enter Try.func20, Try.ntmps20
    go_wp2_with (first | (go_at_call 9; ((with_reducible refine (validCam_c _ _ _ _ _ hn HS.out).mono ?_); rintro e w' ⟨rfl, rfl⟩)))
    go_ret2
    exact ⟨_, _, rfl, PerR.nope HV.out, (by repeat (first | with_reducible exact Ext.refl _ | with_reducible assumption | with_reducible refine Ext.alloc ?_ _ | with_reducible refine Ext.drew ?_ | (with_reducible refine Ext.setAt ?_ _ _ _ ?_; rotate_left; omega) | with_reducible refine Ext.trans ?_ (by assumption) | with_reducible exact Past.bel _ | with_reducible refine Ext.trans ?_ (Past.bel _)))⟩
set_option maxHeartbeats 2000000 in
theorem specCamPeriod_c (a : Option Addr) (n c : Nat) (z : Nat → Int) (w : World) (hn : n ≤ 1048576) (hs : S1 w a n z) :
    Calls Try.prog 19 #[.slice a n c] w fun e w' => ∃ p k : Int, e = .returned (.tuple #[.int .i64 p, .int .i64 k]) ∧ PerR z n p k ∧ Ext w w' := by
  have HS := Lib.hid hs
  clear hs
  by_cases hv : camV n z = true
  · have HV := Lib.hid hv
    have hn1 : 1 ≤ n := by
      have := hv
      simp only [camV, Bool.and_eq_true, inB_t] at this
      omega
    go_enter Try.func19, Try.ntmps19
    go_wp2_with (first | (go_at_call 21; ((with_reducible refine (l17Ok_c _ _ _ _ _ hn HS.out).mono ?_); rintro e w' ⟨rfl, rfl⟩)))
    go_loopw [4] (fun i wr => ∃ p : Nat, 1 ≤ p ∧ p ≤ n ∧ i = .int .i64 p ∧ Ext w wr ∧ ∀ q, 1 ≤ q → q < p → perB z n q = false) (fun i _ => n - (intOf i).toNat)
    case atStart => exact ⟨1, by omega, by omega, rfl, (by repeat (first | with_reducible exact Ext.refl _ | with_reducible assumption | with_reducible refine Ext.alloc ?_ _ | with_reducible refine Ext.drew ?_ | (with_reducible refine Ext.setAt ?_ _ _ _ ?_; rotate_left; omega) | with_reducible refine Ext.trans ?_ (by assumption) | with_reducible exact Past.bel _ | with_reducible refine Ext.trans ?_ (Past.bel _))), by omega⟩
    case round =>
      obtain ⟨p, hp1, hpn, rfl, hbl, hno⟩ := hrel
      have HNO := Lib.hid hno
      clear hno
      by_cases hlt : p < n
      · go_wp2_with fail
        go_loopw [5, 6] (fun g i wq => ∃ j : Nat, j + p ≤ n ∧ i = .int .i64 j ∧ Ext w wq ∧ g = .bool (eq1To (fun i => z (i + p)) z j)) (fun _ i _ => n - (intOf i).toNat)
        case atStart => exact ⟨0, by omega, rfl, (by repeat (first | with_reducible exact Ext.refl _ | with_reducible assumption | with_reducible refine Ext.alloc ?_ _ | with_reducible refine Ext.drew ?_ | (with_reducible refine Ext.setAt ?_ _ _ _ ?_; rotate_left; omega) | with_reducible refine Ext.trans ?_ (by assumption) | with_reducible exact Past.bel _ | with_reducible refine Ext.trans ?_ (Past.bel _))), rfl⟩
        case round =>
          obtain ⟨j, hj, rfl, hbl2, rfl⟩ := hrel
          by_cases hjn : j + p < n
          · obtain ⟨b1, o1, rfl, hb1, q1⟩ := (S1.ext HS.out hbl2).at (show j < n by omega)
            obtain ⟨_, _, hh, _, q2⟩ := (S1.ext HS.out hbl2).at hjn
            obtain ⟨rfl, rfl⟩ := by simpa using hh
            obtain ⟨B, hB⟩ : ∃ B, B = eq1To (fun i => z (i + p)) z j := ⟨_, rfl⟩
            have x1 := IntWalk.i64_in ((j : Int) + (p : Int)) (by omega)
            have x2 : (j : Int) + (p : Int) < (n : Int) := by omega
            have x3 : (0 : Int) ≤ (j : Int) := by omega
            have x4 : (0 : Int) ≤ (j : Int) + (p : Int) := by omega
            have x5 : (j : Int) < (n : Int) := by omega
            rw [← hB]
            have HB := Lib.hid hB
            clear hB
            cases B
            · go_wp2_with fail
              refine wp_region_past (by kernel_rfl) (by kernel_rfl) ?_
              repeat (go_big_quiet_step (fail))
              refine wpQuiet_nil ?_
              rintro _ ⟨wx, rfl⟩
              go_wp2_with fail
              exact ⟨⟨j + 1, by omega, by go_num, (by repeat (first | with_reducible exact Ext.refl _ | with_reducible assumption | with_reducible refine Ext.alloc ?_ _ | with_reducible refine Ext.drew ?_ | (with_reducible refine Ext.setAt ?_ _ _ _ ?_; rotate_left; omega) | with_reducible refine Ext.trans ?_ (by assumption) | with_reducible exact Past.bel _ | with_reducible refine Ext.trans ?_ (Past.bel _))), congrArg _ (by rw [← eq1To_swap, ← HB.out]; rfl)⟩, by simp [intOf]; omega⟩
            · go_wp2_with fail
              refine wp_region_past (by kernel_rfl) (by kernel_rfl) ?_
              repeat (go_big_quiet_step (fail))
              refine wpQuiet_nil ?_
              rintro _ ⟨wx, rfl⟩
              go_wp2_with fail
              exact ⟨⟨j + 1, by omega, by go_num, (by repeat (first | with_reducible exact Ext.refl _ | with_reducible assumption | with_reducible refine Ext.alloc ?_ _ | with_reducible refine Ext.drew ?_ | (with_reducible refine Ext.setAt ?_ _ _ _ ?_; rotate_left; omega) | with_reducible refine Ext.trans ?_ (by assumption) | with_reducible exact Past.bel _ | with_reducible refine Ext.trans ?_ (Past.bel _))), congrArg _ (by rw [← eq1To_swap, ← HB.out]; simp)⟩, by simp [intOf]; omega⟩
          · have x1 := IntWalk.i64_in ((j : Int) + (p : Int)) (by omega)
            have x2 : ¬ (j : Int) + (p : Int) < (n : Int) := by omega
            have ej : j = n - p := by omega
            have e0 : eq1To (fun i => z (i + p)) z j = perB z n p := by unfold perB; rw [← ej]
            obtain ⟨B, hB⟩ : ∃ B, B = perB z n p := ⟨_, rfl⟩
            rw [e0, ← hB]
            have HB := Lib.hid hB
            clear hB e0 ej
            cases B
            · go_wp2_with fail
              exact ⟨⟨p + 1, by omega, by omega, by go_num, (by repeat (first | with_reducible exact Ext.refl _ | with_reducible assumption | with_reducible refine Ext.alloc ?_ _ | with_reducible refine Ext.drew ?_ | (with_reducible refine Ext.setAt ?_ _ _ _ ?_; rotate_left; omega) | with_reducible refine Ext.trans ?_ (by assumption) | with_reducible exact Past.bel _ | with_reducible refine Ext.trans ?_ (Past.bel _))), fun q h1 h2 => by
                rcases Nat.lt_succ_iff_lt_or_eq.1 h2 with h | rfl
                · exact HNO.out q h1 h
                · exact HB.out.symm⟩, by simp [intOf]; omega⟩
            · go_wp2_with fail
              go_ret2
              exact ⟨_, _, rfl, PerR.yes HV.out ⟨hp1, hpn, HB.out.symm, HNO.out⟩, (by repeat (first | with_reducible exact Ext.refl _ | with_reducible assumption | with_reducible refine Ext.alloc ?_ _ | with_reducible refine Ext.drew ?_ | (with_reducible refine Ext.setAt ?_ _ _ _ ?_; rotate_left; omega) | with_reducible refine Ext.trans ?_ (by assumption) | with_reducible exact Past.bel _ | with_reducible refine Ext.trans ?_ (Past.bel _)))⟩
      · obtain rfl : p = n := by omega
        go_wp2_with fail
        go_ret2
        exact ⟨_, _, rfl, PerR.yes HV.out ⟨by omega, by omega, perB_full _ _, HNO.out⟩, (by repeat (first | with_reducible exact Ext.refl _ | with_reducible assumption | with_reducible refine Ext.alloc ?_ _ | with_reducible refine Ext.drew ?_ | (with_reducible refine Ext.setAt ?_ _ _ _ ?_; rotate_left; omega) | with_reducible refine Ext.trans ?_ (by assumption) | with_reducible exact Past.bel _ | with_reducible refine Ext.trans ?_ (Past.bel _)))⟩
  · have hf : camV n z = false := by simpa using hv
    have HV := Lib.hid hf
    go_enter Try.func19, Try.ntmps19
    go_wp2_with (first | (go_at_call 21; ((with_reducible refine (l17Ok_c _ _ _ _ _ hn HS.out).mono ?_); rintro e w' ⟨rfl, rfl⟩)))
    go_ret2
    exact ⟨_, _, rfl, PerR.nope HV.out, (by repeat (first | with_reducible exact Ext.refl _ | with_reducible assumption | with_reducible refine Ext.alloc ?_ _ | with_reducible refine Ext.drew ?_ | (with_reducible refine Ext.setAt ?_ _ _ _ ?_; rotate_left; omega) | with_reducible refine Ext.trans ?_ (by assumption) | with_reducible exact Past.bel _ | with_reducible refine Ext.trans ?_ (Past.bel _)))⟩
set_option maxHeartbeats 400000 in
theorem walkCamPeriod (a : Option Addr) (n c : Nat) (z : Nat → Int) (hm : n ≤ maxLen) (w : World) (hs : S1 w a n z) :
    Calls Try.prog 6 #[.slice a n c] w fun e w' => e = .returned (.bool true) ∧ Ext w w' := by
  have HS := Lib.hid hs
  clear hs
  have hm' : (n : Int) ≤ 9223372036854775807 := by unfold maxLen at hm; omega
  clear hm
  by_cases hn : n ≤ 1048576
  · have h1 : ¬ (1048576 : Int) < n := by omega
    go_enter Try.func6, Try.ntmps6
    go_wp2_with fail
    refine (toInt64S_r _ _ _ _ _ hn HS.out).mono ?_
    rintro e w' ⟨g1, rfl, hx1, hs1⟩
    have HS1 := Lib.hid hs1
    clear hs1
    (first | (obtain ⟨wx1, rfl⟩ := Past.again hx1) | (obtain ⟨wx1, rfl⟩ := Past.of hx1))
    go_wp2_with fail
    refine (specCamPeriod_c _ _ _ _ _ hn HS1.out).mono ?_
    rintro e w' ⟨p, k, rfl, hp, hx2⟩
    (first | (obtain ⟨wx2, rfl⟩ := Past.again hx2) | (obtain ⟨wx2, rfl⟩ := Past.of hx2))
    go_wp2_with fail
    refine (toInt64S_r _ _ _ _ _ hn (HS.out.ext (by repeat (first | with_reducible exact Ext.refl _ | with_reducible assumption | with_reducible refine Ext.alloc ?_ _ | with_reducible refine Ext.drew ?_ | (with_reducible refine Ext.setAt ?_ _ _ _ ?_; rotate_left; omega) | with_reducible refine Ext.trans ?_ (by assumption) | with_reducible exact Past.bel _ | with_reducible refine Ext.trans ?_ (Past.bel _))))).mono ?_
    rintro e w' ⟨g3, rfl, hx3, hs3⟩
    have HS3 := Lib.hid hs3
    clear hs3
    (first | (obtain ⟨wx3, rfl⟩ := Past.again hx3) | (obtain ⟨wx3, rfl⟩ := Past.of hx3))
    go_wp2_with fail
    refine (implCamPeriod_c _ _ _ _ _ hn (Nat.le_refl _) (by unfold maxLen; omega) HS3.out).mono ?_
    rintro e w' ⟨p', k', rfl, hp', hx4⟩
    obtain ⟨rfl, rfl⟩ := hp.one hp'
    clear hp hp'
    (first | (obtain ⟨wx4, rfl⟩ := Past.again hx4) | (obtain ⟨wx4, rfl⟩ := Past.of hx4))
    go_wp2_with fail
    refine (toInt64S_r _ _ _ _ _ hn (HS.out.ext (by repeat (first | with_reducible exact Ext.refl _ | with_reducible assumption | with_reducible refine Ext.alloc ?_ _ | with_reducible refine Ext.drew ?_ | (with_reducible refine Ext.setAt ?_ _ _ _ ?_; rotate_left; omega) | with_reducible refine Ext.trans ?_ (by assumption) | with_reducible exact Past.bel _ | with_reducible refine Ext.trans ?_ (Past.bel _))))).mono ?_
    rintro e w' ⟨g5, rfl, hx5, hs5⟩
    have HS5 := Lib.hid hs5
    clear hs5
    (first | (obtain ⟨wx5, rfl⟩ := Past.again hx5) | (obtain ⟨wx5, rfl⟩ := Past.of hx5))
    go_wp2_with fail
    refine (eqInt64S_self _ _ _ _ _ _ _ hn (HS3.out.ext (by repeat (first | with_reducible exact Ext.refl _ | with_reducible assumption | with_reducible refine Ext.alloc ?_ _ | with_reducible refine Ext.drew ?_ | (with_reducible refine Ext.setAt ?_ _ _ _ ?_; rotate_left; omega) | with_reducible refine Ext.trans ?_ (by assumption) | with_reducible exact Past.bel _ | with_reducible refine Ext.trans ?_ (Past.bel _)))) HS5.out).mono ?_
    rintro e w' ⟨rfl, hx6⟩
    (first | (obtain ⟨wx6, rfl⟩ := Past.again hx6) | (obtain ⟨wx6, rfl⟩ := Past.of hx6))
    go_wp2_with fail
    go_ret
    exact ⟨rfl, (by repeat (first | with_reducible exact Ext.refl _ | with_reducible assumption | with_reducible refine Ext.alloc ?_ _ | with_reducible refine Ext.drew ?_ | (with_reducible refine Ext.setAt ?_ _ _ _ ?_; rotate_left; omega) | with_reducible refine Ext.trans ?_ (by assumption) | with_reducible exact Past.bel _ | with_reducible refine Ext.trans ?_ (Past.bel _)))⟩
  · have h1 : (1048576 : Int) < n := by omega
    go_enter Try.func6, Try.ntmps6
    go_wp2_with fail
    go_ret
    exact ⟨rfl, (by repeat (first | with_reducible exact Ext.refl _ | with_reducible assumption | with_reducible refine Ext.alloc ?_ _ | with_reducible refine Ext.drew ?_ | (with_reducible refine Ext.setAt ?_ _ _ _ ?_; rotate_left; omega) | with_reducible refine Ext.trans ?_ (by assumption) | with_reducible exact Past.bel _ | with_reducible refine Ext.trans ?_ (Past.bel _)))⟩
end Go.Proofs.Ytjlfniabbahghaa
