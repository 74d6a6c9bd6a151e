/- Years of a cycle: the reference's. -/
import Derived.Test.YtaamnmpbkdinpaaCW19
import Derived.Test.YtaamnmpbkdinpaaCPlain7
namespace Go.Proofs.Ytaamnmpbkdinpaa
open Go.RowKit
set_option linter.unusedVariables false
set_option linter.unusedSimpArgs false

set_option maxHeartbeats 2000000 in
theorem l15Years_c (a : Option Addr) (n c : Nat) (ev rs : Nat → Int) (lf : Nat → Bool) (w : World) (hn : n ≤ 1048576) (hs : R3 w a n ev rs lf) :
    Calls Try.prog 56 #[.slice a n c] w fun e w' => ∃ x b, e = .returned (.tuple #[.int .i64 x, .bool b]) ∧ YrR ev rs n x b ∧ Ext w w' := by
  have HS := Lib.hid hs
  clear hs
  go_enter Try.func56, Try.ntmps56
  go_wp2_with fail
  go_loopw [4, 5] (fun y i wr => ∃ j : Nat, j ≤ n ∧ i = .int .i64 j ∧ y = .int .i64 (cyY ev j) ∧ rulTo ev rs j = true ∧ cyY ev j ≤ 2000 ∧ Ext w wr) (fun _ i _ => n - (intOf i).toNat)
  case atStart => exact ⟨0, by omega, rfl, rfl, rfl, by simp [cyY], (by repeat (first | with_reducible exact Ext.refl _ | with_reducible assumption | with_reducible refine Ext.alloc ?_ _ | with_reducible refine Ext.drew ?_ | (with_reducible refine Ext.setAt ?_ _ _ _ ?_; rotate_left; omega) | with_reducible refine Ext.trans ?_ (by assumption) | with_reducible exact Past.bel _ | with_reducible refine Ext.trans ?_ (Past.bel _)))⟩
  case round =>
    obtain ⟨j, hj, rfl, rfl, hr, h2, hbl⟩ := hrel
    have HR := Lib.hid hr
    clear hr
    by_cases hlt : j < n
    · obtain ⟨b1, o1, rfl, hb1, q1, q2, q3⟩ := (R3.ext HS.out hbl).at hlt
      by_cases t1 : inB (ev j) 1 1000 = true
      · have t1' := inB_t.1 t1
        by_cases t2 : inB (rs j) 0 (ev j - 1) = true
        · have he : ∀ i, i < j + 1 → 1 ≤ ev i ∧ ev i ≤ 1000 := fun i hi => by
            by_cases e : i = j
            · subst e; exact t1'
            · exact (rulTo_at HR.out (show i < j by omega)).1
          obtain ⟨y0, y1, g0, d0, d1, p0, p1⟩ := cyS (ev := ev) (k := j) he
          have st : cyY ev (j + 1) = cyY ev j / gcdI (cyY ev j) (ev j) * ev j := by simp only [cyY]; rw [if_pos h2]
          have hr1 : rulTo ev rs (j + 1) = true := by simp only [rulTo, HR.out, t1, t2]; rfl
          have ST := Lib.hid st
          have HR1 := Lib.hid hr1
          obtain ⟨Y, hY⟩ : ∃ Y, Y = cyY ev j := ⟨_, rfl⟩
          rw [← hY] at y0 y1 g0 d0 d1 p0 p1 h2 ⊢
          obtain ⟨G, hG⟩ : ∃ G, G = gcdI Y (ev j) := ⟨_, rfl⟩
          rw [← hG] at g0 d0 d1 p0 p1
          have w1 := IntWalk.i64_in (Y / G) (by have := d1 h2; omega)
          have w2 := IntWalk.i64_in (Y / G * ev j) (by have := p1 h2; omega)
          have u1 : Y.tdiv G = Y / G := tdiv_nn (by omega)
          have cg : ∀ W, Calls Try.prog 61 #[.int .i64 Y, .int .i64 (ev j)] W fun e w' => e = .returned (.int .i64 G) ∧ W = w' := fun W => by
            rw [hG]; exact l02Gcd_c _ _ _ (by omega) (by omega) (by omega) (by omega)
          have CG := Lib.hid cg
          have HY := Lib.hid hY
          have HG := Lib.hid hG
          have hz : Y / G * ev j = cyY ev (j + 1) := by rw [st, ← hY, ← hG]
          have HZ := Lib.hid hz
          clear st cg hY hG hr1 hz he
          by_cases hbig : 2000 < Y / G * ev j
          · go_wp2_with fail
            refine wp_region_past (by kernel_rfl) (by kernel_rfl) ?_
            repeat (go_big_quiet_step ((go_at_call 44; exact Calls.past_same (l00In_c _ _ _ _))))
            refine wpQuiet_nil ?_
            rintro _ ⟨wx, rfl⟩
            go_wp2_with fail
            refine wp_region_past (by kernel_rfl) (by kernel_rfl) ?_
            repeat (go_big_quiet_step ((go_at_call 61; exact Calls.past_same (CG.out _))))
            refine wpQuiet_nil ?_
            rintro _ ⟨wx, rfl⟩
            go_wp2_with fail
            go_ret2
            exact ⟨_, _, rfl, ⟨(rulB_many (k := j + 1) (by omega) (by rw [← HZ.out]; exact hbig)).symm, fun e => by cases e⟩, (by repeat (first | with_reducible exact Ext.refl _ | with_reducible assumption | with_reducible refine Ext.alloc ?_ _ | with_reducible refine Ext.drew ?_ | (with_reducible refine Ext.setAt ?_ _ _ _ ?_; rotate_left; omega) | with_reducible refine Ext.trans ?_ (by assumption) | with_reducible exact Past.bel _ | with_reducible refine Ext.trans ?_ (Past.bel _)))⟩
          · go_wp2_with fail
            refine wp_region_past (by kernel_rfl) (by kernel_rfl) ?_
            repeat (go_big_quiet_step ((go_at_call 44; exact Calls.past_same (l00In_c _ _ _ _))))
            refine wpQuiet_nil ?_
            rintro _ ⟨wx, rfl⟩
            go_wp2_with fail
            refine wp_region_past (by kernel_rfl) (by kernel_rfl) ?_
            repeat (go_big_quiet_step ((go_at_call 61; exact Calls.past_same (CG.out _))))
            refine wpQuiet_nil ?_
            rintro _ ⟨wx, rfl⟩
            go_wp2_with fail
            exact ⟨⟨j + 1, by omega, by go_num, by rw [HZ.out], HR1.out, by rw [← HZ.out]; omega, (by repeat (first | with_reducible exact Ext.refl _ | with_reducible assumption | with_reducible refine Ext.alloc ?_ _ | with_reducible refine Ext.drew ?_ | (with_reducible refine Ext.setAt ?_ _ _ _ ?_; rotate_left; omega) | with_reducible refine Ext.trans ?_ (by assumption) | with_reducible exact Past.bel _ | with_reducible refine Ext.trans ?_ (Past.bel _)))⟩, by simp [intOf]; omega⟩
        · have t3 : inB (rs j) 0 (ev j - 1) = false := by simpa using t2
          clear t2
          go_wp2_with fail
          refine wp_region_past (by kernel_rfl) (by kernel_rfl) ?_
          repeat (go_big_quiet_step ((go_at_call 44; exact Calls.past_same (l00In_c _ _ _ _))))
          refine wpQuiet_nil ?_
          rintro _ ⟨wx, rfl⟩
          go_wp2_with fail
          go_ret2
          exact ⟨_, _, rfl, ⟨(rulB_bad hlt (by simp [t3])).symm, fun e => by cases e⟩, (by repeat (first | with_reducible exact Ext.refl _ | with_reducible assumption | with_reducible refine Ext.alloc ?_ _ | with_reducible refine Ext.drew ?_ | (with_reducible refine Ext.setAt ?_ _ _ _ ?_; rotate_left; omega) | with_reducible refine Ext.trans ?_ (by assumption) | with_reducible exact Past.bel _ | with_reducible refine Ext.trans ?_ (Past.bel _)))⟩
      · have t3 : inB (ev j) 1 1000 = false := by simpa using t1
        clear t1
        go_wp2_with fail
        refine wp_region_past (by kernel_rfl) (by kernel_rfl) ?_
        repeat (go_big_quiet_step ((go_at_call 44; exact Calls.past_same (l00In_c _ _ _ _))))
        refine wpQuiet_nil ?_
        rintro _ ⟨wx, rfl⟩
        go_wp2_with fail
        go_ret2
        exact ⟨_, _, rfl, ⟨(rulB_bad hlt (by simp [t3])).symm, fun e => by cases e⟩, (by repeat (first | with_reducible exact Ext.refl _ | with_reducible assumption | with_reducible refine Ext.alloc ?_ _ | with_reducible refine Ext.drew ?_ | (with_reducible refine Ext.setAt ?_ _ _ _ ?_; rotate_left; omega) | with_reducible refine Ext.trans ?_ (by assumption) | with_reducible exact Past.bel _ | with_reducible refine Ext.trans ?_ (Past.bel _)))⟩
    · obtain rfl : j = n := by omega
      by_cases h6 : j ≤ 6
      · have x6 : (j : Int) ≤ 6 := by omega
        go_wp2_with fail
        go_ret2
        exact ⟨_, _, rfl, ⟨by simp [rulB, HR.out, h2, h6], fun _ => rfl⟩, (by repeat (first | with_reducible exact Ext.refl _ | with_reducible assumption | with_reducible refine Ext.alloc ?_ _ | with_reducible refine Ext.drew ?_ | (with_reducible refine Ext.setAt ?_ _ _ _ ?_; rotate_left; omega) | with_reducible refine Ext.trans ?_ (by assumption) | with_reducible exact Past.bel _ | with_reducible refine Ext.trans ?_ (Past.bel _)))⟩
      · have x6 : ¬ (j : Int) ≤ 6 := by omega
        go_wp2_with fail
        go_ret2
        exact ⟨_, .inl ⟨rfl, ⟨by simp [rulB, h6], fun e => by cases e⟩, (by repeat (first | with_reducible exact Ext.refl _ | with_reducible assumption | with_reducible refine Ext.alloc ?_ _ | with_reducible refine Ext.drew ?_ | (with_reducible refine Ext.setAt ?_ _ _ _ ?_; rotate_left; omega) | with_reducible refine Ext.trans ?_ (by assumption) | with_reducible exact Past.bel _ | with_reducible refine Ext.trans ?_ (Past.bel _)))⟩⟩
end Go.Proofs.Ytaamnmpbkdinpaa
