/- The best change of a mean: the program's way and the reference's way. -/
import Derived.Test.YtfpbmceflpohnaaW6
import Derived.Test.YtfpbmceflpohnaaPlain5
namespace Go.Proofs.Ytfpbmceflpohnaa
open Go.RowKit
set_option linter.unusedVariables false
set_option linter.unusedSimpArgs false

theorem offB_of {n : Nat} {h o : Nat → Int} (r : RB n h o) : OffB n o := ⟨r.n60, r.bo⟩
theorem sq_succ (o : Nat → Int) (k : Nat) : sq o (k + 1) = sq o k + o k * o k := rfl
set_option maxHeartbeats 1000000 in
theorem l14Spread_c (a : Option Addr) (n c : Nat) (f o : Nat → Int) (w : World) (r : OffB n o) (hs : S2 w a n f o) :
    Calls Try.prog 71 #[.slice a n c] w fun e w' => e = .returned (.int .i64 (spr n o)) ∧ Ext w w' := by
  have HS := Lib.hid hs
  have hn := r.n60
  clear hs
  go_enter Try.func71, Try.ntmps71
  go_wp2_with fail
  go_loopw [3, 4, 5] (fun s q i wr => ∃ k : Nat, k ≤ n ∧ i = .int .i64 k ∧ Ext w wr ∧ s = .int .i64 (sm o k) ∧ q = .int .i64 (sq o k)) (fun _ _ i _ => n - (intOf i).toNat)
  case atStart => exact ⟨0, by omega, rfl, Ext.refl _, rfl, rfl⟩
  case round =>
    obtain ⟨k, hk, rfl, hbl, rfl, rfl⟩ := hrel
    obtain ⟨x0, x1⟩ := r.s hk
    obtain ⟨y0, y1⟩ := r.q hk
    by_cases hlt : k < n
    · obtain ⟨b1, o1, rfl, hb1, q1, q2⟩ := (S2.ext HS.out hbl).at hlt
      obtain ⟨z0, z1⟩ := r.oo hlt
      obtain ⟨g0, g1⟩ := r.bo k hlt
      have R := Lib.hid r
      clear r
      go_wp2_with fail
      refine wp_region_past (by kernel_rfl) (by kernel_rfl) ?_
      repeat (go_big_quiet_step (fail))
      refine wpQuiet_nil ?_
      rintro _ ⟨wx, rfl⟩
      go_wp2_with fail
      exact ⟨⟨k + 1, by omega, by go_num, (by repeat (first | with_reducible exact Ext.refl _ | with_reducible assumption | with_reducible refine Ext.alloc ?_ _ | with_reducible refine Ext.drew ?_ | (with_reducible refine Ext.setAt ?_ _ _ _ ?_; rotate_left; omega) | with_reducible refine Ext.trans ?_ (by assumption) | with_reducible exact Past.bel _ | with_reducible refine Ext.trans ?_ (Past.bel _))), rfl, rfl⟩, by simp [intOf]; omega⟩
    · obtain rfl : k = n := by omega
      obtain ⟨z0, z1⟩ := r.ss (Nat.le_refl k)
      have z2 : 0 ≤ (k : Int) * sq o k ∧ (k : Int) * sq o k ≤ 36000000000000 := by have := mul_nn (a := (k : Int)) (A := 60) (by omega) (by omega) y0 y1; omega
      obtain ⟨z2, z3⟩ := z2
      have R := Lib.hid r
      clear r
      go_wp2_with fail
      go_ret
      exact ⟨rfl, (by repeat (first | with_reducible exact Ext.refl _ | with_reducible assumption | with_reducible refine Ext.alloc ?_ _ | with_reducible refine Ext.drew ?_ | (with_reducible refine Ext.setAt ?_ _ _ _ ?_; rotate_left; omega) | with_reducible refine Ext.trans ?_ (by assumption) | with_reducible exact Past.bel _ | with_reducible refine Ext.trans ?_ (Past.bel _)))⟩
end Go.Proofs.Ytfpbmceflpohnaa
