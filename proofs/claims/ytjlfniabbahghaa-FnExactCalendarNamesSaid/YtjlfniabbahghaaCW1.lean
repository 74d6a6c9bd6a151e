/- Dates compared. -/
import Derived.Test.YtjlfniabbahghaaCPlain3
import Derived.Test.YtjlfniabbahghaaMem2
import Derived.Test.YtjlfniabbahghaaProg
import Derived.ProofKit
import Derived.Deep.DeepCutAuto
namespace Go.Proofs.Ytjlfniabbahghaa
open Go.RowKit
set_option linter.unusedVariables false
set_option linter.unusedSimpArgs false

theorem within_c (n l h : Int) (w : World) :
    Calls Try.prog 22 #[.int .i64 n, .int .i64 l, .int .i64 h] w fun e w' => e = .returned (.bool (inB n l h)) ∧ w = w' := by
  go_enter Try.func22, Try.ntmps22
  go_wp2
  all_goals (go_ret; refine ⟨ret_bool ?_, rfl⟩; rw [Bool.eq_iff_iff]; simp [inB]; try omega)
theorem l00In_c (n l h : Int) (w : World) :
    Calls Try.prog 28 #[.int .i64 n, .int .i64 l, .int .i64 h] w fun e w' => e = .returned (.bool (inB n l h)) ∧ w = w' := by
  go_enter Try.func28, Try.ntmps28
  go_wp2
  all_goals (go_ret; refine ⟨ret_bool ?_, rfl⟩; rw [Bool.eq_iff_iff]; simp [inB]; try omega)
theorem l16Sign_c (a b : Int) (w : World) :
    Calls Try.prog 24 #[.int .i64 a, .int .i64 b] w fun e w' => e = .returned (.int .i64 (sgn a b)) ∧ w = w' := by
  go_enter Try.func24, Try.ntmps24
  go_wp2
  all_goals (go_ret; refine ⟨ret_i64 ?_, rfl⟩; unfold sgn; first | omega | (simp_all; try omega))
theorem isNaN_c (a : Int) (w : World) : Calls Try.prog 29 #[.int .i64 a] w fun e w' => e = .returned (.bool false) ∧ w = w' := by
  go_enter Try.func29, Try.ntmps29
  go_wp2
  go_ret
  exact ⟨ret_bool (by simp), rfl⟩
theorem compare_c (a b : Int) (w : World) : Calls Try.prog 26 #[.int .i64 a, .int .i64 b] w fun e w' => e = .returned (.int .i64 (sgn a b)) ∧ w = w' := by
  go_enter Try.func26, Try.ntmps26
  go_wp2_with (go_at_call 29; ((with_reducible refine (isNaN_c _ _).mono ?_); rintro e w' ⟨rfl, rfl⟩))
  all_goals (go_ret; refine ⟨ret_i64 ?_, rfl⟩; unfold sgn; first | omega | (simp_all; try omega))
theorem cmpOr_c (a : Option Addr) (n c : Nat) (z : Nat → Int) (w : World) (hn : n ≤ 1048576) (hs : S1 w a n z) :
    Calls Try.prog 25 #[.slice a n c] w fun e w' => e = .returned (.int .i64 (orV z n)) ∧ w = w' := by
  have HS := Lib.hid hs
  clear hs
  go_enter Try.func25, Try.ntmps25
  go_wp2_with fail
  go_loop [8] (fun i => ∃ j : Nat, j ≤ n ∧ i = .int .i64 j ∧ ∀ k, k < j → z k = 0) (fun i => n - (intOf i).toNat)
  case atStart => exact ⟨0, by omega, rfl, by omega⟩
  case round =>
    obtain ⟨j, hj, rfl, hz⟩ := hrel
    have HZ := Lib.hid hz
    clear hz
    by_cases hlt : j < n
    · obtain ⟨b, off, rfl, hb, hc⟩ := HS.out.at hlt
      by_cases h0 : z j = 0
      · have e0 : (z j != 0) = false := by simpa using h0
        go_wp2_with fail
        exact ⟨⟨j + 1, by omega, by go_num, fun k hk => by
          rcases Nat.lt_succ_iff_lt_or_eq.1 hk with h | rfl
          · exact HZ.out k h
          · exact h0⟩, by simp [intOf]; omega⟩
      · have e0 : (z j != 0) = true := by simpa using h0
        go_wp2_with fail
        go_ret
        exact ⟨ret_i64 (orV_hit hlt HZ.out h0).symm, rfl⟩
    · obtain rfl : j = n := by omega
      go_wp2_with fail
      go_ret
      exact ⟨ret_i64 (orV_zero HZ.out).symm, rfl⟩
theorem toDate_c (y m d : Int) (w : World) :
    Calls Try.prog 17 #[.agg #[.int .i64 y, .int .i64 m, .int .i64 d]] w fun e w' => e = .returned (.agg #[.int .i64 y, .int .i64 m, .int .i64 d]) ∧ Ext w w' := by
  go_enter Try.func17, Try.ntmps17
  go_wp2
  exact bodyPost_ret (v := .agg #[.int .i64 y, .int .i64 m, .int .i64 d]) (by simp [results, Try.results17, go_sem]) rfl ⟨rfl, (by repeat (first | with_reducible exact Ext.refl _ | with_reducible assumption | with_reducible refine Ext.alloc ?_ _ | with_reducible refine Ext.drew ?_ | (with_reducible refine Ext.setAt ?_ _ _ _ ?_; rotate_left; omega) | with_reducible refine Ext.trans ?_ (by assumption) | with_reducible exact Past.bel _ | with_reducible refine Ext.trans ?_ (Past.bel _)))⟩
theorem specCompareDate_c (y m d y' m' d' : Int) (w : World) :
    Calls Try.prog 16 #[.agg #[.int .i64 y, .int .i64 m, .int .i64 d], .agg #[.int .i64 y', .int .i64 m', .int .i64 d']] w fun e w' => e = .returned (.int .i64 (cmpD y m d y' m' d')) ∧ Ext w w' := by
  by_cases a : y = y'
  · have a' : (y != y') = false := by simpa using a
    by_cases b : m = m'
    · have b' : (m != m') = false := by simpa using b
      go_enter Try.func16, Try.ntmps16
      go_wp2_with (go_at_call 24; ((with_reducible refine (l16Sign_c _ _ _).mono ?_); rintro e w' ⟨rfl, rfl⟩))
      go_ret
      exact ⟨ret_i64 (by simp [cmpD, a, b]), (by repeat (first | with_reducible exact Ext.refl _ | with_reducible assumption | with_reducible refine Ext.alloc ?_ _ | with_reducible refine Ext.drew ?_ | (with_reducible refine Ext.setAt ?_ _ _ _ ?_; rotate_left; omega) | with_reducible refine Ext.trans ?_ (by assumption) | with_reducible exact Past.bel _ | with_reducible refine Ext.trans ?_ (Past.bel _)))⟩
    · have b' : (m != m') = true := by simpa using b
      go_enter Try.func16, Try.ntmps16
      go_wp2_with (go_at_call 24; ((with_reducible refine (l16Sign_c _ _ _).mono ?_); rintro e w' ⟨rfl, rfl⟩))
      go_ret
      exact ⟨ret_i64 (by simp [cmpD, a, b]), (by repeat (first | with_reducible exact Ext.refl _ | with_reducible assumption | with_reducible refine Ext.alloc ?_ _ | with_reducible refine Ext.drew ?_ | (with_reducible refine Ext.setAt ?_ _ _ _ ?_; rotate_left; omega) | with_reducible refine Ext.trans ?_ (by assumption) | with_reducible exact Past.bel _ | with_reducible refine Ext.trans ?_ (Past.bel _)))⟩
  · have a' : (y != y') = true := by simpa using a
    go_enter Try.func16, Try.ntmps16
    go_wp2_with (go_at_call 24; ((with_reducible refine (l16Sign_c _ _ _).mono ?_); rintro e w' ⟨rfl, rfl⟩))
    go_ret
    exact ⟨ret_i64 (by simp [cmpD, a]), (by repeat (first | with_reducible exact Ext.refl _ | with_reducible assumption | with_reducible refine Ext.alloc ?_ _ | with_reducible refine Ext.drew ?_ | (with_reducible refine Ext.setAt ?_ _ _ _ ?_; rotate_left; omega) | with_reducible refine Ext.trans ?_ (by assumption) | with_reducible exact Past.bel _ | with_reducible refine Ext.trans ?_ (Past.bel _)))⟩
set_option maxHeartbeats 2000000 in
theorem implCompareDate_c (y m d y' m' d' : Int) (w : World) :
    Calls Try.prog 18 #[.agg #[.int .i64 y, .int .i64 m, .int .i64 d], .agg #[.int .i64 y', .int .i64 m', .int .i64 d']] w fun e w' => e = .returned (.int .i64 (cmpD y m d y' m' d')) ∧ Ext w w' := by
  obtain ⟨z, h0, h1, h2⟩ : ∃ z : Nat → Int, z 0 = sgn y y' ∧ z 1 = sgn m m' ∧ z 2 = sgn d d' := ⟨fun j => if j = 0 then sgn y y' else if j = 1 then sgn m m' else sgn d d', rfl, rfl, rfl⟩
  have hv := cmpD_or h0 h1 h2
  have co : ∀ W g, W.cell? ⟨g, 0, none⟩ = some (.int .i64 (sgn y y')) → W.cell? ⟨g, 1, none⟩ = some (.int .i64 (sgn m m')) → W.cell? ⟨g, 2, none⟩ = some (.int .i64 (sgn d d')) → g < W.heap.size →
      Calls Try.prog 25 #[.slice (some ⟨g, 0, none⟩) 3 3] W fun e w' => e = .returned (.int .i64 (cmpD y m d y' m' d')) ∧ W = w' := fun W g c0 c1 c2 hg => by
    rw [← hv]
    refine cmpOr_c _ _ _ z _ (by omega) fun _ => ⟨g, 0, rfl, hg, fun j hj => ?_⟩
    obtain rfl | rfl | rfl : j = 0 ∨ j = 1 ∨ j = 2 := by omega
    · rw [h0]; exact c0
    · rw [h1]; exact c1
    · rw [h2]; exact c2
  have CO := Lib.hid co
  clear co h0 h1 h2 hv
  clear z
  go_enter Try.func18, Try.ntmps18
  go_wp2_with fail
  go_region_held3 (fun w' => w'.cell? ⟨w.heap.size, 0, none⟩ = some (.int .i64 y) ∧ w'.cell? ⟨w.heap.size, 1, none⟩ = some (.int .i64 m) ∧ w'.cell? ⟨w.heap.size, 2, none⟩ = some (.int .i64 d) ∧ w'.cell? ⟨w.heap.size + 1, 0, none⟩ = some (.int .i64 y') ∧ w'.cell? ⟨w.heap.size + 1, 1, none⟩ = some (.int .i64 m') ∧ w'.cell? ⟨w.heap.size + 1, 2, none⟩ = some (.int .i64 d')) (simp [go_sem]) (first | (go_at_call 26; ((with_reducible refine (compare_c _ _ _).mono ?_); rintro e w' ⟨rfl, rfl⟩)) | (go_at_call 25; ((with_reducible refine (CO.out _ _ (by simp [go_sem]) (by simp [go_sem]) (by simp [go_sem]) (by simp)).mono ?_); rintro e w' ⟨rfl, rfl⟩)))
  all_goals (go_wp2_with fail; go_ret; exact ⟨rfl, (by repeat (first | with_reducible exact Ext.refl _ | with_reducible assumption | with_reducible refine Ext.alloc ?_ _ | with_reducible refine Ext.drew ?_ | (with_reducible refine Ext.setAt ?_ _ _ _ ?_; rotate_left; omega) | with_reducible refine Ext.trans ?_ (by assumption) | with_reducible exact Past.bel _ | with_reducible refine Ext.trans ?_ (Past.bel _)))⟩)
theorem walkCompareDate (y m d y' m' d' : Int) (w : World) :
    Calls Try.prog 5 #[.agg #[.int .i64 y, .int .i64 m, .int .i64 d], .agg #[.int .i64 y', .int .i64 m', .int .i64 d']] w fun e w' => e = .returned (.bool true) ∧ Ext w w' := by
  have sk : ∀ W, Ext ((w.alloc (.cells #[.int .i64 y, .int .i64 m, .int .i64 d] 32)).alloc (.cells #[.int .i64 y', .int .i64 m', .int .i64 d'] 32)) W → (W.cell? ⟨w.heap.size, 0, none⟩ = some (.int .i64 y) ∧ W.cell? ⟨w.heap.size, 1, none⟩ = some (.int .i64 m) ∧ W.cell? ⟨w.heap.size, 2, none⟩ = some (.int .i64 d) ∧ W.cell? ⟨w.heap.size + 1, 0, none⟩ = some (.int .i64 y') ∧ W.cell? ⟨w.heap.size + 1, 1, none⟩ = some (.int .i64 m') ∧ W.cell? ⟨w.heap.size + 1, 2, none⟩ = some (.int .i64 d')) := fun W hx => by
    refine ⟨?_, ?_, ?_, ?_, ?_, ?_⟩ <;> (rw [hx.cell (by simp <;> omega)]; simp [go_sem])
  have SKD := Lib.hid sk
  clear sk
  go_enter Try.func5, Try.ntmps5
  go_wp2_with fail
  refine wp_region_past (by kernel_rfl) (by kernel_rfl) ?_
  repeat (go_big_quiet_step (first | (go_at_call 17; exact Calls.past (toDate_c _ _ _ _)) | (go_at_call 16; exact Calls.past (specCompareDate_c _ _ _ _ _ _ _))))
  refine wpQuiet_nil ?_
  rintro _ ⟨wx, rfl⟩
  obtain ⟨k0, k1, k2, k3, k4, k5⟩ := SKD.out wx.out (by repeat (first | with_reducible exact Ext.refl _ | with_reducible assumption | with_reducible refine Ext.alloc ?_ _ | with_reducible refine Ext.drew ?_ | (with_reducible refine Ext.setAt ?_ _ _ _ ?_; rotate_left; omega) | with_reducible refine Ext.trans ?_ (by assumption) | with_reducible exact Past.bel _ | with_reducible refine Ext.trans ?_ (Past.bel _)))
  have hz := wx.bel.size
  simp only [World.size_alloc] at hz
  have g0 : w.heap.size < wx.out.heap.size := by omega
  have g1 : w.heap.size + 1 < wx.out.heap.size := by omega
  go_wp2_with fail
  refine wp_region_past (by kernel_rfl) (by kernel_rfl) ?_
  repeat (go_big_quiet_step (first | (go_at_call 17; exact Calls.past (toDate_c _ _ _ _)) | (go_at_call 18; exact Calls.past (implCompareDate_c _ _ _ _ _ _ _))))
  refine wpQuiet_nil ?_
  rintro _ ⟨wx, rfl⟩
  go_wp2_with fail
  go_ret
  exact ⟨rfl, (by repeat (first | with_reducible exact Ext.refl _ | with_reducible assumption | with_reducible refine Ext.alloc ?_ _ | with_reducible refine Ext.drew ?_ | (with_reducible refine Ext.setAt ?_ _ _ _ ?_; rotate_left; omega) | with_reducible refine Ext.trans ?_ (by assumption) | with_reducible exact Past.bel _ | with_reducible refine Ext.trans ?_ (Past.bel _)))⟩
end Go.Proofs.Ytjlfniabbahghaa
