/- What the functions on single fits return: each walked once. -/
import Derived.Test.YtfpbmceflpohnaaProg
import Derived.Test.YtfpbmceflpohnaaAid
import Derived.Test.YtfpbmceflpohnaaPlain2
namespace Go.Proofs.Ytfpbmceflpohnaa
open Go.RowKit
set_option linter.unusedVariables false
set_option linter.unusedSimpArgs false

theorem within_c (n l h : Int) (w : World) :
    Calls Try.prog 57 #[.int .i64 n, .int .i64 l, .int .i64 h] w fun e w' => e = .returned (.bool (inB n l h)) ∧ w = w' := by
  go_enter Try.func57, Try.ntmps57
  go_wp2
  all_goals (go_ret; refine ⟨ret_bool ?_, rfl⟩; rw [Bool.eq_iff_iff]; simp [inB]; try omega)
theorem l00In_c (n l h : Int) (w : World) :
    Calls Try.prog 66 #[.int .i64 n, .int .i64 l, .int .i64 h] w fun e w' => e = .returned (.bool (inB n l h)) ∧ w = w' := by
  go_enter Try.func66, Try.ntmps66
  go_wp2
  all_goals (go_ret; refine ⟨ret_bool ?_, rfl⟩; rw [Bool.eq_iff_iff]; simp [inB]; try omega)

theorem floor_ret {n d q : Int} (hd : 0 < d) (h : q = n / d) : Ending.returned (.int .i64 q) = .returned (.int .i64 (n / d)) := by rw [h]
set_option maxHeartbeats 400000 in
theorem floorDiv_c (n d : Int) (w : World) (hd : 0 < d) (h0 : -9223372036854775807 ≤ n) (h1 : n ≤ 9223372036854775807) :
    Calls Try.prog 82 #[.int .i64 n, .int .i64 d] w fun e w' => e = .returned (.int .i64 (n / d)) ∧ w = w' := by
  have ht := Lib.hid (tdiv_floor (n := n) hd)
  have hb := ediv_bd hd (show -9223372036854775807 ≤ n by omega) h1 (by omega)
  have hd1 : 1 ≤ d := by omega
  have hz : (d == 0) = false := by simp; omega
  by_cases hm : n.tmod d < 0
  · have e : n.tdiv d = n / d + 1 := by rw [ht.out, if_pos hm]
    have hq : -9223372036854775807 ≤ n.tdiv d - 1 := by omega
    have hq' : n.tdiv d ≤ 9223372036854775807 := by
      have := Int.ediv_neg_of_neg_of_pos (show n < 0 by
        rcases Int.lt_or_le n 0 with h | h
        · exact h
        · have := Int.tmod_nonneg d h; omega) hd
      omega
    have E := Lib.hid e
    clear e
    go_enter Try.func82, Try.ntmps82
    go_wp2
    go_ret
    exact ⟨floor_ret hd (by have := E.out; omega), rfl⟩
  · have e : n.tdiv d = n / d := by rw [ht.out, if_neg hm]
    have E := Lib.hid e
    clear e
    go_enter Try.func82, Try.ntmps82
    go_wp2
    go_ret
    exact ⟨floor_ret hd (by have := E.out; omega), rfl⟩
set_option maxHeartbeats 400000 in
theorem l02Down_c (n d : Int) (w : World) (hd : 0 < d) (h0 : -9223372036854775807 ≤ n) (h1 : n ≤ 9223372036854775807) :
    Calls Try.prog 81 #[.int .i64 n, .int .i64 d] w fun e w' => e = .returned (.int .i64 (n / d)) ∧ w = w' := by
  have ht := Lib.hid (tdiv_floor (n := n) hd)
  have hb := ediv_bd hd (show -9223372036854775807 ≤ n by omega) h1 (by omega)
  have hd1 : 1 ≤ d := by omega
  have hz : (d == 0) = false := by simp; omega
  by_cases hm : n.tmod d < 0
  · have e : n.tdiv d = n / d + 1 := by rw [ht.out, if_pos hm]
    have hq : -9223372036854775807 ≤ n.tdiv d - 1 := by omega
    have hq' : n.tdiv d ≤ 9223372036854775807 := by
      have := Int.ediv_neg_of_neg_of_pos (show n < 0 by
        rcases Int.lt_or_le n 0 with h | h
        · exact h
        · have := Int.tmod_nonneg d h; omega) hd
      omega
    have E := Lib.hid e
    clear e
    go_enter Try.func81, Try.ntmps81
    go_wp2
    go_ret
    exact ⟨floor_ret hd (by have := E.out; omega), rfl⟩
  · have e : n.tdiv d = n / d := by rw [ht.out, if_neg hm]
    have E := Lib.hid e
    clear e
    go_enter Try.func81, Try.ntmps81
    go_wp2
    go_ret
    exact ⟨floor_ret hd (by have := E.out; omega), rfl⟩

theorem near_ret {n d q : Int} (hd : 0 < d) (h : q = if d - (n - n / d * d) ≤ n - n / d * d then n / d + 1 else n / d) : Ending.returned (.int .i64 q) = .returned (.int .i64 (nearD n d)) := by
  have e : n % d = n - n / d * d := by have := Int.mul_ediv_add_emod n d; rw [Int.mul_comm] at this; omega
  rw [h, nearD_eq hd, e]
set_option maxHeartbeats 400000 in
theorem nearestDiv_c (n d : Int) (w : World) (hd : 0 < d) (hd1 : d ≤ 1000000000000000000) (h0 : -8000000000000000000 ≤ n) (h1 : n ≤ 8000000000000000000) :
    Calls Try.prog 65 #[.int .i64 n, .int .i64 d] w fun e w' => e = .returned (.int .i64 (nearD n d)) ∧ w = w' := by
  obtain ⟨b0, b1⟩ := ediv_mul_bd (n := n) hd
  obtain ⟨q0, q1⟩ := ediv_bd (N := 8000000000000000000) hd h0 h1 (by omega)
  go_enter Try.func65, Try.ntmps65
  go_wp2_with (go_at_call 82; ((with_reducible refine (floorDiv_c _ _ _ (by omega) (by omega) (by omega)).mono ?_); rintro e w' ⟨rfl, rfl⟩))
  all_goals (go_ret; exact ⟨near_ret hd (by split <;> omega), rfl⟩)
set_option maxHeartbeats 400000 in
theorem l14Near_c (n d : Int) (w : World) (hd : 0 < d) (hd1 : d ≤ 1000000000000000000) (h0 : -8000000000000000000 ≤ n) (h1 : n ≤ 8000000000000000000) :
    Calls Try.prog 63 #[.int .i64 n, .int .i64 d] w fun e w' => e = .returned (.int .i64 (nearD n d)) ∧ w = w' := by
  obtain ⟨b0, b1⟩ := ediv_mul_bd (n := n) hd
  obtain ⟨q0, q1⟩ := ediv_bd (N := 8000000000000000000) hd h0 h1 (by omega)
  go_enter Try.func63, Try.ntmps63
  go_wp2_with (go_at_call 81; ((with_reducible refine (l02Down_c _ _ _ (by omega) (by omega) (by omega)).mono ?_); rintro e w' ⟨rfl, rfl⟩))
  all_goals (go_ret; exact ⟨near_ret hd (by split <;> omega), rfl⟩)

theorem toFit_c (c x y xx xy : Int) (w : World) :
    Calls Try.prog 18 #[.agg #[.int .i64 c, .int .i64 x, .int .i64 y, .int .i64 xx, .int .i64 xy]] w fun e w' => e = .returned (.agg #[.int .i64 c, .int .i64 x, .int .i64 y, .int .i64 xx, .int .i64 xy]) ∧ Ext w w' := by
  go_enter Try.func18, Try.ntmps18
  go_wp2
  exact bodyPost_ret (v := .agg #[.int .i64 c, .int .i64 x, .int .i64 y, .int .i64 xx, .int .i64 xy]) (by simp [results, Try.results18, go_sem]) rfl ⟨rfl, (by repeat (first | with_reducible exact Ext.refl _ | with_reducible assumption | with_reducible refine Ext.alloc ?_ _ | with_reducible refine Ext.drew ?_ | (with_reducible refine Ext.setAt ?_ _ _ _ ?_; rotate_left; omega) | with_reducible refine Ext.trans ?_ (by assumption) | with_reducible exact Past.bel _ | with_reducible refine Ext.trans ?_ (Past.bel _)))⟩
theorem vF_last {c x y xx xy : Int} (hc0 : 0 ≤ c) (hc1 : c ≤ 60) (h5 : (!inB c 0 60) = false) (h4 : inB x 0 (c * 10000) = true) (h3 : inB y (-c * 100000) (c * 100000) = true) (h2 : inB xx 0 (c * 10000 * 10000) = true)
    (h1 : inB xy (-c * 10000 * 100000) (c * 10000 * 100000) = true) : decide (wrap64 (x * x) ≤ wrap64 (c * xx)) = vF c x y xx xy := by
  have hx := inB_t.1 h4
  have hxx := inB_t.1 h2
  have p1 := mul_nn (A := 600000) (B := 600000) hx.1 (by omega) hx.1 (by omega)
  have p2 := mul_nn (A := 60) (B := 6000000000) hc0 (by omega) hxx.1 (by omega)
  rw [IntWalk.wrap64_in _ (by omega), IntWalk.wrap64_in _ (by omega)]
  simp_all [vF]
set_option maxHeartbeats 400000 in
theorem validFit_c (c x y xx xy : Int) (w : World) :
    Calls Try.prog 19 #[.agg #[.int .i64 c, .int .i64 x, .int .i64 y, .int .i64 xx, .int .i64 xy]] w fun e w' => e = .returned (.bool (vF c x y xx xy)) ∧ Ext w w' := by
  by_cases hc : 0 ≤ c ∧ c ≤ 60
  · obtain ⟨hc0, hc1⟩ := hc
    go_enter Try.func19, Try.ntmps19
    go_wp2_with (go_at_call 57; ((with_reducible refine (within_c _ _ _ _).mono ?_); rintro e w' ⟨rfl, rfl⟩))
    all_goals (go_ret; refine ⟨ret_bool ?_, (by repeat (first | with_reducible exact Ext.refl _ | with_reducible assumption | with_reducible refine Ext.alloc ?_ _ | with_reducible refine Ext.drew ?_ | (with_reducible refine Ext.setAt ?_ _ _ _ ?_; rotate_left; omega) | with_reducible refine Ext.trans ?_ (by assumption) | with_reducible exact Past.bel _ | with_reducible refine Ext.trans ?_ (Past.bel _)))⟩)
    all_goals first | (simp_all [vF]; done) | (rename_i h5 h4 h3 h2 h1; exact vF_last hc0 hc1 h5 h4 h3 h2 h1)
  · have hc' : inB c 0 60 = false := inB_f.2 hc
    go_enter Try.func19, Try.ntmps19
    go_wp2_with (go_at_call 57; ((with_reducible refine (within_c _ _ _ _).mono ?_); rintro e w' ⟨rfl, rfl⟩))
    all_goals (go_ret; refine ⟨ret_bool ?_, (by repeat (first | with_reducible exact Ext.refl _ | with_reducible assumption | with_reducible refine Ext.alloc ?_ _ | with_reducible refine Ext.drew ?_ | (with_reducible refine Ext.setAt ?_ _ _ _ ?_; rotate_left; omega) | with_reducible refine Ext.trans ?_ (by assumption) | with_reducible exact Past.bel _ | with_reducible refine Ext.trans ?_ (Past.bel _)))⟩)
    all_goals simp [vF, hc']
theorem vF_last' {c x y xx xy : Int} (hc0 : 0 ≤ c) (hc1 : c ≤ 60) (h5 : inB c 0 60 = true) (h4 : inB x 0 (c * 10000) = true) (h3 : (!inB y (-c * 100000) (c * 100000)) = false) (h2 : inB xx 0 (c * 10000 * 10000) = true)
    (h1 : inB xy (-(c * 10000 * 100000)) (c * 10000 * 100000) = true) : decide (wrap64 (x * x) ≤ wrap64 (c * xx)) = vF c x y xx xy :=
  vF_last hc0 hc1 (by simpa using h5) h4 (by simpa using h3) h2 (by simpa [Int.neg_mul] using h1)
set_option maxHeartbeats 400000 in
theorem l14FitOk_c (c x y xx xy : Int) (w : World) :
    Calls Try.prog 56 #[.agg #[.int .i64 c, .int .i64 x, .int .i64 y, .int .i64 xx, .int .i64 xy]] w fun e w' => e = .returned (.bool (vF c x y xx xy)) ∧ Ext w w' := by
  by_cases hc : 0 ≤ c ∧ c ≤ 60
  · obtain ⟨hc0, hc1⟩ := hc
    go_enter Try.func56, Try.ntmps56
    go_wp2_with (go_at_call 66; ((with_reducible refine (l00In_c _ _ _ _).mono ?_); rintro e w' ⟨rfl, rfl⟩))
    all_goals (go_ret; refine ⟨ret_bool ?_, (by repeat (first | with_reducible exact Ext.refl _ | with_reducible assumption | with_reducible refine Ext.alloc ?_ _ | with_reducible refine Ext.drew ?_ | (with_reducible refine Ext.setAt ?_ _ _ _ ?_; rotate_left; omega) | with_reducible refine Ext.trans ?_ (by assumption) | with_reducible exact Past.bel _ | with_reducible refine Ext.trans ?_ (Past.bel _)))⟩)
    all_goals first | (simp_all [vF, Int.neg_mul]; done) | (rename_i h5 h4 h3 h2 h1; exact vF_last' hc0 hc1 h5 h4 h3 h2 h1)
  · have hc' : inB c 0 60 = false := inB_f.2 hc
    go_enter Try.func56, Try.ntmps56
    go_wp2_with (go_at_call 66; ((with_reducible refine (l00In_c _ _ _ _).mono ?_); rintro e w' ⟨rfl, rfl⟩))
    all_goals (go_ret; refine ⟨ret_bool ?_, (by repeat (first | with_reducible exact Ext.refl _ | with_reducible assumption | with_reducible refine Ext.alloc ?_ _ | with_reducible refine Ext.drew ?_ | (with_reducible refine Ext.setAt ?_ _ _ _ ?_; rotate_left; omega) | with_reducible refine Ext.trans ?_ (by assumption) | with_reducible exact Past.bel _ | with_reducible refine Ext.trans ?_ (Past.bel _)))⟩)
    all_goals simp [vF, hc']
theorem specValidFit_c (c x y xx xy : Int) (w : World) :
    Calls Try.prog 17 #[.agg #[.int .i64 c, .int .i64 x, .int .i64 y, .int .i64 xx, .int .i64 xy]] w fun e w' => e = .returned (.bool (vF c x y xx xy)) ∧ Ext w w' := by
  go_enter Try.func17, Try.ntmps17
  go_wp2_with (go_at_call 56; ((with_reducible refine (l14FitOk_c _ _ _ _ _ _).mono ?_); rintro e w' ⟨rfl, hx⟩; (first | (obtain ⟨wx, rfl⟩ := Past.again hx) | (obtain ⟨wx, rfl⟩ := Past.ofd hx) | (obtain ⟨wx, rfl⟩ := Past.of hx))))
  go_ret
  exact ⟨rfl, (by repeat (first | with_reducible exact Ext.refl _ | with_reducible assumption | with_reducible refine Ext.alloc ?_ _ | with_reducible refine Ext.drew ?_ | (with_reducible refine Ext.setAt ?_ _ _ _ ?_; rotate_left; omega) | with_reducible refine Ext.trans ?_ (by assumption) | with_reducible exact Past.bel _ | with_reducible refine Ext.trans ?_ (Past.bel _)))⟩
set_option maxHeartbeats 400000 in
theorem slopeOf_c (c x y xx xy : Int) (f : FB c x y xx xy) (w : World) :
    Calls Try.prog 64 #[.agg #[.int .i64 c, .int .i64 x, .int .i64 y, .int .i64 xx, .int .i64 xy]] w fun e w' => e = .returned (.tuple #[.int .i64 (slN c x y xx xy), .int .i64 (slD c x y xx xy)]) ∧ Ext w w' := by
  obtain ⟨a0, a1⟩ := f.cxy
  obtain ⟨b0, b1⟩ := f.xy
  obtain ⟨c0, c1⟩ := f.cxx
  obtain ⟨d0, d1⟩ := f.xx
  clear f
  go_enter Try.func64, Try.ntmps64
  go_wp2_with fail
  refine wp_region_past (by kernel_rfl) (by kernel_rfl) ?_
  repeat (go_big_quiet_step (fail))
  refine wpQuiet_nil ?_
  rintro _ ⟨wx, rfl⟩
  go_wp2_with fail
  go_ret2
  exact ⟨rfl, (by repeat (first | with_reducible exact Ext.refl _ | with_reducible assumption | with_reducible refine Ext.alloc ?_ _ | with_reducible refine Ext.drew ?_ | (with_reducible refine Ext.setAt ?_ _ _ _ ?_; rotate_left; omega) | with_reducible refine Ext.trans ?_ (by assumption) | with_reducible exact Past.bel _ | with_reducible refine Ext.trans ?_ (Past.bel _)))⟩
set_option maxHeartbeats 400000 in
theorem l14Slope_c (c x y xx xy : Int) (f : FB c x y xx xy) (w : World) :
    Calls Try.prog 62 #[.agg #[.int .i64 c, .int .i64 x, .int .i64 y, .int .i64 xx, .int .i64 xy]] w fun e w' => e = .returned (.tuple #[.int .i64 (slN c x y xx xy), .int .i64 (slD c x y xx xy)]) ∧ Ext w w' := by
  obtain ⟨a0, a1⟩ := f.cxy
  obtain ⟨b0, b1⟩ := f.xy
  obtain ⟨c0, c1⟩ := f.cxx
  obtain ⟨d0, d1⟩ := f.xx
  clear f
  go_enter Try.func62, Try.ntmps62
  go_wp2_with fail
  refine wp_region_past (by kernel_rfl) (by kernel_rfl) ?_
  repeat (go_big_quiet_step (fail))
  refine wpQuiet_nil ?_
  rintro _ ⟨wx, rfl⟩
  go_wp2_with fail
  go_ret2
  exact ⟨rfl, (by repeat (first | with_reducible exact Ext.refl _ | with_reducible assumption | with_reducible refine Ext.alloc ?_ _ | with_reducible refine Ext.drew ?_ | (with_reducible refine Ext.setAt ?_ _ _ _ ?_; rotate_left; omega) | with_reducible refine Ext.trans ?_ (by assumption) | with_reducible exact Past.bel _ | with_reducible refine Ext.trans ?_ (Past.bel _)))⟩
set_option maxHeartbeats 400000 in
theorem l14Code_c (c x y xx xy : Int) (w : World) :
    Calls Try.prog 61 #[.agg #[.int .i64 c, .int .i64 x, .int .i64 y, .int .i64 xx, .int .i64 xy]] w fun e w' => e = .returned (.int .i64 (codeF c x y xx xy)) ∧ Ext w w' := by
  by_cases hv : vF c x y xx xy = true
  · have f := vF_fb hv
    go_enter Try.func61, Try.ntmps61
    go_wp2_with (first | (go_at_call 56; ((with_reducible refine (l14FitOk_c _ _ _ _ _ _).mono ?_); rintro e w' ⟨rfl, hx⟩; (first | (obtain ⟨wx, rfl⟩ := Past.again hx) | (obtain ⟨wx, rfl⟩ := Past.ofd hx) | (obtain ⟨wx, rfl⟩ := Past.of hx)))) | (go_at_call 62; ((with_reducible refine (l14Slope_c _ _ _ _ _ f _).mono ?_); rintro e w' ⟨rfl, hx⟩; (first | (obtain ⟨wx, rfl⟩ := Past.again hx) | (obtain ⟨wx, rfl⟩ := Past.ofd hx) | (obtain ⟨wx, rfl⟩ := Past.of hx)))))
    all_goals (go_ret; refine ⟨ret_i64 ?_, (by repeat (first | with_reducible exact Ext.refl _ | with_reducible assumption | with_reducible refine Ext.alloc ?_ _ | with_reducible refine Ext.drew ?_ | (with_reducible refine Ext.setAt ?_ _ _ _ ?_; rotate_left; omega) | with_reducible refine Ext.trans ?_ (by assumption) | with_reducible exact Past.bel _ | with_reducible refine Ext.trans ?_ (Past.bel _)))⟩)
    all_goals simp_all [codeF]
  · have hv' : vF c x y xx xy = false := by simpa using hv
    go_enter Try.func61, Try.ntmps61
    go_wp2_with (go_at_call 56; ((with_reducible refine (l14FitOk_c _ _ _ _ _ _).mono ?_); rintro e w' ⟨rfl, hx⟩; (first | (obtain ⟨wx, rfl⟩ := Past.again hx) | (obtain ⟨wx, rfl⟩ := Past.ofd hx) | (obtain ⟨wx, rfl⟩ := Past.of hx))))
    all_goals (go_ret; refine ⟨ret_i64 ?_, (by repeat (first | with_reducible exact Ext.refl _ | with_reducible assumption | with_reducible refine Ext.alloc ?_ _ | with_reducible refine Ext.drew ?_ | (with_reducible refine Ext.setAt ?_ _ _ _ ?_; rotate_left; omega) | with_reducible refine Ext.trans ?_ (by assumption) | with_reducible exact Past.bel _ | with_reducible refine Ext.trans ?_ (Past.bel _)))⟩)
    all_goals simp_all [codeF]
set_option maxHeartbeats 400000 in
theorem dailyRate_c (c x y xx xy : Int) (w : World) :
    Calls Try.prog 29 #[.agg #[.int .i64 c, .int .i64 x, .int .i64 y, .int .i64 xx, .int .i64 xy]] w fun e w' => e = .returned (.tuple #[.int .i64 (rateF c x y xx xy), .int .i64 (codeF c x y xx xy)]) ∧ Ext w w' := by
  by_cases hv : vF c x y xx xy = true
  · have f := vF_fb hv
    obtain ⟨n0, n1⟩ := f.n
    obtain ⟨d0, d1⟩ := f.d
    go_enter Try.func29, Try.ntmps29
    go_wp2_with (first | (go_at_call 19; ((with_reducible refine (validFit_c _ _ _ _ _ _).mono ?_); rintro e w' ⟨rfl, hx⟩; (first | (obtain ⟨wx, rfl⟩ := Past.again hx) | (obtain ⟨wx, rfl⟩ := Past.ofd hx) | (obtain ⟨wx, rfl⟩ := Past.of hx)))) | (go_at_call 64; ((with_reducible refine (slopeOf_c _ _ _ _ _ f _).mono ?_); rintro e w' ⟨rfl, hx⟩; (first | (obtain ⟨wx, rfl⟩ := Past.again hx) | (obtain ⟨wx, rfl⟩ := Past.ofd hx) | (obtain ⟨wx, rfl⟩ := Past.of hx)))) | (go_at_call 65; ((with_reducible refine (nearestDiv_c _ _ _ (by simp_all; omega) (by omega) (by omega) (by omega)).mono ?_); rintro e w' ⟨rfl, rfl⟩)))
    all_goals (go_ret2; refine ⟨ret_two (congrArg (Value.int .i64) ?_) (congrArg (Value.int .i64) ?_), (by repeat (first | with_reducible exact Ext.refl _ | with_reducible assumption | with_reducible refine Ext.alloc ?_ _ | with_reducible refine Ext.drew ?_ | (with_reducible refine Ext.setAt ?_ _ _ _ ?_; rotate_left; omega) | with_reducible refine Ext.trans ?_ (by assumption) | with_reducible exact Past.bel _ | with_reducible refine Ext.trans ?_ (Past.bel _)))⟩)
    all_goals simp_all [codeF, rateF]
  · have hv' : vF c x y xx xy = false := by simpa using hv
    go_enter Try.func29, Try.ntmps29
    go_wp2_with (go_at_call 19; ((with_reducible refine (validFit_c _ _ _ _ _ _).mono ?_); rintro e w' ⟨rfl, hx⟩; (first | (obtain ⟨wx, rfl⟩ := Past.again hx) | (obtain ⟨wx, rfl⟩ := Past.ofd hx) | (obtain ⟨wx, rfl⟩ := Past.of hx))))
    all_goals (go_ret2; refine ⟨ret_two (congrArg (Value.int .i64) ?_) (congrArg (Value.int .i64) ?_), (by repeat (first | with_reducible exact Ext.refl _ | with_reducible assumption | with_reducible refine Ext.alloc ?_ _ | with_reducible refine Ext.drew ?_ | (with_reducible refine Ext.setAt ?_ _ _ _ ?_; rotate_left; omega) | with_reducible refine Ext.trans ?_ (by assumption) | with_reducible exact Past.bel _ | with_reducible refine Ext.trans ?_ (Past.bel _)))⟩)
    all_goals simp_all [codeF, rateF]
set_option maxHeartbeats 400000 in
theorem specDailyRate_c (c x y xx xy : Int) (w : World) :
    Calls Try.prog 28 #[.agg #[.int .i64 c, .int .i64 x, .int .i64 y, .int .i64 xx, .int .i64 xy]] w fun e w' => e = .returned (.tuple #[.int .i64 (rateF c x y xx xy), .int .i64 (codeF c x y xx xy)]) ∧ Ext w w' := by
  by_cases hv : codeF c x y xx xy = 0
  · have f := codeF_fb hv
    obtain ⟨n0, n1⟩ := f.n
    obtain ⟨d0, d1⟩ := f.d
    have dd := codeF_d hv
    go_enter Try.func28, Try.ntmps28
    go_wp2_with (first | (go_at_call 61; ((with_reducible refine (l14Code_c _ _ _ _ _ _).mono ?_); rintro e w' ⟨rfl, hx⟩; (first | (obtain ⟨wx, rfl⟩ := Past.again hx) | (obtain ⟨wx, rfl⟩ := Past.ofd hx) | (obtain ⟨wx, rfl⟩ := Past.of hx)))) | (go_at_call 62; ((with_reducible refine (l14Slope_c _ _ _ _ _ f _).mono ?_); rintro e w' ⟨rfl, hx⟩; (first | (obtain ⟨wx, rfl⟩ := Past.again hx) | (obtain ⟨wx, rfl⟩ := Past.ofd hx) | (obtain ⟨wx, rfl⟩ := Past.of hx)))) | (go_at_call 63; ((with_reducible refine (l14Near_c _ _ _ dd (by omega) (by omega) (by omega)).mono ?_); rintro e w' ⟨rfl, rfl⟩)))
    all_goals (go_ret2; refine ⟨ret_two (congrArg (Value.int .i64) ?_) (congrArg (Value.int .i64) ?_), (by repeat (first | with_reducible exact Ext.refl _ | with_reducible assumption | with_reducible refine Ext.alloc ?_ _ | with_reducible refine Ext.drew ?_ | (with_reducible refine Ext.setAt ?_ _ _ _ ?_; rotate_left; omega) | with_reducible refine Ext.trans ?_ (by assumption) | with_reducible exact Past.bel _ | with_reducible refine Ext.trans ?_ (Past.bel _)))⟩)
    all_goals simp_all [rateF]
  · go_enter Try.func28, Try.ntmps28
    go_wp2_with (go_at_call 61; ((with_reducible refine (l14Code_c _ _ _ _ _ _).mono ?_); rintro e w' ⟨rfl, hx⟩; (first | (obtain ⟨wx, rfl⟩ := Past.again hx) | (obtain ⟨wx, rfl⟩ := Past.ofd hx) | (obtain ⟨wx, rfl⟩ := Past.of hx))))
    all_goals (go_ret2; refine ⟨ret_two (congrArg (Value.int .i64) ?_) (congrArg (Value.int .i64) ?_), (by repeat (first | with_reducible exact Ext.refl _ | with_reducible assumption | with_reducible refine Ext.alloc ?_ _ | with_reducible refine Ext.drew ?_ | (with_reducible refine Ext.setAt ?_ _ _ _ ?_; rotate_left; omega) | with_reducible refine Ext.trans ?_ (by assumption) | with_reducible exact Past.bel _ | with_reducible refine Ext.trans ?_ (Past.bel _)))⟩)
    all_goals simp_all [rateF]
set_option maxHeartbeats 400000 in
theorem offAt_c (c x y xx xy hr : Int) (hv : codeF c x y xx xy = 0) (h0 : 0 ≤ hr) (h1 : hr ≤ 10000) (w : World) :
    Calls Try.prog 68 #[.agg #[.int .i64 c, .int .i64 x, .int .i64 y, .int .i64 xx, .int .i64 xy], .int .i64 hr] w fun e w' => e = .returned (.int .i64 (offV c x y xx xy hr)) ∧ Ext w w' := by
  have f := codeF_fb hv
  obtain ⟨b0, b1, b2, b3, b4, b5, b6, b7⟩ := ob_of hv h0 h1
  have hx0 := f.x0
  have hx1 := f.x1
  have HV := Lib.hid hv
  clear hv
  go_enter Try.func68, Try.ntmps68
  go_wp2_with (first | (go_at_call 64; ((with_reducible refine (slopeOf_c _ _ _ _ _ f _).mono ?_); rintro e w' ⟨rfl, hx⟩; (first | (obtain ⟨wx, rfl⟩ := Past.again hx) | (obtain ⟨wx, rfl⟩ := Past.ofd hx) | (obtain ⟨wx, rfl⟩ := Past.of hx)))) | (go_at_call 65; ((with_reducible refine (nearestDiv_c _ _ _ b6 (by omega) (by omega) (by omega)).mono ?_); rintro e w' ⟨rfl, rfl⟩)))
  go_ret
  exact ⟨rfl, (by repeat (first | with_reducible exact Ext.refl _ | with_reducible assumption | with_reducible refine Ext.alloc ?_ _ | with_reducible refine Ext.drew ?_ | (with_reducible refine Ext.setAt ?_ _ _ _ ?_; rotate_left; omega) | with_reducible refine Ext.trans ?_ (by assumption) | with_reducible exact Past.bel _ | with_reducible refine Ext.trans ?_ (Past.bel _)))⟩
set_option maxHeartbeats 400000 in
theorem l14At_c (c x y xx xy hr : Int) (hv : codeF c x y xx xy = 0) (h0 : 0 ≤ hr) (h1 : hr ≤ 10000) (w : World) :
    Calls Try.prog 67 #[.agg #[.int .i64 c, .int .i64 x, .int .i64 y, .int .i64 xx, .int .i64 xy], .int .i64 hr] w fun e w' => e = .returned (.int .i64 (offV c x y xx xy hr)) ∧ Ext w w' := by
  have f := codeF_fb hv
  obtain ⟨b0, b1, b2, b3, b4, b5, b6, b7⟩ := ob_of hv h0 h1
  obtain ⟨c0, c1, c2, c3, c4, c5, c6, c7, c8, c9, c10, c11, ce⟩ := ob'_of hv h0 h1
  have hx0 := f.x0
  have hx1 := f.x1
  have hy0 := f.y0
  have hy1 := f.y1
  obtain ⟨n0, n1⟩ := f.n
  have dd := codeF_d hv
  have HV := Lib.hid hv
  have CE := Lib.hid ce
  clear hv ce
  go_enter Try.func67, Try.ntmps67
  go_wp2_with (first | (go_at_call 62; ((with_reducible refine (l14Slope_c _ _ _ _ _ f _).mono ?_); rintro e w' ⟨rfl, hx⟩; (first | (obtain ⟨wx, rfl⟩ := Past.again hx) | (obtain ⟨wx, rfl⟩ := Past.ofd hx) | (obtain ⟨wx, rfl⟩ := Past.of hx)))) | (go_at_call 81; ((with_reducible refine (l02Down_c _ _ _ dd (by omega) (by omega)).mono ?_); rintro e w' ⟨rfl, rfl⟩)) | (go_at_call 63; ((with_reducible refine (l14Near_c _ _ _ b6 (by omega) (by omega) (by omega)).mono ?_); rintro e w' ⟨rfl, rfl⟩)))
  go_ret
  exact ⟨ret_i64 (by rw [CE.out]; rfl), (by repeat (first | with_reducible exact Ext.refl _ | with_reducible assumption | with_reducible refine Ext.alloc ?_ _ | with_reducible refine Ext.drew ?_ | (with_reducible refine Ext.setAt ?_ _ _ _ ?_; rotate_left; omega) | with_reducible refine Ext.trans ?_ (by assumption) | with_reducible exact Past.bel _ | with_reducible refine Ext.trans ?_ (Past.bel _)))⟩
set_option maxHeartbeats 400000 in
theorem implOffAt_c (c x y xx xy hr : Int) (w : World) :
    Calls Try.prog 31 #[.agg #[.int .i64 c, .int .i64 x, .int .i64 y, .int .i64 xx, .int .i64 xy], .int .i64 hr] w fun e w' => e = .returned (.tuple #[.int .i64 (offRes c x y xx xy hr), .int .i64 (offCode c x y xx xy hr)]) ∧ Ext w w' := by
  by_cases hv : vF c x y xx xy = true
  · have f := vF_fb hv
    by_cases hd : slD c x y xx xy = 0
    · have hd' : (slD c x y xx xy == 0) = true := by simpa using hd
      clear hd
      go_enter Try.func31, Try.ntmps31
      go_wp2_with (first | (go_at_call 19; ((with_reducible refine (validFit_c _ _ _ _ _ _).mono ?_); rintro e w' ⟨rfl, hx⟩; (first | (obtain ⟨wx, rfl⟩ := Past.again hx) | (obtain ⟨wx, rfl⟩ := Past.ofd hx) | (obtain ⟨wx, rfl⟩ := Past.of hx)))) | (go_at_call 64; ((with_reducible refine (slopeOf_c _ _ _ _ _ f _).mono ?_); rintro e w' ⟨rfl, hx⟩; (first | (obtain ⟨wx, rfl⟩ := Past.again hx) | (obtain ⟨wx, rfl⟩ := Past.ofd hx) | (obtain ⟨wx, rfl⟩ := Past.of hx)))))
      all_goals (go_ret2; refine ⟨ret_two (congrArg (Value.int .i64) ?_) (congrArg (Value.int .i64) ?_), (by repeat (first | with_reducible exact Ext.refl _ | with_reducible assumption | with_reducible refine Ext.alloc ?_ _ | with_reducible refine Ext.drew ?_ | (with_reducible refine Ext.setAt ?_ _ _ _ ?_; rotate_left; omega) | with_reducible refine Ext.trans ?_ (by assumption) | with_reducible exact Past.bel _ | with_reducible refine Ext.trans ?_ (Past.bel _)))⟩)
      all_goals simp_all [codeF, offCode, offRes]
    · have hd' : (slD c x y xx xy == 0) = false := by simpa using hd
      have hcode : codeF c x y xx xy = 0 := by simp [codeF, hv, hd]
      have HC := Lib.hid hcode
      clear hd hcode
      by_cases hh : inB hr 0 10000 = true
      · obtain ⟨h0, h1⟩ := inB_t.1 hh
        go_enter Try.func31, Try.ntmps31
        go_wp2_with (first | (go_at_call 19; ((with_reducible refine (validFit_c _ _ _ _ _ _).mono ?_); rintro e w' ⟨rfl, hx⟩; (first | (obtain ⟨wx, rfl⟩ := Past.again hx) | (obtain ⟨wx, rfl⟩ := Past.ofd hx) | (obtain ⟨wx, rfl⟩ := Past.of hx)))) | (go_at_call 64; ((with_reducible refine (slopeOf_c _ _ _ _ _ f _).mono ?_); rintro e w' ⟨rfl, hx⟩; (first | (obtain ⟨wx, rfl⟩ := Past.again hx) | (obtain ⟨wx, rfl⟩ := Past.ofd hx) | (obtain ⟨wx, rfl⟩ := Past.of hx)))) | (go_at_call 57; ((with_reducible refine (within_c _ _ _ _).mono ?_); rintro e w' ⟨rfl, rfl⟩)) | (go_at_call 68; ((with_reducible refine (offAt_c _ _ _ _ _ _ HC.out h0 h1 _).mono ?_); rintro e w' ⟨rfl, hx⟩; (first | (obtain ⟨wx, rfl⟩ := Past.again hx) | (obtain ⟨wx, rfl⟩ := Past.ofd hx) | (obtain ⟨wx, rfl⟩ := Past.of hx)))))
        all_goals (go_ret2; refine ⟨ret_two (congrArg (Value.int .i64) ?_) (congrArg (Value.int .i64) ?_), (by repeat (first | with_reducible exact Ext.refl _ | with_reducible assumption | with_reducible refine Ext.alloc ?_ _ | with_reducible refine Ext.drew ?_ | (with_reducible refine Ext.setAt ?_ _ _ _ ?_; rotate_left; omega) | with_reducible refine Ext.trans ?_ (by assumption) | with_reducible exact Past.bel _ | with_reducible refine Ext.trans ?_ (Past.bel _)))⟩)
        all_goals simp [offCode, offRes, HC.out, hh]
      · have hh' : inB hr 0 10000 = false := by simpa using hh
        go_enter Try.func31, Try.ntmps31
        go_wp2_with (first | (go_at_call 19; ((with_reducible refine (validFit_c _ _ _ _ _ _).mono ?_); rintro e w' ⟨rfl, hx⟩; (first | (obtain ⟨wx, rfl⟩ := Past.again hx) | (obtain ⟨wx, rfl⟩ := Past.ofd hx) | (obtain ⟨wx, rfl⟩ := Past.of hx)))) | (go_at_call 64; ((with_reducible refine (slopeOf_c _ _ _ _ _ f _).mono ?_); rintro e w' ⟨rfl, hx⟩; (first | (obtain ⟨wx, rfl⟩ := Past.again hx) | (obtain ⟨wx, rfl⟩ := Past.ofd hx) | (obtain ⟨wx, rfl⟩ := Past.of hx)))) | (go_at_call 57; ((with_reducible refine (within_c _ _ _ _).mono ?_); rintro e w' ⟨rfl, rfl⟩)))
        all_goals (go_ret2; refine ⟨ret_two (congrArg (Value.int .i64) ?_) (congrArg (Value.int .i64) ?_), (by repeat (first | with_reducible exact Ext.refl _ | with_reducible assumption | with_reducible refine Ext.alloc ?_ _ | with_reducible refine Ext.drew ?_ | (with_reducible refine Ext.setAt ?_ _ _ _ ?_; rotate_left; omega) | with_reducible refine Ext.trans ?_ (by assumption) | with_reducible exact Past.bel _ | with_reducible refine Ext.trans ?_ (Past.bel _)))⟩)
        all_goals simp [offCode, offRes, HC.out, hh']
  · have hv' : vF c x y xx xy = false := by simpa using hv
    go_enter Try.func31, Try.ntmps31
    go_wp2_with (go_at_call 19; ((with_reducible refine (validFit_c _ _ _ _ _ _).mono ?_); rintro e w' ⟨rfl, hx⟩; (first | (obtain ⟨wx, rfl⟩ := Past.again hx) | (obtain ⟨wx, rfl⟩ := Past.ofd hx) | (obtain ⟨wx, rfl⟩ := Past.of hx))))
    all_goals (go_ret2; refine ⟨ret_two (congrArg (Value.int .i64) ?_) (congrArg (Value.int .i64) ?_), (by repeat (first | with_reducible exact Ext.refl _ | with_reducible assumption | with_reducible refine Ext.alloc ?_ _ | with_reducible refine Ext.drew ?_ | (with_reducible refine Ext.setAt ?_ _ _ _ ?_; rotate_left; omega) | with_reducible refine Ext.trans ?_ (by assumption) | with_reducible exact Past.bel _ | with_reducible refine Ext.trans ?_ (Past.bel _)))⟩)
    all_goals simp_all [codeF, offCode, offRes]
end Go.Proofs.Ytfpbmceflpohnaa
