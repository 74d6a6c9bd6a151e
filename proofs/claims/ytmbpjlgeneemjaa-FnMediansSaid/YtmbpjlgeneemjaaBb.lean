/- What the functions on single fits return: each walked once. What the functions on fits return, further. Lists of readings: copied, compared, checked, summed. Lists of readings: checked. Lists of readings: summed. Laws on lists of readings that only read: ValidReadings, FitOf. Slices that a call makes and writes: what is kept, what is read, what is marked. No program in sight. Lists of integers: compared, marked, held; absolute values. -/
import Derived.Test.YtmbpjlgeneemjaaProg
import Derived.Test.YtmbpjlgeneemjaaBa

namespace Go.Proofs.Ytmbpjlgeneemjaa
open Go.RowKit
set_option linter.unusedVariables false
set_option linter.unusedSimpArgs false

theorem within_c (n l h : Int) (w : World) :
    Calls Try.prog 50 #[.int .i64 n, .int .i64 l, .int .i64 h] w fun e w' => e = .returned (.bool (inB n l h)) ∧ w = w' := by
  go_enter Try.func50, Try.ntmps50
  go_wp2
  all_goals (go_ret; refine ⟨ret_bool ?_, rfl⟩; rw [Bool.eq_iff_iff]; simp [inB]; try omega)
theorem l00In_c (n l h : Int) (w : World) :
    Calls Try.prog 63 #[.int .i64 n, .int .i64 l, .int .i64 h] w fun e w' => e = .returned (.bool (inB n l h)) ∧ w = w' := by
  go_enter Try.func63, Try.ntmps63
  go_wp2
  all_goals (go_ret; refine ⟨ret_bool ?_, rfl⟩; rw [Bool.eq_iff_iff]; simp [inB]; try omega)

theorem floor_ret {n d q : Int} (hd : 0 < d) (h : q = n / d) : Ending.returned (.int .i64 q) = .returned (.int .i64 (n / d)) := by rw [h]
set_option maxHeartbeats 400000 in
theorem floorDiv_c (n d : Int) (w : World) (hd : 0 < d) (h0 : -9223372036854775807 ≤ n) (h1 : n ≤ 9223372036854775807) :
    Calls Try.prog 72 #[.int .i64 n, .int .i64 d] w fun e w' => e = .returned (.int .i64 (n / d)) ∧ w = w' := by
  have ht := Lib.hid (tdiv_floor (n := n) hd)
  have hb := ediv_bd hd (show -9223372036854775807 ≤ n by omega) h1 (by omega)
  have hd1 : 1 ≤ d := by omega
  have hz : (d == 0) = false := by simp; omega
  by_cases hm : n.tmod d < 0
  · have e : n.tdiv d = n / d + 1 := by rw [ht.out, if_pos hm]
    have hq : -9223372036854775807 ≤ n.tdiv d - 1 := by omega
    have hq' : n.tdiv d ≤ 9223372036854775807 := by
      have := Int.ediv_neg_of_neg_of_pos (show n < 0 by
        rcases Int.lt_or_le n 0 with h | h
        · exact h
        · have := Int.tmod_nonneg d h; omega) hd
      omega
    have E := Lib.hid e
    clear e
    go_enter Try.func72, Try.ntmps72
    go_wp2
    go_ret
    exact ⟨floor_ret hd (by have := E.out; omega), rfl⟩
  · have e : n.tdiv d = n / d := by rw [ht.out, if_neg hm]
    have E := Lib.hid e
    clear e
    go_enter Try.func72, Try.ntmps72
    go_wp2
    go_ret
    exact ⟨floor_ret hd (by have := E.out; omega), rfl⟩
set_option maxHeartbeats 400000 in
theorem l02Down_c (n d : Int) (w : World) (hd : 0 < d) (h0 : -9223372036854775807 ≤ n) (h1 : n ≤ 9223372036854775807) :
    Calls Try.prog 73 #[.int .i64 n, .int .i64 d] w fun e w' => e = .returned (.int .i64 (n / d)) ∧ w = w' := by
  have ht := Lib.hid (tdiv_floor (n := n) hd)
  have hb := ediv_bd hd (show -9223372036854775807 ≤ n by omega) h1 (by omega)
  have hd1 : 1 ≤ d := by omega
  have hz : (d == 0) = false := by simp; omega
  by_cases hm : n.tmod d < 0
  · have e : n.tdiv d = n / d + 1 := by rw [ht.out, if_pos hm]
    have hq : -9223372036854775807 ≤ n.tdiv d - 1 := by omega
    have hq' : n.tdiv d ≤ 9223372036854775807 := by
      have := Int.ediv_neg_of_neg_of_pos (show n < 0 by
        rcases Int.lt_or_le n 0 with h | h
        · exact h
        · have := Int.tmod_nonneg d h; omega) hd
      omega
    have E := Lib.hid e
    clear e
    go_enter Try.func73, Try.ntmps73
    go_wp2
    go_ret
    exact ⟨floor_ret hd (by have := E.out; omega), rfl⟩
  · have e : n.tdiv d = n / d := by rw [ht.out, if_neg hm]
    have E := Lib.hid e
    clear e
    go_enter Try.func73, Try.ntmps73
    go_wp2
    go_ret
    exact ⟨floor_ret hd (by have := E.out; omega), rfl⟩

theorem near_ret {n d q : Int} (hd : 0 < d) (h : q = if d - (n - n / d * d) ≤ n - n / d * d then n / d + 1 else n / d) : Ending.returned (.int .i64 q) = .returned (.int .i64 (nearD n d)) := by
  have e : n % d = n - n / d * d := by have := Int.mul_ediv_add_emod n d; rw [Int.mul_comm] at this; omega
  rw [h, nearD_eq hd, e]
set_option maxHeartbeats 400000 in
theorem nearestDiv_c (n d : Int) (w : World) (hd : 0 < d) (hd1 : d ≤ 1000000000000000000) (h0 : -8000000000000000000 ≤ n) (h1 : n ≤ 8000000000000000000) :
    Calls Try.prog 55 #[.int .i64 n, .int .i64 d] w fun e w' => e = .returned (.int .i64 (nearD n d)) ∧ w = w' := by
  obtain ⟨b0, b1⟩ := ediv_mul_bd (n := n) hd
  obtain ⟨q0, q1⟩ := ediv_bd (N := 8000000000000000000) hd h0 h1 (by omega)
  go_enter Try.func55, Try.ntmps55
  go_wp2_with (go_at_call 72; ((with_reducible refine (floorDiv_c _ _ _ (by omega) (by omega) (by omega)).mono ?_); rintro e w' ⟨rfl, rfl⟩))
  all_goals (go_ret; exact ⟨near_ret hd (by split <;> omega), rfl⟩)
set_option maxHeartbeats 400000 in
theorem l14Near_c (n d : Int) (w : World) (hd : 0 < d) (hd1 : d ≤ 1000000000000000000) (h0 : -8000000000000000000 ≤ n) (h1 : n ≤ 8000000000000000000) :
    Calls Try.prog 65 #[.int .i64 n, .int .i64 d] w fun e w' => e = .returned (.int .i64 (nearD n d)) ∧ w = w' := by
  obtain ⟨b0, b1⟩ := ediv_mul_bd (n := n) hd
  obtain ⟨q0, q1⟩ := ediv_bd (N := 8000000000000000000) hd h0 h1 (by omega)
  go_enter Try.func65, Try.ntmps65
  go_wp2_with (go_at_call 73; ((with_reducible refine (l02Down_c _ _ _ (by omega) (by omega) (by omega)).mono ?_); rintro e w' ⟨rfl, rfl⟩))
  all_goals (go_ret; exact ⟨near_ret hd (by split <;> omega), rfl⟩)

theorem vF_last {c x y xx xy : Int} (hc0 : 0 ≤ c) (hc1 : c ≤ 60) (h5 : (!inB c 0 60) = false) (h4 : inB x 0 (c * 10000) = true) (h3 : inB y (-c * 100000) (c * 100000) = true) (h2 : inB xx 0 (c * 10000 * 10000) = true)
    (h1 : inB xy (-c * 10000 * 100000) (c * 10000 * 100000) = true) : decide (wrap64 (x * x) ≤ wrap64 (c * xx)) = vF c x y xx xy := by
  have hx := inB_t.1 h4
  have hxx := inB_t.1 h2
  have p1 := mul_nn (A := 600000) (B := 600000) hx.1 (by omega) hx.1 (by omega)
  have p2 := mul_nn (A := 60) (B := 6000000000) hc0 (by omega) hxx.1 (by omega)
  rw [IntWalk.wrap64_in _ (by omega), IntWalk.wrap64_in _ (by omega)]
  simp_all [vF]
set_option maxHeartbeats 400000 in
theorem validFit_c (c x y xx xy : Int) (w : World) :
    Calls Try.prog 23 #[.agg #[.int .i64 c, .int .i64 x, .int .i64 y, .int .i64 xx, .int .i64 xy]] w fun e w' => e = .returned (.bool (vF c x y xx xy)) ∧ Ext w w' := by
  by_cases hc : 0 ≤ c ∧ c ≤ 60
  · obtain ⟨hc0, hc1⟩ := hc
    go_enter Try.func23, Try.ntmps23
    go_wp2_with (go_at_call 50; ((with_reducible refine (within_c _ _ _ _).mono ?_); rintro e w' ⟨rfl, rfl⟩))
    all_goals (go_ret; refine ⟨ret_bool ?_, (by repeat (first | with_reducible exact Ext.refl _ | with_reducible assumption | with_reducible refine Ext.alloc ?_ _ | with_reducible refine Ext.drew ?_ | (with_reducible refine Ext.setAt ?_ _ _ _ ?_; rotate_left; omega) | with_reducible refine Ext.trans ?_ (by assumption) | with_reducible exact Past.bel _ | with_reducible refine Ext.trans ?_ (Past.bel _)))⟩)
    all_goals first | (simp_all [vF]; done) | (rename_i h5 h4 h3 h2 h1; exact vF_last hc0 hc1 h5 h4 h3 h2 h1)
  · have hc' : inB c 0 60 = false := inB_f.2 hc
    go_enter Try.func23, Try.ntmps23
    go_wp2_with (go_at_call 50; ((with_reducible refine (within_c _ _ _ _).mono ?_); rintro e w' ⟨rfl, rfl⟩))
    all_goals (go_ret; refine ⟨ret_bool ?_, (by repeat (first | with_reducible exact Ext.refl _ | with_reducible assumption | with_reducible refine Ext.alloc ?_ _ | with_reducible refine Ext.drew ?_ | (with_reducible refine Ext.setAt ?_ _ _ _ ?_; rotate_left; omega) | with_reducible refine Ext.trans ?_ (by assumption) | with_reducible exact Past.bel _ | with_reducible refine Ext.trans ?_ (Past.bel _)))⟩)
    all_goals simp [vF, hc']
theorem vF_last' {c x y xx xy : Int} (hc0 : 0 ≤ c) (hc1 : c ≤ 60) (h5 : inB c 0 60 = true) (h4 : inB x 0 (c * 10000) = true) (h3 : (!inB y (-c * 100000) (c * 100000)) = false) (h2 : inB xx 0 (c * 10000 * 10000) = true)
    (h1 : inB xy (-(c * 10000 * 100000)) (c * 10000 * 100000) = true) : decide (wrap64 (x * x) ≤ wrap64 (c * xx)) = vF c x y xx xy :=
  vF_last hc0 hc1 (by simpa using h5) h4 (by simpa using h3) h2 (by simpa [Int.neg_mul] using h1)
set_option maxHeartbeats 400000 in
theorem l14FitOk_c (c x y xx xy : Int) (w : World) :
    Calls Try.prog 66 #[.agg #[.int .i64 c, .int .i64 x, .int .i64 y, .int .i64 xx, .int .i64 xy]] w fun e w' => e = .returned (.bool (vF c x y xx xy)) ∧ Ext w w' := by
  by_cases hc : 0 ≤ c ∧ c ≤ 60
  · obtain ⟨hc0, hc1⟩ := hc
    go_enter Try.func66, Try.ntmps66
    go_wp2_with (go_at_call 63; ((with_reducible refine (l00In_c _ _ _ _).mono ?_); rintro e w' ⟨rfl, rfl⟩))
    all_goals (go_ret; refine ⟨ret_bool ?_, (by repeat (first | with_reducible exact Ext.refl _ | with_reducible assumption | with_reducible refine Ext.alloc ?_ _ | with_reducible refine Ext.drew ?_ | (with_reducible refine Ext.setAt ?_ _ _ _ ?_; rotate_left; omega) | with_reducible refine Ext.trans ?_ (by assumption) | with_reducible exact Past.bel _ | with_reducible refine Ext.trans ?_ (Past.bel _)))⟩)
    all_goals first | (simp_all [vF, Int.neg_mul]; done) | (rename_i h5 h4 h3 h2 h1; exact vF_last' hc0 hc1 h5 h4 h3 h2 h1)
  · have hc' : inB c 0 60 = false := inB_f.2 hc
    go_enter Try.func66, Try.ntmps66
    go_wp2_with (go_at_call 63; ((with_reducible refine (l00In_c _ _ _ _).mono ?_); rintro e w' ⟨rfl, rfl⟩))
    all_goals (go_ret; refine ⟨ret_bool ?_, (by repeat (first | with_reducible exact Ext.refl _ | with_reducible assumption | with_reducible refine Ext.alloc ?_ _ | with_reducible refine Ext.drew ?_ | (with_reducible refine Ext.setAt ?_ _ _ _ ?_; rotate_left; omega) | with_reducible refine Ext.trans ?_ (by assumption) | with_reducible exact Past.bel _ | with_reducible refine Ext.trans ?_ (Past.bel _)))⟩)
    all_goals simp [vF, hc']
theorem specValidFit_c (c x y xx xy : Int) (w : World) :
    Calls Try.prog 36 #[.agg #[.int .i64 c, .int .i64 x, .int .i64 y, .int .i64 xx, .int .i64 xy]] w fun e w' => e = .returned (.bool (vF c x y xx xy)) ∧ Ext w w' := by
  go_enter Try.func36, Try.ntmps36
  go_wp2_with (go_at_call 66; ((with_reducible refine (l14FitOk_c _ _ _ _ _ _).mono ?_); rintro e w' ⟨rfl, hx⟩; (first | (obtain ⟨wx, rfl⟩ := Past.again hx) | (obtain ⟨wx, rfl⟩ := Past.ofd hx) | (obtain ⟨wx, rfl⟩ := Past.of hx))))
  go_ret
  exact ⟨rfl, (by repeat (first | with_reducible exact Ext.refl _ | with_reducible assumption | with_reducible refine Ext.alloc ?_ _ | with_reducible refine Ext.drew ?_ | (with_reducible refine Ext.setAt ?_ _ _ _ ?_; rotate_left; omega) | with_reducible refine Ext.trans ?_ (by assumption) | with_reducible exact Past.bel _ | with_reducible refine Ext.trans ?_ (Past.bel _)))⟩
set_option maxHeartbeats 400000 in
theorem slopeOf_c (c x y xx xy : Int) (f : FB c x y xx xy) (w : World) :
    Calls Try.prog 53 #[.agg #[.int .i64 c, .int .i64 x, .int .i64 y, .int .i64 xx, .int .i64 xy]] w fun e w' => e = .returned (.tuple #[.int .i64 (slN c x y xx xy), .int .i64 (slD c x y xx xy)]) ∧ Ext w w' := by
  obtain ⟨a0, a1⟩ := f.cxy
  obtain ⟨b0, b1⟩ := f.xy
  obtain ⟨c0, c1⟩ := f.cxx
  obtain ⟨d0, d1⟩ := f.xx
  clear f
  go_enter Try.func53, Try.ntmps53
  go_wp2_with fail
  refine wp_region_past (by kernel_rfl) (by kernel_rfl) ?_
  repeat (go_big_quiet_step (fail))
  refine wpQuiet_nil ?_
  rintro _ ⟨wx, rfl⟩
  go_wp2_with fail
  go_ret2
  exact ⟨rfl, (by repeat (first | with_reducible exact Ext.refl _ | with_reducible assumption | with_reducible refine Ext.alloc ?_ _ | with_reducible refine Ext.drew ?_ | (with_reducible refine Ext.setAt ?_ _ _ _ ?_; rotate_left; omega) | with_reducible refine Ext.trans ?_ (by assumption) | with_reducible exact Past.bel _ | with_reducible refine Ext.trans ?_ (Past.bel _)))⟩
set_option maxHeartbeats 400000 in
theorem l14Slope_c (c x y xx xy : Int) (f : FB c x y xx xy) (w : World) :
    Calls Try.prog 64 #[.agg #[.int .i64 c, .int .i64 x, .int .i64 y, .int .i64 xx, .int .i64 xy]] w fun e w' => e = .returned (.tuple #[.int .i64 (slN c x y xx xy), .int .i64 (slD c x y xx xy)]) ∧ Ext w w' := by
  obtain ⟨a0, a1⟩ := f.cxy
  obtain ⟨b0, b1⟩ := f.xy
  obtain ⟨c0, c1⟩ := f.cxx
  obtain ⟨d0, d1⟩ := f.xx
  clear f
  go_enter Try.func64, Try.ntmps64
  go_wp2_with fail
  refine wp_region_past (by kernel_rfl) (by kernel_rfl) ?_
  repeat (go_big_quiet_step (fail))
  refine wpQuiet_nil ?_
  rintro _ ⟨wx, rfl⟩
  go_wp2_with fail
  go_ret2
  exact ⟨rfl, (by repeat (first | with_reducible exact Ext.refl _ | with_reducible assumption | with_reducible refine Ext.alloc ?_ _ | with_reducible refine Ext.drew ?_ | (with_reducible refine Ext.setAt ?_ _ _ _ ?_; rotate_left; omega) | with_reducible refine Ext.trans ?_ (by assumption) | with_reducible exact Past.bel _ | with_reducible refine Ext.trans ?_ (Past.bel _)))⟩
set_option maxHeartbeats 400000 in
theorem l14Code_c (c x y xx xy : Int) (w : World) :
    Calls Try.prog 56 #[.agg #[.int .i64 c, .int .i64 x, .int .i64 y, .int .i64 xx, .int .i64 xy]] w fun e w' => e = .returned (.int .i64 (codeF c x y xx xy)) ∧ Ext w w' := by
  by_cases hv : vF c x y xx xy = true
  · have f := vF_fb hv
    go_enter Try.func56, Try.ntmps56
    go_wp2_with (first | (go_at_call 66; ((with_reducible refine (l14FitOk_c _ _ _ _ _ _).mono ?_); rintro e w' ⟨rfl, hx⟩; (first | (obtain ⟨wx, rfl⟩ := Past.again hx) | (obtain ⟨wx, rfl⟩ := Past.ofd hx) | (obtain ⟨wx, rfl⟩ := Past.of hx)))) | (go_at_call 64; ((with_reducible refine (l14Slope_c _ _ _ _ _ f _).mono ?_); rintro e w' ⟨rfl, hx⟩; (first | (obtain ⟨wx, rfl⟩ := Past.again hx) | (obtain ⟨wx, rfl⟩ := Past.ofd hx) | (obtain ⟨wx, rfl⟩ := Past.of hx)))))
    all_goals (go_ret; refine ⟨ret_i64 ?_, (by repeat (first | with_reducible exact Ext.refl _ | with_reducible assumption | with_reducible refine Ext.alloc ?_ _ | with_reducible refine Ext.drew ?_ | (with_reducible refine Ext.setAt ?_ _ _ _ ?_; rotate_left; omega) | with_reducible refine Ext.trans ?_ (by assumption) | with_reducible exact Past.bel _ | with_reducible refine Ext.trans ?_ (Past.bel _)))⟩)
    all_goals simp_all [codeF]
  · have hv' : vF c x y xx xy = false := by simpa using hv
    go_enter Try.func56, Try.ntmps56
    go_wp2_with (go_at_call 66; ((with_reducible refine (l14FitOk_c _ _ _ _ _ _).mono ?_); rintro e w' ⟨rfl, hx⟩; (first | (obtain ⟨wx, rfl⟩ := Past.again hx) | (obtain ⟨wx, rfl⟩ := Past.ofd hx) | (obtain ⟨wx, rfl⟩ := Past.of hx))))
    all_goals (go_ret; refine ⟨ret_i64 ?_, (by repeat (first | with_reducible exact Ext.refl _ | with_reducible assumption | with_reducible refine Ext.alloc ?_ _ | with_reducible refine Ext.drew ?_ | (with_reducible refine Ext.setAt ?_ _ _ _ ?_; rotate_left; omega) | with_reducible refine Ext.trans ?_ (by assumption) | with_reducible exact Past.bel _ | with_reducible refine Ext.trans ?_ (Past.bel _)))⟩)
    all_goals simp_all [codeF]
set_option maxHeartbeats 400000 in
theorem dailyRate_c (c x y xx xy : Int) (w : World) :
    Calls Try.prog 25 #[.agg #[.int .i64 c, .int .i64 x, .int .i64 y, .int .i64 xx, .int .i64 xy]] w fun e w' => e = .returned (.tuple #[.int .i64 (rateF c x y xx xy), .int .i64 (codeF c x y xx xy)]) ∧ Ext w w' := by
  by_cases hv : vF c x y xx xy = true
  · have f := vF_fb hv
    obtain ⟨n0, n1⟩ := f.n
    obtain ⟨d0, d1⟩ := f.d
    go_enter Try.func25, Try.ntmps25
    go_wp2_with (first | (go_at_call 23; ((with_reducible refine (validFit_c _ _ _ _ _ _).mono ?_); rintro e w' ⟨rfl, hx⟩; (first | (obtain ⟨wx, rfl⟩ := Past.again hx) | (obtain ⟨wx, rfl⟩ := Past.ofd hx) | (obtain ⟨wx, rfl⟩ := Past.of hx)))) | (go_at_call 53; ((with_reducible refine (slopeOf_c _ _ _ _ _ f _).mono ?_); rintro e w' ⟨rfl, hx⟩; (first | (obtain ⟨wx, rfl⟩ := Past.again hx) | (obtain ⟨wx, rfl⟩ := Past.ofd hx) | (obtain ⟨wx, rfl⟩ := Past.of hx)))) | (go_at_call 55; ((with_reducible refine (nearestDiv_c _ _ _ (by simp_all; omega) (by omega) (by omega) (by omega)).mono ?_); rintro e w' ⟨rfl, rfl⟩)))
    all_goals (go_ret2; refine ⟨ret_two (congrArg (Value.int .i64) ?_) (congrArg (Value.int .i64) ?_), (by repeat (first | with_reducible exact Ext.refl _ | with_reducible assumption | with_reducible refine Ext.alloc ?_ _ | with_reducible refine Ext.drew ?_ | (with_reducible refine Ext.setAt ?_ _ _ _ ?_; rotate_left; omega) | with_reducible refine Ext.trans ?_ (by assumption) | with_reducible exact Past.bel _ | with_reducible refine Ext.trans ?_ (Past.bel _)))⟩)
    all_goals simp_all [codeF, rateF]
  · have hv' : vF c x y xx xy = false := by simpa using hv
    go_enter Try.func25, Try.ntmps25
    go_wp2_with (go_at_call 23; ((with_reducible refine (validFit_c _ _ _ _ _ _).mono ?_); rintro e w' ⟨rfl, hx⟩; (first | (obtain ⟨wx, rfl⟩ := Past.again hx) | (obtain ⟨wx, rfl⟩ := Past.ofd hx) | (obtain ⟨wx, rfl⟩ := Past.of hx))))
    all_goals (go_ret2; refine ⟨ret_two (congrArg (Value.int .i64) ?_) (congrArg (Value.int .i64) ?_), (by repeat (first | with_reducible exact Ext.refl _ | with_reducible assumption | with_reducible refine Ext.alloc ?_ _ | with_reducible refine Ext.drew ?_ | (with_reducible refine Ext.setAt ?_ _ _ _ ?_; rotate_left; omega) | with_reducible refine Ext.trans ?_ (by assumption) | with_reducible exact Past.bel _ | with_reducible refine Ext.trans ?_ (Past.bel _)))⟩)
    all_goals simp_all [codeF, rateF]
set_option maxHeartbeats 400000 in
theorem specDailyRate_c (c x y xx xy : Int) (w : World) :
    Calls Try.prog 35 #[.agg #[.int .i64 c, .int .i64 x, .int .i64 y, .int .i64 xx, .int .i64 xy]] w fun e w' => e = .returned (.tuple #[.int .i64 (rateF c x y xx xy), .int .i64 (codeF c x y xx xy)]) ∧ Ext w w' := by
  by_cases hv : codeF c x y xx xy = 0
  · have f := codeF_fb hv
    obtain ⟨n0, n1⟩ := f.n
    obtain ⟨d0, d1⟩ := f.d
    have dd := codeF_d hv
    go_enter Try.func35, Try.ntmps35
    go_wp2_with (first | (go_at_call 56; ((with_reducible refine (l14Code_c _ _ _ _ _ _).mono ?_); rintro e w' ⟨rfl, hx⟩; (first | (obtain ⟨wx, rfl⟩ := Past.again hx) | (obtain ⟨wx, rfl⟩ := Past.ofd hx) | (obtain ⟨wx, rfl⟩ := Past.of hx)))) | (go_at_call 64; ((with_reducible refine (l14Slope_c _ _ _ _ _ f _).mono ?_); rintro e w' ⟨rfl, hx⟩; (first | (obtain ⟨wx, rfl⟩ := Past.again hx) | (obtain ⟨wx, rfl⟩ := Past.ofd hx) | (obtain ⟨wx, rfl⟩ := Past.of hx)))) | (go_at_call 65; ((with_reducible refine (l14Near_c _ _ _ dd (by omega) (by omega) (by omega)).mono ?_); rintro e w' ⟨rfl, rfl⟩)))
    all_goals (go_ret2; refine ⟨ret_two (congrArg (Value.int .i64) ?_) (congrArg (Value.int .i64) ?_), (by repeat (first | with_reducible exact Ext.refl _ | with_reducible assumption | with_reducible refine Ext.alloc ?_ _ | with_reducible refine Ext.drew ?_ | (with_reducible refine Ext.setAt ?_ _ _ _ ?_; rotate_left; omega) | with_reducible refine Ext.trans ?_ (by assumption) | with_reducible exact Past.bel _ | with_reducible refine Ext.trans ?_ (Past.bel _)))⟩)
    all_goals simp_all [rateF]
  · go_enter Try.func35, Try.ntmps35
    go_wp2_with (go_at_call 56; ((with_reducible refine (l14Code_c _ _ _ _ _ _).mono ?_); rintro e w' ⟨rfl, hx⟩; (first | (obtain ⟨wx, rfl⟩ := Past.again hx) | (obtain ⟨wx, rfl⟩ := Past.ofd hx) | (obtain ⟨wx, rfl⟩ := Past.of hx))))
    all_goals (go_ret2; refine ⟨ret_two (congrArg (Value.int .i64) ?_) (congrArg (Value.int .i64) ?_), (by repeat (first | with_reducible exact Ext.refl _ | with_reducible assumption | with_reducible refine Ext.alloc ?_ _ | with_reducible refine Ext.drew ?_ | (with_reducible refine Ext.setAt ?_ _ _ _ ?_; rotate_left; omega) | with_reducible refine Ext.trans ?_ (by assumption) | with_reducible exact Past.bel _ | with_reducible refine Ext.trans ?_ (Past.bel _)))⟩)
    all_goals simp_all [rateF]
set_option maxHeartbeats 400000 in
theorem offAt_c (c x y xx xy hr : Int) (hv : codeF c x y xx xy = 0) (h0 : 0 ≤ hr) (h1 : hr ≤ 10000) (w : World) :
    Calls Try.prog 54 #[.agg #[.int .i64 c, .int .i64 x, .int .i64 y, .int .i64 xx, .int .i64 xy], .int .i64 hr] w fun e w' => e = .returned (.int .i64 (offV c x y xx xy hr)) ∧ Ext w w' := by
  have f := codeF_fb hv
  obtain ⟨b0, b1, b2, b3, b4, b5, b6, b7⟩ := ob_of hv h0 h1
  have hx0 := f.x0
  have hx1 := f.x1
  have HV := Lib.hid hv
  clear hv
  go_enter Try.func54, Try.ntmps54
  go_wp2_with (first | (go_at_call 53; ((with_reducible refine (slopeOf_c _ _ _ _ _ f _).mono ?_); rintro e w' ⟨rfl, hx⟩; (first | (obtain ⟨wx, rfl⟩ := Past.again hx) | (obtain ⟨wx, rfl⟩ := Past.ofd hx) | (obtain ⟨wx, rfl⟩ := Past.of hx)))) | (go_at_call 55; ((with_reducible refine (nearestDiv_c _ _ _ b6 (by omega) (by omega) (by omega)).mono ?_); rintro e w' ⟨rfl, rfl⟩)))
  go_ret
  exact ⟨rfl, (by repeat (first | with_reducible exact Ext.refl _ | with_reducible assumption | with_reducible refine Ext.alloc ?_ _ | with_reducible refine Ext.drew ?_ | (with_reducible refine Ext.setAt ?_ _ _ _ ?_; rotate_left; omega) | with_reducible refine Ext.trans ?_ (by assumption) | with_reducible exact Past.bel _ | with_reducible refine Ext.trans ?_ (Past.bel _)))⟩
set_option maxHeartbeats 400000 in
theorem l14At_c (c x y xx xy hr : Int) (hv : codeF c x y xx xy = 0) (h0 : 0 ≤ hr) (h1 : hr ≤ 10000) (w : World) :
    Calls Try.prog 57 #[.agg #[.int .i64 c, .int .i64 x, .int .i64 y, .int .i64 xx, .int .i64 xy], .int .i64 hr] w fun e w' => e = .returned (.int .i64 (offV c x y xx xy hr)) ∧ Ext w w' := by
  have f := codeF_fb hv
  obtain ⟨b0, b1, b2, b3, b4, b5, b6, b7⟩ := ob_of hv h0 h1
  obtain ⟨c0, c1, c2, c3, c4, c5, c6, c7, c8, c9, c10, c11, ce⟩ := ob'_of hv h0 h1
  have hx0 := f.x0
  have hx1 := f.x1
  have hy0 := f.y0
  have hy1 := f.y1
  obtain ⟨n0, n1⟩ := f.n
  have dd := codeF_d hv
  have HV := Lib.hid hv
  have CE := Lib.hid ce
  clear hv ce
  go_enter Try.func57, Try.ntmps57
  go_wp2_with (first | (go_at_call 64; ((with_reducible refine (l14Slope_c _ _ _ _ _ f _).mono ?_); rintro e w' ⟨rfl, hx⟩; (first | (obtain ⟨wx, rfl⟩ := Past.again hx) | (obtain ⟨wx, rfl⟩ := Past.ofd hx) | (obtain ⟨wx, rfl⟩ := Past.of hx)))) | (go_at_call 73; ((with_reducible refine (l02Down_c _ _ _ dd (by omega) (by omega)).mono ?_); rintro e w' ⟨rfl, rfl⟩)) | (go_at_call 65; ((with_reducible refine (l14Near_c _ _ _ b6 (by omega) (by omega) (by omega)).mono ?_); rintro e w' ⟨rfl, rfl⟩)))
  go_ret
  exact ⟨ret_i64 (by rw [CE.out]; rfl), (by repeat (first | with_reducible exact Ext.refl _ | with_reducible assumption | with_reducible refine Ext.alloc ?_ _ | with_reducible refine Ext.drew ?_ | (with_reducible refine Ext.setAt ?_ _ _ _ ?_; rotate_left; omega) | with_reducible refine Ext.trans ?_ (by assumption) | with_reducible exact Past.bel _ | with_reducible refine Ext.trans ?_ (Past.bel _)))⟩
set_option maxHeartbeats 400000 in
theorem implOffAt_c (c x y xx xy hr : Int) (w : World) :
    Calls Try.prog 24 #[.agg #[.int .i64 c, .int .i64 x, .int .i64 y, .int .i64 xx, .int .i64 xy], .int .i64 hr] w fun e w' => e = .returned (.tuple #[.int .i64 (offRes c x y xx xy hr), .int .i64 (offCode c x y xx xy hr)]) ∧ Ext w w' := by
  by_cases hv : vF c x y xx xy = true
  · have f := vF_fb hv
    by_cases hd : slD c x y xx xy = 0
    · have hd' : (slD c x y xx xy == 0) = true := by simpa using hd
      clear hd
      go_enter Try.func24, Try.ntmps24
      go_wp2_with (first | (go_at_call 23; ((with_reducible refine (validFit_c _ _ _ _ _ _).mono ?_); rintro e w' ⟨rfl, hx⟩; (first | (obtain ⟨wx, rfl⟩ := Past.again hx) | (obtain ⟨wx, rfl⟩ := Past.ofd hx) | (obtain ⟨wx, rfl⟩ := Past.of hx)))) | (go_at_call 53; ((with_reducible refine (slopeOf_c _ _ _ _ _ f _).mono ?_); rintro e w' ⟨rfl, hx⟩; (first | (obtain ⟨wx, rfl⟩ := Past.again hx) | (obtain ⟨wx, rfl⟩ := Past.ofd hx) | (obtain ⟨wx, rfl⟩ := Past.of hx)))))
      all_goals (go_ret2; refine ⟨ret_two (congrArg (Value.int .i64) ?_) (congrArg (Value.int .i64) ?_), (by repeat (first | with_reducible exact Ext.refl _ | with_reducible assumption | with_reducible refine Ext.alloc ?_ _ | with_reducible refine Ext.drew ?_ | (with_reducible refine Ext.setAt ?_ _ _ _ ?_; rotate_left; omega) | with_reducible refine Ext.trans ?_ (by assumption) | with_reducible exact Past.bel _ | with_reducible refine Ext.trans ?_ (Past.bel _)))⟩)
      all_goals simp_all [codeF, offCode, offRes]
    · have hd' : (slD c x y xx xy == 0) = false := by simpa using hd
      have hcode : codeF c x y xx xy = 0 := by simp [codeF, hv, hd]
      have HC := Lib.hid hcode
      clear hd hcode
      by_cases hh : inB hr 0 10000 = true
      · obtain ⟨h0, h1⟩ := inB_t.1 hh
        go_enter Try.func24, Try.ntmps24
        go_wp2_with (first | (go_at_call 23; ((with_reducible refine (validFit_c _ _ _ _ _ _).mono ?_); rintro e w' ⟨rfl, hx⟩; (first | (obtain ⟨wx, rfl⟩ := Past.again hx) | (obtain ⟨wx, rfl⟩ := Past.ofd hx) | (obtain ⟨wx, rfl⟩ := Past.of hx)))) | (go_at_call 53; ((with_reducible refine (slopeOf_c _ _ _ _ _ f _).mono ?_); rintro e w' ⟨rfl, hx⟩; (first | (obtain ⟨wx, rfl⟩ := Past.again hx) | (obtain ⟨wx, rfl⟩ := Past.ofd hx) | (obtain ⟨wx, rfl⟩ := Past.of hx)))) | (go_at_call 50; ((with_reducible refine (within_c _ _ _ _).mono ?_); rintro e w' ⟨rfl, rfl⟩)) | (go_at_call 54; ((with_reducible refine (offAt_c _ _ _ _ _ _ HC.out h0 h1 _).mono ?_); rintro e w' ⟨rfl, hx⟩; (first | (obtain ⟨wx, rfl⟩ := Past.again hx) | (obtain ⟨wx, rfl⟩ := Past.ofd hx) | (obtain ⟨wx, rfl⟩ := Past.of hx)))))
        all_goals (go_ret2; refine ⟨ret_two (congrArg (Value.int .i64) ?_) (congrArg (Value.int .i64) ?_), (by repeat (first | with_reducible exact Ext.refl _ | with_reducible assumption | with_reducible refine Ext.alloc ?_ _ | with_reducible refine Ext.drew ?_ | (with_reducible refine Ext.setAt ?_ _ _ _ ?_; rotate_left; omega) | with_reducible refine Ext.trans ?_ (by assumption) | with_reducible exact Past.bel _ | with_reducible refine Ext.trans ?_ (Past.bel _)))⟩)
        all_goals simp [offCode, offRes, HC.out, hh]
      · have hh' : inB hr 0 10000 = false := by simpa using hh
        go_enter Try.func24, Try.ntmps24
        go_wp2_with (first | (go_at_call 23; ((with_reducible refine (validFit_c _ _ _ _ _ _).mono ?_); rintro e w' ⟨rfl, hx⟩; (first | (obtain ⟨wx, rfl⟩ := Past.again hx) | (obtain ⟨wx, rfl⟩ := Past.ofd hx) | (obtain ⟨wx, rfl⟩ := Past.of hx)))) | (go_at_call 53; ((with_reducible refine (slopeOf_c _ _ _ _ _ f _).mono ?_); rintro e w' ⟨rfl, hx⟩; (first | (obtain ⟨wx, rfl⟩ := Past.again hx) | (obtain ⟨wx, rfl⟩ := Past.ofd hx) | (obtain ⟨wx, rfl⟩ := Past.of hx)))) | (go_at_call 50; ((with_reducible refine (within_c _ _ _ _).mono ?_); rintro e w' ⟨rfl, rfl⟩)))
        all_goals (go_ret2; refine ⟨ret_two (congrArg (Value.int .i64) ?_) (congrArg (Value.int .i64) ?_), (by repeat (first | with_reducible exact Ext.refl _ | with_reducible assumption | with_reducible refine Ext.alloc ?_ _ | with_reducible refine Ext.drew ?_ | (with_reducible refine Ext.setAt ?_ _ _ _ ?_; rotate_left; omega) | with_reducible refine Ext.trans ?_ (by assumption) | with_reducible exact Past.bel _ | with_reducible refine Ext.trans ?_ (Past.bel _)))⟩)
        all_goals simp [offCode, offRes, HC.out, hh']
  · have hv' : vF c x y xx xy = false := by simpa using hv
    go_enter Try.func24, Try.ntmps24
    go_wp2_with (go_at_call 23; ((with_reducible refine (validFit_c _ _ _ _ _ _).mono ?_); rintro e w' ⟨rfl, hx⟩; (first | (obtain ⟨wx, rfl⟩ := Past.again hx) | (obtain ⟨wx, rfl⟩ := Past.ofd hx) | (obtain ⟨wx, rfl⟩ := Past.of hx))))
    all_goals (go_ret2; refine ⟨ret_two (congrArg (Value.int .i64) ?_) (congrArg (Value.int .i64) ?_), (by repeat (first | with_reducible exact Ext.refl _ | with_reducible assumption | with_reducible refine Ext.alloc ?_ _ | with_reducible refine Ext.drew ?_ | (with_reducible refine Ext.setAt ?_ _ _ _ ?_; rotate_left; omega) | with_reducible refine Ext.trans ?_ (by assumption) | with_reducible exact Past.bel _ | with_reducible refine Ext.trans ?_ (Past.bel _)))⟩)
    all_goals simp_all [codeF, offCode, offRes]
end Go.Proofs.Ytmbpjlgeneemjaa

namespace Go.Proofs.Ytmbpjlgeneemjaa
open Go.RowKit
set_option linter.unusedVariables false
set_option linter.unusedSimpArgs false

set_option maxHeartbeats 400000 in
theorem specOffAt_c (c x y xx xy hr : Int) (w : World) :
    Calls Try.prog 34 #[.agg #[.int .i64 c, .int .i64 x, .int .i64 y, .int .i64 xx, .int .i64 xy], .int .i64 hr] w fun e w' => e = .returned (.tuple #[.int .i64 (offRes c x y xx xy hr), .int .i64 (offCode c x y xx xy hr)]) ∧ Ext w w' := by
  by_cases hv : codeF c x y xx xy = 0
  · have hv' : (codeF c x y xx xy != 0) = false := by simpa using hv
    have HC := Lib.hid hv
    clear hv
    by_cases hh : inB hr 0 10000 = true
    · obtain ⟨h0, h1⟩ := inB_t.1 hh
      go_enter Try.func34, Try.ntmps34
      go_wp2_with (first | (go_at_call 56; ((with_reducible refine (l14Code_c _ _ _ _ _ _).mono ?_); rintro e w' ⟨rfl, hx⟩; (first | (obtain ⟨wx, rfl⟩ := Past.again hx) | (obtain ⟨wx, rfl⟩ := Past.ofd hx) | (obtain ⟨wx, rfl⟩ := Past.of hx)))) | (go_at_call 63; ((with_reducible refine (l00In_c _ _ _ _).mono ?_); rintro e w' ⟨rfl, rfl⟩)) | (go_at_call 57; ((with_reducible refine (l14At_c _ _ _ _ _ _ HC.out h0 h1 _).mono ?_); rintro e w' ⟨rfl, hx⟩; (first | (obtain ⟨wx, rfl⟩ := Past.again hx) | (obtain ⟨wx, rfl⟩ := Past.ofd hx) | (obtain ⟨wx, rfl⟩ := Past.of hx)))))
      all_goals (go_ret2; refine ⟨ret_two (congrArg (Value.int .i64) ?_) (congrArg (Value.int .i64) ?_), (by repeat (first | with_reducible exact Ext.refl _ | with_reducible assumption | with_reducible refine Ext.alloc ?_ _ | with_reducible refine Ext.drew ?_ | (with_reducible refine Ext.setAt ?_ _ _ _ ?_; rotate_left; omega) | with_reducible refine Ext.trans ?_ (by assumption) | with_reducible exact Past.bel _ | with_reducible refine Ext.trans ?_ (Past.bel _)))⟩)
      all_goals simp [offCode, offRes, HC.out, hh]
    · have hh' : inB hr 0 10000 = false := by simpa using hh
      go_enter Try.func34, Try.ntmps34
      go_wp2_with (first | (go_at_call 56; ((with_reducible refine (l14Code_c _ _ _ _ _ _).mono ?_); rintro e w' ⟨rfl, hx⟩; (first | (obtain ⟨wx, rfl⟩ := Past.again hx) | (obtain ⟨wx, rfl⟩ := Past.ofd hx) | (obtain ⟨wx, rfl⟩ := Past.of hx)))) | (go_at_call 63; ((with_reducible refine (l00In_c _ _ _ _).mono ?_); rintro e w' ⟨rfl, rfl⟩)))
      all_goals (go_ret2; refine ⟨ret_two (congrArg (Value.int .i64) ?_) (congrArg (Value.int .i64) ?_), (by repeat (first | with_reducible exact Ext.refl _ | with_reducible assumption | with_reducible refine Ext.alloc ?_ _ | with_reducible refine Ext.drew ?_ | (with_reducible refine Ext.setAt ?_ _ _ _ ?_; rotate_left; omega) | with_reducible refine Ext.trans ?_ (by assumption) | with_reducible exact Past.bel _ | with_reducible refine Ext.trans ?_ (Past.bel _)))⟩)
      all_goals simp [offCode, offRes, HC.out, hh']
  · have hv' : (codeF c x y xx xy != 0) = true := by simpa using hv
    go_enter Try.func34, Try.ntmps34
    go_wp2_with (go_at_call 56; ((with_reducible refine (l14Code_c _ _ _ _ _ _).mono ?_); rintro e w' ⟨rfl, hx⟩; (first | (obtain ⟨wx, rfl⟩ := Past.again hx) | (obtain ⟨wx, rfl⟩ := Past.ofd hx) | (obtain ⟨wx, rfl⟩ := Past.of hx))))
    all_goals (go_ret2; refine ⟨ret_two (congrArg (Value.int .i64) ?_) (congrArg (Value.int .i64) ?_), (by repeat (first | with_reducible exact Ext.refl _ | with_reducible assumption | with_reducible refine Ext.alloc ?_ _ | with_reducible refine Ext.drew ?_ | (with_reducible refine Ext.setAt ?_ _ _ _ ?_; rotate_left; omega) | with_reducible refine Ext.trans ?_ (by assumption) | with_reducible exact Past.bel _ | with_reducible refine Ext.trans ?_ (Past.bel _)))⟩)
    all_goals simp_all [offCode, offRes]
def addNone : Value := .agg #[.int .i64 0, .int .i64 0, .int .i64 0, .int .i64 0, .int .i64 0]
theorem add_ret {c x y xx xy c' x' y' xx' xy' k : Int} {v : Value} (h : k = addCode c x y xx xy c' x' y' xx' xy') (hv : v = addV c x y xx xy c' x' y' xx' xy') :
    Ending.returned (.tuple #[v, .int .i64 k]) = .returned (.tuple #[addV c x y xx xy c' x' y' xx' xy', .int .i64 (addCode c x y xx xy c' x' y' xx' xy')]) := by rw [h, hv]
theorem add_wraps {c x y xx xy c' x' y' xx' xy' : Int} (f : FB c x y xx xy) (f' : FB c' x' y' xx' xy') :
    Value.agg #[.int .i64 (c + c'), .int .i64 (wrap64 (x + x')), .int .i64 (wrap64 (y + y')), .int .i64 (wrap64 (xx + xx')), .int .i64 (wrap64 (xy + xy'))] = .agg #[.int .i64 (c + c'), .int .i64 (x + x'), .int .i64 (y + y'), .int .i64 (xx + xx'), .int .i64 (xy + xy')] := by
  obtain ⟨a0, a1, a2, a3, a4, a5, a6, a7, a8, a9, a10⟩ := f
  obtain ⟨b0, b1, b2, b3, b4, b5, b6, b7, b8, b9, b10⟩ := f'
  rw [IntWalk.wrap64_in (x + x') (by omega), IntWalk.wrap64_in (y + y') (by omega), IntWalk.wrap64_in (xx + xx') (by omega), IntWalk.wrap64_in (xy + xy') (by omega)]
set_option maxHeartbeats 800000 in
theorem addFits_c (c x y xx xy c' x' y' xx' xy' : Int) (w : World) :
    Calls Try.prog 22 #[.agg #[.int .i64 c, .int .i64 x, .int .i64 y, .int .i64 xx, .int .i64 xy], .agg #[.int .i64 c', .int .i64 x', .int .i64 y', .int .i64 xx', .int .i64 xy']] w
      fun e w' => e = .returned (.tuple #[addV c x y xx xy c' x' y' xx' xy', .int .i64 (addCode c x y xx xy c' x' y' xx' xy')]) ∧ Ext w w' := by
  by_cases hv : vF c x y xx xy = true
  · have f := vF_fb hv
    by_cases hv' : vF c' x' y' xx' xy' = true
    · have f' := vF_fb hv'
      have a0 := f.c0
      have a1 := f.c1
      have b0 := f'.c0
      have b1 := f'.c1
      by_cases h60 : 60 < c + c'
      · go_enter Try.func22, Try.ntmps22
        go_wp2_with (go_at_call 23; ((with_reducible refine (validFit_c _ _ _ _ _ _).mono ?_); rintro e w' ⟨rfl, hx⟩; (first | (obtain ⟨wx, rfl⟩ := Past.again hx) | (obtain ⟨wx, rfl⟩ := Past.ofd hx) | (obtain ⟨wx, rfl⟩ := Past.of hx))))
        have he : addCode c x y xx xy c' x' y' xx' xy' = 5 := by simp [addCode, hv, hv', h60]
        exact bodyPost_ret (v := .tuple #[addNone, .int .i64 5]) (by simp [results, Try.results22, go_sem, addNone]) rfl ⟨add_ret he.symm (by rw [addV, he]; rfl), (by repeat (first | with_reducible exact Ext.refl _ | with_reducible assumption | with_reducible refine Ext.alloc ?_ _ | with_reducible refine Ext.drew ?_ | (with_reducible refine Ext.setAt ?_ _ _ _ ?_; rotate_left; omega) | with_reducible refine Ext.trans ?_ (by assumption) | with_reducible exact Past.bel _ | with_reducible refine Ext.trans ?_ (Past.bel _)))⟩
      · go_enter Try.func22, Try.ntmps22
        go_wp2_with (go_at_call 23; ((with_reducible refine (validFit_c _ _ _ _ _ _).mono ?_); rintro e w' ⟨rfl, hx⟩; (first | (obtain ⟨wx, rfl⟩ := Past.again hx) | (obtain ⟨wx, rfl⟩ := Past.ofd hx) | (obtain ⟨wx, rfl⟩ := Past.of hx))))
        have he : addCode c x y xx xy c' x' y' xx' xy' = 0 := by simp [addCode, hv, hv', h60]
        exact bodyPost_ret (v := .tuple #[.agg #[.int .i64 (c + c'), .int .i64 (wrap64 (x + x')), .int .i64 (wrap64 (y + y')), .int .i64 (wrap64 (xx + xx')), .int .i64 (wrap64 (xy + xy'))], .int .i64 0]) (by simp [results, Try.results22, go_sem]) rfl ⟨add_ret he.symm (by rw [addV, he]; exact add_wraps f f'), (by repeat (first | with_reducible exact Ext.refl _ | with_reducible assumption | with_reducible refine Ext.alloc ?_ _ | with_reducible refine Ext.drew ?_ | (with_reducible refine Ext.setAt ?_ _ _ _ ?_; rotate_left; omega) | with_reducible refine Ext.trans ?_ (by assumption) | with_reducible exact Past.bel _ | with_reducible refine Ext.trans ?_ (Past.bel _)))⟩
    · have hf' : vF c' x' y' xx' xy' = false := by simpa using hv'
      go_enter Try.func22, Try.ntmps22
      go_wp2_with (go_at_call 23; ((with_reducible refine (validFit_c _ _ _ _ _ _).mono ?_); rintro e w' ⟨rfl, hx⟩; (first | (obtain ⟨wx, rfl⟩ := Past.again hx) | (obtain ⟨wx, rfl⟩ := Past.ofd hx) | (obtain ⟨wx, rfl⟩ := Past.of hx))))
      have he : addCode c x y xx xy c' x' y' xx' xy' = 1 := by simp [addCode, hv, hv']
      exact bodyPost_ret (v := .tuple #[addNone, .int .i64 1]) (by simp [results, Try.results22, go_sem, addNone]) rfl ⟨add_ret he.symm (by rw [addV, he]; rfl), (by repeat (first | with_reducible exact Ext.refl _ | with_reducible assumption | with_reducible refine Ext.alloc ?_ _ | with_reducible refine Ext.drew ?_ | (with_reducible refine Ext.setAt ?_ _ _ _ ?_; rotate_left; omega) | with_reducible refine Ext.trans ?_ (by assumption) | with_reducible exact Past.bel _ | with_reducible refine Ext.trans ?_ (Past.bel _)))⟩
  · have hf : vF c x y xx xy = false := by simpa using hv
    go_enter Try.func22, Try.ntmps22
    go_wp2_with (go_at_call 23; ((with_reducible refine (validFit_c _ _ _ _ _ _).mono ?_); rintro e w' ⟨rfl, hx⟩; (first | (obtain ⟨wx, rfl⟩ := Past.again hx) | (obtain ⟨wx, rfl⟩ := Past.ofd hx) | (obtain ⟨wx, rfl⟩ := Past.of hx))))
    have he : addCode c x y xx xy c' x' y' xx' xy' = 1 := by simp [addCode, hv]
    exact bodyPost_ret (v := .tuple #[addNone, .int .i64 1]) (by simp [results, Try.results22, go_sem, addNone]) rfl ⟨add_ret he.symm (by rw [addV, he]; rfl), (by repeat (first | with_reducible exact Ext.refl _ | with_reducible assumption | with_reducible refine Ext.alloc ?_ _ | with_reducible refine Ext.drew ?_ | (with_reducible refine Ext.setAt ?_ _ _ _ ?_; rotate_left; omega) | with_reducible refine Ext.trans ?_ (by assumption) | with_reducible exact Past.bel _ | with_reducible refine Ext.trans ?_ (Past.bel _)))⟩
end Go.Proofs.Ytmbpjlgeneemjaa

namespace Go.Proofs.Ytmbpjlgeneemjaa
open Go.RowKit
set_option linter.unusedVariables false
set_option linter.unusedSimpArgs false

theorem toReading_c (a b : Int) (w : World) :
    Calls Try.prog 68 #[.agg #[.int .i64 a, .int .i64 b]] w fun e w' => e = .returned (.agg #[.int .i64 a, .int .i64 b]) ∧ Ext w w' := by
  go_enter Try.func68, Try.ntmps68
  go_wp2
  exact bodyPost_ret (v := .agg #[.int .i64 a, .int .i64 b]) (by simp [results, Try.results68, go_sem]) rfl ⟨rfl, (by repeat (first | with_reducible exact Ext.refl _ | with_reducible assumption | with_reducible refine Ext.alloc ?_ _ | with_reducible refine Ext.drew ?_ | (with_reducible refine Ext.setAt ?_ _ _ _ ?_; rotate_left; omega) | with_reducible refine Ext.trans ?_ (by assumption) | with_reducible exact Past.bel _ | with_reducible refine Ext.trans ?_ (Past.bel _)))⟩
theorem eqReading_c (a b c d : Int) (w : World) :
    Calls Try.prog 70 #[.agg #[.int .i64 a, .int .i64 b], .agg #[.int .i64 c, .int .i64 d]] w fun e w' => e = .returned (.bool (eq2 a b c d)) ∧ Ext w w' := by
  go_enter Try.func70, Try.ntmps70
  go_wp2
  all_goals (go_ret; refine ⟨ret_bool ?_, (by repeat (first | with_reducible exact Ext.refl _ | with_reducible assumption | with_reducible refine Ext.alloc ?_ _ | with_reducible refine Ext.drew ?_ | (with_reducible refine Ext.setAt ?_ _ _ _ ?_; rotate_left; omega) | with_reducible refine Ext.trans ?_ (by assumption) | with_reducible exact Past.bel _ | with_reducible refine Ext.trans ?_ (Past.bel _)))⟩)
  all_goals simp_all [eq2]
theorem szReadingS_c (a : Option Addr) (n c : Nat) (l : Int) (w : World) (hl : 0 ≤ l) (hl' : l ≤ 1048576) (hn : n ≤ maxLen) :
    Calls Try.prog 37 #[.slice a n c, .int .i64 l] w fun e w' => e = .returned (.int .i64 (if l < n then -1 else l - n)) ∧ w = w' := by
  have hn' : (n : Int) ≤ 9223372036854775807 := by unfold maxLen at hn; omega
  clear hn
  by_cases h : l < n
  · go_enter Try.func37, Try.ntmps37
    go_wp2
    go_ret
    exact ⟨rfl, rfl⟩
  · go_enter Try.func37, Try.ntmps37
    go_wp2
    go_ret
    exact ⟨rfl, rfl⟩
set_option maxHeartbeats 400000 in
theorem toReadingS_c (a : Option Addr) (n c : Nat) (h o : Nat → Int) (w : World) (hn : n ≤ 1048576) (hs : S2 w a n h o) :
    Calls Try.prog 39 #[.slice a n c] w fun e w' => ∃ cur, e = .returned (.slice (some ⟨w.heap.size, 0, none⟩) n n) ∧ Ext w w' ∧ Blk w' w.heap.size 33 cur ∧ cur.size = n * 2 ∧ C2 cur n h o := by
  have HS := Lib.hid hs
  clear hs
  have hmk := make_run (P := Try.prog) 24 33 (.agg #[.int .i64 0, .int .i64 0]) 2 16 Try.underlying24 (by kernel_rfl) n (by omega) (by omega)
  go_enter Try.func39, Try.ntmps39
  go_wp2_with fail
  clear hmk
  go_loopw [4] (fun i wr => ∃ (k : Nat) (cur : Array Value), k ≤ n ∧ i = .int .i64 k ∧ Ext w wr ∧ Blk wr w.heap.size 33 cur ∧ cur.size = n * 2 ∧ C2 cur k h o) (fun i _ => n - (intOf i).toNat)
  case atStart => exact ⟨0, _, by omega, rfl, (by repeat (first | with_reducible exact Ext.refl _ | with_reducible assumption | with_reducible refine Ext.alloc ?_ _ | with_reducible refine Ext.drew ?_ | (with_reducible refine Ext.setAt ?_ _ _ _ ?_; rotate_left; omega) | with_reducible refine Ext.trans ?_ (by assumption) | with_reducible exact Past.bel _ | with_reducible refine Ext.trans ?_ (Past.bel _))), Blk.new _ _ _, Mk.size _ _, C2.zero _ _ _⟩
  case round =>
    obtain ⟨k, cur, hk, rfl, hext, hblk, hcs, hc2⟩ := hrel
    have HB := Lib.hid hblk
    have HC := Lib.hid hc2
    have HZ := Lib.hid hcs
    have hgs := hblk.lt
    by_cases hlt : k < n
    · obtain ⟨b1, o1, rfl, hb1, q1, q2⟩ := (S2.ext HS.out hext).at hlt
      have e1 : ∃ v, wr.cell? ⟨w.heap.size, k * 2, none⟩ = some v := ⟨cur[k * 2]'(by omega), by rw [hblk.cell]; simp⟩
      have e2 : ∃ v, wr.cell? ⟨w.heap.size, k * 2 + 1, none⟩ = some v := ⟨cur[k * 2 + 1]'(by omega), by rw [hblk.cell]; simp⟩
      obtain ⟨v1, e1⟩ := e1
      obtain ⟨v2, e2⟩ := e2
      have f1 := hblk.frozen (k * 2)
      have f2 := hblk.frozen (k * 2 + 1)
      clear hblk hcs hc2
      go_wp2_with (go_at_call 68; ((with_reducible refine (toReading_c _ _ _).mono ?_); rintro e w' ⟨rfl, hx⟩; (first | (obtain ⟨wx, rfl⟩ := Past.again hx) | (obtain ⟨wx, rfl⟩ := Past.ofd hx) | (obtain ⟨wx, rfl⟩ := Past.of hx))))
      exact ⟨⟨k + 1, _, by omega, by go_num, (by repeat (first | with_reducible exact Ext.refl _ | with_reducible assumption | with_reducible refine Ext.alloc ?_ _ | with_reducible refine Ext.drew ?_ | (with_reducible refine Ext.setAt ?_ _ _ _ ?_; rotate_left; omega) | with_reducible refine Ext.trans ?_ (by assumption) | with_reducible exact Past.bel _ | with_reducible refine Ext.trans ?_ (Past.bel _))), ((HB.out.ext (Past.bel wx)).set _ _).set _ _, by simp [HZ.out], HC.out.step (by rw [HZ.out]; omega)⟩, by simp [intOf]; omega⟩
    · clear hblk hcs hc2
      obtain rfl : k = n := by omega
      go_wp2_with fail
      go_ret
      exact ⟨cur, rfl, hext, HB.out, HZ.out, HC.out⟩
set_option maxHeartbeats 400000 in
theorem eqReadingS_c (aa ab : Option Addr) (n m ca cb : Nat) (h o h' o' : Nat → Int) (w : World) (hn : n ≤ 1048576) (hm : m ≤ 1048576) (ha : S2 w aa n h o) (hb : S2 w ab m h' o') :
    Calls Try.prog 41 #[.slice aa n ca, .slice ab m cb] w fun e w' => e = .returned (.bool (n == m && eqTo h o h' o' n)) ∧ Ext w w' := by
  have HA := Lib.hid ha
  have HB := Lib.hid hb
  clear ha hb
  by_cases hnm : n = m
  · subst hnm
    go_enter Try.func41, Try.ntmps41
    go_wp2_with fail
    go_loopw [5] (fun i wr => ∃ k : Nat, k ≤ n ∧ i = .int .i64 k ∧ Ext w wr ∧ eqTo h o h' o' k = true) (fun i _ => n - (intOf i).toNat)
    case atStart => exact ⟨0, by omega, rfl, Ext.refl _, rfl⟩
    case round =>
      obtain ⟨k, hk, rfl, hbl, heq⟩ := hrel
      have HE := Lib.hid heq
      clear heq
      by_cases hlt : k < n
      · obtain ⟨b1, o1, rfl, hb1, q1, q2⟩ := (S2.ext HA.out hbl).at hlt
        obtain ⟨b2, o2, rfl, hb2, q3, q4⟩ := (S2.ext HB.out hbl).at hlt
        go_wp2_with fail
        refine wp_region_past (by kernel_rfl) (by kernel_rfl) ?_
        repeat (go_big_quiet_step ((go_at_call 70; exact Calls.past (eqReading_c _ _ _ _ _))))
        refine wpQuiet_nil ?_
        rintro _ ⟨wx, rfl⟩
        go_wp2_with fail
        · have ht : eq2 (h k) (o k) (h' k) (o' k) = false := by simpa using ‹(!eq2 (h k) (o k) (h' k) (o' k)) = true›
          go_ret
          exact ⟨ret_bool (by rw [eqTo_ff hlt ht]; simp), (by repeat (first | with_reducible exact Ext.refl _ | with_reducible assumption | with_reducible refine Ext.alloc ?_ _ | with_reducible refine Ext.drew ?_ | (with_reducible refine Ext.setAt ?_ _ _ _ ?_; rotate_left; omega) | with_reducible refine Ext.trans ?_ (by assumption) | with_reducible exact Past.bel _ | with_reducible refine Ext.trans ?_ (Past.bel _)))⟩
        · have ht : eq2 (h k) (o k) (h' k) (o' k) = true := by simpa using ‹(!eq2 (h k) (o k) (h' k) (o' k)) = false›
          exact ⟨⟨k + 1, by omega, by go_num, (by repeat (first | with_reducible exact Ext.refl _ | with_reducible assumption | with_reducible refine Ext.alloc ?_ _ | with_reducible refine Ext.drew ?_ | (with_reducible refine Ext.setAt ?_ _ _ _ ?_; rotate_left; omega) | with_reducible refine Ext.trans ?_ (by assumption) | with_reducible exact Past.bel _ | with_reducible refine Ext.trans ?_ (Past.bel _))), by simp [eqTo, HE.out, ht]⟩, by simp [intOf]; omega⟩
      · obtain rfl : k = n := by omega
        go_wp2_with fail
        go_ret
        exact ⟨ret_bool (by simp [HE.out]), hbl⟩
  · have hne : ((n : Int) != (m : Int)) = true := by simp; omega
    go_enter Try.func41, Try.ntmps41
    go_wp2_with fail
    go_ret
    exact ⟨ret_bool (by simp [hnm]), Ext.refl _⟩
end Go.Proofs.Ytmbpjlgeneemjaa

namespace Go.Proofs.Ytmbpjlgeneemjaa
open Go.RowKit
set_option linter.unusedVariables false
set_option linter.unusedSimpArgs false

set_option maxHeartbeats 1000000 in
theorem l14Ok_c (a : Option Addr) (n c : Nat) (h o : Nat → Int) (w : World) (hn : n ≤ 1048576) (hs : S2 w a n h o) :
    Calls Try.prog 48 #[.slice a n c] w fun e w' => e = .returned (.bool (rdV n h o)) ∧ Ext w w' := by
  have HS := Lib.hid hs
  clear hs
  go_enter Try.func48, Try.ntmps48
  go_wp2_with fail
  go_loopw [3] (fun i wr => ∃ k : Nat, k ≤ n ∧ i = .int .i64 k ∧ Ext w wr ∧ rdTo h o k = true) (fun i _ => n - (intOf i).toNat)
  case atStart => exact ⟨0, by omega, rfl, Ext.refl _, rfl⟩
  case round =>
    obtain ⟨k, hk, rfl, hbl, heq⟩ := hrel
    have HE := Lib.hid heq
    clear heq
    by_cases hlt : k < n
    · obtain ⟨b1, o1, rfl, hb1, q1, q2⟩ := (S2.ext HS.out hbl).at hlt
      rcases rd_ways h o k with ⟨g1, g2⟩ | ⟨g1, g2, g3⟩ | ⟨g1, g2, g3, g4⟩ | ⟨g1, g2, g3, g4, g5⟩ | ⟨g1, g2, g3, g4, g5⟩
      · have G := Lib.hid g2
        clear g2
        go_wp2_with fail
        refine wp_region_past (by kernel_rfl) (by kernel_rfl) ?_
        repeat (go_big_quiet_step ((first | (go_at_call 63; exact Calls.past_same (l00In_c _ _ _ _)))))
        refine wpQuiet_nil ?_
        rintro _ ⟨wx, rfl⟩
        go_wp2_with fail
        go_ret
        exact ⟨ret_bool (rdV_ff hlt G.out), (by repeat (first | with_reducible exact Ext.refl _ | with_reducible assumption | with_reducible refine Ext.alloc ?_ _ | with_reducible refine Ext.drew ?_ | (with_reducible refine Ext.setAt ?_ _ _ _ ?_; rotate_left; omega) | with_reducible refine Ext.trans ?_ (by assumption) | with_reducible exact Past.bel _ | with_reducible refine Ext.trans ?_ (Past.bel _)))⟩
      · have G := Lib.hid g3
        clear g3
        go_wp2_with fail
        refine wp_region_past (by kernel_rfl) (by kernel_rfl) ?_
        repeat (go_big_quiet_step ((first | (go_at_call 63; exact Calls.past_same (l00In_c _ _ _ _)))))
        refine wpQuiet_nil ?_
        rintro _ ⟨wx, rfl⟩
        go_wp2_with fail
        go_ret
        exact ⟨ret_bool (rdV_ff hlt G.out), (by repeat (first | with_reducible exact Ext.refl _ | with_reducible assumption | with_reducible refine Ext.alloc ?_ _ | with_reducible refine Ext.drew ?_ | (with_reducible refine Ext.setAt ?_ _ _ _ ?_; rotate_left; omega) | with_reducible refine Ext.trans ?_ (by assumption) | with_reducible exact Past.bel _ | with_reducible refine Ext.trans ?_ (Past.bel _)))⟩
      · have G := Lib.hid g4
        have hd : decide (0 < k) = false := by simp; omega
        clear g3 g4
        go_wp2_with fail
        refine wp_region_past (by kernel_rfl) (by kernel_rfl) ?_
        repeat (go_big_quiet_step ((first | (go_at_call 63; exact Calls.past_same (l00In_c _ _ _ _)))))
        refine wpQuiet_nil ?_
        rintro _ ⟨wx, rfl⟩
        go_wp2_with fail
        exact ⟨⟨k + 1, by omega, by go_num, (by repeat (first | with_reducible exact Ext.refl _ | with_reducible assumption | with_reducible refine Ext.alloc ?_ _ | with_reducible refine Ext.drew ?_ | (with_reducible refine Ext.setAt ?_ _ _ _ ?_; rotate_left; omega) | with_reducible refine Ext.trans ?_ (by assumption) | with_reducible exact Past.bel _ | with_reducible refine Ext.trans ?_ (Past.bel _))), by simp [rdTo, HE.out, G.out]⟩, by simp [intOf]; omega⟩
      · have G := Lib.hid g5
        have hd : decide (0 < k) = true := by simp; omega
        obtain ⟨_, _, hh, _, q3, q4⟩ := (S2.ext HS.out hbl).at (show k - 1 < n by omega)
        obtain ⟨rfl, rfl⟩ := by simpa using hh
        clear g5
        go_wp2_with fail
        refine wp_region_past (by kernel_rfl) (by kernel_rfl) ?_
        repeat (go_big_quiet_step ((first | (go_at_call 63; exact Calls.past_same (l00In_c _ _ _ _)))))
        refine wpQuiet_nil ?_
        rintro _ ⟨wx, rfl⟩
        go_wp2_with fail
        go_ret
        exact ⟨ret_bool (rdV_ff hlt G.out), (by repeat (first | with_reducible exact Ext.refl _ | with_reducible assumption | with_reducible refine Ext.alloc ?_ _ | with_reducible refine Ext.drew ?_ | (with_reducible refine Ext.setAt ?_ _ _ _ ?_; rotate_left; omega) | with_reducible refine Ext.trans ?_ (by assumption) | with_reducible exact Past.bel _ | with_reducible refine Ext.trans ?_ (Past.bel _)))⟩
      · have G := Lib.hid g5
        have hd : decide (0 < k) = true := by simp; omega
        have hd2 : decide (h k ≤ h (k - 1)) = false := by simp; omega
        obtain ⟨_, _, hh, _, q3, q4⟩ := (S2.ext HS.out hbl).at (show k - 1 < n by omega)
        obtain ⟨rfl, rfl⟩ := by simpa using hh
        clear g5
        go_wp2_with fail
        refine wp_region_past (by kernel_rfl) (by kernel_rfl) ?_
        repeat (go_big_quiet_step ((first | (go_at_call 63; exact Calls.past_same (l00In_c _ _ _ _)))))
        refine wpQuiet_nil ?_
        rintro _ ⟨wx, rfl⟩
        go_wp2_with fail
        exact ⟨⟨k + 1, by omega, by go_num, (by repeat (first | with_reducible exact Ext.refl _ | with_reducible assumption | with_reducible refine Ext.alloc ?_ _ | with_reducible refine Ext.drew ?_ | (with_reducible refine Ext.setAt ?_ _ _ _ ?_; rotate_left; omega) | with_reducible refine Ext.trans ?_ (by assumption) | with_reducible exact Past.bel _ | with_reducible refine Ext.trans ?_ (Past.bel _))), by simp [rdTo, HE.out, G.out]⟩, by simp [intOf]; omega⟩
    · obtain rfl : k = n := by omega
      go_wp2_with fail
      go_ret
      exact ⟨ret_bool (by rw [rdV, HE.out]; simp; omega), (by repeat (first | with_reducible exact Ext.refl _ | with_reducible assumption | with_reducible refine Ext.alloc ?_ _ | with_reducible refine Ext.drew ?_ | (with_reducible refine Ext.setAt ?_ _ _ _ ?_; rotate_left; omega) | with_reducible refine Ext.trans ?_ (by assumption) | with_reducible exact Past.bel _ | with_reducible refine Ext.trans ?_ (Past.bel _)))⟩
theorem specValidReadings_c (a : Option Addr) (n c : Nat) (h o : Nat → Int) (w : World) (hn : n ≤ 1048576) (hs : S2 w a n h o) :
    Calls Try.prog 21 #[.slice a n c] w fun e w' => e = .returned (.bool (rdV n h o)) ∧ Ext w w' := by
  have HS := Lib.hid hs
  clear hs
  go_enter Try.func21, Try.ntmps21
  go_wp2_with (go_at_call 48; ((with_reducible refine (l14Ok_c _ _ _ _ _ _ hn HS.out).mono ?_); rintro e w' ⟨rfl, hx⟩; (first | (obtain ⟨wx, rfl⟩ := Past.again hx) | (obtain ⟨wx, rfl⟩ := Past.ofd hx) | (obtain ⟨wx, rfl⟩ := Past.of hx))))
  go_ret
  exact ⟨rfl, (by repeat (first | with_reducible exact Ext.refl _ | with_reducible assumption | with_reducible refine Ext.alloc ?_ _ | with_reducible refine Ext.drew ?_ | (with_reducible refine Ext.setAt ?_ _ _ _ ?_; rotate_left; omega) | with_reducible refine Ext.trans ?_ (by assumption) | with_reducible exact Past.bel _ | with_reducible refine Ext.trans ?_ (Past.bel _)))⟩
set_option maxHeartbeats 1000000 in
theorem validReadings_c (a : Option Addr) (n c : Nat) (h o : Nat → Int) (w : World) (hn : n ≤ 1048576) (hs : S2 w a n h o) :
    Calls Try.prog 20 #[.slice a n c] w fun e w' => e = .returned (.bool (rdV n h o)) ∧ Ext w w' := by
  have HS := Lib.hid hs
  clear hs
  go_enter Try.func20, Try.ntmps20
  go_wp2_with fail
  go_loopw [7] (fun i wr => ∃ k : Nat, k ≤ n ∧ i = .int .i64 k ∧ Ext w wr ∧ rdTo h o k = true) (fun i _ => n - (intOf i).toNat)
  case atStart => exact ⟨0, by omega, rfl, Ext.refl _, rfl⟩
  case round =>
    obtain ⟨k, hk, rfl, hbl, heq⟩ := hrel
    have HE := Lib.hid heq
    clear heq
    by_cases hlt : k < n
    · obtain ⟨b1, o1, rfl, hb1, q1, q2⟩ := (S2.ext HS.out hbl).at hlt
      have hb2 : b1 < wr.heap.size + 1 := by omega
      rcases rd_ways h o k with ⟨g1, g2⟩ | ⟨g1, g2, g3⟩ | ⟨g1, g2, g3, g4⟩ | ⟨g1, g2, g3, g4, g5⟩ | ⟨g1, g2, g3, g4, g5⟩
      · have G := Lib.hid g2
        clear g2
        go_wp2_with fail
        refine wp_region_past (by kernel_rfl) (by kernel_rfl) ?_
        repeat (go_big_quiet_step ((first | (go_at_call 50; exact Calls.past_same (within_c _ _ _ _)))))
        refine wpQuiet_nil ?_
        rintro _ ⟨wx, rfl⟩
        go_wp2_with fail
        go_ret
        exact ⟨ret_bool (rdV_ff hlt G.out), (by repeat (first | with_reducible exact Ext.refl _ | with_reducible assumption | with_reducible refine Ext.alloc ?_ _ | with_reducible refine Ext.drew ?_ | (with_reducible refine Ext.setAt ?_ _ _ _ ?_; rotate_left; omega) | with_reducible refine Ext.trans ?_ (by assumption) | with_reducible exact Past.bel _ | with_reducible refine Ext.trans ?_ (Past.bel _)))⟩
      · have G := Lib.hid g3
        clear g3
        go_wp2_with fail
        refine wp_region_past (by kernel_rfl) (by kernel_rfl) ?_
        repeat (go_big_quiet_step ((first | (go_at_call 50; exact Calls.past_same (within_c _ _ _ _)))))
        refine wpQuiet_nil ?_
        rintro _ ⟨wx, rfl⟩
        go_wp2_with fail
        go_ret
        exact ⟨ret_bool (rdV_ff hlt G.out), (by repeat (first | with_reducible exact Ext.refl _ | with_reducible assumption | with_reducible refine Ext.alloc ?_ _ | with_reducible refine Ext.drew ?_ | (with_reducible refine Ext.setAt ?_ _ _ _ ?_; rotate_left; omega) | with_reducible refine Ext.trans ?_ (by assumption) | with_reducible exact Past.bel _ | with_reducible refine Ext.trans ?_ (Past.bel _)))⟩
      · have G := Lib.hid g4
        have hd : decide (0 < k) = false := by simp; omega
        clear g3 g4
        go_wp2_with fail
        refine wp_region_past (by kernel_rfl) (by kernel_rfl) ?_
        repeat (go_big_quiet_step ((first | (go_at_call 50; exact Calls.past_same (within_c _ _ _ _)))))
        refine wpQuiet_nil ?_
        rintro _ ⟨wx, rfl⟩
        go_wp2_with fail
        exact ⟨⟨k + 1, by omega, by go_num, (by repeat (first | with_reducible exact Ext.refl _ | with_reducible assumption | with_reducible refine Ext.alloc ?_ _ | with_reducible refine Ext.drew ?_ | (with_reducible refine Ext.setAt ?_ _ _ _ ?_; rotate_left; omega) | with_reducible refine Ext.trans ?_ (by assumption) | with_reducible exact Past.bel _ | with_reducible refine Ext.trans ?_ (Past.bel _))), by simp [rdTo, HE.out, G.out]⟩, by simp [intOf]; omega⟩
      · have G := Lib.hid g5
        have hd : decide (0 < k) = true := by simp; omega
        obtain ⟨_, _, hh, _, q3, q4⟩ := (S2.ext HS.out hbl).at (show k - 1 < n by omega)
        obtain ⟨rfl, rfl⟩ := by simpa using hh
        clear g5
        go_wp2_with fail
        refine wp_region_past (by kernel_rfl) (by kernel_rfl) ?_
        repeat (go_big_quiet_step ((first | (go_at_call 50; exact Calls.past_same (within_c _ _ _ _)))))
        refine wpQuiet_nil ?_
        rintro _ ⟨wx, rfl⟩
        go_wp2_with fail
        go_ret
        exact ⟨ret_bool (rdV_ff hlt G.out), (by repeat (first | with_reducible exact Ext.refl _ | with_reducible assumption | with_reducible refine Ext.alloc ?_ _ | with_reducible refine Ext.drew ?_ | (with_reducible refine Ext.setAt ?_ _ _ _ ?_; rotate_left; omega) | with_reducible refine Ext.trans ?_ (by assumption) | with_reducible exact Past.bel _ | with_reducible refine Ext.trans ?_ (Past.bel _)))⟩
      · have G := Lib.hid g5
        have hd : decide (0 < k) = true := by simp; omega
        have hd2 : decide (h k ≤ h (k - 1)) = false := by simp; omega
        obtain ⟨_, _, hh, _, q3, q4⟩ := (S2.ext HS.out hbl).at (show k - 1 < n by omega)
        obtain ⟨rfl, rfl⟩ := by simpa using hh
        clear g5
        go_wp2_with fail
        refine wp_region_past (by kernel_rfl) (by kernel_rfl) ?_
        repeat (go_big_quiet_step ((first | (go_at_call 50; exact Calls.past_same (within_c _ _ _ _)))))
        refine wpQuiet_nil ?_
        rintro _ ⟨wx, rfl⟩
        go_wp2_with fail
        exact ⟨⟨k + 1, by omega, by go_num, (by repeat (first | with_reducible exact Ext.refl _ | with_reducible assumption | with_reducible refine Ext.alloc ?_ _ | with_reducible refine Ext.drew ?_ | (with_reducible refine Ext.setAt ?_ _ _ _ ?_; rotate_left; omega) | with_reducible refine Ext.trans ?_ (by assumption) | with_reducible exact Past.bel _ | with_reducible refine Ext.trans ?_ (Past.bel _))), by simp [rdTo, HE.out, G.out]⟩, by simp [intOf]; omega⟩
    · obtain rfl : k = n := by omega
      go_wp2_with fail
      go_ret
      exact ⟨ret_bool (by rw [rdV, HE.out]; simp; omega), (by repeat (first | with_reducible exact Ext.refl _ | with_reducible assumption | with_reducible refine Ext.alloc ?_ _ | with_reducible refine Ext.drew ?_ | (with_reducible refine Ext.setAt ?_ _ _ _ ?_; rotate_left; omega) | with_reducible refine Ext.trans ?_ (by assumption) | with_reducible exact Past.bel _ | with_reducible refine Ext.trans ?_ (Past.bel _)))⟩
end Go.Proofs.Ytmbpjlgeneemjaa

namespace Go.Proofs.Ytmbpjlgeneemjaa
open Go.RowKit
set_option linter.unusedVariables false
set_option linter.unusedSimpArgs false

def fitA (c x y xx xy : Int) : Array Value := #[.int .i64 c, .int .i64 x, .int .i64 y, .int .i64 xx, .int .i64 xy]
/-- a block that holds a fit: its cells -/
theorem fit_cells {w : World} {g T : Nat} {c x y xx xy : Int} (b : Blk w g T (fitA c x y xx xy)) :
    (w.cell? ⟨g, 0, none⟩ = some (.int .i64 c) ∧ w.cell? ⟨g, 1, none⟩ = some (.int .i64 x) ∧ w.cell? ⟨g, 2, none⟩ = some (.int .i64 y) ∧ w.cell? ⟨g, 3, none⟩ = some (.int .i64 xx) ∧ w.cell? ⟨g, 4, none⟩ = some (.int .i64 xy)) ∧
    (w.frozen? ⟨g, 0, none⟩ = false ∧ w.frozen? ⟨g, 1, none⟩ = false ∧ w.frozen? ⟨g, 2, none⟩ = false ∧ w.frozen? ⟨g, 3, none⟩ = false ∧ w.frozen? ⟨g, 4, none⟩ = false) :=
  ⟨⟨b.cell 0, b.cell 1, b.cell 2, b.cell 3, b.cell 4⟩, b.frozen 0, b.frozen 1, b.frozen 2, b.frozen 3, b.frozen 4⟩
theorem fit_set {w : World} {g T : Nat} {c x y xx xy c' x' y' xx' xy' : Int} (b : Blk w g T (fitA c x y xx xy)) :
    Blk (((((w.setCell ⟨g, 0, none⟩ (.int .i64 c')).setCell ⟨g, 1, none⟩ (.int .i64 x')).setCell ⟨g, 2, none⟩ (.int .i64 y')).setCell ⟨g, 3, none⟩ (.int .i64 xx')).setCell ⟨g, 4, none⟩ (.int .i64 xy')) g T (fitA c' x' y' xx' xy') :=
  ((((b.set 0 _).set 1 _).set 2 _).set 3 _).set 4 _
theorem fit_other {w : World} {g T b : Nat} {cur : Array Value} {u0 u1 u2 u3 u4 : Value} (h : Blk w g T cur) (hne : g ≠ b) :
    Blk (((((w.setCell ⟨b, 0, none⟩ u0).setCell ⟨b, 1, none⟩ u1).setCell ⟨b, 2, none⟩ u2).setCell ⟨b, 3, none⟩ u3).setCell ⟨b, 4, none⟩ u4) g T cur :=
  ((((h.other _ _ _ hne).other _ _ _ hne).other _ _ _ hne).other _ _ _ hne).other _ _ _ hne
theorem two_new (w : World) (T : Nat) (c1 c2 : Array Value) : Blk ((w.alloc (.cells c1 T)).alloc (.cells c2 T)) w.heap.size T c1 ∧ Blk ((w.alloc (.cells c1 T)).alloc (.cells c2 T)) (w.heap.size + 1) T c2 :=
  ⟨(Blk.new w c1 T).ext ((Ext.refl _).alloc _), by have := Blk.new (w.alloc (.cells c1 T)) c2 T; rwa [World.size_alloc] at this⟩
set_option maxHeartbeats 1000000 in
theorem l14Fit_c (a : Option Addr) (n c : Nat) (h o : Nat → Int) (w : World) (hv : rdV n h o = true) (hs : S2 w a n h o) :
    Calls Try.prog 52 #[.slice a n c] w fun e w' => e = .returned (.agg #[.int .i64 n, .int .i64 (sm h n), .int .i64 (sm o n), .int .i64 (sXX h n), .int .i64 (sXY h o n)]) ∧ Ext w w' := by
  have HS := Lib.hid hs
  have r := rb_of hv
  have hn := r.n60
  clear hs hv
  go_enter Try.func52, Try.ntmps52
  go_wp2_with fail
  go_loopw [4] (fun i wr => ∃ k : Nat, k ≤ n ∧ i = .int .i64 k ∧ Ext w wr ∧ Blk wr w.heap.size 38 (fitA 0 0 0 0 0) ∧ Blk wr (w.heap.size + 1) 38 (fitA n (sm h k) (sm o k) (sXX h k) (sXY h o k))) (fun i _ => n - (intOf i).toNat)
  case atStart => exact ⟨0, by omega, rfl, (by repeat (first | with_reducible exact Ext.refl _ | with_reducible assumption | with_reducible refine Ext.alloc ?_ _ | with_reducible refine Ext.drew ?_ | (with_reducible refine Ext.setAt ?_ _ _ _ ?_; rotate_left; omega) | with_reducible refine Ext.trans ?_ (by assumption) | with_reducible exact Past.bel _ | with_reducible refine Ext.trans ?_ (Past.bel _))), (two_new _ _ _ _).1, (two_new _ _ _ _).2⟩
  case round =>
    obtain ⟨k, hk, rfl, hbl, hB0, hB1⟩ := hrel
    have H0 := Lib.hid hB0
    have H1 := Lib.hid hB1
    by_cases hlt : k < n
    · obtain ⟨⟨c0, c1, c2, c3, c4⟩, f0, f1, f2, f3, f4⟩ := fit_cells hB1
      clear hB0 hB1
      obtain ⟨b1, o1, rfl, hb1, q1, q2⟩ := (S2.ext HS.out hbl).at hlt
      obtain ⟨x0, x1, y0, y1, xx0, xx1, xy0, xy1⟩ := r.sb hk
      obtain ⟨hh0, hh1⟩ := r.hh hlt
      obtain ⟨ho0, ho1⟩ := r.ho hlt
      obtain ⟨h0, h1⟩ := r.bh k hlt
      obtain ⟨g0, g1⟩ := r.bo k hlt
      have R := Lib.hid r
      clear r
      go_wp2_with fail
      exact ⟨⟨k + 1, by omega, by go_num, (by repeat (first | with_reducible exact Ext.refl _ | with_reducible assumption | with_reducible refine Ext.alloc ?_ _ | with_reducible refine Ext.drew ?_ | (with_reducible refine Ext.setAt ?_ _ _ _ ?_; rotate_left; omega) | with_reducible refine Ext.trans ?_ (by assumption) | with_reducible exact Past.bel _ | with_reducible refine Ext.trans ?_ (Past.bel _))), fit_other H0.out (by omega), fit_set H1.out⟩, by simp [intOf]; omega⟩
    · obtain rfl : k = n := by omega
      obtain ⟨⟨c0, c1, c2, c3, c4⟩, f0, f1, f2, f3, f4⟩ := fit_cells hB1
      obtain ⟨⟨d0, d1, d2, d3, d4⟩, e0, e1, e2, e3, e4⟩ := fit_cells hB0
      clear hB0 hB1
      go_wp2_with fail
      exact bodyPost_ret (v := .agg (fitA k (sm h k) (sm o k) (sXX h k) (sXY h o k))) (by simp [results, Try.results52, go_sem, fitA, d0, d1, d2, d3, d4]) rfl ⟨rfl, (by repeat (first | with_reducible exact Ext.refl _ | with_reducible assumption | with_reducible refine Ext.alloc ?_ _ | with_reducible refine Ext.drew ?_ | (with_reducible refine Ext.setAt ?_ _ _ _ ?_; rotate_left; omega) | with_reducible refine Ext.trans ?_ (by assumption) | with_reducible exact Past.bel _ | with_reducible refine Ext.trans ?_ (Past.bel _)))⟩
set_option maxHeartbeats 2000000 in
theorem fitOf_c (a : Option Addr) (n c : Nat) (h o : Nat → Int) (w : World) (hv : rdV n h o = true) (hs : S2 w a n h o) :
    Calls Try.prog 47 #[.slice a n c] w fun e w' => e = .returned (.agg #[.int .i64 n, .int .i64 (sm h n), .int .i64 (sm o n), .int .i64 (sXX h n), .int .i64 (sXY h o n)]) ∧ Ext w w' := by
  have HS := Lib.hid hs
  have r := rb_of hv
  have hn := r.n60
  clear hs hv
  go_enter Try.func47, Try.ntmps47
  go_wp2_with fail
  go_loopw [8] (fun i wr => ∃ k : Nat, k ≤ n ∧ i = .int .i64 k ∧ Ext w wr ∧ Blk wr w.heap.size 38 (fitA 0 0 0 0 0) ∧ Blk wr (w.heap.size + 1) 38 (fitA k (sm h k) (sm o k) (sXX h k) (sXY h o k))) (fun i _ => n - (intOf i).toNat)
  case atStart => exact ⟨0, by omega, rfl, (by repeat (first | with_reducible exact Ext.refl _ | with_reducible assumption | with_reducible refine Ext.alloc ?_ _ | with_reducible refine Ext.drew ?_ | (with_reducible refine Ext.setAt ?_ _ _ _ ?_; rotate_left; omega) | with_reducible refine Ext.trans ?_ (by assumption) | with_reducible exact Past.bel _ | with_reducible refine Ext.trans ?_ (Past.bel _))), (two_new _ _ _ _).1, (two_new _ _ _ _).2⟩
  case round =>
    obtain ⟨k, hk, rfl, hbl, hB0, hB1⟩ := hrel
    have H0 := Lib.hid hB0
    have H1 := Lib.hid hB1
    by_cases hlt : k < n
    · obtain ⟨⟨c0, c1, c2, c3, c4⟩, f0, f1, f2, f3, f4⟩ := fit_cells hB1
      have hg := hB1.lt
      clear hB0 hB1
      obtain ⟨b1, o1, rfl, hb1, q1, q2⟩ := (S2.ext HS.out hbl).at hlt
      obtain ⟨x0, x1, y0, y1, xx0, xx1, xy0, xy1⟩ := r.sb hk
      obtain ⟨hh0, hh1⟩ := r.hh hlt
      obtain ⟨ho0, ho1⟩ := r.ho hlt
      obtain ⟨h0, h1⟩ := r.bh k hlt
      obtain ⟨g0, g1⟩ := r.bo k hlt
      have R := Lib.hid r
      clear r
      go_wp2_with fail
      exact ⟨⟨k + 1, by omega, by go_num, (by repeat (first | with_reducible exact Ext.refl _ | with_reducible assumption | with_reducible refine Ext.alloc ?_ _ | with_reducible refine Ext.drew ?_ | (with_reducible refine Ext.setAt ?_ _ _ _ ?_; rotate_left; omega) | with_reducible refine Ext.trans ?_ (by assumption) | with_reducible exact Past.bel _ | with_reducible refine Ext.trans ?_ (Past.bel _))), (fit_other H0.out (by omega)).ext ((Ext.refl _).alloc _), (fit_set H1.out).ext ((Ext.refl _).alloc _)⟩, by simp [intOf]; omega⟩
    · obtain rfl : k = n := by omega
      obtain ⟨⟨c0, c1, c2, c3, c4⟩, f0, f1, f2, f3, f4⟩ := fit_cells hB1
      obtain ⟨⟨d0, d1, d2, d3, d4⟩, e0, e1, e2, e3, e4⟩ := fit_cells hB0
      clear hB0 hB1
      go_wp2_with fail
      exact bodyPost_ret (v := .agg (fitA k (sm h k) (sm o k) (sXX h k) (sXY h o k))) (by simp [results, Try.results47, go_sem, fitA, d0, d1, d2, d3, d4]) rfl ⟨rfl, (by repeat (first | with_reducible exact Ext.refl _ | with_reducible assumption | with_reducible refine Ext.alloc ?_ _ | with_reducible refine Ext.drew ?_ | (with_reducible refine Ext.setAt ?_ _ _ _ ?_; rotate_left; omega) | with_reducible refine Ext.trans ?_ (by assumption) | with_reducible exact Past.bel _ | with_reducible refine Ext.trans ?_ (Past.bel _)))⟩
set_option maxHeartbeats 400000 in
theorem specFitOf_c (a : Option Addr) (n c : Nat) (h o : Nat → Int) (w : World) (hn : n ≤ 1048576) (hs : S2 w a n h o) :
    Calls Try.prog 18 #[.slice a n c] w fun e w' => e = .returned (.tuple #[.agg #[.int .i64 (fX (rdV n h o) n), .int .i64 (fX (rdV n h o) (sm h n)), .int .i64 (fX (rdV n h o) (sm o n)), .int .i64 (fX (rdV n h o) (sXX h n)), .int .i64 (fX (rdV n h o) (sXY h o n))], .int .i64 (fC (rdV n h o))]) ∧ Ext w w' := by
  have HS := Lib.hid hs
  clear hs
  by_cases hv : rdV n h o = true
  · have HV := Lib.hid hv
    go_enter Try.func18, Try.ntmps18
    go_wp2_with (first | (go_at_call 48; ((with_reducible refine (l14Ok_c _ _ _ _ _ _ hn (HS.out.ext (by repeat (first | with_reducible exact Ext.refl _ | with_reducible assumption | with_reducible refine Ext.alloc ?_ _ | with_reducible refine Ext.drew ?_ | (with_reducible refine Ext.setAt ?_ _ _ _ ?_; rotate_left; omega) | with_reducible refine Ext.trans ?_ (by assumption) | with_reducible exact Past.bel _ | with_reducible refine Ext.trans ?_ (Past.bel _))))).mono ?_); rintro e w' ⟨rfl, hx⟩; (first | (obtain ⟨wx, rfl⟩ := Past.again hx) | (obtain ⟨wx, rfl⟩ := Past.ofd hx) | (obtain ⟨wx, rfl⟩ := Past.of hx)))) | (go_at_call 52; ((with_reducible refine (l14Fit_c _ _ _ _ _ _ HV.out (HS.out.ext (by repeat (first | with_reducible exact Ext.refl _ | with_reducible assumption | with_reducible refine Ext.alloc ?_ _ | with_reducible refine Ext.drew ?_ | (with_reducible refine Ext.setAt ?_ _ _ _ ?_; rotate_left; omega) | with_reducible refine Ext.trans ?_ (by assumption) | with_reducible exact Past.bel _ | with_reducible refine Ext.trans ?_ (Past.bel _))))).mono ?_); rintro e w' ⟨rfl, hx⟩; (first | (obtain ⟨wx, rfl⟩ := Past.again hx) | (obtain ⟨wx, rfl⟩ := Past.ofd hx) | (obtain ⟨wx, rfl⟩ := Past.of hx)))))
    exact bodyPost_ret (v := .tuple #[.agg #[.int .i64 n, .int .i64 (sm h n), .int .i64 (sm o n), .int .i64 (sXX h n), .int .i64 (sXY h o n)], .int .i64 0]) (by simp [results, Try.results18, go_sem]) rfl ⟨by rw [HV.out]; rfl, (by repeat (first | with_reducible exact Ext.refl _ | with_reducible assumption | with_reducible refine Ext.alloc ?_ _ | with_reducible refine Ext.drew ?_ | (with_reducible refine Ext.setAt ?_ _ _ _ ?_; rotate_left; omega) | with_reducible refine Ext.trans ?_ (by assumption) | with_reducible exact Past.bel _ | with_reducible refine Ext.trans ?_ (Past.bel _)))⟩
  · have hf : rdV n h o = false := by simpa using hv
    go_enter Try.func18, Try.ntmps18
    go_wp2_with (first | (go_at_call 48; ((with_reducible refine (l14Ok_c _ _ _ _ _ _ hn (HS.out.ext (by repeat (first | with_reducible exact Ext.refl _ | with_reducible assumption | with_reducible refine Ext.alloc ?_ _ | with_reducible refine Ext.drew ?_ | (with_reducible refine Ext.setAt ?_ _ _ _ ?_; rotate_left; omega) | with_reducible refine Ext.trans ?_ (by assumption) | with_reducible exact Past.bel _ | with_reducible refine Ext.trans ?_ (Past.bel _))))).mono ?_); rintro e w' ⟨rfl, hx⟩; (first | (obtain ⟨wx, rfl⟩ := Past.again hx) | (obtain ⟨wx, rfl⟩ := Past.ofd hx) | (obtain ⟨wx, rfl⟩ := Past.of hx)))))
    exact bodyPost_ret (v := .tuple #[.agg #[.int .i64 0, .int .i64 0, .int .i64 0, .int .i64 0, .int .i64 0], .int .i64 1]) (by simp [results, Try.results18, go_sem]) rfl ⟨by rw [hf]; rfl, (by repeat (first | with_reducible exact Ext.refl _ | with_reducible assumption | with_reducible refine Ext.alloc ?_ _ | with_reducible refine Ext.drew ?_ | (with_reducible refine Ext.setAt ?_ _ _ _ ?_; rotate_left; omega) | with_reducible refine Ext.trans ?_ (by assumption) | with_reducible exact Past.bel _ | with_reducible refine Ext.trans ?_ (Past.bel _)))⟩
set_option maxHeartbeats 400000 in
theorem implFitOf_c (a : Option Addr) (n c : Nat) (h o : Nat → Int) (w : World) (hn : n ≤ 1048576) (hs : S2 w a n h o) :
    Calls Try.prog 17 #[.slice a n c] w fun e w' => e = .returned (.tuple #[.agg #[.int .i64 (fX (rdV n h o) n), .int .i64 (fX (rdV n h o) (sm h n)), .int .i64 (fX (rdV n h o) (sm o n)), .int .i64 (fX (rdV n h o) (sXX h n)), .int .i64 (fX (rdV n h o) (sXY h o n))], .int .i64 (fC (rdV n h o))]) ∧ Ext w w' := by
  have HS := Lib.hid hs
  clear hs
  by_cases hv : rdV n h o = true
  · have HV := Lib.hid hv
    go_enter Try.func17, Try.ntmps17
    go_wp2_with (first | (go_at_call 20; ((with_reducible refine (validReadings_c _ _ _ _ _ _ hn (HS.out.ext (by repeat (first | with_reducible exact Ext.refl _ | with_reducible assumption | with_reducible refine Ext.alloc ?_ _ | with_reducible refine Ext.drew ?_ | (with_reducible refine Ext.setAt ?_ _ _ _ ?_; rotate_left; omega) | with_reducible refine Ext.trans ?_ (by assumption) | with_reducible exact Past.bel _ | with_reducible refine Ext.trans ?_ (Past.bel _))))).mono ?_); rintro e w' ⟨rfl, hx⟩; (first | (obtain ⟨wx, rfl⟩ := Past.again hx) | (obtain ⟨wx, rfl⟩ := Past.ofd hx) | (obtain ⟨wx, rfl⟩ := Past.of hx)))) | (go_at_call 47; ((with_reducible refine (fitOf_c _ _ _ _ _ _ HV.out (HS.out.ext (by repeat (first | with_reducible exact Ext.refl _ | with_reducible assumption | with_reducible refine Ext.alloc ?_ _ | with_reducible refine Ext.drew ?_ | (with_reducible refine Ext.setAt ?_ _ _ _ ?_; rotate_left; omega) | with_reducible refine Ext.trans ?_ (by assumption) | with_reducible exact Past.bel _ | with_reducible refine Ext.trans ?_ (Past.bel _))))).mono ?_); rintro e w' ⟨rfl, hx⟩; (first | (obtain ⟨wx, rfl⟩ := Past.again hx) | (obtain ⟨wx, rfl⟩ := Past.ofd hx) | (obtain ⟨wx, rfl⟩ := Past.of hx)))))
    exact bodyPost_ret (v := .tuple #[.agg #[.int .i64 n, .int .i64 (sm h n), .int .i64 (sm o n), .int .i64 (sXX h n), .int .i64 (sXY h o n)], .int .i64 0]) (by simp [results, Try.results17, go_sem]) rfl ⟨by rw [HV.out]; rfl, (by repeat (first | with_reducible exact Ext.refl _ | with_reducible assumption | with_reducible refine Ext.alloc ?_ _ | with_reducible refine Ext.drew ?_ | (with_reducible refine Ext.setAt ?_ _ _ _ ?_; rotate_left; omega) | with_reducible refine Ext.trans ?_ (by assumption) | with_reducible exact Past.bel _ | with_reducible refine Ext.trans ?_ (Past.bel _)))⟩
  · have hf : rdV n h o = false := by simpa using hv
    go_enter Try.func17, Try.ntmps17
    go_wp2_with (first | (go_at_call 20; ((with_reducible refine (validReadings_c _ _ _ _ _ _ hn (HS.out.ext (by repeat (first | with_reducible exact Ext.refl _ | with_reducible assumption | with_reducible refine Ext.alloc ?_ _ | with_reducible refine Ext.drew ?_ | (with_reducible refine Ext.setAt ?_ _ _ _ ?_; rotate_left; omega) | with_reducible refine Ext.trans ?_ (by assumption) | with_reducible exact Past.bel _ | with_reducible refine Ext.trans ?_ (Past.bel _))))).mono ?_); rintro e w' ⟨rfl, hx⟩; (first | (obtain ⟨wx, rfl⟩ := Past.again hx) | (obtain ⟨wx, rfl⟩ := Past.ofd hx) | (obtain ⟨wx, rfl⟩ := Past.of hx)))))
    exact bodyPost_ret (v := .tuple #[.agg #[.int .i64 0, .int .i64 0, .int .i64 0, .int .i64 0, .int .i64 0], .int .i64 1]) (by simp [results, Try.results17, go_sem]) rfl ⟨by rw [hf]; rfl, (by repeat (first | with_reducible exact Ext.refl _ | with_reducible assumption | with_reducible refine Ext.alloc ?_ _ | with_reducible refine Ext.drew ?_ | (with_reducible refine Ext.setAt ?_ _ _ _ ?_; rotate_left; omega) | with_reducible refine Ext.trans ?_ (by assumption) | with_reducible exact Past.bel _ | with_reducible refine Ext.trans ?_ (Past.bel _)))⟩
end Go.Proofs.Ytmbpjlgeneemjaa

namespace Go.Proofs.Ytmbpjlgeneemjaa
open Go.RowKit
set_option linter.unusedVariables false
set_option linter.unusedSimpArgs false

theorem toReadingS_r (a : Option Addr) (n c : Nat) (h o : Nat → Int) (w : World) (hn : n ≤ 1048576) (hs : S2 w a n h o) :
    Calls Try.prog 39 #[.slice a n c] w fun e w' => ∃ g, e = .returned (.slice (some ⟨g, 0, none⟩) n n) ∧ Ext w w' ∧ S2 w' (some ⟨g, 0, none⟩) n h o :=
  (toReadingS_c a n c h o w hn hs).mono fun e w' ⟨cur, he, hx, hb, _, hc⟩ => ⟨_, he, hx, C2.s2 hb hc⟩
theorem eqReadingS_self (aa ab : Option Addr) (n ca cb : Nat) (h o : Nat → Int) (w : World) (hn : n ≤ 1048576) (ha : S2 w aa n h o) (hb : S2 w ab n h o) :
    Calls Try.prog 41 #[.slice aa n ca, .slice ab n cb] w fun e w' => e = .returned (.bool true) ∧ Ext w w' :=
  (eqReadingS_c aa ab n n ca cb h o h o w hn hn ha hb).mono fun e w' ⟨he, hx⟩ => ⟨by rw [he, eqTo_self]; simp, hx⟩
end Go.Proofs.Ytmbpjlgeneemjaa

namespace Go.Proofs.Ytmbpjlgeneemjaa
open Go.RowKit
set_option linter.unusedVariables false

theorem ext_grown {w w' : World} (h : Ext w w') : w.grownBy w' none :=
  ⟨Below.os h, Below.tape h, Below.output h, h.size, fun k hk _ => h.block hk⟩
theorem grown_ext {w w' : World} (h : w.grownBy w' none) : Ext w w' :=
  ⟨h.os, h.tape, h.output, h.size, fun k hk => h.block k hk (by simp)⟩
theorem grown_trans {a b c : World} {row : Option Nat} (h : a.grownBy b row) (k : b.grownBy c row) : a.grownBy c row :=
  ⟨k.os.trans h.os, k.tape.trans h.tape, k.output.trans h.output, Nat.le_trans h.size k.size, fun i hi hn => (k.block i (Nat.lt_of_lt_of_le hi h.size) hn).trans (h.block i hi hn)⟩
section
variable {w w' : World} {base : Nat} {e : TypeId} {size : Nat} {v : Value} {n : Nat} {xs : List Value}
theorem own_ext (h : w.ownsRow base e size v n xs) (x : Ext w w') : w'.ownsRow base e size v n xs := h.kept (ext_grown x) (by cases hv : v.ownBlock <;> simp)
/-- what is owned lies from its base on, and below the heap's end -/
theorem own_in {a : Option Addr} {cap : Nat} (h : w.ownsRow base e size (.slice a n cap) n xs) {ad : Addr} (ha : a = some ad) : base ≤ ad.block ∧ ad.block < w.heap.size :=
  h.lt ad.block (by subst ha; rfl)
theorem own_at {a : Option Addr} {cap j : Nat} (h : w.ownsRow base e 1 (.slice a n cap) n xs) (hj : j < n) :
    ∃ g, a = some ⟨g, 0, none⟩ ∧ base ≤ g ∧ g < w.heap.size ∧ w.cell? ⟨g, j, none⟩ = xs[j]? ∧ w.frozen? ⟨g, j, none⟩ = false := by
  rcases h.2 with ⟨h1, h2⟩ | ⟨g, cap', cur, h1, hb, hg, h2, h3, h4, h5⟩
  · omega
  · simp only [Value.slice.injEq, true_and] at h1
    obtain ⟨rfl, rfl⟩ := h1
    exact ⟨g, rfl, hb, (Array.getElem?_eq_some_iff.1 hg).1, h.cellAt j (by omega), h.frozenAt j⟩
theorem own_at2 {a : Option Addr} {cap j : Nat} (h : w.ownsRow base e 2 (.slice a n cap) n xs) (hj : j < n) :
    ∃ g, a = some ⟨g, 0, none⟩ ∧ base ≤ g ∧ g < w.heap.size ∧ (w.cell? ⟨g, j * 2, none⟩ = xs[j * 2]? ∧ w.frozen? ⟨g, j * 2, none⟩ = false) ∧ w.cell? ⟨g, j * 2 + 1, none⟩ = xs[j * 2 + 1]? ∧ w.frozen? ⟨g, j * 2 + 1, none⟩ = false := by
  rcases h.2 with ⟨h1, h2⟩ | ⟨g, cap', cur, h1, hb, hg, h2, h3, h4, h5⟩
  · omega
  · simp only [Value.slice.injEq, true_and] at h1
    obtain ⟨rfl, rfl⟩ := h1
    exact ⟨g, rfl, hb, (Array.getElem?_eq_some_iff.1 hg).1, ⟨h.cellAt _ (by omega), h.frozenAt _⟩, h.cellAt _ (by omega), h.frozenAt _⟩
theorem own_set {g cap j : Nat} (h : w.ownsRow base e size (.slice (some ⟨g, 0, none⟩) n cap) n xs) (u : Value) : (w.setCell ⟨g, j, none⟩ u).ownsRow base e size (.slice (some ⟨g, 0, none⟩) n cap) n (xs.set j u) := (h.stored j u).1
theorem grown_set (g j : Nat) (u : Value) : w.grownBy (w.setCell ⟨g, j, none⟩ u) (some g) :=
  ⟨rfl, rfl, rfl, by simp, fun k _ hk => heap_setCell_other w ⟨g, j, none⟩ k u (fun e => hk (by simp [e]))⟩
theorem own_s1 {a : Option Addr} {cap : Nat} {l : List Int} (h : w.ownsRow base e 1 (.slice a n cap) n (l.map (Value.int .i64))) : S1 w a n (fun j => l.getD j 0) := fun hn => by
  obtain ⟨g, rfl, _, hg, _⟩ := own_at h hn
  have hl : l.length = n := by simpa using h.1
  refine ⟨g, 0, rfl, hg, fun j hj => ?_⟩
  rw [Nat.zero_add, h.cellAt j (by omega)]
  simp [List.getD, show j < l.length by omega]
theorem own_len {l : List Int} (h : w.ownsRow base e 1 v n (l.map (Value.int .i64))) : n = l.length := by simpa using h.1.symm
end
/-- a slice of integers that reads the same behind a change of another block -/
theorem S1.but {w w' : World} {a : Option Addr} {n : Nat} {f : Nat → Int} {row : Option Nat} (s : S1 w a n f) (hg : w.grownBy w' row) (hne : ∀ ad, a = some ad → some ad.block ≠ row) : S1 w' a n f := fun hn => by
  obtain ⟨b, off, ha, hb, hc⟩ := s hn
  refine ⟨b, off, ha, Nat.lt_of_lt_of_le hb hg.size, fun j hj => ?_⟩
  rw [World.cell?_of_block (a := ⟨b, off + j, none⟩) (hg.block b hb (hne _ ha))]
  exact hc j hj
theorem S2.but {w w' : World} {a : Option Addr} {n : Nat} {h o : Nat → Int} {row : Option Nat} (s : S2 w a n h o) (hg : w.grownBy w' row) (hne : ∀ ad, a = some ad → some ad.block ≠ row) : S2 w' a n h o := fun hn => by
  obtain ⟨b, off, ha, hb, hc⟩ := s hn
  refine ⟨b, off, ha, Nat.lt_of_lt_of_le hb hg.size, fun j hj => ?_⟩
  rw [World.cell?_of_block (a := ⟨b, off + j * 2, none⟩) (hg.block b hb (hne _ ha)), World.cell?_of_block (a := ⟨b, off + j * 2 + 1, none⟩) (hg.block b hb (hne _ ha))]
  exact hc j hj
/-- owned rows of two calls, the second begun when the first had ended, lie in different blocks -/
theorem own_ne2 {w1 w2 : World} {b1 b2 : Nat} {e1 e2 : TypeId} {s1 s2 : Nat} {v1 v2 : Value} {n1 n2 : Nat} {xs1 xs2 : List Value} (h1 : w1.ownsRow b1 e1 s1 v1 n1 xs1) (h2 : w2.ownsRow b2 e2 s2 v2 n2 xs2) (hb : w1.heap.size ≤ b2) :
    (v1.ownBlock = none ∨ v1.ownBlock ≠ v2.ownBlock) ∧ (v2.ownBlock = none ∨ v2.ownBlock ≠ v1.ownBlock) := by
  have hne : ∀ k, v1.ownBlock = some k → v2.ownBlock = some k → False := fun k hk hk2 => by
    have := (h1.lt k hk).2; have := (h2.lt k hk2).1; omega
  constructor
  · cases h : v1.ownBlock with
    | none => exact .inl rfl
    | some k => exact .inr fun e => hne k h e.symm
  · cases h : v2.ownBlock with
    | none => exact .inl rfl
    | some k => exact .inr fun e => hne k e.symm h
/-- the numbers k, k + 1 .. over the first j places of a list -/
def marked (k : Int) (xs : List Value) : Nat → List Value
  | 0 => xs
  | j + 1 => (marked k xs j).set j (.int .i64 (k + j))
theorem marked_length (k : Int) (xs : List Value) (j : Nat) : (marked k xs j).length = xs.length := by
  induction j with
  | zero => rfl
  | succ j ih => simp [marked, ih]
theorem marked_at (k : Int) (xs : List Value) {j i : Nat} (hi : i < j) (hx : i < xs.length) : (marked k xs j)[i]? = some (.int .i64 (k + i)) := by
  induction j with
  | zero => omega
  | succ j ih =>
    simp only [marked]
    by_cases e : i = j
    · subst e; rw [List.getElem?_set_self (by rw [marked_length]; exact hx)]
    · rw [List.getElem?_set_ne (by omega)]; exact ih (by omega)
/-- the numbers k, k + 1 .. -/
def ups (k : Int) (n : Nat) : List Value := (List.range n).map fun j => Value.int .i64 (k + (j : Nat))
theorem marked_all (k : Int) (xs : List Value) : marked k xs xs.length = ups k xs.length := by
  apply List.ext_getElem?
  intro i
  by_cases hi : i < xs.length
  · rw [marked_at k xs hi hi]; simp [ups, hi]
  · rw [List.getElem?_eq_none (by rw [marked_length]; omega), List.getElem?_eq_none (by simp [ups]; omega)]
theorem ups_at (k : Int) {n i : Nat} (hi : i < n) : (ups k n)[i]? = some (.int .i64 (k + i)) := by simp [ups, hi]
theorem own_form {w : World} {base : Nat} {e : TypeId} {size : Nat} {v : Value} {n : Nat} {xs : List Value} (h : w.ownsRow base e size v n xs) : ∃ b cap, v = .slice b n cap := by
  rcases h.2 with ⟨h1, h2⟩ | ⟨g, cap', cur, h1, _⟩
  · subst h2; exact ⟨none, 0, h1⟩
  · exact ⟨_, _, h1⟩
/-- 'out = append(out, u)', 'out' made by the call that began in w0 -/
theorem app1 {P : Program} {w w0 : World} {ops : Array Oper} {rest : List Oper} {o : Oper} {a : Act} {Q : Exit → Act → World → Prop} (t e : TypeId) (s x : Operand)
    (hop : o.op = .call { callee := .builtin .append, args := #[s, x], argTypes := #[t, t] }) (hgd : o.guard = none)
    (ht : P.underlying t = some (.slice e)) (hinfo : (P.info? e).map (fun i => (i.zero, i.size, i.bytes)) = some (some (.int .i64 0), 1, 8))
    (v : Value) (l : List Int) (u : Int) (g : Nat) (hs : a.eval s = v) (hx : a.eval x = .slice (some ⟨g, 0, none⟩) 1 1) (hown : w.ownsRow w0.heap.size e 1 v l.length (l.map (Value.int .i64)))
    (hc : w.cell? ⟨g, 0, none⟩ = some (.int .i64 u)) (hl : l.length ≤ 1048576) (h0 : Ext w0 w)
    (hK : ∀ v' w', w'.ownsRow w0.heap.size e 1 v' (l ++ [u]).length ((l ++ [u]).map (Value.int .i64)) → Ext w0 w' → wpList P ops Q rest (a.put o.dst v') w') : wpList P ops Q (o :: rest) a w := by
  obtain ⟨i, hi, hz, hsz, hb⟩ := info_parts hinfo
  refine wpList_append_own (P := P) w hgd s x t hop w0.heap.size e i (.int .i64 0) 1 8 ht hi hz hsz hb rfl (by decide) v l.length _ hs hown ⟨g, 0, none⟩ 1 1 [.int .i64 u] hx rfl ?_ ?_ ?_ ?_ h0.size ?_
  · intro j z hz'
    cases j with
    | zero =>
      simp at hz'; subst hz'
      simpa [Addr.add] using hc
    | succ j => simp at hz'
  · intro z hz'
    simp at hz'; subst hz'; rfl
  · unfold maxLen; omega
  · omega
  · intro v' w' h1 h2 _
    refine hK v' w' (by simpa using h1) (h0.grown h2 fun k hk => (hown.lt k hk).1)
end Go.Proofs.Ytmbpjlgeneemjaa

namespace Go.Proofs.Ytmbpjlgeneemjaa
open Go.RowKit
set_option linter.unusedVariables false
set_option linter.unusedSimpArgs false

theorem ret_abs {n q : Int} (h : q = absI n) : Ending.returned (.int .i64 q) = .returned (.int .i64 (absI n)) := by rw [h]
theorem abs_c (n : Int) (w : World) (h0 : -9223372036854775807 ≤ n) (h1 : n ≤ 9223372036854775807) :
    Calls Try.prog 51 #[.int .i64 n] w fun e w' => e = .returned (.int .i64 (absI n)) ∧ w = w' := by
  go_enter Try.func51, Try.ntmps51
  go_wp2
  all_goals (go_ret; exact ⟨ret_abs (by unfold absI; split <;> omega), rfl⟩)
theorem l02Size_c (n : Int) (w : World) (h0 : -9223372036854775807 ≤ n) (h1 : n ≤ 9223372036854775807) :
    Calls Try.prog 71 #[.int .i64 n] w fun e w' => e = .returned (.int .i64 (absI n)) ∧ w = w' := by
  go_enter Try.func71, Try.ntmps71
  go_wp2
  all_goals (go_ret; exact ⟨ret_abs (by unfold absI; split <;> omega), rfl⟩)
set_option maxHeartbeats 400000 in
theorem l02Near_c (n d : Int) (w : World) (hd : 0 < d) (hd1 : d ≤ 1000000000000000000) (h0 : -3000000000000000000 ≤ n) (h1 : n ≤ 3000000000000000000) :
    Calls Try.prog 58 #[.int .i64 n, .int .i64 d] w fun e w' => e = .returned (.int .i64 (nearD n d)) ∧ w = w' := by
  go_enter Try.func58, Try.ntmps58
  go_wp2_with (go_at_call 73; ((with_reducible refine (l02Down_c _ _ _ (by omega) (by omega) (by omega)).mono ?_); rintro e w' ⟨rfl, rfl⟩))
  go_ret
  exact ⟨rfl, rfl⟩
theorem toReadingS_o (a : Option Addr) (n c : Nat) (h o : Nat → Int) (w : World) (hn : n ≤ 1048576) (hs : S2 w a n h o) :
    Calls Try.prog 39 #[.slice a n c] w fun e w' => ∃ g xs, e = .returned (.slice (some ⟨g, 0, none⟩) n n) ∧ Ext w w' ∧ S2 w' (some ⟨g, 0, none⟩) n h o ∧ w'.ownsRow w.heap.size 33 2 (.slice (some ⟨g, 0, none⟩) n n) n xs :=
  (toReadingS_c a n c h o w hn hs).mono fun e w' ⟨cur, he, hx, hb, hz, hc⟩ => ⟨_, cur.toList, he, hx, C2.s2 hb hc, by simpa using hz, .inr ⟨_, n, cur, rfl, Nat.le_refl _, hb, Nat.le_refl _, by unfold maxLen; omega, hz, by rw [← hz]; exact List.take_of_length_le (by simp)⟩⟩
end Go.Proofs.Ytmbpjlgeneemjaa
