/- What the functions on fits return, further. -/
import Derived.Test.YtfpbmceflpohnaaW1
namespace Go.Proofs.Ytfpbmceflpohnaa
open Go.RowKit
set_option linter.unusedVariables false
set_option linter.unusedSimpArgs false

set_option maxHeartbeats 400000 in
theorem specOffAt_c (c x y xx xy hr : Int) (w : World) :
    Calls Try.prog 30 #[.agg #[.int .i64 c, .int .i64 x, .int .i64 y, .int .i64 xx, .int .i64 xy], .int .i64 hr] w fun e w' => e = .returned (.tuple #[.int .i64 (offRes c x y xx xy hr), .int .i64 (offCode c x y xx xy hr)]) ∧ Ext w w' := by
  by_cases hv : codeF c x y xx xy = 0
  · have hv' : (codeF c x y xx xy != 0) = false := by simpa using hv
    have HC := Lib.hid hv
    clear hv
    by_cases hh : inB hr 0 10000 = true
    · obtain ⟨h0, h1⟩ := inB_t.1 hh
      go_enter Try.func30, Try.ntmps30
      go_wp2_with (first | (go_at_call 61; ((with_reducible refine (l14Code_c _ _ _ _ _ _).mono ?_); rintro e w' ⟨rfl, hx⟩; (first | (obtain ⟨wx, rfl⟩ := Past.again hx) | (obtain ⟨wx, rfl⟩ := Past.ofd hx) | (obtain ⟨wx, rfl⟩ := Past.of hx)))) | (go_at_call 66; ((with_reducible refine (l00In_c _ _ _ _).mono ?_); rintro e w' ⟨rfl, rfl⟩)) | (go_at_call 67; ((with_reducible refine (l14At_c _ _ _ _ _ _ HC.out h0 h1 _).mono ?_); rintro e w' ⟨rfl, hx⟩; (first | (obtain ⟨wx, rfl⟩ := Past.again hx) | (obtain ⟨wx, rfl⟩ := Past.ofd hx) | (obtain ⟨wx, rfl⟩ := Past.of hx)))))
      all_goals (go_ret2; refine ⟨ret_two (congrArg (Value.int .i64) ?_) (congrArg (Value.int .i64) ?_), (by repeat (first | with_reducible exact Ext.refl _ | with_reducible assumption | with_reducible refine Ext.alloc ?_ _ | with_reducible refine Ext.drew ?_ | (with_reducible refine Ext.setAt ?_ _ _ _ ?_; rotate_left; omega) | with_reducible refine Ext.trans ?_ (by assumption) | with_reducible exact Past.bel _ | with_reducible refine Ext.trans ?_ (Past.bel _)))⟩)
      all_goals simp [offCode, offRes, HC.out, hh]
    · have hh' : inB hr 0 10000 = false := by simpa using hh
      go_enter Try.func30, Try.ntmps30
      go_wp2_with (first | (go_at_call 61; ((with_reducible refine (l14Code_c _ _ _ _ _ _).mono ?_); rintro e w' ⟨rfl, hx⟩; (first | (obtain ⟨wx, rfl⟩ := Past.again hx) | (obtain ⟨wx, rfl⟩ := Past.ofd hx) | (obtain ⟨wx, rfl⟩ := Past.of hx)))) | (go_at_call 66; ((with_reducible refine (l00In_c _ _ _ _).mono ?_); rintro e w' ⟨rfl, rfl⟩)))
      all_goals (go_ret2; refine ⟨ret_two (congrArg (Value.int .i64) ?_) (congrArg (Value.int .i64) ?_), (by repeat (first | with_reducible exact Ext.refl _ | with_reducible assumption | with_reducible refine Ext.alloc ?_ _ | with_reducible refine Ext.drew ?_ | (with_reducible refine Ext.setAt ?_ _ _ _ ?_; rotate_left; omega) | with_reducible refine Ext.trans ?_ (by assumption) | with_reducible exact Past.bel _ | with_reducible refine Ext.trans ?_ (Past.bel _)))⟩)
      all_goals simp [offCode, offRes, HC.out, hh']
  · have hv' : (codeF c x y xx xy != 0) = true := by simpa using hv
    go_enter Try.func30, Try.ntmps30
    go_wp2_with (go_at_call 61; ((with_reducible refine (l14Code_c _ _ _ _ _ _).mono ?_); rintro e w' ⟨rfl, hx⟩; (first | (obtain ⟨wx, rfl⟩ := Past.again hx) | (obtain ⟨wx, rfl⟩ := Past.ofd hx) | (obtain ⟨wx, rfl⟩ := Past.of hx))))
    all_goals (go_ret2; refine ⟨ret_two (congrArg (Value.int .i64) ?_) (congrArg (Value.int .i64) ?_), (by repeat (first | with_reducible exact Ext.refl _ | with_reducible assumption | with_reducible refine Ext.alloc ?_ _ | with_reducible refine Ext.drew ?_ | (with_reducible refine Ext.setAt ?_ _ _ _ ?_; rotate_left; omega) | with_reducible refine Ext.trans ?_ (by assumption) | with_reducible exact Past.bel _ | with_reducible refine Ext.trans ?_ (Past.bel _)))⟩)
    all_goals simp_all [offCode, offRes]
set_option maxHeartbeats 400000 in
theorem eqFit_c (c x y xx xy c' x' y' xx' xy' : Int) (w : World) :
    Calls Try.prog 27 #[.agg #[.int .i64 c, .int .i64 x, .int .i64 y, .int .i64 xx, .int .i64 xy], .agg #[.int .i64 c', .int .i64 x', .int .i64 y', .int .i64 xx', .int .i64 xy']] w
      fun e w' => e = .returned (.bool (c == c' && x == x' && y == y' && xx == xx' && xy == xy')) ∧ Ext w w' := by
  go_enter Try.func27, Try.ntmps27
  go_wp2
  all_goals (go_ret; refine ⟨ret_bool ?_, (by repeat (first | with_reducible exact Ext.refl _ | with_reducible assumption | with_reducible refine Ext.alloc ?_ _ | with_reducible refine Ext.drew ?_ | (with_reducible refine Ext.setAt ?_ _ _ _ ?_; rotate_left; omega) | with_reducible refine Ext.trans ?_ (by assumption) | with_reducible exact Past.bel _ | with_reducible refine Ext.trans ?_ (Past.bel _)))⟩)
  all_goals simp_all
def addNone : Value := .agg #[.int .i64 0, .int .i64 0, .int .i64 0, .int .i64 0, .int .i64 0]
theorem add_ret {c x y xx xy c' x' y' xx' xy' k : Int} {v : Value} (h : k = addCode c x y xx xy c' x' y' xx' xy') (hv : v = addV c x y xx xy c' x' y' xx' xy') :
    Ending.returned (.tuple #[v, .int .i64 k]) = .returned (.tuple #[addV c x y xx xy c' x' y' xx' xy', .int .i64 (addCode c x y xx xy c' x' y' xx' xy')]) := by rw [h, hv]
theorem add_wraps {c x y xx xy c' x' y' xx' xy' : Int} (f : FB c x y xx xy) (f' : FB c' x' y' xx' xy') :
    Value.agg #[.int .i64 (c + c'), .int .i64 (wrap64 (x + x')), .int .i64 (wrap64 (y + y')), .int .i64 (wrap64 (xx + xx')), .int .i64 (wrap64 (xy + xy'))] = .agg #[.int .i64 (c + c'), .int .i64 (x + x'), .int .i64 (y + y'), .int .i64 (xx + xx'), .int .i64 (xy + xy')] := by
  obtain ⟨a0, a1, a2, a3, a4, a5, a6, a7, a8, a9, a10⟩ := f
  obtain ⟨b0, b1, b2, b3, b4, b5, b6, b7, b8, b9, b10⟩ := f'
  rw [IntWalk.wrap64_in (x + x') (by omega), IntWalk.wrap64_in (y + y') (by omega), IntWalk.wrap64_in (xx + xx') (by omega), IntWalk.wrap64_in (xy + xy') (by omega)]
set_option maxHeartbeats 800000 in
theorem addFits_c (c x y xx xy c' x' y' xx' xy' : Int) (w : World) :
    Calls Try.prog 26 #[.agg #[.int .i64 c, .int .i64 x, .int .i64 y, .int .i64 xx, .int .i64 xy], .agg #[.int .i64 c', .int .i64 x', .int .i64 y', .int .i64 xx', .int .i64 xy']] w
      fun e w' => e = .returned (.tuple #[addV c x y xx xy c' x' y' xx' xy', .int .i64 (addCode c x y xx xy c' x' y' xx' xy')]) ∧ Ext w w' := by
  by_cases hv : vF c x y xx xy = true
  · have f := vF_fb hv
    by_cases hv' : vF c' x' y' xx' xy' = true
    · have f' := vF_fb hv'
      have a0 := f.c0
      have a1 := f.c1
      have b0 := f'.c0
      have b1 := f'.c1
      by_cases h60 : 60 < c + c'
      · go_enter Try.func26, Try.ntmps26
        go_wp2_with (go_at_call 19; ((with_reducible refine (validFit_c _ _ _ _ _ _).mono ?_); rintro e w' ⟨rfl, hx⟩; (first | (obtain ⟨wx, rfl⟩ := Past.again hx) | (obtain ⟨wx, rfl⟩ := Past.ofd hx) | (obtain ⟨wx, rfl⟩ := Past.of hx))))
        have he : addCode c x y xx xy c' x' y' xx' xy' = 5 := by simp [addCode, hv, hv', h60]
        exact bodyPost_ret (v := .tuple #[addNone, .int .i64 5]) (by simp [results, Try.results26, go_sem, addNone]) rfl ⟨add_ret he.symm (by rw [addV, he]; rfl), (by repeat (first | with_reducible exact Ext.refl _ | with_reducible assumption | with_reducible refine Ext.alloc ?_ _ | with_reducible refine Ext.drew ?_ | (with_reducible refine Ext.setAt ?_ _ _ _ ?_; rotate_left; omega) | with_reducible refine Ext.trans ?_ (by assumption) | with_reducible exact Past.bel _ | with_reducible refine Ext.trans ?_ (Past.bel _)))⟩
      · go_enter Try.func26, Try.ntmps26
        go_wp2_with (go_at_call 19; ((with_reducible refine (validFit_c _ _ _ _ _ _).mono ?_); rintro e w' ⟨rfl, hx⟩; (first | (obtain ⟨wx, rfl⟩ := Past.again hx) | (obtain ⟨wx, rfl⟩ := Past.ofd hx) | (obtain ⟨wx, rfl⟩ := Past.of hx))))
        have he : addCode c x y xx xy c' x' y' xx' xy' = 0 := by simp [addCode, hv, hv', h60]
        exact bodyPost_ret (v := .tuple #[.agg #[.int .i64 (c + c'), .int .i64 (wrap64 (x + x')), .int .i64 (wrap64 (y + y')), .int .i64 (wrap64 (xx + xx')), .int .i64 (wrap64 (xy + xy'))], .int .i64 0]) (by simp [results, Try.results26, go_sem]) rfl ⟨add_ret he.symm (by rw [addV, he]; exact add_wraps f f'), (by repeat (first | with_reducible exact Ext.refl _ | with_reducible assumption | with_reducible refine Ext.alloc ?_ _ | with_reducible refine Ext.drew ?_ | (with_reducible refine Ext.setAt ?_ _ _ _ ?_; rotate_left; omega) | with_reducible refine Ext.trans ?_ (by assumption) | with_reducible exact Past.bel _ | with_reducible refine Ext.trans ?_ (Past.bel _)))⟩
    · have hf' : vF c' x' y' xx' xy' = false := by simpa using hv'
      go_enter Try.func26, Try.ntmps26
      go_wp2_with (go_at_call 19; ((with_reducible refine (validFit_c _ _ _ _ _ _).mono ?_); rintro e w' ⟨rfl, hx⟩; (first | (obtain ⟨wx, rfl⟩ := Past.again hx) | (obtain ⟨wx, rfl⟩ := Past.ofd hx) | (obtain ⟨wx, rfl⟩ := Past.of hx))))
      have he : addCode c x y xx xy c' x' y' xx' xy' = 1 := by simp [addCode, hv, hv']
      exact bodyPost_ret (v := .tuple #[addNone, .int .i64 1]) (by simp [results, Try.results26, go_sem, addNone]) rfl ⟨add_ret he.symm (by rw [addV, he]; rfl), (by repeat (first | with_reducible exact Ext.refl _ | with_reducible assumption | with_reducible refine Ext.alloc ?_ _ | with_reducible refine Ext.drew ?_ | (with_reducible refine Ext.setAt ?_ _ _ _ ?_; rotate_left; omega) | with_reducible refine Ext.trans ?_ (by assumption) | with_reducible exact Past.bel _ | with_reducible refine Ext.trans ?_ (Past.bel _)))⟩
  · have hf : vF c x y xx xy = false := by simpa using hv
    go_enter Try.func26, Try.ntmps26
    go_wp2_with (go_at_call 19; ((with_reducible refine (validFit_c _ _ _ _ _ _).mono ?_); rintro e w' ⟨rfl, hx⟩; (first | (obtain ⟨wx, rfl⟩ := Past.again hx) | (obtain ⟨wx, rfl⟩ := Past.ofd hx) | (obtain ⟨wx, rfl⟩ := Past.of hx))))
    have he : addCode c x y xx xy c' x' y' xx' xy' = 1 := by simp [addCode, hv]
    exact bodyPost_ret (v := .tuple #[addNone, .int .i64 1]) (by simp [results, Try.results26, go_sem, addNone]) rfl ⟨add_ret he.symm (by rw [addV, he]; rfl), (by repeat (first | with_reducible exact Ext.refl _ | with_reducible assumption | with_reducible refine Ext.alloc ?_ _ | with_reducible refine Ext.drew ?_ | (with_reducible refine Ext.setAt ?_ _ _ _ ?_; rotate_left; omega) | with_reducible refine Ext.trans ?_ (by assumption) | with_reducible exact Past.bel _ | with_reducible refine Ext.trans ?_ (Past.bel _)))⟩
set_option maxHeartbeats 800000 in
theorem specAddFits_c (c x y xx xy c' x' y' xx' xy' : Int) (w : World) :
    Calls Try.prog 25 #[.agg #[.int .i64 c, .int .i64 x, .int .i64 y, .int .i64 xx, .int .i64 xy], .agg #[.int .i64 c', .int .i64 x', .int .i64 y', .int .i64 xx', .int .i64 xy']] w
      fun e w' => e = .returned (.tuple #[addV c x y xx xy c' x' y' xx' xy', .int .i64 (addCode c x y xx xy c' x' y' xx' xy')]) ∧ Ext w w' := by
  by_cases hv : vF c x y xx xy = true
  · have f := vF_fb hv
    by_cases hv' : vF c' x' y' xx' xy' = true
    · have f' := vF_fb hv'
      have a0 := f.c0
      have a1 := f.c1
      have b0 := f'.c0
      have b1 := f'.c1
      by_cases h60 : 60 < c + c'
      · go_enter Try.func25, Try.ntmps25
        go_wp2_with (go_at_call 56; ((with_reducible refine (l14FitOk_c _ _ _ _ _ _).mono ?_); rintro e w' ⟨rfl, hx⟩; (first | (obtain ⟨wx, rfl⟩ := Past.again hx) | (obtain ⟨wx, rfl⟩ := Past.ofd hx) | (obtain ⟨wx, rfl⟩ := Past.of hx))))
        have he : addCode c x y xx xy c' x' y' xx' xy' = 5 := by simp [addCode, hv, hv', h60]
        exact bodyPost_ret (v := .tuple #[addNone, .int .i64 5]) (by simp [results, Try.results25, go_sem, addNone]) rfl ⟨add_ret he.symm (by rw [addV, he]; rfl), (by repeat (first | with_reducible exact Ext.refl _ | with_reducible assumption | with_reducible refine Ext.alloc ?_ _ | with_reducible refine Ext.drew ?_ | (with_reducible refine Ext.setAt ?_ _ _ _ ?_; rotate_left; omega) | with_reducible refine Ext.trans ?_ (by assumption) | with_reducible exact Past.bel _ | with_reducible refine Ext.trans ?_ (Past.bel _)))⟩
      · go_enter Try.func25, Try.ntmps25
        go_wp2_with (go_at_call 56; ((with_reducible refine (l14FitOk_c _ _ _ _ _ _).mono ?_); rintro e w' ⟨rfl, hx⟩; (first | (obtain ⟨wx, rfl⟩ := Past.again hx) | (obtain ⟨wx, rfl⟩ := Past.ofd hx) | (obtain ⟨wx, rfl⟩ := Past.of hx))))
        have he : addCode c x y xx xy c' x' y' xx' xy' = 0 := by simp [addCode, hv, hv', h60]
        exact bodyPost_ret (v := .tuple #[.agg #[.int .i64 (c + c'), .int .i64 (wrap64 (x + x')), .int .i64 (wrap64 (y + y')), .int .i64 (wrap64 (xx + xx')), .int .i64 (wrap64 (xy + xy'))], .int .i64 0]) (by simp [results, Try.results25, go_sem]) rfl ⟨add_ret he.symm (by rw [addV, he]; exact add_wraps f f'), (by repeat (first | with_reducible exact Ext.refl _ | with_reducible assumption | with_reducible refine Ext.alloc ?_ _ | with_reducible refine Ext.drew ?_ | (with_reducible refine Ext.setAt ?_ _ _ _ ?_; rotate_left; omega) | with_reducible refine Ext.trans ?_ (by assumption) | with_reducible exact Past.bel _ | with_reducible refine Ext.trans ?_ (Past.bel _)))⟩
    · have hf' : vF c' x' y' xx' xy' = false := by simpa using hv'
      go_enter Try.func25, Try.ntmps25
      go_wp2_with (go_at_call 56; ((with_reducible refine (l14FitOk_c _ _ _ _ _ _).mono ?_); rintro e w' ⟨rfl, hx⟩; (first | (obtain ⟨wx, rfl⟩ := Past.again hx) | (obtain ⟨wx, rfl⟩ := Past.ofd hx) | (obtain ⟨wx, rfl⟩ := Past.of hx))))
      have he : addCode c x y xx xy c' x' y' xx' xy' = 1 := by simp [addCode, hv, hv']
      exact bodyPost_ret (v := .tuple #[addNone, .int .i64 1]) (by simp [results, Try.results25, go_sem, addNone]) rfl ⟨add_ret he.symm (by rw [addV, he]; rfl), (by repeat (first | with_reducible exact Ext.refl _ | with_reducible assumption | with_reducible refine Ext.alloc ?_ _ | with_reducible refine Ext.drew ?_ | (with_reducible refine Ext.setAt ?_ _ _ _ ?_; rotate_left; omega) | with_reducible refine Ext.trans ?_ (by assumption) | with_reducible exact Past.bel _ | with_reducible refine Ext.trans ?_ (Past.bel _)))⟩
  · have hf : vF c x y xx xy = false := by simpa using hv
    go_enter Try.func25, Try.ntmps25
    go_wp2_with (go_at_call 56; ((with_reducible refine (l14FitOk_c _ _ _ _ _ _).mono ?_); rintro e w' ⟨rfl, hx⟩; (first | (obtain ⟨wx, rfl⟩ := Past.again hx) | (obtain ⟨wx, rfl⟩ := Past.ofd hx) | (obtain ⟨wx, rfl⟩ := Past.of hx))))
    have he : addCode c x y xx xy c' x' y' xx' xy' = 1 := by simp [addCode, hv]
    exact bodyPost_ret (v := .tuple #[addNone, .int .i64 1]) (by simp [results, Try.results25, go_sem, addNone]) rfl ⟨add_ret he.symm (by rw [addV, he]; rfl), (by repeat (first | with_reducible exact Ext.refl _ | with_reducible assumption | with_reducible refine Ext.alloc ?_ _ | with_reducible refine Ext.drew ?_ | (with_reducible refine Ext.setAt ?_ _ _ _ ?_; rotate_left; omega) | with_reducible refine Ext.trans ?_ (by assumption) | with_reducible exact Past.bel _ | with_reducible refine Ext.trans ?_ (Past.bel _)))⟩
theorem walkValidFit (c x y xx xy : Int) (w : World) :
    Calls Try.prog 3 #[.agg #[.int .i64 c, .int .i64 x, .int .i64 y, .int .i64 xx, .int .i64 xy]] w fun e w' => e = .returned (.bool true) ∧ Ext w w' := by
  go_enter Try.func3, Try.ntmps3
  go_wp2_with (first | (go_at_call 18; ((with_reducible refine (toFit_c _ _ _ _ _ _).mono ?_); rintro e w' ⟨rfl, hx⟩; (first | (obtain ⟨wx, rfl⟩ := Past.again hx) | (obtain ⟨wx, rfl⟩ := Past.ofd hx) | (obtain ⟨wx, rfl⟩ := Past.of hx)))) | (go_at_call 17; ((with_reducible refine (specValidFit_c _ _ _ _ _ _).mono ?_); rintro e w' ⟨rfl, hx⟩; (first | (obtain ⟨wx, rfl⟩ := Past.again hx) | (obtain ⟨wx, rfl⟩ := Past.ofd hx) | (obtain ⟨wx, rfl⟩ := Past.of hx)))) | (go_at_call 19; ((with_reducible refine (validFit_c _ _ _ _ _ _).mono ?_); rintro e w' ⟨rfl, hx⟩; (first | (obtain ⟨wx, rfl⟩ := Past.again hx) | (obtain ⟨wx, rfl⟩ := Past.ofd hx) | (obtain ⟨wx, rfl⟩ := Past.of hx)))))
  go_ret
  exact ⟨rfl, (by repeat (first | with_reducible exact Ext.refl _ | with_reducible assumption | with_reducible refine Ext.alloc ?_ _ | with_reducible refine Ext.drew ?_ | (with_reducible refine Ext.setAt ?_ _ _ _ ?_; rotate_left; omega) | with_reducible refine Ext.trans ?_ (by assumption) | with_reducible exact Past.bel _ | with_reducible refine Ext.trans ?_ (Past.bel _)))⟩

theorem walkDailyRate (c x y xx xy : Int) (w : World) :
    Calls Try.prog 6 #[.agg #[.int .i64 c, .int .i64 x, .int .i64 y, .int .i64 xx, .int .i64 xy]] w fun e w' => e = .returned (.bool true) ∧ Ext w w' := by
  go_enter Try.func6, Try.ntmps6
  go_wp2_with (first | (go_at_call 18; ((with_reducible refine (toFit_c _ _ _ _ _ _).mono ?_); rintro e w' ⟨rfl, hx⟩; (first | (obtain ⟨wx, rfl⟩ := Past.again hx) | (obtain ⟨wx, rfl⟩ := Past.ofd hx) | (obtain ⟨wx, rfl⟩ := Past.of hx)))) | (go_at_call 28; ((with_reducible refine (specDailyRate_c _ _ _ _ _ _).mono ?_); rintro e w' ⟨rfl, hx⟩; (first | (obtain ⟨wx, rfl⟩ := Past.again hx) | (obtain ⟨wx, rfl⟩ := Past.ofd hx) | (obtain ⟨wx, rfl⟩ := Past.of hx)))) | (go_at_call 29; ((with_reducible refine (dailyRate_c _ _ _ _ _ _).mono ?_); rintro e w' ⟨rfl, hx⟩; (first | (obtain ⟨wx, rfl⟩ := Past.again hx) | (obtain ⟨wx, rfl⟩ := Past.ofd hx) | (obtain ⟨wx, rfl⟩ := Past.of hx)))))
  go_ret
  exact ⟨rfl, (by repeat (first | with_reducible exact Ext.refl _ | with_reducible assumption | with_reducible refine Ext.alloc ?_ _ | with_reducible refine Ext.drew ?_ | (with_reducible refine Ext.setAt ?_ _ _ _ ?_; rotate_left; omega) | with_reducible refine Ext.trans ?_ (by assumption) | with_reducible exact Past.bel _ | with_reducible refine Ext.trans ?_ (Past.bel _)))⟩
theorem walkOffAt (c x y xx xy hr : Int) (w : World) :
    Calls Try.prog 7 #[.agg #[.int .i64 c, .int .i64 x, .int .i64 y, .int .i64 xx, .int .i64 xy], .int .i64 hr] w fun e w' => e = .returned (.bool true) ∧ Ext w w' := by
  go_enter Try.func7, Try.ntmps7
  go_wp2_with (first | (go_at_call 18; ((with_reducible refine (toFit_c _ _ _ _ _ _).mono ?_); rintro e w' ⟨rfl, hx⟩; (first | (obtain ⟨wx, rfl⟩ := Past.again hx) | (obtain ⟨wx, rfl⟩ := Past.ofd hx) | (obtain ⟨wx, rfl⟩ := Past.of hx)))) | (go_at_call 30; ((with_reducible refine (specOffAt_c _ _ _ _ _ _ _).mono ?_); rintro e w' ⟨rfl, hx⟩; (first | (obtain ⟨wx, rfl⟩ := Past.again hx) | (obtain ⟨wx, rfl⟩ := Past.ofd hx) | (obtain ⟨wx, rfl⟩ := Past.of hx)))) | (go_at_call 31; ((with_reducible refine (implOffAt_c _ _ _ _ _ _ _).mono ?_); rintro e w' ⟨rfl, hx⟩; (first | (obtain ⟨wx, rfl⟩ := Past.again hx) | (obtain ⟨wx, rfl⟩ := Past.ofd hx) | (obtain ⟨wx, rfl⟩ := Past.of hx)))))
  go_ret
  exact ⟨rfl, (by repeat (first | with_reducible exact Ext.refl _ | with_reducible assumption | with_reducible refine Ext.alloc ?_ _ | with_reducible refine Ext.drew ?_ | (with_reducible refine Ext.setAt ?_ _ _ _ ?_; rotate_left; omega) | with_reducible refine Ext.trans ?_ (by assumption) | with_reducible exact Past.bel _ | with_reducible refine Ext.trans ?_ (Past.bel _)))⟩
end Go.Proofs.Ytfpbmceflpohnaa
