/- Rates between readings: the program's and the reference's. -/
import Derived.Test.YtfpbmceflpohnaaW12
import Derived.Test.YtfpbmceflpohnaaPlain10
import Derived.Test.YtfpbmceflpohnaaMem2
namespace Go.Proofs.Ytfpbmceflpohnaa
open Go.RowKit
set_option linter.unusedVariables false
set_option linter.unusedSimpArgs false

theorem outs_own {w : World} {b e : Nat} {v : Value} {F : Nat → Int} {j : Nat} (h : w.ownsRow b e 1 v j ((outs F j).map (Value.int .i64))) : w.ownsRow b e 1 v (outs F j).length ((outs F j).map (Value.int .i64)) := by rw [outs_len]; exact h
theorem outs_step (F : Nat → Int) (j : Nat) : (outs F j ++ [F j]).map (Value.int .i64) = (outs F (j + 1)).map (Value.int .i64) := by simp [outs]
set_option maxHeartbeats 2000000 in
theorem implRatesBetween_c (a : Option Addr) (n c : Nat) (f o : Nat → Int) (w : World) (hn : n ≤ 1048576) (hs : S2 w a n f o) :
    Calls Try.prog 43 #[.slice a n c] w fun e w' => ∃ b cap, e = .returned (.tuple #[.slice b (rateRes n f o).length cap, .int .i64 (rateCode n f o)]) ∧ Ext w w' ∧
      w'.ownsRow w.heap.size 2 1 (.slice b (rateRes n f o).length cap) (rateRes n f o).length ((rateRes n f o).map (Value.int .i64)) := by
  have HS := Lib.hid hs
  clear hs
  by_cases hv : rdV n f o = true
  · have HV := Lib.hid hv
    have r := rb_of hv
    have R := Lib.hid r
    have h60 := r.n60
    clear r
    obtain ⟨i0, hi, hz0, hz1, hz2⟩ := info_parts info_i64
    go_enter Try.func43, Try.ntmps43
    go_wp2_with (first | (go_at_call 23; ((with_reducible refine (validReadings_c _ _ _ _ _ _ hn (HS.out.ext (by repeat (first | with_reducible exact Ext.refl _ | with_reducible assumption | with_reducible refine Ext.alloc ?_ _ | with_reducible refine Ext.drew ?_ | (with_reducible refine Ext.setAt ?_ _ _ _ ?_; rotate_left; omega) | with_reducible refine Ext.trans ?_ (by assumption) | with_reducible exact Past.bel _ | with_reducible refine Ext.trans ?_ (Past.bel _))))).mono ?_); rintro e w' ⟨rfl, hx⟩; (first | (obtain ⟨wx, rfl⟩ := Past.again hx) | (obtain ⟨wx, rfl⟩ := Past.ofd hx) | (obtain ⟨wx, rfl⟩ := Past.of hx)))))
    go_loopw [4, 5] (fun v i wr => ∃ j : Nat, j ≤ n ∧ i = .int .i64 ((j : Int) + 1) ∧ Ext w wr ∧ wr.ownsRow w.heap.size 2 1 v j ((outs (rateFn f o) j).map (Value.int .i64)) ∧ (0 < j → j < n)) (fun _ i _ => n + 1 - (intOf i).toNat)
    case atStart => exact ⟨0, by omega, rfl, (by repeat (first | with_reducible exact Ext.refl _ | with_reducible assumption | with_reducible refine Ext.alloc ?_ _ | with_reducible refine Ext.drew ?_ | (with_reducible refine Ext.setAt ?_ _ _ _ ?_; rotate_left; omega) | with_reducible refine Ext.trans ?_ (by assumption) | with_reducible exact Past.bel _ | with_reducible refine Ext.trans ?_ (Past.bel _))), World.ownsRow_nil _ _ _ _, by omega⟩
    case round =>
      obtain ⟨j, hj, rfl, hbl, ho, hj2⟩ := hrel
      have HO := Lib.hid ho
      clear ho
      by_cases hlt : j + 1 < n
      · obtain ⟨b1, o1, rfl, hb1, q1, q2⟩ := HS.out.at (show j + 1 < n by omega)
        obtain ⟨_, _, hh, _, q3, q4⟩ := HS.out.at (show j < n by omega)
        obtain ⟨rfl, rfl⟩ := by simpa using hh
        have p1 := R.out.bo j (by omega)
        have p2 := R.out.bo (j + 1) (by omega)
        have p3 := R.out.bh j (by omega)
        have p4 := R.out.bh (j + 1) (by omega)
        have p5 := R.out.up j (by omega)
        have SK : ∀ w', Ext w w' → (w'.cell? ⟨b1, o1 + (j + 1) * 2, none⟩ = some (.int .i64 (f (j + 1))) ∧ w'.cell? ⟨b1, o1 + (j + 1) * 2 + 1, none⟩ = some (.int .i64 (o (j + 1))) ∧ w'.cell? ⟨b1, o1 + j * 2, none⟩ = some (.int .i64 (f j)) ∧ w'.cell? ⟨b1, o1 + j * 2 + 1, none⟩ = some (.int .i64 (o j))) := fun w' hq => by
          refine ⟨?_, ?_, ?_, ?_⟩ <;> (rw [hq.cell (by assumption)]; assumption)
        have SK' := Lib.hid SK
        clear SK q1 q2 q3 q4
        have e1 := IntWalk.i64_in (o (j + 1) - o j) (by omega)
        have e2 := IntWalk.i64_in (24000 * (o (j + 1) - o j)) (by omega)
        have e3 := IntWalk.i64_in (f (j + 1) - f j) (by omega)
        have x0 : (0 : Int) ≤ (j : Int) + 1 := by omega
        have x1 : (j : Int) + 1 < (n : Int) := by omega
        have x2 : (j : Int) < (n : Int) := by omega
        have x3 := IntWalk.i64_in (j : Int) (by omega)
        have x4 : (0 : Int) ≤ (j : Int) := by omega
        have c5 : ∀ W, Calls Try.prog 65 #[.int .i64 (24000 * (o (j + 1) - o j)), .int .i64 (f (j + 1) - f j)] W fun e w' => e = .returned (.int .i64 (rateFn f o j)) ∧ W = w' := fun W => nearestDiv_c _ _ _ (by omega) (by omega) (by omega) (by omega)
        have C5 := Lib.hid c5
        clear c5
        go_wp2_with fail
        go_region_held3 (fun w' => w'.cell? ⟨b1, o1 + (j + 1) * 2, none⟩ = some (.int .i64 (f (j + 1))) ∧ w'.cell? ⟨b1, o1 + (j + 1) * 2 + 1, none⟩ = some (.int .i64 (o (j + 1))) ∧ w'.cell? ⟨b1, o1 + j * 2, none⟩ = some (.int .i64 (f j)) ∧ w'.cell? ⟨b1, o1 + j * 2 + 1, none⟩ = some (.int .i64 (o j))) (exact SK'.out _ (by repeat (first | with_reducible exact Ext.refl _ | with_reducible assumption | with_reducible refine Ext.alloc ?_ _ | with_reducible refine Ext.drew ?_ | (with_reducible refine Ext.setAt ?_ _ _ _ ?_; rotate_left; omega) | with_reducible refine Ext.trans ?_ (by assumption) | with_reducible exact Past.bel _ | with_reducible refine Ext.trans ?_ (Past.bel _)))) (first | (go_at_call 65; ((with_reducible refine (C5.out _).mono ?_); rintro e w' ⟨rfl, rfl⟩)) | (refine app1s (w0 := w) 45 2 _ _ (by rfl) (by rfl) Try.underlying45 info_i64 _ (outs (rateFn f o) j) (rateFn f o j) _ (by rfl) (by rfl) (own_ext (outs_own HO.out) (by repeat (first | with_reducible exact Ext.refl _ | with_reducible assumption | with_reducible refine Ext.alloc ?_ _ | with_reducible refine Ext.drew ?_ | (with_reducible refine Ext.setAt ?_ _ _ _ ?_; rotate_left; omega) | with_reducible refine Ext.trans ?_ (by assumption) | with_reducible exact Past.bel _ | with_reducible refine Ext.trans ?_ (Past.bel _)))) (by simp [go_sem]) (by rw [outs_len]; omega) (by repeat (first | with_reducible exact Ext.refl _ | with_reducible assumption | with_reducible refine Ext.alloc ?_ _ | with_reducible refine Ext.drew ?_ | (with_reducible refine Ext.setAt ?_ _ _ _ ?_; rotate_left; omega) | with_reducible refine Ext.trans ?_ (by assumption) | with_reducible exact Past.bel _ | with_reducible refine Ext.trans ?_ (Past.bel _))) ?_; intro v1 w1 ho1 hx1))
        all_goals (go_wp2_with fail; exact ⟨⟨j + 1, by omega, by go_num, hx1, by rw [← outs_step]; simpa [outs_len] using ho1, by omega⟩, by simp [intOf]; omega⟩)
      · obtain ⟨b, cap, rfl⟩ := own_form HO.out
        have he : rateCode n f o = 0 := by simp [rateCode, hv]
        have hl : j = n - 1 := by omega
        subst hl
        have hr : rateRes n f o = outs (rateFn f o) (n - 1) := by rw [rateRes, if_pos hv]
        have HE := Lib.hid he
        have HR := Lib.hid hr
        clear he hr
        go_wp2_with fail
        go_ret2
        exact ⟨b, cap, ret_two (by simp [HR.out, outs_len]) (congrArg _ HE.out.symm), (by repeat (first | with_reducible exact Ext.refl _ | with_reducible assumption | with_reducible refine Ext.alloc ?_ _ | with_reducible refine Ext.drew ?_ | (with_reducible refine Ext.setAt ?_ _ _ _ ?_; rotate_left; omega) | with_reducible refine Ext.trans ?_ (by assumption) | with_reducible exact Past.bel _ | with_reducible refine Ext.trans ?_ (Past.bel _))), by rw [HR.out]; exact (by simpa [outs_len] using HO.out)⟩
  · have hf : rdV n f o = false := by simpa using hv
    go_enter Try.func43, Try.ntmps43
    go_wp2_with (first | (go_at_call 23; ((with_reducible refine (validReadings_c _ _ _ _ _ _ hn (HS.out.ext (by repeat (first | with_reducible exact Ext.refl _ | with_reducible assumption | with_reducible refine Ext.alloc ?_ _ | with_reducible refine Ext.drew ?_ | (with_reducible refine Ext.setAt ?_ _ _ _ ?_; rotate_left; omega) | with_reducible refine Ext.trans ?_ (by assumption) | with_reducible exact Past.bel _ | with_reducible refine Ext.trans ?_ (Past.bel _))))).mono ?_); rintro e w' ⟨rfl, hx⟩; (first | (obtain ⟨wx, rfl⟩ := Past.again hx) | (obtain ⟨wx, rfl⟩ := Past.ofd hx) | (obtain ⟨wx, rfl⟩ := Past.of hx)))))
    go_ret2
    have he : rateCode n f o = 1 := by simp [rateCode, hf]
    have hr : rateRes n f o = [] := by rw [rateRes, hf]; rfl
    exact ⟨none, 0, ret_two (by rw [hr]; rfl) (congrArg _ he.symm), (by repeat (first | with_reducible exact Ext.refl _ | with_reducible assumption | with_reducible refine Ext.alloc ?_ _ | with_reducible refine Ext.drew ?_ | (with_reducible refine Ext.setAt ?_ _ _ _ ?_; rotate_left; omega) | with_reducible refine Ext.trans ?_ (by assumption) | with_reducible exact Past.bel _ | with_reducible refine Ext.trans ?_ (Past.bel _))), by rw [hr]; exact World.ownsRow_nil _ _ _ _⟩
set_option maxHeartbeats 2000000 in
theorem specRatesBetween_c (a : Option Addr) (n c : Nat) (f o : Nat → Int) (w : World) (hn : n ≤ 1048576) (hs : S2 w a n f o) :
    Calls Try.prog 42 #[.slice a n c] w fun e w' => ∃ b cap, e = .returned (.tuple #[.slice b (rateRes n f o).length cap, .int .i64 (rateCode n f o)]) ∧ Ext w w' ∧
      w'.ownsRow w.heap.size 2 1 (.slice b (rateRes n f o).length cap) (rateRes n f o).length ((rateRes n f o).map (Value.int .i64)) := by
  have HS := Lib.hid hs
  clear hs
  by_cases hv : rdV n f o = true
  · have HV := Lib.hid hv
    have r := rb_of hv
    have R := Lib.hid r
    have h60 := r.n60
    clear r
    obtain ⟨i0, hi, hz0, hz1, hz2⟩ := info_parts info_i64
    go_enter Try.func42, Try.ntmps42
    go_wp2_with (first | (go_at_call 58; ((with_reducible refine (l14Ok_c _ _ _ _ _ _ hn (HS.out.ext (by repeat (first | with_reducible exact Ext.refl _ | with_reducible assumption | with_reducible refine Ext.alloc ?_ _ | with_reducible refine Ext.drew ?_ | (with_reducible refine Ext.setAt ?_ _ _ _ ?_; rotate_left; omega) | with_reducible refine Ext.trans ?_ (by assumption) | with_reducible exact Past.bel _ | with_reducible refine Ext.trans ?_ (Past.bel _))))).mono ?_); rintro e w' ⟨rfl, hx⟩; (first | (obtain ⟨wx, rfl⟩ := Past.again hx) | (obtain ⟨wx, rfl⟩ := Past.ofd hx) | (obtain ⟨wx, rfl⟩ := Past.of hx)))))
    go_loopw [4, 5] (fun v i wr => ∃ j : Nat, j ≤ n ∧ i = .int .i64 ((j : Int) + 1) ∧ Ext w wr ∧ wr.ownsRow w.heap.size 2 1 v j ((outs (rateFn f o) j).map (Value.int .i64)) ∧ (0 < j → j < n)) (fun _ i _ => n + 1 - (intOf i).toNat)
    case atStart => exact ⟨0, by omega, rfl, (by repeat (first | with_reducible exact Ext.refl _ | with_reducible assumption | with_reducible refine Ext.alloc ?_ _ | with_reducible refine Ext.drew ?_ | (with_reducible refine Ext.setAt ?_ _ _ _ ?_; rotate_left; omega) | with_reducible refine Ext.trans ?_ (by assumption) | with_reducible exact Past.bel _ | with_reducible refine Ext.trans ?_ (Past.bel _))), World.ownsRow_made _ #[] 0 (Ext.size (by repeat (first | with_reducible exact Ext.refl _ | with_reducible assumption | with_reducible refine Ext.alloc ?_ _ | with_reducible refine Ext.drew ?_ | (with_reducible refine Ext.setAt ?_ _ _ _ ?_; rotate_left; omega) | with_reducible refine Ext.trans ?_ (by assumption) | with_reducible exact Past.bel _ | with_reducible refine Ext.trans ?_ (Past.bel _)))) (Nat.zero_le _) rfl, by omega⟩
    case round =>
      obtain ⟨j, hj, rfl, hbl, ho, hj2⟩ := hrel
      have HO := Lib.hid ho
      clear ho
      by_cases hlt : j + 1 < n
      · obtain ⟨b1, o1, rfl, hb1, q1, q2⟩ := HS.out.at (show j + 1 < n by omega)
        obtain ⟨_, _, hh, _, q3, q4⟩ := HS.out.at (show j < n by omega)
        obtain ⟨rfl, rfl⟩ := by simpa using hh
        have p1 := R.out.bo j (by omega)
        have p2 := R.out.bo (j + 1) (by omega)
        have p3 := R.out.bh j (by omega)
        have p4 := R.out.bh (j + 1) (by omega)
        have p5 := R.out.up j (by omega)
        have SK : ∀ w', Ext w w' → (w'.cell? ⟨b1, o1 + (j + 1) * 2, none⟩ = some (.int .i64 (f (j + 1))) ∧ w'.cell? ⟨b1, o1 + (j + 1) * 2 + 1, none⟩ = some (.int .i64 (o (j + 1))) ∧ w'.cell? ⟨b1, o1 + j * 2, none⟩ = some (.int .i64 (f j)) ∧ w'.cell? ⟨b1, o1 + j * 2 + 1, none⟩ = some (.int .i64 (o j))) := fun w' hq => by
          refine ⟨?_, ?_, ?_, ?_⟩ <;> (rw [hq.cell (by assumption)]; assumption)
        have SK' := Lib.hid SK
        clear SK q1 q2 q3 q4
        have e1 := IntWalk.i64_in (o (j + 1) - o j) (by omega)
        have e2 := IntWalk.i64_in (24000 * (o (j + 1) - o j)) (by omega)
        have e3 := IntWalk.i64_in (f (j + 1) - f j) (by omega)
        have x0 : (0 : Int) ≤ (j : Int) + 1 := by omega
        have x1 : (j : Int) + 1 < (n : Int) := by omega
        have x2 : (j : Int) < (n : Int) := by omega
        have x3 := IntWalk.i64_in (j : Int) (by omega)
        have x4 : (0 : Int) ≤ (j : Int) := by omega
        have c5 : ∀ W, Calls Try.prog 74 #[.int .i64 (24000 * (o (j + 1) - o j)), .int .i64 (f (j + 1) - f j)] W fun e w' => e = .returned (.int .i64 (rateFn f o j)) ∧ W = w' := fun W => l02Near_c _ _ _ (by omega) (by omega) (by omega) (by omega)
        have C5 := Lib.hid c5
        clear c5
        go_wp2_with fail
        go_region_held3 (fun w' => w'.cell? ⟨b1, o1 + (j + 1) * 2, none⟩ = some (.int .i64 (f (j + 1))) ∧ w'.cell? ⟨b1, o1 + (j + 1) * 2 + 1, none⟩ = some (.int .i64 (o (j + 1))) ∧ w'.cell? ⟨b1, o1 + j * 2, none⟩ = some (.int .i64 (f j)) ∧ w'.cell? ⟨b1, o1 + j * 2 + 1, none⟩ = some (.int .i64 (o j))) (exact SK'.out _ (by repeat (first | with_reducible exact Ext.refl _ | with_reducible assumption | with_reducible refine Ext.alloc ?_ _ | with_reducible refine Ext.drew ?_ | (with_reducible refine Ext.setAt ?_ _ _ _ ?_; rotate_left; omega) | with_reducible refine Ext.trans ?_ (by assumption) | with_reducible exact Past.bel _ | with_reducible refine Ext.trans ?_ (Past.bel _)))) (first | (go_at_call 74; ((with_reducible refine (C5.out _).mono ?_); rintro e w' ⟨rfl, rfl⟩)) | (refine app1s (w0 := w) 45 2 _ _ (by rfl) (by rfl) Try.underlying45 info_i64 _ (outs (rateFn f o) j) (rateFn f o j) _ (by rfl) (by rfl) (own_ext (outs_own HO.out) (by repeat (first | with_reducible exact Ext.refl _ | with_reducible assumption | with_reducible refine Ext.alloc ?_ _ | with_reducible refine Ext.drew ?_ | (with_reducible refine Ext.setAt ?_ _ _ _ ?_; rotate_left; omega) | with_reducible refine Ext.trans ?_ (by assumption) | with_reducible exact Past.bel _ | with_reducible refine Ext.trans ?_ (Past.bel _)))) (by simp [go_sem]) (by rw [outs_len]; omega) (by repeat (first | with_reducible exact Ext.refl _ | with_reducible assumption | with_reducible refine Ext.alloc ?_ _ | with_reducible refine Ext.drew ?_ | (with_reducible refine Ext.setAt ?_ _ _ _ ?_; rotate_left; omega) | with_reducible refine Ext.trans ?_ (by assumption) | with_reducible exact Past.bel _ | with_reducible refine Ext.trans ?_ (Past.bel _))) ?_; intro v1 w1 ho1 hx1))
        all_goals (go_wp2_with fail; exact ⟨⟨j + 1, by omega, by go_num, hx1, by rw [← outs_step]; simpa [outs_len] using ho1, by omega⟩, by simp [intOf]; omega⟩)
      · obtain ⟨b, cap, rfl⟩ := own_form HO.out
        have he : rateCode n f o = 0 := by simp [rateCode, hv]
        have hl : j = n - 1 := by omega
        subst hl
        have hr : rateRes n f o = outs (rateFn f o) (n - 1) := by rw [rateRes, if_pos hv]
        have HE := Lib.hid he
        have HR := Lib.hid hr
        clear he hr
        go_wp2_with fail
        go_ret2
        exact ⟨b, cap, ret_two (by simp [HR.out, outs_len]) (congrArg _ HE.out.symm), (by repeat (first | with_reducible exact Ext.refl _ | with_reducible assumption | with_reducible refine Ext.alloc ?_ _ | with_reducible refine Ext.drew ?_ | (with_reducible refine Ext.setAt ?_ _ _ _ ?_; rotate_left; omega) | with_reducible refine Ext.trans ?_ (by assumption) | with_reducible exact Past.bel _ | with_reducible refine Ext.trans ?_ (Past.bel _))), by rw [HR.out]; exact (by simpa [outs_len] using HO.out)⟩
  · have hf : rdV n f o = false := by simpa using hv
    go_enter Try.func42, Try.ntmps42
    go_wp2_with (first | (go_at_call 58; ((with_reducible refine (l14Ok_c _ _ _ _ _ _ hn (HS.out.ext (by repeat (first | with_reducible exact Ext.refl _ | with_reducible assumption | with_reducible refine Ext.alloc ?_ _ | with_reducible refine Ext.drew ?_ | (with_reducible refine Ext.setAt ?_ _ _ _ ?_; rotate_left; omega) | with_reducible refine Ext.trans ?_ (by assumption) | with_reducible exact Past.bel _ | with_reducible refine Ext.trans ?_ (Past.bel _))))).mono ?_); rintro e w' ⟨rfl, hx⟩; (first | (obtain ⟨wx, rfl⟩ := Past.again hx) | (obtain ⟨wx, rfl⟩ := Past.ofd hx) | (obtain ⟨wx, rfl⟩ := Past.of hx)))))
    go_ret2
    have he : rateCode n f o = 1 := by simp [rateCode, hf]
    have hr : rateRes n f o = [] := by rw [rateRes, hf]; rfl
    exact ⟨none, 0, ret_two (by rw [hr]; rfl) (congrArg _ he.symm), (by repeat (first | with_reducible exact Ext.refl _ | with_reducible assumption | with_reducible refine Ext.alloc ?_ _ | with_reducible refine Ext.drew ?_ | (with_reducible refine Ext.setAt ?_ _ _ _ ?_; rotate_left; omega) | with_reducible refine Ext.trans ?_ (by assumption) | with_reducible exact Past.bel _ | with_reducible refine Ext.trans ?_ (Past.bel _))), by rw [hr]; exact World.ownsRow_nil _ _ _ _⟩
end Go.Proofs.Ytfpbmceflpohnaa
