/- Residuals of readings: the program's. The law on ResidualsOf. Springs: torque at a position. No program in sight. Residuals add up to nearly nothing; what moves with the errors. No program in sight. Lists compared, absolute values: of the laws. A jump between two levels is the best change. No program in sight. Lists of pairs that a law makes. The draws of the law on fitted lines. The draw of a fit and an hour. Sums of parts; errors that are all moved. No program in sight. Readings that lie on a line. No program in sight. -/
import Derived.Test.YtmbpjlgeneemjaaBc
import Derived.Test.YtmbpjlgeneemjaaBa
import Derived.WalkKit
import Derived.Deep.RegionHeld3
import Derived.Deep.AppendLies
import Derived.Test.YtmbpjlgeneemjaaBb

namespace Go.Proofs.Ytmbpjlgeneemjaa
open Go.RowKit
set_option linter.unusedVariables false
set_option linter.unusedSimpArgs false

set_option maxRecDepth 100000 in
set_option maxHeartbeats 2000000 in
theorem implResidualsOf_c (a : Option Addr) (n c : Nat) (f o : Nat → Int) (w : World) (hn : n ≤ 1048576) (hs : S2 w a n f o) :
    Calls Try.prog 27 #[.slice a n c] w fun e w' => ∃ b cap, e = .returned (.tuple #[.slice b (resRes n f o).length cap, .int .i64 (resCode n f o)]) ∧ Ext w w' ∧
      w'.ownsRow w.heap.size 2 1 (.slice b (resRes n f o).length cap) (resRes n f o).length ((resRes n f o).map (Value.int .i64)) := by
  have HS := Lib.hid hs
  clear hs
  by_cases hv : rdV n f o = true
  · have HV := Lib.hid hv
    have r := rb_of hv
    have R := Lib.hid r
    have h60 := r.n60
    clear r
    obtain ⟨i0, hi, hz0, hz1, hz2⟩ := info_parts info_i64
    obtain ⟨X, hX⟩ : ∃ X, X = sm f n := ⟨_, rfl⟩
    obtain ⟨Y, hY⟩ : ∃ Y, Y = sm o n := ⟨_, rfl⟩
    obtain ⟨XX, hXX⟩ : ∃ XX, XX = sXX f n := ⟨_, rfl⟩
    obtain ⟨XY, hXY⟩ : ∃ XY, XY = sXY f o n := ⟨_, rfl⟩
    obtain ⟨N, hN⟩ : ∃ N, N = slN n (sm f n) (sm o n) (sXX f n) (sXY f o n) := ⟨_, rfl⟩
    obtain ⟨D, hD⟩ : ∃ D, D = slD n (sm f n) (sm o n) (sXX f n) (sXY f o n) := ⟨_, rfl⟩
    have hf : ∀ W, S2 W a n f o → Calls Try.prog 47 #[.slice a n c] W fun e w' => e = .returned (.agg #[.int .i64 n, .int .i64 X, .int .i64 Y, .int .i64 XX, .int .i64 XY]) ∧ Ext W w' := fun W hs => by
      rw [hX, hY, hXX, hXY]; exact fitOf_c _ _ _ _ _ W hv hs
    have HF := Lib.hid hf
    have hcd : ∀ W, Calls Try.prog 53 #[.agg #[.int .i64 n, .int .i64 X, .int .i64 Y, .int .i64 XX, .int .i64 XY]] W fun e w' => e = .returned (.tuple #[.int .i64 N, .int .i64 D]) ∧ Ext W w' := fun W => by
      rw [hX, hY, hXX, hXY, hN, hD]; exact slopeOf_c _ _ _ _ _ (vF_fb (vF_of R.out)) W
    have HCD := Lib.hid hcd
    have hC : resCode n f o = if D = 0 then 6 else 0 := by rw [resCode, if_pos hv, hD]
    have hat : D ≠ 0 → ∀ j, j < n → ∀ W, Calls Try.prog 54 #[.agg #[.int .i64 n, .int .i64 X, .int .i64 Y, .int .i64 XX, .int .i64 XY], .int .i64 (f j)] W fun e w' => e = .returned (.int .i64 (lineAt n f o j)) ∧ Ext W w' := fun h0 j hj W => by
      rw [hX, hY, hXX, hXY]; exact offAt_c _ _ _ _ _ _ (by rw [resCode_f hv, hC, if_neg h0]) (R.out.bh j hj).1 (R.out.bh j hj).2 W
    have HAT := Lib.hid hat
    have HC := Lib.hid hC
    clear hf hcd hat hX hY hXX hXY hC hN hD
    by_cases hc0 : D = 0
    · subst hc0
      go_enter Try.func27, Try.ntmps27
      go_wp2_with (first | (go_at_call 20; ((with_reducible refine (validReadings_c _ _ _ _ _ _ hn (HS.out.ext (by repeat (first | with_reducible exact Ext.refl _ | with_reducible assumption | with_reducible refine Ext.alloc ?_ _ | with_reducible refine Ext.drew ?_ | (with_reducible refine Ext.setAt ?_ _ _ _ ?_; rotate_left; omega) | with_reducible refine Ext.trans ?_ (by assumption) | with_reducible exact Past.bel _ | with_reducible refine Ext.trans ?_ (Past.bel _))))).mono ?_); rintro e w' ⟨rfl, hx⟩; (first | (obtain ⟨wx, rfl⟩ := Past.again hx) | (obtain ⟨wx, rfl⟩ := Past.ofd hx) | (obtain ⟨wx, rfl⟩ := Past.of hx)))) | (go_at_call 47; ((with_reducible refine (HF.out _ (HS.out.ext (by repeat (first | with_reducible exact Ext.refl _ | with_reducible assumption | with_reducible refine Ext.alloc ?_ _ | with_reducible refine Ext.drew ?_ | (with_reducible refine Ext.setAt ?_ _ _ _ ?_; rotate_left; omega) | with_reducible refine Ext.trans ?_ (by assumption) | with_reducible exact Past.bel _ | with_reducible refine Ext.trans ?_ (Past.bel _))))).mono ?_); rintro e w' ⟨rfl, hx⟩; (first | (obtain ⟨wx, rfl⟩ := Past.again hx) | (obtain ⟨wx, rfl⟩ := Past.ofd hx) | (obtain ⟨wx, rfl⟩ := Past.of hx)))) | (go_at_call 53; ((with_reducible refine (HCD.out _).mono ?_); rintro e w' ⟨rfl, hx⟩; (first | (obtain ⟨wx, rfl⟩ := Past.again hx) | (obtain ⟨wx, rfl⟩ := Past.ofd hx) | (obtain ⟨wx, rfl⟩ := Past.of hx)))))
      go_ret2
      have he : resCode n f o = 6 := by rw [HC.out]; rfl
      have hr : resRes n f o = [] := by rw [resRes, he]; rfl
      exact ⟨none, 0, ret_two (by rw [hr]; rfl) (congrArg _ he.symm), (by repeat (first | with_reducible exact Ext.refl _ | with_reducible assumption | with_reducible refine Ext.alloc ?_ _ | with_reducible refine Ext.drew ?_ | (with_reducible refine Ext.setAt ?_ _ _ _ ?_; rotate_left; omega) | with_reducible refine Ext.trans ?_ (by assumption) | with_reducible exact Past.bel _ | with_reducible refine Ext.trans ?_ (Past.bel _))), by rw [hr]; exact World.ownsRow_nil _ _ _ _⟩
    · have hHAT := HAT.out hc0
      have HAT' := Lib.hid hHAT
      have he : resCode n f o = 0 := by rw [HC.out, if_neg hc0]
      have HE := Lib.hid he
      have d0 : (D == 0) = false := by simpa using hc0
      clear HAT hHAT he HC
      go_enter Try.func27, Try.ntmps27
      go_upto_region 4 with (first | (go_at_call 20; ((with_reducible refine (validReadings_c _ _ _ _ _ _ hn (HS.out.ext (by repeat (first | with_reducible exact Ext.refl _ | with_reducible assumption | with_reducible refine Ext.alloc ?_ _ | with_reducible refine Ext.drew ?_ | (with_reducible refine Ext.setAt ?_ _ _ _ ?_; rotate_left; omega) | with_reducible refine Ext.trans ?_ (by assumption) | with_reducible exact Past.bel _ | with_reducible refine Ext.trans ?_ (Past.bel _))))).mono ?_); rintro e w' ⟨rfl, hx⟩; (first | (obtain ⟨wx, rfl⟩ := Past.again hx) | (obtain ⟨wx, rfl⟩ := Past.ofd hx) | (obtain ⟨wx, rfl⟩ := Past.of hx)))) | (go_at_call 47; ((with_reducible refine (HF.out _ (HS.out.ext (by repeat (first | with_reducible exact Ext.refl _ | with_reducible assumption | with_reducible refine Ext.alloc ?_ _ | with_reducible refine Ext.drew ?_ | (with_reducible refine Ext.setAt ?_ _ _ _ ?_; rotate_left; omega) | with_reducible refine Ext.trans ?_ (by assumption) | with_reducible exact Past.bel _ | with_reducible refine Ext.trans ?_ (Past.bel _))))).mono ?_); rintro e w' ⟨rfl, hx⟩; (first | (obtain ⟨wx, rfl⟩ := Past.again hx) | (obtain ⟨wx, rfl⟩ := Past.ofd hx) | (obtain ⟨wx, rfl⟩ := Past.of hx)))))
      go_cut [4, 6] (fun s4 s6 wx => ∃ g : Nat, s4 = .pointer (some ⟨g, 0, none⟩) ∧ s6 = .int .i64 D ∧ Ext w wx ∧ g < wx.heap.size ∧ wx.cell? ⟨g, 0, none⟩ = some (.int .i64 n) ∧ wx.cell? ⟨g, 1, none⟩ = some (.int .i64 X) ∧ wx.cell? ⟨g, 2, none⟩ = some (.int .i64 Y) ∧ wx.cell? ⟨g, 3, none⟩ = some (.int .i64 XX) ∧ wx.cell? ⟨g, 4, none⟩ = some (.int .i64 XY))
      case first =>
        go_wp2_with (go_at_call 53; ((with_reducible refine (HCD.out _).mono ?_); rintro e w' ⟨rfl, hx⟩; (first | (obtain ⟨wx, rfl⟩ := Past.again hx) | (obtain ⟨wx, rfl⟩ := Past.ofd hx) | (obtain ⟨wx, rfl⟩ := Past.of hx)); have hz := Past.size wx; (try simp only [World.size_alloc, World.size_drew] at hz)))
        go_meet
        exact ⟨_, rfl, rfl, (by repeat (first | with_reducible exact Ext.refl _ | with_reducible assumption | with_reducible refine Ext.alloc ?_ _ | with_reducible refine Ext.drew ?_ | (with_reducible refine Ext.setAt ?_ _ _ _ ?_; rotate_left; omega) | with_reducible refine Ext.trans ?_ (by assumption) | with_reducible exact Past.bel _ | with_reducible refine Ext.trans ?_ (Past.bel _))), by (try simp); omega, by simp [go_sem]⟩
      case rest =>
        obtain ⟨g, rfl, rfl, hx0, hg, k0, k1, k2, k3, k4⟩ := hcut
        obtain ⟨v1, rfl⟩ : ∃ v1 : World, v1 = wc := ⟨_, rfl⟩
        have hsv := HS.out.ext hx0
        have HV1 := Lib.hid hsv
        clear hsv
        have FK : ∀ w', Ext v1 w' → (w'.cell? ⟨g, 0, none⟩ = some (.int .i64 n) ∧ w'.cell? ⟨g, 1, none⟩ = some (.int .i64 X) ∧ w'.cell? ⟨g, 2, none⟩ = some (.int .i64 Y) ∧ w'.cell? ⟨g, 3, none⟩ = some (.int .i64 XX) ∧ w'.cell? ⟨g, 4, none⟩ = some (.int .i64 XY)) := fun w' hq => by
          refine ⟨?_, ?_, ?_, ?_, ?_⟩ <;> (rw [hq.cell (by assumption)]; assumption)
        have FK' := Lib.hid FK
        clear FK k0 k1 k2 k3 k4
        go_wp2_with fail
        go_loopw [7, 24] (fun v i wr => ∃ j : Nat, j ≤ n ∧ i = .int .i64 (j : Int) ∧ Ext v1 wr ∧ wr.ownsRow v1.heap.size 2 1 v j ((outs (resFn n f o) j).map (Value.int .i64))) (fun _ i _ => n - (intOf i).toNat)
        case atStart => exact ⟨0, by omega, rfl, (by repeat (first | with_reducible exact Ext.refl _ | with_reducible assumption | with_reducible refine Ext.alloc ?_ _ | with_reducible refine Ext.drew ?_ | (with_reducible refine Ext.setAt ?_ _ _ _ ?_; rotate_left; omega) | with_reducible refine Ext.trans ?_ (by assumption) | with_reducible exact Past.bel _ | with_reducible refine Ext.trans ?_ (Past.bel _))), World.ownsRow_nil _ _ _ _⟩
        case round =>
          obtain ⟨j, hj, rfl, hbl, ho⟩ := hrel
          have HO := Lib.hid ho
          clear ho
          by_cases hlt : j < n
          · obtain ⟨b1, o1, rfl, hb1, q3, q4⟩ := (S2.ext HV1.out hbl).at hlt
            have e1 : IntKind.i64.wrap (o j - lineAt n f o j) = resFn n f o j := rfl
            have x2 : (j : Int) < (n : Int) := by omega
            have x4 : (0 : Int) ≤ (j : Int) := by omega
            have c5 := HAT'.out j hlt
            have C5 := Lib.hid c5
            clear c5
            have NE : ∀ k, u7.ownBlock = some k → k < wr.heap.size := fun k hk => (HO.out.lt k hk).2
            have SKI : ∀ w', Ext (wr.alloc (Obj.cells #[Value.int .i64 (f j), Value.int .i64 (o j)] 33)) w' → (w'.cell? ⟨g, 0, none⟩ = some (.int .i64 n) ∧ w'.cell? ⟨g, 1, none⟩ = some (.int .i64 X) ∧ w'.cell? ⟨g, 2, none⟩ = some (.int .i64 Y) ∧ w'.cell? ⟨g, 3, none⟩ = some (.int .i64 XX) ∧ w'.cell? ⟨g, 4, none⟩ = some (.int .i64 XY) ∧ w'.cell? ⟨wr.heap.size, 0, none⟩ = some (.int .i64 (f j)) ∧ w'.cell? ⟨wr.heap.size, 1, none⟩ = some (.int .i64 (o j))) := fun w' hq => by
              have hq' : Ext v1 w' := ((hbl.alloc _)).trans hq
              obtain ⟨k0, k1, k2, k3, k4⟩ := FK'.out _ hq'
              exact ⟨k0, k1, k2, k3, k4, by rw [hq.cell (by simp)]; simp [go_sem], by rw [hq.cell (by simp)]; simp [go_sem]⟩
            have SKJ : ∀ w' W, Ext (wr.alloc (Obj.cells #[Value.int .i64 (f j), Value.int .i64 (o j)] 33)) W → (∀ b i, b < W.heap.size → u7.ownBlock ≠ some b → w'.cell? ⟨b, i, none⟩ = W.cell? ⟨b, i, none⟩) → Ext v1 w' → (w'.cell? ⟨g, 0, none⟩ = some (.int .i64 n) ∧ w'.cell? ⟨g, 1, none⟩ = some (.int .i64 X) ∧ w'.cell? ⟨g, 2, none⟩ = some (.int .i64 Y) ∧ w'.cell? ⟨g, 3, none⟩ = some (.int .i64 XX) ∧ w'.cell? ⟨g, 4, none⟩ = some (.int .i64 XY) ∧ w'.cell? ⟨wr.heap.size, 0, none⟩ = some (.int .i64 (f j)) ∧ w'.cell? ⟨wr.heap.size, 1, none⟩ = some (.int .i64 (o j))) := fun w' W hq hk hq' => by
              obtain ⟨k0, k1, k2, k3, k4⟩ := FK'.out _ hq'
              obtain ⟨_, _, _, _, _, m0, m1⟩ := SKI W hq
              have hlt9 : wr.heap.size < W.heap.size := by have := hq.size; simp at this; omega
              have hne : u7.ownBlock ≠ some wr.heap.size := fun e => absurd (NE _ e) (Nat.lt_irrefl _)
              exact ⟨k0, k1, k2, k3, k4, (hk _ _ hlt9 hne).trans m0, (hk _ _ hlt9 hne).trans m1⟩
            have SKI' := Lib.hid SKI
            have SKJ' := Lib.hid SKJ
            clear SKI SKJ NE
            go_wp2_with fail
            go_region_held3 (fun w' => w'.cell? ⟨g, 0, none⟩ = some (.int .i64 n) ∧ w'.cell? ⟨g, 1, none⟩ = some (.int .i64 X) ∧ w'.cell? ⟨g, 2, none⟩ = some (.int .i64 Y) ∧ w'.cell? ⟨g, 3, none⟩ = some (.int .i64 XX) ∧ w'.cell? ⟨g, 4, none⟩ = some (.int .i64 XY) ∧ w'.cell? ⟨wr.heap.size, 0, none⟩ = some (.int .i64 (f j)) ∧ w'.cell? ⟨wr.heap.size, 1, none⟩ = some (.int .i64 (o j))) (first | (refine SKI'.out _ ?_; ((repeat (first | with_reducible exact Ext.refl _ | with_reducible assumption | with_reducible refine Ext.alloc ?_ _ | with_reducible refine Ext.drew ?_ | (with_reducible refine Ext.setAt ?_ _ _ _ ?_; rotate_left; omega) | with_reducible refine Ext.trans ?_ (by assumption) | with_reducible exact Past.bel _ | with_reducible refine Ext.trans ?_ (Past.bel _))); done)) | exact SKJ'.out _ _ (by first | exact (Past.bel _).alloc _ | exact ((Past.bel _).alloc _).drew) hk2 hx2) (first | (go_at_call 54; ((with_reducible refine (C5.out _).mono ?_); rintro e w' ⟨rfl, hx⟩; (first | (obtain ⟨wx, rfl⟩ := Past.again hx) | (obtain ⟨wx, rfl⟩ := Past.ofd hx) | (obtain ⟨wx, rfl⟩ := Past.of hx)); have hz := Past.size wx; (try simp only [World.size_alloc, World.size_drew] at hz))) | (refine app1t (w0 := v1) 34 2 _ _ (by rfl) (by rfl) Try.underlying34 info_i64 _ (outs (resFn n f o) j) (resFn n f o j) _ (by rfl) (by rfl) (own_ext (outs_own HO.out) (by repeat (first | with_reducible exact Ext.refl _ | with_reducible assumption | with_reducible refine Ext.alloc ?_ _ | with_reducible refine Ext.drew ?_ | (with_reducible refine Ext.setAt ?_ _ _ _ ?_; rotate_left; omega) | with_reducible refine Ext.trans ?_ (by assumption) | with_reducible exact Past.bel _ | with_reducible refine Ext.trans ?_ (Past.bel _)))) (by simp [go_sem]) (by rw [outs_len]; omega) (by repeat (first | with_reducible exact Ext.refl _ | with_reducible assumption | with_reducible refine Ext.alloc ?_ _ | with_reducible refine Ext.drew ?_ | (with_reducible refine Ext.setAt ?_ _ _ _ ?_; rotate_left; omega) | with_reducible refine Ext.trans ?_ (by assumption) | with_reducible exact Past.bel _ | with_reducible refine Ext.trans ?_ (Past.bel _))) ?_; intro v2 w2 ho2 hx2 hk2))
            all_goals (go_wp2_with fail; exact ⟨⟨j + 1, by omega, by go_num, hx2, by rw [← outs_step]; simpa [outs_len] using ho2⟩, by simp [intOf]; omega⟩)
          · obtain ⟨b, cap, rfl⟩ := own_form HO.out
            have hl : j = n := by omega
            subst hl
            have hr : resRes j f o = outs (resFn j f o) j := by rw [resRes, if_pos HE.out]
            have HR := Lib.hid hr
            clear hr
            go_wp2_with fail
            go_ret2
            exact ⟨b, cap, ret_two (by simp [HR.out, outs_len]) (congrArg _ HE.out.symm), (by repeat (first | with_reducible exact Ext.refl _ | with_reducible assumption | with_reducible refine Ext.alloc ?_ _ | with_reducible refine Ext.drew ?_ | (with_reducible refine Ext.setAt ?_ _ _ _ ?_; rotate_left; omega) | with_reducible refine Ext.trans ?_ (by assumption) | with_reducible exact Past.bel _ | with_reducible refine Ext.trans ?_ (Past.bel _))), by rw [HR.out]; exact own_base (by simpa [outs_len] using HO.out) hx0.size⟩
  · have hf : rdV n f o = false := by simpa using hv
    go_enter Try.func27, Try.ntmps27
    go_wp2_with (first | (go_at_call 20; ((with_reducible refine (validReadings_c _ _ _ _ _ _ hn (HS.out.ext (by repeat (first | with_reducible exact Ext.refl _ | with_reducible assumption | with_reducible refine Ext.alloc ?_ _ | with_reducible refine Ext.drew ?_ | (with_reducible refine Ext.setAt ?_ _ _ _ ?_; rotate_left; omega) | with_reducible refine Ext.trans ?_ (by assumption) | with_reducible exact Past.bel _ | with_reducible refine Ext.trans ?_ (Past.bel _))))).mono ?_); rintro e w' ⟨rfl, hx⟩; (first | (obtain ⟨wx, rfl⟩ := Past.again hx) | (obtain ⟨wx, rfl⟩ := Past.ofd hx) | (obtain ⟨wx, rfl⟩ := Past.of hx)))))
    go_ret2
    have he : resCode n f o = 1 := by simp [resCode, hf]
    have hr : resRes n f o = [] := by rw [resRes, he]; rfl
    exact ⟨none, 0, ret_two (by rw [hr]; rfl) (congrArg _ he.symm), (by repeat (first | with_reducible exact Ext.refl _ | with_reducible assumption | with_reducible refine Ext.alloc ?_ _ | with_reducible refine Ext.drew ?_ | (with_reducible refine Ext.setAt ?_ _ _ _ ?_; rotate_left; omega) | with_reducible refine Ext.trans ?_ (by assumption) | with_reducible exact Past.bel _ | with_reducible refine Ext.trans ?_ (Past.bel _))), by rw [hr]; exact World.ownsRow_nil _ _ _ _⟩
end Go.Proofs.Ytmbpjlgeneemjaa

namespace Go.Proofs.Ytmbpjlgeneemjaa
open Go.RowKit
set_option linter.unusedVariables false
set_option linter.unusedSimpArgs false

end Go.Proofs.Ytmbpjlgeneemjaa

namespace Go.Proofs.Ytmbpjlgeneemjaa
set_option linter.unusedVariables false
theorem nearD_mono {n n' d : Int} (hd : 0 < d) (h : n ≤ n') : nearD n d ≤ nearD n' d := Int.ediv_le_ediv (by omega) (by omega)
theorem nearD_mul {a d : Int} (hd : 0 < d) : nearD (a * d) d = a := by
  unfold nearD
  have e : 2 * (a * d) + d = d + a * (2 * d) := by grind
  rw [e, Int.add_mul_ediv_right _ _ (by omega), Int.ediv_eq_zero_of_lt (by omega) (by omega)]; omega
theorem nearD_add {n a d : Int} (hd : 0 < d) : nearD (a * d + n) d = a + nearD n d := by
  unfold nearD
  have e : 2 * (a * d + n) + d = (2 * n + d) + a * (2 * d) := by grind
  rw [e, Int.add_mul_ediv_right _ _ (by omega)]; omega
/-- what a rounded quotient is -/
theorem nearD_bd {n d : Int} (hd : 0 < d) : 2 * (nearD n d * d - n) ≤ d ∧ 2 * (n - nearD n d * d) < d := by
  unfold nearD
  have h1 := Int.mul_ediv_add_emod (2 * n + d) (2 * d)
  have h2 := Int.emod_nonneg (2 * n + d) (show 2 * d ≠ 0 by omega)
  have h3 := Int.emod_lt_of_pos (2 * n + d) (show 0 < 2 * d by omega)
  have h4 : 2 * d * ((2 * n + d) / (2 * d)) = 2 * ((2 * n + d) / (2 * d) * d) := by grind
  omega
theorem nearD_anti {m p q : Int} (hp : 0 < p) (hq : p ≤ q) (hm : 0 ≤ m) : nearD m q ≤ nearD m p := by
  unfold nearD
  rw [Int.le_ediv_iff_mul_le (by omega)]
  have h1 := Int.mul_ediv_add_emod (2 * m + q) (2 * q)
  have h2 := Int.emod_nonneg (2 * m + q) (show 2 * q ≠ 0 by omega)
  obtain ⟨x, hx⟩ : ∃ x, x = (2 * m + q) / (2 * q) := ⟨_, rfl⟩
  rw [← hx] at h1 ⊢
  have h3 : q * (2 * x - 1) ≤ 2 * m := by
    have : q * (2 * x - 1) = 2 * q * x - q := by grind
    omega
  have h4 : p * (2 * x - 1) ≤ 2 * m := by
    rcases Int.lt_or_le (2 * x - 1) 0 with h | h
    · have := Int.mul_nonneg (show 0 ≤ p by omega) (show 0 ≤ -(2 * x - 1) by omega)
      have e : p * -(2 * x - 1) = -(p * (2 * x - 1)) := by grind
      omega
    · exact Int.le_trans (Int.mul_le_mul_of_nonneg_right hq h) h3
  have e : x * (2 * p) = p * (2 * x - 1) + p := by grind
  omega
/-- bend k of a spring is valid -/
def bdA (w p : Nat → Int) (k : Nat) : Bool := inB (w k) 0 2000 && (inB (p k) 0 1000000 && (k == 0 || (decide (w (k - 1) < w k) && decide (p (k - 1) ≤ p k))))
def bdTo (w p : Nat → Int) : Nat → Bool
  | 0 => true
  | k + 1 => bdTo w p k && bdA w p k
theorem bdTo_ff {w p : Nat → Int} {n k : Nat} (hk : k < n) (h : bdA w p k = false) : bdTo w p n = false := by
  induction n with
  | zero => omega
  | succ n ih =>
    by_cases e : k = n
    · subst e; simp only [bdTo, h, Bool.and_false]
    · simp only [bdTo, ih (by omega), Bool.false_and]
theorem bdTo_at {w p : Nat → Int} {n k : Nat} (h : bdTo w p n = true) (hk : k < n) : bdA w p k = true := by
  cases e : bdA w p k
  · rw [bdTo_ff hk e] at h; cases h
  · rfl
/-- a spring is valid -/
def spV (n : Nat) (w p : Nat → Int) : Bool := bdTo w p n && (decide (2 ≤ n) && decide (n ≤ 20))
structure SpB (n : Nat) (w p : Nat → Int) : Prop where
  n2 : 2 ≤ n
  n20 : n ≤ 20
  wb : ∀ k, k < n → 0 ≤ w k ∧ w k ≤ 2000
  pb : ∀ k, k < n → 0 ≤ p k ∧ p k ≤ 1000000
  wi : ∀ k, k + 1 < n → w k < w (k + 1)
  pi : ∀ k, k + 1 < n → p k ≤ p (k + 1)
theorem spV_b {n : Nat} {w p : Nat → Int} (h : spV n w p = true) : SpB n w p := by
  simp only [spV, Bool.and_eq_true, decide_eq_true_eq] at h
  obtain ⟨h1, h2, h3⟩ := h
  have ha : ∀ k, k < n → inB (w k) 0 2000 = true ∧ inB (p k) 0 1000000 = true ∧ (k = 0 ∨ (w (k - 1) < w k ∧ p (k - 1) ≤ p k)) := fun k hk => by
    have := bdTo_at h1 hk
    simpa only [bdA, Bool.and_eq_true, Bool.or_eq_true, beq_iff_eq, decide_eq_true_eq] using this
  refine ⟨h2, h3, fun k hk => inB_t.1 (ha k hk).1, fun k hk => inB_t.1 (ha k hk).2.1, fun k hk => ?_, fun k hk => ?_⟩
  · rcases (ha (k + 1) hk).2.2 with e | ⟨e, _⟩
    · omega
    · simpa using e
  · rcases (ha (k + 1) hk).2.2 with e | ⟨_, e⟩
    · omega
    · simpa using e
theorem SpB.wm {n : Nat} {w p : Nat → Int} (b : SpB n w p) {i j : Nat} (h : i ≤ j) (hj : j < n) : w i ≤ w j := by
  induction j with
  | zero => have : i = 0 := by omega
            subst this; exact Int.le_refl _
  | succ j ih =>
    by_cases e : i = j + 1
    · subst e; exact Int.le_refl _
    · have := ih (by omega) (by omega); have := b.wi j hj; omega
theorem SpB.wl {n : Nat} {w p : Nat → Int} (b : SpB n w p) {i j : Nat} (h : i < j) (hj : j < n) : w i < w j := by
  have h1 := b.wm (show i + 1 ≤ j from h) hj
  have h2 := b.wi i (by omega)
  omega
theorem SpB.pm {n : Nat} {w p : Nat → Int} (b : SpB n w p) {i j : Nat} (h : i ≤ j) (hj : j < n) : p i ≤ p j := by
  induction j with
  | zero => have : i = 0 := by omega
            subst this; exact Int.le_refl _
  | succ j ih =>
    by_cases e : i = j + 1
    · subst e; exact Int.le_refl _
    · have := ih (by omega) (by omega); have := b.pi j hj; omega
/-- t lies in the part between bends k - 1 and k -/
structure Seg (n : Nat) (w : Nat → Int) (t : Int) (k : Nat) : Prop where
  k1 : 1 ≤ k
  kn : k < n
  hi : t ≤ w k
  lo : w (k - 1) ≤ t
  st : ∀ j, 1 ≤ j → j < k → w j < t
theorem Seg.one {n : Nat} {w p : Nat → Int} (b : SpB n w p) {t : Int} {k j : Nat} (h : Seg n w t k) (g : Seg n w t j) : k = j := by
  rcases Nat.lt_trichotomy k j with a | a | a
  · have := g.st k h.k1 a; have := h.hi; omega
  · exact a
  · have := h.st j g.k1 a; have := g.hi; omega
theorem Seg.ex {n : Nat} {w p : Nat → Int} (b : SpB n w p) {t : Int} (h0 : w 0 ≤ t) (h1 : t ≤ w (n - 1)) : ∃ k, Seg n w t k := by
  have h2 := b.n2
  -- the first bend from 1 on that is not below t
  have : ∀ m, m < n → t ≤ w m → 1 ≤ m → ∃ k, Seg n w t k := by
    intro m
    induction m with
    | zero => intro _ _ h; omega
    | succ m ih =>
      intro hm ht _
      by_cases a : m = 0
      · subst a
        exact ⟨1, Nat.le_refl _, hm, ht, h0, fun j h1 h2 => by omega⟩
      · by_cases c : t ≤ w m
        · exact ih (by omega) c (by omega)
        · exact ⟨m + 1, by omega, hm, ht, by simp; omega, fun j h1 h2 => by have := b.wm (show j ≤ m by omega) (by omega); omega⟩
  exact this (n - 1) (by omega) h1 (by omega)
/-- the torque in part k -/
def segV (w p : Nat → Int) (k : Nat) (t : Int) : Int := nearD (p (k - 1) * (w k - t) + p k * (t - w (k - 1))) (w k - w (k - 1))
theorem Seg.d {n : Nat} {w p : Nat → Int} (b : SpB n w p) {t : Int} {k : Nat} (h : Seg n w t k) : 0 < w k - w (k - 1) := by
  have := b.wl (show k - 1 < k by have := h.k1; omega) h.kn; omega
theorem segV_alt (w p : Nat → Int) (k : Nat) (t : Int) (hd : 0 < w k - w (k - 1)) : segV w p k t = p (k - 1) + nearD ((p k - p (k - 1)) * (t - w (k - 1))) (w k - w (k - 1)) := by
  unfold segV
  rw [← nearD_add hd]; congr 1; grind
theorem Seg.bd {n : Nat} {w p : Nat → Int} (b : SpB n w p) {t : Int} {k : Nat} (h : Seg n w t k) : p (k - 1) ≤ segV w p k t ∧ segV w p k t ≤ p k := by
  have hd := h.d b
  have hp := b.pm (show k - 1 ≤ k by omega) h.kn
  have h1 := h.lo
  have h2 := h.hi
  have e1 := Int.mul_nonneg (show 0 ≤ p k - p (k - 1) by omega) (show 0 ≤ t - w (k - 1) by omega)
  have e2 := Int.mul_nonneg (show 0 ≤ p k - p (k - 1) by omega) (show 0 ≤ w k - t by omega)
  constructor
  · have := nearD_mono hd (show p (k - 1) * (w k - w (k - 1)) ≤ p (k - 1) * (w k - t) + p k * (t - w (k - 1)) by grind)
    rw [nearD_mul hd] at this; exact this
  · have := nearD_mono hd (show p (k - 1) * (w k - t) + p k * (t - w (k - 1)) ≤ p k * (w k - w (k - 1)) by grind)
    rw [nearD_mul hd] at this; exact this
theorem Seg.mono {n : Nat} {w p : Nat → Int} (b : SpB n w p) {t t' : Int} {k k' : Nat} (h : Seg n w t k) (h' : Seg n w t' k') (ht : t ≤ t') : segV w p k t ≤ segV w p k' t' := by
  rcases Nat.lt_trichotomy k k' with a | a | a
  · have h1 := (h.bd b).2
    have h2 := (h'.bd b).1
    have h3 := b.pm (show k ≤ k' - 1 by omega) (by have := h'.kn; omega)
    omega
  · subst a
    have hp := b.pm (show k - 1 ≤ k by omega) h.kn
    have e1 := Int.mul_nonneg (show 0 ≤ p k - p (k - 1) by omega) (show 0 ≤ t' - t by omega)
    exact nearD_mono (h.d b) (by grind)
  · have h1 := h.st k' h'.k1 a
    have h2 := h'.hi
    omega
theorem Seg.bend {n : Nat} {w p : Nat → Int} (b : SpB n w p) {i k : Nat} (h : Seg n w (w i) k) (hi : i < n) : segV w p k (w i) = p i := by
  have hd := h.d b
  have hk := h.k1
  have : i = k ∨ i = k - 1 := by
    rcases Nat.lt_trichotomy i k with a | a | a
    · rcases Nat.lt_or_ge i (k - 1) with c | c
      · have := h.lo; have := b.wl c (by have := h.kn; omega); omega
      · right; omega
    · exact .inl a
    · have := b.wl a hi; have := h.hi; omega
  rcases this with rfl | rfl
  · unfold segV
    rw [show p (i - 1) * (w i - w i) + p i * (w i - w (i - 1)) = p i * (w i - w (i - 1)) by grind, nearD_mul hd]
  · unfold segV
    rw [show p (k - 1) * (w k - w (k - 1)) + p k * (w (k - 1) - w (k - 1)) = p (k - 1) * (w k - w (k - 1)) by grind, nearD_mul hd]
end Go.Proofs.Ytmbpjlgeneemjaa

namespace Go.Proofs.Ytmbpjlgeneemjaa
open Go.RowKit
set_option linter.unusedVariables false
theorem sm_add (f g : Nat → Int) (k : Nat) : sm (fun i => f i + g i) k = sm f k + sm g k := by
  induction k with
  | zero => simp [sm]
  | succ k ih => simp only [sm, ih]; omega
theorem sm_sub (f g : Nat → Int) (k : Nat) : sm (fun i => f i - g i) k = sm f k - sm g k := by
  induction k with
  | zero => simp [sm]
  | succ k ih => simp only [sm, ih]; omega
theorem sm_mulr (f : Nat → Int) (c : Int) (k : Nat) : sm (fun i => f i * c) k = sm f k * c := by
  induction k with
  | zero => simp [sm]
  | succ k ih => simp only [sm, ih, Int.add_mul]
theorem sm_const (c : Int) (k : Nat) : sm (fun _ => c) k = (k : Int) * c := by
  induction k with
  | zero => simp [sm]
  | succ k ih => simp only [sm, ih]; rw [Int.natCast_add, Int.add_mul]; simp
theorem sm_congr {f g : Nat → Int} {k : Nat} (h : ∀ j, j < k → f j = g j) : sm f k = sm g k := by
  induction k with
  | zero => rfl
  | succ k ih => simp only [sm]; rw [ih (fun j hj => h j (by omega)), h k (by omega)]
theorem sm_le {f g : Nat → Int} {k : Nat} (h : ∀ j, j < k → f j ≤ g j) : sm f k ≤ sm g k := by
  induction k with
  | zero => exact Int.le_refl _
  | succ k ih => simp only [sm]; have := ih (fun j hj => h j (by omega)); have := h k (by omega); omega
/-- the terms of the fitted line -/
def lnA (n : Nat) (h o : Nat → Int) (hr : Int) : Int := sm o n * slD n (sm h n) (sm o n) (sXX h n) (sXY h o n) + slN n (sm h n) (sm o n) (sXX h n) (sXY h o n) * (hr * n - sm h n)
def lnE (n : Nat) (h o : Nat → Int) : Int := n * slD n (sm h n) (sm o n) (sXX h n) (sXY h o n)
theorem lineAt_eq (n : Nat) (h o : Nat → Int) (j : Nat) : lineAt n h o j = nearD (lnA n h o (h j)) (lnE n h o) := rfl
theorem lnA_sum (n : Nat) (h o : Nat → Int) : sm (fun j => lnA n h o (h j)) n = lnE n h o * sm o n := by
  unfold lnA lnE
  generalize slD (n : Int) (sm h n) (sm o n) (sXX h n) (sXY h o n) = D
  generalize slN (n : Int) (sm h n) (sm o n) (sXX h n) (sXY h o n) = N
  have e1 : (fun j => sm o n * D + N * (h j * (n : Int) - sm h n)) = (fun j => (sm o n * D - N * sm h n) + h j * ((n : Int) * N)) := by
    funext j; grind
  rw [e1, sm_add, sm_const, sm_mulr]; grind
/-- the sum of what is left -/
theorem res_sum (n : Nat) (h o : Nat → Int) (hE : 0 < lnE n h o) : 2 * (sm (fun j => o j - lineAt n h o j) n) ≤ n ∧ -(n : Int) ≤ 2 * (sm (fun j => o j - lineAt n h o j) n) := by
  rw [sm_sub]
  have hs := lnA_sum n h o
  obtain ⟨E, hEe⟩ : ∃ E, E = lnE n h o := ⟨_, rfl⟩
  rw [← hEe] at hs hE
  have hb : ∀ j, 2 * (lineAt n h o j * E - lnA n h o (h j)) ≤ E ∧ 2 * (lnA n h o (h j) - lineAt n h o j * E) < E := fun j => by
    rw [lineAt_eq, ← hEe]; exact nearD_bd hE
  have a1 := sm_le (k := n) (f := fun j => lineAt n h o j * (2 * E)) (g := fun j => lnA n h o (h j) * 2 + E) (fun j _ => by have := (hb j).1; grind)
  have a2 := sm_le (k := n) (f := fun j => lnA n h o (h j) * 2) (g := fun j => lineAt n h o j * (2 * E) + E) (fun j _ => by have := (hb j).2; grind)
  rw [sm_mulr, sm_add, sm_mulr, sm_const, hs] at a1
  rw [sm_add, sm_mulr, sm_mulr, sm_const, hs] at a2
  generalize sm (lineAt n h o) n = L at a1 a2 ⊢
  have e1 : sm (fun j => lineAt n h o j) n = sm (lineAt n h o) n := rfl
  generalize sm o n = S at a1 a2 ⊢
  have b1 : E * (2 * (L - S)) ≤ E * n := by grind
  have b2 : E * (2 * (S - L)) ≤ E * n := by grind
  have c1 := Int.le_of_mul_le_mul_left b1 hE
  have c2 := Int.le_of_mul_le_mul_left b2 hE
  omega
theorem wrap_add (a b : Int) : wrap64 (wrap64 a + b) = wrap64 (a + b) := by
  unfold wrap64; omega
end Go.Proofs.Ytmbpjlgeneemjaa

namespace Go.Proofs.Ytmbpjlgeneemjaa
open Go.RowKit
set_option linter.unusedVariables false
set_option linter.unusedSimpArgs false

set_option maxHeartbeats 400000 in
theorem f6same_c (aa ab : Option Addr) (n m ca cb : Nat) (f g : Nat → Int) (w : World) (hn : n ≤ 1048576) (hm : m ≤ 1048576) (ha : S1 w aa n f) (hb : S1 w ab m g) :
    Calls Try.prog 31 #[.slice aa n ca, .slice ab m cb] w fun e w' => e = .returned (.bool (n == m && eq1To f g n)) ∧ Ext w w' := by
  have HA := Lib.hid ha
  have HB := Lib.hid hb
  clear ha hb
  by_cases hnm : n = m
  · subst hnm
    go_enter Try.func31, Try.ntmps31
    go_wp2_with fail
    go_loopw [5] (fun i wr => ∃ k : Nat, k ≤ n ∧ i = .int .i64 k ∧ Ext w wr ∧ eq1To f g k = true) (fun i _ => n - (intOf i).toNat)
    case atStart => exact ⟨0, by omega, rfl, Ext.refl _, rfl⟩
    case round =>
      obtain ⟨k, hk, rfl, hbl, heq⟩ := hrel
      have HE := Lib.hid heq
      clear heq
      by_cases hlt : k < n
      · obtain ⟨b1, o1, rfl, hb1, q1⟩ := (S1.ext HA.out hbl).at hlt
        obtain ⟨b2, o2, rfl, hb2, q3⟩ := (S1.ext HB.out hbl).at hlt
        by_cases hne : f k = g k
        · have hb0 : (f k != g k) = false := by simpa using hne
          have HN := Lib.hid hne
          clear hne
          go_wp2_with fail
          refine wp_region_past (by kernel_rfl) (by kernel_rfl) ?_
          repeat (go_big_quiet_step (fail))
          refine wpQuiet_nil ?_
          rintro _ ⟨wx, rfl⟩
          go_wp2_with fail
          exact ⟨⟨k + 1, by omega, by go_num, (by repeat (first | with_reducible exact Ext.refl _ | with_reducible assumption | with_reducible refine Ext.alloc ?_ _ | with_reducible refine Ext.drew ?_ | (with_reducible refine Ext.setAt ?_ _ _ _ ?_; rotate_left; omega) | with_reducible refine Ext.trans ?_ (by assumption) | with_reducible exact Past.bel _ | with_reducible refine Ext.trans ?_ (Past.bel _))), by simp [eq1To, HE.out, HN.out]⟩, by simp [intOf]; omega⟩
        · have hb0 : (f k != g k) = true := by simpa using hne
          have HN := Lib.hid hne
          clear hne
          go_wp2_with fail
          refine wp_region_past (by kernel_rfl) (by kernel_rfl) ?_
          repeat (go_big_quiet_step (fail))
          refine wpQuiet_nil ?_
          rintro _ ⟨wx, rfl⟩
          go_wp2_with fail
          go_ret
          exact ⟨ret_bool (by rw [eq1To_ff hlt HN.out]; simp), (by repeat (first | with_reducible exact Ext.refl _ | with_reducible assumption | with_reducible refine Ext.alloc ?_ _ | with_reducible refine Ext.drew ?_ | (with_reducible refine Ext.setAt ?_ _ _ _ ?_; rotate_left; omega) | with_reducible refine Ext.trans ?_ (by assumption) | with_reducible exact Past.bel _ | with_reducible refine Ext.trans ?_ (Past.bel _)))⟩
      · obtain rfl : k = n := by omega
        go_wp2_with fail
        go_ret
        exact ⟨ret_bool (by simp [HE.out]), hbl⟩
  · have hne : ((n : Int) != (m : Int)) = true := by simp; omega
    go_enter Try.func31, Try.ntmps31
    go_wp2_with fail
    go_ret
    exact ⟨ret_bool (by simp [hnm]), Ext.refl _⟩
theorem f6same_self (aa ab : Option Addr) (n ca cb : Nat) (f : Nat → Int) (w : World) (hn : n ≤ 1048576) (ha : S1 w aa n f) (hb : S1 w ab n f) :
    Calls Try.prog 31 #[.slice aa n ca, .slice ab n cb] w fun e w' => e = .returned (.bool true) ∧ Ext w w' :=
  (f6same_c aa ab n n ca cb f f w hn hn ha hb).mono fun e w' ⟨he, hx⟩ => ⟨by rw [he, eq1To_self]; simp, hx⟩
theorem f6size_c (n : Int) (w : World) (h0 : -9223372036854775807 ≤ n) (h1 : n ≤ 9223372036854775807) :
    Calls Try.prog 32 #[.int .i64 n] w fun e w' => e = .returned (.int .i64 (absI n)) ∧ w = w' := by
  go_enter Try.func32, Try.ntmps32
  go_wp2
  all_goals (go_ret; exact ⟨ret_abs (by unfold absI; split <;> omega), rfl⟩)
theorem outs_getD (F : Nat → Int) (N : Nat) : ∀ j, j < N → (outs F N).getD j 0 = F j := by
  induction N with
  | zero => intro j h; omega
  | succ N ih =>
    intro j hj
    simp only [outs, List.getD, List.getElem?_append, outs_len]
    by_cases e : j < N
    · rw [if_pos e]; exact ih j e
    · have e2 : j = N := by omega
      subst e2
      rw [if_neg e]; simp
theorem absI_near2 {q p mo : Int} (h1 : 2 * (q * p - mo) ≤ p) (h2 : 2 * (mo - q * p) < p) : 2 * absI (q * p - mo) ≤ p := by unfold absI; split <;> omega
end Go.Proofs.Ytmbpjlgeneemjaa

namespace Go.Proofs.Ytmbpjlgeneemjaa
open Go.RowKit
set_option linter.unusedVariables false
theorem rdTo_of {h o : Nat → Int} {n : Nat} (hh : ∀ k, k < n → rdAt h o k = true) : rdTo h o n = true := by
  induction n with
  | zero => rfl
  | succ n ih => simp only [rdTo, ih (fun k hk => hh k (by omega)), hh n (by omega), Bool.and_self]
theorem rdV_of {h o : Nat → Int} {n : Nat} (h60 : n ≤ 60) (hh : ∀ k, k < n → 0 ≤ h k ∧ h k ≤ 10000) (ho : ∀ k, k < n → -100000 ≤ o k ∧ o k ≤ 100000) (hu : ∀ k, k + 1 < n → h k < h (k + 1)) : rdV n h o = true := by
  have h1 : rdTo h o n = true := rdTo_of fun k hk => by
    have a := inB_t.2 (hh k hk)
    have b := inB_t.2 (ho k hk)
    have c : (k == 0 || decide (h (k - 1) < h k)) = true := by
      by_cases e : k = 0
      · simp [e]
      · have := hu (k - 1) (by omega)
        rw [show k - 1 + 1 = k by omega] at this
        simp [this]
    rw [rdAt, a, b, c]; rfl
  rw [rdV, h1, decide_eq_true h60]; rfl
/-- two levels -/
def lvO (F : Nat) (J : Int) (k : Nat) : Int := if k < F then J else -J
theorem lv_sm1 (F : Nat) (J : Int) {k : Nat} (hk : k ≤ F) : sm (lvO F J) k = J * k := by
  induction k with
  | zero => simp [sm]
  | succ k ih =>
    simp only [sm, ih (by omega), lvO, if_pos (show k < F by omega)]
    rw [Int.natCast_add, Int.mul_add]; simp
theorem lv_sm2 (F : Nat) (J : Int) (k : Nat) : sm (lvO F J) (F + k) = J * (F - k) := by
  induction k with
  | zero => simp [lv_sm1 F J (Nat.le_refl F)]
  | succ k ih =>
    rw [← Nat.add_assoc]
    simp only [sm, ih, lvO, if_neg (show ¬ F + k < F by omega)]
    rw [Int.natCast_add]; grind
theorem lv_u1 (F S : Nat) (J : Int) {k : Nat} (hk : k ≤ F) : bcU (F + S) (lvO F J) k = J * J * (F + S) * bcD (F + S) k - 4 * (J * J * (k * (S * (F - k)))) := by
  unfold bcU bcD
  rw [lv_sm1 F J hk, lv_sm2 F J S, Int.natCast_add]; grind
theorem lv_u2 (F S : Nat) (J : Int) (k : Nat) : bcU (F + S) (lvO F J) (F + k) = J * J * (F + S) * bcD (F + S) (F + k) - 4 * (J * J * (F * (k * (S - k)))) := by
  unfold bcU bcD
  rw [lv_sm2 F J k, lv_sm2 F J S, Int.natCast_add, Int.natCast_add]; grind
theorem bcD_pos {n k : Nat} (h1 : 1 ≤ k) (hk : k < n) : 0 < bcD n k := Int.mul_pos (by omega) (by omega)
theorem lv_bc {F S : Nat} {J : Int} (hF : 1 ≤ F) (hS : 1 ≤ S) (hJ : 1 ≤ J) {j : Nat} (hj : j < F + S) :
    0 < (bc (F + S) (lvO F J) j).2.2 ∧ (j < F → (bc (F + S) (lvO F J) j).2.1 < J * J * (F + S) * (bc (F + S) (lvO F J) j).2.2) ∧
    (F ≤ j → bc (F + S) (lvO F J) j = ((F : Int), bcU (F + S) (lvO F J) F, bcD (F + S) F)) := by
  have hJJ : 1 ≤ J * J := by have := Int.mul_le_mul hJ hJ (by omega) (by omega); omega
  induction j with
  | zero =>
    refine ⟨by simp [bc], fun _ => ?_, fun h => by omega⟩
    have : 0 ≤ J * J * ((F : Int) + S) := Int.mul_nonneg (by omega) (by omega)
    simp only [bc]; omega
  | succ j ih =>
    obtain ⟨i1, i2, i3⟩ := ih (by omega)
    obtain ⟨st, hst⟩ : ∃ st, st = bc (F + S) (lvO F J) j := ⟨_, rfl⟩
    rw [← hst] at i1 i2 i3
    have hd := bcD_pos (n := F + S) (k := j + 1) (by omega) hj
    have hb : bc (F + S) (lvO F J) (j + 1) = if st.2.1 * bcD (F + S) (j + 1) < bcU (F + S) (lvO F J) (j + 1) * st.2.2 then ((j : Int) + 1, bcU (F + S) (lvO F J) (j + 1), bcD (F + S) (j + 1)) else st := by rw [hst]; rfl
    rw [hb]
    rcases Nat.lt_trichotomy (j + 1) F with h | h | h
    · -- ahead of the jump
      have hu := lv_u1 F S J (k := j + 1) (by omega)
      have hp : 0 < J * J * (((j + 1 : Nat) : Int) * ((S : Int) * ((F : Int) - ((j + 1 : Nat) : Int)))) := Int.mul_pos (by omega) (Int.mul_pos (by omega) (Int.mul_pos (by omega) (by omega)))
      split
      · exact ⟨hd, fun _ => by dsimp only; omega, fun h5 => by omega⟩
      · exact ⟨i1, fun _ => i2 (by omega), fun h5 => by omega⟩
    · -- at it
      have hu := lv_u1 F S J (k := j + 1) (by omega)
      have hz : (F : Int) - ((j + 1 : Nat) : Int) = 0 := by omega
      rw [hz] at hu
      have hc : st.2.1 * bcD (F + S) (j + 1) < bcU (F + S) (lvO F J) (j + 1) * st.2.2 := by
        have h6 := Int.mul_lt_mul_of_pos_right (i2 (by omega)) hd
        rw [hu]; grind
      rw [if_pos hc]
      refine ⟨hd, fun h5 => by omega, fun _ => ?_⟩
      rw [h]
      have : (j : Int) + 1 = (F : Int) := by omega
      rw [this]
    · -- behind it
      have e3 := i3 (by omega)
      obtain ⟨k, hk⟩ : ∃ k, j + 1 = F + k := ⟨j + 1 - F, by omega⟩
      have hu := lv_u2 F S J k
      rw [← hk] at hu
      have huF := lv_u1 F S J (Nat.le_refl F)
      have hz : (F : Int) - (F : Int) = 0 := by omega
      rw [hz] at huF
      have hp : 0 ≤ J * J * ((F : Int) * ((k : Int) * ((S : Int) - k))) := Int.mul_nonneg (by omega) (Int.mul_nonneg (by omega) (Int.mul_nonneg (by omega) (by omega)))
      have hdF := bcD_pos (n := F + S) (k := F) hF (by omega)
      have hc : ¬ st.2.1 * bcD (F + S) (j + 1) < bcU (F + S) (lvO F J) (j + 1) * st.2.2 := by
        rw [e3]
        dsimp only
        rw [hu, huF]
        have h7 : 0 ≤ (J * J * ((F : Int) * ((k : Int) * ((S : Int) - k)))) * bcD (F + S) F := Int.mul_nonneg hp (by omega)
        intro h8
        grind
      rw [if_neg hc]
      exact ⟨i1, fun h5 => by omega, fun _ => e3⟩
theorem lv_jmp {F : Nat} {J : Int} (hF : 1 ≤ F) (hJ : 1 ≤ J) (j : Nat) : jmp (lvO F J) (2 * J) j = if F ≤ j then [(F : Int)] else [] := by
  induction j with
  | zero => simp [jmp]; omega
  | succ j ih =>
    simp only [jmp, ih]
    rcases Nat.lt_trichotomy (j + 1) F with h | h | h
    · have hd : absI (lvO F J (j + 1) - lvO F J j) = 0 := by rw [lvO, lvO, if_pos h, if_pos (by omega)]; unfold absI; simp
      rw [hd, if_neg (by omega), if_neg (by omega), if_neg (by omega)]
    · have hd : absI (lvO F J (j + 1) - lvO F J j) = 2 * J := by rw [lvO, lvO, if_neg (by omega), if_pos (by omega)]; unfold absI; split <;> omega
      rw [hd, if_pos (Int.le_refl _), if_neg (by omega), if_pos (by omega)]
      have : (j : Int) + 1 = (F : Int) := by omega
      rw [this]; rfl
    · have hd : absI (lvO F J (j + 1) - lvO F J j) = 0 := by rw [lvO, lvO, if_neg (by omega), if_neg (by omega)]; unfold absI; simp
      rw [hd, if_neg (by omega), if_pos (by omega), if_pos (by omega)]
end Go.Proofs.Ytmbpjlgeneemjaa

namespace Go.Proofs.Ytmbpjlgeneemjaa
open Go.RowKit
set_option linter.unusedVariables false
set_option linter.unusedSimpArgs false

theorem Dice.ext {w w' : World} {g : Nat} {a : Option Addr} {n c : Nat} (h : Dice w g a n c) (hx : Ext w w') : Dice w' g a n c := by
  obtain ⟨i, hh, hb, hi⟩ := h.blk
  exact ⟨⟨i, hh, hb.ext hx, hi⟩⟩
theorem dice_of {w : World} {g : Nat} {a : Option Addr} {n c : Nat} {hh : Int} (h : Blk w g 63 #[.slice a n c, .int .i64 0, .int .u64 hh]) : Dice w g a n c := ⟨⟨0, hh, h, Nat.zero_le _⟩⟩
/-- a function's first k pairs -/
def outs2 (H O : Nat → Int) : Nat → List (Int × Int)
  | 0 => []
  | k + 1 => outs2 H O k ++ [(H k, O k)]
theorem outs2_len (H O : Nat → Int) (k : Nat) : (outs2 H O k).length = k := by
  induction k with
  | zero => rfl
  | succ k ih => simp [outs2, ih]
theorem outs2_at (H O : Nat → Int) (N : Nat) : ∀ j, j < N → (outs2 H O N).getD j (0, 0) = (H j, O j) := by
  induction N with
  | zero => intro j h; omega
  | succ N ih =>
    intro j hj
    simp only [outs2, List.getD, List.getElem?_append, outs2_len]
    by_cases e : j < N
    · rw [if_pos e]; exact ih j e
    · have e2 : j = N := by omega
      subst e2
      rw [if_neg e]; simp
theorem own_outs2 {w : World} {base : Nat} {e : TypeId} {a : Option Addr} {cap n : Nat} {H O : Nat → Int} (h : w.ownsRow base e 2 (.slice a n cap) n (PR (outs2 H O n))) : S2 w a n H O := fun hn => by
  obtain ⟨b, o, ha, hb, hc⟩ := own_s2 h (by rw [outs2_len]) hn
  refine ⟨b, o, ha, hb, fun j hj => ?_⟩
  have := hc j hj
  dsimp only at this
  rw [outs2_at H O n j hj] at this
  exact this
/-- 'own = append(own, T{x, y})', 'own' made behind w0 -/
theorem app2o {P : Program} {w w0 : World} {ops : Array Oper} {rest : List Oper} {o : Oper} {A : Act} {Q : Exit → Act → World → Prop} (t e : TypeId) (s x : Operand) (z : Value)
    (hop : o.op = .call { callee := .builtin .append, args := #[s, x], argTypes := #[t, t] }) (hgd : o.guard = none)
    (ht : P.underlying t = some (.slice e)) (hinfo : (P.info? e).map (fun i => (i.zero, i.size, i.bytes)) = some (some z, 2, 16)) (hz : z.cells.size = 2)
    (v : Value) (l : List (Int × Int)) (p q : Int) (gb : Nat) (hs : A.eval s = v) (hx : A.eval x = .slice (some ⟨gb, 0, none⟩) 1 1) (hown : w.ownsRow w0.heap.size e 2 v l.length (PR l))
    (hc : Blk w gb e #[.int .i64 p, .int .i64 q]) (hl : l.length ≤ 1048576) (h0 : Ext w0 w)
    (hK : ∀ v' w', w'.ownsRow w0.heap.size e 2 v' (l.length + 1) (PR (l ++ [(p, q)])) → Ext w0 w' → w.grownBy w' v.ownBlock → wpList P ops Q rest (A.put o.dst v') w') : wpList P ops Q (o :: rest) A w := by
  obtain ⟨i, hi, hz', hsz, hb⟩ := info_parts hinfo
  refine wpList_append_own (P := P) w hgd s x t hop w0.heap.size e i z 2 16 ht hi hz' hsz hb hz (by decide) v l.length _ hs hown ⟨gb, 0, none⟩ 1 1 [.int .i64 p, .int .i64 q] hx rfl ?_ ?_ ?_ ?_ h0.size ?_
  · exact World.news_of_block hc
  · intro u hu
    simp at hu; rcases hu with rfl | rfl <;> rfl
  · unfold maxLen; omega
  · omega
  · intro v' w' h1 h2 _
    refine hK v' w' ?_ (h0.grown h2 fun k hk => (hown.lt k hk).1) h2
    rw [PR_app]; have e1 : PR [(p, q)] = [.int .i64 p, .int .i64 q] := rfl
    rw [e1]; exact h1
/-- the same at a step of a region that draws its order -/
theorem app2os {P : Program} {w w0 : World} {ops : Array Oper} {o : Oper} {A : Act} {K : Act → World → Prop} {Q : Exit → Act → World → Prop} {E : Prop} (t e : TypeId) (s x : Operand) (z : Value)
    (hop : o.op = .call { callee := .builtin .append, args := #[s, x], argTypes := #[t, t] }) (hgd : o.guard = none)
    (ht : P.underlying t = some (.slice e)) (hinfo : (P.info? e).map (fun i => (i.zero, i.size, i.bytes)) = some (some z, 2, 16)) (hz : z.cells.size = 2)
    (v : Value) (l : List (Int × Int)) (p q : Int) (gb : Nat) (hs : A.eval s = v) (hx : A.eval x = .slice (some ⟨gb, 0, none⟩) 1 1) (hown : w.ownsRow w0.heap.size e 2 v l.length (PR l))
    (hc : Blk w gb e #[.int .i64 p, .int .i64 q]) (hl : l.length ≤ 1048576) (h0 : Ext w0 w)
    (hK : ∀ v' w', w'.ownsRow w0.heap.size e 2 v' (l.length + 1) (PR (l ++ [(p, q)])) → Ext w0 w' → K (A.put o.dst v') w') :
    if Region.wanted o (yielded ops A.tmps) = true then Oper.wp P o A w K Q else E := by
  obtain ⟨i, hi, hz', hsz, hb⟩ := info_parts hinfo
  refine step_append_lies w hgd s x t hop w0.heap.size e i z 2 16 ht hi hz' hsz hb hz (by decide) v l.length _ hs hown ⟨gb, 0, none⟩ 1 1 [.int .i64 p, .int .i64 q] hx rfl ?_ ?_ (by decide) ?_ ?_ h0.size _ rfl ?_
  · exact World.news_of_block hc
  · intro u hu
    simp at hu; rcases hu with rfl | rfl <;> rfl
  · unfold maxLen; omega
  · omega
  · intro g' cap w' h1 h2 _ _
    refine hK _ w' ?_ (h0.grown h2 fun k hk => (hown.lt k hk).1)
    rw [PR_app]; have e1 : PR [(p, q)] = [.int .i64 p, .int .i64 q] := rfl
    rw [e1]; exact h1
theorem own_outs2l {w : World} {b e : Nat} {v : Value} {H O : Nat → Int} {j : Nat} (h : w.ownsRow b e 2 v j (PR (outs2 H O j))) : w.ownsRow b e 2 v (outs2 H O j).length (PR (outs2 H O j)) := by rw [outs2_len]; exact h
end Go.Proofs.Ytmbpjlgeneemjaa

namespace Go.Proofs.Ytmbpjlgeneemjaa
open Go.RowKit
set_option linter.unusedVariables false
set_option linter.unusedSimpArgs false

/-- a source, and what has been kept of the world a draw began in -/
structure Rs (w0 w : World) (g : Nat) (a : Option Addr) (n c : Nat) (f : Nat → Nat) (K : Nat) : Prop where
  src : Src w g a n c f K
  gr : w0.grownBy w (some g)
  low : g < w0.heap.size
  cod : 0 < n → ∀ ad, a = some ad → ad.block < w0.heap.size
section
variable {w0 w w1 : World} {g : Nat} {a : Option Addr} {n c : Nat} {f : Nat → Nat} {K K' : Nat}
theorem Rs.le (h : Rs w0 w g a n c f K) (hl : K ≤ K') : Rs w0 w g a n c f K' := ⟨h.src.le hl, h.gr, h.low, h.cod⟩
theorem Rs.drawn (h : Rs w0 w g a n c f K) (hs : Src w1 g a n c f K') (hx : w.grownBy w1 (some g)) : Rs w0 w1 g a n c f K' := ⟨hs, grown_trans h.gr hx, h.low, h.cod⟩
theorem Rs.ext (h : Rs w0 w g a n c f K) (hx : Ext w w1) : Rs w0 w1 g a n c f K :=
  ⟨h.src.keep (ext_grown hx) (fun k hk => by cases hk) h.low h.cod h.gr.size, grown_trans h.gr (grown_weak (ext_grown hx)), h.low, h.cod⟩
theorem Rs.put (h : Rs w0 w g a n c f K) {b : Nat} (hb : w0.heap.size ≤ b) (i : Nat) (x : Value) : Rs w0 (w.setCell ⟨b, i, none⟩ x) g a n c f K := by
  have hx := grown_set (w := w) b i x
  refine ⟨h.src.keep hx (fun k hk => by injection hk with hk; omega) h.low h.cod h.gr.size, ⟨h.gr.os, h.gr.tape, h.gr.output, by simpa using h.gr.size, fun k hk hn => ?_⟩, h.low, h.cod⟩
  exact (hx.block k (Nat.lt_of_lt_of_le hk h.gr.size) (fun e => by injection e with e; omega)).trans (h.gr.block k hk hn)
theorem Rs.blk (h : Rs w0 w g a n c f K) {b : Nat} {T : TypeId} {cur : Array Value} (hB : Blk w0 b T cur) (hb : b ≠ g) : Blk w b T cur := (h.gr.block b hB.lt (fun e => hb (by injection e))).trans hB
theorem Rs.back (h : Rs w0 w g a n c f K) {wb : World} (hx : Ext wb w0) (hg : g < wb.heap.size) (hcd : 0 < n → ∀ ad, a = some ad → ad.block < wb.heap.size) : Rs wb w g a n c f K :=
  ⟨h.src, grown_trans (grown_weak (ext_grown hx)) h.gr, hg, hcd⟩
end
theorem grown_alloc {a w : World} {row : Option Nat} (h : a.grownBy w row) (o : Obj) : a.grownBy (w.alloc o) row := grown_trans h (grown_weak (ext_grown ((Ext.refl w).alloc o)))
theorem puts5 {w0 w : World} {g : Nat} {a : Option Addr} {n c : Nat} {f : Nat → Nat} {K : Nat} (h : Rs w0 w g a n c f K) {b : Nat} (hb : w0.heap.size ≤ b) {u0 u1 u2 u3 u4 : Value} : Rs w0 (((((w.setCell ⟨b, 0, none⟩ u0).setCell ⟨b, 1, none⟩ u1).setCell ⟨b, 2, none⟩ u2).setCell ⟨b, 3, none⟩ u3).setCell ⟨b, 4, none⟩ u4) g a n c f K :=
  ((((h.put hb _ _).put hb _ _).put hb _ _).put hb _ _).put hb _ _
def postFit (w : World) (e : Ending) (w' : World) : Prop := ∃ c x y xx xy : Int, e = .returned (.agg #[.int .i64 c, .int .i64 x, .int .i64 y, .int .i64 xx, .int .i64 xy]) ∧ Ext w w'
set_option maxHeartbeats 1000000 in
theorem l14Fit_any (a : Option Addr) (n c : Nat) (h o : Nat → Int) (w : World) (hn : n ≤ 1048576) (hs : S2 w a n h o) :
    Calls Try.prog 52 #[.slice a n c] w (postFit w) := by
  have HS := Lib.hid hs
  clear hs
  go_enter Try.func52, Try.ntmps52
  go_wp2_with fail
  go_loopw [4] (fun i wr => ∃ k : Nat, k ≤ n ∧ i = .int .i64 k ∧ Ext w wr ∧ Blk wr w.heap.size 38 (fitA 0 0 0 0 0) ∧ ∃ x y xx xy : Int, Blk wr (w.heap.size + 1) 38 (fitA n x y xx xy)) (fun i _ => n - (intOf i).toNat)
  case atStart => exact ⟨0, by omega, rfl, (by repeat (first | with_reducible exact Ext.refl _ | with_reducible assumption | with_reducible refine Ext.alloc ?_ _ | with_reducible refine Ext.drew ?_ | (with_reducible refine Ext.setAt ?_ _ _ _ ?_; rotate_left; omega) | with_reducible refine Ext.trans ?_ (by assumption) | with_reducible exact Past.bel _ | with_reducible refine Ext.trans ?_ (Past.bel _))), (two_new _ _ _ _).1, 0, 0, 0, 0, (two_new _ _ _ _).2⟩
  case round =>
    obtain ⟨k, hk, rfl, hbl, hB0, x, y, xx, xy, hB1⟩ := hrel
    have H0 := Lib.hid hB0
    have H1 := Lib.hid hB1
    by_cases hlt : k < n
    · obtain ⟨⟨c0, c1, c2, c3, c4⟩, f0, f1, f2, f3, f4⟩ := fit_cells hB1
      clear hB0 hB1
      obtain ⟨b1, o1, rfl, hb1, q1, q2⟩ := (S2.ext HS.out hbl).at hlt
      go_wp2_with fail
      exact ⟨⟨k + 1, by omega, by go_num, (by repeat (first | with_reducible exact Ext.refl _ | with_reducible assumption | with_reducible refine Ext.alloc ?_ _ | with_reducible refine Ext.drew ?_ | (with_reducible refine Ext.setAt ?_ _ _ _ ?_; rotate_left; omega) | with_reducible refine Ext.trans ?_ (by assumption) | with_reducible exact Past.bel _ | with_reducible refine Ext.trans ?_ (Past.bel _))), fit_other H0.out (by omega), _, _, _, _, fit_set H1.out⟩, by simp [intOf]; omega⟩
    · obtain rfl : k = n := by omega
      obtain ⟨⟨c0, c1, c2, c3, c4⟩, f0, f1, f2, f3, f4⟩ := fit_cells hB1
      obtain ⟨⟨d0, d1, d2, d3, d4⟩, e0, e1, e2, e3, e4⟩ := fit_cells hB0
      clear hB0 hB1
      go_wp2_with fail
      exact bodyPost_ret (v := .agg (fitA k x y xx xy)) (by simp [results, Try.results52, go_sem, fitA, d0, d1, d2, d3, d4]) rfl ⟨_, _, _, _, _, rfl, (by repeat (first | with_reducible exact Ext.refl _ | with_reducible assumption | with_reducible refine Ext.alloc ?_ _ | with_reducible refine Ext.drew ?_ | (with_reducible refine Ext.setAt ?_ _ _ _ ?_; rotate_left; omega) | with_reducible refine Ext.trans ?_ (by assumption) | with_reducible exact Past.bel _ | with_reducible refine Ext.trans ?_ (Past.bel _)))⟩
def postRF (w0 : World) (g : Nat) (a : Option Addr) (n c : Nat) (f : Nat → Nat) (K : Nat) (e : Ending) (w' : World) : Prop := ∃ c' x y xx xy : Int, e = .returned (.agg #[.int .i64 c', .int .i64 x, .int .i64 y, .int .i64 xx, .int .i64 xy]) ∧ Rs w0 w' g a n c f K
set_option maxRecDepth 100000 in
set_option maxHeartbeats 8000000 in
theorem l14DrawFit_c (g : Nat) (a : Option Addr) (n c : Nat) (f : Nat → Nat) (w : World) (hn : n ≤ 1048576) (hd : Src w g a n c f 0) (hg : g < w.heap.size) (hcd : 0 < n → ∀ ad, a = some ad → ad.block < w.heap.size) :
    Calls Try.prog 59 #[.pointer (some ⟨g, 0, none⟩)] w (postRF w g a n c f 500) := by
  obtain ⟨W1, hW1⟩ : ∃ W1, W1 = w.alloc (.cells #[.int .i64 0, .int .i64 0, .int .i64 0, .int .i64 0, .int .i64 0] 38) := ⟨_, rfl⟩
  have hx1 : Ext w W1 := by rw [hW1]; exact (by repeat (first | with_reducible exact Ext.refl _ | with_reducible assumption | with_reducible refine Ext.alloc ?_ _ | with_reducible refine Ext.drew ?_ | (with_reducible refine Ext.setAt ?_ _ _ _ ?_; rotate_left; omega) | with_reducible refine Ext.trans ?_ (by assumption) | with_reducible exact Past.bel _ | with_reducible refine Ext.trans ?_ (Past.bel _)))
  have r1 : Rs w W1 g a n c f 0 := Rs.ext ⟨hd, grown_refl _ _, hg, hcd⟩ hx1
  have hz1 : W1.heap.size = w.heap.size + 1 := by rw [hW1]; simp
  have hr0 : Blk W1 w.heap.size 38 (fitA 0 0 0 0 0) := by rw [hW1]; exact Blk.new _ _ _
  have hcd1 : 0 < n → ∀ ad, a = some ad → ad.block < W1.heap.size := fun h0 ad e => by have := hcd h0 ad e; omega
  go_enter Try.func59, Try.ntmps59
  go_wp2_with fail
  rw [← hW1]
  refine (l14Draw_c g a n c f 0 W1 hn (by omega) r1.src (by omega) hcd1).mono ?_
  rintro e w1 ⟨v1, lst, rfl, hll, hst⟩
  obtain ⟨b, cap, rfl⟩ := own_form hst.own
  have s1 : Rs W1 w1 g a n c f 300 := ⟨hst.src.le (by omega), hst.gr, hst.low, hst.cod⟩
  have S2' := Lib.hid (own_s2 hst.own rfl)
  clear hst
  go_wp2_with fail
  refine (l14Fit_any b _ cap _ _ w1 (by omega) S2'.out).mono ?_
  rintro e w2 ⟨c0, cx, cy, cxx, cxy, rfl, hx2⟩
  have hz2 := s1.gr.size
  have hz2' := hx2.size
  have s2 := (s1.ext hx2).ext (w1 := w2.alloc (.cells (fitA c0 cx cy cxx cxy) 38)) (by repeat (first | with_reducible exact Ext.refl _ | with_reducible assumption | with_reducible refine Ext.alloc ?_ _ | with_reducible refine Ext.drew ?_ | (with_reducible refine Ext.setAt ?_ _ _ _ ?_; rotate_left; omega) | with_reducible refine Ext.trans ?_ (by assumption) | with_reducible exact Past.bel _ | with_reducible refine Ext.trans ?_ (Past.bel _)))
  have hl2 : Blk (w2.alloc (.cells (fitA c0 cx cy cxx cxy) 38)) w2.heap.size 38 (fitA c0 cx cy cxx cxy) := Blk.new _ _ _
  go_wp2_with fail
  refine (pick_c g a n c f _ 30 _ hn (by omega) s2.src).mono ?_
  rintro e w3 ⟨x3, rfl, y3, y3', z3, hs3, hg3⟩
  have s3 := s2.drawn hs3 hg3
  have hl3 : Blk w3 w2.heap.size 38 (fitA c0 cx cy cxx cxy) := (hg3.block _ hl2.lt (fun e => by injection e with e; omega)).trans hl2
  have hz3 := s3.gr.size
  have hlt3 := hl3.lt
  obtain ⟨⟨m0, m1, m2, m3, m4⟩, n0, n1, n2, n3, n4⟩ := fit_cells hl3
  obtain ⟨⟨k0, k1, k2, k3, k4⟩, l0, l1, l2, l3, l4⟩ := fit_cells (s3.blk hr0 (by omega))
  have k5 : ¬ w2.heap.size = w.heap.size := by omega
  have k6 : ¬ w.heap.size = w2.heap.size := by omega
  have S3 := Lib.hid s3
  have HB := Lib.hid (fun (w' : World) (hq : w3.grownBy w' (some g)) => (show (Blk w' w2.heap.size 38 (fitA c0 cx cy cxx cxy) ∧ Blk w' w.heap.size 38 (fitA 0 0 0 0 0)) from ⟨(hq.block _ hl3.lt (fun e => by injection e with e; omega)).trans hl3, (hq.block _ (s3.blk hr0 (by omega)).lt (fun e => by injection e with e; omega)).trans (s3.blk hr0 (by omega))⟩))
  clear s1 s2 s3 hl2 hl3 hs3 hg3
  by_cases d0 : x3 = 0
  · subst d0
    go_wp2_with fail
    obtain ⟨z, zz0, zz1, zz2, zz3⟩ : ∃ z : Nat → Int, z 0 = -1 ∧ z 1 = 0 ∧ z 2 = 60 ∧ z 3 = 61 := ⟨(fun j => if j = 0 then -1 else if j = 1 then 0 else if j = 2 then 60 else 61), rfl, rfl, rfl, rfl⟩
    refine (among_c g a n c f _ (some ⟨w3.heap.size, 0, none⟩) 4 4 z _ hn (by omega) (S3.out.ext (by repeat (first | with_reducible exact Ext.refl _ | with_reducible assumption | with_reducible refine Ext.alloc ?_ _ | with_reducible refine Ext.drew ?_ | (with_reducible refine Ext.setAt ?_ _ _ _ ?_; rotate_left; omega) | with_reducible refine Ext.trans ?_ (by assumption) | with_reducible exact Past.bel _ | with_reducible refine Ext.trans ?_ (Past.bel _)))).src (by omega) (by omega) (s1_lit (by simp) (fun j hj => by (obtain rfl | rfl | rfl | rfl : j = 0 ∨ j = 1 ∨ j = 2 ∨ j = 3 := by omega) <;> simp [go_sem, zz0, zz1, zz2, zz3])) (fun ad e => by cases e; dsimp only; omega)).mono ?_
    rintro e w4 ⟨j, rfl, hj, hs4, hg4⟩
    have S4 := Lib.hid ((S3.out.ext (w1 := w3.alloc _) (by repeat (first | with_reducible exact Ext.refl _ | with_reducible assumption | with_reducible refine Ext.alloc ?_ _ | with_reducible refine Ext.drew ?_ | (with_reducible refine Ext.setAt ?_ _ _ _ ?_; rotate_left; omega) | with_reducible refine Ext.trans ?_ (by assumption) | with_reducible exact Past.bel _ | with_reducible refine Ext.trans ?_ (Past.bel _)))).drawn hs4 hg4)
    obtain ⟨⟨⟨m0, m1, m2, m3, m4⟩, n0, n1, n2, n3, n4⟩, ⟨k0, k1, k2, k3, k4⟩, l0, l1, l2, l3, l4⟩ := (HB.out w4 (by repeat (first | with_reducible exact grown_refl _ _ | with_reducible assumption | with_reducible refine grown_alloc ?_ _ | with_reducible refine grown_drew ?_ | with_reducible refine grown_trans ?_ (by assumption)))).imp fit_cells fit_cells
    clear hs4 hg4
    go_wp2_with fail
    refine bodyPost_ret (v := .agg #[.int .i64 (z j), .int .i64 cx, .int .i64 cy, .int .i64 cxx, .int .i64 cxy]) (by simp [results, Try.results59, go_sem, k0, k1, k2, k3, k4, k5, k6]) rfl ⟨z j, cx, cy, cxx, cxy, rfl, Rs.le (puts5 ((S4.out.back hx1 hg hcd).put (b := w2.heap.size) (by omega) _ _) (Nat.le_refl _)) (by omega)⟩
  · by_cases d1 : x3 = 1
    · subst d1
      go_wp2_with fail
      obtain ⟨z, zz0, zz1, zz2⟩ : ∃ z : Nat → Int, z 0 = -1 ∧ z 1 = wrap64 (cx + 1) ∧ z 2 = 0 := ⟨(fun j => if j = 0 then -1 else if j = 1 then wrap64 (cx + 1) else 0), rfl, rfl, rfl⟩
      refine (among_c g a n c f _ (some ⟨w3.heap.size, 0, none⟩) 3 3 z _ hn (by omega) (S3.out.ext (by repeat (first | with_reducible exact Ext.refl _ | with_reducible assumption | with_reducible refine Ext.alloc ?_ _ | with_reducible refine Ext.drew ?_ | (with_reducible refine Ext.setAt ?_ _ _ _ ?_; rotate_left; omega) | with_reducible refine Ext.trans ?_ (by assumption) | with_reducible exact Past.bel _ | with_reducible refine Ext.trans ?_ (Past.bel _)))).src (by omega) (by omega) (s1_lit (by simp) (fun j hj => by (obtain rfl | rfl | rfl : j = 0 ∨ j = 1 ∨ j = 2 := by omega) <;> simp [go_sem, zz0, zz1, zz2])) (fun ad e => by cases e; dsimp only; omega)).mono ?_
      rintro e w4 ⟨j, rfl, hj, hs4, hg4⟩
      have S4 := Lib.hid ((S3.out.ext (w1 := w3.alloc _) (by repeat (first | with_reducible exact Ext.refl _ | with_reducible assumption | with_reducible refine Ext.alloc ?_ _ | with_reducible refine Ext.drew ?_ | (with_reducible refine Ext.setAt ?_ _ _ _ ?_; rotate_left; omega) | with_reducible refine Ext.trans ?_ (by assumption) | with_reducible exact Past.bel _ | with_reducible refine Ext.trans ?_ (Past.bel _)))).drawn hs4 hg4)
      obtain ⟨⟨⟨m0, m1, m2, m3, m4⟩, n0, n1, n2, n3, n4⟩, ⟨k0, k1, k2, k3, k4⟩, l0, l1, l2, l3, l4⟩ := (HB.out w4 (by repeat (first | with_reducible exact grown_refl _ _ | with_reducible assumption | with_reducible refine grown_alloc ?_ _ | with_reducible refine grown_drew ?_ | with_reducible refine grown_trans ?_ (by assumption)))).imp fit_cells fit_cells
      clear hs4 hg4
      go_wp2_with fail
      refine bodyPost_ret (v := .agg #[.int .i64 c0, .int .i64 (z j), .int .i64 cy, .int .i64 cxx, .int .i64 cxy]) (by simp [results, Try.results59, go_sem, k0, k1, k2, k3, k4, k5, k6]) rfl ⟨c0, z j, cy, cxx, cxy, rfl, Rs.le (puts5 ((S4.out.back hx1 hg hcd).put (b := w2.heap.size) (by omega) _ _) (Nat.le_refl _)) (by omega)⟩
    · by_cases d2 : x3 = 2
      · subst d2
        go_wp2_with fail
        obtain ⟨z, zz0, zz1, zz2⟩ : ∃ z : Nat → Int, z 0 = -1 ∧ z 1 = 0 ∧ z 2 = wrap64 (cxx - 1) := ⟨(fun j => if j = 0 then -1 else if j = 1 then 0 else wrap64 (cxx - 1)), rfl, rfl, rfl⟩
        refine (among_c g a n c f _ (some ⟨w3.heap.size, 0, none⟩) 3 3 z _ hn (by omega) (S3.out.ext (by repeat (first | with_reducible exact Ext.refl _ | with_reducible assumption | with_reducible refine Ext.alloc ?_ _ | with_reducible refine Ext.drew ?_ | (with_reducible refine Ext.setAt ?_ _ _ _ ?_; rotate_left; omega) | with_reducible refine Ext.trans ?_ (by assumption) | with_reducible exact Past.bel _ | with_reducible refine Ext.trans ?_ (Past.bel _)))).src (by omega) (by omega) (s1_lit (by simp) (fun j hj => by (obtain rfl | rfl | rfl : j = 0 ∨ j = 1 ∨ j = 2 := by omega) <;> simp [go_sem, zz0, zz1, zz2])) (fun ad e => by cases e; dsimp only; omega)).mono ?_
        rintro e w4 ⟨j, rfl, hj, hs4, hg4⟩
        have S4 := Lib.hid ((S3.out.ext (w1 := w3.alloc _) (by repeat (first | with_reducible exact Ext.refl _ | with_reducible assumption | with_reducible refine Ext.alloc ?_ _ | with_reducible refine Ext.drew ?_ | (with_reducible refine Ext.setAt ?_ _ _ _ ?_; rotate_left; omega) | with_reducible refine Ext.trans ?_ (by assumption) | with_reducible exact Past.bel _ | with_reducible refine Ext.trans ?_ (Past.bel _)))).drawn hs4 hg4)
        obtain ⟨⟨⟨m0, m1, m2, m3, m4⟩, n0, n1, n2, n3, n4⟩, ⟨k0, k1, k2, k3, k4⟩, l0, l1, l2, l3, l4⟩ := (HB.out w4 (by repeat (first | with_reducible exact grown_refl _ _ | with_reducible assumption | with_reducible refine grown_alloc ?_ _ | with_reducible refine grown_drew ?_ | with_reducible refine grown_trans ?_ (by assumption)))).imp fit_cells fit_cells
        clear hs4 hg4
        go_wp2_with fail
        refine bodyPost_ret (v := .agg #[.int .i64 c0, .int .i64 cx, .int .i64 cy, .int .i64 (z j), .int .i64 cxy]) (by simp [results, Try.results59, go_sem, k0, k1, k2, k3, k4, k5, k6]) rfl ⟨c0, cx, cy, z j, cxy, rfl, Rs.le (puts5 ((S4.out.back hx1 hg hcd).put (b := w2.heap.size) (by omega) _ _) (Nat.le_refl _)) (by omega)⟩
      · by_cases d3 : x3 = 3
        · subst d3
          go_wp2_with fail
          obtain ⟨z, zz0, zz1⟩ : ∃ z : Nat → Int, z 0 = wrap64 (c0 * 100000) ∧ z 1 = wrap64 (wrap64 (c0 * 100000) + 1) := ⟨(fun j => if j = 0 then wrap64 (c0 * 100000) else wrap64 (wrap64 (c0 * 100000) + 1)), rfl, rfl⟩
          refine (among_c g a n c f _ (some ⟨w3.heap.size, 0, none⟩) 2 2 z _ hn (by omega) (S3.out.ext (by repeat (first | with_reducible exact Ext.refl _ | with_reducible assumption | with_reducible refine Ext.alloc ?_ _ | with_reducible refine Ext.drew ?_ | (with_reducible refine Ext.setAt ?_ _ _ _ ?_; rotate_left; omega) | with_reducible refine Ext.trans ?_ (by assumption) | with_reducible exact Past.bel _ | with_reducible refine Ext.trans ?_ (Past.bel _)))).src (by omega) (by omega) (s1_lit (by simp) (fun j hj => by (obtain rfl | rfl : j = 0 ∨ j = 1 := by omega) <;> simp [go_sem, zz0, zz1])) (fun ad e => by cases e; dsimp only; omega)).mono ?_
          rintro e w4 ⟨j, rfl, hj, hs4, hg4⟩
          have S4 := Lib.hid ((S3.out.ext (w1 := w3.alloc _) (by repeat (first | with_reducible exact Ext.refl _ | with_reducible assumption | with_reducible refine Ext.alloc ?_ _ | with_reducible refine Ext.drew ?_ | (with_reducible refine Ext.setAt ?_ _ _ _ ?_; rotate_left; omega) | with_reducible refine Ext.trans ?_ (by assumption) | with_reducible exact Past.bel _ | with_reducible refine Ext.trans ?_ (Past.bel _)))).drawn hs4 hg4)
          obtain ⟨⟨⟨m0, m1, m2, m3, m4⟩, n0, n1, n2, n3, n4⟩, ⟨k0, k1, k2, k3, k4⟩, l0, l1, l2, l3, l4⟩ := (HB.out w4 (by repeat (first | with_reducible exact grown_refl _ _ | with_reducible assumption | with_reducible refine grown_alloc ?_ _ | with_reducible refine grown_drew ?_ | with_reducible refine grown_trans ?_ (by assumption)))).imp fit_cells fit_cells
          clear hs4 hg4
          go_wp2_with fail
          refine bodyPost_ret (v := .agg #[.int .i64 c0, .int .i64 cx, .int .i64 (z j), .int .i64 cxx, .int .i64 cxy]) (by simp [results, Try.results59, go_sem, k0, k1, k2, k3, k4, k5, k6]) rfl ⟨c0, cx, z j, cxx, cxy, rfl, Rs.le (puts5 ((S4.out.back hx1 hg hcd).put (b := w2.heap.size) (by omega) _ _) (Nat.le_refl _)) (by omega)⟩
        · have e0 : (x3 == 0) = false := by simpa using d0
          have e1 : (x3 == 1) = false := by simpa using d1
          have e2 : (x3 == 2) = false := by simpa using d2
          have e3 : (x3 == 3) = false := by simpa using d3
          go_wp2_with fail
          refine bodyPost_ret (v := .agg #[.int .i64 c0, .int .i64 cx, .int .i64 cy, .int .i64 cxx, .int .i64 cxy]) (by simp [results, Try.results59, go_sem, k0, k1, k2, k3, k4, k5, k6]) rfl ⟨c0, cx, cy, cxx, cxy, rfl, Rs.le (puts5 (S3.out.back hx1 hg hcd) (Nat.le_refl _)) (by omega)⟩
end Go.Proofs.Ytmbpjlgeneemjaa

namespace Go.Proofs.Ytmbpjlgeneemjaa
open Go.RowKit
set_option linter.unusedVariables false
set_option linter.unusedSimpArgs false

def postOff (w : World) (e : Ending) (w' : World) : Prop := ∃ c x y xx xy hr : Int, e = .returned (.tuple #[.agg #[.int .i64 c, .int .i64 x, .int .i64 y, .int .i64 xx, .int .i64 xy], .int .i64 hr]) ∧ Ext w w'
theorem Rs.toExt {w0 w wb : World} {g : Nat} {a : Option Addr} {n c : Nat} {f : Nat → Nat} {K : Nat} (h : Rs w0 w g a n c f K) (hx : Ext wb w0) (hg : wb.heap.size ≤ g) : Ext wb w := hx.grown h.gr (fun k hk => by injection hk with hk; omega)
set_option maxRecDepth 100000 in
set_option maxHeartbeats 4000000 in
theorem drawOff_c (a : Option Addr) (n c : Nat) (f : Nat → Nat) (w : World) (hn : n ≤ 1048576) (hs : U8 w a n f) (hl : ∀ j, j < n → f j ≤ 255) :
    Calls Try.prog 33 #[.slice a n c] w (postOff w) := by
  obtain ⟨W1, hW1⟩ : ∃ W1, W1 = w.alloc (.cells #[.int .i64 0, .int .i64 0, .int .i64 0, .int .i64 0, .int .i64 0] 38) := ⟨_, rfl⟩
  have hx1 : Ext w W1 := by rw [hW1]; exact (by repeat (first | with_reducible exact Ext.refl _ | with_reducible assumption | with_reducible refine Ext.alloc ?_ _ | with_reducible refine Ext.drew ?_ | (with_reducible refine Ext.setAt ?_ _ _ _ ?_; rotate_left; omega) | with_reducible refine Ext.trans ?_ (by assumption) | with_reducible exact Past.bel _ | with_reducible refine Ext.trans ?_ (Past.bel _)))
  have hz1 : W1.heap.size = w.heap.size + 1 := by rw [hW1]; simp
  have hr0 : Blk W1 w.heap.size 38 (fitA 0 0 0 0 0) := by rw [hW1]; exact Blk.new _ _ _
  go_enter Try.func33, Try.ntmps33
  go_wp2_with fail
  rw [← hW1]
  refine (li_from a n c f W1 (hs.ext hx1) hl).mono ?_
  rintro e w1 ⟨rfl, hs1, hxw1⟩
  have hgs : W1.heap.size < w1.heap.size := by obtain ⟨i, hh, hb, _⟩ := hs1.blk; exact hb.lt
  have hcd : 0 < n → ∀ ad, a = some ad → ad.block < w1.heap.size := fun h0 ad e => by have := hs.low' h0 ad e; omega
  obtain ⟨g, hg⟩ : ∃ g, g = w.heap.size + 1 := ⟨_, rfl⟩
  rw [hz1, ← hg] at hs1 hgs
  have hgw : w.heap.size ≤ g := by omega
  subst hg
  have hr1 := hr0.ext hxw1
  have hxw : Ext w w1 := Ext.trans hx1 hxw1
  go_wp2_with fail
  refine (l14DrawFit_c (w.heap.size + 1) a n c f w1 hn hs1 hgs hcd).mono ?_
  rintro e w2 ⟨c0, cx, cy, cxx, cxy, rfl, s1⟩
  have hz2 := s1.gr.size
  have s2 := s1.ext (w1 := w2.alloc (.cells (fitA c0 cx cy cxx cxy) 38)) (by repeat (first | with_reducible exact Ext.refl _ | with_reducible assumption | with_reducible refine Ext.alloc ?_ _ | with_reducible refine Ext.drew ?_ | (with_reducible refine Ext.setAt ?_ _ _ _ ?_; rotate_left; omega) | with_reducible refine Ext.trans ?_ (by assumption) | with_reducible exact Past.bel _ | with_reducible refine Ext.trans ?_ (Past.bel _)))
  have hl2 : Blk (w2.alloc (.cells (fitA c0 cx cy cxx cxy) 38)) w2.heap.size 38 (fitA c0 cx cy cxx cxy) := Blk.new _ _ _
  go_wp2_with fail
  refine (pick_c (w.heap.size + 1) a n c f _ 400 _ hn (by omega) s2.src).mono ?_
  rintro e w3 ⟨hr, rfl, y3, y3', z3, hs3, hg3⟩
  have s3 := s2.drawn hs3 hg3
  have hl3 : Blk w3 w2.heap.size 38 (fitA c0 cx cy cxx cxy) := (hg3.block _ hl2.lt (fun e => by injection e with e; omega)).trans hl2
  go_wp2_with fail
  refine (one_c (w.heap.size + 1) a n c f _ 8 _ hn (by omega) s3.src).mono ?_
  rintro e w4 ⟨bb, rfl, hs4, hg4⟩
  have s4 := s3.drawn hs4 hg4
  have hl4 : Blk w4 w2.heap.size 38 (fitA c0 cx cy cxx cxy) := (hg4.block _ hl3.lt (fun e => by injection e with e; omega)).trans hl3
  have hr4 : Blk w4 w.heap.size 38 (fitA 0 0 0 0 0) := s4.blk hr1 (by omega)
  have hlt4 := hl4.lt
  have k6 : ¬ w.heap.size = w2.heap.size := by omega
  have k5 : ¬ w2.heap.size = w.heap.size := by omega
  have hz4 := s4.gr.size
  have S4 := Lib.hid s4
  have HB := Lib.hid (fun (w' : World) (hq : w4.grownBy w' (some (w.heap.size + 1))) => (show (Blk w' w2.heap.size 38 (fitA c0 cx cy cxx cxy) ∧ Blk w' w.heap.size 38 (fitA 0 0 0 0 0)) from ⟨(hq.block _ hl4.lt (fun e => by injection e with e; omega)).trans hl4, (hq.block _ hr4.lt (fun e => by injection e with e; omega)).trans hr4⟩))
  clear s1 s2 s3 s4 hl2 hl3 hl4 hr4 hs3 hg3 hs4 hg4 hr1
  have hxE : Ext w w4 := S4.out.toExt hxw hgw
  cases bb
  · obtain ⟨⟨⟨m0, m1, m2, m3, m4⟩, n0, n1, n2, n3, n4⟩, ⟨k0, k1, k2, k3, k4⟩, l0, l1, l2, l3, l4⟩ := (HB.out w4 (grown_refl _ _)).imp fit_cells fit_cells
    go_wp2_with fail
    exact bodyPost_ret (v := .tuple #[.agg (fitA c0 cx cy cxx cxy), .int .i64 hr]) (by simp [results, Try.results33, go_sem, fitA, k0, k1, k2, k3, k4, k5, k6]) rfl ⟨c0, cx, cy, cxx, cxy, hr, rfl, (by repeat (first | with_reducible exact Ext.refl _ | with_reducible assumption | with_reducible refine Ext.alloc ?_ _ | with_reducible refine Ext.drew ?_ | (with_reducible refine Ext.setAt ?_ _ _ _ ?_; rotate_left; omega) | with_reducible refine Ext.trans ?_ (by assumption) | with_reducible exact Past.bel _ | with_reducible refine Ext.trans ?_ (Past.bel _)))⟩
  · go_wp2_with fail
    obtain ⟨z, zz0, zz1, zz2, zz3⟩ : ∃ z : Nat → Int, z 0 = -1 ∧ z 1 = 0 ∧ z 2 = 10000 ∧ z 3 = 10001 := ⟨(fun j => if j = 0 then -1 else if j = 1 then 0 else if j = 2 then 10000 else 10001), rfl, rfl, rfl, rfl⟩
    refine (among_c (w.heap.size + 1) a n c f _ (some ⟨w4.heap.size, 0, none⟩) 4 4 z _ hn (by omega) (S4.out.ext (by repeat (first | with_reducible exact Ext.refl _ | with_reducible assumption | with_reducible refine Ext.alloc ?_ _ | with_reducible refine Ext.drew ?_ | (with_reducible refine Ext.setAt ?_ _ _ _ ?_; rotate_left; omega) | with_reducible refine Ext.trans ?_ (by assumption) | with_reducible exact Past.bel _ | with_reducible refine Ext.trans ?_ (Past.bel _)))).src (by omega) (by omega) (s1_lit (by simp) (fun j hj => by (obtain rfl | rfl | rfl | rfl : j = 0 ∨ j = 1 ∨ j = 2 ∨ j = 3 := by omega) <;> simp [go_sem, zz0, zz1, zz2, zz3])) (fun ad e => by cases e; dsimp only; omega)).mono ?_
    rintro e w5 ⟨j, rfl, hj, hs5, hg5⟩
    have S5 := Lib.hid ((S4.out.ext (w1 := w4.alloc _) (by repeat (first | with_reducible exact Ext.refl _ | with_reducible assumption | with_reducible refine Ext.alloc ?_ _ | with_reducible refine Ext.drew ?_ | (with_reducible refine Ext.setAt ?_ _ _ _ ?_; rotate_left; omega) | with_reducible refine Ext.trans ?_ (by assumption) | with_reducible exact Past.bel _ | with_reducible refine Ext.trans ?_ (Past.bel _)))).drawn hs5 hg5)
    obtain ⟨⟨⟨m0, m1, m2, m3, m4⟩, n0, n1, n2, n3, n4⟩, ⟨k0, k1, k2, k3, k4⟩, l0, l1, l2, l3, l4⟩ := (HB.out w5 (by repeat (first | with_reducible exact grown_refl _ _ | with_reducible assumption | with_reducible refine grown_alloc ?_ _ | with_reducible refine grown_drew ?_ | with_reducible refine grown_trans ?_ (by assumption)))).imp fit_cells fit_cells
    clear hs5 hg5
    have hxF : Ext w w5 := S5.out.toExt hxw hgw
    go_wp2_with fail
    exact bodyPost_ret (v := .tuple #[.agg (fitA c0 cx cy cxx cxy), .int .i64 (z j)]) (by simp [results, Try.results33, go_sem, fitA, k0, k1, k2, k3, k4, k5, k6]) rfl ⟨c0, cx, cy, cxx, cxy, z j, rfl, (by repeat (first | with_reducible exact Ext.refl _ | with_reducible assumption | with_reducible refine Ext.alloc ?_ _ | with_reducible refine Ext.drew ?_ | (with_reducible refine Ext.setAt ?_ _ _ _ ?_; rotate_left; omega) | with_reducible refine Ext.trans ?_ (by assumption) | with_reducible exact Past.bel _ | with_reducible refine Ext.trans ?_ (Past.bel _)))⟩
end Go.Proofs.Ytmbpjlgeneemjaa

namespace Go.Proofs.Ytmbpjlgeneemjaa
open Go.RowKit
set_option linter.unusedVariables false
theorem RB.left {n : Nat} {h o : Nat → Int} (r : RB n h o) {k : Nat} (hk : k ≤ n) : rdV k h o = true := rdV_of (by have := r.n60; omega) (fun j hj => r.bh j (by omega)) (fun j hj => r.bo j (by omega)) (fun j hj => r.up j (by omega))
theorem RB.right {n : Nat} {h o : Nat → Int} (r : RB n h o) {k : Nat} (hk : k ≤ n) : rdV (n - k) (fun i => h (i + k)) (fun i => o (i + k)) = true := rdV_of (by have := r.n60; omega) (fun j hj => r.bh (j + k) (by omega)) (fun j hj => r.bo (j + k) (by omega)) (fun j hj => by have := r.up (j + k) (by omega); rw [show j + 1 + k = j + k + 1 by omega]; exact this)
theorem sm_part (f : Nat → Int) {k n : Nat} (h : k ≤ n) : sm f k + sm (fun i => f (i + k)) (n - k) = sm f n := by rw [sm_rest f h]; omega
theorem addV_part {n : Nat} {h o : Nat → Int} (r : RB n h o) {k : Nat} (hk : k ≤ n) :
    addCode k (sm h k) (sm o k) (sXX h k) (sXY h o k) ((n - k : Nat) : Int) (sm (fun i => h (i + k)) (n - k)) (sm (fun i => o (i + k)) (n - k)) (sXX (fun i => h (i + k)) (n - k)) (sXY (fun i => h (i + k)) (fun i => o (i + k)) (n - k)) = 0 ∧
    addV k (sm h k) (sm o k) (sXX h k) (sXY h o k) ((n - k : Nat) : Int) (sm (fun i => h (i + k)) (n - k)) (sm (fun i => o (i + k)) (n - k)) (sXX (fun i => h (i + k)) (n - k)) (sXY (fun i => h (i + k)) (fun i => o (i + k)) (n - k)) = .agg #[.int .i64 n, .int .i64 (sm h n), .int .i64 (sm o n), .int .i64 (sXX h n), .int .i64 (sXY h o n)] := by
  have v1 := vF_of (rb_of (r.left hk))
  have v2 := vF_of (rb_of (r.right hk))
  have h60 := r.n60
  have hc : addCode k (sm h k) (sm o k) (sXX h k) (sXY h o k) ((n - k : Nat) : Int) (sm (fun i => h (i + k)) (n - k)) (sm (fun i => o (i + k)) (n - k)) (sXX (fun i => h (i + k)) (n - k)) (sXY (fun i => h (i + k)) (fun i => o (i + k)) (n - k)) = 0 := by
    rw [addCode, v1, v2]
    have : ¬ 60 < (k : Int) + ((n - k : Nat) : Int) := by omega
    rw [if_neg this]; rfl
  refine ⟨hc, ?_⟩
  rw [addV, if_pos hc]
  have e0 : (k : Int) + ((n - k : Nat) : Int) = n := by omega
  have e1 := sm_part h hk
  have e2 := sm_part o hk
  have e3 : sXX h k + sXX (fun i => h (i + k)) (n - k) = sXX h n := sm_part (fun i => h i * h i) hk
  have e4 : sXY h o k + sXY (fun i => h (i + k)) (fun i => o (i + k)) (n - k) = sXY h o n := sm_part (fun i => h i * o i) hk
  rw [e0, e1, e2, e3, e4]
/-- all errors moved -/
theorem mv_y (o : Nat → Int) (b : Int) (m : Nat) : sm (fun k => o k + b) m = sm o m + m * b := by
  have := sm_add o (fun _ => b) m
  rw [sm_const] at this; exact this
theorem mv_xy (h o : Nat → Int) (b : Int) (m : Nat) : sXY h (fun k => o k + b) m = sXY h o m + sm h m * b := by
  have h1 : (fun i => h i * (o i + b)) = (fun i => h i * o i + h i * b) := by funext i; exact Int.mul_add _ _ _
  unfold sXY
  rw [h1, sm_add, sm_mulr]
theorem mv_n (m : Nat) (h o : Nat → Int) (b : Int) : slN m (sm h m) (sm (fun k => o k + b) m) (sXX h m) (sXY h (fun k => o k + b) m) = slN m (sm h m) (sm o m) (sXX h m) (sXY h o m) := by
  unfold slN; rw [mv_y, mv_xy]; grind
theorem mv_code {m : Nat} {h o : Nat → Int} {b : Int} (h1 : rdV m h o = true) (h2 : rdV m h (fun k => o k + b) = true) : codeF m (sm h m) (sm (fun k => o k + b) m) (sXX h m) (sXY h (fun k => o k + b) m) = codeF m (sm h m) (sm o m) (sXX h m) (sXY h o m) := by
  rw [codeF, codeF, if_pos (vF_of (rb_of h1)), if_pos (vF_of (rb_of h2))]; rfl
theorem mv_rate {m : Nat} {h o : Nat → Int} {b : Int} (h1 : rdV m h o = true) (h2 : rdV m h (fun k => o k + b) = true) : rateF m (sm h m) (sm (fun k => o k + b) m) (sXX h m) (sXY h (fun k => o k + b) m) = rateF m (sm h m) (sm o m) (sXX h m) (sXY h o m) := by
  rw [rateF, rateF, mv_code h1 h2, mv_n]; rfl
theorem mv_offc {m : Nat} {h o : Nat → Int} {b hr : Int} (h1 : rdV m h o = true) (h2 : rdV m h (fun k => o k + b) = true) : offCode m (sm h m) (sm (fun k => o k + b) m) (sXX h m) (sXY h (fun k => o k + b) m) hr = offCode m (sm h m) (sm o m) (sXX h m) (sXY h o m) hr := by
  rw [offCode, offCode, mv_code h1 h2]
theorem offC_in {c x y xx xy hr : Int} (h : offCode c x y xx xy hr = 0) : codeF c x y xx xy = 0 ∧ 0 ≤ hr ∧ hr ≤ 10000 := by
  rw [offCode] at h
  split at h
  · rename_i h1
    split at h
    · rename_i h2; exact ⟨h1, inB_t.1 h2⟩
    · exact absurd h (by decide)
  · rename_i h1; exact absurd h h1
theorem mv_off {m : Nat} {h o : Nat → Int} {b hr : Int} (h1 : rdV m h o = true) (h2 : rdV m h (fun k => o k + b) = true) (hc : offCode m (sm h m) (sm o m) (sXX h m) (sXY h o m) hr = 0) :
    offRes m (sm h m) (sm (fun k => o k + b) m) (sXX h m) (sXY h (fun k => o k + b) m) hr = offRes m (sm h m) (sm o m) (sXX h m) (sXY h o m) hr + b := by
  have hc' := (mv_offc (b := b) h1 h2).trans hc
  obtain ⟨i1, i2, i3⟩ := offC_in hc
  have ob := ob_of i1 i2 i3
  rw [offRes, offRes, if_pos hc, if_pos hc', offV, offV, mv_n, mv_y]
  have hD : slD (m : Int) (sm h m) (sm o m + m * b) (sXX h m) (sXY h (fun k => o k + b) m) = slD m (sm h m) (sm o m) (sXX h m) (sXY h o m) := rfl
  rw [hD]
  have hp := ob.cd0
  rw [Int.add_comm (nearD _ _) b, ← nearD_add hp]
  congr 1
  grind
theorem nearD_bound {n d N : Int} (hd : 0 < d) (h0 : -N ≤ n) (h1 : n ≤ N) (hN : 0 ≤ N) : -(N + 1) ≤ nearD n d ∧ nearD n d ≤ N + 1 := by
  have h2 := nearD_bd (n := n) hd
  obtain ⟨q, hq⟩ : ∃ q, q = nearD n d := ⟨_, rfl⟩
  rw [← hq] at h2 ⊢
  constructor
  · rcases Int.lt_or_le q (-(N + 1)) with h3 | h3
    · have h4 : q * d ≤ (-(N + 2)) * d := Int.mul_le_mul_of_nonneg_right (by omega) (by omega)
      have h5 : (N + 1) * 1 ≤ (N + 1) * d := Int.mul_le_mul_of_nonneg_left (by omega) (by omega)
      have e : (-(N + 2)) * d = -((N + 1) * d) - d := by grind
      omega
    · exact h3
  · rcases Int.lt_or_le (N + 1) q with h3 | h3
    · have h4 : (N + 2) * d ≤ q * d := Int.mul_le_mul_of_nonneg_right (by omega) (by omega)
      have h5 : (N + 1) * 1 ≤ (N + 1) * d := Int.mul_le_mul_of_nonneg_left (by omega) (by omega)
      have e : (N + 2) * d = (N + 1) * d + d := by grind
      omega
    · exact h3
theorem offRes_bd {c x y xx xy hr : Int} : -6500000000000000000 ≤ offRes c x y xx xy hr ∧ offRes c x y xx xy hr ≤ 6500000000000000000 := by
  rw [offRes]
  split
  · rename_i h
    obtain ⟨i1, i2, i3⟩ := offC_in h
    have ob := ob_of i1 i2 i3
    have h1 := ob.yd0; have h2 := ob.yd1; have h3 := ob.no0; have h4 := ob.no1
    have := nearD_bound (n := y * slD c x y xx xy + slN c x y xx xy * (hr * c - x)) (N := 6480000000000000000) ob.cd0 (by omega) (by omega) (by omega)
    unfold offV
    omega
  · omega
end Go.Proofs.Ytmbpjlgeneemjaa

namespace Go.Proofs.Ytmbpjlgeneemjaa
open Go.RowKit
set_option linter.unusedVariables false
theorem outs2_congr {H H' O O' : Nat → Int} {k : Nat} (h : ∀ j, j < k → H j = H' j) (g : ∀ j, j < k → O j = O' j) : outs2 H O k = outs2 H' O' k := by
  induction k with
  | zero => rfl
  | succ k ih => rw [outs2, outs2, ih (fun j hj => h j (by omega)) (fun j hj => g j (by omega)), h k (by omega), g k (by omega)]
/-- hours that grow by 1 up to 60 -/
structure LN (H : Nat → Int) (k : Nat) : Prop where
  z : H 0 = 0
  up : ∀ j, j < k → H j + 1 ≤ H (j + 1) ∧ H (j + 1) ≤ H j + 60
theorem LN.bd {H : Nat → Int} {k : Nat} (l : LN H k) : ∀ j, j ≤ k → 0 ≤ H j ∧ H j ≤ 60 * j := by
  intro j
  induction j with
  | zero => intro _; rw [l.z]; omega
  | succ j ih => intro hj; have := ih (by omega); have := l.up j (by omega); omega
theorem LN.next {H : Nat → Int} {k : Nat} (l : LN H k) {d : Int} (h0 : 0 ≤ d) (h1 : d < 60) : LN (fun j => if j ≤ k then H j else H k + 1 + d) (k + 1) := by
  refine ⟨by simp [l.z], fun j hj => ?_⟩
  by_cases e : j + 1 ≤ k
  · have := l.up j (by omega)
    simp [e, show j ≤ k by omega]; omega
  · have e2 : j = k := by omega
    subst e2
    simp; omega
/-- a sum of squared differences -/
def sqd (H : Nat → Int) (x : Int) (k : Nat) : Int := sm (fun j => (x - H j) * (x - H j)) k
theorem sqd_eq (H : Nat → Int) (x : Int) (k : Nat) : sqd H x k = sXX H k + k * (x * x) - 2 * (sm H k * x) := by
  induction k with
  | zero => simp [sqd, sXX, sm]
  | succ k ih =>
    have e1 : sqd H x (k + 1) = sqd H x k + (x - H k) * (x - H k) := rfl
    have e2 : sXX H (k + 1) = sXX H k + H k * H k := rfl
    have e3 : sm H (k + 1) = sm H k + H k := rfl
    rw [e1, e2, e3, ih]
    have e4 : ((k + 1 : Nat) : Int) = (k : Int) + 1 := by omega
    rw [e4]; grind
theorem mul_self_nn (x : Int) : 0 ≤ x * x := by
  rcases Int.le_total 0 x with h | h
  · exact Int.mul_nonneg h h
  · exact Int.mul_nonneg_of_nonpos_of_nonpos h h
theorem sqd_nn (H : Nat → Int) (x : Int) (k : Nat) : 0 ≤ sqd H x k := by
  induction k with
  | zero => exact Int.le_refl 0
  | succ k ih =>
    have e1 : sqd H x (k + 1) = sqd H x k + (x - H k) * (x - H k) := rfl
    have := mul_self_nn (x - H k)
    omega
theorem sqd_pos {H : Nat → Int} {x : Int} {k : Nat} (h : H k < x) : 0 < sqd H x (k + 1) := by
  have e1 : sqd H x (k + 1) = sqd H x k + (x - H k) * (x - H k) := rfl
  have h1 := sqd_nn H x k
  have h2 : 0 < (x - H k) * (x - H k) := Int.mul_pos (by omega) (by omega)
  omega
theorem D_step (H : Nat → Int) (k : Nat) (y xy y' xy' : Int) : slD ((k + 1 : Nat) : Int) (sm H (k + 1)) y (sXX H (k + 1)) xy = slD k (sm H k) y' (sXX H k) xy' + sqd H (H k) k := by
  have e2 : sXX H (k + 1) = sXX H k + H k * H k := rfl
  have e3 : sm H (k + 1) = sm H k + H k := rfl
  have e4 : ((k + 1 : Nat) : Int) = (k : Int) + 1 := by omega
  rw [sqd_eq, slD, slD, e2, e3, e4]; grind
theorem D_nn (H : Nat → Int) (k : Nat) (y xy : Int) : 0 ≤ slD k (sm H k) y (sXX H k) xy := by
  induction k with
  | zero => simp [slD, sm, sXX]
  | succ k ih =>
    rw [D_step H k y xy y xy]
    have := sqd_nn H (H k) k
    omega
theorem D_pos {H : Nat → Int} {k : Nat} (h : H k < H (k + 1)) (y xy : Int) : 0 < slD ((k + 2 : Nat) : Int) (sm H (k + 2)) y (sXX H (k + 2)) xy := by
  rw [D_step H (k + 1) y xy y xy]
  have := D_nn H (k + 1) y xy
  have := sqd_pos h
  omega
/-- what the law on fitted lines shows -/
structure LL (m : Nat) (H O : Nat → Int) (st sl : Int) : Prop where
  v : rdV m H O = true
  c : codeF m (sm H m) (sm O m) (sXX H m) (sXY H O m) = 0
  r : rateF m (sm H m) (sm O m) (sXX H m) (sXY H O m) = 24000 * sl
  oc : ∀ hr, 0 ≤ hr → hr ≤ 10000 → offCode m (sm H m) (sm O m) (sXX H m) (sXY H O m) hr = 0
  ov : ∀ hr, offV m (sm H m) (sm O m) (sXX H m) (sXY H O m) hr = st + sl * hr
theorem nearD_mul' {q d : Int} (h : 0 < d) : nearD (q * d) d = q := by
  unfold nearD
  have e : 2 * (q * d) + d = d + q * (2 * d) := by grind
  rw [e, Int.add_mul_ediv_right _ _ (by omega), Int.ediv_eq_zero_of_lt (by omega) (by omega)]; omega
theorem ll_of {H O : Nat → Int} {m : Nat} {st sl : Int} (l : LN H m) (h2 : 2 ≤ m) (h9 : m ≤ 9) (s0 : -1000 ≤ st) (s1 : st < 1000) (t0 : -5 ≤ sl) (t1 : sl ≤ 5) (hO : ∀ j, O j = st + sl * H j) : LL m H O st sl := by
  have hv : rdV m H O = true := by
    refine rdV_of (by omega) (fun j hj => by have := l.bd j (by omega); omega) (fun j hj => ?_) (fun j hj => by have := l.up j (by omega); omega)
    have hb := l.bd j (by omega)
    have m1 : sl * H j ≤ 5 * H j := Int.mul_le_mul_of_nonneg_right t1 hb.1
    have m2 : -5 * H j ≤ sl * H j := Int.mul_le_mul_of_nonneg_right t0 hb.1
    rw [hO]; omega
  have eO : O = fun j => H j * sl + st := by funext j; rw [hO]; grind
  have eY : sm O m = sm H m * sl + m * st := by rw [eO, sm_add (fun j => H j * sl) (fun _ => st), sm_mulr, sm_const]
  have eXY : sXY H O m = sXX H m * sl + sm H m * st := by
    have e : (fun i => H i * O i) = fun i => (H i * H i) * sl + H i * st := by funext i; rw [hO]; grind
    rw [sXY, e, sm_add, sm_mulr, sm_mulr]; rfl
  have eN : slN m (sm H m) (sm O m) (sXX H m) (sXY H O m) = sl * slD m (sm H m) (sm O m) (sXX H m) (sXY H O m) := by
    rw [slN, slD, eY, eXY]; grind
  obtain ⟨k, rfl⟩ : ∃ k, m = k + 2 := ⟨m - 2, by omega⟩
  have hD := D_pos (by have := l.up k (by omega); omega : H k < H (k + 1)) (sm O (k + 2)) (sXY H O (k + 2))
  have hc : codeF ((k + 2 : Nat) : Int) (sm H (k + 2)) (sm O (k + 2)) (sXX H (k + 2)) (sXY H O (k + 2)) = 0 := by
    rw [codeF, if_pos (vF_of (rb_of hv)), if_neg (by omega)]
  refine ⟨hv, hc, ?_, fun hr a b => ?_, fun hr => ?_⟩
  · rw [rateF, if_pos hc, eN, ← Int.mul_assoc, nearD_mul' hD]
  · rw [offCode, if_pos hc, if_pos (inB_t.2 ⟨a, b⟩)]
  · rw [offV, eN]
    obtain ⟨D, hDD⟩ : ∃ D, D = slD ((k + 2 : Nat) : Int) (sm H (k + 2)) (sm O (k + 2)) (sXX H (k + 2)) (sXY H O (k + 2)) := ⟨_, rfl⟩
    rw [← hDD] at hD ⊢
    rw [eY]
    have hp : 0 < ((k + 2 : Nat) : Int) * D := Int.mul_pos (by omega) hD
    have e : (sm H (k + 2) * sl + ((k + 2 : Nat) : Int) * st) * D + sl * D * (hr * ((k + 2 : Nat) : Int) - sm H (k + 2)) = (st + sl * hr) * (((k + 2 : Nat) : Int) * D) := by grind
    rw [e, nearD_mul' hp]
end Go.Proofs.Ytmbpjlgeneemjaa
