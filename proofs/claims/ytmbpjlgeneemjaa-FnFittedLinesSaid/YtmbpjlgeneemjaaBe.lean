/- The law on residuals: its walk. The law on fitted lines: its walk. What arguments of plain data hold: slices of mixed structs, slices of numbers. No program in sight. What an argument of bytes holds. -/
import Derived.Test.YtmbpjlgeneemjaaBd
import Derived.Deep.DeepCutAuto
import Derived.Test.YtmbpjlgeneemjaaBa
import Derived.Test.YtmbpjlgeneemjaaBb

namespace Go.Proofs.Ytmbpjlgeneemjaa
open Go.RowKit
set_option linter.unusedVariables false
set_option linter.unusedSimpArgs false

/-- rates, one by one -/
theorem rate_law {m : Nat} {h o : Nat → Int} {j : Nat} (hj : j < (rateRes m h o).length) : rdV m h o = true ∧ j + 1 < m ∧ ∃ q s : Int, (rateRes m h o).getD j 0 = q ∧ s = h (j + 1) - h j ∧ 1 ≤ s ∧ s ≤ 10000 ∧ -100000 ≤ o j ∧ o j ≤ 100000 ∧ -100000 ≤ o (j + 1) ∧ o (j + 1) ≤ 100000 ∧ 0 ≤ h j ∧ h j ≤ 10000 ∧ 0 ≤ h (j + 1) ∧ h (j + 1) ≤ 10000 ∧
    2 * absI (q * s - 24000 * (o (j + 1) - o j)) ≤ s ∧ -5000000000 ≤ q * s ∧ q * s ≤ 5000000000 := by
  have hv : rdV m h o = true := by
    cases hv : rdV m h o
    · rw [rateRes, hv] at hj; simp at hj
    · rfl
  rw [rateRes, if_pos hv, outs_len] at hj
  have r := rb_of hv
  have u := r.up j (by omega)
  have b1 := r.bh j (by omega)
  have b2 := r.bh (j + 1) (by omega)
  have b3 := r.bo j (by omega)
  have b4 := r.bo (j + 1) (by omega)
  have nb := nearD_bd (n := 24000 * (o (j + 1) - o j)) (d := h (j + 1) - h j) (by omega)
  refine ⟨hv, by omega, _, _, rfl, rfl, by omega, by omega, b3.1, b3.2, b4.1, b4.2, b1.1, b1.2, b2.1, b2.2, ?_, ?_, ?_⟩
  all_goals rw [rateRes, if_pos hv, outs_getD _ _ _ hj, rateFn]
  · exact absI_near2 nb.1 nb.2
  · have := nb.2; omega
  · have := nb.1; omega
theorem nearD_abs {n d N : Int} (hd : 0 < d) (h0 : -N ≤ n) (h1 : n ≤ N) (hN : 0 ≤ N) : -(N + 1) ≤ nearD n d ∧ nearD n d ≤ N + 1 := by
  have h2 := nearD_bd (n := n) hd
  obtain ⟨q, hq⟩ : ∃ q, q = nearD n d := ⟨_, rfl⟩
  rw [← hq] at h2 ⊢
  constructor
  · rcases Int.lt_or_le q (-(N + 1)) with h3 | h3
    · have h4 : q * d ≤ (-(N + 2)) * d := Int.mul_le_mul_of_nonneg_right (by omega) (by omega)
      have h5 : (N + 1) * 1 ≤ (N + 1) * d := Int.mul_le_mul_of_nonneg_left (by omega) (by omega)
      have e : (-(N + 2)) * d = -((N + 1) * d) - d := by grind
      omega
    · exact h3
  · rcases Int.lt_or_le (N + 1) q with h3 | h3
    · have h4 : (N + 2) * d ≤ q * d := Int.mul_le_mul_of_nonneg_right (by omega) (by omega)
      have h5 : (N + 1) * 1 ≤ (N + 1) * d := Int.mul_le_mul_of_nonneg_left (by omega) (by omega)
      have e : (N + 2) * d = (N + 1) * d + d := by grind
      omega
    · exact h3
/-- residuals -/
theorem res_law {m : Nat} {h o : Nat → Int} (hc : resCode m h o = 0) : rdV m h o = true ∧ codeF m (sm h m) (sm o m) (sXX h m) (sXY h o m) = 0 ∧ m ≤ 60 ∧ (resRes m h o).length = m ∧ (∀ j, j < m → ∃ l r : Int, lineAt m h o j = l ∧ (resRes m h o).getD j 0 = r ∧ l + r = o j ∧ -100000 ≤ o j ∧ o j ≤ 100000 ∧ 0 ≤ h j ∧ h j ≤ 10000 ∧ -6500000000000000000 ≤ l ∧ l ≤ 6500000000000000000) ∧
    2 * (sm (fun j => (resRes m h o).getD j 0) m) ≤ m ∧ -(m : Int) ≤ 2 * (sm (fun j => (resRes m h o).getD j 0) m) := by
  have hv : rdV m h o = true := by
    cases hv : rdV m h o
    · rw [resCode, hv] at hc; simp at hc
    · rfl
  have r := rb_of hv
  have hf := (resCode_f hv).trans hc
  have hr : resRes m h o = outs (resFn m h o) m := by rw [resRes, if_pos hc]
  have hb : ∀ j, j < m → -6500000000000000000 ≤ lineAt m h o j ∧ lineAt m h o j ≤ 6500000000000000000 := fun j hj => by
    have ob := ob_of hf (r.bh j hj).1 (r.bh j hj).2
    have h1 := ob.yd0; have h2 := ob.yd1; have h3 := ob.no0; have h4 := ob.no1
    have := nearD_abs (n := sm o m * slD m (sm h m) (sm o m) (sXX h m) (sXY h o m) + slN m (sm h m) (sm o m) (sXX h m) (sXY h o m) * (h j * m - sm h m)) (N := 6480000000000000000) ob.cd0 (by omega) (by omega) (by omega)
    unfold lineAt offV
    omega
  have hg : ∀ j, j < m → (resRes m h o).getD j 0 = o j - lineAt m h o j := fun j hj => by
    have h1 := hb j hj
    have h2 := r.bo j hj
    rw [hr, outs_getD _ _ _ hj, resFn, IntWalk.i64_in _ (by omega)]
  have hE : 0 < lnE m h o := (ob_of hf (show (0 : Int) ≤ 0 by omega) (by omega)).cd0
  have hs := res_sum m h o hE
  have he : sm (fun j => (resRes m h o).getD j 0) m = sm (fun j => o j - lineAt m h o j) m := sm_congr hg
  rw [he]
  refine ⟨hv, hf, r.n60, by rw [hr, outs_len], fun j hj => ⟨_, _, rfl, rfl, ?_, (r.bo j hj).1, (r.bo j hj).2, (r.bh j hj).1, (r.bh j hj).2, (hb j hj).1, (hb j hj).2⟩, hs⟩
  rw [hg j hj]; omega
/-- what FitOf returns of a valid list -/
theorem implFitOf_v (a : Option Addr) (n c : Nat) (h o : Nat → Int) (w : World) (hn : n ≤ 1048576) (hs : S2 w a n h o) (hv : rdV n h o = true) :
    Calls Try.prog 17 #[.slice a n c] w fun e w' => e = .returned (.tuple #[.agg #[.int .i64 n, .int .i64 (sm h n), .int .i64 (sm o n), .int .i64 (sXX h n), .int .i64 (sXY h o n)], .int .i64 0]) ∧ Ext w w' := by
  have := implFitOf_c a n c h o w hn hs
  rw [hv] at this
  exact this
set_option maxRecDepth 100000 in
set_option maxHeartbeats 8000000 in
theorem walkResidualsOfReadings (a : Option Addr) (n c : Nat) (f : Nat → Nat) (hm : n ≤ maxLen) (w : World) (hs : U8 w a n f) (hl : ∀ j, j < n → f j ≤ 255) :
    Calls Try.prog 5 #[.slice a n c] w fun e w' => e = .returned (.bool true) ∧ Ext w w' := by
  by_cases hn : n ≤ 4096
  · have e1 : decide (4096 < n) = false := decide_eq_false (by omega)
    go_enter Try.func5, Try.ntmps5
    go_wp2_with (go_at_call 9; ((with_reducible refine (f6big_c _ _ _ _).mono ?_); rintro e w' ⟨rfl, rfl⟩))
    refine (drawResiduals_c a n c f w (by omega) hs hl).mono ?_
    rintro e w2 ⟨b, m, cap, h, o, rfl, h2⟩
    have hm' : m ≤ 1048576 := by have := h2.n61; omega
    have HS := Lib.hid h2.s2
    have hxw := h2.ext
    clear h2
    go_wp2_with fail
    refine (implResidualsOf_c b m cap h o w2 hm' HS.out).mono ?_
    rintro e w3 ⟨b3, c3, rfl, hx3, ho3⟩
    have HO3 := Lib.hid ho3
    clear ho3
    go_wp2_with fail
    refine (specResidualsOf_c b m cap h o w3 hm' (HS.out.ext hx3)).mono ?_
    rintro e w4 ⟨b4, c4, rfl, hx4, ho4⟩
    have HO4 := Lib.hid ho4
    have hx24 := Ext.trans hx3 hx4
    clear ho4
    go_wp2_with fail
    refine (implRatesBetween_c b m cap h o w4 hm' (HS.out.ext hx24)).mono ?_
    rintro e w5 ⟨b5, c5, rfl, hx5, ho5⟩
    have HO5 := Lib.hid ho5
    have hx25 := Ext.trans hx24 hx5
    clear ho5
    go_wp2_with fail
    refine (specRatesBetween_c b m cap h o w5 hm' (HS.out.ext hx25)).mono ?_
    rintro e w6 ⟨b6, c6, rfl, hx6, ho6⟩
    have HO6 := Lib.hid ho6
    have hx26 := Ext.trans hx25 hx6
    clear ho6
    have hl1 : (resRes m h o).length ≤ 1048576 := Nat.le_trans (resRes_len m h o) hm'
    have hl2 : (rateRes m h o).length ≤ 1048576 := Nat.le_trans (rateRes_len m h o) hm'
    obtain ⟨C, hC⟩ : ∃ C, C = resCode m h o := ⟨_, rfl⟩
    obtain ⟨D, hD⟩ : ∃ C, C = rateCode m h o := ⟨_, rfl⟩
    rw [← hC, ← hD]
    have HC := Lib.hid hC
    have d1 : (C != C) = false := by simp
    have d2 : (D != D) = false := by simp
    clear hC hD
    go_wp2_with fail
    refine (f6same_self _ _ _ _ _ _ _ hl1 (own_s1 (own_ext HO3.out (Ext.trans hx4 (Ext.trans hx5 hx6)))) (own_s1 (own_ext HO4.out (Ext.trans hx5 hx6)))).mono ?_
    rintro e w7 ⟨rfl, hx7⟩
    go_wp2_with fail
    refine (f6same_self _ _ _ _ _ _ _ hl2 (own_s1 (own_ext HO5.out (Ext.trans hx6 hx7))) (own_s1 (own_ext HO6.out hx7))).mono ?_
    rintro e w8 ⟨rfl, hx8⟩
    have hx28 := Ext.trans hx26 (Ext.trans hx7 hx8)
    have S3 := Lib.hid (own_s1 (own_ext HO3.out (Ext.trans hx4 (Ext.trans hx5 (Ext.trans hx6 (Ext.trans hx7 hx8))))))
    have S5 := Lib.hid (own_s1 (own_ext HO5.out (Ext.trans hx6 (Ext.trans hx7 hx8))))
    have S2' := Lib.hid (HS.out.ext hx28)
    have hw8 := Ext.trans hxw hx28
    obtain ⟨L, hL⟩ : ∃ L, L = (rateRes m h o).length := ⟨_, rfl⟩
    have HR := Lib.hid (fun (j : Nat) (hj : j < L) => rate_law (m := m) (h := h) (o := o) (hL ▸ hj))
    have HG := Lib.hid (fun (j : Nat) => (rfl : (rateRes m h o).getD j 0 = (rateRes m h o).getD j 0))
    rw [← hL] at hl2 ⊢
    have s5 := S5.out
    rw [← hL] at s5
    have T5 := Lib.hid s5
    clear HO3 HO4 HO5 HO6 hx3 hx4 hx5 hx6 hx7 hx8 hx24 hx25 hx26 s5 S5 hL HS
    go_wp2_with fail
    go_loopw [12] (fun i wr => ∃ j : Nat, j ≤ L ∧ i = .int .i64 j ∧ Ext w8 wr) (fun i _ => L - (intOf i).toNat)
    case atStart => exact ⟨0, by omega, rfl, (by repeat (first | with_reducible exact Ext.refl _ | with_reducible assumption | with_reducible refine Ext.alloc ?_ _ | with_reducible refine Ext.drew ?_ | (with_reducible refine Ext.setAt ?_ _ _ _ ?_; rotate_left; omega) | with_reducible refine Ext.trans ?_ (by assumption) | with_reducible exact Past.bel _ | with_reducible refine Ext.trans ?_ (Past.bel _)))⟩
    case round =>
      obtain ⟨j, hj, rfl, hbl⟩ := hrel
      have x0 : (0 : Int) ≤ (j : Int) := by omega
      by_cases hlt : j < L
      · have x1 : (j : Int) < (L : Int) := by omega
        obtain ⟨-, hj1, q, s, hq, hsd, u0, u1, u2, u3, u4, u5, u6, u7, u8, u9, u10, u11, u12⟩ := HR.out j hlt
        obtain ⟨b1, o1, rfl, hb1, q1, q2⟩ := (S2'.out.ext hbl).at (show j + 1 < m by omega)
        obtain ⟨_, _, hh, _, q3, q4⟩ := (S2'.out.ext hbl).at (show j < m by omega)
        obtain ⟨rfl, rfl⟩ := by simpa using hh
        obtain ⟨b7, o7, rfl, hb7, r1⟩ := (T5.out.ext hbl).at hlt
        rw [hq] at r1
        obtain ⟨H0, hH0⟩ : ∃ H, H = h j := ⟨_, rfl⟩
        obtain ⟨H1, hH1⟩ : ∃ H, H = h (j + 1) := ⟨_, rfl⟩
        obtain ⟨O0, hO0⟩ : ∃ H, H = o j := ⟨_, rfl⟩
        obtain ⟨O1, hO1⟩ : ∃ H, H = o (j + 1) := ⟨_, rfl⟩
        rw [← hH1] at q1 hsd u8 u9
        rw [← hH0] at q3 hsd u6 u7
        rw [← hO1] at q2 u4 u5 u10
        rw [← hO0] at q4 u2 u3 u10
        obtain ⟨A, hA⟩ : ∃ A, A = absI (q * s - 24000 * (O1 - O0)) := ⟨_, rfl⟩
        have HZ := Lib.hid (fun W => (hA ▸ f6size_c (q * s - 24000 * (O1 - O0)) W (by omega) (by omega) : Calls Try.prog 32 #[.int .i64 (q * s - 24000 * (O1 - O0))] W fun e w' => e = .returned (.int .i64 A) ∧ W = w'))
        rw [← hA] at u10
        have a0 : 0 ≤ A := by rw [hA]; unfold absI; split <;> omega
        have v1 : ¬ s < 2 * A := by omega
        have v2 : (j : Int) + 1 < (m : Int) := by omega
        have v3 : (0 : Int) ≤ (j : Int) + 1 := by omega
        have v4 : (j : Int) < (m : Int) := by omega
        have v5 : IntKind.i64.wrap ((j : Int) + 1) = (j : Int) + 1 := IntWalk.i64_in _ (by omega)
        have v6 : H1 - H0 = s := hsd.symm
        clear hh hq hH0 hH1 hO0 hO1 hA hsd
        go_wp2_with fail
        refine wp_region_past (by kernel_rfl) (by kernel_rfl) ?_
        repeat (go_big_quiet_step (fail))
        refine wpQuiet_nil ?_
        rintro _ ⟨wx, rfl⟩
        go_wp2_with fail
        refine wp_region_past (by kernel_rfl) (by kernel_rfl) ?_
        repeat (go_big_quiet_step ((go_at_call 32; exact Calls.past_same (HZ.out _))))
        refine wpQuiet_nil ?_
        rintro _ ⟨wx, rfl⟩
        go_wp2_with fail
        exact ⟨⟨j + 1, by omega, by go_num, (by repeat (first | with_reducible exact Ext.refl _ | with_reducible assumption | with_reducible refine Ext.alloc ?_ _ | with_reducible refine Ext.drew ?_ | (with_reducible refine Ext.setAt ?_ _ _ _ ?_; rotate_left; omega) | with_reducible refine Ext.trans ?_ (by assumption) | with_reducible exact Past.bel _ | with_reducible refine Ext.trans ?_ (Past.bel _)))⟩, by simp [intOf]; omega⟩
      · have x1 : ¬ (j : Int) < (L : Int) := by omega
        have hbw := Ext.trans hw8 hbl
        by_cases c4 : C = 0
        · obtain ⟨hv, hcf, h60, hlen, hres, hs1, hs2⟩ := res_law (HC.out.symm.trans c4)
          have c5 : (C != 0) = false := by simpa using c4
          rw [hlen] at hl1
          have s3 := (S3.out.ext hbl)
          rw [hlen] at s3
          have T3 := Lib.hid s3
          have HRS := Lib.hid hres
          have HF := Lib.hid (fun (W : World) (hq : Ext wr W) => implFitOf_v b m cap h o W hm' (S2'.out.ext (Ext.trans hbl hq)) hv)
          have HO := Lib.hid (fun (j : Nat) (hj : j < m) (W : World) => (show Calls Try.prog 24 #[.agg #[.int .i64 m, .int .i64 (sm h m), .int .i64 (sm o m), .int .i64 (sXX h m), .int .i64 (sXY h o m)], .int .i64 (h j)] W (fun e w' => e = .returned (.tuple #[.int .i64 (lineAt m h o j), .int .i64 0]) ∧ Ext W w') from by
            obtain ⟨l, r, _, _, _, _, _, h5, h6, _⟩ := hres j hj
            have hoc : offCode m (sm h m) (sm o m) (sXX h m) (sXY h o m) (h j) = 0 := by rw [offCode, if_pos hcf, if_pos (inB_t.2 ⟨h5, h6⟩)]
            have := implOffAt_c m (sm h m) (sm o m) (sXX h m) (sXY h o m) (h j) W
            rw [offRes, if_pos hoc, hoc] at this
            exact this))
          obtain ⟨X, hX⟩ : ∃ X, X = sm h m := ⟨_, rfl⟩
          obtain ⟨Y, hY⟩ : ∃ X, X = sm o m := ⟨_, rfl⟩
          obtain ⟨XX, hXX⟩ : ∃ X, X = sXX h m := ⟨_, rfl⟩
          obtain ⟨XY, hXY⟩ : ∃ X, X = sXY h o m := ⟨_, rfl⟩
          rw [← hX, ← hY, ← hXX, ← hXY] at HF HO
          obtain ⟨G, hG⟩ : ∃ G : Nat → Int, G = fun j => (resRes m h o).getD j 0 := ⟨_, rfl⟩
          rw [← hG] at hs1 hs2
          have GE := Lib.hid (fun (j : Nat) => (show (resRes m h o).getD j 0 = G j from by rw [hG]))
          have HS1 := Lib.hid (And.intro hs1 hs2)
          clear c4 hX hY hXX hXY hG hs1 hs2 hv hcf hres s3 S3 HR HG T5
          rw [hlen]
          go_wp2_with fail
          refine (HF.out wr (Ext.refl _)).mono ?_
          rintro e wa ⟨rfl, hxa⟩
          have hx8a := Ext.trans hbl hxa
          have hwa := Ext.trans hw8 hx8a
          have HB := Lib.hid (fun (w' : World) (hq : Ext (wa.alloc (.cells #[.int .i64 m, .int .i64 X, .int .i64 Y, .int .i64 XX, .int .i64 XY] 38)) w') => (show (w'.cell? ⟨wa.heap.size, 0, none⟩ = some (.int .i64 m) ∧ w'.cell? ⟨wa.heap.size, 1, none⟩ = some (.int .i64 X) ∧ w'.cell? ⟨wa.heap.size, 2, none⟩ = some (.int .i64 Y) ∧ w'.cell? ⟨wa.heap.size, 3, none⟩ = some (.int .i64 XX) ∧ w'.cell? ⟨wa.heap.size, 4, none⟩ = some (.int .i64 XY)) from fit_blk5 ((Blk.new wa _ _).ext hq)))
          have hza : wa.heap.size < (wa.alloc (.cells #[.int .i64 m, .int .i64 X, .int .i64 Y, .int .i64 XX, .int .i64 XY] 38)).heap.size := by simp
          have T3a := Lib.hid (T3.out.ext hxa)
          have w0 : (0 : Int) = wrap64 (sm G 0) := by simp [sm, wrap64]
          have W0 := Lib.hid w0
          clear w0 T3 HF
          go_wp2_with fail
          go_loopw [16, 17] (fun s16 s17 wx => ∃ (k : Nat) (S : Int), k ≤ m ∧ s17 = .int .i64 k ∧ s16 = .int .i64 S ∧ S = wrap64 (sm G k) ∧ Ext (wa.alloc (.cells #[.int .i64 m, .int .i64 X, .int .i64 Y, .int .i64 XX, .int .i64 XY] 38)) wx) (fun _ s17 _ => m - (intOf s17).toNat)
          case atStart => exact ⟨0, 0, by omega, rfl, rfl, W0.out, (by repeat (first | with_reducible exact Ext.refl _ | with_reducible assumption | with_reducible refine Ext.alloc ?_ _ | with_reducible refine Ext.drew ?_ | (with_reducible refine Ext.setAt ?_ _ _ _ ?_; rotate_left; omega) | with_reducible refine Ext.trans ?_ (by assumption) | with_reducible exact Past.bel _ | with_reducible refine Ext.trans ?_ (Past.bel _)))⟩
          case round =>
            obtain ⟨k, S, hk, rfl, rfl, hS, hbx⟩ := hrel
            have HSS := Lib.hid hS
            have y0 : (0 : Int) ≤ (k : Int) := by omega
            have hax := Ext.trans (Ext.alloc (Ext.refl wa) _) hbx
            have hz2 := hbx.size
            have hzz : wa.heap.size < wr.heap.size := by omega
            clear hS
            by_cases hlt2 : k < m
            · have y1 : (k : Int) < (m : Int) := by omega
              obtain ⟨l, r, g1, g2, g3, g4, g5, g6, g7, g8, g9⟩ := HRS.out k hlt2
              obtain ⟨b1, o1, rfl, hb1, q1, q2⟩ := (S2'.out.ext (Ext.trans hx8a hax)).at hlt2
              obtain ⟨b7, o7, rfl, hb7, r1⟩ := (T3a.out.ext hax).at hlt2
              rw [g2] at r1
              have hGk : G k = r := (GE.out k).symm.trans g2
              obtain ⟨cb0, cb1, cb2, cb3, cb4⟩ := HB.out wr hbx
              have HOk := Lib.hid (fun (W : World) => (show Calls Try.prog 24 #[.agg #[.int .i64 m, .int .i64 X, .int .i64 Y, .int .i64 XX, .int .i64 XY], .int .i64 (h k)] W (fun e w' => e = .returned (.tuple #[.int .i64 l, .int .i64 0]) ∧ Ext W w') from by rw [← g1]; exact HO.out k hlt2 W))
              obtain ⟨O, hO⟩ : ∃ O, O = o k := ⟨_, rfl⟩
              obtain ⟨Hk, hHk⟩ : ∃ O, O = h k := ⟨_, rfl⟩
              rw [← hO] at q2 g3 g4 g5
              rw [← hHk] at q1 HOk g6 g7
              have r2 : IntKind.i64.wrap (l + r) = O := by rw [g3]; exact IntWalk.i64_in _ (by omega)
              have r3 : wrap64 (l + r) = O := by rw [g3]; exact IntWalk.wrap64_in _ (by omega)
              have r4 : (O != O) = false := by simp
              have hS2 : wrap64 (S + r) = wrap64 (sm G (k + 1)) := by rw [HSS.out, wrap_add]; show _ = wrap64 (sm G k + G k); rw [hGk]
              have HS2 := Lib.hid hS2
              clear hS2 hGk g1 g2 g3 hO hHk
              go_wp2_with fail
              refine wp_region_past (by kernel_rfl) (by kernel_rfl) ?_
              repeat (go_big_quiet_step ((go_at_call 24; exact Calls.past (HOk.out _))))
              refine wpQuiet_nil ?_
              rintro _ ⟨wx, rfl⟩
              go_wp2_with fail
              refine wp_region_past (by kernel_rfl) (by kernel_rfl) ?_
              repeat (go_big_quiet_step (fail))
              refine wpQuiet_nil ?_
              rintro _ ⟨wx, rfl⟩
              go_wp2_with fail
              exact ⟨⟨k + 1, _, by omega, by go_num, rfl, HS2.out, (by repeat (first | with_reducible exact Ext.refl _ | with_reducible assumption | with_reducible refine Ext.alloc ?_ _ | with_reducible refine Ext.drew ?_ | (with_reducible refine Ext.setAt ?_ _ _ _ ?_; rotate_left; omega) | with_reducible refine Ext.trans ?_ (by assumption) | with_reducible exact Past.bel _ | with_reducible refine Ext.trans ?_ (Past.bel _)))⟩, by simp [intOf]; omega⟩
            · have y1 : ¬ (k : Int) < (m : Int) := by omega
              obtain rfl : k = m := by omega
              obtain ⟨t1, t2⟩ := HS1.out
              have hSe : S = sm G k := by rw [HSS.out]; exact IntWalk.wrap64_in _ (by omega)
              rw [← hSe] at t1 t2
              obtain ⟨A, hA⟩ : ∃ A, A = absI S := ⟨_, rfl⟩
              have HZ := Lib.hid (fun W => (hA ▸ f6size_c S W (by omega) (by omega) : Calls Try.prog 32 #[.int .i64 S] W fun e w' => e = .returned (.int .i64 A) ∧ W = w'))
              have a1 : 2 * A ≤ (k : Int) := by rw [hA]; unfold absI; split <;> omega
              have a0 : 0 ≤ A := by rw [hA]; unfold absI; split <;> omega
              have hwx := Ext.trans hwa hax
              clear hSe hA
              go_wp2_with (go_at_call 32; ((with_reducible refine (HZ.out _).mono ?_); rintro e w' ⟨rfl, rfl⟩))
              go_ret
              exact ⟨rfl, hwx⟩
        · have c5 : (C != 0) = true := by simpa using c4
          go_wp2_with fail
          go_ret
          exact ⟨rfl, hbw⟩
  · have e1 : decide (4096 < n) = true := decide_eq_true (by omega)
    go_enter Try.func5, Try.ntmps5
    go_wp2_with (go_at_call 9; ((with_reducible refine (f6big_c _ _ _ _).mono ?_); rintro e w' ⟨rfl, rfl⟩))
    go_ret
    exact ⟨rfl, (by repeat (first | with_reducible exact Ext.refl _ | with_reducible assumption | with_reducible refine Ext.alloc ?_ _ | with_reducible refine Ext.drew ?_ | (with_reducible refine Ext.setAt ?_ _ _ _ ?_; rotate_left; omega) | with_reducible refine Ext.trans ?_ (by assumption) | with_reducible exact Past.bel _ | with_reducible refine Ext.trans ?_ (Past.bel _)))⟩
end Go.Proofs.Ytmbpjlgeneemjaa

namespace Go.Proofs.Ytmbpjlgeneemjaa
open Go.RowKit
set_option linter.unusedVariables false
set_option linter.unusedSimpArgs false

/-- 'own = append(own, T{x, y})', 'own' made from B on, whatever else has changed -/
theorem app2g {P : Program} {w : World} {ops : Array Oper} {rest : List Oper} {o : Oper} {A : Act} {Q : Exit → Act → World → Prop} (t e : TypeId) (s x : Operand) (z : Value)
    (hop : o.op = .call { callee := .builtin .append, args := #[s, x], argTypes := #[t, t] }) (hgd : o.guard = none)
    (ht : P.underlying t = some (.slice e)) (hinfo : (P.info? e).map (fun i => (i.zero, i.size, i.bytes)) = some (some z, 2, 16)) (hz : z.cells.size = 2)
    (B : Nat) (v : Value) (l : List (Int × Int)) (p q : Int) (gb : Nat) (hs : A.eval s = v) (hx : A.eval x = .slice (some ⟨gb, 0, none⟩) 1 1) (hown : w.ownsRow B e 2 v l.length (PR l))
    (hc : Blk w gb e #[.int .i64 p, .int .i64 q]) (hl : l.length ≤ 1048576) (h0 : B ≤ w.heap.size)
    (hK : ∀ v' w', w'.ownsRow B e 2 v' (l.length + 1) (PR (l ++ [(p, q)])) → w.grownBy w' v.ownBlock → wpList P ops Q rest (A.put o.dst v') w') : wpList P ops Q (o :: rest) A w := by
  obtain ⟨i, hi, hz', hsz, hb⟩ := info_parts hinfo
  refine wpList_append_own (P := P) w hgd s x t hop B e i z 2 16 ht hi hz' hsz hb hz (by decide) v l.length _ hs hown ⟨gb, 0, none⟩ 1 1 [.int .i64 p, .int .i64 q] hx rfl ?_ ?_ ?_ ?_ h0 ?_
  · exact World.news_of_block hc
  · intro u hu
    simp at hu; rcases hu with rfl | rfl <;> rfl
  · unfold maxLen; omega
  · omega
  · intro v' w' h1 h2 _
    refine hK v' w' ?_ h2
    rw [PR_app]; have e1 : PR [(p, q)] = [.int .i64 p, .int .i64 q] := rfl
    rw [e1]; exact h1
theorem Dice.kept {w w' : World} {g : Nat} {a : Option Addr} {n c : Nat} {row : Option Nat} (h : Dice w g a n c) (hx : w.grownBy w' row) (hr : ∀ k, row = some k → k ≠ g) : Dice w' g a n c := by
  obtain ⟨i, hh, hb, hi⟩ := h.blk
  exact ⟨⟨i, hh, (hx.block g hb.lt (fun e => hr g e.symm rfl)).trans hb, hi⟩⟩
/-- the residuals of readings on a line -/
theorem resid0_c (b : Option Addr) (m cap : Nat) (H O : Nat → Int) (st sl : Int) (w : World) (hm : m ≤ 60) (hs : S2 w b m H O) (ll : LL m H O st sl) (hO : ∀ j, O j = st + sl * H j) :
    Calls Try.prog 27 #[.slice b m cap] w fun e w' => ∃ b' c', e = .returned (.tuple #[.slice b' m c', .int .i64 0]) ∧ Ext w w' ∧ S1 w' b' m (fun _ => 0) := by
  have hc : resCode m H O = 0 := (resCode_f ll.v).symm.trans ll.c
  obtain ⟨-, -, -, hlen, hres, -, -⟩ := res_law hc
  refine (implResidualsOf_c b m cap H O w (by omega) hs).mono ?_
  rw [hlen, hc]
  rintro e w' ⟨b', c', rfl, hx, ho⟩
  refine ⟨b', c', rfl, hx, fun h0 => ?_⟩
  obtain ⟨g, off, e1, hb, hcc⟩ := own_s1 ho h0
  refine ⟨g, off, e1, hb, fun j hj => ?_⟩
  have h1 := hcc j hj
  obtain ⟨l, r, g1, g2, g3, _⟩ := hres j hj
  rw [lineAt, ll.ov] at g1
  dsimp only at h1 ⊢
  rw [g2] at h1
  rw [hO] at g3
  have h2 : r = 0 := by omega
  rw [h2] at h1
  exact h1
set_option maxRecDepth 100000 in
set_option maxHeartbeats 8000000 in
theorem walkLines (a : Option Addr) (n c : Nat) (f : Nat → Nat) (hm : n ≤ maxLen) (w : World) (hs : U8 w a n f) (hl : ∀ j, j < n → f j ≤ 255) :
    Calls Try.prog 6 #[.slice a n c] w fun e w' => e = .returned (.bool true) ∧ Ext w w' := by
  by_cases hn : n ≤ 4096
  · have e1 : decide (4096 < n) = false := decide_eq_false (by omega)
    go_enter Try.func6, Try.ntmps6
    go_wp2_with (go_at_call 9; ((with_reducible refine (f6big_c _ _ _ _).mono ?_); rintro e w' ⟨rfl, rfl⟩))
    refine (drawOff_c a n c f w (by omega) hs hl).mono ?_
    rintro e w2 ⟨z0, z1, z2, z3, z4, hr, rfl, hxw⟩
    have OI := Lib.hid (fun W => implOffAt_c z0 z1 z2 z3 z4 hr W)
    have OS := Lib.hid (fun W => specOffAt_c z0 z1 z2 z3 z4 hr W)
    have DI := Lib.hid (fun W => dailyRate_c z0 z1 z2 z3 z4 W)
    have DS := Lib.hid (fun W => specDailyRate_c z0 z1 z2 z3 z4 W)
    have VI := Lib.hid (fun W => validFit_c z0 z1 z2 z3 z4 W)
    have VS := Lib.hid (fun W => specValidFit_c z0 z1 z2 z3 z4 W)
    have h1 : ∃ X C Q V B, X = offRes z0 z1 z2 z3 z4 hr ∧ C = offCode z0 z1 z2 z3 z4 hr ∧ Q = rateF z0 z1 z2 z3 z4 ∧ V = codeF z0 z1 z2 z3 z4 ∧ B = vF z0 z1 z2 z3 z4 := ⟨_, _, _, _, _, rfl, rfl, rfl, rfl, rfl⟩
    obtain ⟨X, C, Q, V, B, hX, hC, hQ, hV, hB⟩ := h1
    rw [← hX, ← hC] at OI OS
    rw [← hQ, ← hV] at DI DS
    rw [← hB] at VI VS
    clear hX hC hQ hV hB
    have b1 : (C != C) = false := by simp
    have b2 : (X != X) = false := by simp
    have b3 : (V != V) = false := by simp
    have b4 : (Q != Q) = false := by simp
    have b5 : (B != B) = false := by simp
    have HF := Lib.hid (fun (w' : World) (hq : Ext (w2.alloc (.cells #[.int .i64 z0, .int .i64 z1, .int .i64 z2, .int .i64 z3, .int .i64 z4] 38)) w') => (show (w'.cell? ⟨w2.heap.size, 0, none⟩ = some (.int .i64 z0) ∧ w'.cell? ⟨w2.heap.size, 1, none⟩ = some (.int .i64 z1) ∧ w'.cell? ⟨w2.heap.size, 2, none⟩ = some (.int .i64 z2) ∧ w'.cell? ⟨w2.heap.size, 3, none⟩ = some (.int .i64 z3) ∧ w'.cell? ⟨w2.heap.size, 4, none⟩ = some (.int .i64 z4)) from fit_blk5 ((Blk.new w2 _ _).ext hq)))
    have hx2 : Ext w (w2.alloc (.cells #[.int .i64 z0, .int .i64 z1, .int .i64 z2, .int .i64 z3, .int .i64 z4] 38)) := Ext.trans hxw (by repeat (first | with_reducible exact Ext.refl _ | with_reducible assumption | with_reducible refine Ext.alloc ?_ _ | with_reducible refine Ext.drew ?_ | (with_reducible refine Ext.setAt ?_ _ _ _ ?_; rotate_left; omega) | with_reducible refine Ext.trans ?_ (by assumption) | with_reducible exact Past.bel _ | with_reducible refine Ext.trans ?_ (Past.bel _)))
    have hz2 : w2.heap.size < (w2.alloc (.cells #[.int .i64 z0, .int .i64 z1, .int .i64 z2, .int .i64 z3, .int .i64 z4] 38)).heap.size := by simp
    generalize hW2 : w2.alloc (.cells #[.int .i64 z0, .int .i64 z1, .int .i64 z2, .int .i64 z3, .int .i64 z4] 38) = W2 at HF hx2 hz2
    obtain ⟨q0, q1, q2, q3, q4⟩ := HF.out W2 (Ext.refl _)
    go_wp2_with (first | (go_at_call 24; ((with_reducible refine (OI.out _).mono ?_); rintro e w' ⟨rfl, hx⟩; (first | (obtain ⟨wx, rfl⟩ := Past.again hx) | (obtain ⟨wx, rfl⟩ := Past.ofd hx) | (obtain ⟨wx, rfl⟩ := Past.of hx)))) | (go_at_call 34; ((with_reducible refine (OS.out _).mono ?_); rintro e w' ⟨rfl, hx⟩; (first | (obtain ⟨wx, rfl⟩ := Past.again hx) | (obtain ⟨wx, rfl⟩ := Past.ofd hx) | (obtain ⟨wx, rfl⟩ := Past.of hx)))) | (go_at_call 25; ((with_reducible refine (DI.out _).mono ?_); rintro e w' ⟨rfl, hx⟩; (first | (obtain ⟨wx, rfl⟩ := Past.again hx) | (obtain ⟨wx, rfl⟩ := Past.ofd hx) | (obtain ⟨wx, rfl⟩ := Past.of hx)))) | (go_at_call 35; ((with_reducible refine (DS.out _).mono ?_); rintro e w' ⟨rfl, hx⟩; (first | (obtain ⟨wx, rfl⟩ := Past.again hx) | (obtain ⟨wx, rfl⟩ := Past.ofd hx) | (obtain ⟨wx, rfl⟩ := Past.of hx)))) | (go_at_call 23; ((with_reducible refine (VI.out _).mono ?_); rintro e w' ⟨rfl, hx⟩; (first | (obtain ⟨wx, rfl⟩ := Past.again hx) | (obtain ⟨wx, rfl⟩ := Past.ofd hx) | (obtain ⟨wx, rfl⟩ := Past.of hx)))) | (go_at_call 36; ((with_reducible refine (VS.out _).mono ?_); rintro e w' ⟨rfl, hx⟩; (first | (obtain ⟨wx, rfl⟩ := Past.again hx) | (obtain ⟨wx, rfl⟩ := Past.ofd hx) | (obtain ⟨wx, rfl⟩ := Past.of hx)))))
    have hx25 : Ext W2 wx.out := (by repeat (first | with_reducible exact Ext.refl _ | with_reducible assumption | with_reducible refine Ext.alloc ?_ _ | with_reducible refine Ext.drew ?_ | (with_reducible refine Ext.setAt ?_ _ _ _ ?_; rotate_left; omega) | with_reducible refine Ext.trans ?_ (by assumption) | with_reducible exact Past.bel _ | with_reducible refine Ext.trans ?_ (Past.bel _)))
    clear q0 q1 q2 q3 q4
    generalize wx.out = w4 at hx25 ⊢
    obtain ⟨q0, q1, q2, q3, q4⟩ := HF.out w4 hx25
    have hw4 := Ext.trans hx2 hx25
    have hz4 : w2.heap.size < w4.heap.size := by have := hx25.size; omega
    refine wp_region_past (by kernel_rfl) (by kernel_rfl) ?_
    repeat (go_big_quiet_step (first | (go_at_call 23; exact Calls.past (VI.out _)) | (go_at_call 36; exact Calls.past (VS.out _))))
    refine wpQuiet_nil ?_
    rintro _ ⟨wx, rfl⟩
    clear q0 q1 q2 q3 q4
    go_wp2_with fail
    have hx25 : Ext W2 wx.out := Ext.trans hx25 (by repeat (first | with_reducible exact Ext.refl _ | with_reducible assumption | with_reducible refine Ext.alloc ?_ _ | with_reducible refine Ext.drew ?_ | (with_reducible refine Ext.setAt ?_ _ _ _ ?_; rotate_left; omega) | with_reducible refine Ext.trans ?_ (by assumption) | with_reducible exact Past.bel _ | with_reducible refine Ext.trans ?_ (Past.bel _)))
    generalize wx.out = w5 at hx25 ⊢
    have hw5 := Ext.trans hx2 hx25
    clear OI OS DI DS VI VS HF
    refine (f6roll_c a n c f 1402 w5 (by omega) (hs.ext hw5)).mono ?_
    rintro e w6 ⟨g, hh, rfl, hbk, hgs, hx6⟩
    have hdi := dice_of hbk
    have hwz := hw5.size
    have CD := Lib.hid (fun (h0 : 0 < n) (ad : Addr) (e : a = some ad) => (show ad.block ≠ g from by have := hs.low' h0 ad e; omega))
    have hgl : g < w6.heap.size := hbk.lt
    clear hbk
    go_wp2_with fail
    refine (below_c g a n c f 11 w6 (by omega) (by omega) (hs.ext (Ext.trans hw5 hx6)) hl hdi CD.out).mono ?_
    rintro e w7 ⟨x7, rfl, y7, z7, hd7, hg7⟩
    have hx57 : Ext w5 w7 := grown_up hg7 hx6 (by omega)
    obtain ⟨sl, hsl⟩ : ∃ s, x7 - 5 = s := ⟨_, rfl⟩
    have t0 : -5 ≤ sl := by omega
    have t1 : sl ≤ 5 := by omega
    clear hdi
    go_wp2_with fail
    refine (below_c g a n c f 2000 w7 (by omega) (by omega) (hs.ext (Ext.trans hw5 hx57)) hl hd7 CD.out).mono ?_
    rintro e w8 ⟨x8, rfl, y8, z8, hd8, hg8⟩
    have hx58 : Ext w5 w8 := grown_up hg8 hx57 (by omega)
    obtain ⟨st, hst⟩ : ∃ s, x8 - 1000 = s := ⟨_, rfl⟩
    have s0 : -1000 ≤ st := by omega
    have s1 : st < 1000 := by omega
    have hg68 : g < w8.heap.size := by have := hg7.size; have := hg8.size; omega
    have DI8 := Lib.hid hd8
    clear hd7 hd8 y7 z7 y8 z8
    go_wp2_with fail
    have hown8 : (w8.alloc (.cells #[] 33)).ownsRow w8.heap.size 33 2 (.slice (some ⟨w8.heap.size, 0, none⟩) 0 0) 0 [] := World.ownsRow_made _ #[] 0 (Nat.le_refl _) (Nat.zero_le _) rfl
    have hxa : Ext w8 (w8.alloc (.cells #[] 33)) := (by repeat (first | with_reducible exact Ext.refl _ | with_reducible assumption | with_reducible refine Ext.alloc ?_ _ | with_reducible refine Ext.drew ?_ | (with_reducible refine Ext.setAt ?_ _ _ _ ?_; rotate_left; omega) | with_reducible refine Ext.trans ?_ (by assumption) | with_reducible exact Past.bel _ | with_reducible refine Ext.trans ?_ (Past.bel _)))
    refine (below_c g a n c f 8 (w8.alloc (.cells #[] 33)) (by omega) (by omega) (hs.ext (Ext.trans hw5 (Ext.trans hx58 hxa))) hl (DI8.out.ext hxa) CD.out).mono ?_
    rintro e w9 ⟨x9, rfl, y9, z9, hd9, hg9⟩
    have hx59 : Ext w5 w9 := grown_up hg9 (Ext.trans hx58 hxa) (by omega)
    have hz9 : w8.heap.size < w9.heap.size := by have := hg9.size; simp at this; omega
    have hown9 := hown8.kept hg9 (.inr (by show some w8.heap.size ≠ some g; intro e; injection e with e; omega))
    obtain ⟨k, hk⟩ : ∃ k : Nat, 2 + x9 = (k : Int) := ⟨(2 + x9).toNat, by omega⟩
    have k2 : 2 ≤ k := by omega
    have k9 : k ≤ 9 := by omega
    have HO9 := Lib.hid hown9
    have DI9 := Lib.hid hd9
    clear hown8 hown9 hd9 y9 z9 DI8 hx6 hg7 hg8 hx57
    go_wp2_with fail
    go_loopw [16, 17, 18] (fun v16 v17 v18 wr => ∃ (j : Nat) (H : Nat → Int), j ≤ k ∧ LN H j ∧ v17 = .int .i64 (H j) ∧ v18 = .int .i64 ((k : Int) - j) ∧ wr.ownsRow w8.heap.size 33 2 v16 j (PR (outs2 H (fun i => st + sl * H i) j)) ∧ Dice wr g a n c ∧ Ext w5 wr ∧ w8.heap.size < wr.heap.size) (fun _ _ v18 _ => (intOf v18).toNat)
    case atStart => exact ⟨0, fun _ => 0, by omega, ⟨rfl, fun j hj => by omega⟩, rfl, by simp, HO9.out, DI9.out, hx59, hz9⟩
    case round =>
      obtain ⟨j, H, hj, hln, rfl, rfl, ho, hdr, hxr, hzr⟩ := hrel
      have HO := Lib.hid ho
      have DR := Lib.hid hdr
      have x0 : (0 : Int) ≤ (j : Int) := by omega
      have hbj := hln.bd j (Nat.le_refl _)
      have p1 : sl * H j ≤ 5 * H j := Int.mul_le_mul_of_nonneg_right t1 hbj.1
      have p0 : -5 * H j ≤ sl * H j := Int.mul_le_mul_of_nonneg_right t0 hbj.1
      have u0 : 0 ≤ H j := hbj.1
      have u1 : H j ≤ 540 := by omega
      have LNH := Lib.hid hln
      have m1 : IntKind.i64.wrap (sl * H j) = sl * H j := IntWalk.i64_in _ (by omega)
      have m2 : wrap64 (sl * H j) = sl * H j := IntWalk.wrap64_in _ (by omega)
      have m3 : IntKind.i64.wrap (st + sl * H j) = st + sl * H j := IntWalk.i64_in _ (by omega)
      have m4 : wrap64 (st + sl * H j) = st + sl * H j := IntWalk.wrap64_in _ (by omega)
      clear ho hdr hln hbj
      by_cases hlt : j < k
      · have x1 : (0 : Int) < (k : Int) - (j : Int) := by omega
        go_wp2_with (at_builtin; refine app2g 24 33 _ _ _ rfl rfl Try.underlying24 info_rd rfl w8.heap.size _ (outs2 H (fun i => st + sl * H i) j) _ _ _ rfl rfl (own_ext (own_outs2l HO.out) (by repeat (first | with_reducible exact Ext.refl _ | with_reducible assumption | with_reducible refine Ext.alloc ?_ _ | with_reducible refine Ext.drew ?_ | (with_reducible refine Ext.setAt ?_ _ _ _ ?_; rotate_left; omega) | with_reducible refine Ext.trans ?_ (by assumption) | with_reducible exact Past.bel _ | with_reducible refine Ext.trans ?_ (Past.bel _)))) (Blk.new _ _ _) (by rw [outs2_len]; omega) (by simp; omega) ?_; intro v6 w6' s6 s7)
        have hz58 := hx58.size
        have hL : ∀ q, _ → w8.heap.size ≤ q := fun q hq => (HO.out.lt q hq).1
        have hxr6 : Ext w5 w6' := (Ext.trans hxr (by repeat (first | with_reducible exact Ext.refl _ | with_reducible assumption | with_reducible refine Ext.alloc ?_ _ | with_reducible refine Ext.drew ?_ | (with_reducible refine Ext.setAt ?_ _ _ _ ?_; rotate_left; omega) | with_reducible refine Ext.trans ?_ (by assumption) | with_reducible exact Past.bel _ | with_reducible refine Ext.trans ?_ (Past.bel _)))).grown s7 (fun q hq => by have := hL q hq; omega)
        have d6 : Dice w6' g a n c := (DR.out.ext (by repeat (first | with_reducible exact Ext.refl _ | with_reducible assumption | with_reducible refine Ext.alloc ?_ _ | with_reducible refine Ext.drew ?_ | (with_reducible refine Ext.setAt ?_ _ _ _ ?_; rotate_left; omega) | with_reducible refine Ext.trans ?_ (by assumption) | with_reducible exact Past.bel _ | with_reducible refine Ext.trans ?_ (Past.bel _)))).kept s7 (fun q hq => by have := hL q hq; omega)
        have hz6 : w8.heap.size < w6'.heap.size := by have := s7.size; simp at this; omega
        rw [outs2_len] at s6
        have S6 := Lib.hid s6
        clear s6 s7 DR hxr
        refine (below_c g a n c f 60 w6' (by omega) (by omega) (hs.ext (Ext.trans hw5 hxr6)) hl d6 CD.out).mono ?_
        rintro e w10 ⟨d, rfl, d0, d1, hd10, hg10⟩
        have s10 := S6.out.kept hg10 (.inr (fun e => by have := (S6.out.lt g e).1; omega))
        have hx10 := grown_up hg10 hxr6 (by omega)
        have hz10 : w8.heap.size < w10.heap.size := by have := hg10.size; omega
        have HD := Lib.hid hd10
        have HN := Lib.hid s10
        have n1 : IntKind.i64.wrap (H j + 1 + d) = H j + 1 + d := IntWalk.i64_in _ (by omega)
        have n2 : wrap64 (H j + 1 + d) = H j + 1 + d := IntWalk.wrap64_in _ (by omega)
        clear d6 S6 HO s10 hd10 hg10
        go_wp2_with fail
        refine ⟨⟨j + 1, fun i => if i ≤ j then H i else H j + 1 + d, by omega, LNH.out.next d0 d1, congrArg (Value.int .i64) (show H j + 1 + d = (if j + 1 ≤ j then H (j + 1) else H j + 1 + d) from (if_neg (by omega)).symm), by go_num, ?_, HD.out, hx10, hz10⟩, by simp [intOf]; omega⟩
        have e9 : outs2 (fun i => if i ≤ j then H i else H j + 1 + d) (fun i => st + sl * (if i ≤ j then H i else H j + 1 + d)) (j + 1) = outs2 H (fun i => st + sl * H i) j ++ [(H j, st + sl * H j)] := by
          rw [outs2, outs2_congr (H' := H) (O' := fun i => st + sl * H i) (fun i hi => if_pos (by omega)) (fun i hi => by simp [show i ≤ j by omega])]
          simp
        rw [e9]; exact HN.out
      · obtain rfl : j = k := by omega
        have hll := ll_of LNH.out k2 k9 s0 s1 t0 t1 (fun _ => rfl)
        obtain ⟨b9, c9, rfl⟩ := own_form HO.out
        have s2' := own_outs2 HO.out
        have hG : ∃ g0 g1 g2 g3 g4 : Int, (∀ W, Ext wr W → Calls Try.prog 17 #[.slice b9 j c9] W (fun e w' => e = .returned (.tuple #[.agg #[.int .i64 g0, .int .i64 g1, .int .i64 g2, .int .i64 g3, .int .i64 g4], .int .i64 0]) ∧ Ext W w')) ∧
            (∀ W, Calls Try.prog 25 #[.agg #[.int .i64 g0, .int .i64 g1, .int .i64 g2, .int .i64 g3, .int .i64 g4]] W (fun e w' => e = .returned (.tuple #[.int .i64 (24000 * sl), .int .i64 0]) ∧ Ext W w')) ∧
            (∀ W, Calls Try.prog 24 #[.agg #[.int .i64 g0, .int .i64 g1, .int .i64 g2, .int .i64 g3, .int .i64 g4], .int .i64 (H j)] W (fun e w' => e = .returned (.tuple #[.int .i64 (st + sl * H j), .int .i64 0]) ∧ Ext W w')) := by
          refine ⟨_, _, _, _, _, fun W hq => implFitOf_v b9 j c9 H (fun i => st + sl * H i) W (by omega) (s2'.ext hq) hll.v, fun W => ?_, fun W => ?_⟩
          · have := dailyRate_c j (sm H j) (sm (fun i => st + sl * H i) j) (sXX H j) (sXY H (fun i => st + sl * H i) j) W
            rw [hll.r, hll.c] at this; exact this
          · have hoc := hll.oc (H j) u0 (by omega)
            have := implOffAt_c j (sm H j) (sm (fun i => st + sl * H i) j) (sXX H j) (sXY H (fun i => st + sl * H i) j) (H j) W
            rw [offRes, if_pos hoc, hll.ov, hoc] at this; exact this
        obtain ⟨g0, g1, g2, g3, g4, hGF, hGD, hGO⟩ := hG
        have GD := Lib.hid hGD
        have GO := Lib.hid hGO
        have GF := Lib.hid (hGF wr (Ext.refl _))
        have GR := Lib.hid (fun (W : World) (hq : Ext wr W) => resid0_c b9 j c9 H (fun i => st + sl * H i) st sl W (by omega) (s2'.ext hq) hll (fun _ => rfl))
        have x1 : ¬ (0 : Int) < (j : Int) - (j : Int) := by omega
        have hwr := Ext.trans hw5 hxr
        obtain ⟨Hj, hHj⟩ : ∃ h, h = H j := ⟨_, rfl⟩
        obtain ⟨Pj, hPj⟩ : ∃ h, h = sl * H j := ⟨_, rfl⟩
        rw [← hPj] at GO
        rw [← hHj] at u0 u1 GO ⊢
        have m1 : IntKind.i64.wrap (sl * Hj) = Pj := by rw [hHj, hPj]; exact m1
        have m2 : wrap64 (sl * Hj) = Pj := by rw [hHj, hPj]; exact m2
        have p2 : Pj ≤ 2700 := by rw [hPj]; omega
        have p3 : -2700 ≤ Pj := by rw [hPj]; omega
        clear hGF hGD hGO hll s2' HO DR LNH p0 p1 m3 m4 hHj hPj
        go_wp2_with fail
        refine GF.out.mono ?_
        rintro e wA ⟨rfl, hxA⟩
        have HB := Lib.hid (fun (w' : World) (hq : Ext (wA.alloc (.cells #[.int .i64 g0, .int .i64 g1, .int .i64 g2, .int .i64 g3, .int .i64 g4] 38)) w') => (show (w'.cell? ⟨wA.heap.size, 0, none⟩ = some (.int .i64 g0) ∧ w'.cell? ⟨wA.heap.size, 1, none⟩ = some (.int .i64 g1) ∧ w'.cell? ⟨wA.heap.size, 2, none⟩ = some (.int .i64 g2) ∧ w'.cell? ⟨wA.heap.size, 3, none⟩ = some (.int .i64 g3) ∧ w'.cell? ⟨wA.heap.size, 4, none⟩ = some (.int .i64 g4)) from fit_blk5 ((Blk.new wA _ _).ext hq)))
        have hxB : Ext wr (wA.alloc (.cells #[.int .i64 g0, .int .i64 g1, .int .i64 g2, .int .i64 g3, .int .i64 g4] 38)) := Ext.trans hxA (by repeat (first | with_reducible exact Ext.refl _ | with_reducible assumption | with_reducible refine Ext.alloc ?_ _ | with_reducible refine Ext.drew ?_ | (with_reducible refine Ext.setAt ?_ _ _ _ ?_; rotate_left; omega) | with_reducible refine Ext.trans ?_ (by assumption) | with_reducible exact Past.bel _ | with_reducible refine Ext.trans ?_ (Past.bel _)))
        have hzB : wA.heap.size < (wA.alloc (.cells #[.int .i64 g0, .int .i64 g1, .int .i64 g2, .int .i64 g3, .int .i64 g4] 38)).heap.size := by simp
        generalize hWB : wA.alloc (.cells #[.int .i64 g0, .int .i64 g1, .int .i64 g2, .int .i64 g3, .int .i64 g4] 38) = WB at HB hxB hzB
        obtain ⟨q0, q1, q2, q3, q4⟩ := HB.out WB (Ext.refl _)
        clear GF HB hxA
        go_wp2_with (first | (go_at_call 25; ((with_reducible refine (GD.out _).mono ?_); rintro e w' ⟨rfl, hx⟩; (first | (obtain ⟨wx, rfl⟩ := Past.again hx) | (obtain ⟨wx, rfl⟩ := Past.ofd hx) | (obtain ⟨wx, rfl⟩ := Past.of hx)))) | (go_at_call 24; ((with_reducible refine (GO.out _).mono ?_); rintro e w' ⟨rfl, hx⟩; (first | (obtain ⟨wx, rfl⟩ := Past.again hx) | (obtain ⟨wx, rfl⟩ := Past.ofd hx) | (obtain ⟨wx, rfl⟩ := Past.of hx)))))
        have hxC : Ext wr wx.out := Ext.trans hxB (by repeat (first | with_reducible exact Ext.refl _ | with_reducible assumption | with_reducible refine Ext.alloc ?_ _ | with_reducible refine Ext.drew ?_ | (with_reducible refine Ext.setAt ?_ _ _ _ ?_; rotate_left; omega) | with_reducible refine Ext.trans ?_ (by assumption) | with_reducible exact Past.bel _ | with_reducible refine Ext.trans ?_ (Past.bel _)))
        clear q0 q1 q2 q3 q4
        generalize wx.out = wC at hxC ⊢
        refine (GR.out wC hxC).mono ?_
        rintro e wD ⟨b10, c10, rfl, hxD, hs10⟩
        have hwD := Ext.trans hwr (Ext.trans hxC hxD)
        have SD := Lib.hid hs10
        clear hs10 GR GO GD
        go_wp2_with fail
        go_loopw [27] (fun v27 wz => ∃ i : Nat, i ≤ j ∧ v27 = .int .i64 i ∧ Ext wD wz) (fun v27 _ => j - (intOf v27).toNat)
        case atStart => exact ⟨0, by omega, rfl, Ext.refl _⟩
        case round =>
          obtain ⟨i, hi, rfl, hxz⟩ := hrel
          have y0 : (0 : Int) ≤ (i : Int) := by omega
          by_cases hlt2 : i < j
          · have y1 : (i : Int) < (j : Int) := by omega
            obtain ⟨b11, o11, rfl, hb11, r1⟩ := (SD.out.ext hxz).at hlt2
            go_wp2_with fail
            exact ⟨⟨i + 1, by omega, by go_num, hxz⟩, by simp [intOf]; omega⟩
          · obtain rfl : i = j := by omega
            have y1 : ¬ (i : Int) < (i : Int) := by omega
            have d1 : (24000 * sl == 24000 * sl) = true := by simp
            have d2 : (st + Pj == st + Pj) = true := by simp
            have d3 : ((i : Int) == (i : Int)) = true := by simp
            have hwz := Ext.trans hwD hxz
            go_wp2_with fail
            go_ret
            exact ⟨rfl, hwz⟩
  · have e1 : decide (4096 < n) = true := decide_eq_true (by omega)
    go_enter Try.func6, Try.ntmps6
    go_wp2_with (go_at_call 9; ((with_reducible refine (f6big_c _ _ _ _).mono ?_); rintro e w' ⟨rfl, rfl⟩))
    go_ret
    exact ⟨rfl, (by repeat (first | with_reducible exact Ext.refl _ | with_reducible assumption | with_reducible refine Ext.alloc ?_ _ | with_reducible refine Ext.drew ?_ | (with_reducible refine Ext.setAt ?_ _ _ _ ?_; rotate_left; omega) | with_reducible refine Ext.trans ?_ (by assumption) | with_reducible exact Past.bel _ | with_reducible refine Ext.trans ?_ (Past.bel _)))⟩
end Go.Proofs.Ytmbpjlgeneemjaa

namespace Go.Proofs.Ytmbpjlgeneemjaa
open Go.ChangeShapes Go.WideShapes Go.RowKit Go.Deep
set_option linter.unusedVariables false
section
variable {H : Type} {enc : TypeId × Value → H} {P : Program} {w : World} {base : Nat} {spare : Nat → Bool} {held : Bool}
/-- a slice of structs of one cell a field, at whatever depth -/
theorem down_rows {t e : TypeId} {fs : Array Field} {fuel : Nat} {v : Value} {x : DataW H × List MemPlace} (ht : P.underlying t = some (.slice e)) (hs : P.underlying e = some (.struct fs)) (hone : oneCellFields P fs = true) (hC : P.cellsOf e = fs.size) (hpos : 0 < fs.size)
    (hf : DataW.trod enc P w base spare held fuel t [v] = some x) :
    ∃ (a : Option Addr) (n cap : Nat) (z : Nat → Nat → Value), v = .slice a n cap ∧ n ≤ cap ∧ cap ≤ maxLen ∧
      (0 < n → ∃ b off, a = some ⟨b, off, none⟩ ∧ b < w.heap.size ∧ ∀ i, i < n → ∀ j (hj : j < fs.size), w.cell? ⟨b, off + i * fs.size + j, none⟩ = some (z i j) ∧ ∃ m y, DataW.trod enc P w base spare held m fs[j].type [z i j] = some y) := by
  rcases open_slice ht hf with ⟨hcs, _⟩ | ⟨a', len', cap', m, n', D, Pl, hcs, hb, hl, hm, hmm, hx, hcell⟩
  · simp at hcs
    subst hcs
    exact ⟨none, 0, 0, fun _ _ => .bool false, rfl, Nat.le_refl _, Nat.zero_le _, fun h => absurd h (Nat.lt_irrefl 0)⟩
  · simp at hcs
    subst hcs
    have hlm : len' ≤ m := by rw [hmm]; split <;> omega
    have hel : ∀ i, i < len' → ∃ z : Nat → Value, ∀ j (hj : j < fs.size), w.cell? (a'.add (i * fs.size + j)) = some (z j) ∧ ∃ m y, DataW.trod enc P w base spare held m fs[j].type [z j] = some y := fun i hi' => by
      obtain ⟨cs', hc, ht'⟩ := hcell i (by omega)
      rw [hC] at hc
      obtain ⟨_, hcl, hat⟩ := World.cells?_some hc
      obtain ⟨k, hl', hfl⟩ := down_struct hs hone hC ht'
      refine ⟨fun j => cs'.getD j (.bool false), fun j hj => ?_⟩
      obtain ⟨v', y, hv', hy⟩ := hfl j fs[j] (Array.getElem?_eq_getElem hj)
      have e1 : cs'.getD j (.bool false) = v' := by simp [List.getD, hv']
      refine ⟨?_, k, y, by show DataW.trod enc P w base spare held k fs[j].type [cs'.getD j (.bool false)] = some y; rw [e1]; exact hy⟩
      show w.cell? (a'.add (i * fs.size + j)) = some (cs'.getD j (.bool false))
      rw [← Go.Deep.add_add, hat j hj, e1]; exact hv'
    obtain ⟨z, hz⟩ := choose_lt hel
    refine ⟨some a', len', cap', z, rfl, hl, hm, fun hn => ?_⟩
    obtain ⟨b, off, spot⟩ := a'
    have h0 := (hz 0 hn 0 hpos).1
    have hspot : spot = none := by simpa [Addr.add] using World.cell?_spot h0
    subst hspot
    refine ⟨b, off, rfl, World.block_lt_of_cell? w ⟨b, off, none⟩ (by simpa [Addr.add] using h0), fun i hi' j hj => ?_⟩
    have h1 := hz i hi' j hj
    rw [Addr.add_lit] at h1
    rw [Nat.add_assoc]; exact h1
/-- a slice of int64s -/
theorem down_i64s {t e : TypeId} {fuel : Nat} {v : Value} {x : DataW H × List MemPlace} (ht : P.underlying t = some (.slice e)) (he : P.underlying e = some (.int .i64)) (hC : P.cellsOf e = 1)
    (hf : DataW.trod enc P w base spare held fuel t [v] = some x) :
    ∃ (a : Option Addr) (n cap : Nat) (z : Nat → Int), v = .slice a n cap ∧ n ≤ cap ∧ cap ≤ maxLen ∧ S1 w a n z ∧ ∀ j, j < n → (Lit.int .i64 (z j)).wf = true := by
  rcases open_slice ht hf with ⟨hcs, _⟩ | ⟨a', len', cap', m, n', D, Pl, hcs, hb, hl, hm, hmm, hx, hcell⟩
  · simp at hcs
    subst hcs
    exact ⟨none, 0, 0, fun _ => 0, rfl, Nat.le_refl _, Nat.zero_le _, (fun h => absurd h (Nat.lt_irrefl 0)), fun j hj => absurd hj (Nat.not_lt_zero j)⟩
  · simp at hcs
    subst hcs
    have hlm : len' ≤ m := by rw [hmm]; split <;> omega
    have hel : ∀ i, i < len' → ∃ z : Int, w.cell? (a'.add i) = some (.int .i64 z) ∧ (Lit.int .i64 z).wf = true := fun i hi' => by
      obtain ⟨cs', hc, ht'⟩ := hcell i (by omega)
      rw [hC] at hc
      obtain ⟨_, hcl, hat⟩ := World.cells?_some hc
      obtain ⟨z, hz, _, hw⟩ := DataW.trod_int he ht'
      subst hz
      have := hat 0 (by omega)
      refine ⟨z, ?_, hw⟩
      have e1 : a'.add i = (a'.add (i * 1)).add 0 := by rw [Go.Deep.add_add]; simp
      rw [e1, this]; rfl
    obtain ⟨z, hz⟩ := choose_lt hel
    refine ⟨some a', len', cap', z, rfl, hl, hm, fun hn => ?_, fun j hj => (hz j hj).2⟩
    obtain ⟨b, off, spot⟩ := a'
    have h0 := (hz 0 hn).1
    have hspot : spot = none := by simpa [Addr.add] using World.cell?_spot h0
    subst hspot
    refine ⟨b, off, rfl, World.block_lt_of_cell? w ⟨b, off, none⟩ (by simpa [Addr.add] using h0), fun i hi' => ?_⟩
    have h1 := (hz i hi').1
    rw [Addr.add_lit] at h1
    exact h1
theorem arg_i64s {r : Reach} {b0 : Nat} {t e : TypeId} {v : Value} {d : DataW H} {p : List MemPlace} (ht : P.underlying t = some (.slice e)) (he : P.underlying e = some (.int .i64)) (hC : P.cellsOf e = 1)
    (hv : Value.okWide P w r b0 t v) (h : DataW.Trod enc P w base spare held t v d p) :
    ∃ (a : Option Addr) (n cap : Nat) (z : Nat → Int), v = .slice a n cap ∧ n ≤ cap ∧ cap ≤ maxLen ∧ S1 w a n z ∧ ∀ j, j < n → (Lit.int .i64 (z j)).wf = true := by
  obtain ⟨a, n, cap, rfl⟩ := okWide_slice ht hv
  obtain ⟨fuel, hf⟩ := h
  exact down_i64s ht he hC (fuel := fuel) (by simpa [Value.cells] using hf)
end
/-- A slice of structs of 'k' cells: cell j of element i is 'z i j'. -/
def SK (w : World) (a : Option Addr) (n k : Nat) (z : Nat → Nat → Value) : Prop :=
  0 < n → ∃ b off, a = some ⟨b, off, none⟩ ∧ b < w.heap.size ∧ ∀ i, i < n → ∀ j, j < k → w.cell? ⟨b, off + i * k + j, none⟩ = some (z i j)
/-- Months: a name and two numbers each. -/
def S3 (w : World) (a : Option Addr) (n : Nat) (nm : Nat → ByteArray) (dy lp : Nat → Int) : Prop :=
  0 < n → ∃ b off, a = some ⟨b, off, none⟩ ∧ b < w.heap.size ∧ ∀ i, i < n → w.cell? ⟨b, off + i * 3, none⟩ = some (.string (nm i)) ∧ w.cell? ⟨b, off + i * 3 + 1, none⟩ = some (.int .i64 (dy i)) ∧ w.cell? ⟨b, off + i * 3 + 2, none⟩ = some (.int .i64 (lp i))
/-- Rules: two numbers and a truth value each. -/
def R3 (w : World) (a : Option Addr) (n : Nat) (ev rs : Nat → Int) (lf : Nat → Bool) : Prop :=
  0 < n → ∃ b off, a = some ⟨b, off, none⟩ ∧ b < w.heap.size ∧ ∀ i, i < n → w.cell? ⟨b, off + i * 3, none⟩ = some (.int .i64 (ev i)) ∧ w.cell? ⟨b, off + i * 3 + 1, none⟩ = some (.int .i64 (rs i)) ∧ w.cell? ⟨b, off + i * 3 + 2, none⟩ = some (.bool (lf i))
theorem S3.ext {w w' : World} {a : Option Addr} {n : Nat} {nm : Nat → ByteArray} {dy lp : Nat → Int} (s : S3 w a n nm dy lp) (e : Ext w w') : S3 w' a n nm dy lp := fun hn => by
  obtain ⟨b, off, ha, hb, hc⟩ := s hn
  exact ⟨b, off, ha, Nat.lt_of_lt_of_le hb e.size, fun j hj => by rw [e.cell hb, e.cell hb, e.cell hb]; exact hc j hj⟩
theorem S3.at {w : World} {a : Option Addr} {n : Nat} {nm : Nat → ByteArray} {dy lp : Nat → Int} (s : S3 w a n nm dy lp) {j : Nat} (hj : j < n) :
    ∃ b off, a = some ⟨b, off, none⟩ ∧ b < w.heap.size ∧ w.cell? ⟨b, off + j * 3, none⟩ = some (.string (nm j)) ∧ w.cell? ⟨b, off + j * 3 + 1, none⟩ = some (.int .i64 (dy j)) ∧ w.cell? ⟨b, off + j * 3 + 2, none⟩ = some (.int .i64 (lp j)) := by
  obtain ⟨b, off, ha, hb, hc⟩ := s (by omega)
  exact ⟨b, off, ha, hb, hc j hj⟩
theorem R3.ext {w w' : World} {a : Option Addr} {n : Nat} {ev rs : Nat → Int} {lf : Nat → Bool} (s : R3 w a n ev rs lf) (e : Ext w w') : R3 w' a n ev rs lf := fun hn => by
  obtain ⟨b, off, ha, hb, hc⟩ := s hn
  exact ⟨b, off, ha, Nat.lt_of_lt_of_le hb e.size, fun j hj => by rw [e.cell hb, e.cell hb, e.cell hb]; exact hc j hj⟩
theorem R3.at {w : World} {a : Option Addr} {n : Nat} {ev rs : Nat → Int} {lf : Nat → Bool} (s : R3 w a n ev rs lf) {j : Nat} (hj : j < n) :
    ∃ b off, a = some ⟨b, off, none⟩ ∧ b < w.heap.size ∧ w.cell? ⟨b, off + j * 3, none⟩ = some (.int .i64 (ev j)) ∧ w.cell? ⟨b, off + j * 3 + 1, none⟩ = some (.int .i64 (rs j)) ∧ w.cell? ⟨b, off + j * 3 + 2, none⟩ = some (.bool (lf j)) := by
  obtain ⟨b, off, ha, hb, hc⟩ := s (by omega)
  exact ⟨b, off, ha, hb, hc j hj⟩
end Go.Proofs.Ytmbpjlgeneemjaa

namespace Go.Proofs.Ytmbpjlgeneemjaa
open Go.ChangeShapes Go.WideShapes Go.RowKit Go.Deep
set_option linter.unusedVariables false
section
variable {H : Type} {enc : TypeId × Value → H} {P : Program} {w : World} {base : Nat} {spare : Nat → Bool} {held : Bool}
theorem down_u8s {t e : TypeId} {fuel : Nat} {v : Value} {x : DataW H × List MemPlace} (ht : P.underlying t = some (.slice e)) (he : P.underlying e = some (.int .u8)) (hC : P.cellsOf e = 1)
    (hf : DataW.trod enc P w base spare held fuel t [v] = some x) :
    ∃ (a : Option Addr) (n cap : Nat) (f : Nat → Nat), v = .slice a n cap ∧ n ≤ cap ∧ cap ≤ maxLen ∧ U8 w a n f ∧ ∀ j, j < n → f j ≤ 255 := by
  rcases open_slice ht hf with ⟨hcs, _⟩ | ⟨a', len', cap', m, n', D, Pl, hcs, hb, hl, hm, hmm, hx, hcell⟩
  · simp at hcs
    subst hcs
    exact ⟨none, 0, 0, fun _ => 0, rfl, Nat.le_refl _, Nat.zero_le _, (fun h => absurd h (Nat.lt_irrefl 0)), fun j hj => absurd hj (Nat.not_lt_zero j)⟩
  · simp at hcs
    subst hcs
    have hlm : len' ≤ m := by rw [hmm]; split <;> omega
    have hel : ∀ i, i < len' → ∃ z : Nat, w.cell? (a'.add i) = some (.int .u8 (z : Int)) ∧ z ≤ 255 := fun i hi' => by
      obtain ⟨cs', hc, ht'⟩ := hcell i (by omega)
      rw [hC] at hc
      obtain ⟨_, hcl, hat⟩ := World.cells?_some hc
      obtain ⟨z, hz, _, hw⟩ := DataW.trod_int he ht'
      subst hz
      have hw' : 0 ≤ z ∧ z ≤ 255 := by simpa [Lit.wf, IntKind.min, IntKind.max, IntKind.signed, IntKind.bits] using hw
      have := hat 0 (by omega)
      obtain ⟨k, rfl⟩ := Int.eq_ofNat_of_zero_le hw'.1
      refine ⟨k, ?_, by omega⟩
      have e1 : a'.add i = (a'.add (i * 1)).add 0 := by rw [Go.Deep.add_add]; simp
      rw [e1, this]; rfl
    obtain ⟨z, hz⟩ := choose_lt hel
    refine ⟨some a', len', cap', z, rfl, hl, hm, fun hn => ?_, fun j hj => (hz j hj).2⟩
    obtain ⟨b, off, spot⟩ := a'
    have h0 := (hz 0 hn).1
    have hspot : spot = none := by simpa [Addr.add] using World.cell?_spot h0
    subst hspot
    refine ⟨b, off, rfl, World.block_lt_of_cell? w ⟨b, off, none⟩ (by simpa [Addr.add] using h0), fun i hi' => ?_⟩
    have h1 := (hz i hi').1
    rw [Addr.add_lit] at h1
    exact h1
theorem arg_u8s {r : Reach} {b0 : Nat} {t e : TypeId} {v : Value} {d : DataW H} {p : List MemPlace} (ht : P.underlying t = some (.slice e)) (he : P.underlying e = some (.int .u8)) (hC : P.cellsOf e = 1)
    (hv : Value.okWide P w r b0 t v) (h : DataW.Trod enc P w base spare held t v d p) :
    ∃ (a : Option Addr) (n cap : Nat) (f : Nat → Nat), v = .slice a n cap ∧ n ≤ cap ∧ cap ≤ maxLen ∧ U8 w a n f ∧ ∀ j, j < n → f j ≤ 255 := by
  obtain ⟨a, n, cap, rfl⟩ := okWide_slice ht hv
  obtain ⟨fuel, hf⟩ := h
  exact down_u8s ht he hC (fuel := fuel) (by simpa [Value.cells] using hf)
end
end Go.Proofs.Ytmbpjlgeneemjaa
