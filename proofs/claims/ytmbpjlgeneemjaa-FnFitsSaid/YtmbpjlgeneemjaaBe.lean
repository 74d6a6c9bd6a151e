/- The law on residuals: its walk. The law on sums: its walk. What arguments of plain data hold: slices of mixed structs, slices of numbers. No program in sight. What an argument of bytes holds. -/
import Derived.Test.YtmbpjlgeneemjaaBd
import Derived.Deep.DeepCutAuto
import Derived.Test.YtmbpjlgeneemjaaBa
import Derived.Test.YtmbpjlgeneemjaaBb

namespace Go.Proofs.Ytmbpjlgeneemjaa
open Go.RowKit
set_option linter.unusedVariables false
set_option linter.unusedSimpArgs false

/-- rates, one by one -/
theorem rate_law {m : Nat} {h o : Nat → Int} {j : Nat} (hj : j < (rateRes m h o).length) : rdV m h o = true ∧ j + 1 < m ∧ ∃ q s : Int, (rateRes m h o).getD j 0 = q ∧ s = h (j + 1) - h j ∧ 1 ≤ s ∧ s ≤ 10000 ∧ -100000 ≤ o j ∧ o j ≤ 100000 ∧ -100000 ≤ o (j + 1) ∧ o (j + 1) ≤ 100000 ∧ 0 ≤ h j ∧ h j ≤ 10000 ∧ 0 ≤ h (j + 1) ∧ h (j + 1) ≤ 10000 ∧
    2 * absI (q * s - 24000 * (o (j + 1) - o j)) ≤ s ∧ -5000000000 ≤ q * s ∧ q * s ≤ 5000000000 := by
  have hv : rdV m h o = true := by
    cases hv : rdV m h o
    · rw [rateRes, hv] at hj; simp at hj
    · rfl
  rw [rateRes, if_pos hv, outs_len] at hj
  have r := rb_of hv
  have u := r.up j (by omega)
  have b1 := r.bh j (by omega)
  have b2 := r.bh (j + 1) (by omega)
  have b3 := r.bo j (by omega)
  have b4 := r.bo (j + 1) (by omega)
  have nb := nearD_bd (n := 24000 * (o (j + 1) - o j)) (d := h (j + 1) - h j) (by omega)
  refine ⟨hv, by omega, _, _, rfl, rfl, by omega, by omega, b3.1, b3.2, b4.1, b4.2, b1.1, b1.2, b2.1, b2.2, ?_, ?_, ?_⟩
  all_goals rw [rateRes, if_pos hv, outs_getD _ _ _ hj, rateFn]
  · exact absI_near2 nb.1 nb.2
  · have := nb.2; omega
  · have := nb.1; omega
theorem nearD_abs {n d N : Int} (hd : 0 < d) (h0 : -N ≤ n) (h1 : n ≤ N) (hN : 0 ≤ N) : -(N + 1) ≤ nearD n d ∧ nearD n d ≤ N + 1 := by
  have h2 := nearD_bd (n := n) hd
  obtain ⟨q, hq⟩ : ∃ q, q = nearD n d := ⟨_, rfl⟩
  rw [← hq] at h2 ⊢
  constructor
  · rcases Int.lt_or_le q (-(N + 1)) with h3 | h3
    · have h4 : q * d ≤ (-(N + 2)) * d := Int.mul_le_mul_of_nonneg_right (by omega) (by omega)
      have h5 : (N + 1) * 1 ≤ (N + 1) * d := Int.mul_le_mul_of_nonneg_left (by omega) (by omega)
      have e : (-(N + 2)) * d = -((N + 1) * d) - d := by grind
      omega
    · exact h3
  · rcases Int.lt_or_le (N + 1) q with h3 | h3
    · have h4 : (N + 2) * d ≤ q * d := Int.mul_le_mul_of_nonneg_right (by omega) (by omega)
      have h5 : (N + 1) * 1 ≤ (N + 1) * d := Int.mul_le_mul_of_nonneg_left (by omega) (by omega)
      have e : (N + 2) * d = (N + 1) * d + d := by grind
      omega
    · exact h3
/-- residuals -/
theorem res_law {m : Nat} {h o : Nat → Int} (hc : resCode m h o = 0) : rdV m h o = true ∧ codeF m (sm h m) (sm o m) (sXX h m) (sXY h o m) = 0 ∧ m ≤ 60 ∧ (resRes m h o).length = m ∧ (∀ j, j < m → ∃ l r : Int, lineAt m h o j = l ∧ (resRes m h o).getD j 0 = r ∧ l + r = o j ∧ -100000 ≤ o j ∧ o j ≤ 100000 ∧ 0 ≤ h j ∧ h j ≤ 10000 ∧ -6500000000000000000 ≤ l ∧ l ≤ 6500000000000000000) ∧
    2 * (sm (fun j => (resRes m h o).getD j 0) m) ≤ m ∧ -(m : Int) ≤ 2 * (sm (fun j => (resRes m h o).getD j 0) m) := by
  have hv : rdV m h o = true := by
    cases hv : rdV m h o
    · rw [resCode, hv] at hc; simp at hc
    · rfl
  have r := rb_of hv
  have hf := (resCode_f hv).trans hc
  have hr : resRes m h o = outs (resFn m h o) m := by rw [resRes, if_pos hc]
  have hb : ∀ j, j < m → -6500000000000000000 ≤ lineAt m h o j ∧ lineAt m h o j ≤ 6500000000000000000 := fun j hj => by
    have ob := ob_of hf (r.bh j hj).1 (r.bh j hj).2
    have h1 := ob.yd0; have h2 := ob.yd1; have h3 := ob.no0; have h4 := ob.no1
    have := nearD_abs (n := sm o m * slD m (sm h m) (sm o m) (sXX h m) (sXY h o m) + slN m (sm h m) (sm o m) (sXX h m) (sXY h o m) * (h j * m - sm h m)) (N := 6480000000000000000) ob.cd0 (by omega) (by omega) (by omega)
    unfold lineAt offV
    omega
  have hg : ∀ j, j < m → (resRes m h o).getD j 0 = o j - lineAt m h o j := fun j hj => by
    have h1 := hb j hj
    have h2 := r.bo j hj
    rw [hr, outs_getD _ _ _ hj, resFn, IntWalk.i64_in _ (by omega)]
  have hE : 0 < lnE m h o := (ob_of hf (show (0 : Int) ≤ 0 by omega) (by omega)).cd0
  have hs := res_sum m h o hE
  have he : sm (fun j => (resRes m h o).getD j 0) m = sm (fun j => o j - lineAt m h o j) m := sm_congr hg
  rw [he]
  refine ⟨hv, hf, r.n60, by rw [hr, outs_len], fun j hj => ⟨_, _, rfl, rfl, ?_, (r.bo j hj).1, (r.bo j hj).2, (r.bh j hj).1, (r.bh j hj).2, (hb j hj).1, (hb j hj).2⟩, hs⟩
  rw [hg j hj]; omega
/-- what FitOf returns of a valid list -/
theorem implFitOf_v (a : Option Addr) (n c : Nat) (h o : Nat → Int) (w : World) (hn : n ≤ 1048576) (hs : S2 w a n h o) (hv : rdV n h o = true) :
    Calls Try.prog 17 #[.slice a n c] w fun e w' => e = .returned (.tuple #[.agg #[.int .i64 n, .int .i64 (sm h n), .int .i64 (sm o n), .int .i64 (sXX h n), .int .i64 (sXY h o n)], .int .i64 0]) ∧ Ext w w' := by
  have := implFitOf_c a n c h o w hn hs
  rw [hv] at this
  exact this
set_option maxRecDepth 100000 in
set_option maxHeartbeats 8000000 in
theorem walkResidualsOfReadings (a : Option Addr) (n c : Nat) (f : Nat → Nat) (hm : n ≤ maxLen) (w : World) (hs : U8 w a n f) (hl : ∀ j, j < n → f j ≤ 255) :
    Calls Try.prog 5 #[.slice a n c] w fun e w' => e = .returned (.bool true) ∧ Ext w w' := by
  by_cases hn : n ≤ 4096
  · have e1 : decide (4096 < n) = false := decide_eq_false (by omega)
    go_enter Try.func5, Try.ntmps5
    go_wp2_with (go_at_call 9; ((with_reducible refine (f6big_c _ _ _ _).mono ?_); rintro e w' ⟨rfl, rfl⟩))
    refine (drawResiduals_c a n c f w (by omega) hs hl).mono ?_
    rintro e w2 ⟨b, m, cap, h, o, rfl, h2⟩
    have hm' : m ≤ 1048576 := by have := h2.n61; omega
    have HS := Lib.hid h2.s2
    have hxw := h2.ext
    clear h2
    go_wp2_with fail
    refine (implResidualsOf_c b m cap h o w2 hm' HS.out).mono ?_
    rintro e w3 ⟨b3, c3, rfl, hx3, ho3⟩
    have HO3 := Lib.hid ho3
    clear ho3
    go_wp2_with fail
    refine (specResidualsOf_c b m cap h o w3 hm' (HS.out.ext hx3)).mono ?_
    rintro e w4 ⟨b4, c4, rfl, hx4, ho4⟩
    have HO4 := Lib.hid ho4
    have hx24 := Ext.trans hx3 hx4
    clear ho4
    go_wp2_with fail
    refine (implRatesBetween_c b m cap h o w4 hm' (HS.out.ext hx24)).mono ?_
    rintro e w5 ⟨b5, c5, rfl, hx5, ho5⟩
    have HO5 := Lib.hid ho5
    have hx25 := Ext.trans hx24 hx5
    clear ho5
    go_wp2_with fail
    refine (specRatesBetween_c b m cap h o w5 hm' (HS.out.ext hx25)).mono ?_
    rintro e w6 ⟨b6, c6, rfl, hx6, ho6⟩
    have HO6 := Lib.hid ho6
    have hx26 := Ext.trans hx25 hx6
    clear ho6
    have hl1 : (resRes m h o).length ≤ 1048576 := Nat.le_trans (resRes_len m h o) hm'
    have hl2 : (rateRes m h o).length ≤ 1048576 := Nat.le_trans (rateRes_len m h o) hm'
    obtain ⟨C, hC⟩ : ∃ C, C = resCode m h o := ⟨_, rfl⟩
    obtain ⟨D, hD⟩ : ∃ C, C = rateCode m h o := ⟨_, rfl⟩
    rw [← hC, ← hD]
    have HC := Lib.hid hC
    have d1 : (C != C) = false := by simp
    have d2 : (D != D) = false := by simp
    clear hC hD
    go_wp2_with fail
    refine (f6same_self _ _ _ _ _ _ _ hl1 (own_s1 (own_ext HO3.out (Ext.trans hx4 (Ext.trans hx5 hx6)))) (own_s1 (own_ext HO4.out (Ext.trans hx5 hx6)))).mono ?_
    rintro e w7 ⟨rfl, hx7⟩
    go_wp2_with fail
    refine (f6same_self _ _ _ _ _ _ _ hl2 (own_s1 (own_ext HO5.out (Ext.trans hx6 hx7))) (own_s1 (own_ext HO6.out hx7))).mono ?_
    rintro e w8 ⟨rfl, hx8⟩
    have hx28 := Ext.trans hx26 (Ext.trans hx7 hx8)
    have S3 := Lib.hid (own_s1 (own_ext HO3.out (Ext.trans hx4 (Ext.trans hx5 (Ext.trans hx6 (Ext.trans hx7 hx8))))))
    have S5 := Lib.hid (own_s1 (own_ext HO5.out (Ext.trans hx6 (Ext.trans hx7 hx8))))
    have S2' := Lib.hid (HS.out.ext hx28)
    have hw8 := Ext.trans hxw hx28
    obtain ⟨L, hL⟩ : ∃ L, L = (rateRes m h o).length := ⟨_, rfl⟩
    have HR := Lib.hid (fun (j : Nat) (hj : j < L) => rate_law (m := m) (h := h) (o := o) (hL ▸ hj))
    have HG := Lib.hid (fun (j : Nat) => (rfl : (rateRes m h o).getD j 0 = (rateRes m h o).getD j 0))
    rw [← hL] at hl2 ⊢
    have s5 := S5.out
    rw [← hL] at s5
    have T5 := Lib.hid s5
    clear HO3 HO4 HO5 HO6 hx3 hx4 hx5 hx6 hx7 hx8 hx24 hx25 hx26 s5 S5 hL HS
    go_wp2_with fail
    go_loopw [12] (fun i wr => ∃ j : Nat, j ≤ L ∧ i = .int .i64 j ∧ Ext w8 wr) (fun i _ => L - (intOf i).toNat)
    case atStart => exact ⟨0, by omega, rfl, (by repeat (first | with_reducible exact Ext.refl _ | with_reducible assumption | with_reducible refine Ext.alloc ?_ _ | with_reducible refine Ext.drew ?_ | (with_reducible refine Ext.setAt ?_ _ _ _ ?_; rotate_left; omega) | with_reducible refine Ext.trans ?_ (by assumption) | with_reducible exact Past.bel _ | with_reducible refine Ext.trans ?_ (Past.bel _)))⟩
    case round =>
      obtain ⟨j, hj, rfl, hbl⟩ := hrel
      have x0 : (0 : Int) ≤ (j : Int) := by omega
      by_cases hlt : j < L
      · have x1 : (j : Int) < (L : Int) := by omega
        obtain ⟨-, hj1, q, s, hq, hsd, u0, u1, u2, u3, u4, u5, u6, u7, u8, u9, u10, u11, u12⟩ := HR.out j hlt
        obtain ⟨b1, o1, rfl, hb1, q1, q2⟩ := (S2'.out.ext hbl).at (show j + 1 < m by omega)
        obtain ⟨_, _, hh, _, q3, q4⟩ := (S2'.out.ext hbl).at (show j < m by omega)
        obtain ⟨rfl, rfl⟩ := by simpa using hh
        obtain ⟨b7, o7, rfl, hb7, r1⟩ := (T5.out.ext hbl).at hlt
        rw [hq] at r1
        obtain ⟨H0, hH0⟩ : ∃ H, H = h j := ⟨_, rfl⟩
        obtain ⟨H1, hH1⟩ : ∃ H, H = h (j + 1) := ⟨_, rfl⟩
        obtain ⟨O0, hO0⟩ : ∃ H, H = o j := ⟨_, rfl⟩
        obtain ⟨O1, hO1⟩ : ∃ H, H = o (j + 1) := ⟨_, rfl⟩
        rw [← hH1] at q1 hsd u8 u9
        rw [← hH0] at q3 hsd u6 u7
        rw [← hO1] at q2 u4 u5 u10
        rw [← hO0] at q4 u2 u3 u10
        obtain ⟨A, hA⟩ : ∃ A, A = absI (q * s - 24000 * (O1 - O0)) := ⟨_, rfl⟩
        have HZ := Lib.hid (fun W => (hA ▸ f6size_c (q * s - 24000 * (O1 - O0)) W (by omega) (by omega) : Calls Try.prog 32 #[.int .i64 (q * s - 24000 * (O1 - O0))] W fun e w' => e = .returned (.int .i64 A) ∧ W = w'))
        rw [← hA] at u10
        have a0 : 0 ≤ A := by rw [hA]; unfold absI; split <;> omega
        have v1 : ¬ s < 2 * A := by omega
        have v2 : (j : Int) + 1 < (m : Int) := by omega
        have v3 : (0 : Int) ≤ (j : Int) + 1 := by omega
        have v4 : (j : Int) < (m : Int) := by omega
        have v5 : IntKind.i64.wrap ((j : Int) + 1) = (j : Int) + 1 := IntWalk.i64_in _ (by omega)
        have v6 : H1 - H0 = s := hsd.symm
        clear hh hq hH0 hH1 hO0 hO1 hA hsd
        go_wp2_with fail
        refine wp_region_past (by kernel_rfl) (by kernel_rfl) ?_
        repeat (go_big_quiet_step (fail))
        refine wpQuiet_nil ?_
        rintro _ ⟨wx, rfl⟩
        go_wp2_with fail
        refine wp_region_past (by kernel_rfl) (by kernel_rfl) ?_
        repeat (go_big_quiet_step ((go_at_call 32; exact Calls.past_same (HZ.out _))))
        refine wpQuiet_nil ?_
        rintro _ ⟨wx, rfl⟩
        go_wp2_with fail
        exact ⟨⟨j + 1, by omega, by go_num, (by repeat (first | with_reducible exact Ext.refl _ | with_reducible assumption | with_reducible refine Ext.alloc ?_ _ | with_reducible refine Ext.drew ?_ | (with_reducible refine Ext.setAt ?_ _ _ _ ?_; rotate_left; omega) | with_reducible refine Ext.trans ?_ (by assumption) | with_reducible exact Past.bel _ | with_reducible refine Ext.trans ?_ (Past.bel _)))⟩, by simp [intOf]; omega⟩
      · have x1 : ¬ (j : Int) < (L : Int) := by omega
        have hbw := Ext.trans hw8 hbl
        by_cases c4 : C = 0
        · obtain ⟨hv, hcf, h60, hlen, hres, hs1, hs2⟩ := res_law (HC.out.symm.trans c4)
          have c5 : (C != 0) = false := by simpa using c4
          rw [hlen] at hl1
          have s3 := (S3.out.ext hbl)
          rw [hlen] at s3
          have T3 := Lib.hid s3
          have HRS := Lib.hid hres
          have HF := Lib.hid (fun (W : World) (hq : Ext wr W) => implFitOf_v b m cap h o W hm' (S2'.out.ext (Ext.trans hbl hq)) hv)
          have HO := Lib.hid (fun (j : Nat) (hj : j < m) (W : World) => (show Calls Try.prog 24 #[.agg #[.int .i64 m, .int .i64 (sm h m), .int .i64 (sm o m), .int .i64 (sXX h m), .int .i64 (sXY h o m)], .int .i64 (h j)] W (fun e w' => e = .returned (.tuple #[.int .i64 (lineAt m h o j), .int .i64 0]) ∧ Ext W w') from by
            obtain ⟨l, r, _, _, _, _, _, h5, h6, _⟩ := hres j hj
            have hoc : offCode m (sm h m) (sm o m) (sXX h m) (sXY h o m) (h j) = 0 := by rw [offCode, if_pos hcf, if_pos (inB_t.2 ⟨h5, h6⟩)]
            have := implOffAt_c m (sm h m) (sm o m) (sXX h m) (sXY h o m) (h j) W
            rw [offRes, if_pos hoc, hoc] at this
            exact this))
          obtain ⟨X, hX⟩ : ∃ X, X = sm h m := ⟨_, rfl⟩
          obtain ⟨Y, hY⟩ : ∃ X, X = sm o m := ⟨_, rfl⟩
          obtain ⟨XX, hXX⟩ : ∃ X, X = sXX h m := ⟨_, rfl⟩
          obtain ⟨XY, hXY⟩ : ∃ X, X = sXY h o m := ⟨_, rfl⟩
          rw [← hX, ← hY, ← hXX, ← hXY] at HF HO
          obtain ⟨G, hG⟩ : ∃ G : Nat → Int, G = fun j => (resRes m h o).getD j 0 := ⟨_, rfl⟩
          rw [← hG] at hs1 hs2
          have GE := Lib.hid (fun (j : Nat) => (show (resRes m h o).getD j 0 = G j from by rw [hG]))
          have HS1 := Lib.hid (And.intro hs1 hs2)
          clear c4 hX hY hXX hXY hG hs1 hs2 hv hcf hres s3 S3 HR HG T5
          rw [hlen]
          go_wp2_with fail
          refine (HF.out wr (Ext.refl _)).mono ?_
          rintro e wa ⟨rfl, hxa⟩
          have hx8a := Ext.trans hbl hxa
          have hwa := Ext.trans hw8 hx8a
          have HB := Lib.hid (fun (w' : World) (hq : Ext (wa.alloc (.cells #[.int .i64 m, .int .i64 X, .int .i64 Y, .int .i64 XX, .int .i64 XY] 38)) w') => (show (w'.cell? ⟨wa.heap.size, 0, none⟩ = some (.int .i64 m) ∧ w'.cell? ⟨wa.heap.size, 1, none⟩ = some (.int .i64 X) ∧ w'.cell? ⟨wa.heap.size, 2, none⟩ = some (.int .i64 Y) ∧ w'.cell? ⟨wa.heap.size, 3, none⟩ = some (.int .i64 XX) ∧ w'.cell? ⟨wa.heap.size, 4, none⟩ = some (.int .i64 XY)) from fit_blk5 ((Blk.new wa _ _).ext hq)))
          have hza : wa.heap.size < (wa.alloc (.cells #[.int .i64 m, .int .i64 X, .int .i64 Y, .int .i64 XX, .int .i64 XY] 38)).heap.size := by simp
          have T3a := Lib.hid (T3.out.ext hxa)
          have w0 : (0 : Int) = wrap64 (sm G 0) := by simp [sm, wrap64]
          have W0 := Lib.hid w0
          clear w0 T3 HF
          go_wp2_with fail
          go_loopw [16, 17] (fun s16 s17 wx => ∃ (k : Nat) (S : Int), k ≤ m ∧ s17 = .int .i64 k ∧ s16 = .int .i64 S ∧ S = wrap64 (sm G k) ∧ Ext (wa.alloc (.cells #[.int .i64 m, .int .i64 X, .int .i64 Y, .int .i64 XX, .int .i64 XY] 38)) wx) (fun _ s17 _ => m - (intOf s17).toNat)
          case atStart => exact ⟨0, 0, by omega, rfl, rfl, W0.out, (by repeat (first | with_reducible exact Ext.refl _ | with_reducible assumption | with_reducible refine Ext.alloc ?_ _ | with_reducible refine Ext.drew ?_ | (with_reducible refine Ext.setAt ?_ _ _ _ ?_; rotate_left; omega) | with_reducible refine Ext.trans ?_ (by assumption) | with_reducible exact Past.bel _ | with_reducible refine Ext.trans ?_ (Past.bel _)))⟩
          case round =>
            obtain ⟨k, S, hk, rfl, rfl, hS, hbx⟩ := hrel
            have HSS := Lib.hid hS
            have y0 : (0 : Int) ≤ (k : Int) := by omega
            have hax := Ext.trans (Ext.alloc (Ext.refl wa) _) hbx
            have hz2 := hbx.size
            have hzz : wa.heap.size < wr.heap.size := by omega
            clear hS
            by_cases hlt2 : k < m
            · have y1 : (k : Int) < (m : Int) := by omega
              obtain ⟨l, r, g1, g2, g3, g4, g5, g6, g7, g8, g9⟩ := HRS.out k hlt2
              obtain ⟨b1, o1, rfl, hb1, q1, q2⟩ := (S2'.out.ext (Ext.trans hx8a hax)).at hlt2
              obtain ⟨b7, o7, rfl, hb7, r1⟩ := (T3a.out.ext hax).at hlt2
              rw [g2] at r1
              have hGk : G k = r := (GE.out k).symm.trans g2
              obtain ⟨cb0, cb1, cb2, cb3, cb4⟩ := HB.out wr hbx
              have HOk := Lib.hid (fun (W : World) => (show Calls Try.prog 24 #[.agg #[.int .i64 m, .int .i64 X, .int .i64 Y, .int .i64 XX, .int .i64 XY], .int .i64 (h k)] W (fun e w' => e = .returned (.tuple #[.int .i64 l, .int .i64 0]) ∧ Ext W w') from by rw [← g1]; exact HO.out k hlt2 W))
              obtain ⟨O, hO⟩ : ∃ O, O = o k := ⟨_, rfl⟩
              obtain ⟨Hk, hHk⟩ : ∃ O, O = h k := ⟨_, rfl⟩
              rw [← hO] at q2 g3 g4 g5
              rw [← hHk] at q1 HOk g6 g7
              have r2 : IntKind.i64.wrap (l + r) = O := by rw [g3]; exact IntWalk.i64_in _ (by omega)
              have r3 : wrap64 (l + r) = O := by rw [g3]; exact IntWalk.wrap64_in _ (by omega)
              have r4 : (O != O) = false := by simp
              have hS2 : wrap64 (S + r) = wrap64 (sm G (k + 1)) := by rw [HSS.out, wrap_add]; show _ = wrap64 (sm G k + G k); rw [hGk]
              have HS2 := Lib.hid hS2
              clear hS2 hGk g1 g2 g3 hO hHk
              go_wp2_with fail
              refine wp_region_past (by kernel_rfl) (by kernel_rfl) ?_
              repeat (go_big_quiet_step ((go_at_call 24; exact Calls.past (HOk.out _))))
              refine wpQuiet_nil ?_
              rintro _ ⟨wx, rfl⟩
              go_wp2_with fail
              refine wp_region_past (by kernel_rfl) (by kernel_rfl) ?_
              repeat (go_big_quiet_step (fail))
              refine wpQuiet_nil ?_
              rintro _ ⟨wx, rfl⟩
              go_wp2_with fail
              exact ⟨⟨k + 1, _, by omega, by go_num, rfl, HS2.out, (by repeat (first | with_reducible exact Ext.refl _ | with_reducible assumption | with_reducible refine Ext.alloc ?_ _ | with_reducible refine Ext.drew ?_ | (with_reducible refine Ext.setAt ?_ _ _ _ ?_; rotate_left; omega) | with_reducible refine Ext.trans ?_ (by assumption) | with_reducible exact Past.bel _ | with_reducible refine Ext.trans ?_ (Past.bel _)))⟩, by simp [intOf]; omega⟩
            · have y1 : ¬ (k : Int) < (m : Int) := by omega
              obtain rfl : k = m := by omega
              obtain ⟨t1, t2⟩ := HS1.out
              have hSe : S = sm G k := by rw [HSS.out]; exact IntWalk.wrap64_in _ (by omega)
              rw [← hSe] at t1 t2
              obtain ⟨A, hA⟩ : ∃ A, A = absI S := ⟨_, rfl⟩
              have HZ := Lib.hid (fun W => (hA ▸ f6size_c S W (by omega) (by omega) : Calls Try.prog 32 #[.int .i64 S] W fun e w' => e = .returned (.int .i64 A) ∧ W = w'))
              have a1 : 2 * A ≤ (k : Int) := by rw [hA]; unfold absI; split <;> omega
              have a0 : 0 ≤ A := by rw [hA]; unfold absI; split <;> omega
              have hwx := Ext.trans hwa hax
              clear hSe hA
              go_wp2_with (go_at_call 32; ((with_reducible refine (HZ.out _).mono ?_); rintro e w' ⟨rfl, rfl⟩))
              go_ret
              exact ⟨rfl, hwx⟩
        · have c5 : (C != 0) = true := by simpa using c4
          go_wp2_with fail
          go_ret
          exact ⟨rfl, hbw⟩
  · have e1 : decide (4096 < n) = true := decide_eq_true (by omega)
    go_enter Try.func5, Try.ntmps5
    go_wp2_with (go_at_call 9; ((with_reducible refine (f6big_c _ _ _ _).mono ?_); rintro e w' ⟨rfl, rfl⟩))
    go_ret
    exact ⟨rfl, (by repeat (first | with_reducible exact Ext.refl _ | with_reducible assumption | with_reducible refine Ext.alloc ?_ _ | with_reducible refine Ext.drew ?_ | (with_reducible refine Ext.setAt ?_ _ _ _ ?_; rotate_left; omega) | with_reducible refine Ext.trans ?_ (by assumption) | with_reducible exact Past.bel _ | with_reducible refine Ext.trans ?_ (Past.bel _)))⟩
end Go.Proofs.Ytmbpjlgeneemjaa

namespace Go.Proofs.Ytmbpjlgeneemjaa
open Go.RowKit
set_option linter.unusedVariables false
set_option linter.unusedSimpArgs false

theorem f6fit_c (c x y xx xy : Int) (w : World) :
    Calls Try.prog 19 #[.agg #[.int .i64 c, .int .i64 x, .int .i64 y, .int .i64 xx, .int .i64 xy], .agg #[.int .i64 c, .int .i64 x, .int .i64 y, .int .i64 xx, .int .i64 xy]] w fun e w' => e = .returned (.bool true) ∧ Ext w w' := by
  go_enter Try.func19, Try.ntmps19
  go_wp2
  go_ret
  exact ⟨by simp, (by repeat (first | with_reducible exact Ext.refl _ | with_reducible assumption | with_reducible refine Ext.alloc ?_ _ | with_reducible refine Ext.drew ?_ | (with_reducible refine Ext.setAt ?_ _ _ _ ?_; rotate_left; omega) | with_reducible refine Ext.trans ?_ (by assumption) | with_reducible exact Past.bel _ | with_reducible refine Ext.trans ?_ (Past.bel _)))⟩
set_option maxRecDepth 100000 in
set_option maxHeartbeats 8000000 in
theorem walkFits (a : Option Addr) (n c : Nat) (f : Nat → Nat) (hm : n ≤ maxLen) (w : World) (hs : U8 w a n f) (hl : ∀ j, j < n → f j ≤ 255) :
    Calls Try.prog 4 #[.slice a n c] w fun e w' => e = .returned (.bool true) ∧ Ext w w' := by
  by_cases hn : n ≤ 4096
  · have e1 : decide (4096 < n) = false := decide_eq_false (by omega)
    go_enter Try.func4, Try.ntmps4
    go_wp2_with (go_at_call 9; ((with_reducible refine (f6big_c _ _ _ _).mono ?_); rintro e w' ⟨rfl, rfl⟩))
    refine (drawFitOf_c a n c f w (by omega) hs hl).mono ?_
    rintro e w2 ⟨b, m, cap, h, o, rfl, h2⟩
    have hm' : m ≤ 1048576 := by have := h2.n61; omega
    have hmc := h2.nc
    have hform := h2.form
    have HS := Lib.hid h2.s2
    have hxw := h2.ext
    have hcm := h2.cm
    clear h2
    obtain ⟨B, hB⟩ : ∃ B, B = rdV m h o := ⟨_, rfl⟩
    obtain ⟨z0, hz0⟩ : ∃ z, z = fX B m := ⟨_, rfl⟩
    obtain ⟨z1, hz1⟩ : ∃ z, z = fX B (sm h m) := ⟨_, rfl⟩
    obtain ⟨z2, hz2⟩ : ∃ z, z = fX B (sm o m) := ⟨_, rfl⟩
    obtain ⟨z3, hz3⟩ : ∃ z, z = fX B (sXX h m) := ⟨_, rfl⟩
    obtain ⟨z4, hz4⟩ : ∃ z, z = fX B (sXY h o m) := ⟨_, rfl⟩
    obtain ⟨C, hC⟩ : ∃ z, z = fC B := ⟨_, rfl⟩
    have HI := Lib.hid (fun (W : World) (hq : Ext w2 W) => (show Calls Try.prog 17 #[.slice b m cap] W (fun e w' => e = .returned (.tuple #[.agg #[.int .i64 z0, .int .i64 z1, .int .i64 z2, .int .i64 z3, .int .i64 z4], .int .i64 C]) ∧ Ext W w') from by rw [hz0, hz1, hz2, hz3, hz4, hC, hB]; exact implFitOf_c b m cap h o W hm' (HS.out.ext hq)))
    have HJ := Lib.hid (fun (W : World) (hq : Ext w2 W) => (show Calls Try.prog 18 #[.slice b m cap] W (fun e w' => e = .returned (.tuple #[.agg #[.int .i64 z0, .int .i64 z1, .int .i64 z2, .int .i64 z3, .int .i64 z4], .int .i64 C]) ∧ Ext W w') from by rw [hz0, hz1, hz2, hz3, hz4, hC, hB]; exact specFitOf_c b m cap h o W hm' (HS.out.ext hq)))
    have HVI := Lib.hid (fun (W : World) (hq : Ext w2 W) => (show Calls Try.prog 20 #[.slice b m cap] W (fun e w' => e = .returned (.bool B) ∧ Ext W w') from by rw [hB]; exact validReadings_c b m cap h o W hm' (HS.out.ext hq)))
    have HVS := Lib.hid (fun (W : World) (hq : Ext w2 W) => (show Calls Try.prog 21 #[.slice b m cap] W (fun e w' => e = .returned (.bool B) ∧ Ext W w') from by rw [hB]; exact specValidReadings_c b m cap h o W hm' (HS.out.ext hq)))
    have c1 : (C != C) = false := by simp
    have c2 : (B != B) = false := by simp
    have HBB := Lib.hid hB
    have HZ := Lib.hid (And.intro hz0 (And.intro hz1 (And.intro hz2 (And.intro hz3 hz4))))
    clear hB hz0 hz1 hz2 hz3 hz4
    cases B
    · have hC1 : C = 1 := by rw [hC]; rfl
      subst hC1
      clear hC
      go_wp2_with (first | (go_at_call 17; ((with_reducible refine (HI.out _ (by repeat (first | with_reducible exact Ext.refl _ | with_reducible assumption | with_reducible refine Ext.alloc ?_ _ | with_reducible refine Ext.drew ?_ | (with_reducible refine Ext.setAt ?_ _ _ _ ?_; rotate_left; omega) | with_reducible refine Ext.trans ?_ (by assumption) | with_reducible exact Past.bel _ | with_reducible refine Ext.trans ?_ (Past.bel _)))).mono ?_); rintro e w' ⟨rfl, hx⟩; (first | (obtain ⟨wx, rfl⟩ := Past.again hx) | (obtain ⟨wx, rfl⟩ := Past.ofd hx) | (obtain ⟨wx, rfl⟩ := Past.of hx)))) | (go_at_call 18; ((with_reducible refine (HJ.out _ (by repeat (first | with_reducible exact Ext.refl _ | with_reducible assumption | with_reducible refine Ext.alloc ?_ _ | with_reducible refine Ext.drew ?_ | (with_reducible refine Ext.setAt ?_ _ _ _ ?_; rotate_left; omega) | with_reducible refine Ext.trans ?_ (by assumption) | with_reducible exact Past.bel _ | with_reducible refine Ext.trans ?_ (Past.bel _)))).mono ?_); rintro e w' ⟨rfl, hx⟩; (first | (obtain ⟨wx, rfl⟩ := Past.again hx) | (obtain ⟨wx, rfl⟩ := Past.ofd hx) | (obtain ⟨wx, rfl⟩ := Past.of hx)))) | (go_at_call 19; ((with_reducible refine (f6fit_c _ _ _ _ _ _).mono ?_); rintro e w' ⟨rfl, hx⟩; (first | (obtain ⟨wx, rfl⟩ := Past.again hx) | (obtain ⟨wx, rfl⟩ := Past.ofd hx) | (obtain ⟨wx, rfl⟩ := Past.of hx)))) | (go_at_call 20; ((with_reducible refine (HVI.out _ (by repeat (first | with_reducible exact Ext.refl _ | with_reducible assumption | with_reducible refine Ext.alloc ?_ _ | with_reducible refine Ext.drew ?_ | (with_reducible refine Ext.setAt ?_ _ _ _ ?_; rotate_left; omega) | with_reducible refine Ext.trans ?_ (by assumption) | with_reducible exact Past.bel _ | with_reducible refine Ext.trans ?_ (Past.bel _)))).mono ?_); rintro e w' ⟨rfl, hx⟩; (first | (obtain ⟨wx, rfl⟩ := Past.again hx) | (obtain ⟨wx, rfl⟩ := Past.ofd hx) | (obtain ⟨wx, rfl⟩ := Past.of hx)))) | (go_at_call 21; ((with_reducible refine (HVS.out _ (by repeat (first | with_reducible exact Ext.refl _ | with_reducible assumption | with_reducible refine Ext.alloc ?_ _ | with_reducible refine Ext.drew ?_ | (with_reducible refine Ext.setAt ?_ _ _ _ ?_; rotate_left; omega) | with_reducible refine Ext.trans ?_ (by assumption) | with_reducible exact Past.bel _ | with_reducible refine Ext.trans ?_ (Past.bel _)))).mono ?_); rintro e w' ⟨rfl, hx⟩; (first | (obtain ⟨wx, rfl⟩ := Past.again hx) | (obtain ⟨wx, rfl⟩ := Past.ofd hx) | (obtain ⟨wx, rfl⟩ := Past.of hx)))))
      go_ret
      exact ⟨rfl, (by repeat (first | with_reducible exact Ext.refl _ | with_reducible assumption | with_reducible refine Ext.alloc ?_ _ | with_reducible refine Ext.drew ?_ | (with_reducible refine Ext.setAt ?_ _ _ _ ?_; rotate_left; omega) | with_reducible refine Ext.trans ?_ (by assumption) | with_reducible exact Past.bel _ | with_reducible refine Ext.trans ?_ (Past.bel _)))⟩
    · have hC0 : C = 0 := by rw [hC]; rfl
      subst hC0
      clear hC
      have E0 : (m : Int) = z0 := HZ.out.1.symm
      have E1 : sm h m = z1 := HZ.out.2.1.symm
      have E2 : sm o m = z2 := HZ.out.2.2.1.symm
      have E3 : sXX h m = z3 := HZ.out.2.2.2.1.symm
      have E4 : sXY h o m = z4 := HZ.out.2.2.2.2.symm
      have EE := Lib.hid (And.intro E0 (And.intro E1 (And.intro E2 (And.intro E3 E4))))
      have hv : rdV m h o = true := HBB.out.symm
      have r := rb_of hv
      have h60 := r.n60
      have RR := Lib.hid r
      have HVV := Lib.hid hv
      have HVF := Lib.hid (show vF z0 z1 z2 z3 z4 = true from by rw [← E0, ← E1, ← E2, ← E3, ← E4]; exact vF_of r)
      have HVC := Lib.hid (fun (W : World) => (HVF.out ▸ validFit_c z0 z1 z2 z3 z4 W : Calls Try.prog 23 #[.agg #[.int .i64 z0, .int .i64 z1, .int .i64 z2, .int .i64 z3, .int .i64 z4]] W fun e w' => e = .returned (.bool true) ∧ Ext W w'))
      clear r hv E0 E1 E2 E3 E4 HZ
      go_wp2_with fail
      refine (HI.out w2 (Ext.refl _)).mono ?_
      rintro e w3 ⟨rfl, hx3⟩
      have HF := Lib.hid (fun (w' : World) (hq : Ext (w3.alloc (.cells #[.int .i64 z0, .int .i64 z1, .int .i64 z2, .int .i64 z3, .int .i64 z4] 38)) w') => (show (w'.cell? ⟨w3.heap.size, 0, none⟩ = some (.int .i64 z0) ∧ w'.cell? ⟨w3.heap.size, 1, none⟩ = some (.int .i64 z1) ∧ w'.cell? ⟨w3.heap.size, 2, none⟩ = some (.int .i64 z2) ∧ w'.cell? ⟨w3.heap.size, 3, none⟩ = some (.int .i64 z3) ∧ w'.cell? ⟨w3.heap.size, 4, none⟩ = some (.int .i64 z4)) from fit_blk5 ((Blk.new w3 _ _).ext hq)))
      have hw3 : Ext w (w3.alloc (.cells #[.int .i64 z0, .int .i64 z1, .int .i64 z2, .int .i64 z3, .int .i64 z4] 38)) := Ext.trans hxw (Ext.trans hx3 (by repeat (first | with_reducible exact Ext.refl _ | with_reducible assumption | with_reducible refine Ext.alloc ?_ _ | with_reducible refine Ext.drew ?_ | (with_reducible refine Ext.setAt ?_ _ _ _ ?_; rotate_left; omega) | with_reducible refine Ext.trans ?_ (by assumption) | with_reducible exact Past.bel _ | with_reducible refine Ext.trans ?_ (Past.bel _))))
      have hx23 : Ext w2 (w3.alloc (.cells #[.int .i64 z0, .int .i64 z1, .int .i64 z2, .int .i64 z3, .int .i64 z4] 38)) := Ext.trans hx3 (by repeat (first | with_reducible exact Ext.refl _ | with_reducible assumption | with_reducible refine Ext.alloc ?_ _ | with_reducible refine Ext.drew ?_ | (with_reducible refine Ext.setAt ?_ _ _ _ ?_; rotate_left; omega) | with_reducible refine Ext.trans ?_ (by assumption) | with_reducible exact Past.bel _ | with_reducible refine Ext.trans ?_ (Past.bel _)))
      have hz3 : w3.heap.size < (w3.alloc (.cells #[.int .i64 z0, .int .i64 z1, .int .i64 z2, .int .i64 z3, .int .i64 z4] 38)).heap.size := by simp
      generalize hW3 : w3.alloc (.cells #[.int .i64 z0, .int .i64 z1, .int .i64 z2, .int .i64 z3, .int .i64 z4] 38) = W3 at HF hw3 hx23 hz3
      go_wp2_with fail
      refine (HJ.out W3 hx23).mono ?_
      rintro e w4 ⟨rfl, hx4⟩
      obtain ⟨q0, q1, q2, q3, q4⟩ := HF.out w4 hx4
      have hz4 := hx4.size
      have hz5 : w3.heap.size < w4.heap.size := by omega
      have hx24 := Ext.trans hx23 hx4
      clear HI HJ hx3
      go_wp2_with (first | (go_at_call 19; ((with_reducible refine (f6fit_c _ _ _ _ _ _).mono ?_); rintro e w' ⟨rfl, hx⟩; (first | (obtain ⟨wx, rfl⟩ := Past.again hx) | (obtain ⟨wx, rfl⟩ := Past.ofd hx) | (obtain ⟨wx, rfl⟩ := Past.of hx)))) | (go_at_call 20; ((with_reducible refine (HVI.out _ (by repeat (first | with_reducible exact Ext.refl _ | with_reducible assumption | with_reducible refine Ext.alloc ?_ _ | with_reducible refine Ext.drew ?_ | (with_reducible refine Ext.setAt ?_ _ _ _ ?_; rotate_left; omega) | with_reducible refine Ext.trans ?_ (by assumption) | with_reducible exact Past.bel _ | with_reducible refine Ext.trans ?_ (Past.bel _)))).mono ?_); rintro e w' ⟨rfl, hx⟩; (first | (obtain ⟨wx, rfl⟩ := Past.again hx) | (obtain ⟨wx, rfl⟩ := Past.ofd hx) | (obtain ⟨wx, rfl⟩ := Past.of hx)))) | (go_at_call 21; ((with_reducible refine (HVS.out _ (by repeat (first | with_reducible exact Ext.refl _ | with_reducible assumption | with_reducible refine Ext.alloc ?_ _ | with_reducible refine Ext.drew ?_ | (with_reducible refine Ext.setAt ?_ _ _ _ ?_; rotate_left; omega) | with_reducible refine Ext.trans ?_ (by assumption) | with_reducible exact Past.bel _ | with_reducible refine Ext.trans ?_ (Past.bel _)))).mono ?_); rintro e w' ⟨rfl, hx⟩; (first | (obtain ⟨wx, rfl⟩ := Past.again hx) | (obtain ⟨wx, rfl⟩ := Past.ofd hx) | (obtain ⟨wx, rfl⟩ := Past.of hx)))))
      have hx35 : Ext W3 wx.out := Ext.trans hx4 (by repeat (first | with_reducible exact Ext.refl _ | with_reducible assumption | with_reducible refine Ext.alloc ?_ _ | with_reducible refine Ext.drew ?_ | (with_reducible refine Ext.setAt ?_ _ _ _ ?_; rotate_left; omega) | with_reducible refine Ext.trans ?_ (by assumption) | with_reducible exact Past.bel _ | with_reducible refine Ext.trans ?_ (Past.bel _)))
      generalize wx.out = w5 at hx35 ⊢
      have hw5 := Ext.trans hw3 hx35
      clear HVI HVS q0 q1 q2 q3 q4 hx4 hx24 hz4 hz5
      refine (f6roll_c a n c f 1401 w5 (by omega) (hs.ext hw5)).mono ?_
      rintro e w6 ⟨g, hh, rfl, hbk, hgs, hx6⟩
      have hdi := dice_of hbk
      have hwz := hw5.size
      have h35 := hx35.size
      have CD := Lib.hid (fun (h0 : 0 < n) (ad : Addr) (e : a = some ad) => (show ad.block ≠ g from by have := hs.low' h0 ad e; omega))
      have hx36 := Ext.trans hx35 hx6
      clear hbk
      go_wp2_with fail
      refine (below_c g a n c f _ w6 (by omega) (by omega) (hs.ext (Ext.trans hw3 hx36)) hl hdi CD.out).mono ?_
      rintro e w7 ⟨x7, rfl, y7, z7, hd7, hg7⟩
      have hx37 : Ext W3 w7 := grown_up hg7 hx36 (by omega)
      have hw7 := Ext.trans hw3 hx37
      have DI7 := Lib.hid hd7
      obtain ⟨k, rfl⟩ := Int.eq_ofNat_of_zero_le y7
      have hk : k ≤ m := by omega
      have k0 : (0 : Int) ≤ (k : Int) := by omega
      have k1 : (k : Int) ≤ (m : Int) := by omega
      have k2 : (k : Int) ≤ (cap : Int) := by omega
      have HS7 := Lib.hid (HS.out.ext (Ext.trans hx23 hx37))
      have HL7 := Lib.hid (show S2 w7 b k h o from fun h0 => by obtain ⟨b', o', e, hb, hc⟩ := HS7.out (by omega); exact ⟨b', o', e, hb, fun j hj => hc j (by omega)⟩)
      clear hdi hd7 hg7 hx6 hx36 y7
      go_wp2_with fail
      refine (implFitOf_v b k cap h o w7 (by omega) HL7.out (RR.out.left hk)).mono ?_
      rintro e w8 ⟨rfl, hx8⟩
      have hx38 := Ext.trans hx37 hx8
      obtain ⟨y1, hy1⟩ : ∃ y, y = sm h k := ⟨_, rfl⟩
      obtain ⟨y2, hy2⟩ : ∃ y, y = sm o k := ⟨_, rfl⟩
      obtain ⟨y3, hy3⟩ : ∃ y, y = sXX h k := ⟨_, rfl⟩
      obtain ⟨y4, hy4⟩ : ∃ y, y = sXY h o k := ⟨_, rfl⟩
      obtain ⟨u0, hu0⟩ : ∃ y : Int, y = ((m - k : Nat) : Int) := ⟨_, rfl⟩
      obtain ⟨u1, hu1⟩ : ∃ y, y = sm (fun i => h (i + k)) (m - k) := ⟨_, rfl⟩
      obtain ⟨u2, hu2⟩ : ∃ y, y = sm (fun i => o (i + k)) (m - k) := ⟨_, rfl⟩
      obtain ⟨u3, hu3⟩ : ∃ y, y = sXX (fun i => h (i + k)) (m - k) := ⟨_, rfl⟩
      obtain ⟨u4, hu4⟩ : ∃ y, y = sXY (fun i => h (i + k)) (fun i => o (i + k)) (m - k) := ⟨_, rfl⟩
      rw [← hy1, ← hy2, ← hy3, ← hy4]
      have HA := Lib.hid (fun (W : World) => (show Calls Try.prog 22 #[.agg #[.int .i64 k, .int .i64 y1, .int .i64 y2, .int .i64 y3, .int .i64 y4], .agg #[.int .i64 u0, .int .i64 u1, .int .i64 u2, .int .i64 u3, .int .i64 u4]] W (fun e w' => e = .returned (.tuple #[.agg #[.int .i64 z0, .int .i64 z1, .int .i64 z2, .int .i64 z3, .int .i64 z4], .int .i64 0]) ∧ Ext W w') from by
        have := addFits_c k (sm h k) (sm o k) (sXX h k) (sXY h o k) ((m - k : Nat) : Int) (sm (fun i => h (i + k)) (m - k)) (sm (fun i => o (i + k)) (m - k)) (sXX (fun i => h (i + k)) (m - k)) (sXY (fun i => h (i + k)) (fun i => o (i + k)) (m - k)) W
        obtain ⟨v1, v2⟩ := addV_part RR.out hk
        rw [v1, v2, EE.out.1, EE.out.2.1, EE.out.2.2.1, EE.out.2.2.2.1, EE.out.2.2.2.2] at this
        rw [hy1, hy2, hy3, hy4, hu0, hu1, hu2, hu3, hu4]
        exact this))
      have HR8 := Lib.hid (fun (b' : Option Addr) (c' : Nat) (W : World) (hq : S2 W b' (m - k) (fun i => h (i + k)) (fun i => o (i + k))) => (show Calls Try.prog 17 #[.slice b' (m - k) c'] W (fun e w' => e = .returned (.tuple #[.agg #[.int .i64 u0, .int .i64 u1, .int .i64 u2, .int .i64 u3, .int .i64 u4], .int .i64 0]) ∧ Ext W w') from by
        have := implFitOf_v b' (m - k) c' (fun i => h (i + k)) (fun i => o (i + k)) W (by omega) hq (RR.out.right hk)
        rw [hu0, hu1, hu2, hu3, hu4]; exact this))
      clear hy1 hy2 hy3 hy4 hu0 hu1 hu2 hu3 hu4
      have HF8 := Lib.hid (fun (w' : World) (hq : Ext (w8.alloc (.cells #[.int .i64 k, .int .i64 y1, .int .i64 y2, .int .i64 y3, .int .i64 y4] 38)) w') => (show (w'.cell? ⟨w8.heap.size, 0, none⟩ = some (.int .i64 k) ∧ w'.cell? ⟨w8.heap.size, 1, none⟩ = some (.int .i64 y1) ∧ w'.cell? ⟨w8.heap.size, 2, none⟩ = some (.int .i64 y2) ∧ w'.cell? ⟨w8.heap.size, 3, none⟩ = some (.int .i64 y3) ∧ w'.cell? ⟨w8.heap.size, 4, none⟩ = some (.int .i64 y4)) from fit_blk5 ((Blk.new w8 _ _).ext hq)))
      have hx3' : Ext W3 (w8.alloc (.cells #[.int .i64 k, .int .i64 y1, .int .i64 y2, .int .i64 y3, .int .i64 y4] 38)) := Ext.trans hx38 (by repeat (first | with_reducible exact Ext.refl _ | with_reducible assumption | with_reducible refine Ext.alloc ?_ _ | with_reducible refine Ext.drew ?_ | (with_reducible refine Ext.setAt ?_ _ _ _ ?_; rotate_left; omega) | with_reducible refine Ext.trans ?_ (by assumption) | with_reducible exact Past.bel _ | with_reducible refine Ext.trans ?_ (Past.bel _)))
      have hz8 : w8.heap.size < (w8.alloc (.cells #[.int .i64 k, .int .i64 y1, .int .i64 y2, .int .i64 y3, .int .i64 y4] 38)).heap.size := by simp
      have DI8 := Lib.hid (DI7.out.ext (Ext.trans hx8 (show Ext w8 (w8.alloc (.cells #[.int .i64 k, .int .i64 y1, .int .i64 y2, .int .i64 y3, .int .i64 y4] 38)) from (by repeat (first | with_reducible exact Ext.refl _ | with_reducible assumption | with_reducible refine Ext.alloc ?_ _ | with_reducible refine Ext.drew ?_ | (with_reducible refine Ext.setAt ?_ _ _ _ ?_; rotate_left; omega) | with_reducible refine Ext.trans ?_ (by assumption) | with_reducible exact Past.bel _ | with_reducible refine Ext.trans ?_ (Past.bel _))))))
      generalize hW8 : w8.alloc (.cells #[.int .i64 k, .int .i64 y1, .int .i64 y2, .int .i64 y3, .int .i64 y4] 38) = W8 at HF8 hx3' hz8 DI8
      have HS8 := Lib.hid (HS.out.ext (Ext.trans hx23 hx3'))
      clear hx8 hx38 HS7 HL7 DI7
      have hmk : (m : Int) - (k : Int) = ((m - k : Nat) : Int) := by omega
      go_upto_region 13 with fail
      go_cut [12, 13] (fun v12 v13 wx => ∃ gd : Nat, v12 = .pointer (some ⟨gd, 0, none⟩) ∧ v13 = .int .i64 0 ∧ Ext W8 wx ∧ gd < wx.heap.size ∧ (wx.cell? ⟨gd, 0, none⟩ = some (.int .i64 u0) ∧ wx.cell? ⟨gd, 1, none⟩ = some (.int .i64 u1) ∧ wx.cell? ⟨gd, 2, none⟩ = some (.int .i64 u2) ∧ wx.cell? ⟨gd, 3, none⟩ = some (.int .i64 u3) ∧ wx.cell? ⟨gd, 4, none⟩ = some (.int .i64 u4)))
      case first =>
        rcases hform with ⟨rfl, hf2, hf3⟩ | ⟨gb, rfl⟩
        · subst hf2 hf3
          obtain rfl : k = 0 := by omega
          go_wp2_with fail
          refine (HR8.out none _ _ (fun h0 => by omega)).mono ?_
          rintro e w9 ⟨rfl, hx9⟩
          have hB := Blk.new w9 #[.int .i64 u0, .int .i64 u1, .int .i64 u2, .int .i64 u3, .int .i64 u4] 38
          go_wp2_with fail
          go_meet
          exact ⟨_, rfl, rfl, Ext.alloc hx9 _, by simp, fit_blk5 hB⟩
        · by_cases hck : cap = k
          · have hck2 : (cap : Int) = (k : Int) := by omega
            subst hck
            go_wp2_with fail
            have hmk0 : m - cap = 0 := by omega
            have HR9 := HR8.out (some ⟨gb, 0, none⟩) 0 W8 (fun h0 => by omega)
            rw [hmk0] at HR9
            refine HR9.mono ?_
            rintro e w9 ⟨rfl, hx9⟩
            have hB := Blk.new w9 #[.int .i64 u0, .int .i64 u1, .int .i64 u2, .int .i64 u3, .int .i64 u4] 38
            go_wp2_with fail
            go_meet
            exact ⟨_, rfl, rfl, Ext.alloc hx9 _, by simp, fit_blk5 hB⟩
          · have hck2 : k < cap := by omega
            have hck3 : (k : Int) < (cap : Int) := by omega
            go_wp2_with fail
            have SR := S2.right HS8.out hk
            rw [Nat.zero_add] at SR
            have HR9 := HR8.out (some ⟨gb, k * 2, none⟩) (cap - k) W8 SR
            refine HR9.mono ?_
            rintro e w9 ⟨rfl, hx9⟩
            have hB := Blk.new w9 #[.int .i64 u0, .int .i64 u1, .int .i64 u2, .int .i64 u3, .int .i64 u4] 38
            go_wp2_with fail
            go_meet
            exact ⟨_, rfl, rfl, Ext.alloc hx9 _, by simp, fit_blk5 hB⟩
      case rest =>
        obtain ⟨gd, rfl, rfl, hx8c, hgd, g0, g1, g2, g3, g4⟩ := hcut
        obtain ⟨w9, rfl⟩ : ∃ w9 : World, w9 = wc := ⟨_, rfl⟩
        obtain ⟨k3, k4, k5, k6, k7⟩ := HF8.out w9 hx8c
        have hx39 := Ext.trans hx3' hx8c
        have DI9 := Lib.hid (DI8.out.ext hx8c)
        have HS9 := Lib.hid (HS.out.ext (Ext.trans hx23 hx39))
        clear HR8 HF8 HS8 DI8 hx8c hx3'
        go_wp2_with fail
        refine (HA.out w9).mono ?_
        rintro e wA ⟨rfl, hxA⟩
        have hx3A := Ext.trans hx39 hxA
        obtain ⟨q0, q1, q2, q3, q4⟩ := HF.out wA hx3A
        have hz3A : w3.heap.size < wA.heap.size := by have := hx3A.size; omega
        have DIA := Lib.hid (DI9.out.ext hxA)
        have HSA := Lib.hid (HS9.out.ext hxA)
        clear HA g0 g1 g2 g3 g4 k3 k4 k5 k6 k7 DI9 HS9 hgd
        go_wp2_with (first | (go_at_call 19; ((with_reducible refine (f6fit_c _ _ _ _ _ _).mono ?_); rintro e w' ⟨rfl, hx⟩; (first | (obtain ⟨wx, rfl⟩ := Past.again hx) | (obtain ⟨wx, rfl⟩ := Past.ofd hx) | (obtain ⟨wx, rfl⟩ := Past.of hx)))) | (go_at_call 23; ((with_reducible refine (HVC.out _).mono ?_); rintro e w' ⟨rfl, hx⟩; (first | (obtain ⟨wx, rfl⟩ := Past.again hx) | (obtain ⟨wx, rfl⟩ := Past.ofd hx) | (obtain ⟨wx, rfl⟩ := Past.of hx)))))
        have hxAB : Ext wA wx.out := (by repeat (first | with_reducible exact Ext.refl _ | with_reducible assumption | with_reducible refine Ext.alloc ?_ _ | with_reducible refine Ext.drew ?_ | (with_reducible refine Ext.setAt ?_ _ _ _ ?_; rotate_left; omega) | with_reducible refine Ext.trans ?_ (by assumption) | with_reducible exact Past.bel _ | with_reducible refine Ext.trans ?_ (Past.bel _)))
        generalize wx.out = wB at hxAB ⊢
        have hx3B := Ext.trans hx3A hxAB
        have hwB := Ext.trans hw3 hx3B
        have DIB := DIA.out.ext hxAB
        have HSB := Lib.hid (HSA.out.ext hxAB)
        clear q0 q1 q2 q3 q4 DIA HSA hxA
        refine (below_c g a n c f 500 wB (by omega) (by omega) (hs.ext hwB) hl DIB CD.out).mono ?_
        rintro e wC ⟨by_, rfl, y7, z7, hdC, hgC⟩
        have hx3C : Ext W3 wC := grown_up hgC hx3B (by omega)
        have hwC := Ext.trans hw3 hx3C
        have DIC := Lib.hid hdC
        have HSC := Lib.hid (HS.out.ext (Ext.trans hx23 hx3C))
        clear DIB hdC hgC HSB hx3A hxAB
        go_wp2_with fail
        go_loopw [17, 18] (fun v17 v18 wr => ∃ j : Nat, j ≤ m ∧ v18 = .int .i64 j ∧ wr.ownsRow wC.heap.size 33 2 v17 j (PR (outs2 h (fun i => o i + by_) j)) ∧ Ext wC wr) (fun _ v18 _ => m - (intOf v18).toNat)
        case atStart => exact ⟨0, by omega, rfl, World.ownsRow_made _ #[] 0 (Ext.size (by repeat (first | with_reducible exact Ext.refl _ | with_reducible assumption | with_reducible refine Ext.alloc ?_ _ | with_reducible refine Ext.drew ?_ | (with_reducible refine Ext.setAt ?_ _ _ _ ?_; rotate_left; omega) | with_reducible refine Ext.trans ?_ (by assumption) | with_reducible exact Past.bel _ | with_reducible refine Ext.trans ?_ (Past.bel _)))) (Nat.zero_le _) rfl, (by repeat (first | with_reducible exact Ext.refl _ | with_reducible assumption | with_reducible refine Ext.alloc ?_ _ | with_reducible refine Ext.drew ?_ | (with_reducible refine Ext.setAt ?_ _ _ _ ?_; rotate_left; omega) | with_reducible refine Ext.trans ?_ (by assumption) | with_reducible exact Past.bel _ | with_reducible refine Ext.trans ?_ (Past.bel _)))⟩
        case round =>
          obtain ⟨j, hj, rfl, ho, hbl⟩ := hrel
          have HO := Lib.hid ho
          have x0 : (0 : Int) ≤ (j : Int) := by omega
          have hx3r := Ext.trans hx3C hbl
          clear ho
          by_cases hlt : j < m
          · have x1 : (j : Int) < (m : Int) := by omega
            obtain ⟨b1, o1, rfl, hb1, r1, r2⟩ := HSC.out.at hlt
            have bo := RR.out.bo j hlt
            obtain ⟨Hj, hHj⟩ : ∃ H, H = h j := ⟨_, rfl⟩
            obtain ⟨Oj, hOj⟩ : ∃ H, H = o j := ⟨_, rfl⟩
            rw [← hHj] at r1
            rw [← hOj] at r2 bo
            have SK := Lib.hid (fun (w' : World) (hq : Ext wC w') => (show w'.cell? ⟨b1, o1 + j * 2, none⟩ = some (.int .i64 Hj) ∧ w'.cell? ⟨b1, o1 + j * 2 + 1, none⟩ = some (.int .i64 Oj) from ⟨(hq.cell hb1).trans r1, (hq.cell hb1).trans r2⟩))
            have x2 : IntKind.i64.wrap (Oj + by_) = Oj + by_ := IntWalk.i64_in _ (by omega)
            have H1 := Lib.hid (show (h j, o j + by_) = (Hj, Oj + by_) by rw [hHj, hOj])
            clear r1 r2 hHj hOj
            go_wp2_with fail
            go_region_held3 (fun w' => w'.cell? ⟨b1, o1 + j * 2, none⟩ = some (.int .i64 Hj) ∧ w'.cell? ⟨b1, o1 + j * 2 + 1, none⟩ = some (.int .i64 Oj)) (exact SK.out _ (by repeat (first | with_reducible exact Ext.refl _ | with_reducible assumption | with_reducible refine Ext.alloc ?_ _ | with_reducible refine Ext.drew ?_ | (with_reducible refine Ext.setAt ?_ _ _ _ ?_; rotate_left; omega) | with_reducible refine Ext.trans ?_ (by assumption) | with_reducible exact Past.bel _ | with_reducible refine Ext.trans ?_ (Past.bel _)))) ((refine app2os (w0 := wC) 24 33 _ _ _ (by rfl) (by rfl) Try.underlying24 info_rd (by rfl) _ (outs2 h (fun i => o i + by_) j) _ _ _ (by rfl) (by rfl) (own_ext (own_outs2l HO.out) (by repeat (first | with_reducible exact Ext.refl _ | with_reducible assumption | with_reducible refine Ext.alloc ?_ _ | with_reducible refine Ext.drew ?_ | (with_reducible refine Ext.setAt ?_ _ _ _ ?_; rotate_left; omega) | with_reducible refine Ext.trans ?_ (by assumption) | with_reducible exact Past.bel _ | with_reducible refine Ext.trans ?_ (Past.bel _)))) (Blk.new _ _ _) (by rw [outs2_len]; omega) (by repeat (first | with_reducible exact Ext.refl _ | with_reducible assumption | with_reducible refine Ext.alloc ?_ _ | with_reducible refine Ext.drew ?_ | (with_reducible refine Ext.setAt ?_ _ _ _ ?_; rotate_left; omega) | with_reducible refine Ext.trans ?_ (by assumption) | with_reducible exact Past.bel _ | with_reducible refine Ext.trans ?_ (Past.bel _))) ?_; intro v6 w6 s6 s7))
            go_wp2_with fail
            exact ⟨⟨j + 1, by omega, by go_num, (by rw [outs2_len] at s6; show World.ownsRow _ _ _ _ _ _ (PR (outs2 _ _ j ++ [(h j, o j + by_)])); rw [H1.out]; exact s6), s7⟩, by simp [intOf]; omega⟩
          · obtain rfl : j = m := by omega
            obtain ⟨b9, c9, rfl⟩ := own_form HO.out
            have s2' := own_outs2 HO.out
            have hG : ∃ g0 g1 g2 g3 g4 C4 : Int, (∀ W, Ext wr W → Calls Try.prog 17 #[.slice b9 j c9] W (fun e w' => e = .returned (.tuple #[.agg #[.int .i64 g0, .int .i64 g1, .int .i64 g2, .int .i64 g3, .int .i64 g4], .int .i64 C4]) ∧ Ext W w')) ∧ ((C4 != 0) = true ∨ ((C4 != 0) = false ∧ codeF g0 g1 g2 g3 g4 = codeF z0 z1 z2 z3 z4 ∧ rateF g0 g1 g2 g3 g4 = rateF z0 z1 z2 z3 z4 ∧ ∀ hr, offCode g0 g1 g2 g3 g4 hr = offCode z0 z1 z2 z3 z4 hr ∧ (offCode z0 z1 z2 z3 z4 hr = 0 → offRes g0 g1 g2 g3 g4 hr = offRes z0 z1 z2 z3 z4 hr + by_))) := by
              have hM := fun (W : World) (hq : Ext wr W) => implFitOf_c b9 j c9 h (fun i => o i + by_) W hm' (s2'.ext hq)
              have hv := HVV.out
              obtain ⟨E0, E1, E2, E3, E4⟩ := EE.out
              cases hB2 : rdV j h (fun i => o i + by_)
              · rw [hB2] at hM
                exact ⟨0, 0, 0, 0, 0, 1, hM, .inl (by simp)⟩
              · rw [hB2] at hM
                refine ⟨_, _, _, _, _, 0, hM, .inr ⟨by simp, ?_, ?_, fun hr => ⟨?_, fun h5 => ?_⟩⟩⟩
                · rw [← E0, ← E1, ← E2, ← E3, ← E4]; exact mv_code hv hB2
                · rw [← E0, ← E1, ← E2, ← E3, ← E4]; exact mv_rate hv hB2
                · rw [← E0, ← E1, ← E2, ← E3, ← E4]; exact mv_offc hv hB2
                · rw [← E0, ← E1, ← E2, ← E3, ← E4] at h5 ⊢; exact mv_off hv hB2 h5
            obtain ⟨g0, g1, g2, g3, g4, C4, hM, hlaw⟩ := hG
            have HM := Lib.hid hM
            have HLW := Lib.hid hlaw
            clear hM hlaw HO s2'
            go_wp2_with fail
            refine (HM.out wr (Ext.refl _)).mono ?_
            rintro e wD ⟨rfl, hxD⟩
            have BD := Blk.new wD #[.int .i64 g0, .int .i64 g1, .int .i64 g2, .int .i64 g3, .int .i64 g4] 38
            have hgD : g < wD.heap.size := by
              have y1 := hxD.size; have y2 := hbl.size; obtain ⟨i5, hh5, hb5, _⟩ := DIC.out.blk; have y3 := hb5.lt; omega
            have hCD : Ext wC (wD.alloc (.cells #[.int .i64 g0, .int .i64 g1, .int .i64 g2, .int .i64 g3, .int .i64 g4] 38)) := Ext.trans (Ext.trans hbl hxD) (by repeat (first | with_reducible exact Ext.refl _ | with_reducible assumption | with_reducible refine Ext.alloc ?_ _ | with_reducible refine Ext.drew ?_ | (with_reducible refine Ext.setAt ?_ _ _ _ ?_; rotate_left; omega) | with_reducible refine Ext.trans ?_ (by assumption) | with_reducible exact Past.bel _ | with_reducible refine Ext.trans ?_ (Past.bel _)))
            have hzD : wD.heap.size < (wD.alloc (.cells #[.int .i64 g0, .int .i64 g1, .int .i64 g2, .int .i64 g3, .int .i64 g4] 38)).heap.size := by simp
            generalize hWD : wD.alloc (.cells #[.int .i64 g0, .int .i64 g1, .int .i64 g2, .int .i64 g3, .int .i64 g4] 38) = WD at BD hCD hzD
            have hwD := Ext.trans hwC hCD
            have hx3D := Ext.trans hx3C hCD
            have DID := DIC.out.ext hCD
            clear HM hxD
            go_wp2_with fail
            refine (below_c g a n c f 10001 WD (by omega) (by omega) (hs.ext hwD) hl DID CD.out).mono ?_
            rintro e wE ⟨hr, rfl, r7, r8, -, hgE⟩
            have BE : Blk wE wD.heap.size 38 #[.int .i64 g0, .int .i64 g1, .int .i64 g2, .int .i64 g3, .int .i64 g4] := (hgE.block _ hzD (by simp; omega)).trans BD
            have hx3E : Ext W3 wE := grown_up hgE hx3D (by omega)
            have hwE := Ext.trans hw3 hx3E
            have hzE := BE.lt
            have hz3E : w3.heap.size < wE.heap.size := by have := hx3E.size; omega
            have HGC := Lib.hid (fun (w' : World) (hq : Ext wE w') => (show (w'.cell? ⟨wD.heap.size, 0, none⟩ = some (.int .i64 g0) ∧ w'.cell? ⟨wD.heap.size, 1, none⟩ = some (.int .i64 g1) ∧ w'.cell? ⟨wD.heap.size, 2, none⟩ = some (.int .i64 g2) ∧ w'.cell? ⟨wD.heap.size, 3, none⟩ = some (.int .i64 g3) ∧ w'.cell? ⟨wD.heap.size, 4, none⟩ = some (.int .i64 g4)) from fit_blk5 (BE.ext hq)))
            have HFE := Lib.hid (fun (w' : World) (hq : Ext wE w') => HF.out w' (Ext.trans hx3E hq))
            obtain ⟨j0, j1, j2, j3, j4⟩ := HGC.out wE (Ext.refl _)
            obtain ⟨q0, q1, q2, q3, q4⟩ := HFE.out wE (Ext.refl _)
            have OB1 := offRes_bd (c := z0) (x := z1) (y := z2) (xx := z3) (xy := z4) (hr := hr)
            have hoz := fun W => implOffAt_c z0 z1 z2 z3 z4 hr W
            have hog := fun W => implOffAt_c g0 g1 g2 g3 g4 hr W
            have hdz := fun W => dailyRate_c z0 z1 z2 z3 z4 W
            have hdg := fun W => dailyRate_c g0 g1 g2 g3 g4 W
            have hlw := HLW.out
            clear HLW DIC BE HF hgE
            have hm4 : ∃ X Y P5 P6 Q7 V7 Q8 V8 : Int, (-6500000000000000000 ≤ X ∧ X ≤ 6500000000000000000) ∧
                (∀ W, Calls Try.prog 24 #[.agg #[.int .i64 z0, .int .i64 z1, .int .i64 z2, .int .i64 z3, .int .i64 z4], .int .i64 hr] W fun e w' => e = .returned (.tuple #[.int .i64 X, .int .i64 P5]) ∧ Ext W w') ∧
                (∀ W, Calls Try.prog 24 #[.agg #[.int .i64 g0, .int .i64 g1, .int .i64 g2, .int .i64 g3, .int .i64 g4], .int .i64 hr] W fun e w' => e = .returned (.tuple #[.int .i64 Y, .int .i64 P6]) ∧ Ext W w') ∧
                (∀ W, Calls Try.prog 25 #[.agg #[.int .i64 z0, .int .i64 z1, .int .i64 z2, .int .i64 z3, .int .i64 z4]] W fun e w' => e = .returned (.tuple #[.int .i64 Q7, .int .i64 V7]) ∧ Ext W w') ∧
                (∀ W, Calls Try.prog 25 #[.agg #[.int .i64 g0, .int .i64 g1, .int .i64 g2, .int .i64 g3, .int .i64 g4]] W fun e w' => e = .returned (.tuple #[.int .i64 Q8, .int .i64 V8]) ∧ Ext W w') ∧
                ((C4 != 0) = true ∨ ((C4 != 0) = false ∧ V8 = V7 ∧ Q8 = Q7 ∧ P6 = P5 ∧ (P5 = 0 → Y = X + by_))) := by
              refine ⟨_, _, _, _, _, _, _, _, OB1, hoz, hog, hdz, hdg, ?_⟩
              rcases hlw with h1 | ⟨h1, h2, h3, h4⟩
              · exact .inl h1
              · exact .inr ⟨h1, h2, h3, (h4 hr).1, (h4 hr).2⟩
            clear hoz hog hdz hdg hlw OB1
            obtain ⟨X, Y, P5, P6, Q7, V7, Q8, V8, ⟨X0, X1⟩, hoz, hog, hdz, hdg, hlw⟩ := hm4
            have OZ := Lib.hid hoz
            have OG := Lib.hid hog
            have DZ := Lib.hid hdz
            have DG := Lib.hid hdg
            clear hoz hog hdz hdg
            have xw : IntKind.i64.wrap (X + by_) = X + by_ := IntWalk.i64_in _ (by omega)
            rcases hlw with h1 | ⟨h1, rfl, rfl, rfl, h5⟩
            · go_wp2_with (first | (go_at_call 24; ((with_reducible refine (OZ.out _).mono ?_); rintro e w' ⟨rfl, hx⟩; (first | (obtain ⟨wx, rfl⟩ := Past.again hx) | (obtain ⟨wx, rfl⟩ := Past.ofd hx) | (obtain ⟨wx, rfl⟩ := Past.of hx)))) | (go_at_call 24; ((with_reducible refine (OG.out _).mono ?_); rintro e w' ⟨rfl, hx⟩; (first | (obtain ⟨wx, rfl⟩ := Past.again hx) | (obtain ⟨wx, rfl⟩ := Past.ofd hx) | (obtain ⟨wx, rfl⟩ := Past.of hx)))) | (go_at_call 25; ((with_reducible refine (DZ.out _).mono ?_); rintro e w' ⟨rfl, hx⟩; (first | (obtain ⟨wx, rfl⟩ := Past.again hx) | (obtain ⟨wx, rfl⟩ := Past.ofd hx) | (obtain ⟨wx, rfl⟩ := Past.of hx)))) | (go_at_call 25; ((with_reducible refine (DG.out _).mono ?_); rintro e w' ⟨rfl, hx⟩; (first | (obtain ⟨wx, rfl⟩ := Past.again hx) | (obtain ⟨wx, rfl⟩ := Past.ofd hx) | (obtain ⟨wx, rfl⟩ := Past.of hx)))))
              go_ret
              exact ⟨rfl, Ext.trans hwE (by repeat (first | with_reducible exact Ext.refl _ | with_reducible assumption | with_reducible refine Ext.alloc ?_ _ | with_reducible refine Ext.drew ?_ | (with_reducible refine Ext.setAt ?_ _ _ _ ?_; rotate_left; omega) | with_reducible refine Ext.trans ?_ (by assumption) | with_reducible exact Past.bel _ | with_reducible refine Ext.trans ?_ (Past.bel _)))⟩
            · have b1 : (P6 == P6) = true := by simp
              have b2 : (V8 == V8) = true := by simp
              have b3 : (Q8 == Q8) = true := by simp
              cases hP : (P6 != 0)
              · have hY : Y = X + by_ := h5 (by simpa using hP)
                subst hY
                have b4 : (X + by_ == X + by_) = true := by simp
                clear h5
                go_wp2_with (first | (go_at_call 24; ((with_reducible refine (OZ.out _).mono ?_); rintro e w' ⟨rfl, hx⟩; (first | (obtain ⟨wx, rfl⟩ := Past.again hx) | (obtain ⟨wx, rfl⟩ := Past.ofd hx) | (obtain ⟨wx, rfl⟩ := Past.of hx)))) | (go_at_call 24; ((with_reducible refine (OG.out _).mono ?_); rintro e w' ⟨rfl, hx⟩; (first | (obtain ⟨wx, rfl⟩ := Past.again hx) | (obtain ⟨wx, rfl⟩ := Past.ofd hx) | (obtain ⟨wx, rfl⟩ := Past.of hx)))) | (go_at_call 25; ((with_reducible refine (DZ.out _).mono ?_); rintro e w' ⟨rfl, hx⟩; (first | (obtain ⟨wx, rfl⟩ := Past.again hx) | (obtain ⟨wx, rfl⟩ := Past.ofd hx) | (obtain ⟨wx, rfl⟩ := Past.of hx)))) | (go_at_call 25; ((with_reducible refine (DG.out _).mono ?_); rintro e w' ⟨rfl, hx⟩; (first | (obtain ⟨wx, rfl⟩ := Past.again hx) | (obtain ⟨wx, rfl⟩ := Past.ofd hx) | (obtain ⟨wx, rfl⟩ := Past.of hx)))))
                go_ret
                exact ⟨rfl, Ext.trans hwE (by repeat (first | with_reducible exact Ext.refl _ | with_reducible assumption | with_reducible refine Ext.alloc ?_ _ | with_reducible refine Ext.drew ?_ | (with_reducible refine Ext.setAt ?_ _ _ _ ?_; rotate_left; omega) | with_reducible refine Ext.trans ?_ (by assumption) | with_reducible exact Past.bel _ | with_reducible refine Ext.trans ?_ (Past.bel _)))⟩
              · clear h5
                go_wp2_with (first | (go_at_call 24; ((with_reducible refine (OZ.out _).mono ?_); rintro e w' ⟨rfl, hx⟩; (first | (obtain ⟨wx, rfl⟩ := Past.again hx) | (obtain ⟨wx, rfl⟩ := Past.ofd hx) | (obtain ⟨wx, rfl⟩ := Past.of hx)))) | (go_at_call 24; ((with_reducible refine (OG.out _).mono ?_); rintro e w' ⟨rfl, hx⟩; (first | (obtain ⟨wx, rfl⟩ := Past.again hx) | (obtain ⟨wx, rfl⟩ := Past.ofd hx) | (obtain ⟨wx, rfl⟩ := Past.of hx)))) | (go_at_call 25; ((with_reducible refine (DZ.out _).mono ?_); rintro e w' ⟨rfl, hx⟩; (first | (obtain ⟨wx, rfl⟩ := Past.again hx) | (obtain ⟨wx, rfl⟩ := Past.ofd hx) | (obtain ⟨wx, rfl⟩ := Past.of hx)))) | (go_at_call 25; ((with_reducible refine (DG.out _).mono ?_); rintro e w' ⟨rfl, hx⟩; (first | (obtain ⟨wx, rfl⟩ := Past.again hx) | (obtain ⟨wx, rfl⟩ := Past.ofd hx) | (obtain ⟨wx, rfl⟩ := Past.of hx)))))
                go_ret
                exact ⟨rfl, Ext.trans hwE (by repeat (first | with_reducible exact Ext.refl _ | with_reducible assumption | with_reducible refine Ext.alloc ?_ _ | with_reducible refine Ext.drew ?_ | (with_reducible refine Ext.setAt ?_ _ _ _ ?_; rotate_left; omega) | with_reducible refine Ext.trans ?_ (by assumption) | with_reducible exact Past.bel _ | with_reducible refine Ext.trans ?_ (Past.bel _)))⟩
  · have e1 : decide (4096 < n) = true := decide_eq_true (by omega)
    go_enter Try.func4, Try.ntmps4
    go_wp2_with (go_at_call 9; ((with_reducible refine (f6big_c _ _ _ _).mono ?_); rintro e w' ⟨rfl, rfl⟩))
    go_ret
    exact ⟨rfl, (by repeat (first | with_reducible exact Ext.refl _ | with_reducible assumption | with_reducible refine Ext.alloc ?_ _ | with_reducible refine Ext.drew ?_ | (with_reducible refine Ext.setAt ?_ _ _ _ ?_; rotate_left; omega) | with_reducible refine Ext.trans ?_ (by assumption) | with_reducible exact Past.bel _ | with_reducible refine Ext.trans ?_ (Past.bel _)))⟩
end Go.Proofs.Ytmbpjlgeneemjaa

namespace Go.Proofs.Ytmbpjlgeneemjaa
open Go.ChangeShapes Go.WideShapes Go.RowKit Go.Deep
set_option linter.unusedVariables false
section
variable {H : Type} {enc : TypeId × Value → H} {P : Program} {w : World} {base : Nat} {spare : Nat → Bool} {held : Bool}
/-- a slice of structs of one cell a field, at whatever depth -/
theorem down_rows {t e : TypeId} {fs : Array Field} {fuel : Nat} {v : Value} {x : DataW H × List MemPlace} (ht : P.underlying t = some (.slice e)) (hs : P.underlying e = some (.struct fs)) (hone : oneCellFields P fs = true) (hC : P.cellsOf e = fs.size) (hpos : 0 < fs.size)
    (hf : DataW.trod enc P w base spare held fuel t [v] = some x) :
    ∃ (a : Option Addr) (n cap : Nat) (z : Nat → Nat → Value), v = .slice a n cap ∧ n ≤ cap ∧ cap ≤ maxLen ∧
      (0 < n → ∃ b off, a = some ⟨b, off, none⟩ ∧ b < w.heap.size ∧ ∀ i, i < n → ∀ j (hj : j < fs.size), w.cell? ⟨b, off + i * fs.size + j, none⟩ = some (z i j) ∧ ∃ m y, DataW.trod enc P w base spare held m fs[j].type [z i j] = some y) := by
  rcases open_slice ht hf with ⟨hcs, _⟩ | ⟨a', len', cap', m, n', D, Pl, hcs, hb, hl, hm, hmm, hx, hcell⟩
  · simp at hcs
    subst hcs
    exact ⟨none, 0, 0, fun _ _ => .bool false, rfl, Nat.le_refl _, Nat.zero_le _, fun h => absurd h (Nat.lt_irrefl 0)⟩
  · simp at hcs
    subst hcs
    have hlm : len' ≤ m := by rw [hmm]; split <;> omega
    have hel : ∀ i, i < len' → ∃ z : Nat → Value, ∀ j (hj : j < fs.size), w.cell? (a'.add (i * fs.size + j)) = some (z j) ∧ ∃ m y, DataW.trod enc P w base spare held m fs[j].type [z j] = some y := fun i hi' => by
      obtain ⟨cs', hc, ht'⟩ := hcell i (by omega)
      rw [hC] at hc
      obtain ⟨_, hcl, hat⟩ := World.cells?_some hc
      obtain ⟨k, hl', hfl⟩ := down_struct hs hone hC ht'
      refine ⟨fun j => cs'.getD j (.bool false), fun j hj => ?_⟩
      obtain ⟨v', y, hv', hy⟩ := hfl j fs[j] (Array.getElem?_eq_getElem hj)
      have e1 : cs'.getD j (.bool false) = v' := by simp [List.getD, hv']
      refine ⟨?_, k, y, by show DataW.trod enc P w base spare held k fs[j].type [cs'.getD j (.bool false)] = some y; rw [e1]; exact hy⟩
      show w.cell? (a'.add (i * fs.size + j)) = some (cs'.getD j (.bool false))
      rw [← Go.Deep.add_add, hat j hj, e1]; exact hv'
    obtain ⟨z, hz⟩ := choose_lt hel
    refine ⟨some a', len', cap', z, rfl, hl, hm, fun hn => ?_⟩
    obtain ⟨b, off, spot⟩ := a'
    have h0 := (hz 0 hn 0 hpos).1
    have hspot : spot = none := by simpa [Addr.add] using World.cell?_spot h0
    subst hspot
    refine ⟨b, off, rfl, World.block_lt_of_cell? w ⟨b, off, none⟩ (by simpa [Addr.add] using h0), fun i hi' j hj => ?_⟩
    have h1 := hz i hi' j hj
    rw [Addr.add_lit] at h1
    rw [Nat.add_assoc]; exact h1
/-- a slice of int64s -/
theorem down_i64s {t e : TypeId} {fuel : Nat} {v : Value} {x : DataW H × List MemPlace} (ht : P.underlying t = some (.slice e)) (he : P.underlying e = some (.int .i64)) (hC : P.cellsOf e = 1)
    (hf : DataW.trod enc P w base spare held fuel t [v] = some x) :
    ∃ (a : Option Addr) (n cap : Nat) (z : Nat → Int), v = .slice a n cap ∧ n ≤ cap ∧ cap ≤ maxLen ∧ S1 w a n z ∧ ∀ j, j < n → (Lit.int .i64 (z j)).wf = true := by
  rcases open_slice ht hf with ⟨hcs, _⟩ | ⟨a', len', cap', m, n', D, Pl, hcs, hb, hl, hm, hmm, hx, hcell⟩
  · simp at hcs
    subst hcs
    exact ⟨none, 0, 0, fun _ => 0, rfl, Nat.le_refl _, Nat.zero_le _, (fun h => absurd h (Nat.lt_irrefl 0)), fun j hj => absurd hj (Nat.not_lt_zero j)⟩
  · simp at hcs
    subst hcs
    have hlm : len' ≤ m := by rw [hmm]; split <;> omega
    have hel : ∀ i, i < len' → ∃ z : Int, w.cell? (a'.add i) = some (.int .i64 z) ∧ (Lit.int .i64 z).wf = true := fun i hi' => by
      obtain ⟨cs', hc, ht'⟩ := hcell i (by omega)
      rw [hC] at hc
      obtain ⟨_, hcl, hat⟩ := World.cells?_some hc
      obtain ⟨z, hz, _, hw⟩ := DataW.trod_int he ht'
      subst hz
      have := hat 0 (by omega)
      refine ⟨z, ?_, hw⟩
      have e1 : a'.add i = (a'.add (i * 1)).add 0 := by rw [Go.Deep.add_add]; simp
      rw [e1, this]; rfl
    obtain ⟨z, hz⟩ := choose_lt hel
    refine ⟨some a', len', cap', z, rfl, hl, hm, fun hn => ?_, fun j hj => (hz j hj).2⟩
    obtain ⟨b, off, spot⟩ := a'
    have h0 := (hz 0 hn).1
    have hspot : spot = none := by simpa [Addr.add] using World.cell?_spot h0
    subst hspot
    refine ⟨b, off, rfl, World.block_lt_of_cell? w ⟨b, off, none⟩ (by simpa [Addr.add] using h0), fun i hi' => ?_⟩
    have h1 := (hz i hi').1
    rw [Addr.add_lit] at h1
    exact h1
theorem arg_i64s {r : Reach} {b0 : Nat} {t e : TypeId} {v : Value} {d : DataW H} {p : List MemPlace} (ht : P.underlying t = some (.slice e)) (he : P.underlying e = some (.int .i64)) (hC : P.cellsOf e = 1)
    (hv : Value.okWide P w r b0 t v) (h : DataW.Trod enc P w base spare held t v d p) :
    ∃ (a : Option Addr) (n cap : Nat) (z : Nat → Int), v = .slice a n cap ∧ n ≤ cap ∧ cap ≤ maxLen ∧ S1 w a n z ∧ ∀ j, j < n → (Lit.int .i64 (z j)).wf = true := by
  obtain ⟨a, n, cap, rfl⟩ := okWide_slice ht hv
  obtain ⟨fuel, hf⟩ := h
  exact down_i64s ht he hC (fuel := fuel) (by simpa [Value.cells] using hf)
end
/-- A slice of structs of 'k' cells: cell j of element i is 'z i j'. -/
def SK (w : World) (a : Option Addr) (n k : Nat) (z : Nat → Nat → Value) : Prop :=
  0 < n → ∃ b off, a = some ⟨b, off, none⟩ ∧ b < w.heap.size ∧ ∀ i, i < n → ∀ j, j < k → w.cell? ⟨b, off + i * k + j, none⟩ = some (z i j)
/-- Months: a name and two numbers each. -/
def S3 (w : World) (a : Option Addr) (n : Nat) (nm : Nat → ByteArray) (dy lp : Nat → Int) : Prop :=
  0 < n → ∃ b off, a = some ⟨b, off, none⟩ ∧ b < w.heap.size ∧ ∀ i, i < n → w.cell? ⟨b, off + i * 3, none⟩ = some (.string (nm i)) ∧ w.cell? ⟨b, off + i * 3 + 1, none⟩ = some (.int .i64 (dy i)) ∧ w.cell? ⟨b, off + i * 3 + 2, none⟩ = some (.int .i64 (lp i))
/-- Rules: two numbers and a truth value each. -/
def R3 (w : World) (a : Option Addr) (n : Nat) (ev rs : Nat → Int) (lf : Nat → Bool) : Prop :=
  0 < n → ∃ b off, a = some ⟨b, off, none⟩ ∧ b < w.heap.size ∧ ∀ i, i < n → w.cell? ⟨b, off + i * 3, none⟩ = some (.int .i64 (ev i)) ∧ w.cell? ⟨b, off + i * 3 + 1, none⟩ = some (.int .i64 (rs i)) ∧ w.cell? ⟨b, off + i * 3 + 2, none⟩ = some (.bool (lf i))
theorem S3.ext {w w' : World} {a : Option Addr} {n : Nat} {nm : Nat → ByteArray} {dy lp : Nat → Int} (s : S3 w a n nm dy lp) (e : Ext w w') : S3 w' a n nm dy lp := fun hn => by
  obtain ⟨b, off, ha, hb, hc⟩ := s hn
  exact ⟨b, off, ha, Nat.lt_of_lt_of_le hb e.size, fun j hj => by rw [e.cell hb, e.cell hb, e.cell hb]; exact hc j hj⟩
theorem S3.at {w : World} {a : Option Addr} {n : Nat} {nm : Nat → ByteArray} {dy lp : Nat → Int} (s : S3 w a n nm dy lp) {j : Nat} (hj : j < n) :
    ∃ b off, a = some ⟨b, off, none⟩ ∧ b < w.heap.size ∧ w.cell? ⟨b, off + j * 3, none⟩ = some (.string (nm j)) ∧ w.cell? ⟨b, off + j * 3 + 1, none⟩ = some (.int .i64 (dy j)) ∧ w.cell? ⟨b, off + j * 3 + 2, none⟩ = some (.int .i64 (lp j)) := by
  obtain ⟨b, off, ha, hb, hc⟩ := s (by omega)
  exact ⟨b, off, ha, hb, hc j hj⟩
theorem R3.ext {w w' : World} {a : Option Addr} {n : Nat} {ev rs : Nat → Int} {lf : Nat → Bool} (s : R3 w a n ev rs lf) (e : Ext w w') : R3 w' a n ev rs lf := fun hn => by
  obtain ⟨b, off, ha, hb, hc⟩ := s hn
  exact ⟨b, off, ha, Nat.lt_of_lt_of_le hb e.size, fun j hj => by rw [e.cell hb, e.cell hb, e.cell hb]; exact hc j hj⟩
theorem R3.at {w : World} {a : Option Addr} {n : Nat} {ev rs : Nat → Int} {lf : Nat → Bool} (s : R3 w a n ev rs lf) {j : Nat} (hj : j < n) :
    ∃ b off, a = some ⟨b, off, none⟩ ∧ b < w.heap.size ∧ w.cell? ⟨b, off + j * 3, none⟩ = some (.int .i64 (ev j)) ∧ w.cell? ⟨b, off + j * 3 + 1, none⟩ = some (.int .i64 (rs j)) ∧ w.cell? ⟨b, off + j * 3 + 2, none⟩ = some (.bool (lf j)) := by
  obtain ⟨b, off, ha, hb, hc⟩ := s (by omega)
  exact ⟨b, off, ha, hb, hc j hj⟩
end Go.Proofs.Ytmbpjlgeneemjaa

namespace Go.Proofs.Ytmbpjlgeneemjaa
open Go.ChangeShapes Go.WideShapes Go.RowKit Go.Deep
set_option linter.unusedVariables false
section
variable {H : Type} {enc : TypeId × Value → H} {P : Program} {w : World} {base : Nat} {spare : Nat → Bool} {held : Bool}
theorem down_u8s {t e : TypeId} {fuel : Nat} {v : Value} {x : DataW H × List MemPlace} (ht : P.underlying t = some (.slice e)) (he : P.underlying e = some (.int .u8)) (hC : P.cellsOf e = 1)
    (hf : DataW.trod enc P w base spare held fuel t [v] = some x) :
    ∃ (a : Option Addr) (n cap : Nat) (f : Nat → Nat), v = .slice a n cap ∧ n ≤ cap ∧ cap ≤ maxLen ∧ U8 w a n f ∧ ∀ j, j < n → f j ≤ 255 := by
  rcases open_slice ht hf with ⟨hcs, _⟩ | ⟨a', len', cap', m, n', D, Pl, hcs, hb, hl, hm, hmm, hx, hcell⟩
  · simp at hcs
    subst hcs
    exact ⟨none, 0, 0, fun _ => 0, rfl, Nat.le_refl _, Nat.zero_le _, (fun h => absurd h (Nat.lt_irrefl 0)), fun j hj => absurd hj (Nat.not_lt_zero j)⟩
  · simp at hcs
    subst hcs
    have hlm : len' ≤ m := by rw [hmm]; split <;> omega
    have hel : ∀ i, i < len' → ∃ z : Nat, w.cell? (a'.add i) = some (.int .u8 (z : Int)) ∧ z ≤ 255 := fun i hi' => by
      obtain ⟨cs', hc, ht'⟩ := hcell i (by omega)
      rw [hC] at hc
      obtain ⟨_, hcl, hat⟩ := World.cells?_some hc
      obtain ⟨z, hz, _, hw⟩ := DataW.trod_int he ht'
      subst hz
      have hw' : 0 ≤ z ∧ z ≤ 255 := by simpa [Lit.wf, IntKind.min, IntKind.max, IntKind.signed, IntKind.bits] using hw
      have := hat 0 (by omega)
      obtain ⟨k, rfl⟩ := Int.eq_ofNat_of_zero_le hw'.1
      refine ⟨k, ?_, by omega⟩
      have e1 : a'.add i = (a'.add (i * 1)).add 0 := by rw [Go.Deep.add_add]; simp
      rw [e1, this]; rfl
    obtain ⟨z, hz⟩ := choose_lt hel
    refine ⟨some a', len', cap', z, rfl, hl, hm, fun hn => ?_, fun j hj => (hz j hj).2⟩
    obtain ⟨b, off, spot⟩ := a'
    have h0 := (hz 0 hn).1
    have hspot : spot = none := by simpa [Addr.add] using World.cell?_spot h0
    subst hspot
    refine ⟨b, off, rfl, World.block_lt_of_cell? w ⟨b, off, none⟩ (by simpa [Addr.add] using h0), fun i hi' => ?_⟩
    have h1 := (hz i hi').1
    rw [Addr.add_lit] at h1
    exact h1
theorem arg_u8s {r : Reach} {b0 : Nat} {t e : TypeId} {v : Value} {d : DataW H} {p : List MemPlace} (ht : P.underlying t = some (.slice e)) (he : P.underlying e = some (.int .u8)) (hC : P.cellsOf e = 1)
    (hv : Value.okWide P w r b0 t v) (h : DataW.Trod enc P w base spare held t v d p) :
    ∃ (a : Option Addr) (n cap : Nat) (f : Nat → Nat), v = .slice a n cap ∧ n ≤ cap ∧ cap ≤ maxLen ∧ U8 w a n f ∧ ∀ j, j < n → f j ≤ 255 := by
  obtain ⟨a, n, cap, rfl⟩ := okWide_slice ht hv
  obtain ⟨fuel, hf⟩ := h
  exact down_u8s ht he hC (fuel := fuel) (by simpa [Value.cells] using hf)
end
end Go.Proofs.Ytmbpjlgeneemjaa
