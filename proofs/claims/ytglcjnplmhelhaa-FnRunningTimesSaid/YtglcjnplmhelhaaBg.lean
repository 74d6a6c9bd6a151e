/- What an argument of bytes holds. The law on fusees: its walk. The law on running times and stopworks: its walk. -/
import Derived.Test.YtglcjnplmhelhaaBf
import Derived.Test.YtglcjnplmhelhaaBb
import Derived.Deep.DeepCutAuto

namespace Go.Proofs.Ytglcjnplmhelhaa
open Go.ChangeShapes Go.WideShapes Go.RowKit Go.Deep
set_option linter.unusedVariables false
section
variable {H : Type} {enc : TypeId × Value → H} {P : Program} {w : World} {base : Nat} {spare : Nat → Bool} {held : Bool}
theorem down_u8s {t e : TypeId} {fuel : Nat} {v : Value} {x : DataW H × List MemPlace} (ht : P.underlying t = some (.slice e)) (he : P.underlying e = some (.int .u8)) (hC : P.cellsOf e = 1)
    (hf : DataW.trod enc P w base spare held fuel t [v] = some x) :
    ∃ (a : Option Addr) (n cap : Nat) (f : Nat → Nat), v = .slice a n cap ∧ n ≤ cap ∧ cap ≤ maxLen ∧ U8 w a n f ∧ ∀ j, j < n → f j ≤ 255 := by
  rcases open_slice ht hf with ⟨hcs, _⟩ | ⟨a', len', cap', m, n', D, Pl, hcs, hb, hl, hm, hmm, hx, hcell⟩
  · simp at hcs
    subst hcs
    exact ⟨none, 0, 0, fun _ => 0, rfl, Nat.le_refl _, Nat.zero_le _, (fun h => absurd h (Nat.lt_irrefl 0)), fun j hj => absurd hj (Nat.not_lt_zero j)⟩
  · simp at hcs
    subst hcs
    have hlm : len' ≤ m := by rw [hmm]; split <;> omega
    have hel : ∀ i, i < len' → ∃ z : Nat, w.cell? (a'.add i) = some (.int .u8 (z : Int)) ∧ z ≤ 255 := fun i hi' => by
      obtain ⟨cs', hc, ht'⟩ := hcell i (by omega)
      rw [hC] at hc
      obtain ⟨_, hcl, hat⟩ := World.cells?_some hc
      obtain ⟨z, hz, _, hw⟩ := DataW.trod_int he ht'
      subst hz
      have hw' : 0 ≤ z ∧ z ≤ 255 := by simpa [Lit.wf, IntKind.min, IntKind.max, IntKind.signed, IntKind.bits] using hw
      have := hat 0 (by omega)
      obtain ⟨k, rfl⟩ := Int.eq_ofNat_of_zero_le hw'.1
      refine ⟨k, ?_, by omega⟩
      have e1 : a'.add i = (a'.add (i * 1)).add 0 := by rw [Go.Deep.add_add]; simp
      rw [e1, this]; rfl
    obtain ⟨z, hz⟩ := choose_lt hel
    refine ⟨some a', len', cap', z, rfl, hl, hm, fun hn => ?_, fun j hj => (hz j hj).2⟩
    obtain ⟨b, off, spot⟩ := a'
    have h0 := (hz 0 hn).1
    have hspot : spot = none := by simpa [Addr.add] using World.cell?_spot h0
    subst hspot
    refine ⟨b, off, rfl, World.block_lt_of_cell? w ⟨b, off, none⟩ (by simpa [Addr.add] using h0), fun i hi' => ?_⟩
    have h1 := (hz i hi').1
    rw [Addr.add_lit] at h1
    exact h1
theorem arg_u8s {r : Reach} {b0 : Nat} {t e : TypeId} {v : Value} {d : DataW H} {p : List MemPlace} (ht : P.underlying t = some (.slice e)) (he : P.underlying e = some (.int .u8)) (hC : P.cellsOf e = 1)
    (hv : Value.okWide P w r b0 t v) (h : DataW.Trod enc P w base spare held t v d p) :
    ∃ (a : Option Addr) (n cap : Nat) (f : Nat → Nat), v = .slice a n cap ∧ n ≤ cap ∧ cap ≤ maxLen ∧ U8 w a n f ∧ ∀ j, j < n → f j ≤ 255 := by
  obtain ⟨a, n, cap, rfl⟩ := okWide_slice ht hv
  obtain ⟨fuel, hf⟩ := h
  exact down_u8s ht he hC (fuel := fuel) (by simpa [Value.cells] using hf)
end
end Go.Proofs.Ytglcjnplmhelhaa

namespace Go.Proofs.Ytglcjnplmhelhaa
open Go.RowKit
set_option linter.unusedVariables false
set_option linter.unusedSimpArgs false

set_option maxHeartbeats 400000 in
theorem f6same_c (aa ab : Option Addr) (n m ca cb : Nat) (f g : Nat → Int) (w : World) (hn : n ≤ 1048576) (hm : m ≤ 1048576) (ha : S1 w aa n f) (hb : S1 w ab m g) :
    Calls Try.prog 36 #[.slice aa n ca, .slice ab m cb] w fun e w' => e = .returned (.bool (n == m && eq1To f g n)) ∧ Ext w w' := by
  have HA := Lib.hid ha
  have HB := Lib.hid hb
  clear ha hb
  by_cases hnm : n = m
  · subst hnm
    go_enter Try.func36, Try.ntmps36
    go_wp2_with fail
    go_loopw [5] (fun i wr => ∃ k : Nat, k ≤ n ∧ i = .int .i64 k ∧ Ext w wr ∧ eq1To f g k = true) (fun i _ => n - (intOf i).toNat)
    case atStart => exact ⟨0, by omega, rfl, Ext.refl _, rfl⟩
    case round =>
      obtain ⟨k, hk, rfl, hbl, heq⟩ := hrel
      have HE := Lib.hid heq
      clear heq
      by_cases hlt : k < n
      · obtain ⟨b1, o1, rfl, hb1, q1⟩ := (S1.ext HA.out hbl).at hlt
        obtain ⟨b2, o2, rfl, hb2, q3⟩ := (S1.ext HB.out hbl).at hlt
        by_cases hne : f k = g k
        · have hb0 : (f k != g k) = false := by simpa using hne
          have HN := Lib.hid hne
          clear hne
          go_wp2_with fail
          refine wp_region_past (by kernel_rfl) (by kernel_rfl) ?_
          repeat (go_big_quiet_step (fail))
          refine wpQuiet_nil ?_
          rintro _ ⟨wx, rfl⟩
          go_wp2_with fail
          exact ⟨⟨k + 1, by omega, by go_num, (by repeat (first | with_reducible exact Ext.refl _ | with_reducible assumption | with_reducible refine Ext.alloc ?_ _ | with_reducible refine Ext.drew ?_ | (with_reducible refine Ext.setAt ?_ _ _ _ ?_; rotate_left; omega) | with_reducible refine Ext.trans ?_ (by assumption) | with_reducible exact Past.bel _ | with_reducible refine Ext.trans ?_ (Past.bel _))), by simp [eq1To, HE.out, HN.out]⟩, by simp [intOf]; omega⟩
        · have hb0 : (f k != g k) = true := by simpa using hne
          have HN := Lib.hid hne
          clear hne
          go_wp2_with fail
          refine wp_region_past (by kernel_rfl) (by kernel_rfl) ?_
          repeat (go_big_quiet_step (fail))
          refine wpQuiet_nil ?_
          rintro _ ⟨wx, rfl⟩
          go_wp2_with fail
          go_ret
          exact ⟨ret_bool (by rw [eq1To_ff hlt HN.out]; simp), (by repeat (first | with_reducible exact Ext.refl _ | with_reducible assumption | with_reducible refine Ext.alloc ?_ _ | with_reducible refine Ext.drew ?_ | (with_reducible refine Ext.setAt ?_ _ _ _ ?_; rotate_left; omega) | with_reducible refine Ext.trans ?_ (by assumption) | with_reducible exact Past.bel _ | with_reducible refine Ext.trans ?_ (Past.bel _)))⟩
      · obtain rfl : k = n := by omega
        go_wp2_with fail
        go_ret
        exact ⟨ret_bool (by simp [HE.out]), hbl⟩
  · have hne : ((n : Int) != (m : Int)) = true := by simp; omega
    go_enter Try.func36, Try.ntmps36
    go_wp2_with fail
    go_ret
    exact ⟨ret_bool (by simp [hnm]), Ext.refl _⟩
theorem f6same_self (aa ab : Option Addr) (n ca cb : Nat) (f : Nat → Int) (w : World) (hn : n ≤ 1048576) (ha : S1 w aa n f) (hb : S1 w ab n f) :
    Calls Try.prog 36 #[.slice aa n ca, .slice ab n cb] w fun e w' => e = .returned (.bool true) ∧ Ext w w' :=
  (f6same_c aa ab n n ca cb f f w hn hn ha hb).mono fun e w' ⟨he, hx⟩ => ⟨by rw [he, eq1To_self]; simp, hx⟩
theorem f6size_c (n : Int) (w : World) (h0 : -9223372036854775807 ≤ n) (h1 : n ≤ 9223372036854775807) :
    Calls Try.prog 37 #[.int .i64 n] w fun e w' => e = .returned (.int .i64 (absI n)) ∧ w = w' := by
  go_enter Try.func37, Try.ntmps37
  go_wp2
  all_goals (go_ret; exact ⟨ret_abs (by unfold absI; split <;> omega), rfl⟩)
theorem outs_getD (F : Nat → Int) (N : Nat) : ∀ j, j < N → (outs F N).getD j 0 = F j := by
  induction N with
  | zero => intro j h; omega
  | succ N ih =>
    intro j hj
    simp only [outs, List.getD, List.getElem?_append, outs_len]
    by_cases e : j < N
    · rw [if_pos e]; exact ih j e
    · have e2 : j = N := by omega
      subst e2
      rw [if_neg e]; simp
theorem fuC_no {n : Nat} {wd pl : Nat → Int} {f t st mo : Int} (h : fuC n wd pl f t st mo = 0) : spV n wd pl = true ∧ inS n wd f = true ∧ inS n wd t = true ∧ f ≤ t ∧ inB st 1 2000 = true ∧ inB mo 0 1000000000 = true ∧ pullF wd pl f ≠ 0 := by
  rw [fuC] at h
  split at h
  · rename_i h1
    split at h
    · rename_i h2
      split at h
      · exact absurd h (by decide)
      · rename_i h3
        simp only [fuB, Bool.and_eq_true, decide_eq_true_eq] at h2
        exact ⟨h1, h2.1, h2.2.1, h2.2.2.1, h2.2.2.2.1, h2.2.2.2.2, by simpa using h3⟩
    · exact absurd h (by decide)
  · exact absurd h (by decide)
theorem absI_near {q p mo : Int} (h1 : 2 * (q * p - mo) ≤ p) (h2 : 2 * (mo - q * p) < p) : 2 * absI (q * p - mo) ≤ p := by unfold absI; split <;> omega
set_option maxHeartbeats 4000000 in
theorem walkFusees (a : Option Addr) (n c : Nat) (f : Nat → Nat) (hm : n ≤ maxLen) (w : World) (hs : U8 w a n f) (hl : ∀ j, j < n → f j ≤ 255) :
    Calls Try.prog 7 #[.slice a n c] w fun e w' => e = .returned (.bool true) ∧ Ext w w' := by
  by_cases hn : n ≤ 4096
  · have e1 : decide (4096 < n) = false := decide_eq_false (by omega)
    go_enter Try.func7, Try.ntmps7
    go_wp2_with (go_at_call 9; ((with_reducible refine (f6big_c _ _ _ _).mono ?_); rintro e w' ⟨rfl, rfl⟩))
    refine (drawFusee_c a n c f w (by omega) hs hl).mono ?_
    rintro e w2 ⟨a', n', c', wd, pl, fr, tz, st, mo, rfl, h2⟩
    have hn' : n' ≤ 1048576 := by have := h2.n21; omega
    have HS := Lib.hid (h2.s2.ext (show Ext w2 (w2.alloc (.cells #[.slice a' n' c'] 26)) from (by repeat (first | with_reducible exact Ext.refl _ | with_reducible assumption | with_reducible refine Ext.alloc ?_ _ | with_reducible refine Ext.drew ?_ | (with_reducible refine Ext.setAt ?_ _ _ _ ?_; rotate_left; omega) | with_reducible refine Ext.trans ?_ (by assumption) | with_reducible exact Past.bel _ | with_reducible refine Ext.trans ?_ (Past.bel _)))))
    have hxw : Ext w (w2.alloc (.cells #[.slice a' n' c'] 26)) := Ext.trans h2.ext (by repeat (first | with_reducible exact Ext.refl _ | with_reducible assumption | with_reducible refine Ext.alloc ?_ _ | with_reducible refine Ext.drew ?_ | (with_reducible refine Ext.setAt ?_ _ _ _ ?_; rotate_left; omega) | with_reducible refine Ext.trans ?_ (by assumption) | with_reducible exact Past.bel _ | with_reducible refine Ext.trans ?_ (Past.bel _)))
    have k0 : (w2.alloc (.cells #[.slice a' n' c'] 26)).cell? ⟨w2.heap.size, 0, none⟩ = some (.slice a' n' c') := by simp [go_sem]
    have HK := Lib.hid (fun (w' : World) (hq : Ext (w2.alloc (.cells #[.slice a' n' c'] 26)) w') => (show w'.cell? ⟨w2.heap.size, 0, none⟩ = some (.slice a' n' c') from by rw [hq.cell (by simp)]; exact k0))
    have hz2 : w2.heap.size < (w2.alloc (.cells #[.slice a' n' c'] 26)).heap.size := by simp
    clear h2 k0
    go_wp2_with fail
    refine (implFuseeRadii_c hn' HS.out fr tz st mo).mono ?_
    rintro e w3 ⟨b3, cap3, rfl, hx3, ho3⟩
    have HO3 := Lib.hid ho3
    clear ho3
    have p3 := HK.out w3 hx3
    go_wp2_with fail
    refine (specFuseeRadii_c hn' (HS.out.ext hx3) fr tz st mo).mono ?_
    rintro e w4 ⟨b4, cap4, rfl, hx4, ho4⟩
    have HO4 := Lib.hid ho4
    clear ho4
    have hx04 := Ext.trans hx3 hx4
    have p4 := HK.out w4 hx04
    have hlen : (fuRes n' wd pl fr tz st mo).length ≤ 1048576 := Nat.le_trans fuRes_len (by omega)
    obtain ⟨C, hC⟩ : ∃ C, C = fuC n' wd pl fr tz st mo := ⟨_, rfl⟩
    rw [← hC]
    have HC := Lib.hid hC
    have c1 : (C != C) = false := by simp
    clear hC
    go_wp2_with fail
    refine (f6same_self _ _ _ _ _ _ _ hlen (own_s1 (own_ext HO3.out hx4)) (own_s1 HO4.out)).mono ?_
    rintro e w5 ⟨rfl, hx5⟩
    have hx05 := Ext.trans hx04 hx5
    have S5 := Lib.hid (own_s1 (own_ext HO3.out (Ext.trans hx4 hx5)))
    have hw5 := Ext.trans hxw hx05
    clear HO3 HO4 p3 p4
    by_cases c4 : C = 0
    · obtain ⟨q1, q2, q3, q4, q5, q6, q7⟩ := fuC_no (HC.out.symm.trans c4)
      have b := spV_b q1
      have hst := inB_t.1 q5
      have hmo := inB_t.1 q6
      have xb := b.inS q2
      have yb := b.inS q3
      obtain ⟨N, hN⟩ : ∃ N, N = fuN fr tz st := ⟨_, rfl⟩
      have hr : fuRes n' wd pl fr tz st mo = outs (fuF wd pl fr st mo) N := by
        rw [fuRes, fuG, q1, fuB_nn q2 q3 q4 q5 q6, hN]
        have : (pullF wd pl fr == 0) = false := by simpa using q7
        rw [this]; rfl
      have hNl : (fuRes n' wd pl fr tz st mo).length = N := by rw [hr, outs_len]
      rw [hNl] at hlen ⊢
      have s5 := S5.out
      rw [hNl, hr] at s5
      have S6 := Lib.hid s5
      have hNe : (N : Int) = (tz - fr) / st + 1 := by
        have := Int.ediv_nonneg (show 0 ≤ tz - fr by omega) (show 0 ≤ st by omega)
        rw [hN, fuN]; omega
      have hPj : ∀ j, j < N → ∃ p q : Int, 0 ≤ (j : Int) * st ∧ (j : Int) * st ≤ 2000 ∧ 1 ≤ p ∧ p ≤ 1000000 ∧ q = fuF wd pl fr st mo j ∧ 2 * absI (q * p - mo) ≤ p ∧ -1000000 ≤ q * p ∧ q * p ≤ 2000000000 ∧ (∀ m, m < j → q ≤ fuF wd pl fr st mo m) ∧ ∀ (W : World), Ext (w2.alloc (.cells #[.slice a' n' c'] 26)) W → Calls Try.prog 11 #[.agg #[.slice a' n' c'], .int .i64 (fr + (j : Int) * st)] W (fun e w' => e = .returned (.tuple #[.int .i64 p, .int .i64 0]) ∧ Ext W w') := by
        intro j hj
        rw [hN] at hj
        obtain ⟨z1, z2⟩ := fuN_in q4 hst.1 hj
        have i2 := inB_t.1 q2
        have i3 := inB_t.1 q3
        have hin : ∀ m : Nat, m ≤ j → inS n' wd (fr + (m : Int) * st) = true := fun m hm => by
          obtain ⟨y1, y2⟩ := fuN_in q4 hst.1 (show m < fuN fr tz st by omega)
          exact inB_t.2 ⟨by omega, by omega⟩
        have p0 := b.pull q2
        have p1 := b.mono q2 (hin j (Nat.le_refl _)) z1
        have p2 := b.pull (hin j (Nat.le_refl _))
        obtain ⟨p, hp⟩ : ∃ p, p = pullF wd pl (fr + (j : Int) * st) := ⟨_, rfl⟩
        rw [← hp] at p1 p2
        have pp : 1 ≤ p := by omega
        have nb := nearD_bd (n := mo) (d := p) (by omega)
        have na := absI_near nb.1 nb.2
        refine ⟨p, nearD mo p, by omega, by omega, pp, p2.2, by rw [fuF, hp], na, ?_, ?_, fun m hm => ?_, fun W hq => ?_⟩
        · have := nb.2; omega
        · have := nb.1; omega
        · rw [fuF]
          have h5 := b.mono q2 (hin m (by omega)) (fuN_in q4 hst.1 (show m < fuN fr tz st by omega)).1
          have h6 : (m : Int) * st ≤ (j : Int) * st := Int.mul_le_mul_of_nonneg_right (by omega) (by omega)
          have h7 := b.mono (hin m (by omega)) (hin j (Nat.le_refl _)) (by omega)
          rw [← hp] at h7
          exact nearD_anti (by omega) h7 hmo.1
        · have := implPullAt_c (c := c') hn' (HS.out.ext hq) (fr + (j : Int) * st)
          rw [(paV_ok q1 (hin j (Nat.le_refl _))).1, (paV_ok q1 (hin j (Nat.le_refl _))).2, ← hp] at this
          exact this
      have HP := Lib.hid hPj
      have HNe := Lib.hid hNe
      have hNb : N ≤ 2001 := by have := fuN_le q4 hst.1; rw [← hN] at this; omega
      have t1 : (tz - fr).tdiv st = (tz - fr) / st := Int.tdiv_eq_ediv_of_nonneg (by omega)
      have hdv := ediv_bd (N := 2000) (show 0 < st by omega) (show -2000 ≤ tz - fr by omega) (show tz - fr ≤ 2000 by omega) (by omega)
      obtain ⟨s0, s1⟩ := hst
      obtain ⟨m0, m1⟩ := hmo
      obtain ⟨x0, x1⟩ := xb
      obtain ⟨y0, y1⟩ := yb
      clear hPj hNe hr hNl s5 S5 b q1 q2 q3 q4 q5 q6 q7 hN HC
      subst c4
      go_wp2_with fail
      go_loopw [12] (fun i wr => ∃ j : Nat, j ≤ N ∧ i = .int .i64 j ∧ Ext w5 wr) (fun i _ => N - (intOf i).toNat)
      case atStart => exact ⟨0, by omega, rfl, (by repeat (first | with_reducible exact Ext.refl _ | with_reducible assumption | with_reducible refine Ext.alloc ?_ _ | with_reducible refine Ext.drew ?_ | (with_reducible refine Ext.setAt ?_ _ _ _ ?_; rotate_left; omega) | with_reducible refine Ext.trans ?_ (by assumption) | with_reducible exact Past.bel _ | with_reducible refine Ext.trans ?_ (Past.bel _)))⟩
      case round =>
        obtain ⟨j, hj, rfl, hbl⟩ := hrel
        have hb0 := Ext.trans hx05 hbl
        have p4 := HK.out wr hb0
        have z0 : (0 : Int) ≤ (j : Int) := by omega
        have xx : Ext w wr := Ext.trans hxw hb0
        by_cases hlt : j < N
        · have z1 : (j : Int) < (N : Int) := by omega
          obtain ⟨p, q, u0, u1, u2, u3, u4, u5, u6, u7, u8, u9⟩ := HP.out j hlt
          have U9 := Lib.hid u9
          have U8' := Lib.hid u8
          obtain ⟨b1, o1, rfl, hb1, r1⟩ := (S6.out.ext hbl).at hlt
          rw [outs_getD _ _ _ hlt, ← u4] at r1
          obtain ⟨A, hA⟩ : ∃ A, A = absI (q * p - mo) := ⟨_, rfl⟩
          have HZ := Lib.hid (fun W => (hA ▸ f6size_c (q * p - mo) W (by omega) (by omega) : Calls Try.prog 37 #[.int .i64 (q * p - mo)] W fun e w' => e = .returned (.int .i64 A) ∧ W = w'))
          rw [← hA] at u5
          have a0 : 0 ≤ A := by rw [hA]; unfold absI; split <;> omega
          have d1 : ¬ p < 2 * A := by omega
          have d2 : decide (p < 2 * A) = false := decide_eq_false d1
          clear hA u9 u8 u4
          have r1' := Lib.hid (fun (w' : World) (hq : Ext wr w') => (show w'.cell? ⟨b1, o1 + j, none⟩ = some (.int .i64 q) from by rw [hq.cell hb1]; exact r1))
          clear r1
          go_wp2_with (go_at_call 11; ((with_reducible refine (U9.out _ (by repeat (first | with_reducible exact Ext.refl _ | with_reducible assumption | with_reducible refine Ext.alloc ?_ _ | with_reducible refine Ext.drew ?_ | (with_reducible refine Ext.setAt ?_ _ _ _ ?_; rotate_left; omega) | with_reducible refine Ext.trans ?_ (by assumption) | with_reducible exact Past.bel _ | with_reducible refine Ext.trans ?_ (Past.bel _)))).mono ?_); rintro e w' ⟨rfl, hx⟩; (first | (obtain ⟨wx, rfl⟩ := Past.again hx) | (obtain ⟨wx, rfl⟩ := Past.ofd hx) | (obtain ⟨wx, rfl⟩ := Past.of hx))))
          have hv3 : Ext wr wx.out := (by repeat (first | with_reducible exact Ext.refl _ | with_reducible assumption | with_reducible refine Ext.alloc ?_ _ | with_reducible refine Ext.drew ?_ | (with_reducible refine Ext.setAt ?_ _ _ _ ?_; rotate_left; omega) | with_reducible refine Ext.trans ?_ (by assumption) | with_reducible exact Past.bel _ | with_reducible refine Ext.trans ?_ (Past.bel _)))
          generalize wx.out = v3 at hv3 ⊢
          have r1 := r1'.out v3 hv3
          have hb3 : b1 < v3.heap.size := Nat.lt_of_lt_of_le hb1 hv3.size
          by_cases hj0 : j = 0
          · subst hj0
            rw [Nat.add_zero] at r1
            go_wp2_with fail
            refine wp_region_past (by kernel_rfl) (by kernel_rfl) ?_
            repeat (go_big_quiet_step ((go_at_call 37; exact Calls.past_same (HZ.out _))))
            refine wpQuiet_nil ?_
            rintro _ ⟨wx, rfl⟩
            go_wp2_with fail
            exact ⟨⟨1, by omega, by go_num, (by repeat (first | with_reducible exact Ext.refl _ | with_reducible assumption | with_reducible refine Ext.alloc ?_ _ | with_reducible refine Ext.drew ?_ | (with_reducible refine Ext.setAt ?_ _ _ _ ?_; rotate_left; omega) | with_reducible refine Ext.trans ?_ (by assumption) | with_reducible exact Past.bel _ | with_reducible refine Ext.trans ?_ (Past.bel _)))⟩, by simp [intOf]; omega⟩
          · obtain ⟨m, hmj⟩ : ∃ m, m = j - 1 := ⟨_, rfl⟩
            have y0 : (j : Int) - 1 = (m : Int) := by omega
            have y1 : (m : Int) < (N : Int) := by omega
            have y2 : (0 : Int) < (j : Int) := by omega
            have y3 : (0 : Int) ≤ (m : Int) := by omega
            have y5 : decide (0 < j) = true := decide_eq_true (by omega)
            obtain ⟨b2, o2, e2, -, r2⟩ := (S6.out.ext (Ext.trans hbl hv3)).at (show m < N by omega)
            obtain ⟨rfl, rfl⟩ : b1 = b2 ∧ o1 = o2 := by simpa using e2
            rw [outs_getD _ _ _ (show m < N by omega)] at r2
            have h8 := U8'.out m (by omega)
            obtain ⟨R, hR⟩ : ∃ R, R = fuF wd pl fr st mo m := ⟨_, rfl⟩
            rw [← hR] at r2 h8
            have d3 : ¬ R < q := by omega
            have d4 : decide (R < q) = false := decide_eq_false d3
            clear e2 hmj hj0 hR
            go_wp2_with fail
            refine wp_region_past (by kernel_rfl) (by kernel_rfl) ?_
            repeat (go_big_quiet_step ((go_at_call 37; exact Calls.past_same (HZ.out _))))
            refine wpQuiet_nil ?_
            rintro _ ⟨wx, rfl⟩
            go_wp2_with fail
            exact ⟨⟨j + 1, by omega, by go_num, (by repeat (first | with_reducible exact Ext.refl _ | with_reducible assumption | with_reducible refine Ext.alloc ?_ _ | with_reducible refine Ext.drew ?_ | (with_reducible refine Ext.setAt ?_ _ _ _ ?_; rotate_left; omega) | with_reducible refine Ext.trans ?_ (by assumption) | with_reducible exact Past.bel _ | with_reducible refine Ext.trans ?_ (Past.bel _)))⟩, by simp [intOf]; omega⟩
        · have z1 : ¬ (j : Int) < (N : Int) := by omega
          obtain rfl : j = N := by omega
          have hNe := HNe.out
          go_wp2_with fail
          go_ret
          exact ⟨rfl, xx⟩
    · have c5 : (C != 0) = true := by simpa using c4
      go_wp2_with fail
      go_ret
      exact ⟨rfl, hw5⟩
  · have e1 : decide (4096 < n) = true := decide_eq_true (by omega)
    go_enter Try.func7, Try.ntmps7
    go_wp2_with (go_at_call 9; ((with_reducible refine (f6big_c _ _ _ _).mono ?_); rintro e w' ⟨rfl, rfl⟩))
    go_ret
    exact ⟨rfl, (by repeat (first | with_reducible exact Ext.refl _ | with_reducible assumption | with_reducible refine Ext.alloc ?_ _ | with_reducible refine Ext.drew ?_ | (with_reducible refine Ext.setAt ?_ _ _ _ ?_; rotate_left; omega) | with_reducible refine Ext.trans ?_ (by assumption) | with_reducible exact Past.bel _ | with_reducible refine Ext.trans ?_ (Past.bel _)))⟩
end Go.Proofs.Ytglcjnplmhelhaa

namespace Go.Proofs.Ytglcjnplmhelhaa
open Go.RowKit
set_option linter.unusedVariables false
set_option linter.unusedSimpArgs false

theorem rt_no {n : Nat} {wd pl : Nat → Int} {t need : Int} (h : rtC n wd pl t need = 0) : spV n wd pl = true ∧ inS n wd t = true ∧ inB need 0 1000000 = true ∧ need ≤ pullF wd pl t := by
  rw [rtC] at h
  split at h
  · rename_i h1
    split at h
    · rename_i h2
      split at h
      · rename_i h3
        simp only [rtB, Bool.and_eq_true] at h2
        exact ⟨h1, h2.1, h2.2, h3⟩
      · exact absurd h (by decide)
    · exact absurd h (by decide)
  · exact absurd h (by decide)
theorem bs_no {n : Nat} {wd pl : Nat → Int} {wid : Int} (h : bsC n wd pl wid = 0) : spV n wd pl = true ∧ bsB n wd wid = true := by
  rw [bsC] at h
  split at h
  · rename_i h1
    split at h
    · rename_i h2
      exact ⟨h1, h2⟩
    · exact absurd h (by decide)
  · exact absurd h (by decide)
/-- what is said of the first part -/
theorem rt_law {n : Nat} {wd pl : Nat → Int} {t need : Int} (h : rtC n wd pl t need = 0) : ∃ V : Int, rtV n wd pl t need = V ∧ 0 ≤ V ∧ V ≤ 2001 ∧ 0 ≤ t ∧ t ≤ 2000 ∧ paC n wd pl (t - V) = 0 ∧ need ≤ paV n wd pl (t - V) ∧ (paC n wd pl (t - V - 1) = 0 → ¬ need ≤ paV n wd pl (t - V - 1)) := by
  obtain ⟨h1, h2, h3, h4⟩ := rt_no h
  have b := spV_b h1
  have r := runN_end b h2 h4
  obtain ⟨r1, r2⟩ := rt_ret h1 h2 h3 h4 r
  have hle := runN_le n wd pl t need 2001
  have ht := b.inS h2
  refine ⟨((runN n wd pl t need 2001 : Nat) : Int), r1.symm, by omega, by omega, ht.1, ht.2, ?_, ?_, fun h5 h6 => ?_⟩
  · exact (paV_ok h1 (r.ok _ (Nat.le_refl _)).1).2
  · rw [(paV_ok h1 (r.ok _ (Nat.le_refl _)).1).1]; exact (r.ok _ (Nat.le_refl _)).2
  · have h7 : spV n wd pl = true ∧ inS n wd (t - (runN n wd pl t need 2001 : Nat) - 1) = true := Classical.byContradiction fun h8 => paV_no h8 h5
    rw [(paV_ok h7.1 h7.2).1] at h6
    exact r.no ⟨h7.2, h6⟩
/-- what is said of the second part -/
theorem bs_law {n : Nat} {wd pl : Nat → Int} {wid : Int} (h : bsC n wd pl wid = 0) : ∃ x : Int, bsV n wd pl wid = x ∧ 1 ≤ wid ∧ wid ≤ 2000 ∧ 0 ≤ x ∧ x ≤ 2000 ∧ paC n wd pl x = 0 ∧ paC n wd pl (x + wid) = 0 ∧ 0 ≤ paV n wd pl x ∧ paV n wd pl x ≤ 1000000 ∧ 0 ≤ paV n wd pl (x + wid) ∧ paV n wd pl (x + wid) ≤ 1000000 ∧
    ∀ t, paC n wd pl t = 0 → paC n wd pl (t + wid) = 0 → 0 ≤ paV n wd pl t ∧ paV n wd pl t ≤ 1000000 ∧ 0 ≤ paV n wd pl (t + wid) ∧ paV n wd pl (t + wid) ≤ 1000000 ∧ ¬ paV n wd pl (t + wid) - paV n wd pl t < paV n wd pl (x + wid) - paV n wd pl x ∧ (paV n wd pl (t + wid) - paV n wd pl t = paV n wd pl (x + wid) - paV n wd pl x → ¬ t < x) := by
  obtain ⟨h1, h2⟩ := bs_no h
  have b := spV_b h1
  have h3 := inB_t.1 h2
  have b0 := b.wb 0 (by have := b.n2; omega)
  have b1 := b.wb (n - 1) (by have := b.n2; omega)
  obtain ⟨M, hM⟩ : ∃ M : Nat, M = (wd (n - 1) - wid - wd 0).toNat := ⟨_, rfl⟩
  have hx : bsV n wd pl wid = bstF wd pl wid (wd 0) M := by rw [bsV, h1, h2, hM]; rfl
  have hin := bstF_in wd pl wid (wd 0) M
  have hle := bstF_least wd pl wid (wd 0) M
  obtain ⟨x, hxe⟩ : ∃ x, x = bstF wd pl wid (wd 0) M := ⟨_, rfl⟩
  rw [← hxe] at hx hin hle
  have i1 : inS n wd x = true := inB_t.2 ⟨by omega, by omega⟩
  have i2 : inS n wd (x + wid) = true := inB_t.2 ⟨by omega, by omega⟩
  obtain ⟨v1, c1⟩ := paV_ok h1 i1
  obtain ⟨v2, c2⟩ := paV_ok h1 i2
  have p1 := b.pull i1
  have p2 := b.pull i2
  refine ⟨x, hx, by omega, by omega, by omega, by omega, c1, c2, by omega, by omega, by omega, by omega, fun t ht ht2 => ?_⟩
  have h7 : spV n wd pl = true ∧ inS n wd t = true := Classical.byContradiction fun h8 => paV_no h8 ht
  have h9 : spV n wd pl = true ∧ inS n wd (t + wid) = true := Classical.byContradiction fun h8 => paV_no h8 ht2
  have i3 := inB_t.1 h7.2
  have i4 := inB_t.1 h9.2
  obtain ⟨v3, c3⟩ := paV_ok h1 h7.2
  obtain ⟨v4, c4⟩ := paV_ok h1 h9.2
  have p3 := b.pull h7.2
  have p4 := b.pull h9.2
  have h10 := hle (t - wd 0).toNat (by omega)
  have e : wd 0 + ((t - wd 0).toNat : Int) = t := by omega
  rw [e] at h10
  simp only [winD] at h10
  rw [v1, v2, v3, v4]
  exact ⟨p3.1, p3.2, p4.1, p4.2, by omega, fun h11 => by have := h10.2 h11; omega⟩
theorem Dice.ext {w w' : World} {g : Nat} {a : Option Addr} {n c : Nat} (h : Dice w g a n c) (hx : Ext w w') : Dice w' g a n c := by
  obtain ⟨i, hh, hb, hi⟩ := h.blk
  exact ⟨⟨i, hh, hb.ext hx, hi⟩⟩
theorem S2.grown0 {w w' : World} {a : Option Addr} {n g : Nat} {h o : Nat → Int} (s : S2 w a n h o) (hg : w.grownBy w' (some g)) (hne : ∀ ad, a = some ad → n = 0 ∨ ad.block ≠ g) : S2 w' a n h o := by
  by_cases h0 : n = 0
  · intro h1; omega
  · exact s.but hg (fun ad e e2 => by
      rcases hne ad e with h1 | h1
      · omega
      · exact h1 (by injection e2))
set_option maxRecDepth 100000 in
set_option maxHeartbeats 8000000 in
theorem walkRunningTimes (a : Option Addr) (n c : Nat) (f : Nat → Nat) (hm : n ≤ maxLen) (w : World) (hs : U8 w a n f) (hl : ∀ j, j < n → f j ≤ 255) :
    Calls Try.prog 8 #[.slice a n c] w fun e w' => e = .returned (.bool true) ∧ Ext w w' := by
  by_cases hn : n ≤ 4096
  · have e1 : decide (4096 < n) = false := decide_eq_false (by omega)
    go_enter Try.func8, Try.ntmps8
    go_wp2_with (go_at_call 9; ((with_reducible refine (f6big_c _ _ _ _).mono ?_); rintro e w' ⟨rfl, rfl⟩))
    refine (drawRunning_c a n c f w (by omega) hs hl).mono ?_
    rintro e w2 ⟨a', n', c', wd, pl, x, y, rfl, h2⟩
    have hn' : n' ≤ 1048576 := by have := h2.n21; omega
    have HS := Lib.hid (h2.s2.ext (show Ext w2 (w2.alloc (.cells #[.slice a' n' c'] 26)) from (by repeat (first | with_reducible exact Ext.refl _ | with_reducible assumption | with_reducible refine Ext.alloc ?_ _ | with_reducible refine Ext.drew ?_ | (with_reducible refine Ext.setAt ?_ _ _ _ ?_; rotate_left; omega) | with_reducible refine Ext.trans ?_ (by assumption) | with_reducible exact Past.bel _ | with_reducible refine Ext.trans ?_ (Past.bel _)))))
    have hxw : Ext w (w2.alloc (.cells #[.slice a' n' c'] 26)) := Ext.trans h2.ext (by repeat (first | with_reducible exact Ext.refl _ | with_reducible assumption | with_reducible refine Ext.alloc ?_ _ | with_reducible refine Ext.drew ?_ | (with_reducible refine Ext.setAt ?_ _ _ _ ?_; rotate_left; omega) | with_reducible refine Ext.trans ?_ (by assumption) | with_reducible exact Past.bel _ | with_reducible refine Ext.trans ?_ (Past.bel _)))
    obtain ⟨V, hV⟩ : ∃ V, V = rtV n' wd pl x y := ⟨_, rfl⟩
    obtain ⟨C, hC⟩ : ∃ C, C = rtC n' wd pl x y := ⟨_, rfl⟩
    have HV := Lib.hid (And.intro hV hC)
    have HI := Lib.hid (fun (W : World) (hq : Ext (w2.alloc (.cells #[.slice a' n' c'] 26)) W) => (show Calls Try.prog 39 #[.agg #[.slice a' n' c'], .int .i64 x, .int .i64 y] W (fun e w' => e = .returned (.tuple #[.int .i64 V, .int .i64 C]) ∧ Ext W w') from by rw [hV, hC]; exact implRunningTime_c hn' (HS.out.ext hq) x y))
    have HJ := Lib.hid (fun (W : World) (hq : Ext (w2.alloc (.cells #[.slice a' n' c'] 26)) W) => (show Calls Try.prog 40 #[.agg #[.slice a' n' c'], .int .i64 x, .int .i64 y] W (fun e w' => e = .returned (.tuple #[.int .i64 V, .int .i64 C]) ∧ Ext W w') from by rw [hV, hC]; exact specRunningTime_c hn' (HS.out.ext hq) x y))
    have k0 : (w2.alloc (.cells #[.slice a' n' c'] 26)).cell? ⟨w2.heap.size, 0, none⟩ = some (.slice a' n' c') := by simp [go_sem]
    have HK := Lib.hid (fun (w' : World) (hq : Ext (w2.alloc (.cells #[.slice a' n' c'] 26)) w') => (show w'.cell? ⟨w2.heap.size, 0, none⟩ = some (.slice a' n' c') from by rw [hq.cell (by simp)]; exact k0))
    clear hV hC h2 k0
    have c1 : (C != C) = false := by simp
    have c2 : (V != V) = false := by simp
    go_upto_if 62 with (first | (go_at_call 39; ((with_reducible refine (HI.out _ (by repeat (first | with_reducible exact Ext.refl _ | with_reducible assumption | with_reducible refine Ext.alloc ?_ _ | with_reducible refine Ext.drew ?_ | (with_reducible refine Ext.setAt ?_ _ _ _ ?_; rotate_left; omega) | with_reducible refine Ext.trans ?_ (by assumption) | with_reducible exact Past.bel _ | with_reducible refine Ext.trans ?_ (Past.bel _)))).mono ?_); rintro e w' ⟨rfl, hx⟩; (first | (obtain ⟨wx, rfl⟩ := Past.again hx) | (obtain ⟨wx, rfl⟩ := Past.ofd hx) | (obtain ⟨wx, rfl⟩ := Past.of hx)))) | (go_at_call 40; ((with_reducible refine (HJ.out _ (by repeat (first | with_reducible exact Ext.refl _ | with_reducible assumption | with_reducible refine Ext.alloc ?_ _ | with_reducible refine Ext.drew ?_ | (with_reducible refine Ext.setAt ?_ _ _ _ ?_; rotate_left; omega) | with_reducible refine Ext.trans ?_ (by assumption) | with_reducible exact Past.bel _ | with_reducible refine Ext.trans ?_ (Past.bel _)))).mono ?_); rintro e w' ⟨rfl, hx⟩; (first | (obtain ⟨wx, rfl⟩ := Past.again hx) | (obtain ⟨wx, rfl⟩ := Past.ofd hx) | (obtain ⟨wx, rfl⟩ := Past.of hx)))))
    have hx0 : Ext (w2.alloc (.cells #[.slice a' n' c'] 26)) wx.out := (by repeat (first | with_reducible exact Ext.refl _ | with_reducible assumption | with_reducible refine Ext.alloc ?_ _ | with_reducible refine Ext.drew ?_ | (with_reducible refine Ext.setAt ?_ _ _ _ ?_; rotate_left; omega) | with_reducible refine Ext.trans ?_ (by assumption) | with_reducible exact Past.bel _ | with_reducible refine Ext.trans ?_ (Past.bel _)))
    generalize wx.out = w3 at hx0 ⊢
    go_cut [] (fun wx => Ext w wx)
    case first =>
      by_cases c4 : C = 0
      · have c5 : (C == 0) = true := by simpa using c4
        obtain ⟨V', hV', v0, v1, v2, v3, v4, v5, v6⟩ := rt_law (HV.out.2.symm.trans c4)
        have hVe : V = V' := HV.out.1.trans hV'
        subst hVe
        obtain ⟨P2, hP2⟩ : ∃ P, P = paV n' wd pl (x - V - 1) := ⟨_, rfl⟩
        obtain ⟨C2, hC2⟩ : ∃ P, P = paC n' wd pl (x - V - 1) := ⟨_, rfl⟩
        obtain ⟨P1, hP1⟩ : ∃ P, P = paV n' wd pl (x - V) := ⟨_, rfl⟩
        have HA := Lib.hid (fun (W : World) (hq : Ext (w2.alloc (.cells #[.slice a' n' c'] 26)) W) => (show Calls Try.prog 11 #[.agg #[.slice a' n' c'], .int .i64 (x - V)] W (fun e w' => e = .returned (.tuple #[.int .i64 P1, .int .i64 0]) ∧ Ext W w') from by have := implPullAt_c (c := c') hn' (HS.out.ext hq) (x - V); rw [v4, ← hP1] at this; exact this))
        have HB := Lib.hid (fun (W : World) (hq : Ext (w2.alloc (.cells #[.slice a' n' c'] 26)) W) => (show Calls Try.prog 11 #[.agg #[.slice a' n' c'], .int .i64 (x - V - 1)] W (fun e w' => e = .returned (.tuple #[.int .i64 P2, .int .i64 C2]) ∧ Ext W w') from by have := implPullAt_c (c := c') hn' (HS.out.ext hq) (x - V - 1); rw [← hP2, ← hC2] at this; exact this))
        rw [← hP1] at v5
        rw [← hP2, ← hC2] at v6
        have V6 := Lib.hid v6
        have p3 := HK.out w3 hx0
        clear hP1 hP2 hC2 v6 v4 HV hV' HI HJ c4
        go_wp2_with fail
        refine (HA.out w3 hx0).mono ?_
        rintro e w4 ⟨rfl, hx4⟩
        have hx04 := Ext.trans hx0 hx4
        have p4 := HK.out w4 hx04
        go_wp2_with fail
        refine (HB.out w4 hx04).mono ?_
        rintro e w5 ⟨rfl, hx5⟩
        have hx05 := Ext.trans hxw (Ext.trans hx04 hx5)
        by_cases c6 : C2 = 0
        · have v7 := V6.out c6
          have c7 : (C2 == 0) = true := by simpa using c6
          clear c6
          go_wp2_with fail
          go_meet
          exact hx05
        · have c7 : (C2 == 0) = false := by simpa using c6
          go_wp2_with fail
          go_meet
          exact hx05
      · have c5 : (C == 0) = false := by simpa using c4
        go_wp2_with fail
        go_meet
        exact Ext.trans hxw hx0
    case rest =>
      obtain ⟨w6, rfl⟩ : ∃ w6 : World, w6 = wc := ⟨_, rfl⟩
      clear HK HS HI HJ HV c1 c2 hx0
      go_wp2_with fail
      refine (drawStopwork_c a n c f w6 (by omega) (hs.ext hcut) hl).mono ?_
      rintro e w7 ⟨a7, n7, c8, wd7, pl7, wid, rfl, h7⟩
      have hn7 : n7 ≤ 1048576 := by have := h7.n21; omega
      have HS := Lib.hid (h7.s2.ext (show Ext w7 (w7.alloc (.cells #[.slice a7 n7 c8] 26)) from (by repeat (first | with_reducible exact Ext.refl _ | with_reducible assumption | with_reducible refine Ext.alloc ?_ _ | with_reducible refine Ext.drew ?_ | (with_reducible refine Ext.setAt ?_ _ _ _ ?_; rotate_left; omega) | with_reducible refine Ext.trans ?_ (by assumption) | with_reducible exact Past.bel _ | with_reducible refine Ext.trans ?_ (Past.bel _)))))
      have hxw : Ext w (w7.alloc (.cells #[.slice a7 n7 c8] 26)) := Ext.trans (Ext.trans hcut h7.ext) (by repeat (first | with_reducible exact Ext.refl _ | with_reducible assumption | with_reducible refine Ext.alloc ?_ _ | with_reducible refine Ext.drew ?_ | (with_reducible refine Ext.setAt ?_ _ _ _ ?_; rotate_left; omega) | with_reducible refine Ext.trans ?_ (by assumption) | with_reducible exact Past.bel _ | with_reducible refine Ext.trans ?_ (Past.bel _)))
      obtain ⟨B, hB⟩ : ∃ V, V = bsV n7 wd7 pl7 wid := ⟨_, rfl⟩
      obtain ⟨D, hD⟩ : ∃ C, C = bsC n7 wd7 pl7 wid := ⟨_, rfl⟩
      have HV := Lib.hid (And.intro hB hD)
      have HI := Lib.hid (fun (W : World) (hq : Ext (w7.alloc (.cells #[.slice a7 n7 c8] 26)) W) => (show Calls Try.prog 42 #[.agg #[.slice a7 n7 c8], .int .i64 wid] W (fun e w' => e = .returned (.tuple #[.int .i64 B, .int .i64 D]) ∧ Ext W w') from by rw [hB, hD]; exact implBestStopwork_c hn7 (HS.out.ext hq) wid))
      have HJ := Lib.hid (fun (W : World) (hq : Ext (w7.alloc (.cells #[.slice a7 n7 c8] 26)) W) => (show Calls Try.prog 43 #[.agg #[.slice a7 n7 c8], .int .i64 wid] W (fun e w' => e = .returned (.tuple #[.int .i64 B, .int .i64 D]) ∧ Ext W w') from by rw [hB, hD]; exact specBestStopwork_c hn7 (HS.out.ext hq) wid))
      have k0 : (w7.alloc (.cells #[.slice a7 n7 c8] 26)).cell? ⟨w7.heap.size, 0, none⟩ = some (.slice a7 n7 c8) := by simp [go_sem]
      have HK := Lib.hid (fun (w' : World) (hq : Ext (w7.alloc (.cells #[.slice a7 n7 c8] 26)) w') => (show w'.cell? ⟨w7.heap.size, 0, none⟩ = some (.slice a7 n7 c8) from by rw [hq.cell (by simp)]; exact k0))
      have hzl : w7.heap.size < (w7.alloc (.cells #[.slice a7 n7 c8] 26)).heap.size := by simp
      clear hB hD h7 k0
      have c1 : (D != D) = false := by simp
      have c2 : (B != B) = false := by simp
      by_cases c4 : D = 0
      · obtain ⟨x9, hx9, g1, g2, g3, g4, g5, g6, g7, g8, g9, g10, LW⟩ := bs_law (HV.out.2.symm.trans c4)
        have hBe : B = x9 := HV.out.1.trans hx9
        subst hBe
        obtain ⟨P1, hP1⟩ : ∃ P, P = paV n7 wd7 pl7 B := ⟨_, rfl⟩
        obtain ⟨P2, hP2⟩ : ∃ P, P = paV n7 wd7 pl7 (B + wid) := ⟨_, rfl⟩
        have HA := Lib.hid (fun (W : World) (hq : Ext (w7.alloc (.cells #[.slice a7 n7 c8] 26)) W) => (show Calls Try.prog 11 #[.agg #[.slice a7 n7 c8], .int .i64 B] W (fun e w' => e = .returned (.tuple #[.int .i64 P1, .int .i64 0]) ∧ Ext W w') from by have := implPullAt_c (c := c8) hn7 (HS.out.ext hq) B; rw [g5, ← hP1] at this; exact this))
        have HB := Lib.hid (fun (W : World) (hq : Ext (w7.alloc (.cells #[.slice a7 n7 c8] 26)) W) => (show Calls Try.prog 11 #[.agg #[.slice a7 n7 c8], .int .i64 (B + wid)] W (fun e w' => e = .returned (.tuple #[.int .i64 P2, .int .i64 0]) ∧ Ext W w') from by have := implPullAt_c (c := c8) hn7 (HS.out.ext hq) (B + wid); rw [g6, ← hP2] at this; exact this))
        rw [← hP1] at g7 g8 LW
        rw [← hP2] at g9 g10 LW
        have LW' := Lib.hid LW
        clear hP1 hP2 g5 g6 LW HV hx9
        subst c4
        go_wp2_with (first | (go_at_call 42; ((with_reducible refine (HI.out _ (by repeat (first | with_reducible exact Ext.refl _ | with_reducible assumption | with_reducible refine Ext.alloc ?_ _ | with_reducible refine Ext.drew ?_ | (with_reducible refine Ext.setAt ?_ _ _ _ ?_; rotate_left; omega) | with_reducible refine Ext.trans ?_ (by assumption) | with_reducible exact Past.bel _ | with_reducible refine Ext.trans ?_ (Past.bel _)))).mono ?_); rintro e w' ⟨rfl, hx⟩; (first | (obtain ⟨wx, rfl⟩ := Past.again hx) | (obtain ⟨wx, rfl⟩ := Past.ofd hx) | (obtain ⟨wx, rfl⟩ := Past.of hx)))) | (go_at_call 43; ((with_reducible refine (HJ.out _ (by repeat (first | with_reducible exact Ext.refl _ | with_reducible assumption | with_reducible refine Ext.alloc ?_ _ | with_reducible refine Ext.drew ?_ | (with_reducible refine Ext.setAt ?_ _ _ _ ?_; rotate_left; omega) | with_reducible refine Ext.trans ?_ (by assumption) | with_reducible exact Past.bel _ | with_reducible refine Ext.trans ?_ (Past.bel _)))).mono ?_); rintro e w' ⟨rfl, hx⟩; (first | (obtain ⟨wx, rfl⟩ := Past.again hx) | (obtain ⟨wx, rfl⟩ := Past.ofd hx) | (obtain ⟨wx, rfl⟩ := Past.of hx)))))
        have hx8 : Ext (w7.alloc (.cells #[.slice a7 n7 c8] 26)) wx.out := (by repeat (first | with_reducible exact Ext.refl _ | with_reducible assumption | with_reducible refine Ext.alloc ?_ _ | with_reducible refine Ext.drew ?_ | (with_reducible refine Ext.setAt ?_ _ _ _ ?_; rotate_left; omega) | with_reducible refine Ext.trans ?_ (by assumption) | with_reducible exact Past.bel _ | with_reducible refine Ext.trans ?_ (Past.bel _)))
        generalize wx.out = w8 at hx8 ⊢
        clear HI HJ
        refine (HA.out w8 hx8).mono ?_
        rintro e w9 ⟨rfl, hx9⟩
        have hx09 := Ext.trans hx8 hx9
        have p9 := HK.out w9 hx09
        go_wp2_with fail
        refine (HB.out w9 hx09).mono ?_
        rintro e wa ⟨rfl, hxa⟩
        have hx0a := Ext.trans hx09 hxa
        have hwa := Ext.trans hxw hx0a
        clear HA HB p9
        go_wp2_with fail
        refine (f6roll_c a n c f 1302 wa (by omega) (hs.ext hwa)).mono ?_
        rintro e wb ⟨g, hh, rfl, hbk, hgs, hxb⟩
        have hx0b := Ext.trans hx0a hxb
        have hgl := hbk.lt
        have hdi := dice_of hbk
        have SB := Lib.hid (HS.out.ext hx0b)
        have hne : ∀ ad, a7 = some ad → n7 = 0 ∨ ad.block ≠ g := fun ad e => by
          by_cases h0 : 0 < n7
          · right
            obtain ⟨b, o, e2, hb, _⟩ := (HS.out.ext hx0a).at h0
            have e3 : some ad = some (⟨b, o, none⟩ : Addr) := e.symm.trans e2
            rw [Option.some.inj e3]; dsimp only; omega
          · left; omega
        have hzb := hx0b.size
        have hza := hx0a.size
        have HKb := Lib.hid (fun (w' : World) (hq : wb.grownBy w' (some g)) => (show w'.cell? ⟨w7.heap.size, 0, none⟩ = some (.slice a7 n7 c8) from by
          rw [World.cell?_of_block (a := ⟨w7.heap.size, 0, none⟩) (hq.block w7.heap.size (by omega) (fun e => by injection e with e; omega))]; exact HK.out wb hx0b))
        have SG := Lib.hid (fun (w' : World) (hq : wb.grownBy w' (some g)) => SB.out.grown0 hq hne)
        have XG := Lib.hid (fun (w' : World) (hq : wb.grownBy w' (some g)) => (show Ext w w' from grown_to_ext hq (Ext.trans hwa hxb) (by have := hwa.size; omega)))
        have CD := Lib.hid (fun (h0 : 0 < n) (ad : Addr) (e : a = some ad) => (show ad.block ≠ g from by have := hs.low h0 ad e; have := hwa.size; omega))
        have HDI := Lib.hid hdi
        clear hdi hbk hne HK SB hgs hxb
        go_wp2_with fail
        go_loopw [25] (fun v25 wr => ∃ k : Int, v25 = .int .i64 k ∧ 0 ≤ k ∧ k ≤ 5 ∧ wb.grownBy wr (some g) ∧ Dice wr g a n c) (fun v25 _ => (5 - intOf v25).toNat)
        case atStart => exact ⟨0, rfl, by omega, by omega, grown_refl _ _, HDI.out⟩
        case round =>
          obtain ⟨k, rfl, k0, k1, hgr, hdr⟩ := hrel
          have HGR := Lib.hid hgr
          have HDR := Lib.hid hdr
          clear hgr hdr
          by_cases hk : k < 5
          · go_wp2_with fail
            refine (below_c g a n c f 400 wr (by omega) (by omega) (hs.ext (XG.out wr HGR.out)) hl HDR.out CD.out).mono ?_
            rintro e wd ⟨t, rfl, t0, t1, hdd, hgd⟩
            have HG2 := Lib.hid (grown_trans HGR.out hgd)
            have HD2 := Lib.hid hdd
            have pd := HKb.out wd HG2.out
            obtain ⟨V3, hV3⟩ : ∃ P, P = paV n7 wd7 pl7 t := ⟨_, rfl⟩
            obtain ⟨C3, hC3⟩ : ∃ P, P = paC n7 wd7 pl7 t := ⟨_, rfl⟩
            obtain ⟨V4, hV4⟩ : ∃ P, P = paV n7 wd7 pl7 (t + wid) := ⟨_, rfl⟩
            obtain ⟨C4, hC4⟩ : ∃ P, P = paC n7 wd7 pl7 (t + wid) := ⟨_, rfl⟩
            have lw := LW'.out t
            rw [← hV3, ← hC3, ← hV4, ← hC4] at lw
            have LT := Lib.hid lw
            have r1 := implPullAt_c (c := c8) hn7 (SG.out wd HG2.out) t
            rw [← hV3, ← hC3] at r1
            have R1 := Lib.hid r1
            have R2 := Lib.hid (fun (W : World) (hq : wb.grownBy W (some g)) => (show Calls Try.prog 11 #[.agg #[.slice a7 n7 c8], .int .i64 (t + wid)] W (fun e w' => e = .returned (.tuple #[.int .i64 V4, .int .i64 C4]) ∧ Ext W w') from by rw [hV4, hC4]; exact implPullAt_c hn7 (SG.out W hq) (t + wid)))
            clear hV3 hC3 hV4 hC4 lw r1 hdd hgd
            go_wp2_with fail
            refine R1.out.mono ?_
            rintro e we ⟨rfl, hxe⟩
            have HG3 := Lib.hid (grown_trans HG2.out (grown_weak (ext_grown hxe)))
            have HD3 := Lib.hid (HD2.out.ext hxe)
            have pe := HKb.out we HG3.out
            clear hxe pd
            go_wp2_with fail
            refine (R2.out we HG3.out).mono ?_
            rintro e wf ⟨rfl, hxf⟩
            have HG4 := Lib.hid (grown_trans HG3.out (grown_weak (ext_grown hxf)))
            have HD4 := Lib.hid (HD3.out.ext hxf)
            clear hxf pe
            by_cases c3 : C3 = 0
            · by_cases c5 : C4 = 0
              · obtain ⟨l0, l1, l2, l3, l4, l5⟩ := LT.out c3 c5
                subst c3 c5
                by_cases c6 : V4 - V3 = P2 - P1
                · have l6 := l5 c6
                  have c7 : (V4 - V3 == P2 - P1) = true := by simpa using c6
                  clear l5
                  go_wp2_with fail
                  exact ⟨⟨k + 1, by go_num, by omega, by omega, HG4.out, HD4.out⟩, by simp [intOf]; omega⟩
                · have c7 : (V4 - V3 == P2 - P1) = false := by simpa using c6
                  clear l5
                  go_wp2_with fail
                  exact ⟨⟨k + 1, by go_num, by omega, by omega, HG4.out, HD4.out⟩, by simp [intOf]; omega⟩
              · have c6 : (C4 == 0) = false := by simpa using c5
                have c7 : (C3 == 0) = true := by simpa using c3
                clear c3
                go_wp2_with fail
                exact ⟨⟨k + 1, by go_num, by omega, by omega, HG4.out, HD4.out⟩, by simp [intOf]; omega⟩
            · have c6 : (C3 == 0) = false := by simpa using c3
              go_wp2_with fail
              exact ⟨⟨k + 1, by go_num, by omega, by omega, HG4.out, HD4.out⟩, by simp [intOf]; omega⟩
          · go_wp2_with fail
            go_ret
            exact ⟨rfl, XG.out wr HGR.out⟩
      · have c5 : (D != 0) = true := by simpa using c4
        go_wp2_with (first | (go_at_call 42; ((with_reducible refine (HI.out _ (by repeat (first | with_reducible exact Ext.refl _ | with_reducible assumption | with_reducible refine Ext.alloc ?_ _ | with_reducible refine Ext.drew ?_ | (with_reducible refine Ext.setAt ?_ _ _ _ ?_; rotate_left; omega) | with_reducible refine Ext.trans ?_ (by assumption) | with_reducible exact Past.bel _ | with_reducible refine Ext.trans ?_ (Past.bel _)))).mono ?_); rintro e w' ⟨rfl, hx⟩; (first | (obtain ⟨wx, rfl⟩ := Past.again hx) | (obtain ⟨wx, rfl⟩ := Past.ofd hx) | (obtain ⟨wx, rfl⟩ := Past.of hx)))) | (go_at_call 43; ((with_reducible refine (HJ.out _ (by repeat (first | with_reducible exact Ext.refl _ | with_reducible assumption | with_reducible refine Ext.alloc ?_ _ | with_reducible refine Ext.drew ?_ | (with_reducible refine Ext.setAt ?_ _ _ _ ?_; rotate_left; omega) | with_reducible refine Ext.trans ?_ (by assumption) | with_reducible exact Past.bel _ | with_reducible refine Ext.trans ?_ (Past.bel _)))).mono ?_); rintro e w' ⟨rfl, hx⟩; (first | (obtain ⟨wx, rfl⟩ := Past.again hx) | (obtain ⟨wx, rfl⟩ := Past.ofd hx) | (obtain ⟨wx, rfl⟩ := Past.of hx)))))
        go_ret
        exact ⟨rfl, (by repeat (first | with_reducible exact Ext.refl _ | with_reducible assumption | with_reducible refine Ext.alloc ?_ _ | with_reducible refine Ext.drew ?_ | (with_reducible refine Ext.setAt ?_ _ _ _ ?_; rotate_left; omega) | with_reducible refine Ext.trans ?_ (by assumption) | with_reducible exact Past.bel _ | with_reducible refine Ext.trans ?_ (Past.bel _)))⟩
  · have e1 : decide (4096 < n) = true := decide_eq_true (by omega)
    go_enter Try.func8, Try.ntmps8
    go_wp2_with (go_at_call 9; ((with_reducible refine (f6big_c _ _ _ _).mono ?_); rintro e w' ⟨rfl, rfl⟩))
    go_ret
    exact ⟨rfl, (by repeat (first | with_reducible exact Ext.refl _ | with_reducible assumption | with_reducible refine Ext.alloc ?_ _ | with_reducible refine Ext.drew ?_ | (with_reducible refine Ext.setAt ?_ _ _ _ ?_; rotate_left; omega) | with_reducible refine Ext.trans ?_ (by assumption) | with_reducible exact Past.bel _ | with_reducible refine Ext.trans ?_ (Past.bel _)))⟩
end Go.Proofs.Ytglcjnplmhelhaa
