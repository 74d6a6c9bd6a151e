/- The best change of a mean: the reference's BestChange; the law. The law on best changes: its walk. -/
import Derived.Test.YtmbpjlgeneemjaaBd
import Derived.Test.YtmbpjlgeneemjaaBb

namespace Go.Proofs.Ytmbpjlgeneemjaa
open Go.RowKit
set_option linter.unusedVariables false
set_option linter.unusedSimpArgs false

/-- the first k elements; the elements from k on -/
theorem S2.left {w : World} {b off n k : Nat} {h o : Nat → Int} (s : S2 w (some ⟨b, off, none⟩) n h o) (hk : k ≤ n) : S2 w (some ⟨b, off, none⟩) k h o := fun hp => by
  obtain ⟨b', off', e, hb, hc⟩ := s (by omega)
  exact ⟨b', off', e, hb, fun j hj => hc j (by omega)⟩
theorem S2.right {w : World} {b off n k : Nat} {h o : Nat → Int} (s : S2 w (some ⟨b, off, none⟩) n h o) (hk : k ≤ n) : S2 w (some ⟨b, off + k * 2, none⟩) (n - k) (fun i => h (i + k)) (fun i => o (i + k)) := fun hp => by
  obtain ⟨b', off', e, hb, hc⟩ := s (by omega)
  simp only [Option.some.injEq, Addr.mk.injEq, and_true] at e
  obtain ⟨rfl, rfl⟩ := e
  refine ⟨b, _, rfl, hb, fun j hj => ?_⟩
  have := hc (j + k) (by omega)
  rw [show off + k * 2 + j * 2 = off + (j + k) * 2 by omega]
  exact this
set_option maxRecDepth 100000 in
set_option maxHeartbeats 2000000 in
theorem specBestChange_c (a : Option Addr) (n c : Nat) (f o : Nat → Int) (w : World) (hn : n ≤ 1048576) (hnc : n ≤ c) (hs : S2 w a n f o) :
    Calls Try.prog 12 #[.slice a n c] w fun e w' => e = .returned (.tuple #[.int .i64 (bcRes n f o), .int .i64 (bcCode n f o)]) ∧ Ext w w' := by
  have HS := Lib.hid hs
  clear hs
  by_cases hv : rdV n f o = true
  · have HV := Lib.hid hv
    by_cases h2 : n < 2
    · go_enter Try.func12, Try.ntmps12
      go_wp2_with (go_at_call 48; ((with_reducible refine (l14Ok_c _ _ _ _ _ _ hn (HS.out.ext (by repeat (first | with_reducible exact Ext.refl _ | with_reducible assumption | with_reducible refine Ext.alloc ?_ _ | with_reducible refine Ext.drew ?_ | (with_reducible refine Ext.setAt ?_ _ _ _ ?_; rotate_left; omega) | with_reducible refine Ext.trans ?_ (by assumption) | with_reducible exact Past.bel _ | with_reducible refine Ext.trans ?_ (Past.bel _))))).mono ?_); rintro e w' ⟨rfl, hx⟩; (first | (obtain ⟨wx, rfl⟩ := Past.again hx) | (obtain ⟨wx, rfl⟩ := Past.ofd hx) | (obtain ⟨wx, rfl⟩ := Past.of hx))))
      go_ret2
      have e1 : bcCode n f o = 6 := by simp [bcCode, HV.out, h2]
      exact ⟨by rw [bcRes, e1]; rfl, (by repeat (first | with_reducible exact Ext.refl _ | with_reducible assumption | with_reducible refine Ext.alloc ?_ _ | with_reducible refine Ext.drew ?_ | (with_reducible refine Ext.setAt ?_ _ _ _ ?_; rotate_left; omega) | with_reducible refine Ext.trans ?_ (by assumption) | with_reducible exact Past.bel _ | with_reducible refine Ext.trans ?_ (Past.bel _)))⟩
    · have ob := offB_of (rb_of hv)
      have h60 := ob.n60
      go_enter Try.func12, Try.ntmps12
      go_wp2_with (first | (go_at_call 48; ((with_reducible refine (l14Ok_c _ _ _ _ _ _ hn (HS.out.ext (by repeat (first | with_reducible exact Ext.refl _ | with_reducible assumption | with_reducible refine Ext.alloc ?_ _ | with_reducible refine Ext.drew ?_ | (with_reducible refine Ext.setAt ?_ _ _ _ ?_; rotate_left; omega) | with_reducible refine Ext.trans ?_ (by assumption) | with_reducible exact Past.bel _ | with_reducible refine Ext.trans ?_ (Past.bel _))))).mono ?_); rintro e w' ⟨rfl, hx⟩; (first | (obtain ⟨wx, rfl⟩ := Past.again hx) | (obtain ⟨wx, rfl⟩ := Past.ofd hx) | (obtain ⟨wx, rfl⟩ := Past.of hx)))))
      go_loopw [4, 5, 6, 7] (fun b u d i wr => ∃ j : Nat, j + 1 ≤ n ∧ i = .int .i64 ((j : Int) + 1) ∧ Ext w wr ∧ b = .int .i64 (bc n o j).1 ∧ u = .int .i64 (bcN n o j) ∧ d = .int .i64 (bc n o j).2.2) (fun _ _ _ i _ => n - (intOf i).toNat)
      case atStart => exact ⟨0, by omega, rfl, (by repeat (first | with_reducible exact Ext.refl _ | with_reducible assumption | with_reducible refine Ext.alloc ?_ _ | with_reducible refine Ext.drew ?_ | (with_reducible refine Ext.setAt ?_ _ _ _ ?_; rotate_left; omega) | with_reducible refine Ext.trans ?_ (by assumption) | with_reducible exact Past.bel _ | with_reducible refine Ext.trans ?_ (Past.bel _))), rfl, rfl, rfl⟩
      case round =>
        obtain ⟨j, hj, rfl, hbl, rfl, rfl, rfl⟩ := hrel
        by_cases hlt : j + 1 < n
        · obtain ⟨b1, o1, rfl, hb1, q1, q2⟩ := (S2.ext HS.out hbl).at (show j < n by omega)
          obtain ⟨m1, m2, m3, m4, m5, m6, m7, m8, m9, m10, m11, m12, m13, m14⟩ := br_of ob hlt
          have sr := S2.ext HS.out hbl
          have SL := Lib.hid (sr.left (k := j + 1) (by omega))
          have SR := Lib.hid (sr.right (k := j + 1) (by omega))
          clear sr
          have OB := Lib.hid ob
          clear ob
          have hck : ¬ c = j + 1 := by omega
          go_wp2_with fail
          refine wp_region_past (by kernel_rfl) (by kernel_rfl) ?_
          repeat (go_big_quiet_step ((first | (go_at_call 49; exact Calls.past (l14Spread_c _ _ _ _ _ _ (OB.out.le (by omega)) (SL.out.ext (Past.bel _)))) | (go_at_call 49; exact Calls.past (l14Spread_c _ _ _ _ _ _ (OB.out.tail (by omega)) (SR.out.ext (Past.bel _)))))))
          refine wpQuiet_nil ?_
          rintro _ ⟨wx, rfl⟩
          by_cases h0 : j = 0
          · have hb0 : ((bc n o j).1 == 0) = true := by simpa using (bst OB.out (j := j) (by omega)).z.2 h0
            have H0 := Lib.hid h0
            clear h0
            go_wp2_with fail
            have t := r_first OB.out hlt H0.out
            exact ⟨⟨j + 1, by omega, by go_num, (by repeat (first | with_reducible exact Ext.refl _ | with_reducible assumption | with_reducible refine Ext.alloc ?_ _ | with_reducible refine Ext.drew ?_ | (with_reducible refine Ext.setAt ?_ _ _ _ ?_; rotate_left; omega) | with_reducible refine Ext.trans ?_ (by assumption) | with_reducible exact Past.bel _ | with_reducible refine Ext.trans ?_ (Past.bel _))), congrArg _ t.1.symm, congrArg _ t.2.2, congrArg _ t.2.1.symm⟩, by simp [intOf]; omega⟩
          · have hb0 : ((bc n o j).1 == 0) = false := by simpa using fun e => h0 ((bst OB.out (j := j) (by omega)).z.1 e)
            go_wp2_with fail
            · have t := r_better hlt h0 (by assumption)
              exact ⟨⟨j + 1, by omega, by go_num, (by repeat (first | with_reducible exact Ext.refl _ | with_reducible assumption | with_reducible refine Ext.alloc ?_ _ | with_reducible refine Ext.drew ?_ | (with_reducible refine Ext.setAt ?_ _ _ _ ?_; rotate_left; omega) | with_reducible refine Ext.trans ?_ (by assumption) | with_reducible exact Past.bel _ | with_reducible refine Ext.trans ?_ (Past.bel _))), congrArg _ t.1.symm, congrArg _ t.2.2, congrArg _ t.2.1.symm⟩, by simp [intOf]; omega⟩
            · have t := r_not hlt h0 (by assumption)
              exact ⟨⟨j + 1, by omega, by go_num, (by repeat (first | with_reducible exact Ext.refl _ | with_reducible assumption | with_reducible refine Ext.alloc ?_ _ | with_reducible refine Ext.drew ?_ | (with_reducible refine Ext.setAt ?_ _ _ _ ?_; rotate_left; omega) | with_reducible refine Ext.trans ?_ (by assumption) | with_reducible exact Past.bel _ | with_reducible refine Ext.trans ?_ (Past.bel _))), by rw [t.1], by rw [t.2], by rw [t.1]⟩, by simp [intOf]; omega⟩
        · obtain ⟨k0, k1⟩ : (bc n o j).1 = bcRes n f o ∧ bcCode n f o = 0 := by
            have e : bcCode n f o = 0 := by simp [bcCode, HV.out, h2]
            refine ⟨?_, e⟩
            rw [bcRes, if_pos e]; congr 2; omega
          have K0 := Lib.hid k0
          have K1 := Lib.hid k1
          clear k0 k1
          go_wp2_with fail
          go_ret2
          exact ⟨ret_two (congrArg _ K0.out) (congrArg _ K1.out.symm), (by repeat (first | with_reducible exact Ext.refl _ | with_reducible assumption | with_reducible refine Ext.alloc ?_ _ | with_reducible refine Ext.drew ?_ | (with_reducible refine Ext.setAt ?_ _ _ _ ?_; rotate_left; omega) | with_reducible refine Ext.trans ?_ (by assumption) | with_reducible exact Past.bel _ | with_reducible refine Ext.trans ?_ (Past.bel _)))⟩
  · have hf : rdV n f o = false := by simpa using hv
    go_enter Try.func12, Try.ntmps12
    go_wp2_with (go_at_call 48; ((with_reducible refine (l14Ok_c _ _ _ _ _ _ hn (HS.out.ext (by repeat (first | with_reducible exact Ext.refl _ | with_reducible assumption | with_reducible refine Ext.alloc ?_ _ | with_reducible refine Ext.drew ?_ | (with_reducible refine Ext.setAt ?_ _ _ _ ?_; rotate_left; omega) | with_reducible refine Ext.trans ?_ (by assumption) | with_reducible exact Past.bel _ | with_reducible refine Ext.trans ?_ (Past.bel _))))).mono ?_); rintro e w' ⟨rfl, hx⟩; (first | (obtain ⟨wx, rfl⟩ := Past.again hx) | (obtain ⟨wx, rfl⟩ := Past.ofd hx) | (obtain ⟨wx, rfl⟩ := Past.of hx))))
    go_ret2
    have e1 : bcCode n f o = 1 := by simp [bcCode, hf]
    exact ⟨by rw [bcRes, e1]; rfl, (by repeat (first | with_reducible exact Ext.refl _ | with_reducible assumption | with_reducible refine Ext.alloc ?_ _ | with_reducible refine Ext.drew ?_ | (with_reducible refine Ext.setAt ?_ _ _ _ ?_; rotate_left; omega) | with_reducible refine Ext.trans ?_ (by assumption) | with_reducible exact Past.bel _ | with_reducible refine Ext.trans ?_ (Past.bel _)))⟩
end Go.Proofs.Ytmbpjlgeneemjaa

namespace Go.Proofs.Ytmbpjlgeneemjaa
open Go.RowKit
set_option linter.unusedVariables false
set_option linter.unusedSimpArgs false

set_option maxRecDepth 100000 in
set_option maxHeartbeats 8000000 in
theorem walkBestChanges (a : Option Addr) (n c : Nat) (f : Nat → Nat) (hm : n ≤ maxLen) (w : World) (hs : U8 w a n f) (hl : ∀ j, j < n → f j ≤ 255) :
    Calls Try.prog 3 #[.slice a n c] w fun e w' => e = .returned (.bool true) ∧ Ext w w' := by
  by_cases hn : n ≤ 4096
  · have e1 : decide (4096 < n) = false := decide_eq_false (by omega)
    go_enter Try.func3, Try.ntmps3
    go_wp2_with (go_at_call 9; ((with_reducible refine (f6big_c _ _ _ _).mono ?_); rintro e w' ⟨rfl, rfl⟩))
    refine (drawBestChange_c a n c f w (by omega) hs hl).mono ?_
    rintro e w2 ⟨b, m, cap, h, o, rfl, h2⟩
    have hm' : m ≤ 1048576 := by have := h2.n61; omega
    have HS := Lib.hid h2.s2
    have hmc := h2.nc
    have hxw := h2.ext
    clear h2
    obtain ⟨V, hV⟩ : ∃ V, V = bcRes m h o := ⟨_, rfl⟩
    obtain ⟨C, hC⟩ : ∃ C, C = bcCode m h o := ⟨_, rfl⟩
    have c1 : (C != C) = false := by simp
    have c2 : (V != V) = false := by simp
    have HI := Lib.hid (fun (W : World) (hq : Ext w2 W) => (show Calls Try.prog 11 #[.slice b m cap] W (fun e w' => e = .returned (.tuple #[.int .i64 V, .int .i64 C]) ∧ Ext W w') from by rw [hV, hC]; exact implBestChange_c b m cap h o W hm' (HS.out.ext hq)))
    have HJ := Lib.hid (fun (W : World) (hq : Ext w2 W) => (show Calls Try.prog 12 #[.slice b m cap] W (fun e w' => e = .returned (.tuple #[.int .i64 V, .int .i64 C]) ∧ Ext W w') from by rw [hV, hC]; exact specBestChange_c b m cap h o W hm' hmc (HS.out.ext hq)))
    clear hV hC
    go_wp2_with fail
    refine (HI.out w2 (Ext.refl _)).mono ?_
    rintro e w3 ⟨rfl, hx3⟩
    go_wp2_with fail
    refine (HJ.out w3 hx3).mono ?_
    rintro e w4 ⟨rfl, hx4⟩
    have hw4 := Ext.trans hxw (Ext.trans hx3 hx4)
    clear HI HJ HS hx3 hx4
    go_wp2_with fail
    refine (f6roll_c a n c f 1403 w4 (by omega) (hs.ext hw4)).mono ?_
    rintro e w5 ⟨g, hh, rfl, hbk, hgs, hx5⟩
    have hdi := dice_of hbk
    have hw5 := Ext.trans hw4 hx5
    have hwz := hw4.size
    have CD := Lib.hid (fun (h0 : 0 < n) (ad : Addr) (e : a = some ad) => (show ad.block ≠ g from by have := hs.low' h0 ad e; omega))
    clear hbk
    go_wp2_with fail
    refine (below_c g a n c f 6 w5 (by omega) (by omega) (hs.ext hw5) hl hdi CD.out).mono ?_
    rintro e w6 ⟨x6, rfl, y6, z6, hd6, hg6⟩
    have hw6 := grown_up hg6 hw5 (by omega)
    clear hdi hg6
    go_wp2_with fail
    refine (below_c g a n c f 6 w6 (by omega) (by omega) (hs.ext hw6) hl hd6 CD.out).mono ?_
    rintro e w7 ⟨x7, rfl, y7, z7, hd7, hg7⟩
    have hw7 := grown_up hg7 hw6 (by omega)
    clear hd6 hg7
    go_wp2_with fail
    refine (below_c g a n c f 500 w7 (by omega) (by omega) (hs.ext hw7) hl hd7 CD.out).mono ?_
    rintro e w8 ⟨x8, rfl, y8, z8, hd8, hg8⟩
    have hw8 := grown_up hg8 hw7 (by omega)
    clear hd7 hg8 hd8
    obtain ⟨F, hF⟩ : ∃ F : Nat, (F : Int) = 1 + x6 := ⟨(1 + x6).toNat, by omega⟩
    obtain ⟨S, hS⟩ : ∃ F : Nat, (F : Int) = 1 + x7 := ⟨(1 + x7).toNat, by omega⟩
    obtain ⟨J, hJ⟩ : ∃ J : Int, J = 1 + x8 := ⟨_, rfl⟩
    have f1 : 1 ≤ F := by omega
    have f2 : F ≤ 6 := by omega
    have s1 : 1 ≤ S := by omega
    have s2 : S ≤ 6 := by omega
    have j1 : 1 ≤ J := by omega
    have j2 : J ≤ 500 := by omega
    have f3 : 1 + x6 = (F : Int) := hF.symm
    have s3 : 1 + x7 = (S : Int) := hS.symm
    have j3 : 1 + x8 = J := hJ.symm
    clear hF hS hJ y6 z6 y7 z7 y8 z8
    go_wp2_with fail
    go_loopw [12, 13, 14] (fun v12 v13 v14 wr => ∃ k : Nat, k ≤ F + S ∧ v13 = .int .i64 k ∧ wr.ownsRow w8.heap.size 33 2 v12 k (PR (outs2 (fun k => 7 * (k : Int)) (lvO F J) k)) ∧ Ext w8 wr) (fun _ v13 _ _ => F + S - (intOf v13).toNat)
    case atStart => exact ⟨0, by omega, rfl, World.ownsRow_made _ #[] 0 (Ext.size (by repeat (first | with_reducible exact Ext.refl _ | with_reducible assumption | with_reducible refine Ext.alloc ?_ _ | with_reducible refine Ext.drew ?_ | (with_reducible refine Ext.setAt ?_ _ _ _ ?_; rotate_left; omega) | with_reducible refine Ext.trans ?_ (by assumption) | with_reducible exact Past.bel _ | with_reducible refine Ext.trans ?_ (Past.bel _)))) (Nat.zero_le _) rfl, (by repeat (first | with_reducible exact Ext.refl _ | with_reducible assumption | with_reducible refine Ext.alloc ?_ _ | with_reducible refine Ext.drew ?_ | (with_reducible refine Ext.setAt ?_ _ _ _ ?_; rotate_left; omega) | with_reducible refine Ext.trans ?_ (by assumption) | with_reducible exact Past.bel _ | with_reducible refine Ext.trans ?_ (Past.bel _)))⟩
    case round =>
      obtain ⟨k, hk, rfl, ho, hbl⟩ := hrel
      have HO := Lib.hid ho
      have x0 : (0 : Int) ≤ (k : Int) := by omega
      have hwr := Ext.trans hw8 hbl
      clear ho
      by_cases hlt : k < F + S
      · have x1 : (k : Int) < (F : Int) + (S : Int) := by omega
        by_cases hF : k < F
        · have x2 : (k : Int) < (F : Int) := by omega
          have x3 : ¬ (F : Int) ≤ (k : Int) := by omega
          have hO : lvO F J k = J := if_pos hF
          have H1 := Lib.hid hO
          clear hO
          go_wp2_with (at_builtin; refine app2o (w0 := w8) 24 33 _ _ _ rfl rfl Try.underlying24 info_rd rfl _ (outs2 (fun k => 7 * (k : Int)) (lvO F J) k) _ _ _ rfl rfl (own_ext (own_outs2l HO.out) (by repeat (first | with_reducible exact Ext.refl _ | with_reducible assumption | with_reducible refine Ext.alloc ?_ _ | with_reducible refine Ext.drew ?_ | (with_reducible refine Ext.setAt ?_ _ _ _ ?_; rotate_left; omega) | with_reducible refine Ext.trans ?_ (by assumption) | with_reducible exact Past.bel _ | with_reducible refine Ext.trans ?_ (Past.bel _)))) (Blk.new _ _ _) (by rw [outs2_len]; omega) (by repeat (first | with_reducible exact Ext.refl _ | with_reducible assumption | with_reducible refine Ext.alloc ?_ _ | with_reducible refine Ext.drew ?_ | (with_reducible refine Ext.setAt ?_ _ _ _ ?_; rotate_left; omega) | with_reducible refine Ext.trans ?_ (by assumption) | with_reducible exact Past.bel _ | with_reducible refine Ext.trans ?_ (Past.bel _))) ?_; intro v6 w6 s6 s7 s8)
          exact ⟨⟨k + 1, by omega, by go_num, (by rw [outs2_len] at s6; show World.ownsRow _ _ _ _ _ _ (PR (outs2 _ _ k ++ [(7 * (k : Int), lvO F J k)])); rw [H1.out]; exact s6), s7⟩, by simp [intOf]; omega⟩
        · have x2 : (F : Int) ≤ (k : Int) := by omega
          have hO : lvO F J k = -J := if_neg hF
          have H1 := Lib.hid hO
          clear hO
          go_wp2_with (at_builtin; refine app2o (w0 := w8) 24 33 _ _ _ rfl rfl Try.underlying24 info_rd rfl _ (outs2 (fun k => 7 * (k : Int)) (lvO F J) k) _ _ _ rfl rfl (own_ext (own_outs2l HO.out) (by repeat (first | with_reducible exact Ext.refl _ | with_reducible assumption | with_reducible refine Ext.alloc ?_ _ | with_reducible refine Ext.drew ?_ | (with_reducible refine Ext.setAt ?_ _ _ _ ?_; rotate_left; omega) | with_reducible refine Ext.trans ?_ (by assumption) | with_reducible exact Past.bel _ | with_reducible refine Ext.trans ?_ (Past.bel _)))) (Blk.new _ _ _) (by rw [outs2_len]; omega) (by repeat (first | with_reducible exact Ext.refl _ | with_reducible assumption | with_reducible refine Ext.alloc ?_ _ | with_reducible refine Ext.drew ?_ | (with_reducible refine Ext.setAt ?_ _ _ _ ?_; rotate_left; omega) | with_reducible refine Ext.trans ?_ (by assumption) | with_reducible exact Past.bel _ | with_reducible refine Ext.trans ?_ (Past.bel _))) ?_; intro v6 w6 s6 s7 s8)
          exact ⟨⟨k + 1, by omega, by go_num, (by rw [outs2_len] at s6; show World.ownsRow _ _ _ _ _ _ (PR (outs2 _ _ k ++ [(7 * (k : Int), lvO F J k)])); rw [H1.out]; exact s6), s7⟩, by simp [intOf]; omega⟩
      · obtain rfl : k = F + S := by omega
        obtain ⟨b9, c9, rfl⟩ := own_form HO.out
        have x1 : ((F + S : Nat) : Int) = (F : Int) + (S : Int) := by omega
        have s2' := own_outs2 HO.out
        have hv : rdV (F + S) (fun k => 7 * (k : Int)) (lvO F J) = true := rdV_of (by omega) (fun k hk => by omega) (fun k hk => by unfold lvO; split <;> omega) (fun k hk => by omega)
        have hbc := (lv_bc (S := S) f1 s1 j1 (show F + S - 1 < F + S by omega)).2.2 (by omega)
        have r1 : bcCode (F + S) (fun k => 7 * (k : Int)) (lvO F J) = 0 := by rw [bcCode, if_pos hv, if_neg (by omega)]
        have r2 : bcRes (F + S) (fun k => 7 * (k : Int)) (lvO F J) = F := by rw [bcRes, if_pos r1, hbc]
        have r3 : jmpCode (F + S) (fun k => 7 * (k : Int)) (lvO F J) (2 * J) = 0 := by rw [jmpCode, if_pos hv, if_pos (inB_t.2 ⟨by omega, by omega⟩)]
        have r4 : jmpRes (F + S) (fun k => 7 * (k : Int)) (lvO F J) (2 * J) = [(F : Int)] := by rw [jmpRes, if_pos r3, lv_jmp f1 j1, if_pos (by omega)]
        have HB := implBestChange_c b9 (F + S) c9 (fun k => 7 * (k : Int)) (lvO F J) wr (by omega) s2'
        rw [r1, r2] at HB
        have HB := Lib.hid HB
        have HJ := Lib.hid (fun (W : World) (hq : Ext wr W) => implJumpsOf_c b9 (F + S) c9 (fun k => 7 * (k : Int)) (lvO F J) (2 * J) W (by omega) (s2'.ext hq))
        clear hv hbc r1 r2 s2' HO
        have x2 : ¬ ((F + S : Nat) : Int) < (F : Int) + (S : Int) := by omega
        go_wp2_with fail
        refine HB.out.mono ?_
        rintro e wA ⟨rfl, hxA⟩
        go_wp2_with fail
        refine (HJ.out wA hxA).mono ?_
        rw [r3, r4]
        rintro e wB ⟨b10, c10, rfl, hxB, hoB⟩
        obtain ⟨gg, rfl, hg1, hg2, hg3, hg4⟩ := own_at hoB (show 0 < [(F : Int)].length by simp)
        have hg5 : wB.cell? ⟨gg, 0, none⟩ = some (.int .i64 F) := by simpa using hg3
        have hwB := Ext.trans hwr (Ext.trans hxA hxB)
        have x3 : ((F : Int) == (F : Int)) = true := by simp
        clear hoB hg3 HJ HB r3 r4
        go_wp2_with fail
        go_ret
        exact ⟨rfl, hwB⟩
  · have e1 : decide (4096 < n) = true := decide_eq_true (by omega)
    go_enter Try.func3, Try.ntmps3
    go_wp2_with (go_at_call 9; ((with_reducible refine (f6big_c _ _ _ _).mono ?_); rintro e w' ⟨rfl, rfl⟩))
    go_ret
    exact ⟨rfl, (by repeat (first | with_reducible exact Ext.refl _ | with_reducible assumption | with_reducible refine Ext.alloc ?_ _ | with_reducible refine Ext.drew ?_ | (with_reducible refine Ext.setAt ?_ _ _ _ ?_; rotate_left; omega) | with_reducible refine Ext.trans ?_ (by assumption) | with_reducible exact Past.bel _ | with_reducible refine Ext.trans ?_ (Past.bel _)))⟩
end Go.Proofs.Ytmbpjlgeneemjaa
