/- FuseeRadii: the program and the reference. Springs' bends: copied, compared, marked. The law on FuseeRadii: its walk. -/
import Derived.Test.YtglcjnplmhelhaaBd

namespace Go.Proofs.Ytglcjnplmhelhaa
open Go.RowKit
set_option linter.unusedVariables false
set_option linter.unusedSimpArgs false

/-- what FuseeRadii returns, of an owned list -/
def fuPost (w : World) (n : Nat) (wd pl : Nat → Int) (f t st mo : Int) (e : Ending) (w' : World) : Prop :=
  ∃ b cap, e = .returned (.tuple #[.slice b (fuRes n wd pl f t st mo).length cap, .int .i64 (fuC n wd pl f t st mo)]) ∧ Ext w w' ∧
    w'.ownsRow w.heap.size 2 1 (.slice b (fuRes n wd pl f t st mo).length cap) (fuRes n wd pl f t st mo).length ((fuRes n wd pl f t st mo).map (Value.int .i64))
theorem fu_nil {w w' : World} {n : Nat} {wd pl : Nat → Int} {f t st mo c : Int} (hx : Ext w w') (hg : fuG n wd pl f t st mo = false) (hc : c = fuC n wd pl f t st mo) :
    fuPost w n wd pl f t st mo (.returned (.tuple #[.slice none 0 0, .int .i64 c])) w' := by
  have hr : fuRes n wd pl f t st mo = [] := by rw [fuRes, hg]; rfl
  exact ⟨none, 0, ret_two (by rw [hr]; rfl) (congrArg _ hc), hx, by rw [hr]; exact World.ownsRow_nil _ _ _ _⟩
section
variable {a : Option Addr} {n c : Nat} {wd pl : Nat → Int} {w : World}
set_option maxHeartbeats 4000000 in
theorem implFuseeRadii_c (hn : n ≤ 1048576) (hs : S2 w a n wd pl) (f t st mo : Int) :
    Calls Try.prog 29 #[.agg #[.slice a n c], .int .i64 f, .int .i64 t, .int .i64 st, .int .i64 mo] w (fuPost w n wd pl f t st mo) := by
  have HS := Lib.hid hs
  clear hs
  cases h1 : spV n wd pl
  · go_enter Try.func29, Try.ntmps29
    go_wp2_with (go_at_call 13; ((with_reducible refine (validSpring_c hn (HS.out.ext (by repeat (first | with_reducible exact Ext.refl _ | with_reducible assumption | with_reducible refine Ext.alloc ?_ _ | with_reducible refine Ext.drew ?_ | (with_reducible refine Ext.setAt ?_ _ _ _ ?_; rotate_left; omega) | with_reducible refine Ext.trans ?_ (by assumption) | with_reducible exact Past.bel _ | with_reducible refine Ext.trans ?_ (Past.bel _))))).mono ?_); rintro e w' ⟨rfl, hx⟩; (first | (obtain ⟨wx, rfl⟩ := Past.again hx) | (obtain ⟨wx, rfl⟩ := Past.ofd hx) | (obtain ⟨wx, rfl⟩ := Past.of hx))))
    go_ret2
    exact fu_nil (by repeat (first | with_reducible exact Ext.refl _ | with_reducible assumption | with_reducible refine Ext.alloc ?_ _ | with_reducible refine Ext.drew ?_ | (with_reducible refine Ext.setAt ?_ _ _ _ ?_; rotate_left; omega) | with_reducible refine Ext.trans ?_ (by assumption) | with_reducible exact Past.bel _ | with_reducible refine Ext.trans ?_ (Past.bel _))) (by rw [fuG, h1]; rfl) (by rw [fuC, h1]; rfl)
  · have B := Lib.hid (spV_b h1)
    have hn1 : 1 ≤ n := by have := B.out.n2; omega
    cases h2 : inS n wd f
    · go_enter Try.func29, Try.ntmps29
      go_wp2_with (first | (go_at_call 13; ((with_reducible refine (validSpring_c hn (HS.out.ext (by repeat (first | with_reducible exact Ext.refl _ | with_reducible assumption | with_reducible refine Ext.alloc ?_ _ | with_reducible refine Ext.drew ?_ | (with_reducible refine Ext.setAt ?_ _ _ _ ?_; rotate_left; omega) | with_reducible refine Ext.trans ?_ (by assumption) | with_reducible exact Past.bel _ | with_reducible refine Ext.trans ?_ (Past.bel _))))).mono ?_); rintro e w' ⟨rfl, hx⟩; (first | (obtain ⟨wx, rfl⟩ := Past.again hx) | (obtain ⟨wx, rfl⟩ := Past.ofd hx) | (obtain ⟨wx, rfl⟩ := Past.of hx)))) | (go_at_call 47; ((with_reducible refine (isPosition_c hn1 hn (HS.out.ext (by repeat (first | with_reducible exact Ext.refl _ | with_reducible assumption | with_reducible refine Ext.alloc ?_ _ | with_reducible refine Ext.drew ?_ | (with_reducible refine Ext.setAt ?_ _ _ _ ?_; rotate_left; omega) | with_reducible refine Ext.trans ?_ (by assumption) | with_reducible exact Past.bel _ | with_reducible refine Ext.trans ?_ (Past.bel _)))) _).mono ?_); rintro e w' ⟨rfl, hx⟩; (first | (obtain ⟨wx, rfl⟩ := Past.again hx) | (obtain ⟨wx, rfl⟩ := Past.ofd hx) | (obtain ⟨wx, rfl⟩ := Past.of hx)))))
      go_ret2
      exact fu_nil (by repeat (first | with_reducible exact Ext.refl _ | with_reducible assumption | with_reducible refine Ext.alloc ?_ _ | with_reducible refine Ext.drew ?_ | (with_reducible refine Ext.setAt ?_ _ _ _ ?_; rotate_left; omega) | with_reducible refine Ext.trans ?_ (by assumption) | with_reducible exact Past.bel _ | with_reducible refine Ext.trans ?_ (Past.bel _))) (by rw [fuG, fuB, h1, h2]; rfl) (by rw [fuC, fuB, h1, h2]; rfl)
    · cases h3 : inS n wd t
      · go_enter Try.func29, Try.ntmps29
        go_wp2_with (first | (go_at_call 13; ((with_reducible refine (validSpring_c hn (HS.out.ext (by repeat (first | with_reducible exact Ext.refl _ | with_reducible assumption | with_reducible refine Ext.alloc ?_ _ | with_reducible refine Ext.drew ?_ | (with_reducible refine Ext.setAt ?_ _ _ _ ?_; rotate_left; omega) | with_reducible refine Ext.trans ?_ (by assumption) | with_reducible exact Past.bel _ | with_reducible refine Ext.trans ?_ (Past.bel _))))).mono ?_); rintro e w' ⟨rfl, hx⟩; (first | (obtain ⟨wx, rfl⟩ := Past.again hx) | (obtain ⟨wx, rfl⟩ := Past.ofd hx) | (obtain ⟨wx, rfl⟩ := Past.of hx)))) | (go_at_call 47; ((with_reducible refine (isPosition_c hn1 hn (HS.out.ext (by repeat (first | with_reducible exact Ext.refl _ | with_reducible assumption | with_reducible refine Ext.alloc ?_ _ | with_reducible refine Ext.drew ?_ | (with_reducible refine Ext.setAt ?_ _ _ _ ?_; rotate_left; omega) | with_reducible refine Ext.trans ?_ (by assumption) | with_reducible exact Past.bel _ | with_reducible refine Ext.trans ?_ (Past.bel _)))) _).mono ?_); rintro e w' ⟨rfl, hx⟩; (first | (obtain ⟨wx, rfl⟩ := Past.again hx) | (obtain ⟨wx, rfl⟩ := Past.ofd hx) | (obtain ⟨wx, rfl⟩ := Past.of hx)))))
        go_ret2
        exact fu_nil (by repeat (first | with_reducible exact Ext.refl _ | with_reducible assumption | with_reducible refine Ext.alloc ?_ _ | with_reducible refine Ext.drew ?_ | (with_reducible refine Ext.setAt ?_ _ _ _ ?_; rotate_left; omega) | with_reducible refine Ext.trans ?_ (by assumption) | with_reducible exact Past.bel _ | with_reducible refine Ext.trans ?_ (Past.bel _))) (by rw [fuG, fuB, h1, h2, h3]; rfl) (by rw [fuC, fuB, h1, h2, h3]; rfl)
      · by_cases h4 : f ≤ t
        · cases h5 : inB st 1 2000
          · go_enter Try.func29, Try.ntmps29
            go_wp2_with (first | (go_at_call 13; ((with_reducible refine (validSpring_c hn (HS.out.ext (by repeat (first | with_reducible exact Ext.refl _ | with_reducible assumption | with_reducible refine Ext.alloc ?_ _ | with_reducible refine Ext.drew ?_ | (with_reducible refine Ext.setAt ?_ _ _ _ ?_; rotate_left; omega) | with_reducible refine Ext.trans ?_ (by assumption) | with_reducible exact Past.bel _ | with_reducible refine Ext.trans ?_ (Past.bel _))))).mono ?_); rintro e w' ⟨rfl, hx⟩; (first | (obtain ⟨wx, rfl⟩ := Past.again hx) | (obtain ⟨wx, rfl⟩ := Past.ofd hx) | (obtain ⟨wx, rfl⟩ := Past.of hx)))) | (go_at_call 47; ((with_reducible refine (isPosition_c hn1 hn (HS.out.ext (by repeat (first | with_reducible exact Ext.refl _ | with_reducible assumption | with_reducible refine Ext.alloc ?_ _ | with_reducible refine Ext.drew ?_ | (with_reducible refine Ext.setAt ?_ _ _ _ ?_; rotate_left; omega) | with_reducible refine Ext.trans ?_ (by assumption) | with_reducible exact Past.bel _ | with_reducible refine Ext.trans ?_ (Past.bel _)))) _).mono ?_); rintro e w' ⟨rfl, hx⟩; (first | (obtain ⟨wx, rfl⟩ := Past.again hx) | (obtain ⟨wx, rfl⟩ := Past.ofd hx) | (obtain ⟨wx, rfl⟩ := Past.of hx)))) | (go_at_call 52; ((with_reducible refine (within_c _ _ _ _).mono ?_); rintro e w' ⟨rfl, rfl⟩)))
            go_ret2
            exact fu_nil (by repeat (first | with_reducible exact Ext.refl _ | with_reducible assumption | with_reducible refine Ext.alloc ?_ _ | with_reducible refine Ext.drew ?_ | (with_reducible refine Ext.setAt ?_ _ _ _ ?_; rotate_left; omega) | with_reducible refine Ext.trans ?_ (by assumption) | with_reducible exact Past.bel _ | with_reducible refine Ext.trans ?_ (Past.bel _))) (by rw [fuG, fuB, h1, h2, h3, h5, decide_eq_true h4]; rfl) (by rw [fuC, fuB, h1, h2, h3, h5, decide_eq_true h4]; rfl)
          · cases h6 : inB mo 0 1000000000
            · go_enter Try.func29, Try.ntmps29
              go_wp2_with (first | (go_at_call 13; ((with_reducible refine (validSpring_c hn (HS.out.ext (by repeat (first | with_reducible exact Ext.refl _ | with_reducible assumption | with_reducible refine Ext.alloc ?_ _ | with_reducible refine Ext.drew ?_ | (with_reducible refine Ext.setAt ?_ _ _ _ ?_; rotate_left; omega) | with_reducible refine Ext.trans ?_ (by assumption) | with_reducible exact Past.bel _ | with_reducible refine Ext.trans ?_ (Past.bel _))))).mono ?_); rintro e w' ⟨rfl, hx⟩; (first | (obtain ⟨wx, rfl⟩ := Past.again hx) | (obtain ⟨wx, rfl⟩ := Past.ofd hx) | (obtain ⟨wx, rfl⟩ := Past.of hx)))) | (go_at_call 47; ((with_reducible refine (isPosition_c hn1 hn (HS.out.ext (by repeat (first | with_reducible exact Ext.refl _ | with_reducible assumption | with_reducible refine Ext.alloc ?_ _ | with_reducible refine Ext.drew ?_ | (with_reducible refine Ext.setAt ?_ _ _ _ ?_; rotate_left; omega) | with_reducible refine Ext.trans ?_ (by assumption) | with_reducible exact Past.bel _ | with_reducible refine Ext.trans ?_ (Past.bel _)))) _).mono ?_); rintro e w' ⟨rfl, hx⟩; (first | (obtain ⟨wx, rfl⟩ := Past.again hx) | (obtain ⟨wx, rfl⟩ := Past.ofd hx) | (obtain ⟨wx, rfl⟩ := Past.of hx)))) | (go_at_call 52; ((with_reducible refine (within_c _ _ _ _).mono ?_); rintro e w' ⟨rfl, rfl⟩)))
              go_ret2
              exact fu_nil (by repeat (first | with_reducible exact Ext.refl _ | with_reducible assumption | with_reducible refine Ext.alloc ?_ _ | with_reducible refine Ext.drew ?_ | (with_reducible refine Ext.setAt ?_ _ _ _ ?_; rotate_left; omega) | with_reducible refine Ext.trans ?_ (by assumption) | with_reducible exact Past.bel _ | with_reducible refine Ext.trans ?_ (Past.bel _))) (by rw [fuG, fuB, h1, h2, h3, h5, h6, decide_eq_true h4]; rfl) (by rw [fuC, fuB, h1, h2, h3, h5, h6, decide_eq_true h4]; rfl)
            · have H2 := Lib.hid h2
              have H3 := Lib.hid h3
              have hB := fuB_nn h2 h3 h4 h5 h6
              have HB := Lib.hid hB
              have hst := inB_t.1 h5
              have hmo := inB_t.1 h6
              have pf := B.out.pull h2
              have PF0 : ∀ j : Nat, j < fuN f t st → inS n wd (f + (j : Int) * st) = true ∧ pullF wd pl f ≤ pullF wd pl (f + (j : Int) * st) := fun j hj => by
                have q1 := fuN_in h4 hst.1 hj
                have q2 := inB_t.1 h2
                have q3 := inB_t.1 h3
                have q4 : inS n wd (f + (j : Int) * st) = true := inB_t.2 ⟨by omega, by omega⟩
                exact ⟨q4, B.out.mono h2 q4 q1.1⟩
              have HPF := Lib.hid PF0
              obtain ⟨P, hP⟩ : ∃ P, P = pullF wd pl f := ⟨_, rfl⟩
              have H1 := Lib.hid h1
              have hPA : ∀ W, Ext w W → Calls Try.prog 48 #[.agg #[.slice a n c], .int .i64 f] W fun e w' => e = .returned (.int .i64 P) ∧ Ext W w' := fun W hq => by rw [hP]; exact pullAt_c B.out (HS.out.ext hq) H2.out
              have HPA := Lib.hid hPA
              have HP := Lib.hid hP
              rw [← hP] at pf
              clear hPA PF0 hB
              by_cases h7 : P = 0
              · subst h7
                clear hP
                go_enter Try.func29, Try.ntmps29
                go_wp2_with (first | (go_at_call 13; ((with_reducible refine (validSpring_c hn (HS.out.ext (by repeat (first | with_reducible exact Ext.refl _ | with_reducible assumption | with_reducible refine Ext.alloc ?_ _ | with_reducible refine Ext.drew ?_ | (with_reducible refine Ext.setAt ?_ _ _ _ ?_; rotate_left; omega) | with_reducible refine Ext.trans ?_ (by assumption) | with_reducible exact Past.bel _ | with_reducible refine Ext.trans ?_ (Past.bel _))))).mono ?_); rintro e w' ⟨rfl, hx⟩; (first | (obtain ⟨wx, rfl⟩ := Past.again hx) | (obtain ⟨wx, rfl⟩ := Past.ofd hx) | (obtain ⟨wx, rfl⟩ := Past.of hx)))) | (go_at_call 47; ((with_reducible refine (isPosition_c hn1 hn (HS.out.ext (by repeat (first | with_reducible exact Ext.refl _ | with_reducible assumption | with_reducible refine Ext.alloc ?_ _ | with_reducible refine Ext.drew ?_ | (with_reducible refine Ext.setAt ?_ _ _ _ ?_; rotate_left; omega) | with_reducible refine Ext.trans ?_ (by assumption) | with_reducible exact Past.bel _ | with_reducible refine Ext.trans ?_ (Past.bel _)))) _).mono ?_); rintro e w' ⟨rfl, hx⟩; (first | (obtain ⟨wx, rfl⟩ := Past.again hx) | (obtain ⟨wx, rfl⟩ := Past.ofd hx) | (obtain ⟨wx, rfl⟩ := Past.of hx)))) | (go_at_call 52; ((with_reducible refine (within_c _ _ _ _).mono ?_); rintro e w' ⟨rfl, rfl⟩)) | (go_at_call 48; ((with_reducible refine (HPA.out _ (by repeat (first | with_reducible exact Ext.refl _ | with_reducible assumption | with_reducible refine Ext.alloc ?_ _ | with_reducible refine Ext.drew ?_ | (with_reducible refine Ext.setAt ?_ _ _ _ ?_; rotate_left; omega) | with_reducible refine Ext.trans ?_ (by assumption) | with_reducible exact Past.bel _ | with_reducible refine Ext.trans ?_ (Past.bel _)))).mono ?_); rintro e w' ⟨rfl, hx⟩; (first | (obtain ⟨wx, rfl⟩ := Past.again hx) | (obtain ⟨wx, rfl⟩ := Past.ofd hx) | (obtain ⟨wx, rfl⟩ := Past.of hx)))))
                go_ret2
                exact fu_nil (by repeat (first | with_reducible exact Ext.refl _ | with_reducible assumption | with_reducible refine Ext.alloc ?_ _ | with_reducible refine Ext.drew ?_ | (with_reducible refine Ext.setAt ?_ _ _ _ ?_; rotate_left; omega) | with_reducible refine Ext.trans ?_ (by assumption) | with_reducible exact Past.bel _ | with_reducible refine Ext.trans ?_ (Past.bel _))) (by rw [fuG, H1.out, HB.out, ← HP.out]; rfl) (by rw [fuC, H1.out, HB.out, ← HP.out]; rfl)
              · have h7' : (P == 0) = false := by simpa using h7
                have hg : fuG n wd pl f t st mo = true := by rw [fuG, H1.out, HB.out, ← HP.out, h7']; rfl
                have hc : fuC n wd pl f t st mo = 0 := by rw [fuC, H1.out, HB.out, ← HP.out, h7']; rfl
                have hr : fuRes n wd pl f t st mo = outs (fuF wd pl f st mo) (fuN f t st) := by rw [fuRes, hg]; rfl
                have hf := B.out.inS h2
                have ht := B.out.inS h3
                have hN := fuN_le h4 hst.1
                have HO := Lib.hid (fuN_out h4 hst.1)
                have HI := Lib.hid (fun (j : Nat) (hj : j < fuN f t st) => fuN_in h4 hst.1 hj)
                have HC := Lib.hid hc
                have HR := Lib.hid hr
                obtain ⟨N, hNe⟩ : ∃ N, N = fuN f t st := ⟨_, rfl⟩
                rw [← hNe] at HO HI HPF HR hN
                have P1 : 1 ≤ P := by omega
                clear hg hc hr hP h7 hNe
                obtain ⟨i0, hi, hz0, hz1, hz2⟩ := info_parts info_i64
                go_enter Try.func29, Try.ntmps29
                go_wp2_with (first | (go_at_call 13; ((with_reducible refine (validSpring_c hn (HS.out.ext (by repeat (first | with_reducible exact Ext.refl _ | with_reducible assumption | with_reducible refine Ext.alloc ?_ _ | with_reducible refine Ext.drew ?_ | (with_reducible refine Ext.setAt ?_ _ _ _ ?_; rotate_left; omega) | with_reducible refine Ext.trans ?_ (by assumption) | with_reducible exact Past.bel _ | with_reducible refine Ext.trans ?_ (Past.bel _))))).mono ?_); rintro e w' ⟨rfl, hx⟩; (first | (obtain ⟨wx, rfl⟩ := Past.again hx) | (obtain ⟨wx, rfl⟩ := Past.ofd hx) | (obtain ⟨wx, rfl⟩ := Past.of hx)))) | (go_at_call 47; ((with_reducible refine (isPosition_c hn1 hn (HS.out.ext (by repeat (first | with_reducible exact Ext.refl _ | with_reducible assumption | with_reducible refine Ext.alloc ?_ _ | with_reducible refine Ext.drew ?_ | (with_reducible refine Ext.setAt ?_ _ _ _ ?_; rotate_left; omega) | with_reducible refine Ext.trans ?_ (by assumption) | with_reducible exact Past.bel _ | with_reducible refine Ext.trans ?_ (Past.bel _)))) _).mono ?_); rintro e w' ⟨rfl, hx⟩; (first | (obtain ⟨wx, rfl⟩ := Past.again hx) | (obtain ⟨wx, rfl⟩ := Past.ofd hx) | (obtain ⟨wx, rfl⟩ := Past.of hx)))) | (go_at_call 52; ((with_reducible refine (within_c _ _ _ _).mono ?_); rintro e w' ⟨rfl, rfl⟩)) | (go_at_call 48; ((with_reducible refine (HPA.out _ (by repeat (first | with_reducible exact Ext.refl _ | with_reducible assumption | with_reducible refine Ext.alloc ?_ _ | with_reducible refine Ext.drew ?_ | (with_reducible refine Ext.setAt ?_ _ _ _ ?_; rotate_left; omega) | with_reducible refine Ext.trans ?_ (by assumption) | with_reducible exact Past.bel _ | with_reducible refine Ext.trans ?_ (Past.bel _)))).mono ?_); rintro e w' ⟨rfl, hx⟩; (first | (obtain ⟨wx, rfl⟩ := Past.again hx) | (obtain ⟨wx, rfl⟩ := Past.ofd hx) | (obtain ⟨wx, rfl⟩ := Past.of hx)))))
                clear h2 h3 h5 h6 HPA HB h4
                go_loopw [12, 13] (fun v i wr => ∃ (j : Nat) (T : Int), j ≤ N ∧ T = f + (j : Int) * st ∧ i = .int .i64 T ∧ Ext (w.alloc (.cells #[.slice a n c] 26)) wr ∧ wr.ownsRow (w.alloc (.cells #[.slice a n c] 26)).heap.size 2 1 v j ((outs (fuF wd pl f st mo) j).map (Value.int .i64))) (fun _ i _ => (t + 1 - intOf i).toNat)
                case atStart => exact ⟨0, f, by omega, by simp, rfl, (by repeat (first | with_reducible exact Ext.refl _ | with_reducible assumption | with_reducible refine Ext.alloc ?_ _ | with_reducible refine Ext.drew ?_ | (with_reducible refine Ext.setAt ?_ _ _ _ ?_; rotate_left; omega) | with_reducible refine Ext.trans ?_ (by assumption) | with_reducible exact Past.bel _ | with_reducible refine Ext.trans ?_ (Past.bel _))), World.ownsRow_nil _ _ _ _⟩
                case round =>
                  obtain ⟨j, T, hj, hT, rfl, hbl, ho⟩ := hrel
                  have HT := Lib.hid hT
                  have HOW := Lib.hid ho
                  have hz := hbl.size
                  simp only [World.size_alloc] at hz
                  have hg : w.heap.size < wr.heap.size := by omega
                  have p0 : wr.cell? ⟨w.heap.size, 0, none⟩ = some (.slice a n c) := by rw [hbl.cell (by simp)]; simp [go_sem]
                  have hxw : Ext w wr := Ext.trans (by repeat (first | with_reducible exact Ext.refl _ | with_reducible assumption | with_reducible refine Ext.alloc ?_ _ | with_reducible refine Ext.drew ?_ | (with_reducible refine Ext.setAt ?_ _ _ _ ?_; rotate_left; omega) | with_reducible refine Ext.trans ?_ (by assumption) | with_reducible exact Past.bel _ | with_reducible refine Ext.trans ?_ (Past.bel _))) hbl
                  clear ho
                  by_cases hlt : j < N
                  · have q0 := HI.out j hlt
                    have q1 := HPF.out j hlt
                    rw [← hT] at q0 q1
                    have I1 := Lib.hid q1.1
                    have q2 := B.out.pull q1.1
                    obtain ⟨u0, u1⟩ := q0
                    have u2 : 0 ≤ T := by omega
                    have u3 : T ≤ 2000 := by omega
                    obtain ⟨R, hR⟩ : ∃ R, R = pullF wd pl T := ⟨_, rfl⟩
                    have q3 := q1.2
                    rw [← hR] at q2 q3
                    have r1 : 1 ≤ R := by have := HP.out; omega
                    obtain ⟨r0, r2⟩ := q2
                    have hF : nearD mo R = fuF wd pl f st mo j := by rw [fuF, hR, hT]
                    have HF := Lib.hid hF
                    have HA := Lib.hid (fun W (hq : Ext w W) => (hR ▸ pullAt_c B.out (HS.out.ext hq) I1.out : Calls Try.prog 48 #[.agg #[.slice a n c], .int .i64 T] W fun e w' => e = .returned (.int .i64 R) ∧ Ext W w'))
                    have HD := Lib.hid (fun W => (hF ▸ nearestDiv_c mo R W (by omega) (by omega) (by omega) (by omega) : Calls Try.prog 65 #[.int .i64 mo, .int .i64 R] W fun e w' => e = .returned (.int .i64 (fuF wd pl f st mo j)) ∧ W = w'))
                    have SK' := Lib.hid (fun (w' : World) (hq : Ext wr w') => (show w'.cell? ⟨w.heap.size, 0, none⟩ = some (.slice a n c) from by rw [hq.cell hg]; exact p0))
                    have x5 : IntKind.i64.wrap (T + st) = T + st := IntWalk.i64_in _ (by omega)
                    clear hR hF hT q1 q3
                    go_wp2_with (first | (go_at_call 48; ((with_reducible refine (HA.out _ (by repeat (first | with_reducible exact Ext.refl _ | with_reducible assumption | with_reducible refine Ext.alloc ?_ _ | with_reducible refine Ext.drew ?_ | (with_reducible refine Ext.setAt ?_ _ _ _ ?_; rotate_left; omega) | with_reducible refine Ext.trans ?_ (by assumption) | with_reducible exact Past.bel _ | with_reducible refine Ext.trans ?_ (Past.bel _)))).mono ?_); rintro e w' ⟨rfl, hx⟩; (first | (obtain ⟨wx, rfl⟩ := Past.again hx) | (obtain ⟨wx, rfl⟩ := Past.ofd hx) | (obtain ⟨wx, rfl⟩ := Past.of hx)))) | (go_at_call 65; ((with_reducible refine (HD.out _).mono ?_); rintro e w' ⟨rfl, rfl⟩)) | (at_builtin; refine app1 (w0 := w.alloc (.cells #[.slice a n c] 26)) 52 2 _ _ rfl rfl Try.underlying52 info_i64 _ (outs (fuF wd pl f st mo) j) (fuF wd pl f st mo j) _ rfl rfl (own_ext (outs_own HOW.out) (by repeat (first | with_reducible exact Ext.refl _ | with_reducible assumption | with_reducible refine Ext.alloc ?_ _ | with_reducible refine Ext.drew ?_ | (with_reducible refine Ext.setAt ?_ _ _ _ ?_; rotate_left; omega) | with_reducible refine Ext.trans ?_ (by assumption) | with_reducible exact Past.bel _ | with_reducible refine Ext.trans ?_ (Past.bel _)))) (by simp [go_sem]) (by rw [outs_len]; omega) (by repeat (first | with_reducible exact Ext.refl _ | with_reducible assumption | with_reducible refine Ext.alloc ?_ _ | with_reducible refine Ext.drew ?_ | (with_reducible refine Ext.setAt ?_ _ _ _ ?_; rotate_left; omega) | with_reducible refine Ext.trans ?_ (by assumption) | with_reducible exact Past.bel _ | with_reducible refine Ext.trans ?_ (Past.bel _))) ?_; intro v1 w1 ho1 hx1))
                    exact ⟨⟨j + 1, T + st, by omega, by rw [HT.out]; grind, by go_num, (by repeat (first | with_reducible exact Ext.refl _ | with_reducible assumption | with_reducible refine Ext.alloc ?_ _ | with_reducible refine Ext.drew ?_ | (with_reducible refine Ext.setAt ?_ _ _ _ ?_; rotate_left; omega) | with_reducible refine Ext.trans ?_ (by assumption) | with_reducible exact Past.bel _ | with_reducible refine Ext.trans ?_ (Past.bel _))), by rw [← outs_step]; simpa [outs_len] using ho1⟩, by simp [intOf]; omega⟩
                  · have hl : j = N := by omega
                    subst hl
                    have u1 : t < T := by have := HO.out; rw [hT]; exact this
                    obtain ⟨b, cap, rfl⟩ := own_form HOW.out
                    clear hT
                    go_wp2_with fail
                    go_ret2
                    exact ⟨b, cap, ret_two (by simp [HR.out, outs_len]) (congrArg _ HC.out.symm), (by repeat (first | with_reducible exact Ext.refl _ | with_reducible assumption | with_reducible refine Ext.alloc ?_ _ | with_reducible refine Ext.drew ?_ | (with_reducible refine Ext.setAt ?_ _ _ _ ?_; rotate_left; omega) | with_reducible refine Ext.trans ?_ (by assumption) | with_reducible exact Past.bel _ | with_reducible refine Ext.trans ?_ (Past.bel _))), by rw [HR.out]; exact own_base (by simpa [outs_len] using HOW.out) (by simp)⟩
        · have h5 : t < f := by omega
          go_enter Try.func29, Try.ntmps29
          go_wp2_with (first | (go_at_call 13; ((with_reducible refine (validSpring_c hn (HS.out.ext (by repeat (first | with_reducible exact Ext.refl _ | with_reducible assumption | with_reducible refine Ext.alloc ?_ _ | with_reducible refine Ext.drew ?_ | (with_reducible refine Ext.setAt ?_ _ _ _ ?_; rotate_left; omega) | with_reducible refine Ext.trans ?_ (by assumption) | with_reducible exact Past.bel _ | with_reducible refine Ext.trans ?_ (Past.bel _))))).mono ?_); rintro e w' ⟨rfl, hx⟩; (first | (obtain ⟨wx, rfl⟩ := Past.again hx) | (obtain ⟨wx, rfl⟩ := Past.ofd hx) | (obtain ⟨wx, rfl⟩ := Past.of hx)))) | (go_at_call 47; ((with_reducible refine (isPosition_c hn1 hn (HS.out.ext (by repeat (first | with_reducible exact Ext.refl _ | with_reducible assumption | with_reducible refine Ext.alloc ?_ _ | with_reducible refine Ext.drew ?_ | (with_reducible refine Ext.setAt ?_ _ _ _ ?_; rotate_left; omega) | with_reducible refine Ext.trans ?_ (by assumption) | with_reducible exact Past.bel _ | with_reducible refine Ext.trans ?_ (Past.bel _)))) _).mono ?_); rintro e w' ⟨rfl, hx⟩; (first | (obtain ⟨wx, rfl⟩ := Past.again hx) | (obtain ⟨wx, rfl⟩ := Past.ofd hx) | (obtain ⟨wx, rfl⟩ := Past.of hx)))))
          go_ret2
          exact fu_nil (by repeat (first | with_reducible exact Ext.refl _ | with_reducible assumption | with_reducible refine Ext.alloc ?_ _ | with_reducible refine Ext.drew ?_ | (with_reducible refine Ext.setAt ?_ _ _ _ ?_; rotate_left; omega) | with_reducible refine Ext.trans ?_ (by assumption) | with_reducible exact Past.bel _ | with_reducible refine Ext.trans ?_ (Past.bel _))) (by rw [fuG, fuB, h1, h2, h3, decide_eq_false (show ¬ f ≤ t by omega)]; rfl) (by rw [fuC, fuB, h1, h2, h3, decide_eq_false (show ¬ f ≤ t by omega)]; rfl)
set_option maxHeartbeats 4000000 in
theorem specFuseeRadii_c (hn : n ≤ 1048576) (hs : S2 w a n wd pl) (f t st mo : Int) :
    Calls Try.prog 27 #[.agg #[.slice a n c], .int .i64 f, .int .i64 t, .int .i64 st, .int .i64 mo] w (fuPost w n wd pl f t st mo) := by
  have HS := Lib.hid hs
  clear hs
  cases h1 : spV n wd pl
  · go_enter Try.func27, Try.ntmps27
    go_wp2_with (go_at_call 49; ((with_reducible refine (l13Ok_c hn (HS.out.ext (by repeat (first | with_reducible exact Ext.refl _ | with_reducible assumption | with_reducible refine Ext.alloc ?_ _ | with_reducible refine Ext.drew ?_ | (with_reducible refine Ext.setAt ?_ _ _ _ ?_; rotate_left; omega) | with_reducible refine Ext.trans ?_ (by assumption) | with_reducible exact Past.bel _ | with_reducible refine Ext.trans ?_ (Past.bel _))))).mono ?_); rintro e w' ⟨rfl, hx⟩; (first | (obtain ⟨wx, rfl⟩ := Past.again hx) | (obtain ⟨wx, rfl⟩ := Past.ofd hx) | (obtain ⟨wx, rfl⟩ := Past.of hx))))
    go_ret2
    exact fu_nil (by repeat (first | with_reducible exact Ext.refl _ | with_reducible assumption | with_reducible refine Ext.alloc ?_ _ | with_reducible refine Ext.drew ?_ | (with_reducible refine Ext.setAt ?_ _ _ _ ?_; rotate_left; omega) | with_reducible refine Ext.trans ?_ (by assumption) | with_reducible exact Past.bel _ | with_reducible refine Ext.trans ?_ (Past.bel _))) (by rw [fuG, h1]; rfl) (by rw [fuC, h1]; rfl)
  · have B := Lib.hid (spV_b h1)
    have hn1 : 1 ≤ n := by have := B.out.n2; omega
    cases h2 : inS n wd f
    · go_enter Try.func27, Try.ntmps27
      go_wp2_with (first | (go_at_call 49; ((with_reducible refine (l13Ok_c hn (HS.out.ext (by repeat (first | with_reducible exact Ext.refl _ | with_reducible assumption | with_reducible refine Ext.alloc ?_ _ | with_reducible refine Ext.drew ?_ | (with_reducible refine Ext.setAt ?_ _ _ _ ?_; rotate_left; omega) | with_reducible refine Ext.trans ?_ (by assumption) | with_reducible exact Past.bel _ | with_reducible refine Ext.trans ?_ (Past.bel _))))).mono ?_); rintro e w' ⟨rfl, hx⟩; (first | (obtain ⟨wx, rfl⟩ := Past.again hx) | (obtain ⟨wx, rfl⟩ := Past.ofd hx) | (obtain ⟨wx, rfl⟩ := Past.of hx)))) | (go_at_call 50; ((with_reducible refine (l13In_c hn1 hn (HS.out.ext (by repeat (first | with_reducible exact Ext.refl _ | with_reducible assumption | with_reducible refine Ext.alloc ?_ _ | with_reducible refine Ext.drew ?_ | (with_reducible refine Ext.setAt ?_ _ _ _ ?_; rotate_left; omega) | with_reducible refine Ext.trans ?_ (by assumption) | with_reducible exact Past.bel _ | with_reducible refine Ext.trans ?_ (Past.bel _)))) _).mono ?_); rintro e w' ⟨rfl, hx⟩; (first | (obtain ⟨wx, rfl⟩ := Past.again hx) | (obtain ⟨wx, rfl⟩ := Past.ofd hx) | (obtain ⟨wx, rfl⟩ := Past.of hx)))))
      go_ret2
      exact fu_nil (by repeat (first | with_reducible exact Ext.refl _ | with_reducible assumption | with_reducible refine Ext.alloc ?_ _ | with_reducible refine Ext.drew ?_ | (with_reducible refine Ext.setAt ?_ _ _ _ ?_; rotate_left; omega) | with_reducible refine Ext.trans ?_ (by assumption) | with_reducible exact Past.bel _ | with_reducible refine Ext.trans ?_ (Past.bel _))) (by rw [fuG, fuB, h1, h2]; rfl) (by rw [fuC, fuB, h1, h2]; rfl)
    · cases h3 : inS n wd t
      · go_enter Try.func27, Try.ntmps27
        go_wp2_with (first | (go_at_call 49; ((with_reducible refine (l13Ok_c hn (HS.out.ext (by repeat (first | with_reducible exact Ext.refl _ | with_reducible assumption | with_reducible refine Ext.alloc ?_ _ | with_reducible refine Ext.drew ?_ | (with_reducible refine Ext.setAt ?_ _ _ _ ?_; rotate_left; omega) | with_reducible refine Ext.trans ?_ (by assumption) | with_reducible exact Past.bel _ | with_reducible refine Ext.trans ?_ (Past.bel _))))).mono ?_); rintro e w' ⟨rfl, hx⟩; (first | (obtain ⟨wx, rfl⟩ := Past.again hx) | (obtain ⟨wx, rfl⟩ := Past.ofd hx) | (obtain ⟨wx, rfl⟩ := Past.of hx)))) | (go_at_call 50; ((with_reducible refine (l13In_c hn1 hn (HS.out.ext (by repeat (first | with_reducible exact Ext.refl _ | with_reducible assumption | with_reducible refine Ext.alloc ?_ _ | with_reducible refine Ext.drew ?_ | (with_reducible refine Ext.setAt ?_ _ _ _ ?_; rotate_left; omega) | with_reducible refine Ext.trans ?_ (by assumption) | with_reducible exact Past.bel _ | with_reducible refine Ext.trans ?_ (Past.bel _)))) _).mono ?_); rintro e w' ⟨rfl, hx⟩; (first | (obtain ⟨wx, rfl⟩ := Past.again hx) | (obtain ⟨wx, rfl⟩ := Past.ofd hx) | (obtain ⟨wx, rfl⟩ := Past.of hx)))))
        go_ret2
        exact fu_nil (by repeat (first | with_reducible exact Ext.refl _ | with_reducible assumption | with_reducible refine Ext.alloc ?_ _ | with_reducible refine Ext.drew ?_ | (with_reducible refine Ext.setAt ?_ _ _ _ ?_; rotate_left; omega) | with_reducible refine Ext.trans ?_ (by assumption) | with_reducible exact Past.bel _ | with_reducible refine Ext.trans ?_ (Past.bel _))) (by rw [fuG, fuB, h1, h2, h3]; rfl) (by rw [fuC, fuB, h1, h2, h3]; rfl)
      · by_cases h4 : f ≤ t
        · cases h5 : inB st 1 2000
          · go_enter Try.func27, Try.ntmps27
            go_wp2_with (first | (go_at_call 49; ((with_reducible refine (l13Ok_c hn (HS.out.ext (by repeat (first | with_reducible exact Ext.refl _ | with_reducible assumption | with_reducible refine Ext.alloc ?_ _ | with_reducible refine Ext.drew ?_ | (with_reducible refine Ext.setAt ?_ _ _ _ ?_; rotate_left; omega) | with_reducible refine Ext.trans ?_ (by assumption) | with_reducible exact Past.bel _ | with_reducible refine Ext.trans ?_ (Past.bel _))))).mono ?_); rintro e w' ⟨rfl, hx⟩; (first | (obtain ⟨wx, rfl⟩ := Past.again hx) | (obtain ⟨wx, rfl⟩ := Past.ofd hx) | (obtain ⟨wx, rfl⟩ := Past.of hx)))) | (go_at_call 50; ((with_reducible refine (l13In_c hn1 hn (HS.out.ext (by repeat (first | with_reducible exact Ext.refl _ | with_reducible assumption | with_reducible refine Ext.alloc ?_ _ | with_reducible refine Ext.drew ?_ | (with_reducible refine Ext.setAt ?_ _ _ _ ?_; rotate_left; omega) | with_reducible refine Ext.trans ?_ (by assumption) | with_reducible exact Past.bel _ | with_reducible refine Ext.trans ?_ (Past.bel _)))) _).mono ?_); rintro e w' ⟨rfl, hx⟩; (first | (obtain ⟨wx, rfl⟩ := Past.again hx) | (obtain ⟨wx, rfl⟩ := Past.ofd hx) | (obtain ⟨wx, rfl⟩ := Past.of hx)))) | (go_at_call 57; ((with_reducible refine (l00In_c _ _ _ _).mono ?_); rintro e w' ⟨rfl, rfl⟩)))
            go_ret2
            exact fu_nil (by repeat (first | with_reducible exact Ext.refl _ | with_reducible assumption | with_reducible refine Ext.alloc ?_ _ | with_reducible refine Ext.drew ?_ | (with_reducible refine Ext.setAt ?_ _ _ _ ?_; rotate_left; omega) | with_reducible refine Ext.trans ?_ (by assumption) | with_reducible exact Past.bel _ | with_reducible refine Ext.trans ?_ (Past.bel _))) (by rw [fuG, fuB, h1, h2, h3, h5, decide_eq_true h4]; rfl) (by rw [fuC, fuB, h1, h2, h3, h5, decide_eq_true h4]; rfl)
          · cases h6 : inB mo 0 1000000000
            · go_enter Try.func27, Try.ntmps27
              go_wp2_with (first | (go_at_call 49; ((with_reducible refine (l13Ok_c hn (HS.out.ext (by repeat (first | with_reducible exact Ext.refl _ | with_reducible assumption | with_reducible refine Ext.alloc ?_ _ | with_reducible refine Ext.drew ?_ | (with_reducible refine Ext.setAt ?_ _ _ _ ?_; rotate_left; omega) | with_reducible refine Ext.trans ?_ (by assumption) | with_reducible exact Past.bel _ | with_reducible refine Ext.trans ?_ (Past.bel _))))).mono ?_); rintro e w' ⟨rfl, hx⟩; (first | (obtain ⟨wx, rfl⟩ := Past.again hx) | (obtain ⟨wx, rfl⟩ := Past.ofd hx) | (obtain ⟨wx, rfl⟩ := Past.of hx)))) | (go_at_call 50; ((with_reducible refine (l13In_c hn1 hn (HS.out.ext (by repeat (first | with_reducible exact Ext.refl _ | with_reducible assumption | with_reducible refine Ext.alloc ?_ _ | with_reducible refine Ext.drew ?_ | (with_reducible refine Ext.setAt ?_ _ _ _ ?_; rotate_left; omega) | with_reducible refine Ext.trans ?_ (by assumption) | with_reducible exact Past.bel _ | with_reducible refine Ext.trans ?_ (Past.bel _)))) _).mono ?_); rintro e w' ⟨rfl, hx⟩; (first | (obtain ⟨wx, rfl⟩ := Past.again hx) | (obtain ⟨wx, rfl⟩ := Past.ofd hx) | (obtain ⟨wx, rfl⟩ := Past.of hx)))) | (go_at_call 57; ((with_reducible refine (l00In_c _ _ _ _).mono ?_); rintro e w' ⟨rfl, rfl⟩)))
              go_ret2
              exact fu_nil (by repeat (first | with_reducible exact Ext.refl _ | with_reducible assumption | with_reducible refine Ext.alloc ?_ _ | with_reducible refine Ext.drew ?_ | (with_reducible refine Ext.setAt ?_ _ _ _ ?_; rotate_left; omega) | with_reducible refine Ext.trans ?_ (by assumption) | with_reducible exact Past.bel _ | with_reducible refine Ext.trans ?_ (Past.bel _))) (by rw [fuG, fuB, h1, h2, h3, h5, h6, decide_eq_true h4]; rfl) (by rw [fuC, fuB, h1, h2, h3, h5, h6, decide_eq_true h4]; rfl)
            · have H2 := Lib.hid h2
              have H3 := Lib.hid h3
              have hB := fuB_nn h2 h3 h4 h5 h6
              have HB := Lib.hid hB
              have hst := inB_t.1 h5
              have hmo := inB_t.1 h6
              have pf := B.out.pull h2
              have PF0 : ∀ j : Nat, j < fuN f t st → inS n wd (f + (j : Int) * st) = true ∧ pullF wd pl f ≤ pullF wd pl (f + (j : Int) * st) := fun j hj => by
                have q1 := fuN_in h4 hst.1 hj
                have q2 := inB_t.1 h2
                have q3 := inB_t.1 h3
                have q4 : inS n wd (f + (j : Int) * st) = true := inB_t.2 ⟨by omega, by omega⟩
                exact ⟨q4, B.out.mono h2 q4 q1.1⟩
              have HPF := Lib.hid PF0
              obtain ⟨P, hP⟩ : ∃ P, P = pullF wd pl f := ⟨_, rfl⟩
              have H1 := Lib.hid h1
              have hPA : ∀ W, Ext w W → Calls Try.prog 51 #[.agg #[.slice a n c], .int .i64 f] W fun e w' => e = .returned (.int .i64 P) ∧ Ext W w' := fun W hq => by rw [hP]; exact l13At_c B.out (HS.out.ext hq) H2.out
              have HPA := Lib.hid hPA
              have HP := Lib.hid hP
              rw [← hP] at pf
              clear hPA PF0 hB
              by_cases h7 : P = 0
              · subst h7
                clear hP
                go_enter Try.func27, Try.ntmps27
                go_wp2_with (first | (go_at_call 49; ((with_reducible refine (l13Ok_c hn (HS.out.ext (by repeat (first | with_reducible exact Ext.refl _ | with_reducible assumption | with_reducible refine Ext.alloc ?_ _ | with_reducible refine Ext.drew ?_ | (with_reducible refine Ext.setAt ?_ _ _ _ ?_; rotate_left; omega) | with_reducible refine Ext.trans ?_ (by assumption) | with_reducible exact Past.bel _ | with_reducible refine Ext.trans ?_ (Past.bel _))))).mono ?_); rintro e w' ⟨rfl, hx⟩; (first | (obtain ⟨wx, rfl⟩ := Past.again hx) | (obtain ⟨wx, rfl⟩ := Past.ofd hx) | (obtain ⟨wx, rfl⟩ := Past.of hx)))) | (go_at_call 50; ((with_reducible refine (l13In_c hn1 hn (HS.out.ext (by repeat (first | with_reducible exact Ext.refl _ | with_reducible assumption | with_reducible refine Ext.alloc ?_ _ | with_reducible refine Ext.drew ?_ | (with_reducible refine Ext.setAt ?_ _ _ _ ?_; rotate_left; omega) | with_reducible refine Ext.trans ?_ (by assumption) | with_reducible exact Past.bel _ | with_reducible refine Ext.trans ?_ (Past.bel _)))) _).mono ?_); rintro e w' ⟨rfl, hx⟩; (first | (obtain ⟨wx, rfl⟩ := Past.again hx) | (obtain ⟨wx, rfl⟩ := Past.ofd hx) | (obtain ⟨wx, rfl⟩ := Past.of hx)))) | (go_at_call 57; ((with_reducible refine (l00In_c _ _ _ _).mono ?_); rintro e w' ⟨rfl, rfl⟩)) | (go_at_call 51; ((with_reducible refine (HPA.out _ (by repeat (first | with_reducible exact Ext.refl _ | with_reducible assumption | with_reducible refine Ext.alloc ?_ _ | with_reducible refine Ext.drew ?_ | (with_reducible refine Ext.setAt ?_ _ _ _ ?_; rotate_left; omega) | with_reducible refine Ext.trans ?_ (by assumption) | with_reducible exact Past.bel _ | with_reducible refine Ext.trans ?_ (Past.bel _)))).mono ?_); rintro e w' ⟨rfl, hx⟩; (first | (obtain ⟨wx, rfl⟩ := Past.again hx) | (obtain ⟨wx, rfl⟩ := Past.ofd hx) | (obtain ⟨wx, rfl⟩ := Past.of hx)))))
                go_ret2
                exact fu_nil (by repeat (first | with_reducible exact Ext.refl _ | with_reducible assumption | with_reducible refine Ext.alloc ?_ _ | with_reducible refine Ext.drew ?_ | (with_reducible refine Ext.setAt ?_ _ _ _ ?_; rotate_left; omega) | with_reducible refine Ext.trans ?_ (by assumption) | with_reducible exact Past.bel _ | with_reducible refine Ext.trans ?_ (Past.bel _))) (by rw [fuG, H1.out, HB.out, ← HP.out]; rfl) (by rw [fuC, H1.out, HB.out, ← HP.out]; rfl)
              · have h7' : (P == 0) = false := by simpa using h7
                have hg : fuG n wd pl f t st mo = true := by rw [fuG, H1.out, HB.out, ← HP.out, h7']; rfl
                have hc : fuC n wd pl f t st mo = 0 := by rw [fuC, H1.out, HB.out, ← HP.out, h7']; rfl
                have hr : fuRes n wd pl f t st mo = outs (fuF wd pl f st mo) (fuN f t st) := by rw [fuRes, hg]; rfl
                have hf := B.out.inS h2
                have ht := B.out.inS h3
                have hN := fuN_le h4 hst.1
                have HO := Lib.hid (fuN_out h4 hst.1)
                have HI := Lib.hid (fun (j : Nat) (hj : j < fuN f t st) => fuN_in h4 hst.1 hj)
                have HC := Lib.hid hc
                have HR := Lib.hid hr
                obtain ⟨N, hNe⟩ : ∃ N, N = fuN f t st := ⟨_, rfl⟩
                rw [← hNe] at HO HI HPF HR hN
                have P1 : 1 ≤ P := by omega
                clear hg hc hr hP h7 hNe
                obtain ⟨i0, hi, hz0, hz1, hz2⟩ := info_parts info_i64
                go_enter Try.func27, Try.ntmps27
                go_wp2_with (first | (go_at_call 49; ((with_reducible refine (l13Ok_c hn (HS.out.ext (by repeat (first | with_reducible exact Ext.refl _ | with_reducible assumption | with_reducible refine Ext.alloc ?_ _ | with_reducible refine Ext.drew ?_ | (with_reducible refine Ext.setAt ?_ _ _ _ ?_; rotate_left; omega) | with_reducible refine Ext.trans ?_ (by assumption) | with_reducible exact Past.bel _ | with_reducible refine Ext.trans ?_ (Past.bel _))))).mono ?_); rintro e w' ⟨rfl, hx⟩; (first | (obtain ⟨wx, rfl⟩ := Past.again hx) | (obtain ⟨wx, rfl⟩ := Past.ofd hx) | (obtain ⟨wx, rfl⟩ := Past.of hx)))) | (go_at_call 50; ((with_reducible refine (l13In_c hn1 hn (HS.out.ext (by repeat (first | with_reducible exact Ext.refl _ | with_reducible assumption | with_reducible refine Ext.alloc ?_ _ | with_reducible refine Ext.drew ?_ | (with_reducible refine Ext.setAt ?_ _ _ _ ?_; rotate_left; omega) | with_reducible refine Ext.trans ?_ (by assumption) | with_reducible exact Past.bel _ | with_reducible refine Ext.trans ?_ (Past.bel _)))) _).mono ?_); rintro e w' ⟨rfl, hx⟩; (first | (obtain ⟨wx, rfl⟩ := Past.again hx) | (obtain ⟨wx, rfl⟩ := Past.ofd hx) | (obtain ⟨wx, rfl⟩ := Past.of hx)))) | (go_at_call 57; ((with_reducible refine (l00In_c _ _ _ _).mono ?_); rintro e w' ⟨rfl, rfl⟩)) | (go_at_call 51; ((with_reducible refine (HPA.out _ (by repeat (first | with_reducible exact Ext.refl _ | with_reducible assumption | with_reducible refine Ext.alloc ?_ _ | with_reducible refine Ext.drew ?_ | (with_reducible refine Ext.setAt ?_ _ _ _ ?_; rotate_left; omega) | with_reducible refine Ext.trans ?_ (by assumption) | with_reducible exact Past.bel _ | with_reducible refine Ext.trans ?_ (Past.bel _)))).mono ?_); rintro e w' ⟨rfl, hx⟩; (first | (obtain ⟨wx, rfl⟩ := Past.again hx) | (obtain ⟨wx, rfl⟩ := Past.ofd hx) | (obtain ⟨wx, rfl⟩ := Past.of hx)))))
                clear h2 h3 h5 h6 HPA HB h4
                go_loopw [12, 13] (fun v i wr => ∃ (j : Nat) (T : Int), j ≤ N ∧ T = f + (j : Int) * st ∧ i = .int .i64 T ∧ Ext (w.alloc (.cells #[.slice a n c] 26)) wr ∧ wr.ownsRow (w.alloc (.cells #[.slice a n c] 26)).heap.size 2 1 v j ((outs (fuF wd pl f st mo) j).map (Value.int .i64))) (fun _ i _ => (t + 1 - intOf i).toNat)
                case atStart => exact ⟨0, f, by omega, by simp, rfl, (by repeat (first | with_reducible exact Ext.refl _ | with_reducible assumption | with_reducible refine Ext.alloc ?_ _ | with_reducible refine Ext.drew ?_ | (with_reducible refine Ext.setAt ?_ _ _ _ ?_; rotate_left; omega) | with_reducible refine Ext.trans ?_ (by assumption) | with_reducible exact Past.bel _ | with_reducible refine Ext.trans ?_ (Past.bel _))), World.ownsRow_made _ #[] 0 (Ext.size (by repeat (first | with_reducible exact Ext.refl _ | with_reducible assumption | with_reducible refine Ext.alloc ?_ _ | with_reducible refine Ext.drew ?_ | (with_reducible refine Ext.setAt ?_ _ _ _ ?_; rotate_left; omega) | with_reducible refine Ext.trans ?_ (by assumption) | with_reducible exact Past.bel _ | with_reducible refine Ext.trans ?_ (Past.bel _)))) (Nat.zero_le _) rfl⟩
                case round =>
                  obtain ⟨j, T, hj, hT, rfl, hbl, ho⟩ := hrel
                  have HT := Lib.hid hT
                  have HOW := Lib.hid ho
                  have hz := hbl.size
                  simp only [World.size_alloc] at hz
                  have hg : w.heap.size < wr.heap.size := by omega
                  have p0 : wr.cell? ⟨w.heap.size, 0, none⟩ = some (.slice a n c) := by rw [hbl.cell (by simp)]; simp [go_sem]
                  have hxw : Ext w wr := Ext.trans (by repeat (first | with_reducible exact Ext.refl _ | with_reducible assumption | with_reducible refine Ext.alloc ?_ _ | with_reducible refine Ext.drew ?_ | (with_reducible refine Ext.setAt ?_ _ _ _ ?_; rotate_left; omega) | with_reducible refine Ext.trans ?_ (by assumption) | with_reducible exact Past.bel _ | with_reducible refine Ext.trans ?_ (Past.bel _))) hbl
                  clear ho
                  by_cases hlt : j < N
                  · have q0 := HI.out j hlt
                    have q1 := HPF.out j hlt
                    rw [← hT] at q0 q1
                    have I1 := Lib.hid q1.1
                    have q2 := B.out.pull q1.1
                    obtain ⟨u0, u1⟩ := q0
                    have u2 : 0 ≤ T := by omega
                    have u3 : T ≤ 2000 := by omega
                    obtain ⟨R, hR⟩ : ∃ R, R = pullF wd pl T := ⟨_, rfl⟩
                    have q3 := q1.2
                    rw [← hR] at q2 q3
                    have r1 : 1 ≤ R := by have := HP.out; omega
                    obtain ⟨r0, r2⟩ := q2
                    have hF : nearD mo R = fuF wd pl f st mo j := by rw [fuF, hR, hT]
                    have HF := Lib.hid hF
                    have HA := Lib.hid (fun W (hq : Ext w W) => (hR ▸ l13At_c B.out (HS.out.ext hq) I1.out : Calls Try.prog 51 #[.agg #[.slice a n c], .int .i64 T] W fun e w' => e = .returned (.int .i64 R) ∧ Ext W w'))
                    have HD := Lib.hid (fun W => (hF ▸ l02Near_c mo R W (by omega) (by omega) (by omega) (by omega) : Calls Try.prog 63 #[.int .i64 mo, .int .i64 R] W fun e w' => e = .returned (.int .i64 (fuF wd pl f st mo j)) ∧ W = w'))
                    have SK' := Lib.hid (fun (w' : World) (hq : Ext wr w') => (show w'.cell? ⟨w.heap.size, 0, none⟩ = some (.slice a n c) from by rw [hq.cell hg]; exact p0))
                    have x5 : IntKind.i64.wrap (T + st) = T + st := IntWalk.i64_in _ (by omega)
                    clear hR hF hT q1 q3
                    go_wp2_with (first | (go_at_call 51; ((with_reducible refine (HA.out _ (by repeat (first | with_reducible exact Ext.refl _ | with_reducible assumption | with_reducible refine Ext.alloc ?_ _ | with_reducible refine Ext.drew ?_ | (with_reducible refine Ext.setAt ?_ _ _ _ ?_; rotate_left; omega) | with_reducible refine Ext.trans ?_ (by assumption) | with_reducible exact Past.bel _ | with_reducible refine Ext.trans ?_ (Past.bel _)))).mono ?_); rintro e w' ⟨rfl, hx⟩; (first | (obtain ⟨wx, rfl⟩ := Past.again hx) | (obtain ⟨wx, rfl⟩ := Past.ofd hx) | (obtain ⟨wx, rfl⟩ := Past.of hx)))) | (go_at_call 63; ((with_reducible refine (HD.out _).mono ?_); rintro e w' ⟨rfl, rfl⟩)) | (at_builtin; refine app1 (w0 := w.alloc (.cells #[.slice a n c] 26)) 52 2 _ _ rfl rfl Try.underlying52 info_i64 _ (outs (fuF wd pl f st mo) j) (fuF wd pl f st mo j) _ rfl rfl (own_ext (outs_own HOW.out) (by repeat (first | with_reducible exact Ext.refl _ | with_reducible assumption | with_reducible refine Ext.alloc ?_ _ | with_reducible refine Ext.drew ?_ | (with_reducible refine Ext.setAt ?_ _ _ _ ?_; rotate_left; omega) | with_reducible refine Ext.trans ?_ (by assumption) | with_reducible exact Past.bel _ | with_reducible refine Ext.trans ?_ (Past.bel _)))) (by simp [go_sem]) (by rw [outs_len]; omega) (by repeat (first | with_reducible exact Ext.refl _ | with_reducible assumption | with_reducible refine Ext.alloc ?_ _ | with_reducible refine Ext.drew ?_ | (with_reducible refine Ext.setAt ?_ _ _ _ ?_; rotate_left; omega) | with_reducible refine Ext.trans ?_ (by assumption) | with_reducible exact Past.bel _ | with_reducible refine Ext.trans ?_ (Past.bel _))) ?_; intro v1 w1 ho1 hx1))
                    exact ⟨⟨j + 1, T + st, by omega, by rw [HT.out]; grind, by go_num, (by repeat (first | with_reducible exact Ext.refl _ | with_reducible assumption | with_reducible refine Ext.alloc ?_ _ | with_reducible refine Ext.drew ?_ | (with_reducible refine Ext.setAt ?_ _ _ _ ?_; rotate_left; omega) | with_reducible refine Ext.trans ?_ (by assumption) | with_reducible exact Past.bel _ | with_reducible refine Ext.trans ?_ (Past.bel _))), by rw [← outs_step]; simpa [outs_len] using ho1⟩, by simp [intOf]; omega⟩
                  · have hl : j = N := by omega
                    subst hl
                    have u1 : t < T := by have := HO.out; rw [hT]; exact this
                    obtain ⟨b, cap, rfl⟩ := own_form HOW.out
                    clear hT
                    go_wp2_with fail
                    go_ret2
                    exact ⟨b, cap, ret_two (by simp [HR.out, outs_len]) (congrArg _ HC.out.symm), (by repeat (first | with_reducible exact Ext.refl _ | with_reducible assumption | with_reducible refine Ext.alloc ?_ _ | with_reducible refine Ext.drew ?_ | (with_reducible refine Ext.setAt ?_ _ _ _ ?_; rotate_left; omega) | with_reducible refine Ext.trans ?_ (by assumption) | with_reducible exact Past.bel _ | with_reducible refine Ext.trans ?_ (Past.bel _))), by rw [HR.out]; exact own_base (by simpa [outs_len] using HOW.out) (by simp)⟩
        · have h5 : t < f := by omega
          go_enter Try.func27, Try.ntmps27
          go_wp2_with (first | (go_at_call 49; ((with_reducible refine (l13Ok_c hn (HS.out.ext (by repeat (first | with_reducible exact Ext.refl _ | with_reducible assumption | with_reducible refine Ext.alloc ?_ _ | with_reducible refine Ext.drew ?_ | (with_reducible refine Ext.setAt ?_ _ _ _ ?_; rotate_left; omega) | with_reducible refine Ext.trans ?_ (by assumption) | with_reducible exact Past.bel _ | with_reducible refine Ext.trans ?_ (Past.bel _))))).mono ?_); rintro e w' ⟨rfl, hx⟩; (first | (obtain ⟨wx, rfl⟩ := Past.again hx) | (obtain ⟨wx, rfl⟩ := Past.ofd hx) | (obtain ⟨wx, rfl⟩ := Past.of hx)))) | (go_at_call 50; ((with_reducible refine (l13In_c hn1 hn (HS.out.ext (by repeat (first | with_reducible exact Ext.refl _ | with_reducible assumption | with_reducible refine Ext.alloc ?_ _ | with_reducible refine Ext.drew ?_ | (with_reducible refine Ext.setAt ?_ _ _ _ ?_; rotate_left; omega) | with_reducible refine Ext.trans ?_ (by assumption) | with_reducible exact Past.bel _ | with_reducible refine Ext.trans ?_ (Past.bel _)))) _).mono ?_); rintro e w' ⟨rfl, hx⟩; (first | (obtain ⟨wx, rfl⟩ := Past.again hx) | (obtain ⟨wx, rfl⟩ := Past.ofd hx) | (obtain ⟨wx, rfl⟩ := Past.of hx)))))
          go_ret2
          exact fu_nil (by repeat (first | with_reducible exact Ext.refl _ | with_reducible assumption | with_reducible refine Ext.alloc ?_ _ | with_reducible refine Ext.drew ?_ | (with_reducible refine Ext.setAt ?_ _ _ _ ?_; rotate_left; omega) | with_reducible refine Ext.trans ?_ (by assumption) | with_reducible exact Past.bel _ | with_reducible refine Ext.trans ?_ (Past.bel _))) (by rw [fuG, fuB, h1, h2, h3, decide_eq_false (show ¬ f ≤ t by omega)]; rfl) (by rw [fuC, fuB, h1, h2, h3, decide_eq_false (show ¬ f ≤ t by omega)]; rfl)
end
end Go.Proofs.Ytglcjnplmhelhaa

namespace Go.Proofs.Ytglcjnplmhelhaa
open Go.RowKit
set_option linter.unusedVariables false
set_option linter.unusedSimpArgs false

theorem toBend_c (a b : Int) (w : World) :
    Calls Try.prog 80 #[.agg #[.int .i64 a, .int .i64 b]] w fun e w' => e = .returned (.agg #[.int .i64 a, .int .i64 b]) ∧ Ext w w' := by
  go_enter Try.func80, Try.ntmps80
  go_wp2
  exact bodyPost_ret (v := .agg #[.int .i64 a, .int .i64 b]) (by simp [results, Try.results80, go_sem]) rfl ⟨rfl, (by repeat (first | with_reducible exact Ext.refl _ | with_reducible assumption | with_reducible refine Ext.alloc ?_ _ | with_reducible refine Ext.drew ?_ | (with_reducible refine Ext.setAt ?_ _ _ _ ?_; rotate_left; omega) | with_reducible refine Ext.trans ?_ (by assumption) | with_reducible exact Past.bel _ | with_reducible refine Ext.trans ?_ (Past.bel _)))⟩
theorem eqBend_c (a b c d : Int) (w : World) :
    Calls Try.prog 81 #[.agg #[.int .i64 a, .int .i64 b], .agg #[.int .i64 c, .int .i64 d]] w fun e w' => e = .returned (.bool (eq2 a b c d)) ∧ Ext w w' := by
  go_enter Try.func81, Try.ntmps81
  go_wp2
  all_goals (go_ret; refine ⟨ret_bool ?_, (by repeat (first | with_reducible exact Ext.refl _ | with_reducible assumption | with_reducible refine Ext.alloc ?_ _ | with_reducible refine Ext.drew ?_ | (with_reducible refine Ext.setAt ?_ _ _ _ ?_; rotate_left; omega) | with_reducible refine Ext.trans ?_ (by assumption) | with_reducible exact Past.bel _ | with_reducible refine Ext.trans ?_ (Past.bel _)))⟩)
  all_goals simp_all [eq2]
theorem szBendS_c (a : Option Addr) (n c : Nat) (l : Int) (w : World) (hl : 0 ≤ l) (hl' : l ≤ 1048576) (hn : n ≤ maxLen) :
    Calls Try.prog 62 #[.slice a n c, .int .i64 l] w fun e w' => e = .returned (.int .i64 (if l < n then -1 else l - n)) ∧ w = w' := by
  have hn' : (n : Int) ≤ 9223372036854775807 := by unfold maxLen at hn; omega
  clear hn
  by_cases h : l < n
  · go_enter Try.func62, Try.ntmps62
    go_wp2
    go_ret
    exact ⟨rfl, rfl⟩
  · go_enter Try.func62, Try.ntmps62
    go_wp2
    go_ret
    exact ⟨rfl, rfl⟩
set_option maxHeartbeats 400000 in
theorem toBendS_c (a : Option Addr) (n c : Nat) (h o : Nat → Int) (w : World) (hn : n ≤ 1048576) (hs : S2 w a n h o) :
    Calls Try.prog 64 #[.slice a n c] w fun e w' => ∃ cur, e = .returned (.slice (some ⟨w.heap.size, 0, none⟩) n n) ∧ Ext w w' ∧ Blk w' w.heap.size 33 cur ∧ cur.size = n * 2 ∧ C2 cur n h o := by
  have HS := Lib.hid hs
  clear hs
  have hmk := make_run (P := Try.prog) 24 33 (.agg #[.int .i64 0, .int .i64 0]) 2 16 Try.underlying24 (by kernel_rfl) n (by omega) (by omega)
  go_enter Try.func64, Try.ntmps64
  go_wp2_with fail
  clear hmk
  go_loopw [4] (fun i wr => ∃ (k : Nat) (cur : Array Value), k ≤ n ∧ i = .int .i64 k ∧ Ext w wr ∧ Blk wr w.heap.size 33 cur ∧ cur.size = n * 2 ∧ C2 cur k h o) (fun i _ => n - (intOf i).toNat)
  case atStart => exact ⟨0, _, by omega, rfl, (by repeat (first | with_reducible exact Ext.refl _ | with_reducible assumption | with_reducible refine Ext.alloc ?_ _ | with_reducible refine Ext.drew ?_ | (with_reducible refine Ext.setAt ?_ _ _ _ ?_; rotate_left; omega) | with_reducible refine Ext.trans ?_ (by assumption) | with_reducible exact Past.bel _ | with_reducible refine Ext.trans ?_ (Past.bel _))), Blk.new _ _ _, Mk.size _ _, C2.zero _ _ _⟩
  case round =>
    obtain ⟨k, cur, hk, rfl, hext, hblk, hcs, hc2⟩ := hrel
    have HB := Lib.hid hblk
    have HC := Lib.hid hc2
    have HZ := Lib.hid hcs
    have hgs := hblk.lt
    by_cases hlt : k < n
    · obtain ⟨b1, o1, rfl, hb1, q1, q2⟩ := (S2.ext HS.out hext).at hlt
      have e1 : ∃ v, wr.cell? ⟨w.heap.size, k * 2, none⟩ = some v := ⟨cur[k * 2]'(by omega), by rw [hblk.cell]; simp⟩
      have e2 : ∃ v, wr.cell? ⟨w.heap.size, k * 2 + 1, none⟩ = some v := ⟨cur[k * 2 + 1]'(by omega), by rw [hblk.cell]; simp⟩
      obtain ⟨v1, e1⟩ := e1
      obtain ⟨v2, e2⟩ := e2
      have f1 := hblk.frozen (k * 2)
      have f2 := hblk.frozen (k * 2 + 1)
      clear hblk hcs hc2
      go_wp2_with (go_at_call 80; ((with_reducible refine (toBend_c _ _ _).mono ?_); rintro e w' ⟨rfl, hx⟩; (first | (obtain ⟨wx, rfl⟩ := Past.again hx) | (obtain ⟨wx, rfl⟩ := Past.ofd hx) | (obtain ⟨wx, rfl⟩ := Past.of hx))))
      exact ⟨⟨k + 1, _, by omega, by go_num, (by repeat (first | with_reducible exact Ext.refl _ | with_reducible assumption | with_reducible refine Ext.alloc ?_ _ | with_reducible refine Ext.drew ?_ | (with_reducible refine Ext.setAt ?_ _ _ _ ?_; rotate_left; omega) | with_reducible refine Ext.trans ?_ (by assumption) | with_reducible exact Past.bel _ | with_reducible refine Ext.trans ?_ (Past.bel _))), ((HB.out.ext (Past.bel wx)).set _ _).set _ _, by simp [HZ.out], HC.out.step (by rw [HZ.out]; omega)⟩, by simp [intOf]; omega⟩
    · clear hblk hcs hc2
      obtain rfl : k = n := by omega
      go_wp2_with fail
      go_ret
      exact ⟨cur, rfl, hext, HB.out, HZ.out, HC.out⟩
set_option maxHeartbeats 400000 in
theorem eqBendS_c (aa ab : Option Addr) (n m ca cb : Nat) (h o h' o' : Nat → Int) (w : World) (hn : n ≤ 1048576) (hm : m ≤ 1048576) (ha : S2 w aa n h o) (hb : S2 w ab m h' o') :
    Calls Try.prog 66 #[.slice aa n ca, .slice ab m cb] w fun e w' => e = .returned (.bool (n == m && eqTo h o h' o' n)) ∧ Ext w w' := by
  have HA := Lib.hid ha
  have HB := Lib.hid hb
  clear ha hb
  by_cases hnm : n = m
  · subst hnm
    go_enter Try.func66, Try.ntmps66
    go_wp2_with fail
    go_loopw [5] (fun i wr => ∃ k : Nat, k ≤ n ∧ i = .int .i64 k ∧ Ext w wr ∧ eqTo h o h' o' k = true) (fun i _ => n - (intOf i).toNat)
    case atStart => exact ⟨0, by omega, rfl, Ext.refl _, rfl⟩
    case round =>
      obtain ⟨k, hk, rfl, hbl, heq⟩ := hrel
      have HE := Lib.hid heq
      clear heq
      by_cases hlt : k < n
      · obtain ⟨b1, o1, rfl, hb1, q1, q2⟩ := (S2.ext HA.out hbl).at hlt
        obtain ⟨b2, o2, rfl, hb2, q3, q4⟩ := (S2.ext HB.out hbl).at hlt
        go_wp2_with fail
        refine wp_region_past (by kernel_rfl) (by kernel_rfl) ?_
        repeat (go_big_quiet_step ((go_at_call 81; exact Calls.past (eqBend_c _ _ _ _ _))))
        refine wpQuiet_nil ?_
        rintro _ ⟨wx, rfl⟩
        go_wp2_with fail
        · have ht : eq2 (h k) (o k) (h' k) (o' k) = false := by simpa using ‹(!eq2 (h k) (o k) (h' k) (o' k)) = true›
          go_ret
          exact ⟨ret_bool (by rw [eqTo_ff hlt ht]; simp), (by repeat (first | with_reducible exact Ext.refl _ | with_reducible assumption | with_reducible refine Ext.alloc ?_ _ | with_reducible refine Ext.drew ?_ | (with_reducible refine Ext.setAt ?_ _ _ _ ?_; rotate_left; omega) | with_reducible refine Ext.trans ?_ (by assumption) | with_reducible exact Past.bel _ | with_reducible refine Ext.trans ?_ (Past.bel _)))⟩
        · have ht : eq2 (h k) (o k) (h' k) (o' k) = true := by simpa using ‹(!eq2 (h k) (o k) (h' k) (o' k)) = false›
          exact ⟨⟨k + 1, by omega, by go_num, (by repeat (first | with_reducible exact Ext.refl _ | with_reducible assumption | with_reducible refine Ext.alloc ?_ _ | with_reducible refine Ext.drew ?_ | (with_reducible refine Ext.setAt ?_ _ _ _ ?_; rotate_left; omega) | with_reducible refine Ext.trans ?_ (by assumption) | with_reducible exact Past.bel _ | with_reducible refine Ext.trans ?_ (Past.bel _))), by simp [eqTo, HE.out, ht]⟩, by simp [intOf]; omega⟩
      · obtain rfl : k = n := by omega
        go_wp2_with fail
        go_ret
        exact ⟨ret_bool (by simp [HE.out]), hbl⟩
  · have hne : ((n : Int) != (m : Int)) = true := by simp; omega
    go_enter Try.func66, Try.ntmps66
    go_wp2_with fail
    go_ret
    exact ⟨ret_bool (by simp [hnm]), Ext.refl _⟩
theorem eqBendS_self (aa ab : Option Addr) (n ca cb : Nat) (h o : Nat → Int) (w : World) (hn : n ≤ 1048576) (ha : S2 w aa n h o) (hb : S2 w ab n h o) :
    Calls Try.prog 66 #[.slice aa n ca, .slice ab n cb] w fun e w' => e = .returned (.bool true) ∧ Ext w w' :=
  (eqBendS_c aa ab n n ca cb h o h o w hn hn ha hb).mono fun e w' ⟨he, hx⟩ => ⟨by rw [he, eqTo_self]; simp, hx⟩
theorem toBendS_o (a : Option Addr) (n c : Nat) (h o : Nat → Int) (w : World) (hn : n ≤ 1048576) (hs : S2 w a n h o) :
    Calls Try.prog 64 #[.slice a n c] w fun e w' => ∃ g xs, e = .returned (.slice (some ⟨g, 0, none⟩) n n) ∧ Ext w w' ∧ S2 w' (some ⟨g, 0, none⟩) n h o ∧ w'.ownsRow w.heap.size 33 2 (.slice (some ⟨g, 0, none⟩) n n) n xs :=
  (toBendS_c a n c h o w hn hs).mono fun e w' ⟨cur, he, hx, hb, hz, hc⟩ => ⟨_, cur.toList, he, hx, C2.s2 hb hc, by simpa using hz, .inr ⟨_, n, cur, rfl, Nat.le_refl _, hb, Nat.le_refl _, by unfold maxLen; omega, hz, by rw [← hz]; exact List.take_of_length_le (by simp)⟩⟩
set_option maxHeartbeats 400000 in
theorem markBendS_c (a : Option Addr) (n c base : Nat) (k0 : Int) (xs : List Value) (w : World) (hn : n ≤ 1048576) (h0 : 0 ≤ k0) (h1 : k0 ≤ 1048576) (hs : w.ownsRow base 33 2 (.slice a n c) n xs) :
    Calls Try.prog 67 #[.slice a n c, .int .i64 k0] w fun e w' => e = .returned (.int .i64 (k0 + 2 * n)) ∧ w.grownBy w' (Value.slice a n c).ownBlock := by
  have HS := Lib.hid hs
  have hl : xs.length = n * 2 := hs.1
  clear hs
  go_enter Try.func67, Try.ntmps67
  go_wp2_with fail
  go_loopw [1, 5] (fun q i wr => ∃ (j : Nat) (ys : List Value), j ≤ n ∧ i = .int .i64 j ∧ q = .int .i64 (k0 + 2 * j) ∧ ys.length = n * 2 ∧ wr.ownsRow base 33 2 (.slice a n c) n ys ∧ w.grownBy wr (Value.slice a n c).ownBlock) (fun _ i _ => n - (intOf i).toNat)
  case atStart => exact ⟨0, xs, by omega, rfl, by simp, hl, HS.out, World.grownBy.refl _ _⟩
  case round =>
    obtain ⟨j, ys, hj, rfl, rfl, hy, ho, hg⟩ := hrel
    have HY := Lib.hid hy
    by_cases hlt : j < n
    · obtain ⟨g, rfl, hb1, hb2, ⟨q1, q2⟩, q3, q4⟩ := own_at2 ho hlt
      have HO := Lib.hid ho
      have HG := Lib.hid hg
      obtain ⟨v, q5⟩ : ∃ v, wr.cell? ⟨g, j * 2, none⟩ = some v := ⟨ys[j * 2]'(by omega), by rw [q1]; exact List.getElem?_eq_getElem _⟩
      obtain ⟨u, q6⟩ : ∃ v, wr.cell? ⟨g, j * 2 + 1, none⟩ = some v := ⟨ys[j * 2 + 1]'(by omega), by rw [q3]; exact List.getElem?_eq_getElem _⟩
      clear q1 q3 ho hg hy hl
      go_wp2_with fail
      exact ⟨⟨j + 1, _, by omega, by go_num, congrArg _ (by omega), by simpa using HY.out, own_set (own_set HO.out _) _, grown_trans (grown_trans HG.out (grown_set _ _ _)) (grown_set _ _ _)⟩, by simp [intOf]; omega⟩
    · obtain rfl : j = n := by omega
      have HG := Lib.hid hg
      clear ho hg
      go_wp2_with fail
      go_ret
      exact ⟨rfl, HG.out⟩
theorem grown_wk {w w' : World} {row : Option Nat} (h : w.grownBy w' none) : w.grownBy w' row := ⟨h.os, h.tape, h.output, h.size, fun k hk _ => h.block k hk (by simp)⟩
theorem own_far {w : World} {base b : Nat} {e : TypeId} {size n : Nat} {v : Value} {xs : List Value} (h : w.ownsRow base e size v n xs) (hne : v.ownBlock ≠ some b) (i : Nat) (x : Value) : (w.setCell ⟨b, i, none⟩ x).ownsRow base e size v n xs := h.kept (grown_set b i x) (.inr hne)
theorem szSpring_c (a : Option Addr) (n c : Nat) (l : Int) (w : World) (hl : 0 ≤ l) (hl' : l ≤ 1048576) (hn : n ≤ maxLen) :
    Calls Try.prog 26 #[.agg #[.slice a n c], .int .i64 l] w fun e w' => e = .returned (.int .i64 (if l < n then -1 else l - n)) ∧ Ext w w' := by
  by_cases h : l < n
  · have e1 : (if l < (n : Int) then -1 else l - n) = (-1 : Int) := if_pos h
    go_enter Try.func26, Try.ntmps26
    go_wp2_with (go_at_call 62; ((with_reducible refine (szBendS_c _ _ _ _ _ hl hl' hn).mono ?_); rintro e w' ⟨rfl, rfl⟩))
    go_ret
    exact ⟨rfl, (by repeat (first | with_reducible exact Ext.refl _ | with_reducible assumption | with_reducible refine Ext.alloc ?_ _ | with_reducible refine Ext.drew ?_ | (with_reducible refine Ext.setAt ?_ _ _ _ ?_; rotate_left; omega) | with_reducible refine Ext.trans ?_ (by assumption) | with_reducible exact Past.bel _ | with_reducible refine Ext.trans ?_ (Past.bel _)))⟩
  · have e1 : (if l < (n : Int) then -1 else l - n) = l - n := if_neg h
    have e2 : ¬ (l - (n : Int) < 0) := by omega
    go_enter Try.func26, Try.ntmps26
    go_wp2_with (go_at_call 62; ((with_reducible refine (szBendS_c _ _ _ _ _ hl hl' hn).mono ?_); rintro e w' ⟨rfl, rfl⟩))
    go_ret
    exact ⟨rfl, (by repeat (first | with_reducible exact Ext.refl _ | with_reducible assumption | with_reducible refine Ext.alloc ?_ _ | with_reducible refine Ext.drew ?_ | (with_reducible refine Ext.setAt ?_ _ _ _ ?_; rotate_left; omega) | with_reducible refine Ext.trans ?_ (by assumption) | with_reducible exact Past.bel _ | with_reducible refine Ext.trans ?_ (Past.bel _)))⟩
theorem toSpring_o (a : Option Addr) (n c : Nat) (h o : Nat → Int) (w : World) (hn : n ≤ 1048576) (hs : S2 w a n h o) :
    Calls Try.prog 28 #[.agg #[.slice a n c]] w fun e w' => ∃ g xs, e = .returned (.agg #[.slice (some ⟨g, 0, none⟩) n n]) ∧ Ext w w' ∧ S2 w' (some ⟨g, 0, none⟩) n h o ∧ w'.ownsRow w.heap.size 33 2 (.slice (some ⟨g, 0, none⟩) n n) n xs := by
  have HS := Lib.hid hs
  clear hs
  go_enter Try.func28, Try.ntmps28
  go_wp2_with fail
  refine (toBendS_o _ _ _ _ _ _ hn (HS.out.ext (by repeat (first | with_reducible exact Ext.refl _ | with_reducible assumption | with_reducible refine Ext.alloc ?_ _ | with_reducible refine Ext.drew ?_ | (with_reducible refine Ext.setAt ?_ _ _ _ ?_; rotate_left; omega) | with_reducible refine Ext.trans ?_ (by assumption) | with_reducible exact Past.bel _ | with_reducible refine Ext.trans ?_ (Past.bel _))))).mono ?_
  rintro e w' ⟨g, xs, rfl, hx, hs2, ho⟩
  have HS2 := Lib.hid hs2
  have HO := Lib.hid ho
  clear hs2 ho
  have hg := HO.out.lt g rfl
  simp only [World.size_alloc] at hg
  have hzz := hx.size
  simp only [World.size_alloc] at hzz
  (first | (obtain ⟨wx, rfl⟩ := Past.again hx) | (obtain ⟨wx, rfl⟩ := Past.of hx))
  go_wp2_with fail
  refine bodyPost_ret (v := .agg #[.slice (some ⟨g, 0, none⟩) n n]) (by simp [results, Try.results28, go_sem]) rfl ⟨g, xs, rfl, ?_, ?_, ?_⟩
  · exact ((Ext.trans (by repeat (first | with_reducible exact Ext.refl _ | with_reducible assumption | with_reducible refine Ext.alloc ?_ _ | with_reducible refine Ext.drew ?_ | (with_reducible refine Ext.setAt ?_ _ _ _ ?_; rotate_left; omega) | with_reducible refine Ext.trans ?_ (by assumption) | with_reducible exact Past.bel _ | with_reducible refine Ext.trans ?_ (Past.bel _))) hx).setAt _ _ _ (by omega)).setAt _ _ _ (by omega)
  · exact (HS2.out.but (grown_set _ _ _) (fun ad e e2 => by cases e; have e3 : g = w.heap.size + 1 + 1 := by simpa using e2
                                                            omega)).but (grown_set _ _ _) (fun ad e e2 => by cases e; have e3 : g = w.heap.size + 1 := by simpa using e2
                                                                                                             omega)
  · exact own_base (own_far (own_far HO.out (by intro e; have e3 : g = w.heap.size + 1 + 1 := by simpa [Value.ownBlock] using e
                                                omega) _ _) (by intro e; have e3 : g = w.heap.size + 1 := by simpa [Value.ownBlock] using e
                                                                omega) _ _) (by simp only [World.size_alloc]; omega)
theorem eqSpring_self (aa ab : Option Addr) (n ca cb : Nat) (h o : Nat → Int) (w : World) (hn : n ≤ 1048576) (ha : S2 w aa n h o) (hb : S2 w ab n h o) :
    Calls Try.prog 31 #[.agg #[.slice aa n ca], .agg #[.slice ab n cb]] w fun e w' => e = .returned (.bool true) ∧ Ext w w' := by
  have HA := Lib.hid ha
  have HB := Lib.hid hb
  clear ha hb
  go_enter Try.func31, Try.ntmps31
  go_wp2_with (go_at_call 66; ((with_reducible refine (eqBendS_self _ _ _ _ _ _ _ _ hn (HA.out.ext (by repeat (first | with_reducible exact Ext.refl _ | with_reducible assumption | with_reducible refine Ext.alloc ?_ _ | with_reducible refine Ext.drew ?_ | (with_reducible refine Ext.setAt ?_ _ _ _ ?_; rotate_left; omega) | with_reducible refine Ext.trans ?_ (by assumption) | with_reducible exact Past.bel _ | with_reducible refine Ext.trans ?_ (Past.bel _)))) (HB.out.ext (by repeat (first | with_reducible exact Ext.refl _ | with_reducible assumption | with_reducible refine Ext.alloc ?_ _ | with_reducible refine Ext.drew ?_ | (with_reducible refine Ext.setAt ?_ _ _ _ ?_; rotate_left; omega) | with_reducible refine Ext.trans ?_ (by assumption) | with_reducible exact Past.bel _ | with_reducible refine Ext.trans ?_ (Past.bel _))))).mono ?_); rintro e w' ⟨rfl, hx⟩; (first | (obtain ⟨wx, rfl⟩ := Past.again hx) | (obtain ⟨wx, rfl⟩ := Past.ofd hx) | (obtain ⟨wx, rfl⟩ := Past.of hx))))
  go_ret
  exact ⟨rfl, (by repeat (first | with_reducible exact Ext.refl _ | with_reducible assumption | with_reducible refine Ext.alloc ?_ _ | with_reducible refine Ext.drew ?_ | (with_reducible refine Ext.setAt ?_ _ _ _ ?_; rotate_left; omega) | with_reducible refine Ext.trans ?_ (by assumption) | with_reducible exact Past.bel _ | with_reducible refine Ext.trans ?_ (Past.bel _)))⟩
theorem markSpring_c (a : Option Addr) (n c base : Nat) (k0 : Int) (xs : List Value) (w : World) (hn : n ≤ 1048576) (h0 : 0 ≤ k0) (h1 : k0 ≤ 1048576) (hs : w.ownsRow base 33 2 (.slice a n c) n xs) (hb : base ≤ w.heap.size) :
    Calls Try.prog 32 #[.agg #[.slice a n c], .int .i64 k0] w fun e w' => e = .returned (.int .i64 (k0 + 2 * n)) ∧ w.grownBy w' (Value.slice a n c).ownBlock := by
  have HS := Lib.hid hs
  clear hs
  go_enter Try.func32, Try.ntmps32
  go_wp2_with fail
  refine (markBendS_c _ _ _ base _ _ _ hn h0 h1 (own_ext HS.out (by repeat (first | with_reducible exact Ext.refl _ | with_reducible assumption | with_reducible refine Ext.alloc ?_ _ | with_reducible refine Ext.drew ?_ | (with_reducible refine Ext.setAt ?_ _ _ _ ?_; rotate_left; omega) | with_reducible refine Ext.trans ?_ (by assumption) | with_reducible exact Past.bel _ | with_reducible refine Ext.trans ?_ (Past.bel _))))).mono ?_
  rintro e w' ⟨rfl, hg⟩
  have hx : Ext w (w.alloc (.cells #[.slice a n c] 26)) := (by repeat (first | with_reducible exact Ext.refl _ | with_reducible assumption | with_reducible refine Ext.alloc ?_ _ | with_reducible refine Ext.drew ?_ | (with_reducible refine Ext.setAt ?_ _ _ _ ?_; rotate_left; omega) | with_reducible refine Ext.trans ?_ (by assumption) | with_reducible exact Past.bel _ | with_reducible refine Ext.trans ?_ (Past.bel _)))
  go_wp2_with fail
  go_ret
  exact ⟨rfl, grown_trans (grown_wk (ext_grown hx)) hg⟩
end Go.Proofs.Ytglcjnplmhelhaa

namespace Go.Proofs.Ytglcjnplmhelhaa
open Go.RowKit
set_option linter.unusedVariables false
set_option linter.unusedSimpArgs false

set_option maxHeartbeats 4000000 in
theorem walkFuseeRadii (a : Option Addr) (n c : Nat) (h o : Nat → Int) (fr to st mo : Int) (hm : n ≤ maxLen) (w : World) (hs : S2 w a n h o) :
    Calls Try.prog 6 #[.agg #[.slice a n c], .int .i64 fr, .int .i64 to, .int .i64 st, .int .i64 mo] w fun e w' => e = .returned (.bool true) ∧ Ext w w' := by
  have HS := Lib.hid hs
  clear hs
  have hm' := Lib.hid hm
  clear hm
  have SKO := Lib.hid (fun (w' : World) (hq : Ext (w.alloc (.cells #[.slice a n c] 50)) w') => (show w'.cell? ⟨w.heap.size, 0, none⟩ = some (.slice a n c) from by rw [hq.cell (by simp)]; simp [go_sem]))
  by_cases hn : n ≤ 1048576
  · have e1 : (if (1048576 : Int) < (n : Int) then -1 else 1048576 - (n : Int)) = 1048576 - (n : Int) := if_neg (by omega)
    go_enter Try.func6, Try.ntmps6
    go_wp2_with fail
    refine (szSpring_c a n c _ _ (by omega) (by omega) hm'.out).mono ?_
    rw [e1]
    rintro e w' ⟨rfl, hx1⟩
    (first | (obtain ⟨wx1, rfl⟩ := Past.again hx1) | (obtain ⟨wx1, rfl⟩ := Past.of hx1))
    have hz1 := Past.size wx1
    simp only [World.size_alloc] at hz1
    have y1 : ¬ (1048576 - (n : Int) < 0) := by omega
    have p1 := SKO.out wx1.out (by repeat (first | with_reducible exact Ext.refl _ | with_reducible assumption | with_reducible refine Ext.alloc ?_ _ | with_reducible refine Ext.drew ?_ | (with_reducible refine Ext.setAt ?_ _ _ _ ?_; rotate_left; omega) | with_reducible refine Ext.trans ?_ (by assumption) | with_reducible exact Past.bel _ | with_reducible refine Ext.trans ?_ (Past.bel _)))
    go_wp2_with fail
    refine (toSpring_o _ _ _ _ _ _ hn (HS.out.ext (by repeat (first | with_reducible exact Ext.refl _ | with_reducible assumption | with_reducible refine Ext.alloc ?_ _ | with_reducible refine Ext.drew ?_ | (with_reducible refine Ext.setAt ?_ _ _ _ ?_; rotate_left; omega) | with_reducible refine Ext.trans ?_ (by assumption) | with_reducible exact Past.bel _ | with_reducible refine Ext.trans ?_ (Past.bel _))))).mono ?_
    rintro e w' ⟨g2, xs2, rfl, hx2, hs2, ho2⟩
    have HS2 := Lib.hid hs2
    clear hs2 ho2
    (first | (obtain ⟨wx2, rfl⟩ := Past.again hx2) | (obtain ⟨wx2, rfl⟩ := Past.of hx2))
    go_wp2_with fail
    refine (specFuseeRadii_c hn (HS2.out.ext (by repeat (first | with_reducible exact Ext.refl _ | with_reducible assumption | with_reducible refine Ext.alloc ?_ _ | with_reducible refine Ext.drew ?_ | (with_reducible refine Ext.setAt ?_ _ _ _ ?_; rotate_left; omega) | with_reducible refine Ext.trans ?_ (by assumption) | with_reducible exact Past.bel _ | with_reducible refine Ext.trans ?_ (Past.bel _)))) _ _ _ _).mono ?_
    rintro e w' ⟨a3, c3, rfl, hx3, ho3⟩
    have HO3 := Lib.hid ho3
    clear ho3
    (first | (obtain ⟨wx3, rfl⟩ := Past.again hx3) | (obtain ⟨wx3, rfl⟩ := Past.of hx3))
    have p3 := SKO.out wx3.out (by repeat (first | with_reducible exact Ext.refl _ | with_reducible assumption | with_reducible refine Ext.alloc ?_ _ | with_reducible refine Ext.drew ?_ | (with_reducible refine Ext.setAt ?_ _ _ _ ?_; rotate_left; omega) | with_reducible refine Ext.trans ?_ (by assumption) | with_reducible exact Past.bel _ | with_reducible refine Ext.trans ?_ (Past.bel _)))
    go_wp2_with fail
    refine (toSpring_o _ _ _ _ _ _ hn (HS.out.ext (by repeat (first | with_reducible exact Ext.refl _ | with_reducible assumption | with_reducible refine Ext.alloc ?_ _ | with_reducible refine Ext.drew ?_ | (with_reducible refine Ext.setAt ?_ _ _ _ ?_; rotate_left; omega) | with_reducible refine Ext.trans ?_ (by assumption) | with_reducible exact Past.bel _ | with_reducible refine Ext.trans ?_ (Past.bel _))))).mono ?_
    rintro e w' ⟨g4, xs4, rfl, hx4, hs4, ho4⟩
    have HS4 := Lib.hid hs4
    have HO4 := Lib.hid ho4
    clear hs4 ho4
    have hz4 := hx4.size
    (first | (obtain ⟨wx4, rfl⟩ := Past.again hx4) | (obtain ⟨wx4, rfl⟩ := Past.of hx4))
    go_wp2_with fail
    refine (implFuseeRadii_c hn (HS4.out.ext (by repeat (first | with_reducible exact Ext.refl _ | with_reducible assumption | with_reducible refine Ext.alloc ?_ _ | with_reducible refine Ext.drew ?_ | (with_reducible refine Ext.setAt ?_ _ _ _ ?_; rotate_left; omega) | with_reducible refine Ext.trans ?_ (by assumption) | with_reducible exact Past.bel _ | with_reducible refine Ext.trans ?_ (Past.bel _)))) _ _ _ _).mono ?_
    rintro e w' ⟨a5, c5, rfl, hx5, ho5⟩
    have HO5 := Lib.hid ho5
    clear ho5
    have hz5 := hx5.size
    (first | (obtain ⟨wx5, rfl⟩ := Past.again hx5) | (obtain ⟨wx5, rfl⟩ := Past.of hx5))
    have hz5' := hz5
    simp only [World.size_alloc] at hz5'
    have SKX := Lib.hid (fun (w' : World) (hq : Ext (wx4.out.alloc (.cells #[.slice (some ⟨g4, 0, none⟩) n n] 26)) w') => (show w'.cell? ⟨wx4.out.heap.size, 0, none⟩ = some (.slice (some ⟨g4, 0, none⟩) n n) from by rw [hq.cell (by simp)]; simp [go_sem]))
    have hlen : (fuRes n h o fr to st mo).length ≤ 1048576 := Nat.le_trans fuRes_len (by omega)
    go_wp2_with fail
    refine (eqInt64S_self _ _ _ _ _ _ _ hlen (own_s1 HO5.out) (own_s1 (own_ext HO3.out (by repeat (first | with_reducible exact Ext.refl _ | with_reducible assumption | with_reducible refine Ext.alloc ?_ _ | with_reducible refine Ext.drew ?_ | (with_reducible refine Ext.setAt ?_ _ _ _ ?_; rotate_left; omega) | with_reducible refine Ext.trans ?_ (by assumption) | with_reducible exact Past.bel _ | with_reducible refine Ext.trans ?_ (Past.bel _)))))).mono ?_
    rintro e w6 ⟨rfl, hx6⟩
    have hx46 : Ext (wx4.out.alloc (.cells #[.slice (some ⟨g4, 0, none⟩) n n] 26)) w6 := (by repeat (first | with_reducible exact Ext.refl _ | with_reducible assumption | with_reducible refine Ext.alloc ?_ _ | with_reducible refine Ext.drew ?_ | (with_reducible refine Ext.setAt ?_ _ _ _ ?_; rotate_left; omega) | with_reducible refine Ext.trans ?_ (by assumption) | with_reducible exact Past.bel _ | with_reducible refine Ext.trans ?_ (Past.bel _)))
    have hx06 : Ext (w.alloc (.cells #[.slice a n c] 50)) w6 := (by repeat (first | with_reducible exact Ext.refl _ | with_reducible assumption | with_reducible refine Ext.alloc ?_ _ | with_reducible refine Ext.drew ?_ | (with_reducible refine Ext.setAt ?_ _ _ _ ?_; rotate_left; omega) | with_reducible refine Ext.trans ?_ (by assumption) | with_reducible exact Past.bel _ | with_reducible refine Ext.trans ?_ (Past.bel _)))
    have hz6 := hx6.size
    have hx46' : Ext wx4.out w6 := Ext.trans (by repeat (first | with_reducible exact Ext.refl _ | with_reducible assumption | with_reducible refine Ext.alloc ?_ _ | with_reducible refine Ext.drew ?_ | (with_reducible refine Ext.setAt ?_ _ _ _ ?_; rotate_left; omega) | with_reducible refine Ext.trans ?_ (by assumption) | with_reducible exact Past.bel _ | with_reducible refine Ext.trans ?_ (Past.bel _))) hx46
    have HS6 := Lib.hid (HS4.out.ext hx46')
    go_wp2_with fail
    have SK2 := Lib.hid (fun (w' : World) (hq : Ext w6 w') => (show w'.cell? ⟨wx4.out.heap.size, 0, none⟩ = some (.slice (some ⟨g4, 0, none⟩) n n) ∧ w'.cell? ⟨w.heap.size, 0, none⟩ = some (.slice a n c) from ⟨SKX.out w' (Ext.trans hx46 hq), SKO.out w' (Ext.trans hx06 hq)⟩))
    go_region_held3 (fun w' => w'.cell? ⟨wx4.out.heap.size, 0, none⟩ = some (.slice (some ⟨g4, 0, none⟩) n n) ∧ w'.cell? ⟨w.heap.size, 0, none⟩ = some (.slice a n c)) (exact SK2.out _ (by repeat (first | with_reducible exact Ext.refl _ | with_reducible assumption | with_reducible refine Ext.alloc ?_ _ | with_reducible refine Ext.drew ?_ | (with_reducible refine Ext.setAt ?_ _ _ _ ?_; rotate_left; omega) | with_reducible refine Ext.trans ?_ (by assumption) | with_reducible exact Past.bel _ | with_reducible refine Ext.trans ?_ (Past.bel _))))
      (first | (go_at_call 28; ((with_reducible refine (toSpring_o a n c h o _ hn (HS.out.ext (by repeat (first | with_reducible exact Ext.refl _ | with_reducible assumption | with_reducible refine Ext.alloc ?_ _ | with_reducible refine Ext.drew ?_ | (with_reducible refine Ext.setAt ?_ _ _ _ ?_; rotate_left; omega) | with_reducible refine Ext.trans ?_ (by assumption) | with_reducible exact Past.bel _ | with_reducible refine Ext.trans ?_ (Past.bel _))))).mono ?_); rintro e wA ⟨gA, xsA, rfl, hxA, hsA, -⟩)) | (go_at_call 31; ((with_reducible refine (eqSpring_self _ _ _ _ _ h o _ hn (HS6.out.ext (by repeat (first | with_reducible exact Ext.refl _ | with_reducible assumption | with_reducible refine Ext.alloc ?_ _ | with_reducible refine Ext.drew ?_ | (with_reducible refine Ext.setAt ?_ _ _ _ ?_; rotate_left; omega) | with_reducible refine Ext.trans ?_ (by assumption) | with_reducible exact Past.bel _ | with_reducible refine Ext.trans ?_ (Past.bel _)))) (hsA.ext (by repeat (first | with_reducible exact Ext.refl _ | with_reducible assumption | with_reducible refine Ext.alloc ?_ _ | with_reducible refine Ext.drew ?_ | (with_reducible refine Ext.setAt ?_ _ _ _ ?_; rotate_left; omega) | with_reducible refine Ext.trans ?_ (by assumption) | with_reducible exact Past.bel _ | with_reducible refine Ext.trans ?_ (Past.bel _))))).mono ?_); rintro e wB ⟨rfl, hxB⟩)))
    have hx6B : Ext w6 wB := (by repeat (first | with_reducible exact Ext.refl _ | with_reducible assumption | with_reducible refine Ext.alloc ?_ _ | with_reducible refine Ext.drew ?_ | (with_reducible refine Ext.setAt ?_ _ _ _ ?_; rotate_left; omega) | with_reducible refine Ext.trans ?_ (by assumption) | with_reducible exact Past.bel _ | with_reducible refine Ext.trans ?_ (Past.bel _)))
    have hzB := hx6B.size
    have hx0B : Ext (w.alloc (.cells #[.slice a n c] 50)) wB := Ext.trans hx06 hx6B
    have hx4B : Ext wx4.out wB := Ext.trans hx46' hx6B
    have hx3B : Ext wx3.out wB := Ext.trans hx4 hx4B
    have hx5B : Ext wx5.out wB := Ext.trans hx6 hx6B
    have OB4 := Lib.hid (own_ext HO4.out hx4B)
    have OB3 := Lib.hid (own_ext HO3.out hx3B)
    have OB5 := Lib.hid (own_ext HO5.out hx5B)
    have NE34 := own_ne2 HO3.out HO4.out (Nat.le_refl _)
    have NE45 := own_ne2 HO4.out HO5.out (by simp)
    have NE35 := own_ne2 HO3.out HO5.out (by simp; omega)
    have N34 := Lib.hid NE34.1
    have N54 := Lib.hid NE45.2
    have N35 := Lib.hid NE35.1
    have z2 := hx2.size
    have z3 := hx3.size
    have LO4 := Lib.hid (fun k hk => (HO4.out.lt k hk).1)
    have LO5 := Lib.hid (fun k hk => (HO5.out.lt k hk).1)
    clear NE34 NE45 NE35 HO3 HO4 HO5
    obtain ⟨q1, q2⟩ := SK2.out wB hx6B
    go_wp2_with fail
    refine (markSpring_c _ _ _ _ _ _ _ hn (by omega) (by omega) OB4.out (by omega)).mono ?_
    rintro e w8 ⟨rfl, hg8⟩
    have e8 : Ext (w.alloc (.cells #[.slice a n c] 50)) w8 := Ext.grown hx0B hg8 (fun k hk => by have := LO4.out k hk; simp only [World.size_alloc]; omega)
    have O3 := Lib.hid (OB3.out.kept hg8 N34.out)
    have O5 := Lib.hid (OB5.out.kept hg8 N54.out)
    have hz8 := hg8.size
    clear hg8 OB3 OB4 OB5 N34 N54 LO4 q1 q2 SK2 HS6 SKX
    go_wp2_with fail
    refine (eqInt64S_self _ _ _ _ _ _ _ hlen (own_s1 O5.out) (own_s1 O3.out)).mono ?_
    rintro e w9 ⟨rfl, hx9⟩
    have O3' := Lib.hid (own_ext O3.out hx9)
    have O5' := Lib.hid (own_ext O5.out hx9)
    have e9 := Ext.trans e8 hx9
    have hz9 := hx9.size
    clear O3 O5
    go_wp2_with fail
    refine (markInt64S_c _ _ _ _ _ _ _ hlen (by omega) (by omega) O5'.out).mono ?_
    rintro e w10 ⟨rfl, ho10, hg10⟩
    have e10 : Ext (w.alloc (.cells #[.slice a n c] 50)) w10 := Ext.grown e9 hg10 (fun k hk => by have := LO5.out k hk; simp only [World.size_alloc] at this ⊢; omega)
    have O10 := Lib.hid ho10
    have P3 := Lib.hid (O3'.out.kept hg10 N35.out)
    have p10 := SKO.out w10 e10
    clear hg10 ho10 O3' O5' N35 LO5 hx9 e8
    go_wp2_with fail
    refine (heldInt64S_c _ _ _ _ _ _ hlen (by omega) (by omega) O10.out).mono ?_
    rintro e w' ⟨rfl, rfl⟩
    go_wp2_with fail
    refine (toSpring_o _ _ _ _ _ _ hn (HS.out.ext (Ext.trans (by repeat (first | with_reducible exact Ext.refl _ | with_reducible assumption | with_reducible refine Ext.alloc ?_ _ | with_reducible refine Ext.drew ?_ | (with_reducible refine Ext.setAt ?_ _ _ _ ?_; rotate_left; omega) | with_reducible refine Ext.trans ?_ (by assumption) | with_reducible exact Past.bel _ | with_reducible refine Ext.trans ?_ (Past.bel _))) e10))).mono ?_
    rintro e w11 ⟨g11, xs11, rfl, hx11, hs11, -⟩
    have HS11 := Lib.hid hs11
    clear hs11
    go_wp2_with fail
    refine (implFuseeRadii_c hn HS11.out _ _ _ _).mono ?_
    rintro e w12 ⟨a12, c12, rfl, hx12, ho12⟩
    have HO12 := Lib.hid ho12
    have hx1012 : Ext w10 w12 := Ext.trans hx11 hx12
    clear ho12
    go_wp2_with fail
    refine (eqInt64S_self _ _ _ _ _ _ _ hlen (own_s1 HO12.out) (own_s1 (own_ext P3.out hx1012))).mono ?_
    rintro e w13 ⟨rfl, hx13⟩
    have hx1013 : Ext w10 w13 := Ext.trans hx1012 hx13
    go_wp2_with fail
    refine (heldInt64S_c _ _ _ _ _ _ hlen (by omega) (by omega) (own_ext O10.out hx1013)).mono ?_
    rintro e w' ⟨rfl, rfl⟩
    go_wp2_with fail
    go_ret
    exact ⟨rfl, Ext.trans (Ext.trans (by repeat (first | with_reducible exact Ext.refl _ | with_reducible assumption | with_reducible refine Ext.alloc ?_ _ | with_reducible refine Ext.drew ?_ | (with_reducible refine Ext.setAt ?_ _ _ _ ?_; rotate_left; omega) | with_reducible refine Ext.trans ?_ (by assumption) | with_reducible exact Past.bel _ | with_reducible refine Ext.trans ?_ (Past.bel _))) e10) hx1013⟩
  · have e1 : (if (1048576 : Int) < (n : Int) then -1 else 1048576 - (n : Int)) = (-1 : Int) := if_pos (by omega)
    go_enter Try.func6, Try.ntmps6
    go_wp2_with fail
    refine (szSpring_c a n c _ _ (by omega) (by omega) hm'.out).mono ?_
    rw [e1]
    rintro e w' ⟨rfl, hx1⟩
    go_wp2_with fail
    go_ret
    exact ⟨rfl, (by repeat (first | with_reducible exact Ext.refl _ | with_reducible assumption | with_reducible refine Ext.alloc ?_ _ | with_reducible refine Ext.drew ?_ | (with_reducible refine Ext.setAt ?_ _ _ _ ?_; rotate_left; omega) | with_reducible refine Ext.trans ?_ (by assumption) | with_reducible exact Past.bel _ | with_reducible refine Ext.trans ?_ (Past.bel _)))⟩
end Go.Proofs.Ytglcjnplmhelhaa
