/- FuseeRadii: the program and the reference. The law on torques: its walk. The law on energies: its walk. What arguments of plain data hold: slices of mixed structs, slices of numbers. No program in sight. -/
import Derived.Test.YtglcjnplmhelhaaBe
import Derived.Test.YtglcjnplmhelhaaBa
import Derived.Test.YtglcjnplmhelhaaBc

namespace Go.Proofs.Ytglcjnplmhelhaa
open Go.RowKit
set_option linter.unusedVariables false
set_option linter.unusedSimpArgs false

/-- what FuseeRadii returns, of an owned list -/
def fuPost (w : World) (n : Nat) (wd pl : Nat → Int) (f t st mo : Int) (e : Ending) (w' : World) : Prop :=
  ∃ b cap, e = .returned (.tuple #[.slice b (fuRes n wd pl f t st mo).length cap, .int .i64 (fuC n wd pl f t st mo)]) ∧ Ext w w' ∧
    w'.ownsRow w.heap.size 2 1 (.slice b (fuRes n wd pl f t st mo).length cap) (fuRes n wd pl f t st mo).length ((fuRes n wd pl f t st mo).map (Value.int .i64))
theorem fu_nil {w w' : World} {n : Nat} {wd pl : Nat → Int} {f t st mo c : Int} (hx : Ext w w') (hg : fuG n wd pl f t st mo = false) (hc : c = fuC n wd pl f t st mo) :
    fuPost w n wd pl f t st mo (.returned (.tuple #[.slice none 0 0, .int .i64 c])) w' := by
  have hr : fuRes n wd pl f t st mo = [] := by rw [fuRes, hg]; rfl
  exact ⟨none, 0, ret_two (by rw [hr]; rfl) (congrArg _ hc), hx, by rw [hr]; exact World.ownsRow_nil _ _ _ _⟩
section
variable {a : Option Addr} {n c : Nat} {wd pl : Nat → Int} {w : World}
set_option maxHeartbeats 4000000 in
theorem implFuseeRadii_c (hn : n ≤ 1048576) (hs : S2 w a n wd pl) (f t st mo : Int) :
    Calls Try.prog 29 #[.agg #[.slice a n c], .int .i64 f, .int .i64 t, .int .i64 st, .int .i64 mo] w (fuPost w n wd pl f t st mo) := by
  have HS := Lib.hid hs
  clear hs
  cases h1 : spV n wd pl
  · go_enter Try.func29, Try.ntmps29
    go_wp2_with (go_at_call 13; ((with_reducible refine (validSpring_c hn (HS.out.ext (by repeat (first | with_reducible exact Ext.refl _ | with_reducible assumption | with_reducible refine Ext.alloc ?_ _ | with_reducible refine Ext.drew ?_ | (with_reducible refine Ext.setAt ?_ _ _ _ ?_; rotate_left; omega) | with_reducible refine Ext.trans ?_ (by assumption) | with_reducible exact Past.bel _ | with_reducible refine Ext.trans ?_ (Past.bel _))))).mono ?_); rintro e w' ⟨rfl, hx⟩; (first | (obtain ⟨wx, rfl⟩ := Past.again hx) | (obtain ⟨wx, rfl⟩ := Past.ofd hx) | (obtain ⟨wx, rfl⟩ := Past.of hx))))
    go_ret2
    exact fu_nil (by repeat (first | with_reducible exact Ext.refl _ | with_reducible assumption | with_reducible refine Ext.alloc ?_ _ | with_reducible refine Ext.drew ?_ | (with_reducible refine Ext.setAt ?_ _ _ _ ?_; rotate_left; omega) | with_reducible refine Ext.trans ?_ (by assumption) | with_reducible exact Past.bel _ | with_reducible refine Ext.trans ?_ (Past.bel _))) (by rw [fuG, h1]; rfl) (by rw [fuC, h1]; rfl)
  · have B := Lib.hid (spV_b h1)
    have hn1 : 1 ≤ n := by have := B.out.n2; omega
    cases h2 : inS n wd f
    · go_enter Try.func29, Try.ntmps29
      go_wp2_with (first | (go_at_call 13; ((with_reducible refine (validSpring_c hn (HS.out.ext (by repeat (first | with_reducible exact Ext.refl _ | with_reducible assumption | with_reducible refine Ext.alloc ?_ _ | with_reducible refine Ext.drew ?_ | (with_reducible refine Ext.setAt ?_ _ _ _ ?_; rotate_left; omega) | with_reducible refine Ext.trans ?_ (by assumption) | with_reducible exact Past.bel _ | with_reducible refine Ext.trans ?_ (Past.bel _))))).mono ?_); rintro e w' ⟨rfl, hx⟩; (first | (obtain ⟨wx, rfl⟩ := Past.again hx) | (obtain ⟨wx, rfl⟩ := Past.ofd hx) | (obtain ⟨wx, rfl⟩ := Past.of hx)))) | (go_at_call 47; ((with_reducible refine (isPosition_c hn1 hn (HS.out.ext (by repeat (first | with_reducible exact Ext.refl _ | with_reducible assumption | with_reducible refine Ext.alloc ?_ _ | with_reducible refine Ext.drew ?_ | (with_reducible refine Ext.setAt ?_ _ _ _ ?_; rotate_left; omega) | with_reducible refine Ext.trans ?_ (by assumption) | with_reducible exact Past.bel _ | with_reducible refine Ext.trans ?_ (Past.bel _)))) _).mono ?_); rintro e w' ⟨rfl, hx⟩; (first | (obtain ⟨wx, rfl⟩ := Past.again hx) | (obtain ⟨wx, rfl⟩ := Past.ofd hx) | (obtain ⟨wx, rfl⟩ := Past.of hx)))))
      go_ret2
      exact fu_nil (by repeat (first | with_reducible exact Ext.refl _ | with_reducible assumption | with_reducible refine Ext.alloc ?_ _ | with_reducible refine Ext.drew ?_ | (with_reducible refine Ext.setAt ?_ _ _ _ ?_; rotate_left; omega) | with_reducible refine Ext.trans ?_ (by assumption) | with_reducible exact Past.bel _ | with_reducible refine Ext.trans ?_ (Past.bel _))) (by rw [fuG, fuB, h1, h2]; rfl) (by rw [fuC, fuB, h1, h2]; rfl)
    · cases h3 : inS n wd t
      · go_enter Try.func29, Try.ntmps29
        go_wp2_with (first | (go_at_call 13; ((with_reducible refine (validSpring_c hn (HS.out.ext (by repeat (first | with_reducible exact Ext.refl _ | with_reducible assumption | with_reducible refine Ext.alloc ?_ _ | with_reducible refine Ext.drew ?_ | (with_reducible refine Ext.setAt ?_ _ _ _ ?_; rotate_left; omega) | with_reducible refine Ext.trans ?_ (by assumption) | with_reducible exact Past.bel _ | with_reducible refine Ext.trans ?_ (Past.bel _))))).mono ?_); rintro e w' ⟨rfl, hx⟩; (first | (obtain ⟨wx, rfl⟩ := Past.again hx) | (obtain ⟨wx, rfl⟩ := Past.ofd hx) | (obtain ⟨wx, rfl⟩ := Past.of hx)))) | (go_at_call 47; ((with_reducible refine (isPosition_c hn1 hn (HS.out.ext (by repeat (first | with_reducible exact Ext.refl _ | with_reducible assumption | with_reducible refine Ext.alloc ?_ _ | with_reducible refine Ext.drew ?_ | (with_reducible refine Ext.setAt ?_ _ _ _ ?_; rotate_left; omega) | with_reducible refine Ext.trans ?_ (by assumption) | with_reducible exact Past.bel _ | with_reducible refine Ext.trans ?_ (Past.bel _)))) _).mono ?_); rintro e w' ⟨rfl, hx⟩; (first | (obtain ⟨wx, rfl⟩ := Past.again hx) | (obtain ⟨wx, rfl⟩ := Past.ofd hx) | (obtain ⟨wx, rfl⟩ := Past.of hx)))))
        go_ret2
        exact fu_nil (by repeat (first | with_reducible exact Ext.refl _ | with_reducible assumption | with_reducible refine Ext.alloc ?_ _ | with_reducible refine Ext.drew ?_ | (with_reducible refine Ext.setAt ?_ _ _ _ ?_; rotate_left; omega) | with_reducible refine Ext.trans ?_ (by assumption) | with_reducible exact Past.bel _ | with_reducible refine Ext.trans ?_ (Past.bel _))) (by rw [fuG, fuB, h1, h2, h3]; rfl) (by rw [fuC, fuB, h1, h2, h3]; rfl)
      · by_cases h4 : f ≤ t
        · cases h5 : inB st 1 2000
          · go_enter Try.func29, Try.ntmps29
            go_wp2_with (first | (go_at_call 13; ((with_reducible refine (validSpring_c hn (HS.out.ext (by repeat (first | with_reducible exact Ext.refl _ | with_reducible assumption | with_reducible refine Ext.alloc ?_ _ | with_reducible refine Ext.drew ?_ | (with_reducible refine Ext.setAt ?_ _ _ _ ?_; rotate_left; omega) | with_reducible refine Ext.trans ?_ (by assumption) | with_reducible exact Past.bel _ | with_reducible refine Ext.trans ?_ (Past.bel _))))).mono ?_); rintro e w' ⟨rfl, hx⟩; (first | (obtain ⟨wx, rfl⟩ := Past.again hx) | (obtain ⟨wx, rfl⟩ := Past.ofd hx) | (obtain ⟨wx, rfl⟩ := Past.of hx)))) | (go_at_call 47; ((with_reducible refine (isPosition_c hn1 hn (HS.out.ext (by repeat (first | with_reducible exact Ext.refl _ | with_reducible assumption | with_reducible refine Ext.alloc ?_ _ | with_reducible refine Ext.drew ?_ | (with_reducible refine Ext.setAt ?_ _ _ _ ?_; rotate_left; omega) | with_reducible refine Ext.trans ?_ (by assumption) | with_reducible exact Past.bel _ | with_reducible refine Ext.trans ?_ (Past.bel _)))) _).mono ?_); rintro e w' ⟨rfl, hx⟩; (first | (obtain ⟨wx, rfl⟩ := Past.again hx) | (obtain ⟨wx, rfl⟩ := Past.ofd hx) | (obtain ⟨wx, rfl⟩ := Past.of hx)))) | (go_at_call 52; ((with_reducible refine (within_c _ _ _ _).mono ?_); rintro e w' ⟨rfl, rfl⟩)))
            go_ret2
            exact fu_nil (by repeat (first | with_reducible exact Ext.refl _ | with_reducible assumption | with_reducible refine Ext.alloc ?_ _ | with_reducible refine Ext.drew ?_ | (with_reducible refine Ext.setAt ?_ _ _ _ ?_; rotate_left; omega) | with_reducible refine Ext.trans ?_ (by assumption) | with_reducible exact Past.bel _ | with_reducible refine Ext.trans ?_ (Past.bel _))) (by rw [fuG, fuB, h1, h2, h3, h5, decide_eq_true h4]; rfl) (by rw [fuC, fuB, h1, h2, h3, h5, decide_eq_true h4]; rfl)
          · cases h6 : inB mo 0 1000000000
            · go_enter Try.func29, Try.ntmps29
              go_wp2_with (first | (go_at_call 13; ((with_reducible refine (validSpring_c hn (HS.out.ext (by repeat (first | with_reducible exact Ext.refl _ | with_reducible assumption | with_reducible refine Ext.alloc ?_ _ | with_reducible refine Ext.drew ?_ | (with_reducible refine Ext.setAt ?_ _ _ _ ?_; rotate_left; omega) | with_reducible refine Ext.trans ?_ (by assumption) | with_reducible exact Past.bel _ | with_reducible refine Ext.trans ?_ (Past.bel _))))).mono ?_); rintro e w' ⟨rfl, hx⟩; (first | (obtain ⟨wx, rfl⟩ := Past.again hx) | (obtain ⟨wx, rfl⟩ := Past.ofd hx) | (obtain ⟨wx, rfl⟩ := Past.of hx)))) | (go_at_call 47; ((with_reducible refine (isPosition_c hn1 hn (HS.out.ext (by repeat (first | with_reducible exact Ext.refl _ | with_reducible assumption | with_reducible refine Ext.alloc ?_ _ | with_reducible refine Ext.drew ?_ | (with_reducible refine Ext.setAt ?_ _ _ _ ?_; rotate_left; omega) | with_reducible refine Ext.trans ?_ (by assumption) | with_reducible exact Past.bel _ | with_reducible refine Ext.trans ?_ (Past.bel _)))) _).mono ?_); rintro e w' ⟨rfl, hx⟩; (first | (obtain ⟨wx, rfl⟩ := Past.again hx) | (obtain ⟨wx, rfl⟩ := Past.ofd hx) | (obtain ⟨wx, rfl⟩ := Past.of hx)))) | (go_at_call 52; ((with_reducible refine (within_c _ _ _ _).mono ?_); rintro e w' ⟨rfl, rfl⟩)))
              go_ret2
              exact fu_nil (by repeat (first | with_reducible exact Ext.refl _ | with_reducible assumption | with_reducible refine Ext.alloc ?_ _ | with_reducible refine Ext.drew ?_ | (with_reducible refine Ext.setAt ?_ _ _ _ ?_; rotate_left; omega) | with_reducible refine Ext.trans ?_ (by assumption) | with_reducible exact Past.bel _ | with_reducible refine Ext.trans ?_ (Past.bel _))) (by rw [fuG, fuB, h1, h2, h3, h5, h6, decide_eq_true h4]; rfl) (by rw [fuC, fuB, h1, h2, h3, h5, h6, decide_eq_true h4]; rfl)
            · have H2 := Lib.hid h2
              have H3 := Lib.hid h3
              have hB := fuB_nn h2 h3 h4 h5 h6
              have HB := Lib.hid hB
              have hst := inB_t.1 h5
              have hmo := inB_t.1 h6
              have pf := B.out.pull h2
              have PF0 : ∀ j : Nat, j < fuN f t st → inS n wd (f + (j : Int) * st) = true ∧ pullF wd pl f ≤ pullF wd pl (f + (j : Int) * st) := fun j hj => by
                have q1 := fuN_in h4 hst.1 hj
                have q2 := inB_t.1 h2
                have q3 := inB_t.1 h3
                have q4 : inS n wd (f + (j : Int) * st) = true := inB_t.2 ⟨by omega, by omega⟩
                exact ⟨q4, B.out.mono h2 q4 q1.1⟩
              have HPF := Lib.hid PF0
              obtain ⟨P, hP⟩ : ∃ P, P = pullF wd pl f := ⟨_, rfl⟩
              have H1 := Lib.hid h1
              have hPA : ∀ W, Ext w W → Calls Try.prog 48 #[.agg #[.slice a n c], .int .i64 f] W fun e w' => e = .returned (.int .i64 P) ∧ Ext W w' := fun W hq => by rw [hP]; exact pullAt_c B.out (HS.out.ext hq) H2.out
              have HPA := Lib.hid hPA
              have HP := Lib.hid hP
              rw [← hP] at pf
              clear hPA PF0 hB
              by_cases h7 : P = 0
              · subst h7
                clear hP
                go_enter Try.func29, Try.ntmps29
                go_wp2_with (first | (go_at_call 13; ((with_reducible refine (validSpring_c hn (HS.out.ext (by repeat (first | with_reducible exact Ext.refl _ | with_reducible assumption | with_reducible refine Ext.alloc ?_ _ | with_reducible refine Ext.drew ?_ | (with_reducible refine Ext.setAt ?_ _ _ _ ?_; rotate_left; omega) | with_reducible refine Ext.trans ?_ (by assumption) | with_reducible exact Past.bel _ | with_reducible refine Ext.trans ?_ (Past.bel _))))).mono ?_); rintro e w' ⟨rfl, hx⟩; (first | (obtain ⟨wx, rfl⟩ := Past.again hx) | (obtain ⟨wx, rfl⟩ := Past.ofd hx) | (obtain ⟨wx, rfl⟩ := Past.of hx)))) | (go_at_call 47; ((with_reducible refine (isPosition_c hn1 hn (HS.out.ext (by repeat (first | with_reducible exact Ext.refl _ | with_reducible assumption | with_reducible refine Ext.alloc ?_ _ | with_reducible refine Ext.drew ?_ | (with_reducible refine Ext.setAt ?_ _ _ _ ?_; rotate_left; omega) | with_reducible refine Ext.trans ?_ (by assumption) | with_reducible exact Past.bel _ | with_reducible refine Ext.trans ?_ (Past.bel _)))) _).mono ?_); rintro e w' ⟨rfl, hx⟩; (first | (obtain ⟨wx, rfl⟩ := Past.again hx) | (obtain ⟨wx, rfl⟩ := Past.ofd hx) | (obtain ⟨wx, rfl⟩ := Past.of hx)))) | (go_at_call 52; ((with_reducible refine (within_c _ _ _ _).mono ?_); rintro e w' ⟨rfl, rfl⟩)) | (go_at_call 48; ((with_reducible refine (HPA.out _ (by repeat (first | with_reducible exact Ext.refl _ | with_reducible assumption | with_reducible refine Ext.alloc ?_ _ | with_reducible refine Ext.drew ?_ | (with_reducible refine Ext.setAt ?_ _ _ _ ?_; rotate_left; omega) | with_reducible refine Ext.trans ?_ (by assumption) | with_reducible exact Past.bel _ | with_reducible refine Ext.trans ?_ (Past.bel _)))).mono ?_); rintro e w' ⟨rfl, hx⟩; (first | (obtain ⟨wx, rfl⟩ := Past.again hx) | (obtain ⟨wx, rfl⟩ := Past.ofd hx) | (obtain ⟨wx, rfl⟩ := Past.of hx)))))
                go_ret2
                exact fu_nil (by repeat (first | with_reducible exact Ext.refl _ | with_reducible assumption | with_reducible refine Ext.alloc ?_ _ | with_reducible refine Ext.drew ?_ | (with_reducible refine Ext.setAt ?_ _ _ _ ?_; rotate_left; omega) | with_reducible refine Ext.trans ?_ (by assumption) | with_reducible exact Past.bel _ | with_reducible refine Ext.trans ?_ (Past.bel _))) (by rw [fuG, H1.out, HB.out, ← HP.out]; rfl) (by rw [fuC, H1.out, HB.out, ← HP.out]; rfl)
              · have h7' : (P == 0) = false := by simpa using h7
                have hg : fuG n wd pl f t st mo = true := by rw [fuG, H1.out, HB.out, ← HP.out, h7']; rfl
                have hc : fuC n wd pl f t st mo = 0 := by rw [fuC, H1.out, HB.out, ← HP.out, h7']; rfl
                have hr : fuRes n wd pl f t st mo = outs (fuF wd pl f st mo) (fuN f t st) := by rw [fuRes, hg]; rfl
                have hf := B.out.inS h2
                have ht := B.out.inS h3
                have hN := fuN_le h4 hst.1
                have HO := Lib.hid (fuN_out h4 hst.1)
                have HI := Lib.hid (fun (j : Nat) (hj : j < fuN f t st) => fuN_in h4 hst.1 hj)
                have HC := Lib.hid hc
                have HR := Lib.hid hr
                obtain ⟨N, hNe⟩ : ∃ N, N = fuN f t st := ⟨_, rfl⟩
                rw [← hNe] at HO HI HPF HR hN
                have P1 : 1 ≤ P := by omega
                clear hg hc hr hP h7 hNe
                obtain ⟨i0, hi, hz0, hz1, hz2⟩ := info_parts info_i64
                go_enter Try.func29, Try.ntmps29
                go_wp2_with (first | (go_at_call 13; ((with_reducible refine (validSpring_c hn (HS.out.ext (by repeat (first | with_reducible exact Ext.refl _ | with_reducible assumption | with_reducible refine Ext.alloc ?_ _ | with_reducible refine Ext.drew ?_ | (with_reducible refine Ext.setAt ?_ _ _ _ ?_; rotate_left; omega) | with_reducible refine Ext.trans ?_ (by assumption) | with_reducible exact Past.bel _ | with_reducible refine Ext.trans ?_ (Past.bel _))))).mono ?_); rintro e w' ⟨rfl, hx⟩; (first | (obtain ⟨wx, rfl⟩ := Past.again hx) | (obtain ⟨wx, rfl⟩ := Past.ofd hx) | (obtain ⟨wx, rfl⟩ := Past.of hx)))) | (go_at_call 47; ((with_reducible refine (isPosition_c hn1 hn (HS.out.ext (by repeat (first | with_reducible exact Ext.refl _ | with_reducible assumption | with_reducible refine Ext.alloc ?_ _ | with_reducible refine Ext.drew ?_ | (with_reducible refine Ext.setAt ?_ _ _ _ ?_; rotate_left; omega) | with_reducible refine Ext.trans ?_ (by assumption) | with_reducible exact Past.bel _ | with_reducible refine Ext.trans ?_ (Past.bel _)))) _).mono ?_); rintro e w' ⟨rfl, hx⟩; (first | (obtain ⟨wx, rfl⟩ := Past.again hx) | (obtain ⟨wx, rfl⟩ := Past.ofd hx) | (obtain ⟨wx, rfl⟩ := Past.of hx)))) | (go_at_call 52; ((with_reducible refine (within_c _ _ _ _).mono ?_); rintro e w' ⟨rfl, rfl⟩)) | (go_at_call 48; ((with_reducible refine (HPA.out _ (by repeat (first | with_reducible exact Ext.refl _ | with_reducible assumption | with_reducible refine Ext.alloc ?_ _ | with_reducible refine Ext.drew ?_ | (with_reducible refine Ext.setAt ?_ _ _ _ ?_; rotate_left; omega) | with_reducible refine Ext.trans ?_ (by assumption) | with_reducible exact Past.bel _ | with_reducible refine Ext.trans ?_ (Past.bel _)))).mono ?_); rintro e w' ⟨rfl, hx⟩; (first | (obtain ⟨wx, rfl⟩ := Past.again hx) | (obtain ⟨wx, rfl⟩ := Past.ofd hx) | (obtain ⟨wx, rfl⟩ := Past.of hx)))))
                clear h2 h3 h5 h6 HPA HB h4
                go_loopw [12, 13] (fun v i wr => ∃ (j : Nat) (T : Int), j ≤ N ∧ T = f + (j : Int) * st ∧ i = .int .i64 T ∧ Ext (w.alloc (.cells #[.slice a n c] 26)) wr ∧ wr.ownsRow (w.alloc (.cells #[.slice a n c] 26)).heap.size 2 1 v j ((outs (fuF wd pl f st mo) j).map (Value.int .i64))) (fun _ i _ => (t + 1 - intOf i).toNat)
                case atStart => exact ⟨0, f, by omega, by simp, rfl, (by repeat (first | with_reducible exact Ext.refl _ | with_reducible assumption | with_reducible refine Ext.alloc ?_ _ | with_reducible refine Ext.drew ?_ | (with_reducible refine Ext.setAt ?_ _ _ _ ?_; rotate_left; omega) | with_reducible refine Ext.trans ?_ (by assumption) | with_reducible exact Past.bel _ | with_reducible refine Ext.trans ?_ (Past.bel _))), World.ownsRow_nil _ _ _ _⟩
                case round =>
                  obtain ⟨j, T, hj, hT, rfl, hbl, ho⟩ := hrel
                  have HT := Lib.hid hT
                  have HOW := Lib.hid ho
                  have hz := hbl.size
                  simp only [World.size_alloc] at hz
                  have hg : w.heap.size < wr.heap.size := by omega
                  have p0 : wr.cell? ⟨w.heap.size, 0, none⟩ = some (.slice a n c) := by rw [hbl.cell (by simp)]; simp [go_sem]
                  have hxw : Ext w wr := Ext.trans (by repeat (first | with_reducible exact Ext.refl _ | with_reducible assumption | with_reducible refine Ext.alloc ?_ _ | with_reducible refine Ext.drew ?_ | (with_reducible refine Ext.setAt ?_ _ _ _ ?_; rotate_left; omega) | with_reducible refine Ext.trans ?_ (by assumption) | with_reducible exact Past.bel _ | with_reducible refine Ext.trans ?_ (Past.bel _))) hbl
                  clear ho
                  by_cases hlt : j < N
                  · have q0 := HI.out j hlt
                    have q1 := HPF.out j hlt
                    rw [← hT] at q0 q1
                    have I1 := Lib.hid q1.1
                    have q2 := B.out.pull q1.1
                    obtain ⟨u0, u1⟩ := q0
                    have u2 : 0 ≤ T := by omega
                    have u3 : T ≤ 2000 := by omega
                    obtain ⟨R, hR⟩ : ∃ R, R = pullF wd pl T := ⟨_, rfl⟩
                    have q3 := q1.2
                    rw [← hR] at q2 q3
                    have r1 : 1 ≤ R := by have := HP.out; omega
                    obtain ⟨r0, r2⟩ := q2
                    have hF : nearD mo R = fuF wd pl f st mo j := by rw [fuF, hR, hT]
                    have HF := Lib.hid hF
                    have HA := Lib.hid (fun W (hq : Ext w W) => (hR ▸ pullAt_c B.out (HS.out.ext hq) I1.out : Calls Try.prog 48 #[.agg #[.slice a n c], .int .i64 T] W fun e w' => e = .returned (.int .i64 R) ∧ Ext W w'))
                    have HD := Lib.hid (fun W => (hF ▸ nearestDiv_c mo R W (by omega) (by omega) (by omega) (by omega) : Calls Try.prog 65 #[.int .i64 mo, .int .i64 R] W fun e w' => e = .returned (.int .i64 (fuF wd pl f st mo j)) ∧ W = w'))
                    have SK' := Lib.hid (fun (w' : World) (hq : Ext wr w') => (show w'.cell? ⟨w.heap.size, 0, none⟩ = some (.slice a n c) from by rw [hq.cell hg]; exact p0))
                    have x5 : IntKind.i64.wrap (T + st) = T + st := IntWalk.i64_in _ (by omega)
                    clear hR hF hT q1 q3
                    go_wp2_with (first | (go_at_call 48; ((with_reducible refine (HA.out _ (by repeat (first | with_reducible exact Ext.refl _ | with_reducible assumption | with_reducible refine Ext.alloc ?_ _ | with_reducible refine Ext.drew ?_ | (with_reducible refine Ext.setAt ?_ _ _ _ ?_; rotate_left; omega) | with_reducible refine Ext.trans ?_ (by assumption) | with_reducible exact Past.bel _ | with_reducible refine Ext.trans ?_ (Past.bel _)))).mono ?_); rintro e w' ⟨rfl, hx⟩; (first | (obtain ⟨wx, rfl⟩ := Past.again hx) | (obtain ⟨wx, rfl⟩ := Past.ofd hx) | (obtain ⟨wx, rfl⟩ := Past.of hx)))) | (go_at_call 65; ((with_reducible refine (HD.out _).mono ?_); rintro e w' ⟨rfl, rfl⟩)) | (at_builtin; refine app1 (w0 := w.alloc (.cells #[.slice a n c] 26)) 52 2 _ _ rfl rfl Try.underlying52 info_i64 _ (outs (fuF wd pl f st mo) j) (fuF wd pl f st mo j) _ rfl rfl (own_ext (outs_own HOW.out) (by repeat (first | with_reducible exact Ext.refl _ | with_reducible assumption | with_reducible refine Ext.alloc ?_ _ | with_reducible refine Ext.drew ?_ | (with_reducible refine Ext.setAt ?_ _ _ _ ?_; rotate_left; omega) | with_reducible refine Ext.trans ?_ (by assumption) | with_reducible exact Past.bel _ | with_reducible refine Ext.trans ?_ (Past.bel _)))) (by simp [go_sem]) (by rw [outs_len]; omega) (by repeat (first | with_reducible exact Ext.refl _ | with_reducible assumption | with_reducible refine Ext.alloc ?_ _ | with_reducible refine Ext.drew ?_ | (with_reducible refine Ext.setAt ?_ _ _ _ ?_; rotate_left; omega) | with_reducible refine Ext.trans ?_ (by assumption) | with_reducible exact Past.bel _ | with_reducible refine Ext.trans ?_ (Past.bel _))) ?_; intro v1 w1 ho1 hx1))
                    exact ⟨⟨j + 1, T + st, by omega, by rw [HT.out]; grind, by go_num, (by repeat (first | with_reducible exact Ext.refl _ | with_reducible assumption | with_reducible refine Ext.alloc ?_ _ | with_reducible refine Ext.drew ?_ | (with_reducible refine Ext.setAt ?_ _ _ _ ?_; rotate_left; omega) | with_reducible refine Ext.trans ?_ (by assumption) | with_reducible exact Past.bel _ | with_reducible refine Ext.trans ?_ (Past.bel _))), by rw [← outs_step]; simpa [outs_len] using ho1⟩, by simp [intOf]; omega⟩
                  · have hl : j = N := by omega
                    subst hl
                    have u1 : t < T := by have := HO.out; rw [hT]; exact this
                    obtain ⟨b, cap, rfl⟩ := own_form HOW.out
                    clear hT
                    go_wp2_with fail
                    go_ret2
                    exact ⟨b, cap, ret_two (by simp [HR.out, outs_len]) (congrArg _ HC.out.symm), (by repeat (first | with_reducible exact Ext.refl _ | with_reducible assumption | with_reducible refine Ext.alloc ?_ _ | with_reducible refine Ext.drew ?_ | (with_reducible refine Ext.setAt ?_ _ _ _ ?_; rotate_left; omega) | with_reducible refine Ext.trans ?_ (by assumption) | with_reducible exact Past.bel _ | with_reducible refine Ext.trans ?_ (Past.bel _))), by rw [HR.out]; exact own_base (by simpa [outs_len] using HOW.out) (by simp)⟩
        · have h5 : t < f := by omega
          go_enter Try.func29, Try.ntmps29
          go_wp2_with (first | (go_at_call 13; ((with_reducible refine (validSpring_c hn (HS.out.ext (by repeat (first | with_reducible exact Ext.refl _ | with_reducible assumption | with_reducible refine Ext.alloc ?_ _ | with_reducible refine Ext.drew ?_ | (with_reducible refine Ext.setAt ?_ _ _ _ ?_; rotate_left; omega) | with_reducible refine Ext.trans ?_ (by assumption) | with_reducible exact Past.bel _ | with_reducible refine Ext.trans ?_ (Past.bel _))))).mono ?_); rintro e w' ⟨rfl, hx⟩; (first | (obtain ⟨wx, rfl⟩ := Past.again hx) | (obtain ⟨wx, rfl⟩ := Past.ofd hx) | (obtain ⟨wx, rfl⟩ := Past.of hx)))) | (go_at_call 47; ((with_reducible refine (isPosition_c hn1 hn (HS.out.ext (by repeat (first | with_reducible exact Ext.refl _ | with_reducible assumption | with_reducible refine Ext.alloc ?_ _ | with_reducible refine Ext.drew ?_ | (with_reducible refine Ext.setAt ?_ _ _ _ ?_; rotate_left; omega) | with_reducible refine Ext.trans ?_ (by assumption) | with_reducible exact Past.bel _ | with_reducible refine Ext.trans ?_ (Past.bel _)))) _).mono ?_); rintro e w' ⟨rfl, hx⟩; (first | (obtain ⟨wx, rfl⟩ := Past.again hx) | (obtain ⟨wx, rfl⟩ := Past.ofd hx) | (obtain ⟨wx, rfl⟩ := Past.of hx)))))
          go_ret2
          exact fu_nil (by repeat (first | with_reducible exact Ext.refl _ | with_reducible assumption | with_reducible refine Ext.alloc ?_ _ | with_reducible refine Ext.drew ?_ | (with_reducible refine Ext.setAt ?_ _ _ _ ?_; rotate_left; omega) | with_reducible refine Ext.trans ?_ (by assumption) | with_reducible exact Past.bel _ | with_reducible refine Ext.trans ?_ (Past.bel _))) (by rw [fuG, fuB, h1, h2, h3, decide_eq_false (show ¬ f ≤ t by omega)]; rfl) (by rw [fuC, fuB, h1, h2, h3, decide_eq_false (show ¬ f ≤ t by omega)]; rfl)
set_option maxHeartbeats 4000000 in
theorem specFuseeRadii_c (hn : n ≤ 1048576) (hs : S2 w a n wd pl) (f t st mo : Int) :
    Calls Try.prog 27 #[.agg #[.slice a n c], .int .i64 f, .int .i64 t, .int .i64 st, .int .i64 mo] w (fuPost w n wd pl f t st mo) := by
  have HS := Lib.hid hs
  clear hs
  cases h1 : spV n wd pl
  · go_enter Try.func27, Try.ntmps27
    go_wp2_with (go_at_call 49; ((with_reducible refine (l13Ok_c hn (HS.out.ext (by repeat (first | with_reducible exact Ext.refl _ | with_reducible assumption | with_reducible refine Ext.alloc ?_ _ | with_reducible refine Ext.drew ?_ | (with_reducible refine Ext.setAt ?_ _ _ _ ?_; rotate_left; omega) | with_reducible refine Ext.trans ?_ (by assumption) | with_reducible exact Past.bel _ | with_reducible refine Ext.trans ?_ (Past.bel _))))).mono ?_); rintro e w' ⟨rfl, hx⟩; (first | (obtain ⟨wx, rfl⟩ := Past.again hx) | (obtain ⟨wx, rfl⟩ := Past.ofd hx) | (obtain ⟨wx, rfl⟩ := Past.of hx))))
    go_ret2
    exact fu_nil (by repeat (first | with_reducible exact Ext.refl _ | with_reducible assumption | with_reducible refine Ext.alloc ?_ _ | with_reducible refine Ext.drew ?_ | (with_reducible refine Ext.setAt ?_ _ _ _ ?_; rotate_left; omega) | with_reducible refine Ext.trans ?_ (by assumption) | with_reducible exact Past.bel _ | with_reducible refine Ext.trans ?_ (Past.bel _))) (by rw [fuG, h1]; rfl) (by rw [fuC, h1]; rfl)
  · have B := Lib.hid (spV_b h1)
    have hn1 : 1 ≤ n := by have := B.out.n2; omega
    cases h2 : inS n wd f
    · go_enter Try.func27, Try.ntmps27
      go_wp2_with (first | (go_at_call 49; ((with_reducible refine (l13Ok_c hn (HS.out.ext (by repeat (first | with_reducible exact Ext.refl _ | with_reducible assumption | with_reducible refine Ext.alloc ?_ _ | with_reducible refine Ext.drew ?_ | (with_reducible refine Ext.setAt ?_ _ _ _ ?_; rotate_left; omega) | with_reducible refine Ext.trans ?_ (by assumption) | with_reducible exact Past.bel _ | with_reducible refine Ext.trans ?_ (Past.bel _))))).mono ?_); rintro e w' ⟨rfl, hx⟩; (first | (obtain ⟨wx, rfl⟩ := Past.again hx) | (obtain ⟨wx, rfl⟩ := Past.ofd hx) | (obtain ⟨wx, rfl⟩ := Past.of hx)))) | (go_at_call 50; ((with_reducible refine (l13In_c hn1 hn (HS.out.ext (by repeat (first | with_reducible exact Ext.refl _ | with_reducible assumption | with_reducible refine Ext.alloc ?_ _ | with_reducible refine Ext.drew ?_ | (with_reducible refine Ext.setAt ?_ _ _ _ ?_; rotate_left; omega) | with_reducible refine Ext.trans ?_ (by assumption) | with_reducible exact Past.bel _ | with_reducible refine Ext.trans ?_ (Past.bel _)))) _).mono ?_); rintro e w' ⟨rfl, hx⟩; (first | (obtain ⟨wx, rfl⟩ := Past.again hx) | (obtain ⟨wx, rfl⟩ := Past.ofd hx) | (obtain ⟨wx, rfl⟩ := Past.of hx)))))
      go_ret2
      exact fu_nil (by repeat (first | with_reducible exact Ext.refl _ | with_reducible assumption | with_reducible refine Ext.alloc ?_ _ | with_reducible refine Ext.drew ?_ | (with_reducible refine Ext.setAt ?_ _ _ _ ?_; rotate_left; omega) | with_reducible refine Ext.trans ?_ (by assumption) | with_reducible exact Past.bel _ | with_reducible refine Ext.trans ?_ (Past.bel _))) (by rw [fuG, fuB, h1, h2]; rfl) (by rw [fuC, fuB, h1, h2]; rfl)
    · cases h3 : inS n wd t
      · go_enter Try.func27, Try.ntmps27
        go_wp2_with (first | (go_at_call 49; ((with_reducible refine (l13Ok_c hn (HS.out.ext (by repeat (first | with_reducible exact Ext.refl _ | with_reducible assumption | with_reducible refine Ext.alloc ?_ _ | with_reducible refine Ext.drew ?_ | (with_reducible refine Ext.setAt ?_ _ _ _ ?_; rotate_left; omega) | with_reducible refine Ext.trans ?_ (by assumption) | with_reducible exact Past.bel _ | with_reducible refine Ext.trans ?_ (Past.bel _))))).mono ?_); rintro e w' ⟨rfl, hx⟩; (first | (obtain ⟨wx, rfl⟩ := Past.again hx) | (obtain ⟨wx, rfl⟩ := Past.ofd hx) | (obtain ⟨wx, rfl⟩ := Past.of hx)))) | (go_at_call 50; ((with_reducible refine (l13In_c hn1 hn (HS.out.ext (by repeat (first | with_reducible exact Ext.refl _ | with_reducible assumption | with_reducible refine Ext.alloc ?_ _ | with_reducible refine Ext.drew ?_ | (with_reducible refine Ext.setAt ?_ _ _ _ ?_; rotate_left; omega) | with_reducible refine Ext.trans ?_ (by assumption) | with_reducible exact Past.bel _ | with_reducible refine Ext.trans ?_ (Past.bel _)))) _).mono ?_); rintro e w' ⟨rfl, hx⟩; (first | (obtain ⟨wx, rfl⟩ := Past.again hx) | (obtain ⟨wx, rfl⟩ := Past.ofd hx) | (obtain ⟨wx, rfl⟩ := Past.of hx)))))
        go_ret2
        exact fu_nil (by repeat (first | with_reducible exact Ext.refl _ | with_reducible assumption | with_reducible refine Ext.alloc ?_ _ | with_reducible refine Ext.drew ?_ | (with_reducible refine Ext.setAt ?_ _ _ _ ?_; rotate_left; omega) | with_reducible refine Ext.trans ?_ (by assumption) | with_reducible exact Past.bel _ | with_reducible refine Ext.trans ?_ (Past.bel _))) (by rw [fuG, fuB, h1, h2, h3]; rfl) (by rw [fuC, fuB, h1, h2, h3]; rfl)
      · by_cases h4 : f ≤ t
        · cases h5 : inB st 1 2000
          · go_enter Try.func27, Try.ntmps27
            go_wp2_with (first | (go_at_call 49; ((with_reducible refine (l13Ok_c hn (HS.out.ext (by repeat (first | with_reducible exact Ext.refl _ | with_reducible assumption | with_reducible refine Ext.alloc ?_ _ | with_reducible refine Ext.drew ?_ | (with_reducible refine Ext.setAt ?_ _ _ _ ?_; rotate_left; omega) | with_reducible refine Ext.trans ?_ (by assumption) | with_reducible exact Past.bel _ | with_reducible refine Ext.trans ?_ (Past.bel _))))).mono ?_); rintro e w' ⟨rfl, hx⟩; (first | (obtain ⟨wx, rfl⟩ := Past.again hx) | (obtain ⟨wx, rfl⟩ := Past.ofd hx) | (obtain ⟨wx, rfl⟩ := Past.of hx)))) | (go_at_call 50; ((with_reducible refine (l13In_c hn1 hn (HS.out.ext (by repeat (first | with_reducible exact Ext.refl _ | with_reducible assumption | with_reducible refine Ext.alloc ?_ _ | with_reducible refine Ext.drew ?_ | (with_reducible refine Ext.setAt ?_ _ _ _ ?_; rotate_left; omega) | with_reducible refine Ext.trans ?_ (by assumption) | with_reducible exact Past.bel _ | with_reducible refine Ext.trans ?_ (Past.bel _)))) _).mono ?_); rintro e w' ⟨rfl, hx⟩; (first | (obtain ⟨wx, rfl⟩ := Past.again hx) | (obtain ⟨wx, rfl⟩ := Past.ofd hx) | (obtain ⟨wx, rfl⟩ := Past.of hx)))) | (go_at_call 57; ((with_reducible refine (l00In_c _ _ _ _).mono ?_); rintro e w' ⟨rfl, rfl⟩)))
            go_ret2
            exact fu_nil (by repeat (first | with_reducible exact Ext.refl _ | with_reducible assumption | with_reducible refine Ext.alloc ?_ _ | with_reducible refine Ext.drew ?_ | (with_reducible refine Ext.setAt ?_ _ _ _ ?_; rotate_left; omega) | with_reducible refine Ext.trans ?_ (by assumption) | with_reducible exact Past.bel _ | with_reducible refine Ext.trans ?_ (Past.bel _))) (by rw [fuG, fuB, h1, h2, h3, h5, decide_eq_true h4]; rfl) (by rw [fuC, fuB, h1, h2, h3, h5, decide_eq_true h4]; rfl)
          · cases h6 : inB mo 0 1000000000
            · go_enter Try.func27, Try.ntmps27
              go_wp2_with (first | (go_at_call 49; ((with_reducible refine (l13Ok_c hn (HS.out.ext (by repeat (first | with_reducible exact Ext.refl _ | with_reducible assumption | with_reducible refine Ext.alloc ?_ _ | with_reducible refine Ext.drew ?_ | (with_reducible refine Ext.setAt ?_ _ _ _ ?_; rotate_left; omega) | with_reducible refine Ext.trans ?_ (by assumption) | with_reducible exact Past.bel _ | with_reducible refine Ext.trans ?_ (Past.bel _))))).mono ?_); rintro e w' ⟨rfl, hx⟩; (first | (obtain ⟨wx, rfl⟩ := Past.again hx) | (obtain ⟨wx, rfl⟩ := Past.ofd hx) | (obtain ⟨wx, rfl⟩ := Past.of hx)))) | (go_at_call 50; ((with_reducible refine (l13In_c hn1 hn (HS.out.ext (by repeat (first | with_reducible exact Ext.refl _ | with_reducible assumption | with_reducible refine Ext.alloc ?_ _ | with_reducible refine Ext.drew ?_ | (with_reducible refine Ext.setAt ?_ _ _ _ ?_; rotate_left; omega) | with_reducible refine Ext.trans ?_ (by assumption) | with_reducible exact Past.bel _ | with_reducible refine Ext.trans ?_ (Past.bel _)))) _).mono ?_); rintro e w' ⟨rfl, hx⟩; (first | (obtain ⟨wx, rfl⟩ := Past.again hx) | (obtain ⟨wx, rfl⟩ := Past.ofd hx) | (obtain ⟨wx, rfl⟩ := Past.of hx)))) | (go_at_call 57; ((with_reducible refine (l00In_c _ _ _ _).mono ?_); rintro e w' ⟨rfl, rfl⟩)))
              go_ret2
              exact fu_nil (by repeat (first | with_reducible exact Ext.refl _ | with_reducible assumption | with_reducible refine Ext.alloc ?_ _ | with_reducible refine Ext.drew ?_ | (with_reducible refine Ext.setAt ?_ _ _ _ ?_; rotate_left; omega) | with_reducible refine Ext.trans ?_ (by assumption) | with_reducible exact Past.bel _ | with_reducible refine Ext.trans ?_ (Past.bel _))) (by rw [fuG, fuB, h1, h2, h3, h5, h6, decide_eq_true h4]; rfl) (by rw [fuC, fuB, h1, h2, h3, h5, h6, decide_eq_true h4]; rfl)
            · have H2 := Lib.hid h2
              have H3 := Lib.hid h3
              have hB := fuB_nn h2 h3 h4 h5 h6
              have HB := Lib.hid hB
              have hst := inB_t.1 h5
              have hmo := inB_t.1 h6
              have pf := B.out.pull h2
              have PF0 : ∀ j : Nat, j < fuN f t st → inS n wd (f + (j : Int) * st) = true ∧ pullF wd pl f ≤ pullF wd pl (f + (j : Int) * st) := fun j hj => by
                have q1 := fuN_in h4 hst.1 hj
                have q2 := inB_t.1 h2
                have q3 := inB_t.1 h3
                have q4 : inS n wd (f + (j : Int) * st) = true := inB_t.2 ⟨by omega, by omega⟩
                exact ⟨q4, B.out.mono h2 q4 q1.1⟩
              have HPF := Lib.hid PF0
              obtain ⟨P, hP⟩ : ∃ P, P = pullF wd pl f := ⟨_, rfl⟩
              have H1 := Lib.hid h1
              have hPA : ∀ W, Ext w W → Calls Try.prog 51 #[.agg #[.slice a n c], .int .i64 f] W fun e w' => e = .returned (.int .i64 P) ∧ Ext W w' := fun W hq => by rw [hP]; exact l13At_c B.out (HS.out.ext hq) H2.out
              have HPA := Lib.hid hPA
              have HP := Lib.hid hP
              rw [← hP] at pf
              clear hPA PF0 hB
              by_cases h7 : P = 0
              · subst h7
                clear hP
                go_enter Try.func27, Try.ntmps27
                go_wp2_with (first | (go_at_call 49; ((with_reducible refine (l13Ok_c hn (HS.out.ext (by repeat (first | with_reducible exact Ext.refl _ | with_reducible assumption | with_reducible refine Ext.alloc ?_ _ | with_reducible refine Ext.drew ?_ | (with_reducible refine Ext.setAt ?_ _ _ _ ?_; rotate_left; omega) | with_reducible refine Ext.trans ?_ (by assumption) | with_reducible exact Past.bel _ | with_reducible refine Ext.trans ?_ (Past.bel _))))).mono ?_); rintro e w' ⟨rfl, hx⟩; (first | (obtain ⟨wx, rfl⟩ := Past.again hx) | (obtain ⟨wx, rfl⟩ := Past.ofd hx) | (obtain ⟨wx, rfl⟩ := Past.of hx)))) | (go_at_call 50; ((with_reducible refine (l13In_c hn1 hn (HS.out.ext (by repeat (first | with_reducible exact Ext.refl _ | with_reducible assumption | with_reducible refine Ext.alloc ?_ _ | with_reducible refine Ext.drew ?_ | (with_reducible refine Ext.setAt ?_ _ _ _ ?_; rotate_left; omega) | with_reducible refine Ext.trans ?_ (by assumption) | with_reducible exact Past.bel _ | with_reducible refine Ext.trans ?_ (Past.bel _)))) _).mono ?_); rintro e w' ⟨rfl, hx⟩; (first | (obtain ⟨wx, rfl⟩ := Past.again hx) | (obtain ⟨wx, rfl⟩ := Past.ofd hx) | (obtain ⟨wx, rfl⟩ := Past.of hx)))) | (go_at_call 57; ((with_reducible refine (l00In_c _ _ _ _).mono ?_); rintro e w' ⟨rfl, rfl⟩)) | (go_at_call 51; ((with_reducible refine (HPA.out _ (by repeat (first | with_reducible exact Ext.refl _ | with_reducible assumption | with_reducible refine Ext.alloc ?_ _ | with_reducible refine Ext.drew ?_ | (with_reducible refine Ext.setAt ?_ _ _ _ ?_; rotate_left; omega) | with_reducible refine Ext.trans ?_ (by assumption) | with_reducible exact Past.bel _ | with_reducible refine Ext.trans ?_ (Past.bel _)))).mono ?_); rintro e w' ⟨rfl, hx⟩; (first | (obtain ⟨wx, rfl⟩ := Past.again hx) | (obtain ⟨wx, rfl⟩ := Past.ofd hx) | (obtain ⟨wx, rfl⟩ := Past.of hx)))))
                go_ret2
                exact fu_nil (by repeat (first | with_reducible exact Ext.refl _ | with_reducible assumption | with_reducible refine Ext.alloc ?_ _ | with_reducible refine Ext.drew ?_ | (with_reducible refine Ext.setAt ?_ _ _ _ ?_; rotate_left; omega) | with_reducible refine Ext.trans ?_ (by assumption) | with_reducible exact Past.bel _ | with_reducible refine Ext.trans ?_ (Past.bel _))) (by rw [fuG, H1.out, HB.out, ← HP.out]; rfl) (by rw [fuC, H1.out, HB.out, ← HP.out]; rfl)
              · have h7' : (P == 0) = false := by simpa using h7
                have hg : fuG n wd pl f t st mo = true := by rw [fuG, H1.out, HB.out, ← HP.out, h7']; rfl
                have hc : fuC n wd pl f t st mo = 0 := by rw [fuC, H1.out, HB.out, ← HP.out, h7']; rfl
                have hr : fuRes n wd pl f t st mo = outs (fuF wd pl f st mo) (fuN f t st) := by rw [fuRes, hg]; rfl
                have hf := B.out.inS h2
                have ht := B.out.inS h3
                have hN := fuN_le h4 hst.1
                have HO := Lib.hid (fuN_out h4 hst.1)
                have HI := Lib.hid (fun (j : Nat) (hj : j < fuN f t st) => fuN_in h4 hst.1 hj)
                have HC := Lib.hid hc
                have HR := Lib.hid hr
                obtain ⟨N, hNe⟩ : ∃ N, N = fuN f t st := ⟨_, rfl⟩
                rw [← hNe] at HO HI HPF HR hN
                have P1 : 1 ≤ P := by omega
                clear hg hc hr hP h7 hNe
                obtain ⟨i0, hi, hz0, hz1, hz2⟩ := info_parts info_i64
                go_enter Try.func27, Try.ntmps27
                go_wp2_with (first | (go_at_call 49; ((with_reducible refine (l13Ok_c hn (HS.out.ext (by repeat (first | with_reducible exact Ext.refl _ | with_reducible assumption | with_reducible refine Ext.alloc ?_ _ | with_reducible refine Ext.drew ?_ | (with_reducible refine Ext.setAt ?_ _ _ _ ?_; rotate_left; omega) | with_reducible refine Ext.trans ?_ (by assumption) | with_reducible exact Past.bel _ | with_reducible refine Ext.trans ?_ (Past.bel _))))).mono ?_); rintro e w' ⟨rfl, hx⟩; (first | (obtain ⟨wx, rfl⟩ := Past.again hx) | (obtain ⟨wx, rfl⟩ := Past.ofd hx) | (obtain ⟨wx, rfl⟩ := Past.of hx)))) | (go_at_call 50; ((with_reducible refine (l13In_c hn1 hn (HS.out.ext (by repeat (first | with_reducible exact Ext.refl _ | with_reducible assumption | with_reducible refine Ext.alloc ?_ _ | with_reducible refine Ext.drew ?_ | (with_reducible refine Ext.setAt ?_ _ _ _ ?_; rotate_left; omega) | with_reducible refine Ext.trans ?_ (by assumption) | with_reducible exact Past.bel _ | with_reducible refine Ext.trans ?_ (Past.bel _)))) _).mono ?_); rintro e w' ⟨rfl, hx⟩; (first | (obtain ⟨wx, rfl⟩ := Past.again hx) | (obtain ⟨wx, rfl⟩ := Past.ofd hx) | (obtain ⟨wx, rfl⟩ := Past.of hx)))) | (go_at_call 57; ((with_reducible refine (l00In_c _ _ _ _).mono ?_); rintro e w' ⟨rfl, rfl⟩)) | (go_at_call 51; ((with_reducible refine (HPA.out _ (by repeat (first | with_reducible exact Ext.refl _ | with_reducible assumption | with_reducible refine Ext.alloc ?_ _ | with_reducible refine Ext.drew ?_ | (with_reducible refine Ext.setAt ?_ _ _ _ ?_; rotate_left; omega) | with_reducible refine Ext.trans ?_ (by assumption) | with_reducible exact Past.bel _ | with_reducible refine Ext.trans ?_ (Past.bel _)))).mono ?_); rintro e w' ⟨rfl, hx⟩; (first | (obtain ⟨wx, rfl⟩ := Past.again hx) | (obtain ⟨wx, rfl⟩ := Past.ofd hx) | (obtain ⟨wx, rfl⟩ := Past.of hx)))))
                clear h2 h3 h5 h6 HPA HB h4
                go_loopw [12, 13] (fun v i wr => ∃ (j : Nat) (T : Int), j ≤ N ∧ T = f + (j : Int) * st ∧ i = .int .i64 T ∧ Ext (w.alloc (.cells #[.slice a n c] 26)) wr ∧ wr.ownsRow (w.alloc (.cells #[.slice a n c] 26)).heap.size 2 1 v j ((outs (fuF wd pl f st mo) j).map (Value.int .i64))) (fun _ i _ => (t + 1 - intOf i).toNat)
                case atStart => exact ⟨0, f, by omega, by simp, rfl, (by repeat (first | with_reducible exact Ext.refl _ | with_reducible assumption | with_reducible refine Ext.alloc ?_ _ | with_reducible refine Ext.drew ?_ | (with_reducible refine Ext.setAt ?_ _ _ _ ?_; rotate_left; omega) | with_reducible refine Ext.trans ?_ (by assumption) | with_reducible exact Past.bel _ | with_reducible refine Ext.trans ?_ (Past.bel _))), World.ownsRow_made _ #[] 0 (Ext.size (by repeat (first | with_reducible exact Ext.refl _ | with_reducible assumption | with_reducible refine Ext.alloc ?_ _ | with_reducible refine Ext.drew ?_ | (with_reducible refine Ext.setAt ?_ _ _ _ ?_; rotate_left; omega) | with_reducible refine Ext.trans ?_ (by assumption) | with_reducible exact Past.bel _ | with_reducible refine Ext.trans ?_ (Past.bel _)))) (Nat.zero_le _) rfl⟩
                case round =>
                  obtain ⟨j, T, hj, hT, rfl, hbl, ho⟩ := hrel
                  have HT := Lib.hid hT
                  have HOW := Lib.hid ho
                  have hz := hbl.size
                  simp only [World.size_alloc] at hz
                  have hg : w.heap.size < wr.heap.size := by omega
                  have p0 : wr.cell? ⟨w.heap.size, 0, none⟩ = some (.slice a n c) := by rw [hbl.cell (by simp)]; simp [go_sem]
                  have hxw : Ext w wr := Ext.trans (by repeat (first | with_reducible exact Ext.refl _ | with_reducible assumption | with_reducible refine Ext.alloc ?_ _ | with_reducible refine Ext.drew ?_ | (with_reducible refine Ext.setAt ?_ _ _ _ ?_; rotate_left; omega) | with_reducible refine Ext.trans ?_ (by assumption) | with_reducible exact Past.bel _ | with_reducible refine Ext.trans ?_ (Past.bel _))) hbl
                  clear ho
                  by_cases hlt : j < N
                  · have q0 := HI.out j hlt
                    have q1 := HPF.out j hlt
                    rw [← hT] at q0 q1
                    have I1 := Lib.hid q1.1
                    have q2 := B.out.pull q1.1
                    obtain ⟨u0, u1⟩ := q0
                    have u2 : 0 ≤ T := by omega
                    have u3 : T ≤ 2000 := by omega
                    obtain ⟨R, hR⟩ : ∃ R, R = pullF wd pl T := ⟨_, rfl⟩
                    have q3 := q1.2
                    rw [← hR] at q2 q3
                    have r1 : 1 ≤ R := by have := HP.out; omega
                    obtain ⟨r0, r2⟩ := q2
                    have hF : nearD mo R = fuF wd pl f st mo j := by rw [fuF, hR, hT]
                    have HF := Lib.hid hF
                    have HA := Lib.hid (fun W (hq : Ext w W) => (hR ▸ l13At_c B.out (HS.out.ext hq) I1.out : Calls Try.prog 51 #[.agg #[.slice a n c], .int .i64 T] W fun e w' => e = .returned (.int .i64 R) ∧ Ext W w'))
                    have HD := Lib.hid (fun W => (hF ▸ l02Near_c mo R W (by omega) (by omega) (by omega) (by omega) : Calls Try.prog 63 #[.int .i64 mo, .int .i64 R] W fun e w' => e = .returned (.int .i64 (fuF wd pl f st mo j)) ∧ W = w'))
                    have SK' := Lib.hid (fun (w' : World) (hq : Ext wr w') => (show w'.cell? ⟨w.heap.size, 0, none⟩ = some (.slice a n c) from by rw [hq.cell hg]; exact p0))
                    have x5 : IntKind.i64.wrap (T + st) = T + st := IntWalk.i64_in _ (by omega)
                    clear hR hF hT q1 q3
                    go_wp2_with (first | (go_at_call 51; ((with_reducible refine (HA.out _ (by repeat (first | with_reducible exact Ext.refl _ | with_reducible assumption | with_reducible refine Ext.alloc ?_ _ | with_reducible refine Ext.drew ?_ | (with_reducible refine Ext.setAt ?_ _ _ _ ?_; rotate_left; omega) | with_reducible refine Ext.trans ?_ (by assumption) | with_reducible exact Past.bel _ | with_reducible refine Ext.trans ?_ (Past.bel _)))).mono ?_); rintro e w' ⟨rfl, hx⟩; (first | (obtain ⟨wx, rfl⟩ := Past.again hx) | (obtain ⟨wx, rfl⟩ := Past.ofd hx) | (obtain ⟨wx, rfl⟩ := Past.of hx)))) | (go_at_call 63; ((with_reducible refine (HD.out _).mono ?_); rintro e w' ⟨rfl, rfl⟩)) | (at_builtin; refine app1 (w0 := w.alloc (.cells #[.slice a n c] 26)) 52 2 _ _ rfl rfl Try.underlying52 info_i64 _ (outs (fuF wd pl f st mo) j) (fuF wd pl f st mo j) _ rfl rfl (own_ext (outs_own HOW.out) (by repeat (first | with_reducible exact Ext.refl _ | with_reducible assumption | with_reducible refine Ext.alloc ?_ _ | with_reducible refine Ext.drew ?_ | (with_reducible refine Ext.setAt ?_ _ _ _ ?_; rotate_left; omega) | with_reducible refine Ext.trans ?_ (by assumption) | with_reducible exact Past.bel _ | with_reducible refine Ext.trans ?_ (Past.bel _)))) (by simp [go_sem]) (by rw [outs_len]; omega) (by repeat (first | with_reducible exact Ext.refl _ | with_reducible assumption | with_reducible refine Ext.alloc ?_ _ | with_reducible refine Ext.drew ?_ | (with_reducible refine Ext.setAt ?_ _ _ _ ?_; rotate_left; omega) | with_reducible refine Ext.trans ?_ (by assumption) | with_reducible exact Past.bel _ | with_reducible refine Ext.trans ?_ (Past.bel _))) ?_; intro v1 w1 ho1 hx1))
                    exact ⟨⟨j + 1, T + st, by omega, by rw [HT.out]; grind, by go_num, (by repeat (first | with_reducible exact Ext.refl _ | with_reducible assumption | with_reducible refine Ext.alloc ?_ _ | with_reducible refine Ext.drew ?_ | (with_reducible refine Ext.setAt ?_ _ _ _ ?_; rotate_left; omega) | with_reducible refine Ext.trans ?_ (by assumption) | with_reducible exact Past.bel _ | with_reducible refine Ext.trans ?_ (Past.bel _))), by rw [← outs_step]; simpa [outs_len] using ho1⟩, by simp [intOf]; omega⟩
                  · have hl : j = N := by omega
                    subst hl
                    have u1 : t < T := by have := HO.out; rw [hT]; exact this
                    obtain ⟨b, cap, rfl⟩ := own_form HOW.out
                    clear hT
                    go_wp2_with fail
                    go_ret2
                    exact ⟨b, cap, ret_two (by simp [HR.out, outs_len]) (congrArg _ HC.out.symm), (by repeat (first | with_reducible exact Ext.refl _ | with_reducible assumption | with_reducible refine Ext.alloc ?_ _ | with_reducible refine Ext.drew ?_ | (with_reducible refine Ext.setAt ?_ _ _ _ ?_; rotate_left; omega) | with_reducible refine Ext.trans ?_ (by assumption) | with_reducible exact Past.bel _ | with_reducible refine Ext.trans ?_ (Past.bel _))), by rw [HR.out]; exact own_base (by simpa [outs_len] using HOW.out) (by simp)⟩
        · have h5 : t < f := by omega
          go_enter Try.func27, Try.ntmps27
          go_wp2_with (first | (go_at_call 49; ((with_reducible refine (l13Ok_c hn (HS.out.ext (by repeat (first | with_reducible exact Ext.refl _ | with_reducible assumption | with_reducible refine Ext.alloc ?_ _ | with_reducible refine Ext.drew ?_ | (with_reducible refine Ext.setAt ?_ _ _ _ ?_; rotate_left; omega) | with_reducible refine Ext.trans ?_ (by assumption) | with_reducible exact Past.bel _ | with_reducible refine Ext.trans ?_ (Past.bel _))))).mono ?_); rintro e w' ⟨rfl, hx⟩; (first | (obtain ⟨wx, rfl⟩ := Past.again hx) | (obtain ⟨wx, rfl⟩ := Past.ofd hx) | (obtain ⟨wx, rfl⟩ := Past.of hx)))) | (go_at_call 50; ((with_reducible refine (l13In_c hn1 hn (HS.out.ext (by repeat (first | with_reducible exact Ext.refl _ | with_reducible assumption | with_reducible refine Ext.alloc ?_ _ | with_reducible refine Ext.drew ?_ | (with_reducible refine Ext.setAt ?_ _ _ _ ?_; rotate_left; omega) | with_reducible refine Ext.trans ?_ (by assumption) | with_reducible exact Past.bel _ | with_reducible refine Ext.trans ?_ (Past.bel _)))) _).mono ?_); rintro e w' ⟨rfl, hx⟩; (first | (obtain ⟨wx, rfl⟩ := Past.again hx) | (obtain ⟨wx, rfl⟩ := Past.ofd hx) | (obtain ⟨wx, rfl⟩ := Past.of hx)))))
          go_ret2
          exact fu_nil (by repeat (first | with_reducible exact Ext.refl _ | with_reducible assumption | with_reducible refine Ext.alloc ?_ _ | with_reducible refine Ext.drew ?_ | (with_reducible refine Ext.setAt ?_ _ _ _ ?_; rotate_left; omega) | with_reducible refine Ext.trans ?_ (by assumption) | with_reducible exact Past.bel _ | with_reducible refine Ext.trans ?_ (Past.bel _))) (by rw [fuG, fuB, h1, h2, h3, decide_eq_false (show ¬ f ≤ t by omega)]; rfl) (by rw [fuC, fuB, h1, h2, h3, decide_eq_false (show ¬ f ≤ t by omega)]; rfl)
end
end Go.Proofs.Ytglcjnplmhelhaa

namespace Go.Proofs.Ytglcjnplmhelhaa
open Go.RowKit
set_option linter.unusedVariables false
set_option linter.unusedSimpArgs false

theorem specValidSpring_c {a : Option Addr} {n c : Nat} {wd pl : Nat → Int} {w : World} (hn : n ≤ 1048576) (hs : S2 w a n wd pl) :
    Calls Try.prog 14 #[.agg #[.slice a n c]] w fun e w' => e = .returned (.bool (spV n wd pl)) ∧ Ext w w' := by
  have HS := Lib.hid hs
  clear hs
  go_enter Try.func14, Try.ntmps14
  go_wp2_with (go_at_call 49; ((with_reducible refine (l13Ok_c hn (HS.out.ext (by repeat (first | with_reducible exact Ext.refl _ | with_reducible assumption | with_reducible refine Ext.alloc ?_ _ | with_reducible refine Ext.drew ?_ | (with_reducible refine Ext.setAt ?_ _ _ _ ?_; rotate_left; omega) | with_reducible refine Ext.trans ?_ (by assumption) | with_reducible exact Past.bel _ | with_reducible refine Ext.trans ?_ (Past.bel _))))).mono ?_); rintro e w' ⟨rfl, hx⟩; (first | (obtain ⟨wx, rfl⟩ := Past.again hx) | (obtain ⟨wx, rfl⟩ := Past.ofd hx) | (obtain ⟨wx, rfl⟩ := Past.of hx))))
  go_ret
  exact ⟨rfl, (by repeat (first | with_reducible exact Ext.refl _ | with_reducible assumption | with_reducible refine Ext.alloc ?_ _ | with_reducible refine Ext.drew ?_ | (with_reducible refine Ext.setAt ?_ _ _ _ ?_; rotate_left; omega) | with_reducible refine Ext.trans ?_ (by assumption) | with_reducible exact Past.bel _ | with_reducible refine Ext.trans ?_ (Past.bel _)))⟩
theorem paV_ok {n : Nat} {wd pl : Nat → Int} {t : Int} (h1 : spV n wd pl = true) (h2 : inS n wd t = true) : paV n wd pl t = pullF wd pl t ∧ paC n wd pl t = 0 := by rw [paV, paC, h1, h2]; exact ⟨rfl, rfl⟩
theorem paV_no {n : Nat} {wd pl : Nat → Int} {t : Int} (h : ¬ (spV n wd pl = true ∧ inS n wd t = true)) : paC n wd pl t ≠ 0 := by
  rw [paC]
  split
  · split
    · exact absurd ⟨by assumption, by assumption⟩ h
    · decide
  · decide
set_option maxHeartbeats 4000000 in
theorem walkPulls (a : Option Addr) (n c : Nat) (f : Nat → Nat) (hm : n ≤ maxLen) (w : World) (hs : U8 w a n f) (hl : ∀ j, j < n → f j ≤ 255) :
    Calls Try.prog 3 #[.slice a n c] w fun e w' => e = .returned (.bool true) ∧ Ext w w' := by
  by_cases hn : n ≤ 4096
  · have e1 : decide (4096 < n) = false := decide_eq_false (by omega)
    go_enter Try.func3, Try.ntmps3
    go_wp2_with (go_at_call 9; ((with_reducible refine (f6big_c _ _ _ _).mono ?_); rintro e w' ⟨rfl, rfl⟩))
    refine (drawPullAt_c a n c f w (by omega) hs hl).mono ?_
    rintro e w2 ⟨a', n', c', wd, pl, x, rfl, h2⟩
    have hn' : n' ≤ 1048576 := by have := h2.n21; omega
    have HS := Lib.hid (h2.s2.ext (show Ext w2 (w2.alloc (.cells #[.slice a' n' c'] 26)) from (by repeat (first | with_reducible exact Ext.refl _ | with_reducible assumption | with_reducible refine Ext.alloc ?_ _ | with_reducible refine Ext.drew ?_ | (with_reducible refine Ext.setAt ?_ _ _ _ ?_; rotate_left; omega) | with_reducible refine Ext.trans ?_ (by assumption) | with_reducible exact Past.bel _ | with_reducible refine Ext.trans ?_ (Past.bel _)))))
    have hxw : Ext w (w2.alloc (.cells #[.slice a' n' c'] 26)) := Ext.trans h2.ext (by repeat (first | with_reducible exact Ext.refl _ | with_reducible assumption | with_reducible refine Ext.alloc ?_ _ | with_reducible refine Ext.drew ?_ | (with_reducible refine Ext.setAt ?_ _ _ _ ?_; rotate_left; omega) | with_reducible refine Ext.trans ?_ (by assumption) | with_reducible exact Past.bel _ | with_reducible refine Ext.trans ?_ (Past.bel _)))
    obtain ⟨V, hV⟩ : ∃ V, V = paV n' wd pl x := ⟨_, rfl⟩
    obtain ⟨C, hC⟩ : ∃ C, C = paC n' wd pl x := ⟨_, rfl⟩
    have HV := Lib.hid (And.intro hV hC)
    have HI := Lib.hid (fun (W : World) (hq : Ext (w2.alloc (.cells #[.slice a' n' c'] 26)) W) => (show Calls Try.prog 11 #[.agg #[.slice a' n' c'], .int .i64 x] W (fun e w' => e = .returned (.tuple #[.int .i64 V, .int .i64 C]) ∧ Ext W w') from by rw [hV, hC]; exact implPullAt_c hn' (HS.out.ext hq) x))
    have HJ := Lib.hid (fun (W : World) (hq : Ext (w2.alloc (.cells #[.slice a' n' c'] 26)) W) => (show Calls Try.prog 12 #[.agg #[.slice a' n' c'], .int .i64 x] W (fun e w' => e = .returned (.tuple #[.int .i64 V, .int .i64 C]) ∧ Ext W w') from by rw [hV, hC]; exact specPullAt_c hn' (HS.out.ext hq) x))
    have k0 : (w2.alloc (.cells #[.slice a' n' c'] 26)).cell? ⟨w2.heap.size, 0, none⟩ = some (.slice a' n' c') := by simp [go_sem]
    have HK := Lib.hid (fun (w' : World) (hq : Ext (w2.alloc (.cells #[.slice a' n' c'] 26)) w') => (show w'.cell? ⟨w2.heap.size, 0, none⟩ = some (.slice a' n' c') from by rw [hq.cell (by simp)]; exact k0))
    have hz2 : w2.heap.size < (w2.alloc (.cells #[.slice a' n' c'] 26)).heap.size := by simp
    clear hV hC h2 k0
    have c1 : (C != C) = false := by simp
    have c2 : (V != V) = false := by simp
    obtain ⟨B, hB⟩ : ∃ B, B = spV n' wd pl := ⟨_, rfl⟩
    have HB := Lib.hid hB
    have HVI := Lib.hid (fun (W : World) (hq : Ext (w2.alloc (.cells #[.slice a' n' c'] 26)) W) => (show Calls Try.prog 13 #[.agg #[.slice a' n' c']] W (fun e w' => e = .returned (.bool B) ∧ Ext W w') from by rw [hB]; exact validSpring_c hn' (HS.out.ext hq)))
    have HVS := Lib.hid (fun (W : World) (hq : Ext (w2.alloc (.cells #[.slice a' n' c'] 26)) W) => (show Calls Try.prog 14 #[.agg #[.slice a' n' c']] W (fun e w' => e = .returned (.bool B) ∧ Ext W w') from by rw [hB]; exact specValidSpring_c hn' (HS.out.ext hq)))
    have c3 : (B != B) = false := by simp
    clear hB
    go_wp2_with (first | (go_at_call 11; ((with_reducible refine (HI.out _ (by repeat (first | with_reducible exact Ext.refl _ | with_reducible assumption | with_reducible refine Ext.alloc ?_ _ | with_reducible refine Ext.drew ?_ | (with_reducible refine Ext.setAt ?_ _ _ _ ?_; rotate_left; omega) | with_reducible refine Ext.trans ?_ (by assumption) | with_reducible exact Past.bel _ | with_reducible refine Ext.trans ?_ (Past.bel _)))).mono ?_); rintro e w' ⟨rfl, hx⟩; (first | (obtain ⟨wx, rfl⟩ := Past.again hx) | (obtain ⟨wx, rfl⟩ := Past.ofd hx) | (obtain ⟨wx, rfl⟩ := Past.of hx)))) | (go_at_call 12; ((with_reducible refine (HJ.out _ (by repeat (first | with_reducible exact Ext.refl _ | with_reducible assumption | with_reducible refine Ext.alloc ?_ _ | with_reducible refine Ext.drew ?_ | (with_reducible refine Ext.setAt ?_ _ _ _ ?_; rotate_left; omega) | with_reducible refine Ext.trans ?_ (by assumption) | with_reducible exact Past.bel _ | with_reducible refine Ext.trans ?_ (Past.bel _)))).mono ?_); rintro e w' ⟨rfl, hx⟩; (first | (obtain ⟨wx, rfl⟩ := Past.again hx) | (obtain ⟨wx, rfl⟩ := Past.ofd hx) | (obtain ⟨wx, rfl⟩ := Past.of hx)))))
    refine wp_region_past (by kernel_rfl) (by kernel_rfl) ?_
    repeat (go_big_quiet_step (first | (go_at_call 13; exact Calls.past (HVI.out _ (by repeat (first | with_reducible exact Ext.refl _ | with_reducible assumption | with_reducible refine Ext.alloc ?_ _ | with_reducible refine Ext.drew ?_ | (with_reducible refine Ext.setAt ?_ _ _ _ ?_; rotate_left; omega) | with_reducible refine Ext.trans ?_ (by assumption) | with_reducible exact Past.bel _ | with_reducible refine Ext.trans ?_ (Past.bel _))))) | (go_at_call 14; exact Calls.past (HVS.out _ (by repeat (first | with_reducible exact Ext.refl _ | with_reducible assumption | with_reducible refine Ext.alloc ?_ _ | with_reducible refine Ext.drew ?_ | (with_reducible refine Ext.setAt ?_ _ _ _ ?_; rotate_left; omega) | with_reducible refine Ext.trans ?_ (by assumption) | with_reducible exact Past.bel _ | with_reducible refine Ext.trans ?_ (Past.bel _)))))))
    refine wpQuiet_nil ?_
    rintro _ ⟨wx, rfl⟩
    clear HJ HVI HVS
    by_cases c4 : C = 0
    · have hq : spV n' wd pl = true ∧ inS n' wd x = true := Classical.byContradiction fun h => paV_no h (HV.out.2.symm.trans c4)
      obtain ⟨q1, q2⟩ := hq
      have b := spV_b q1
      have qv := HV.out.1.trans (paV_ok q1 q2).1
      have xb := b.inS q2
      have e2 : IntKind.i64.wrap (x + 1) = x + 1 := IntWalk.i64_in _ (by omega)
      have MO := Lib.hid (fun (y : Int) (hy : inS n' wd y = true) (hxy : x ≤ y) => (show V ≤ pullF wd pl y from by rw [qv]; exact b.mono q2 hy hxy))
      have MU := Lib.hid (fun (y : Int) (hy : inS n' wd y = true) (hxy : y ≤ x) => (show pullF wd pl y ≤ V from by rw [qv]; exact b.mono hy q2 hxy))
      have HP := Lib.hid (fun (i : Nat) (hi : i < n') => (show paV n' wd pl (wd i) = pl i ∧ paC n' wd pl (wd i) = 0 ∧ (wd i ≤ x → pl i ≤ V) from by
        obtain ⟨r1, r2⟩ := paV_ok q1 (b.inW hi)
        exact ⟨r1.trans (b.bend hi), r2, fun h => by have := MU.out _ (b.inW hi) h; rw [b.bend hi] at this; exact this⟩))
      obtain ⟨V2, hV2⟩ : ∃ V2, V2 = paV n' wd pl (x + 1) := ⟨_, rfl⟩
      obtain ⟨C2, hC2⟩ : ∃ C2, C2 = paC n' wd pl (x + 1) := ⟨_, rfl⟩
      have HI2 := Lib.hid (fun (W : World) (hq : Ext (w2.alloc (.cells #[.slice a' n' c'] 26)) W) => (show Calls Try.prog 11 #[.agg #[.slice a' n' c'], .int .i64 (x + 1)] W (fun e w' => e = .returned (.tuple #[.int .i64 V2, .int .i64 C2]) ∧ Ext W w') from by rw [hV2, hC2]; exact implPullAt_c hn' (HS.out.ext hq) (x + 1)))
      have hv2 : C2 = 0 → V ≤ V2 := fun h => by
        have h3 : spV n' wd pl = true ∧ inS n' wd (x + 1) = true := Classical.byContradiction fun h4 => paV_no h4 (hC2.symm.trans h)
        rw [hV2, (paV_ok h3.1 h3.2).1]; exact MO.out _ h3.2 (by omega)
      have HV2 := Lib.hid hv2
      clear hV2 hC2 hv2 qv b q1 q2 MO MU
      subst c4
      have hx0 : Ext (w2.alloc (.cells #[.slice a' n' c'] 26)) wx.out := (by repeat (first | with_reducible exact Ext.refl _ | with_reducible assumption | with_reducible refine Ext.alloc ?_ _ | with_reducible refine Ext.drew ?_ | (with_reducible refine Ext.setAt ?_ _ _ _ ?_; rotate_left; omega) | with_reducible refine Ext.trans ?_ (by assumption) | with_reducible exact Past.bel _ | with_reducible refine Ext.trans ?_ (Past.bel _)))
      generalize wx.out = w3 at hx0 ⊢
      have p3 := HK.out w3 hx0
      have hG : (C2 = 0 ∧ ¬ V2 < V) ∨ ((C2 == 0) = false) := by
        by_cases c6 : C2 = 0
        · exact .inl ⟨c6, by have := HV2.out c6; omega⟩
        · exact .inr (by simpa using c6)
      clear HV2 HI HV HB c1 c2 c3
      rcases hG with ⟨rfl, v3⟩ | v4
      all_goals
        go_wp2_with (go_at_call 11; ((with_reducible refine (HI2.out _ (by repeat (first | with_reducible exact Ext.refl _ | with_reducible assumption | with_reducible refine Ext.alloc ?_ _ | with_reducible refine Ext.drew ?_ | (with_reducible refine Ext.setAt ?_ _ _ _ ?_; rotate_left; omega) | with_reducible refine Ext.trans ?_ (by assumption) | with_reducible exact Past.bel _ | with_reducible refine Ext.trans ?_ (Past.bel _)))).mono ?_); rintro e w' ⟨rfl, hx⟩; (first | (obtain ⟨wx, rfl⟩ := Past.again hx) | (obtain ⟨wx, rfl⟩ := Past.ofd hx) | (obtain ⟨wx, rfl⟩ := Past.of hx))))
        go_loopw [11] (fun i wr => ∃ j : Nat, j ≤ n' ∧ i = .int .i64 j ∧ Ext (w2.alloc (.cells #[.slice a' n' c'] 26)) wr) (fun i _ => n' - (intOf i).toNat)
        case atStart => exact ⟨0, by omega, rfl, (by repeat (first | with_reducible exact Ext.refl _ | with_reducible assumption | with_reducible refine Ext.alloc ?_ _ | with_reducible refine Ext.drew ?_ | (with_reducible refine Ext.setAt ?_ _ _ _ ?_; rotate_left; omega) | with_reducible refine Ext.trans ?_ (by assumption) | with_reducible exact Past.bel _ | with_reducible refine Ext.trans ?_ (Past.bel _)))⟩
        case round =>
          obtain ⟨j, hj, rfl, hbl⟩ := hrel
          have p4 := HK.out wr hbl
          have x0 : (0 : Int) ≤ (j : Int) := by omega
          have xx : Ext w wr := Ext.trans hxw hbl
          by_cases hlt : j < n'
          · obtain ⟨b1, o1, rfl, hb1, q1, q2⟩ := (HS.out.ext hbl).at hlt
            have x1 : (j : Int) < (n' : Int) := by omega
            have hzz := hbl.size
            have hzw : w2.heap.size < wr.heap.size := by omega
            obtain ⟨r1, r2, r3⟩ := HP.out j hlt
            have R3 := Lib.hid r3
            have HI3 := Lib.hid (fun (W : World) (hq : Ext (w2.alloc (.cells #[.slice (some ⟨b1, o1, none⟩) n' c'] 26)) W) => (show Calls Try.prog 11 #[.agg #[.slice (some ⟨b1, o1, none⟩) n' c'], .int .i64 (wd j)] W (fun e w' => e = .returned (.tuple #[.int .i64 (pl j), .int .i64 0]) ∧ Ext W w') from by have := implPullAt_c (c := c') hn' (HS.out.ext hq) (wd j); rw [r1, r2] at this; exact this))
            have d1 : (pl j != pl j) = false := by simp
            clear r1 r2 r3
            go_wp2_with fail
            refine wp_region_past (by kernel_rfl) (by kernel_rfl) ?_
            repeat (go_big_quiet_step ((go_at_call 11; exact Calls.past (HI3.out _ (by repeat (first | with_reducible exact Ext.refl _ | with_reducible assumption | with_reducible refine Ext.alloc ?_ _ | with_reducible refine Ext.drew ?_ | (with_reducible refine Ext.setAt ?_ _ _ _ ?_; rotate_left; omega) | with_reducible refine Ext.trans ?_ (by assumption) | with_reducible exact Past.bel _ | with_reducible refine Ext.trans ?_ (Past.bel _)))))))
            refine wpQuiet_nil ?_
            rintro _ ⟨wx, rfl⟩
            by_cases hle : wd j ≤ x
            · have v5 : ¬ V < pl j := by have := R3.out hle; omega
              go_wp2_with fail
              exact ⟨⟨j + 1, by omega, by go_num, (by repeat (first | with_reducible exact Ext.refl _ | with_reducible assumption | with_reducible refine Ext.alloc ?_ _ | with_reducible refine Ext.drew ?_ | (with_reducible refine Ext.setAt ?_ _ _ _ ?_; rotate_left; omega) | with_reducible refine Ext.trans ?_ (by assumption) | with_reducible exact Past.bel _ | with_reducible refine Ext.trans ?_ (Past.bel _)))⟩, by simp [intOf]; omega⟩
            · go_wp2_with fail
              exact ⟨⟨j + 1, by omega, by go_num, (by repeat (first | with_reducible exact Ext.refl _ | with_reducible assumption | with_reducible refine Ext.alloc ?_ _ | with_reducible refine Ext.drew ?_ | (with_reducible refine Ext.setAt ?_ _ _ _ ?_; rotate_left; omega) | with_reducible refine Ext.trans ?_ (by assumption) | with_reducible exact Past.bel _ | with_reducible refine Ext.trans ?_ (Past.bel _)))⟩, by simp [intOf]; omega⟩
          · have x1 : ¬ (j : Int) < (n' : Int) := by omega
            go_wp2_with fail
            go_ret
            exact ⟨rfl, xx⟩
    · have c5 : (C != 0) = true := by simpa using c4
      go_wp2_with fail
      go_ret
      exact ⟨rfl, (by repeat (first | with_reducible exact Ext.refl _ | with_reducible assumption | with_reducible refine Ext.alloc ?_ _ | with_reducible refine Ext.drew ?_ | (with_reducible refine Ext.setAt ?_ _ _ _ ?_; rotate_left; omega) | with_reducible refine Ext.trans ?_ (by assumption) | with_reducible exact Past.bel _ | with_reducible refine Ext.trans ?_ (Past.bel _)))⟩
  · have e1 : decide (4096 < n) = true := decide_eq_true (by omega)
    go_enter Try.func3, Try.ntmps3
    go_wp2_with (go_at_call 9; ((with_reducible refine (f6big_c _ _ _ _).mono ?_); rintro e w' ⟨rfl, rfl⟩))
    go_ret
    exact ⟨rfl, (by repeat (first | with_reducible exact Ext.refl _ | with_reducible assumption | with_reducible refine Ext.alloc ?_ _ | with_reducible refine Ext.drew ?_ | (with_reducible refine Ext.setAt ?_ _ _ _ ?_; rotate_left; omega) | with_reducible refine Ext.trans ?_ (by assumption) | with_reducible exact Past.bel _ | with_reducible refine Ext.trans ?_ (Past.bel _)))⟩
end Go.Proofs.Ytglcjnplmhelhaa

namespace Go.Proofs.Ytglcjnplmhelhaa
open Go.RowKit
set_option linter.unusedVariables false
set_option linter.unusedSimpArgs false

theorem eb_ok {n : Nat} {wd pl : Nat → Int} {f t : Int} (h1 : spV n wd pl = true) (h2 : inS n wd f = true) (h3 : inS n wd t = true) (h4 : f ≤ t) : ebV n wd pl f t = eng wd pl f (t - f).toNat ∧ ebC n wd pl f t = 0 := by
  have h : ebB n wd f t = true := by rw [ebB, h2, h3, decide_eq_true h4]; rfl
  rw [ebV, ebC, h1, h]; exact ⟨rfl, rfl⟩
theorem eb_no {n : Nat} {wd pl : Nat → Int} {f t : Int} (h : ebC n wd pl f t = 0) : spV n wd pl = true ∧ inS n wd f = true ∧ inS n wd t = true ∧ f ≤ t := by
  rw [ebC] at h
  split at h
  · rename_i h1
    split at h
    · rename_i h2
      simp only [ebB, Bool.and_eq_true, decide_eq_true_eq] at h2
      exact ⟨h1, h2⟩
    · exact absurd h (by decide)
  · exact absurd h (by decide)
theorem dice_of {w : World} {g : Nat} {a : Option Addr} {n c : Nat} {hh : Int} (h : Blk w g 76 #[.slice a n c, .int .i64 0, .int .u64 hh]) : Dice w g a n c := ⟨⟨0, hh, h, Nat.zero_le _⟩⟩
/-- 'f6roll(code, s).below(m)' -/
theorem roll_ext {w w1 w2 : World} {g : Nat} (h1 : Ext w w1) (hg : w.heap.size ≤ g) (h2 : w1.grownBy w2 (some g)) : Ext w w2 := grown_to_ext h2 h1 hg
set_option maxHeartbeats 4000000 in
theorem walkSpringEnergy (a : Option Addr) (n c : Nat) (f : Nat → Nat) (hm : n ≤ maxLen) (w : World) (hs : U8 w a n f) (hl : ∀ j, j < n → f j ≤ 255) :
    Calls Try.prog 5 #[.slice a n c] w fun e w' => e = .returned (.bool true) ∧ Ext w w' := by
  by_cases hn : n ≤ 4096
  · have e1 : decide (4096 < n) = false := decide_eq_false (by omega)
    go_enter Try.func5, Try.ntmps5
    go_wp2_with (go_at_call 9; ((with_reducible refine (f6big_c _ _ _ _).mono ?_); rintro e w' ⟨rfl, rfl⟩))
    refine (drawEnergy_c a n c f w (by omega) hs hl).mono ?_
    rintro e w2 ⟨a', n', c', wd, pl, x, y, rfl, h2⟩
    have hn' : n' ≤ 1048576 := by have := h2.n21; omega
    have HS := Lib.hid (h2.s2.ext (show Ext w2 (w2.alloc (.cells #[.slice a' n' c'] 26)) from (by repeat (first | with_reducible exact Ext.refl _ | with_reducible assumption | with_reducible refine Ext.alloc ?_ _ | with_reducible refine Ext.drew ?_ | (with_reducible refine Ext.setAt ?_ _ _ _ ?_; rotate_left; omega) | with_reducible refine Ext.trans ?_ (by assumption) | with_reducible exact Past.bel _ | with_reducible refine Ext.trans ?_ (Past.bel _)))))
    have hxw : Ext w (w2.alloc (.cells #[.slice a' n' c'] 26)) := Ext.trans h2.ext (by repeat (first | with_reducible exact Ext.refl _ | with_reducible assumption | with_reducible refine Ext.alloc ?_ _ | with_reducible refine Ext.drew ?_ | (with_reducible refine Ext.setAt ?_ _ _ _ ?_; rotate_left; omega) | with_reducible refine Ext.trans ?_ (by assumption) | with_reducible exact Past.bel _ | with_reducible refine Ext.trans ?_ (Past.bel _)))
    obtain ⟨V, hV⟩ : ∃ V, V = ebV n' wd pl x y := ⟨_, rfl⟩
    obtain ⟨C, hC⟩ : ∃ C, C = ebC n' wd pl x y := ⟨_, rfl⟩
    have HV := Lib.hid (And.intro hV hC)
    have HI := Lib.hid (fun (W : World) (hq : Ext (w2.alloc (.cells #[.slice a' n' c'] 26)) W) => (show Calls Try.prog 22 #[.agg #[.slice a' n' c'], .int .i64 x, .int .i64 y] W (fun e w' => e = .returned (.tuple #[.int .i64 V, .int .i64 C]) ∧ Ext W w') from by rw [hV, hC]; exact implEnergy_c hn' (HS.out.ext hq) x y))
    have HJ := Lib.hid (fun (W : World) (hq : Ext (w2.alloc (.cells #[.slice a' n' c'] 26)) W) => (show Calls Try.prog 23 #[.agg #[.slice a' n' c'], .int .i64 x, .int .i64 y] W (fun e w' => e = .returned (.tuple #[.int .i64 V, .int .i64 C]) ∧ Ext W w') from by rw [hV, hC]; exact specEnergy_c hn' (HS.out.ext hq) x y))
    have k0 : (w2.alloc (.cells #[.slice a' n' c'] 26)).cell? ⟨w2.heap.size, 0, none⟩ = some (.slice a' n' c') := by simp [go_sem]
    have HK := Lib.hid (fun (w' : World) (hq : Ext (w2.alloc (.cells #[.slice a' n' c'] 26)) w') => (show w'.cell? ⟨w2.heap.size, 0, none⟩ = some (.slice a' n' c') from by rw [hq.cell (by simp)]; exact k0))
    have hz2 : w2.heap.size < (w2.alloc (.cells #[.slice a' n' c'] 26)).heap.size := by simp
    clear hV hC h2 k0
    have c1 : (C != C) = false := by simp
    have c2 : (V != V) = false := by simp
    by_cases c4 : C = 0
    · obtain ⟨q1, q2, q3, q4⟩ := eb_no (HV.out.2.symm.trans c4)
      have b := spV_b q1
      have xb := b.inS q2
      have yb := b.inS q3
      obtain ⟨k, rfl⟩ : ∃ k : Nat, y = x + (k : Int) := ⟨(y - x).toNat, by omega⟩
      have hVe : V = eng wd pl x k := by have := HV.out.1.trans (eb_ok q1 q2 q3 q4).1; rw [this]; congr 1; omega
      have hb := eng_bd b q2 q3 (Nat.le_refl k)
      have hbb := eng_le b q2 q3 k (Nat.le_refl k)
      rw [← hVe] at hb hbb
      have pb := b.pull q2
      have qb := b.pull q3
      obtain ⟨P, hP⟩ : ∃ P, P = pullF wd pl x := ⟨_, rfl⟩
      obtain ⟨Q, hQ⟩ : ∃ Q, Q = pullF wd pl (x + k) := ⟨_, rfl⟩
      have HA := Lib.hid (fun (m : Nat) (hm : m ≤ k) => (show ∃ E1 E2, E1 + E2 = V ∧ 0 ≤ E1 ∧ 0 ≤ E2 ∧ ∀ (W : World), Ext (w2.alloc (.cells #[.slice a' n' c'] 26)) W → Calls Try.prog 22 #[.agg #[.slice a' n' c'], .int .i64 x, .int .i64 (x + m)] W (fun e w' => e = .returned (.tuple #[.int .i64 E1, .int .i64 0]) ∧ Ext W w') ∧ Calls Try.prog 22 #[.agg #[.slice a' n' c'], .int .i64 (x + m), .int .i64 (x + k)] W (fun e w' => e = .returned (.tuple #[.int .i64 E2, .int .i64 0]) ∧ Ext W w') from by
        have q5 : inS n' wd (x + m) = true := by
          have h5 := inB_t.1 q2
          have h6 := inB_t.1 q3
          exact inB_t.2 ⟨by omega, by omega⟩
        obtain ⟨r1, r2⟩ := eb_ok q1 q2 q5 (show x ≤ x + (m : Int) by omega)
        obtain ⟨r3, r4⟩ := eb_ok q1 q5 q3 (show x + (m : Int) ≤ x + (k : Int) by omega)
        rw [show (x + (m : Int) - x).toNat = m by omega] at r1
        rw [show (x + (k : Int) - (x + (m : Int))).toNat = k - m by omega] at r3
        have hk2 : x + (m : Int) + ((k - m : Nat) : Int) = x + (k : Int) := by omega
        refine ⟨eng wd pl x m, eng wd pl (x + m) (k - m), ?_, (eng_le b q2 q5 m (Nat.le_refl m)).1, (eng_le b q5 (by rw [hk2]; exact q3) (k - m) (Nat.le_refl _)).1, fun W hq => ⟨?_, ?_⟩⟩
        · rw [hVe, ← eng_add]; congr 1; omega
        · have := implEnergy_c (c := c') hn' (HS.out.ext hq) x (x + m); rw [r1, r2] at this; exact this
        · have := implEnergy_c (c := c') hn' (HS.out.ext hq) (x + m) (x + k); rw [r3, r4] at this; exact this))
      have HP1 := Lib.hid (fun (W : World) (hq : Ext (w2.alloc (.cells #[.slice a' n' c'] 26)) W) => (show Calls Try.prog 11 #[.agg #[.slice a' n' c'], .int .i64 x] W (fun e w' => e = .returned (.tuple #[.int .i64 P, .int .i64 0]) ∧ Ext W w') from by have := implPullAt_c (c := c') hn' (HS.out.ext hq) x; rw [(paV_ok q1 q2).1, (paV_ok q1 q2).2] at this; rw [hP]; exact this))
      have HP2 := Lib.hid (fun (W : World) (hq : Ext (w2.alloc (.cells #[.slice a' n' c'] 26)) W) => (show Calls Try.prog 11 #[.agg #[.slice a' n' c'], .int .i64 (x + k)] W (fun e w' => e = .returned (.tuple #[.int .i64 Q, .int .i64 0]) ∧ Ext W w') from by have := implPullAt_c (c := c') hn' (HS.out.ext hq) (x + k); rw [(paV_ok q1 q3).1, (paV_ok q1 q3).2] at this; rw [hQ]; exact this))
      rw [← hP] at hb pb
      rw [← hQ] at hb qb
      have hkk : x + (k : Int) - x = (k : Int) := by omega
      have hb1 : 2 * (x + (k : Int) - x) * P ≤ V := by rw [hkk]; exact hb.1
      have hb2 : V ≤ 2 * (x + (k : Int) - x) * Q := by rw [hkk]; exact hb.2
      have hp1 := mul_nn (A := 4000) (B := 1000000) (show 0 ≤ 2 * (x + (k : Int) - x) by omega) (by omega) pb.1 pb.2
      have hp2 := mul_nn (A := 4000) (B := 1000000) (show 0 ≤ 2 * (x + (k : Int) - x) by omega) (by omega) qb.1 qb.2
      have hkb : (k : Int) ≤ 2000 := by omega
      obtain ⟨hp3, hp4⟩ := hp1
      obtain ⟨hp5, hp6⟩ := hp2
      clear hP hQ hVe hb b q1 q2 q3 HV hkk
      subst c4
      go_wp2_with (first | (go_at_call 22; ((with_reducible refine (HI.out _ (by repeat (first | with_reducible exact Ext.refl _ | with_reducible assumption | with_reducible refine Ext.alloc ?_ _ | with_reducible refine Ext.drew ?_ | (with_reducible refine Ext.setAt ?_ _ _ _ ?_; rotate_left; omega) | with_reducible refine Ext.trans ?_ (by assumption) | with_reducible exact Past.bel _ | with_reducible refine Ext.trans ?_ (Past.bel _)))).mono ?_); rintro e w' ⟨rfl, hx⟩; (first | (obtain ⟨wx, rfl⟩ := Past.again hx) | (obtain ⟨wx, rfl⟩ := Past.ofd hx) | (obtain ⟨wx, rfl⟩ := Past.of hx)))) | (go_at_call 23; ((with_reducible refine (HJ.out _ (by repeat (first | with_reducible exact Ext.refl _ | with_reducible assumption | with_reducible refine Ext.alloc ?_ _ | with_reducible refine Ext.drew ?_ | (with_reducible refine Ext.setAt ?_ _ _ _ ?_; rotate_left; omega) | with_reducible refine Ext.trans ?_ (by assumption) | with_reducible exact Past.bel _ | with_reducible refine Ext.trans ?_ (Past.bel _)))).mono ?_); rintro e w' ⟨rfl, hx⟩; (first | (obtain ⟨wx, rfl⟩ := Past.again hx) | (obtain ⟨wx, rfl⟩ := Past.ofd hx) | (obtain ⟨wx, rfl⟩ := Past.of hx)))))
      have hx0 : Ext (w2.alloc (.cells #[.slice a' n' c'] 26)) wx.out := (by repeat (first | with_reducible exact Ext.refl _ | with_reducible assumption | with_reducible refine Ext.alloc ?_ _ | with_reducible refine Ext.drew ?_ | (with_reducible refine Ext.setAt ?_ _ _ _ ?_; rotate_left; omega) | with_reducible refine Ext.trans ?_ (by assumption) | with_reducible exact Past.bel _ | with_reducible refine Ext.trans ?_ (Past.bel _)))
      generalize wx.out = w3 at hx0 ⊢
      have hw3 : Ext w w3 := Ext.trans hxw hx0
      refine (f6roll_c a n c f 1301 w3 (by omega) (hs.ext hw3)).mono ?_
      rintro e w4 ⟨g, hh, rfl, hbk, hgs, hx4⟩
      clear HI HJ
      go_wp2_with fail
      refine (below_c g a n c f _ w4 (by omega) (by omega) (hs.ext (Ext.trans hw3 hx4)) hl (dice_of hbk) (fun h0 ad e => by have := hs.low h0 ad e; have := hw3.size; omega)).mono ?_
      rintro e w5 ⟨d, rfl, d0, d1, -, hg5⟩
      have hx5 : Ext w3 w5 := grown_to_ext hg5 hx4 hgs
      have hx05 : Ext (w2.alloc (.cells #[.slice a' n' c'] 26)) w5 := Ext.trans hx0 hx5
      have hw5 : Ext w w5 := Ext.trans hw3 hx5
      obtain ⟨m, rfl⟩ := Int.eq_ofNat_of_zero_le d0
      obtain ⟨E1, E2, v1, v2, v3, HA2⟩ := HA.out m (by omega)
      have HA2 := Lib.hid HA2
      have p5 := HK.out w5 hx05
      clear HA hbk hg5 hx4 hx5 hgs
      go_wp2_with fail
      refine ((HA2.out w5 hx05).1).mono ?_
      rintro e w6 ⟨rfl, hx6⟩
      have p6 := HK.out w6 (Ext.trans hx05 hx6)
      have hw6 := Ext.trans hw5 hx6
      have hx06 := Ext.trans hx05 hx6
      go_wp2_with fail
      refine ((HA2.out w6 hx06).2).mono ?_
      rintro e w7 ⟨rfl, hx7⟩
      have hx07 := Ext.trans hx06 hx7
      have p7 := HK.out w7 hx07
      have hw7 := Ext.trans hw6 hx7
      go_wp2_with fail
      refine (HP1.out w7 hx07).mono ?_
      rintro e w8 ⟨rfl, hx8⟩
      have hx08 := Ext.trans hx07 hx8
      have p8 := HK.out w8 hx08
      have hw8 := Ext.trans hw7 hx8
      go_wp2_with fail
      refine (HP2.out w8 hx08).mono ?_
      rintro e w9 ⟨rfl, hx9⟩
      have hw9 := Ext.trans hw8 hx9
      have v4 : (E1 + E2 == V) = true := by simpa using v1
      have v5 : E1 + E2 ≤ 4000000000 := by omega
      go_wp2_with fail
      go_ret
      exact ⟨rfl, hw9⟩
    · have c5 : (C != 0) = true := by simpa using c4
      go_wp2_with (first | (go_at_call 22; ((with_reducible refine (HI.out _ (by repeat (first | with_reducible exact Ext.refl _ | with_reducible assumption | with_reducible refine Ext.alloc ?_ _ | with_reducible refine Ext.drew ?_ | (with_reducible refine Ext.setAt ?_ _ _ _ ?_; rotate_left; omega) | with_reducible refine Ext.trans ?_ (by assumption) | with_reducible exact Past.bel _ | with_reducible refine Ext.trans ?_ (Past.bel _)))).mono ?_); rintro e w' ⟨rfl, hx⟩; (first | (obtain ⟨wx, rfl⟩ := Past.again hx) | (obtain ⟨wx, rfl⟩ := Past.ofd hx) | (obtain ⟨wx, rfl⟩ := Past.of hx)))) | (go_at_call 23; ((with_reducible refine (HJ.out _ (by repeat (first | with_reducible exact Ext.refl _ | with_reducible assumption | with_reducible refine Ext.alloc ?_ _ | with_reducible refine Ext.drew ?_ | (with_reducible refine Ext.setAt ?_ _ _ _ ?_; rotate_left; omega) | with_reducible refine Ext.trans ?_ (by assumption) | with_reducible exact Past.bel _ | with_reducible refine Ext.trans ?_ (Past.bel _)))).mono ?_); rintro e w' ⟨rfl, hx⟩; (first | (obtain ⟨wx, rfl⟩ := Past.again hx) | (obtain ⟨wx, rfl⟩ := Past.ofd hx) | (obtain ⟨wx, rfl⟩ := Past.of hx)))))
      go_ret
      exact ⟨rfl, (by repeat (first | with_reducible exact Ext.refl _ | with_reducible assumption | with_reducible refine Ext.alloc ?_ _ | with_reducible refine Ext.drew ?_ | (with_reducible refine Ext.setAt ?_ _ _ _ ?_; rotate_left; omega) | with_reducible refine Ext.trans ?_ (by assumption) | with_reducible exact Past.bel _ | with_reducible refine Ext.trans ?_ (Past.bel _)))⟩
  · have e1 : decide (4096 < n) = true := decide_eq_true (by omega)
    go_enter Try.func5, Try.ntmps5
    go_wp2_with (go_at_call 9; ((with_reducible refine (f6big_c _ _ _ _).mono ?_); rintro e w' ⟨rfl, rfl⟩))
    go_ret
    exact ⟨rfl, (by repeat (first | with_reducible exact Ext.refl _ | with_reducible assumption | with_reducible refine Ext.alloc ?_ _ | with_reducible refine Ext.drew ?_ | (with_reducible refine Ext.setAt ?_ _ _ _ ?_; rotate_left; omega) | with_reducible refine Ext.trans ?_ (by assumption) | with_reducible exact Past.bel _ | with_reducible refine Ext.trans ?_ (Past.bel _)))⟩
end Go.Proofs.Ytglcjnplmhelhaa

namespace Go.Proofs.Ytglcjnplmhelhaa
open Go.ChangeShapes Go.WideShapes Go.RowKit Go.Deep
set_option linter.unusedVariables false
section
variable {H : Type} {enc : TypeId × Value → H} {P : Program} {w : World} {base : Nat} {spare : Nat → Bool} {held : Bool}
/-- a slice of structs of one cell a field, at whatever depth -/
theorem down_rows {t e : TypeId} {fs : Array Field} {fuel : Nat} {v : Value} {x : DataW H × List MemPlace} (ht : P.underlying t = some (.slice e)) (hs : P.underlying e = some (.struct fs)) (hone : oneCellFields P fs = true) (hC : P.cellsOf e = fs.size) (hpos : 0 < fs.size)
    (hf : DataW.trod enc P w base spare held fuel t [v] = some x) :
    ∃ (a : Option Addr) (n cap : Nat) (z : Nat → Nat → Value), v = .slice a n cap ∧ n ≤ cap ∧ cap ≤ maxLen ∧
      (0 < n → ∃ b off, a = some ⟨b, off, none⟩ ∧ b < w.heap.size ∧ ∀ i, i < n → ∀ j (hj : j < fs.size), w.cell? ⟨b, off + i * fs.size + j, none⟩ = some (z i j) ∧ ∃ m y, DataW.trod enc P w base spare held m fs[j].type [z i j] = some y) := by
  rcases open_slice ht hf with ⟨hcs, _⟩ | ⟨a', len', cap', m, n', D, Pl, hcs, hb, hl, hm, hmm, hx, hcell⟩
  · simp at hcs
    subst hcs
    exact ⟨none, 0, 0, fun _ _ => .bool false, rfl, Nat.le_refl _, Nat.zero_le _, fun h => absurd h (Nat.lt_irrefl 0)⟩
  · simp at hcs
    subst hcs
    have hlm : len' ≤ m := by rw [hmm]; split <;> omega
    have hel : ∀ i, i < len' → ∃ z : Nat → Value, ∀ j (hj : j < fs.size), w.cell? (a'.add (i * fs.size + j)) = some (z j) ∧ ∃ m y, DataW.trod enc P w base spare held m fs[j].type [z j] = some y := fun i hi' => by
      obtain ⟨cs', hc, ht'⟩ := hcell i (by omega)
      rw [hC] at hc
      obtain ⟨_, hcl, hat⟩ := World.cells?_some hc
      obtain ⟨k, hl', hfl⟩ := down_struct hs hone hC ht'
      refine ⟨fun j => cs'.getD j (.bool false), fun j hj => ?_⟩
      obtain ⟨v', y, hv', hy⟩ := hfl j fs[j] (Array.getElem?_eq_getElem hj)
      have e1 : cs'.getD j (.bool false) = v' := by simp [List.getD, hv']
      refine ⟨?_, k, y, by show DataW.trod enc P w base spare held k fs[j].type [cs'.getD j (.bool false)] = some y; rw [e1]; exact hy⟩
      show w.cell? (a'.add (i * fs.size + j)) = some (cs'.getD j (.bool false))
      rw [← Go.Deep.add_add, hat j hj, e1]; exact hv'
    obtain ⟨z, hz⟩ := choose_lt hel
    refine ⟨some a', len', cap', z, rfl, hl, hm, fun hn => ?_⟩
    obtain ⟨b, off, spot⟩ := a'
    have h0 := (hz 0 hn 0 hpos).1
    have hspot : spot = none := by simpa [Addr.add] using World.cell?_spot h0
    subst hspot
    refine ⟨b, off, rfl, World.block_lt_of_cell? w ⟨b, off, none⟩ (by simpa [Addr.add] using h0), fun i hi' j hj => ?_⟩
    have h1 := hz i hi' j hj
    rw [Addr.add_lit] at h1
    rw [Nat.add_assoc]; exact h1
/-- a slice of int64s -/
theorem down_i64s {t e : TypeId} {fuel : Nat} {v : Value} {x : DataW H × List MemPlace} (ht : P.underlying t = some (.slice e)) (he : P.underlying e = some (.int .i64)) (hC : P.cellsOf e = 1)
    (hf : DataW.trod enc P w base spare held fuel t [v] = some x) :
    ∃ (a : Option Addr) (n cap : Nat) (z : Nat → Int), v = .slice a n cap ∧ n ≤ cap ∧ cap ≤ maxLen ∧ S1 w a n z ∧ ∀ j, j < n → (Lit.int .i64 (z j)).wf = true := by
  rcases open_slice ht hf with ⟨hcs, _⟩ | ⟨a', len', cap', m, n', D, Pl, hcs, hb, hl, hm, hmm, hx, hcell⟩
  · simp at hcs
    subst hcs
    exact ⟨none, 0, 0, fun _ => 0, rfl, Nat.le_refl _, Nat.zero_le _, (fun h => absurd h (Nat.lt_irrefl 0)), fun j hj => absurd hj (Nat.not_lt_zero j)⟩
  · simp at hcs
    subst hcs
    have hlm : len' ≤ m := by rw [hmm]; split <;> omega
    have hel : ∀ i, i < len' → ∃ z : Int, w.cell? (a'.add i) = some (.int .i64 z) ∧ (Lit.int .i64 z).wf = true := fun i hi' => by
      obtain ⟨cs', hc, ht'⟩ := hcell i (by omega)
      rw [hC] at hc
      obtain ⟨_, hcl, hat⟩ := World.cells?_some hc
      obtain ⟨z, hz, _, hw⟩ := DataW.trod_int he ht'
      subst hz
      have := hat 0 (by omega)
      refine ⟨z, ?_, hw⟩
      have e1 : a'.add i = (a'.add (i * 1)).add 0 := by rw [Go.Deep.add_add]; simp
      rw [e1, this]; rfl
    obtain ⟨z, hz⟩ := choose_lt hel
    refine ⟨some a', len', cap', z, rfl, hl, hm, fun hn => ?_, fun j hj => (hz j hj).2⟩
    obtain ⟨b, off, spot⟩ := a'
    have h0 := (hz 0 hn).1
    have hspot : spot = none := by simpa [Addr.add] using World.cell?_spot h0
    subst hspot
    refine ⟨b, off, rfl, World.block_lt_of_cell? w ⟨b, off, none⟩ (by simpa [Addr.add] using h0), fun i hi' => ?_⟩
    have h1 := (hz i hi').1
    rw [Addr.add_lit] at h1
    exact h1
theorem arg_i64s {r : Reach} {b0 : Nat} {t e : TypeId} {v : Value} {d : DataW H} {p : List MemPlace} (ht : P.underlying t = some (.slice e)) (he : P.underlying e = some (.int .i64)) (hC : P.cellsOf e = 1)
    (hv : Value.okWide P w r b0 t v) (h : DataW.Trod enc P w base spare held t v d p) :
    ∃ (a : Option Addr) (n cap : Nat) (z : Nat → Int), v = .slice a n cap ∧ n ≤ cap ∧ cap ≤ maxLen ∧ S1 w a n z ∧ ∀ j, j < n → (Lit.int .i64 (z j)).wf = true := by
  obtain ⟨a, n, cap, rfl⟩ := okWide_slice ht hv
  obtain ⟨fuel, hf⟩ := h
  exact down_i64s ht he hC (fuel := fuel) (by simpa [Value.cells] using hf)
end
/-- A slice of structs of 'k' cells: cell j of element i is 'z i j'. -/
def SK (w : World) (a : Option Addr) (n k : Nat) (z : Nat → Nat → Value) : Prop :=
  0 < n → ∃ b off, a = some ⟨b, off, none⟩ ∧ b < w.heap.size ∧ ∀ i, i < n → ∀ j, j < k → w.cell? ⟨b, off + i * k + j, none⟩ = some (z i j)
/-- Months: a name and two numbers each. -/
def S3 (w : World) (a : Option Addr) (n : Nat) (nm : Nat → ByteArray) (dy lp : Nat → Int) : Prop :=
  0 < n → ∃ b off, a = some ⟨b, off, none⟩ ∧ b < w.heap.size ∧ ∀ i, i < n → w.cell? ⟨b, off + i * 3, none⟩ = some (.string (nm i)) ∧ w.cell? ⟨b, off + i * 3 + 1, none⟩ = some (.int .i64 (dy i)) ∧ w.cell? ⟨b, off + i * 3 + 2, none⟩ = some (.int .i64 (lp i))
/-- Rules: two numbers and a truth value each. -/
def R3 (w : World) (a : Option Addr) (n : Nat) (ev rs : Nat → Int) (lf : Nat → Bool) : Prop :=
  0 < n → ∃ b off, a = some ⟨b, off, none⟩ ∧ b < w.heap.size ∧ ∀ i, i < n → w.cell? ⟨b, off + i * 3, none⟩ = some (.int .i64 (ev i)) ∧ w.cell? ⟨b, off + i * 3 + 1, none⟩ = some (.int .i64 (rs i)) ∧ w.cell? ⟨b, off + i * 3 + 2, none⟩ = some (.bool (lf i))
theorem S3.ext {w w' : World} {a : Option Addr} {n : Nat} {nm : Nat → ByteArray} {dy lp : Nat → Int} (s : S3 w a n nm dy lp) (e : Ext w w') : S3 w' a n nm dy lp := fun hn => by
  obtain ⟨b, off, ha, hb, hc⟩ := s hn
  exact ⟨b, off, ha, Nat.lt_of_lt_of_le hb e.size, fun j hj => by rw [e.cell hb, e.cell hb, e.cell hb]; exact hc j hj⟩
theorem S3.at {w : World} {a : Option Addr} {n : Nat} {nm : Nat → ByteArray} {dy lp : Nat → Int} (s : S3 w a n nm dy lp) {j : Nat} (hj : j < n) :
    ∃ b off, a = some ⟨b, off, none⟩ ∧ b < w.heap.size ∧ w.cell? ⟨b, off + j * 3, none⟩ = some (.string (nm j)) ∧ w.cell? ⟨b, off + j * 3 + 1, none⟩ = some (.int .i64 (dy j)) ∧ w.cell? ⟨b, off + j * 3 + 2, none⟩ = some (.int .i64 (lp j)) := by
  obtain ⟨b, off, ha, hb, hc⟩ := s (by omega)
  exact ⟨b, off, ha, hb, hc j hj⟩
theorem R3.ext {w w' : World} {a : Option Addr} {n : Nat} {ev rs : Nat → Int} {lf : Nat → Bool} (s : R3 w a n ev rs lf) (e : Ext w w') : R3 w' a n ev rs lf := fun hn => by
  obtain ⟨b, off, ha, hb, hc⟩ := s hn
  exact ⟨b, off, ha, Nat.lt_of_lt_of_le hb e.size, fun j hj => by rw [e.cell hb, e.cell hb, e.cell hb]; exact hc j hj⟩
theorem R3.at {w : World} {a : Option Addr} {n : Nat} {ev rs : Nat → Int} {lf : Nat → Bool} (s : R3 w a n ev rs lf) {j : Nat} (hj : j < n) :
    ∃ b off, a = some ⟨b, off, none⟩ ∧ b < w.heap.size ∧ w.cell? ⟨b, off + j * 3, none⟩ = some (.int .i64 (ev j)) ∧ w.cell? ⟨b, off + j * 3 + 1, none⟩ = some (.int .i64 (rs j)) ∧ w.cell? ⟨b, off + j * 3 + 2, none⟩ = some (.bool (lf j)) := by
  obtain ⟨b, off, ha, hb, hc⟩ := s (by omega)
  exact ⟨b, off, ha, hb, hc j hj⟩
end Go.Proofs.Ytglcjnplmhelhaa
