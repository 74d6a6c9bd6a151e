/- RunningTime: the program. RunningTime: the reference. WeightFor. BestStopwork: the program. BestStopwork: the reference. Jumps of readings. No program in sight. Jumps of readings: the program's and the reference's. Rates between readings, residuals. No program in sight. Rates between readings: the program's and the reference's. -/
import Derived.Test.YtglcjnplmhelhaaBc
import Derived.Test.YtglcjnplmhelhaaBa

namespace Go.Proofs.Ytglcjnplmhelhaa
open Go.RowKit
set_option linter.unusedVariables false
set_option linter.unusedSimpArgs false

theorem RunE.one {n : Nat} {w p : Nat → Int} {t need : Int} {i j : Nat} (h : RunE n w p t need i) (g : RunE n w p t need j) : i = j := by
  rcases Nat.lt_trichotomy i j with a | a | a
  · have := g.ok (i + 1) (by omega)
    have e : t - ((i + 1 : Nat) : Int) = t - i - 1 := by omega
    rw [e] at this
    exact absurd this h.no
  · exact a
  · have := h.ok (j + 1) (by omega)
    have e : t - ((j + 1 : Nat) : Int) = t - j - 1 := by omega
    rw [e] at this
    exact absurd this g.no
/-- what RunningTime returns -/
def rtB (n : Nat) (wd : Nat → Int) (t need : Int) : Bool := inS n wd t && inB need 0 1000000
def rtV (n : Nat) (wd pl : Nat → Int) (t need : Int) : Int := if spV n wd pl && rtB n wd t need && decide (need ≤ pullF wd pl t) then (runN n wd pl t need 2001 : Nat) else 0
def rtC (n : Nat) (wd pl : Nat → Int) (t need : Int) : Int := if spV n wd pl then (if rtB n wd t need then (if need ≤ pullF wd pl t then 0 else 3) else 2) else 1
theorem rt_ret {n : Nat} {wd pl : Nat → Int} {t need : Int} (h1 : spV n wd pl = true) (h2 : inS n wd t = true) (h3 : inB need 0 1000000 = true) (h4 : need ≤ pullF wd pl t) {j : Nat} (r : RunE n wd pl t need j) : (j : Int) = rtV n wd pl t need ∧ 0 = rtC n wd pl t need := by
  have b := spV_b h1
  have e := r.one (runN_end b h2 h4)
  have hb : rtB n wd t need = true := by rw [rtB, h2, h3]; rfl
  constructor
  · rw [rtV, h1, hb, decide_eq_true h4, ← e]; rfl
  · rw [rtC, h1, hb, if_pos rfl, if_pos rfl, if_pos h4]
section
variable {a : Option Addr} {n c : Nat} {wd pl : Nat → Int} {w : World}
set_option maxHeartbeats 4000000 in
theorem implRunningTime_c (hn : n ≤ 1048576) (hs : S2 w a n wd pl) (t need : Int) :
    Calls Try.prog 39 #[.agg #[.slice a n c], .int .i64 t, .int .i64 need] w fun e w' => e = .returned (.tuple #[.int .i64 (rtV n wd pl t need), .int .i64 (rtC n wd pl t need)]) ∧ Ext w w' := by
  have HS := Lib.hid hs
  clear hs
  cases h1 : spV n wd pl
  · go_enter Try.func39, Try.ntmps39
    go_wp2_with (go_at_call 13; ((with_reducible refine (validSpring_c hn (HS.out.ext (by repeat (first | with_reducible exact Ext.refl _ | with_reducible assumption | with_reducible refine Ext.alloc ?_ _ | with_reducible refine Ext.drew ?_ | (with_reducible refine Ext.setAt ?_ _ _ _ ?_; rotate_left; omega) | with_reducible refine Ext.trans ?_ (by assumption) | with_reducible exact Past.bel _ | with_reducible refine Ext.trans ?_ (Past.bel _))))).mono ?_); rintro e w' ⟨rfl, hx⟩; (first | (obtain ⟨wx, rfl⟩ := Past.again hx) | (obtain ⟨wx, rfl⟩ := Past.ofd hx) | (obtain ⟨wx, rfl⟩ := Past.of hx))))
    go_ret2
    exact ⟨by rw [rtV, rtC, h1]; rfl, (by repeat (first | with_reducible exact Ext.refl _ | with_reducible assumption | with_reducible refine Ext.alloc ?_ _ | with_reducible refine Ext.drew ?_ | (with_reducible refine Ext.setAt ?_ _ _ _ ?_; rotate_left; omega) | with_reducible refine Ext.trans ?_ (by assumption) | with_reducible exact Past.bel _ | with_reducible refine Ext.trans ?_ (Past.bel _)))⟩
  · have B := Lib.hid (spV_b h1)
    have hn1 : 1 ≤ n := by have := B.out.n2; omega
    cases h2 : inS n wd t
    · go_enter Try.func39, Try.ntmps39
      go_wp2_with (first | (go_at_call 13; ((with_reducible refine (validSpring_c hn (HS.out.ext (by repeat (first | with_reducible exact Ext.refl _ | with_reducible assumption | with_reducible refine Ext.alloc ?_ _ | with_reducible refine Ext.drew ?_ | (with_reducible refine Ext.setAt ?_ _ _ _ ?_; rotate_left; omega) | with_reducible refine Ext.trans ?_ (by assumption) | with_reducible exact Past.bel _ | with_reducible refine Ext.trans ?_ (Past.bel _))))).mono ?_); rintro e w' ⟨rfl, hx⟩; (first | (obtain ⟨wx, rfl⟩ := Past.again hx) | (obtain ⟨wx, rfl⟩ := Past.ofd hx) | (obtain ⟨wx, rfl⟩ := Past.of hx)))) | (go_at_call 47; ((with_reducible refine (isPosition_c hn1 hn (HS.out.ext (by repeat (first | with_reducible exact Ext.refl _ | with_reducible assumption | with_reducible refine Ext.alloc ?_ _ | with_reducible refine Ext.drew ?_ | (with_reducible refine Ext.setAt ?_ _ _ _ ?_; rotate_left; omega) | with_reducible refine Ext.trans ?_ (by assumption) | with_reducible exact Past.bel _ | with_reducible refine Ext.trans ?_ (Past.bel _)))) _).mono ?_); rintro e w' ⟨rfl, hx⟩; (first | (obtain ⟨wx, rfl⟩ := Past.again hx) | (obtain ⟨wx, rfl⟩ := Past.ofd hx) | (obtain ⟨wx, rfl⟩ := Past.of hx)))))
      go_ret2
      exact ⟨by rw [rtV, rtC, rtB, h1, h2]; rfl, (by repeat (first | with_reducible exact Ext.refl _ | with_reducible assumption | with_reducible refine Ext.alloc ?_ _ | with_reducible refine Ext.drew ?_ | (with_reducible refine Ext.setAt ?_ _ _ _ ?_; rotate_left; omega) | with_reducible refine Ext.trans ?_ (by assumption) | with_reducible exact Past.bel _ | with_reducible refine Ext.trans ?_ (Past.bel _)))⟩
    · cases h3 : inB need 0 1000000
      · go_enter Try.func39, Try.ntmps39
        go_wp2_with (first | (go_at_call 13; ((with_reducible refine (validSpring_c hn (HS.out.ext (by repeat (first | with_reducible exact Ext.refl _ | with_reducible assumption | with_reducible refine Ext.alloc ?_ _ | with_reducible refine Ext.drew ?_ | (with_reducible refine Ext.setAt ?_ _ _ _ ?_; rotate_left; omega) | with_reducible refine Ext.trans ?_ (by assumption) | with_reducible exact Past.bel _ | with_reducible refine Ext.trans ?_ (Past.bel _))))).mono ?_); rintro e w' ⟨rfl, hx⟩; (first | (obtain ⟨wx, rfl⟩ := Past.again hx) | (obtain ⟨wx, rfl⟩ := Past.ofd hx) | (obtain ⟨wx, rfl⟩ := Past.of hx)))) | (go_at_call 47; ((with_reducible refine (isPosition_c hn1 hn (HS.out.ext (by repeat (first | with_reducible exact Ext.refl _ | with_reducible assumption | with_reducible refine Ext.alloc ?_ _ | with_reducible refine Ext.drew ?_ | (with_reducible refine Ext.setAt ?_ _ _ _ ?_; rotate_left; omega) | with_reducible refine Ext.trans ?_ (by assumption) | with_reducible exact Past.bel _ | with_reducible refine Ext.trans ?_ (Past.bel _)))) _).mono ?_); rintro e w' ⟨rfl, hx⟩; (first | (obtain ⟨wx, rfl⟩ := Past.again hx) | (obtain ⟨wx, rfl⟩ := Past.ofd hx) | (obtain ⟨wx, rfl⟩ := Past.of hx)))) | (go_at_call 53; ((with_reducible refine (isPull_c _ _).mono ?_); rintro e w' ⟨rfl, rfl⟩)))
        go_ret2
        exact ⟨by rw [rtV, rtC, rtB, h1, h2, h3]; rfl, (by repeat (first | with_reducible exact Ext.refl _ | with_reducible assumption | with_reducible refine Ext.alloc ?_ _ | with_reducible refine Ext.drew ?_ | (with_reducible refine Ext.setAt ?_ _ _ _ ?_; rotate_left; omega) | with_reducible refine Ext.trans ?_ (by assumption) | with_reducible exact Past.bel _ | with_reducible refine Ext.trans ?_ (Past.bel _)))⟩
      · have H2 := Lib.hid h2
        have ht := B.out.inS h2
        obtain ⟨P0, hP0⟩ : ∃ P, P = pullF wd pl t := ⟨_, rfl⟩
        have HP0 := Lib.hid hP0
        have HC0 := Lib.hid (fun W (hq : Ext w W) => (hP0 ▸ pullAt_c B.out (HS.out.ext hq) H2.out : Calls Try.prog 48 #[.agg #[.slice a n c], .int .i64 t] W fun e w' => e = .returned (.int .i64 P0) ∧ Ext W w'))
        clear hP0
        by_cases h4 : P0 < need
        · go_enter Try.func39, Try.ntmps39
          go_wp2_with (first | (go_at_call 13; ((with_reducible refine (validSpring_c hn (HS.out.ext (by repeat (first | with_reducible exact Ext.refl _ | with_reducible assumption | with_reducible refine Ext.alloc ?_ _ | with_reducible refine Ext.drew ?_ | (with_reducible refine Ext.setAt ?_ _ _ _ ?_; rotate_left; omega) | with_reducible refine Ext.trans ?_ (by assumption) | with_reducible exact Past.bel _ | with_reducible refine Ext.trans ?_ (Past.bel _))))).mono ?_); rintro e w' ⟨rfl, hx⟩; (first | (obtain ⟨wx, rfl⟩ := Past.again hx) | (obtain ⟨wx, rfl⟩ := Past.ofd hx) | (obtain ⟨wx, rfl⟩ := Past.of hx)))) | (go_at_call 47; ((with_reducible refine (isPosition_c hn1 hn (HS.out.ext (by repeat (first | with_reducible exact Ext.refl _ | with_reducible assumption | with_reducible refine Ext.alloc ?_ _ | with_reducible refine Ext.drew ?_ | (with_reducible refine Ext.setAt ?_ _ _ _ ?_; rotate_left; omega) | with_reducible refine Ext.trans ?_ (by assumption) | with_reducible exact Past.bel _ | with_reducible refine Ext.trans ?_ (Past.bel _)))) _).mono ?_); rintro e w' ⟨rfl, hx⟩; (first | (obtain ⟨wx, rfl⟩ := Past.again hx) | (obtain ⟨wx, rfl⟩ := Past.ofd hx) | (obtain ⟨wx, rfl⟩ := Past.of hx)))) | (go_at_call 53; ((with_reducible refine (isPull_c _ _).mono ?_); rintro e w' ⟨rfl, rfl⟩)) | (go_at_call 48; ((with_reducible refine (HC0.out _ (by repeat (first | with_reducible exact Ext.refl _ | with_reducible assumption | with_reducible refine Ext.alloc ?_ _ | with_reducible refine Ext.drew ?_ | (with_reducible refine Ext.setAt ?_ _ _ _ ?_; rotate_left; omega) | with_reducible refine Ext.trans ?_ (by assumption) | with_reducible exact Past.bel _ | with_reducible refine Ext.trans ?_ (Past.bel _)))).mono ?_); rintro e w' ⟨rfl, hx⟩; (first | (obtain ⟨wx, rfl⟩ := Past.again hx) | (obtain ⟨wx, rfl⟩ := Past.ofd hx) | (obtain ⟨wx, rfl⟩ := Past.of hx)))))
          go_ret2
          exact ⟨by have e : ¬ need ≤ pullF wd pl t := by rw [← HP0.out]; omega
                    rw [rtV, rtC, rtB, h1, h2, h3, decide_eq_false e, if_neg e]; rfl, (by repeat (first | with_reducible exact Ext.refl _ | with_reducible assumption | with_reducible refine Ext.alloc ?_ _ | with_reducible refine Ext.drew ?_ | (with_reducible refine Ext.setAt ?_ _ _ _ ?_; rotate_left; omega) | with_reducible refine Ext.trans ?_ (by assumption) | with_reducible exact Past.bel _ | with_reducible refine Ext.trans ?_ (Past.bel _)))⟩
        · have HD := Lib.hid (show ∀ j : Nat, RunE n wd pl t need j → (j : Int) = rtV n wd pl t need ∧ 0 = rtC n wd pl t need from fun j r => rt_ret h1 h2 h3 (by rw [← HP0.out]; omega) r)
          have HO := Lib.hid (show ∀ i : Nat, i ≤ 0 → inS n wd (t - i) = true ∧ need ≤ pullF wd pl (t - i) from fun i hi => by
            obtain rfl : i = 0 := by omega
            have e : t - ((0 : Nat) : Int) = t := by omega
            rw [e]; exact ⟨h2, by rw [← HP0.out]; omega⟩)
          go_enter Try.func39, Try.ntmps39
          go_wp2_with (first | (go_at_call 13; ((with_reducible refine (validSpring_c hn (HS.out.ext (by repeat (first | with_reducible exact Ext.refl _ | with_reducible assumption | with_reducible refine Ext.alloc ?_ _ | with_reducible refine Ext.drew ?_ | (with_reducible refine Ext.setAt ?_ _ _ _ ?_; rotate_left; omega) | with_reducible refine Ext.trans ?_ (by assumption) | with_reducible exact Past.bel _ | with_reducible refine Ext.trans ?_ (Past.bel _))))).mono ?_); rintro e w' ⟨rfl, hx⟩; (first | (obtain ⟨wx, rfl⟩ := Past.again hx) | (obtain ⟨wx, rfl⟩ := Past.ofd hx) | (obtain ⟨wx, rfl⟩ := Past.of hx)))) | (go_at_call 47; ((with_reducible refine (isPosition_c hn1 hn (HS.out.ext (by repeat (first | with_reducible exact Ext.refl _ | with_reducible assumption | with_reducible refine Ext.alloc ?_ _ | with_reducible refine Ext.drew ?_ | (with_reducible refine Ext.setAt ?_ _ _ _ ?_; rotate_left; omega) | with_reducible refine Ext.trans ?_ (by assumption) | with_reducible exact Past.bel _ | with_reducible refine Ext.trans ?_ (Past.bel _)))) _).mono ?_); rintro e w' ⟨rfl, hx⟩; (first | (obtain ⟨wx, rfl⟩ := Past.again hx) | (obtain ⟨wx, rfl⟩ := Past.ofd hx) | (obtain ⟨wx, rfl⟩ := Past.of hx)))) | (go_at_call 53; ((with_reducible refine (isPull_c _ _).mono ?_); rintro e w' ⟨rfl, rfl⟩)) | (go_at_call 48; ((with_reducible refine (HC0.out _ (by repeat (first | with_reducible exact Ext.refl _ | with_reducible assumption | with_reducible refine Ext.alloc ?_ _ | with_reducible refine Ext.drew ?_ | (with_reducible refine Ext.setAt ?_ _ _ _ ?_; rotate_left; omega) | with_reducible refine Ext.trans ?_ (by assumption) | with_reducible exact Past.bel _ | with_reducible refine Ext.trans ?_ (Past.bel _)))).mono ?_); rintro e w' ⟨rfl, hx⟩; (first | (obtain ⟨wx, rfl⟩ := Past.again hx) | (obtain ⟨wx, rfl⟩ := Past.ofd hx) | (obtain ⟨wx, rfl⟩ := Past.of hx)))))
          go_loopw [8] (fun q wr => ∃ j : Nat, q = .int .i64 (j : Nat) ∧ j ≤ 2001 ∧ (∀ i : Nat, i ≤ j → inS n wd (t - i) = true ∧ need ≤ pullF wd pl (t - i)) ∧ Ext (w.alloc (.cells #[.slice a n c] 26)) wr) (fun q _ => 3000 - (intOf q).toNat)
          case atStart => exact ⟨0, rfl, by omega, HO.out, (by repeat (first | with_reducible exact Ext.refl _ | with_reducible assumption | with_reducible refine Ext.alloc ?_ _ | with_reducible refine Ext.drew ?_ | (with_reducible refine Ext.setAt ?_ _ _ _ ?_; rotate_left; omega) | with_reducible refine Ext.trans ?_ (by assumption) | with_reducible exact Past.bel _ | with_reducible refine Ext.trans ?_ (Past.bel _)))⟩
          case round =>
            obtain ⟨j, rfl, hj, hok, hbl⟩ := hrel
            have OK := Lib.hid hok
            have hz := hbl.size
            simp only [World.size_alloc] at hz
            have hg : w.heap.size < wr.heap.size := by omega
            have p0 : wr.cell? ⟨w.heap.size, 0, none⟩ = some (.slice a n c) := by rw [hbl.cell (by simp)]; simp [go_sem]
            have hxw : Ext w wr := Ext.trans (by repeat (first | with_reducible exact Ext.refl _ | with_reducible assumption | with_reducible refine Ext.alloc ?_ _ | with_reducible refine Ext.drew ?_ | (with_reducible refine Ext.setAt ?_ _ _ _ ?_; rotate_left; omega) | with_reducible refine Ext.trans ?_ (by assumption) | with_reducible exact Past.bel _ | with_reducible refine Ext.trans ?_ (Past.bel _))) hbl
            have hjt := B.out.inS (hok j (Nat.le_refl _)).1
            clear hok
            cases h5 : inS n wd (t - (j : Int) - 1)
            · have HR := Lib.hid (HD.out j ⟨OK.out, by rw [h5]; simp⟩)
              go_wp2_with (go_at_call 47; ((with_reducible refine (isPosition_c hn1 hn (HS.out.ext (by repeat (first | with_reducible exact Ext.refl _ | with_reducible assumption | with_reducible refine Ext.alloc ?_ _ | with_reducible refine Ext.drew ?_ | (with_reducible refine Ext.setAt ?_ _ _ _ ?_; rotate_left; omega) | with_reducible refine Ext.trans ?_ (by assumption) | with_reducible exact Past.bel _ | with_reducible refine Ext.trans ?_ (Past.bel _)))) _).mono ?_); rintro e w' ⟨rfl, hx⟩; (first | (obtain ⟨wx, rfl⟩ := Past.again hx) | (obtain ⟨wx, rfl⟩ := Past.ofd hx) | (obtain ⟨wx, rfl⟩ := Past.of hx))))
              go_ret2
              exact ⟨ret_two (congrArg (Value.int IntKind.i64) HR.out.1) (congrArg (Value.int IntKind.i64) HR.out.2), (by repeat (first | with_reducible exact Ext.refl _ | with_reducible assumption | with_reducible refine Ext.alloc ?_ _ | with_reducible refine Ext.drew ?_ | (with_reducible refine Ext.setAt ?_ _ _ _ ?_; rotate_left; omega) | with_reducible refine Ext.trans ?_ (by assumption) | with_reducible exact Past.bel _ | with_reducible refine Ext.trans ?_ (Past.bel _)))⟩
            · have H5 := Lib.hid h5
              obtain ⟨P1, hP1⟩ : ∃ P, P = pullF wd pl (t - (j : Int) - 1) := ⟨_, rfl⟩
              have HP1 := Lib.hid hP1
              have HC1 := Lib.hid (fun W (hq : Ext w W) => (hP1 ▸ pullAt_c B.out (HS.out.ext hq) H5.out : Calls Try.prog 48 #[.agg #[.slice a n c], .int .i64 (t - (j : Int) - 1)] W fun e w' => e = .returned (.int .i64 P1) ∧ Ext W w'))
              clear hP1
              by_cases h6 : need ≤ P1
              · have HN := Lib.hid (show ∀ i : Nat, i ≤ j + 1 → inS n wd (t - i) = true ∧ need ≤ pullF wd pl (t - i) from fun i hi => by
                  by_cases e : i = j + 1
                  · subst e
                    have e2 : t - ((j + 1 : Nat) : Int) = t - j - 1 := by omega
                    rw [e2]; exact ⟨H5.out, by rw [← HP1.out]; exact h6⟩
                  · exact OK.out i (by omega))
                have hj2 := B.out.inS h5
                go_wp2_with (first | (go_at_call 47; ((with_reducible refine (isPosition_c hn1 hn (HS.out.ext (by repeat (first | with_reducible exact Ext.refl _ | with_reducible assumption | with_reducible refine Ext.alloc ?_ _ | with_reducible refine Ext.drew ?_ | (with_reducible refine Ext.setAt ?_ _ _ _ ?_; rotate_left; omega) | with_reducible refine Ext.trans ?_ (by assumption) | with_reducible exact Past.bel _ | with_reducible refine Ext.trans ?_ (Past.bel _)))) _).mono ?_); rintro e w' ⟨rfl, hx⟩; (first | (obtain ⟨wx, rfl⟩ := Past.again hx) | (obtain ⟨wx, rfl⟩ := Past.ofd hx) | (obtain ⟨wx, rfl⟩ := Past.of hx)))) | (go_at_call 48; ((with_reducible refine (HC1.out _ (by repeat (first | with_reducible exact Ext.refl _ | with_reducible assumption | with_reducible refine Ext.alloc ?_ _ | with_reducible refine Ext.drew ?_ | (with_reducible refine Ext.setAt ?_ _ _ _ ?_; rotate_left; omega) | with_reducible refine Ext.trans ?_ (by assumption) | with_reducible exact Past.bel _ | with_reducible refine Ext.trans ?_ (Past.bel _)))).mono ?_); rintro e w' ⟨rfl, hx⟩; (first | (obtain ⟨wx, rfl⟩ := Past.again hx) | (obtain ⟨wx, rfl⟩ := Past.ofd hx) | (obtain ⟨wx, rfl⟩ := Past.of hx)))))
                exact ⟨⟨j + 1, by go_num, by omega, HN.out, (by repeat (first | with_reducible exact Ext.refl _ | with_reducible assumption | with_reducible refine Ext.alloc ?_ _ | with_reducible refine Ext.drew ?_ | (with_reducible refine Ext.setAt ?_ _ _ _ ?_; rotate_left; omega) | with_reducible refine Ext.trans ?_ (by assumption) | with_reducible exact Past.bel _ | with_reducible refine Ext.trans ?_ (Past.bel _)))⟩, by simp [intOf]; omega⟩
              · have HR := Lib.hid (HD.out j ⟨OK.out, fun hc => h6 (by rw [HP1.out]; exact hc.2)⟩)
                go_wp2_with (first | (go_at_call 47; ((with_reducible refine (isPosition_c hn1 hn (HS.out.ext (by repeat (first | with_reducible exact Ext.refl _ | with_reducible assumption | with_reducible refine Ext.alloc ?_ _ | with_reducible refine Ext.drew ?_ | (with_reducible refine Ext.setAt ?_ _ _ _ ?_; rotate_left; omega) | with_reducible refine Ext.trans ?_ (by assumption) | with_reducible exact Past.bel _ | with_reducible refine Ext.trans ?_ (Past.bel _)))) _).mono ?_); rintro e w' ⟨rfl, hx⟩; (first | (obtain ⟨wx, rfl⟩ := Past.again hx) | (obtain ⟨wx, rfl⟩ := Past.ofd hx) | (obtain ⟨wx, rfl⟩ := Past.of hx)))) | (go_at_call 48; ((with_reducible refine (HC1.out _ (by repeat (first | with_reducible exact Ext.refl _ | with_reducible assumption | with_reducible refine Ext.alloc ?_ _ | with_reducible refine Ext.drew ?_ | (with_reducible refine Ext.setAt ?_ _ _ _ ?_; rotate_left; omega) | with_reducible refine Ext.trans ?_ (by assumption) | with_reducible exact Past.bel _ | with_reducible refine Ext.trans ?_ (Past.bel _)))).mono ?_); rintro e w' ⟨rfl, hx⟩; (first | (obtain ⟨wx, rfl⟩ := Past.again hx) | (obtain ⟨wx, rfl⟩ := Past.ofd hx) | (obtain ⟨wx, rfl⟩ := Past.of hx)))))
                go_ret2
                exact ⟨ret_two (congrArg (Value.int IntKind.i64) HR.out.1) (congrArg (Value.int IntKind.i64) HR.out.2), (by repeat (first | with_reducible exact Ext.refl _ | with_reducible assumption | with_reducible refine Ext.alloc ?_ _ | with_reducible refine Ext.drew ?_ | (with_reducible refine Ext.setAt ?_ _ _ _ ?_; rotate_left; omega) | with_reducible refine Ext.trans ?_ (by assumption) | with_reducible exact Past.bel _ | with_reducible refine Ext.trans ?_ (Past.bel _)))⟩
end
end Go.Proofs.Ytglcjnplmhelhaa

namespace Go.Proofs.Ytglcjnplmhelhaa
open Go.RowKit
set_option linter.unusedVariables false
set_option linter.unusedSimpArgs false

section
variable {a : Option Addr} {n c : Nat} {wd pl : Nat → Int} {w : World}
set_option maxHeartbeats 4000000 in
theorem specRunningTime_c (hn : n ≤ 1048576) (hs : S2 w a n wd pl) (t need : Int) :
    Calls Try.prog 40 #[.agg #[.slice a n c], .int .i64 t, .int .i64 need] w fun e w' => e = .returned (.tuple #[.int .i64 (rtV n wd pl t need), .int .i64 (rtC n wd pl t need)]) ∧ Ext w w' := by
  have HS := Lib.hid hs
  clear hs
  cases h1 : spV n wd pl
  · go_enter Try.func40, Try.ntmps40
    go_wp2_with (go_at_call 49; ((with_reducible refine (l13Ok_c hn (HS.out.ext (by repeat (first | with_reducible exact Ext.refl _ | with_reducible assumption | with_reducible refine Ext.alloc ?_ _ | with_reducible refine Ext.drew ?_ | (with_reducible refine Ext.setAt ?_ _ _ _ ?_; rotate_left; omega) | with_reducible refine Ext.trans ?_ (by assumption) | with_reducible exact Past.bel _ | with_reducible refine Ext.trans ?_ (Past.bel _))))).mono ?_); rintro e w' ⟨rfl, hx⟩; (first | (obtain ⟨wx, rfl⟩ := Past.again hx) | (obtain ⟨wx, rfl⟩ := Past.ofd hx) | (obtain ⟨wx, rfl⟩ := Past.of hx))))
    go_ret2
    exact ⟨by rw [rtV, rtC, h1]; rfl, (by repeat (first | with_reducible exact Ext.refl _ | with_reducible assumption | with_reducible refine Ext.alloc ?_ _ | with_reducible refine Ext.drew ?_ | (with_reducible refine Ext.setAt ?_ _ _ _ ?_; rotate_left; omega) | with_reducible refine Ext.trans ?_ (by assumption) | with_reducible exact Past.bel _ | with_reducible refine Ext.trans ?_ (Past.bel _)))⟩
  · have B := Lib.hid (spV_b h1)
    have hn1 : 1 ≤ n := by have := B.out.n2; omega
    cases h2 : inS n wd t
    · go_enter Try.func40, Try.ntmps40
      go_wp2_with (first | (go_at_call 49; ((with_reducible refine (l13Ok_c hn (HS.out.ext (by repeat (first | with_reducible exact Ext.refl _ | with_reducible assumption | with_reducible refine Ext.alloc ?_ _ | with_reducible refine Ext.drew ?_ | (with_reducible refine Ext.setAt ?_ _ _ _ ?_; rotate_left; omega) | with_reducible refine Ext.trans ?_ (by assumption) | with_reducible exact Past.bel _ | with_reducible refine Ext.trans ?_ (Past.bel _))))).mono ?_); rintro e w' ⟨rfl, hx⟩; (first | (obtain ⟨wx, rfl⟩ := Past.again hx) | (obtain ⟨wx, rfl⟩ := Past.ofd hx) | (obtain ⟨wx, rfl⟩ := Past.of hx)))) | (go_at_call 50; ((with_reducible refine (l13In_c hn1 hn (HS.out.ext (by repeat (first | with_reducible exact Ext.refl _ | with_reducible assumption | with_reducible refine Ext.alloc ?_ _ | with_reducible refine Ext.drew ?_ | (with_reducible refine Ext.setAt ?_ _ _ _ ?_; rotate_left; omega) | with_reducible refine Ext.trans ?_ (by assumption) | with_reducible exact Past.bel _ | with_reducible refine Ext.trans ?_ (Past.bel _)))) _).mono ?_); rintro e w' ⟨rfl, hx⟩; (first | (obtain ⟨wx, rfl⟩ := Past.again hx) | (obtain ⟨wx, rfl⟩ := Past.ofd hx) | (obtain ⟨wx, rfl⟩ := Past.of hx)))))
      go_ret2
      exact ⟨by rw [rtV, rtC, rtB, h1, h2]; rfl, (by repeat (first | with_reducible exact Ext.refl _ | with_reducible assumption | with_reducible refine Ext.alloc ?_ _ | with_reducible refine Ext.drew ?_ | (with_reducible refine Ext.setAt ?_ _ _ _ ?_; rotate_left; omega) | with_reducible refine Ext.trans ?_ (by assumption) | with_reducible exact Past.bel _ | with_reducible refine Ext.trans ?_ (Past.bel _)))⟩
    · cases h3 : inB need 0 1000000
      · go_enter Try.func40, Try.ntmps40
        go_wp2_with (first | (go_at_call 49; ((with_reducible refine (l13Ok_c hn (HS.out.ext (by repeat (first | with_reducible exact Ext.refl _ | with_reducible assumption | with_reducible refine Ext.alloc ?_ _ | with_reducible refine Ext.drew ?_ | (with_reducible refine Ext.setAt ?_ _ _ _ ?_; rotate_left; omega) | with_reducible refine Ext.trans ?_ (by assumption) | with_reducible exact Past.bel _ | with_reducible refine Ext.trans ?_ (Past.bel _))))).mono ?_); rintro e w' ⟨rfl, hx⟩; (first | (obtain ⟨wx, rfl⟩ := Past.again hx) | (obtain ⟨wx, rfl⟩ := Past.ofd hx) | (obtain ⟨wx, rfl⟩ := Past.of hx)))) | (go_at_call 50; ((with_reducible refine (l13In_c hn1 hn (HS.out.ext (by repeat (first | with_reducible exact Ext.refl _ | with_reducible assumption | with_reducible refine Ext.alloc ?_ _ | with_reducible refine Ext.drew ?_ | (with_reducible refine Ext.setAt ?_ _ _ _ ?_; rotate_left; omega) | with_reducible refine Ext.trans ?_ (by assumption) | with_reducible exact Past.bel _ | with_reducible refine Ext.trans ?_ (Past.bel _)))) _).mono ?_); rintro e w' ⟨rfl, hx⟩; (first | (obtain ⟨wx, rfl⟩ := Past.again hx) | (obtain ⟨wx, rfl⟩ := Past.ofd hx) | (obtain ⟨wx, rfl⟩ := Past.of hx)))) | (go_at_call 57; ((with_reducible refine (l00In_c _ _ _ _).mono ?_); rintro e w' ⟨rfl, rfl⟩)))
        go_ret2
        exact ⟨by rw [rtV, rtC, rtB, h1, h2, h3]; rfl, (by repeat (first | with_reducible exact Ext.refl _ | with_reducible assumption | with_reducible refine Ext.alloc ?_ _ | with_reducible refine Ext.drew ?_ | (with_reducible refine Ext.setAt ?_ _ _ _ ?_; rotate_left; omega) | with_reducible refine Ext.trans ?_ (by assumption) | with_reducible exact Past.bel _ | with_reducible refine Ext.trans ?_ (Past.bel _)))⟩
      · have H2 := Lib.hid h2
        have ht := B.out.inS h2
        obtain ⟨P0, hP0⟩ : ∃ P, P = pullF wd pl t := ⟨_, rfl⟩
        have HP0 := Lib.hid hP0
        have HC0 := Lib.hid (fun W (hq : Ext w W) => (hP0 ▸ l13At_c B.out (HS.out.ext hq) H2.out : Calls Try.prog 51 #[.agg #[.slice a n c], .int .i64 t] W fun e w' => e = .returned (.int .i64 P0) ∧ Ext W w'))
        clear hP0
        by_cases h4 : P0 < need
        · go_enter Try.func40, Try.ntmps40
          go_wp2_with (first | (go_at_call 49; ((with_reducible refine (l13Ok_c hn (HS.out.ext (by repeat (first | with_reducible exact Ext.refl _ | with_reducible assumption | with_reducible refine Ext.alloc ?_ _ | with_reducible refine Ext.drew ?_ | (with_reducible refine Ext.setAt ?_ _ _ _ ?_; rotate_left; omega) | with_reducible refine Ext.trans ?_ (by assumption) | with_reducible exact Past.bel _ | with_reducible refine Ext.trans ?_ (Past.bel _))))).mono ?_); rintro e w' ⟨rfl, hx⟩; (first | (obtain ⟨wx, rfl⟩ := Past.again hx) | (obtain ⟨wx, rfl⟩ := Past.ofd hx) | (obtain ⟨wx, rfl⟩ := Past.of hx)))) | (go_at_call 50; ((with_reducible refine (l13In_c hn1 hn (HS.out.ext (by repeat (first | with_reducible exact Ext.refl _ | with_reducible assumption | with_reducible refine Ext.alloc ?_ _ | with_reducible refine Ext.drew ?_ | (with_reducible refine Ext.setAt ?_ _ _ _ ?_; rotate_left; omega) | with_reducible refine Ext.trans ?_ (by assumption) | with_reducible exact Past.bel _ | with_reducible refine Ext.trans ?_ (Past.bel _)))) _).mono ?_); rintro e w' ⟨rfl, hx⟩; (first | (obtain ⟨wx, rfl⟩ := Past.again hx) | (obtain ⟨wx, rfl⟩ := Past.ofd hx) | (obtain ⟨wx, rfl⟩ := Past.of hx)))) | (go_at_call 57; ((with_reducible refine (l00In_c _ _ _ _).mono ?_); rintro e w' ⟨rfl, rfl⟩)) | (go_at_call 51; ((with_reducible refine (HC0.out _ (by repeat (first | with_reducible exact Ext.refl _ | with_reducible assumption | with_reducible refine Ext.alloc ?_ _ | with_reducible refine Ext.drew ?_ | (with_reducible refine Ext.setAt ?_ _ _ _ ?_; rotate_left; omega) | with_reducible refine Ext.trans ?_ (by assumption) | with_reducible exact Past.bel _ | with_reducible refine Ext.trans ?_ (Past.bel _)))).mono ?_); rintro e w' ⟨rfl, hx⟩; (first | (obtain ⟨wx, rfl⟩ := Past.again hx) | (obtain ⟨wx, rfl⟩ := Past.ofd hx) | (obtain ⟨wx, rfl⟩ := Past.of hx)))))
          go_ret2
          exact ⟨by have e : ¬ need ≤ pullF wd pl t := by rw [← HP0.out]; omega
                    rw [rtV, rtC, rtB, h1, h2, h3, decide_eq_false e, if_neg e]; rfl, (by repeat (first | with_reducible exact Ext.refl _ | with_reducible assumption | with_reducible refine Ext.alloc ?_ _ | with_reducible refine Ext.drew ?_ | (with_reducible refine Ext.setAt ?_ _ _ _ ?_; rotate_left; omega) | with_reducible refine Ext.trans ?_ (by assumption) | with_reducible exact Past.bel _ | with_reducible refine Ext.trans ?_ (Past.bel _)))⟩
        · have HD := Lib.hid (show ∀ j : Nat, RunE n wd pl t need j → (j : Int) = rtV n wd pl t need ∧ 0 = rtC n wd pl t need from fun j r => rt_ret h1 h2 h3 (by rw [← HP0.out]; omega) r)
          have HO := Lib.hid (show ∀ i : Nat, i ≤ 0 → inS n wd (t - i) = true ∧ need ≤ pullF wd pl (t - i) from fun i hi => by
            obtain rfl : i = 0 := by omega
            have e : t - ((0 : Nat) : Int) = t := by omega
            rw [e]; exact ⟨h2, by rw [← HP0.out]; omega⟩)
          go_enter Try.func40, Try.ntmps40
          go_wp2_with (first | (go_at_call 49; ((with_reducible refine (l13Ok_c hn (HS.out.ext (by repeat (first | with_reducible exact Ext.refl _ | with_reducible assumption | with_reducible refine Ext.alloc ?_ _ | with_reducible refine Ext.drew ?_ | (with_reducible refine Ext.setAt ?_ _ _ _ ?_; rotate_left; omega) | with_reducible refine Ext.trans ?_ (by assumption) | with_reducible exact Past.bel _ | with_reducible refine Ext.trans ?_ (Past.bel _))))).mono ?_); rintro e w' ⟨rfl, hx⟩; (first | (obtain ⟨wx, rfl⟩ := Past.again hx) | (obtain ⟨wx, rfl⟩ := Past.ofd hx) | (obtain ⟨wx, rfl⟩ := Past.of hx)))) | (go_at_call 50; ((with_reducible refine (l13In_c hn1 hn (HS.out.ext (by repeat (first | with_reducible exact Ext.refl _ | with_reducible assumption | with_reducible refine Ext.alloc ?_ _ | with_reducible refine Ext.drew ?_ | (with_reducible refine Ext.setAt ?_ _ _ _ ?_; rotate_left; omega) | with_reducible refine Ext.trans ?_ (by assumption) | with_reducible exact Past.bel _ | with_reducible refine Ext.trans ?_ (Past.bel _)))) _).mono ?_); rintro e w' ⟨rfl, hx⟩; (first | (obtain ⟨wx, rfl⟩ := Past.again hx) | (obtain ⟨wx, rfl⟩ := Past.ofd hx) | (obtain ⟨wx, rfl⟩ := Past.of hx)))) | (go_at_call 57; ((with_reducible refine (l00In_c _ _ _ _).mono ?_); rintro e w' ⟨rfl, rfl⟩)) | (go_at_call 51; ((with_reducible refine (HC0.out _ (by repeat (first | with_reducible exact Ext.refl _ | with_reducible assumption | with_reducible refine Ext.alloc ?_ _ | with_reducible refine Ext.drew ?_ | (with_reducible refine Ext.setAt ?_ _ _ _ ?_; rotate_left; omega) | with_reducible refine Ext.trans ?_ (by assumption) | with_reducible exact Past.bel _ | with_reducible refine Ext.trans ?_ (Past.bel _)))).mono ?_); rintro e w' ⟨rfl, hx⟩; (first | (obtain ⟨wx, rfl⟩ := Past.again hx) | (obtain ⟨wx, rfl⟩ := Past.ofd hx) | (obtain ⟨wx, rfl⟩ := Past.of hx)))))
          go_loopw [8] (fun q wr => ∃ j : Nat, q = .int .i64 (j : Nat) ∧ j ≤ 2001 ∧ (∀ i : Nat, i ≤ j → inS n wd (t - i) = true ∧ need ≤ pullF wd pl (t - i)) ∧ Ext (w.alloc (.cells #[.slice a n c] 26)) wr) (fun q _ => 3000 - (intOf q).toNat)
          case atStart => exact ⟨0, rfl, by omega, HO.out, (by repeat (first | with_reducible exact Ext.refl _ | with_reducible assumption | with_reducible refine Ext.alloc ?_ _ | with_reducible refine Ext.drew ?_ | (with_reducible refine Ext.setAt ?_ _ _ _ ?_; rotate_left; omega) | with_reducible refine Ext.trans ?_ (by assumption) | with_reducible exact Past.bel _ | with_reducible refine Ext.trans ?_ (Past.bel _)))⟩
          case round =>
            obtain ⟨j, rfl, hj, hok, hbl⟩ := hrel
            have OK := Lib.hid hok
            have hz := hbl.size
            simp only [World.size_alloc] at hz
            have hg : w.heap.size < wr.heap.size := by omega
            have p0 : wr.cell? ⟨w.heap.size, 0, none⟩ = some (.slice a n c) := by rw [hbl.cell (by simp)]; simp [go_sem]
            have hxw : Ext w wr := Ext.trans (by repeat (first | with_reducible exact Ext.refl _ | with_reducible assumption | with_reducible refine Ext.alloc ?_ _ | with_reducible refine Ext.drew ?_ | (with_reducible refine Ext.setAt ?_ _ _ _ ?_; rotate_left; omega) | with_reducible refine Ext.trans ?_ (by assumption) | with_reducible exact Past.bel _ | with_reducible refine Ext.trans ?_ (Past.bel _))) hbl
            have hjt := B.out.inS (hok j (Nat.le_refl _)).1
            clear hok
            have hin := OK.out j (Nat.le_refl _)
            have hin2 := inB_t.1 hin.1
            obtain ⟨F0, hF0⟩ : ∃ F, F = wd 0 := ⟨_, rfl⟩
            have HF := Lib.hid (fun W (hq : Ext w W) => (hF0 ▸ l13First_c hn1 (HS.out.ext hq) : Calls Try.prog 68 #[.agg #[.slice a n c]] W fun e w' => e = .returned (.int .i64 F0) ∧ Ext W w'))
            rw [← hF0] at hin2
            have HF0 := Lib.hid hF0
            clear hin hF0
            cases h5 : inS n wd (t - (j : Int) - 1)
            · have hno : t - (j : Int) ≤ F0 := by
                rcases Int.lt_or_le F0 (t - (j : Int)) with h | h
                · have := inB_f.1 h5
                  rw [← HF0.out] at this
                  exact absurd ⟨by omega, by omega⟩ this
                · exact h
              have HR := Lib.hid (HD.out j ⟨OK.out, by rw [h5]; simp⟩)
              go_wp2_with (go_at_call 68; ((with_reducible refine (HF.out _ (by repeat (first | with_reducible exact Ext.refl _ | with_reducible assumption | with_reducible refine Ext.alloc ?_ _ | with_reducible refine Ext.drew ?_ | (with_reducible refine Ext.setAt ?_ _ _ _ ?_; rotate_left; omega) | with_reducible refine Ext.trans ?_ (by assumption) | with_reducible exact Past.bel _ | with_reducible refine Ext.trans ?_ (Past.bel _)))).mono ?_); rintro e w' ⟨rfl, hx⟩; (first | (obtain ⟨wx, rfl⟩ := Past.again hx) | (obtain ⟨wx, rfl⟩ := Past.ofd hx) | (obtain ⟨wx, rfl⟩ := Past.of hx))))
              go_ret2
              exact ⟨ret_two (congrArg (Value.int IntKind.i64) HR.out.1) (congrArg (Value.int IntKind.i64) HR.out.2), (by repeat (first | with_reducible exact Ext.refl _ | with_reducible assumption | with_reducible refine Ext.alloc ?_ _ | with_reducible refine Ext.drew ?_ | (with_reducible refine Ext.setAt ?_ _ _ _ ?_; rotate_left; omega) | with_reducible refine Ext.trans ?_ (by assumption) | with_reducible exact Past.bel _ | with_reducible refine Ext.trans ?_ (Past.bel _)))⟩
            · have hyes : F0 < t - (j : Int) := by have := inB_t.1 h5; rw [← HF0.out] at this; omega
              have H5 := Lib.hid h5
              obtain ⟨P1, hP1⟩ : ∃ P, P = pullF wd pl (t - (j : Int) - 1) := ⟨_, rfl⟩
              have HP1 := Lib.hid hP1
              have HC1 := Lib.hid (fun W (hq : Ext w W) => (hP1 ▸ l13At_c B.out (HS.out.ext hq) H5.out : Calls Try.prog 51 #[.agg #[.slice a n c], .int .i64 (t - (j : Int) - 1)] W fun e w' => e = .returned (.int .i64 P1) ∧ Ext W w'))
              clear hP1
              by_cases h6 : need ≤ P1
              · have HN := Lib.hid (show ∀ i : Nat, i ≤ j + 1 → inS n wd (t - i) = true ∧ need ≤ pullF wd pl (t - i) from fun i hi => by
                  by_cases e : i = j + 1
                  · subst e
                    have e2 : t - ((j + 1 : Nat) : Int) = t - j - 1 := by omega
                    rw [e2]; exact ⟨H5.out, by rw [← HP1.out]; exact h6⟩
                  · exact OK.out i (by omega))
                have hj2 := B.out.inS h5
                go_wp2_with (first | (go_at_call 68; ((with_reducible refine (HF.out _ (by repeat (first | with_reducible exact Ext.refl _ | with_reducible assumption | with_reducible refine Ext.alloc ?_ _ | with_reducible refine Ext.drew ?_ | (with_reducible refine Ext.setAt ?_ _ _ _ ?_; rotate_left; omega) | with_reducible refine Ext.trans ?_ (by assumption) | with_reducible exact Past.bel _ | with_reducible refine Ext.trans ?_ (Past.bel _)))).mono ?_); rintro e w' ⟨rfl, hx⟩; (first | (obtain ⟨wx, rfl⟩ := Past.again hx) | (obtain ⟨wx, rfl⟩ := Past.ofd hx) | (obtain ⟨wx, rfl⟩ := Past.of hx)))) | (go_at_call 51; ((with_reducible refine (HC1.out _ (by repeat (first | with_reducible exact Ext.refl _ | with_reducible assumption | with_reducible refine Ext.alloc ?_ _ | with_reducible refine Ext.drew ?_ | (with_reducible refine Ext.setAt ?_ _ _ _ ?_; rotate_left; omega) | with_reducible refine Ext.trans ?_ (by assumption) | with_reducible exact Past.bel _ | with_reducible refine Ext.trans ?_ (Past.bel _)))).mono ?_); rintro e w' ⟨rfl, hx⟩; (first | (obtain ⟨wx, rfl⟩ := Past.again hx) | (obtain ⟨wx, rfl⟩ := Past.ofd hx) | (obtain ⟨wx, rfl⟩ := Past.of hx)))))
                exact ⟨⟨j + 1, by go_num, by omega, HN.out, (by repeat (first | with_reducible exact Ext.refl _ | with_reducible assumption | with_reducible refine Ext.alloc ?_ _ | with_reducible refine Ext.drew ?_ | (with_reducible refine Ext.setAt ?_ _ _ _ ?_; rotate_left; omega) | with_reducible refine Ext.trans ?_ (by assumption) | with_reducible exact Past.bel _ | with_reducible refine Ext.trans ?_ (Past.bel _)))⟩, by simp [intOf]; omega⟩
              · have HR := Lib.hid (HD.out j ⟨OK.out, fun hc => h6 (by rw [HP1.out]; exact hc.2)⟩)
                go_wp2_with (first | (go_at_call 68; ((with_reducible refine (HF.out _ (by repeat (first | with_reducible exact Ext.refl _ | with_reducible assumption | with_reducible refine Ext.alloc ?_ _ | with_reducible refine Ext.drew ?_ | (with_reducible refine Ext.setAt ?_ _ _ _ ?_; rotate_left; omega) | with_reducible refine Ext.trans ?_ (by assumption) | with_reducible exact Past.bel _ | with_reducible refine Ext.trans ?_ (Past.bel _)))).mono ?_); rintro e w' ⟨rfl, hx⟩; (first | (obtain ⟨wx, rfl⟩ := Past.again hx) | (obtain ⟨wx, rfl⟩ := Past.ofd hx) | (obtain ⟨wx, rfl⟩ := Past.of hx)))) | (go_at_call 51; ((with_reducible refine (HC1.out _ (by repeat (first | with_reducible exact Ext.refl _ | with_reducible assumption | with_reducible refine Ext.alloc ?_ _ | with_reducible refine Ext.drew ?_ | (with_reducible refine Ext.setAt ?_ _ _ _ ?_; rotate_left; omega) | with_reducible refine Ext.trans ?_ (by assumption) | with_reducible exact Past.bel _ | with_reducible refine Ext.trans ?_ (Past.bel _)))).mono ?_); rintro e w' ⟨rfl, hx⟩; (first | (obtain ⟨wx, rfl⟩ := Past.again hx) | (obtain ⟨wx, rfl⟩ := Past.ofd hx) | (obtain ⟨wx, rfl⟩ := Past.of hx)))))
                go_ret2
                exact ⟨ret_two (congrArg (Value.int IntKind.i64) HR.out.1) (congrArg (Value.int IntKind.i64) HR.out.2), (by repeat (first | with_reducible exact Ext.refl _ | with_reducible assumption | with_reducible refine Ext.alloc ?_ _ | with_reducible refine Ext.drew ?_ | (with_reducible refine Ext.setAt ?_ _ _ _ ?_; rotate_left; omega) | with_reducible refine Ext.trans ?_ (by assumption) | with_reducible exact Past.bel _ | with_reducible refine Ext.trans ?_ (Past.bel _)))⟩
end
end Go.Proofs.Ytglcjnplmhelhaa

namespace Go.Proofs.Ytglcjnplmhelhaa
open Go.RowKit
set_option linter.unusedVariables false
set_option linter.unusedSimpArgs false

theorem ceil_eq {m r : Int} (hr : 0 < r) : -(-m / r) = (m + r - 1) / r := by
  have h1 := Int.mul_ediv_add_emod (-m) r
  have h2 := Int.emod_nonneg (-m) (show r ≠ 0 by omega)
  have h3 := Int.emod_lt_of_pos (-m) hr
  obtain ⟨q, hq⟩ : ∃ q, q = -m / r := ⟨_, rfl⟩
  rw [← hq] at h1 ⊢
  have e4 : m + r - 1 = (r - 1 - (-m % r)) + r * (-q) := by grind
  rw [e4, Int.add_mul_ediv_left _ _ (by omega), Int.ediv_eq_zero_of_lt (by omega) (by omega)]; omega
def wfB (m r : Int) : Bool := inB m 0 1000000000 && inB r 1 10000
def wfV (m r : Int) : Int := if wfB m r then (m + r - 1) / r else 0
def wfC (m r : Int) : Int := if wfB m r then 0 else 2
theorem ceilDiv_c (m r : Int) (w : World) (hr : 1 ≤ r) (hr2 : r ≤ 10000) (h0 : 0 ≤ m) (h1 : m ≤ 1000000000) :
    Calls Try.prog 56 #[.int .i64 m, .int .i64 r] w fun e w' => e = .returned (.int .i64 ((m + r - 1) / r)) ∧ w = w' := by
  rw [← ceil_eq (show 0 < r by omega)]
  have hb := ediv_bd (N := 9223372036854775807) (show 0 < r by omega) (show -9223372036854775807 ≤ -m by omega) (by omega) (by omega)
  obtain ⟨q, hq⟩ : ∃ q, q = -m / r := ⟨_, rfl⟩
  have HC := Lib.hid (fun W => (hq ▸ floorDiv_c (-m) r W (by omega) (by omega) (by omega) : Calls Try.prog 74 #[.int .i64 (-m), .int .i64 r] W fun e w' => e = .returned (.int .i64 q) ∧ W = w'))
  rw [← hq] at hb ⊢
  clear hq
  go_enter Try.func56, Try.ntmps56
  go_wp2_with (go_at_call 74; ((with_reducible refine (HC.out _).mono ?_); rintro e w' ⟨rfl, rfl⟩))
  go_ret
  exact ⟨rfl, rfl⟩
theorem implWeightFor_c (m r : Int) (w : World) :
    Calls Try.prog 16 #[.int .i64 m, .int .i64 r] w fun e w' => e = .returned (.tuple #[.int .i64 (wfV m r), .int .i64 (wfC m r)]) ∧ w = w' := by
  cases h1 : inB m 0 1000000000
  · go_enter Try.func16, Try.ntmps16
    go_wp2_with (go_at_call 52; ((with_reducible refine (within_c _ _ _ _).mono ?_); rintro e w' ⟨rfl, rfl⟩))
    go_ret2
    exact ⟨by rw [wfV, wfC, wfB, h1]; rfl, rfl⟩
  · cases h2 : inB r 1 10000
    · go_enter Try.func16, Try.ntmps16
      go_wp2_with (go_at_call 52; ((with_reducible refine (within_c _ _ _ _).mono ?_); rintro e w' ⟨rfl, rfl⟩))
      go_ret2
      exact ⟨by rw [wfV, wfC, wfB, h1, h2]; rfl, rfl⟩
    · have h1' := inB_t.1 h1
      have h2' := inB_t.1 h2
      go_enter Try.func16, Try.ntmps16
      go_wp2_with (first | (go_at_call 52; ((with_reducible refine (within_c _ _ _ _).mono ?_); rintro e w' ⟨rfl, rfl⟩)) | (go_at_call 56; ((with_reducible refine (ceilDiv_c _ _ _ (by omega) (by omega) (by omega) (by omega)).mono ?_); rintro e w' ⟨rfl, rfl⟩)))
      go_ret2
      exact ⟨by rw [wfV, wfC, wfB, h1, h2]; rfl, rfl⟩
theorem specWeightFor_c (m r : Int) (w : World) :
    Calls Try.prog 17 #[.int .i64 m, .int .i64 r] w fun e w' => e = .returned (.tuple #[.int .i64 (wfV m r), .int .i64 (wfC m r)]) ∧ w = w' := by
  cases h1 : inB m 0 1000000000
  · go_enter Try.func17, Try.ntmps17
    go_wp2_with (go_at_call 57; ((with_reducible refine (l00In_c _ _ _ _).mono ?_); rintro e w' ⟨rfl, rfl⟩))
    go_ret2
    exact ⟨by rw [wfV, wfC, wfB, h1]; rfl, rfl⟩
  · cases h2 : inB r 1 10000
    · go_enter Try.func17, Try.ntmps17
      go_wp2_with (go_at_call 57; ((with_reducible refine (l00In_c _ _ _ _).mono ?_); rintro e w' ⟨rfl, rfl⟩))
      go_ret2
      exact ⟨by rw [wfV, wfC, wfB, h1, h2]; rfl, rfl⟩
    · have h1' := inB_t.1 h1
      have h2' := inB_t.1 h2
      obtain ⟨S, hS⟩ : ∃ S, S = m + r - 1 := ⟨_, rfl⟩
      have t1 : (m + r - 1).tdiv r = (m + r - 1) / r := Int.tdiv_eq_ediv_of_nonneg (by omega)
      have hb := ediv_bd (N := 9223372036854775807) (show 0 < r by omega) (show -9223372036854775807 ≤ m + r - 1 by omega) (by omega) (by omega)
      go_enter Try.func17, Try.ntmps17
      go_wp2_with (go_at_call 57; ((with_reducible refine (l00In_c _ _ _ _).mono ?_); rintro e w' ⟨rfl, rfl⟩))
      go_ret2
      exact ⟨by rw [wfV, wfC, wfB, h1, h2]; rfl, rfl⟩
end Go.Proofs.Ytglcjnplmhelhaa

namespace Go.Proofs.Ytglcjnplmhelhaa
open Go.RowKit
set_option linter.unusedVariables false
set_option linter.unusedSimpArgs false

/-- what BestStopwork returns -/
def bsB (n : Nat) (wd : Nat → Int) (wid : Int) : Bool := inB wid 1 (wd (n - 1) - wd 0)
def bsV (n : Nat) (wd pl : Nat → Int) (wid : Int) : Int := if spV n wd pl && bsB n wd wid then bstF wd pl wid (wd 0) (wd (n - 1) - wid - wd 0).toNat else 0
def bsC (n : Nat) (wd pl : Nat → Int) (wid : Int) : Int := if spV n wd pl then (if bsB n wd wid then 0 else 2) else 1
/-- the best so far and its difference, as the program keeps them -/
def bsI (wd pl : Nat → Int) (wid A : Int) : Nat → Int × Int
  | 0 => (0, -1)
  | i + 1 => (bstF wd pl wid A i, winD wd pl wid (bstF wd pl wid A i))
theorem bsI_step (wd pl : Nat → Int) (wid A : Int) (i : Nat) (h : ∀ j : Nat, j ≤ i → 0 ≤ winD wd pl wid (A + j)) : bsI wd pl wid A (i + 1) = if (bsI wd pl wid A i).2 < 0 ∨ winD wd pl wid (A + i) < (bsI wd pl wid A i).2 then (A + i, winD wd pl wid (A + i)) else bsI wd pl wid A i := by
  cases i with
  | zero => simp [bsI, bstF]
  | succ j =>
    have hb := bstF_in wd pl wid A j
    have e : bstF wd pl wid A j = A + ((bstF wd pl wid A j - A).toNat : Nat) := by omega
    have h1 := h (bstF wd pl wid A j - A).toNat (by omega)
    rw [← e] at h1
    have e2 : A + ((j + 1 : Nat) : Int) = A + (j : Int) + 1 := by omega
    rw [e2]
    by_cases c : winD wd pl wid (A + (j : Int) + 1) < winD wd pl wid (bstF wd pl wid A j)
    · have e3 : bstF wd pl wid A (j + 1) = A + (j : Int) + 1 := by simp only [bstF]; rw [if_pos c]
      show (bstF wd pl wid A (j + 1), winD wd pl wid (bstF wd pl wid A (j + 1))) = _
      rw [e3, if_pos (.inr c)]
    · have e3 : bstF wd pl wid A (j + 1) = bstF wd pl wid A j := by simp only [bstF]; rw [if_neg c]
      show (bstF wd pl wid A (j + 1), winD wd pl wid (bstF wd pl wid A (j + 1))) = _
      rw [e3]
      exact (if_neg (show ¬ ((bsI wd pl wid A (j + 1)).2 < 0 ∨ winD wd pl wid (A + (j : Int) + 1) < (bsI wd pl wid A (j + 1)).2) from by
        show ¬ (winD wd pl wid (bstF wd pl wid A j) < 0 ∨ winD wd pl wid (A + (j : Int) + 1) < winD wd pl wid (bstF wd pl wid A j))
        omega)).symm
section
variable {a : Option Addr} {n c : Nat} {wd pl : Nat → Int} {w : World}
set_option maxHeartbeats 4000000 in
theorem implBestStopwork_c (hn : n ≤ 1048576) (hs : S2 w a n wd pl) (wid : Int) :
    Calls Try.prog 42 #[.agg #[.slice a n c], .int .i64 wid] w fun e w' => e = .returned (.tuple #[.int .i64 (bsV n wd pl wid), .int .i64 (bsC n wd pl wid)]) ∧ Ext w w' := by
  have HS := Lib.hid hs
  clear hs
  cases h1 : spV n wd pl
  · go_enter Try.func42, Try.ntmps42
    go_wp2_with (go_at_call 13; ((with_reducible refine (validSpring_c hn (HS.out.ext (by repeat (first | with_reducible exact Ext.refl _ | with_reducible assumption | with_reducible refine Ext.alloc ?_ _ | with_reducible refine Ext.drew ?_ | (with_reducible refine Ext.setAt ?_ _ _ _ ?_; rotate_left; omega) | with_reducible refine Ext.trans ?_ (by assumption) | with_reducible exact Past.bel _ | with_reducible refine Ext.trans ?_ (Past.bel _))))).mono ?_); rintro e w' ⟨rfl, hx⟩; (first | (obtain ⟨wx, rfl⟩ := Past.again hx) | (obtain ⟨wx, rfl⟩ := Past.ofd hx) | (obtain ⟨wx, rfl⟩ := Past.of hx))))
    go_ret2
    exact ⟨by rw [bsV, bsC, h1]; rfl, (by repeat (first | with_reducible exact Ext.refl _ | with_reducible assumption | with_reducible refine Ext.alloc ?_ _ | with_reducible refine Ext.drew ?_ | (with_reducible refine Ext.setAt ?_ _ _ _ ?_; rotate_left; omega) | with_reducible refine Ext.trans ?_ (by assumption) | with_reducible exact Past.bel _ | with_reducible refine Ext.trans ?_ (Past.bel _)))⟩
  · have B := Lib.hid (spV_b h1)
    have hn1 : 1 ≤ n := by have := B.out.n2; omega
    have b0 := B.out.wb 0 (by omega)
    have bz := B.out.wb (n - 1) (by omega)
    obtain ⟨A, hA⟩ : ∃ A, A = wd 0 := ⟨_, rfl⟩
    obtain ⟨Z, hZ⟩ : ∃ Z, Z = wd (n - 1) := ⟨_, rfl⟩
    have HF := Lib.hid (fun W (hq : Ext w W) => (hA ▸ firstOf_c hn1 (HS.out.ext hq) : Calls Try.prog 71 #[.agg #[.slice a n c]] W fun e w' => e = .returned (.int .i64 A) ∧ Ext W w'))
    have HL := Lib.hid (fun W (hq : Ext w W) => (hZ ▸ lastOf_c hn1 hn (HS.out.ext hq) : Calls Try.prog 70 #[.agg #[.slice a n c]] W fun e w' => e = .returned (.int .i64 Z) ∧ Ext W w'))
    rw [← hA] at b0
    rw [← hZ] at bz
    have hbB : bsB n wd wid = inB wid 1 (Z - A) := by rw [bsB, hA, hZ]
    have HB := Lib.hid hbB
    have HAZ := Lib.hid (And.intro hA hZ)
    clear hA hZ hbB
    cases h2 : inB wid 1 (Z - A)
    · go_enter Try.func42, Try.ntmps42
      go_wp2_with (go_at_call 13; ((with_reducible refine (validSpring_c hn (HS.out.ext (by repeat (first | with_reducible exact Ext.refl _ | with_reducible assumption | with_reducible refine Ext.alloc ?_ _ | with_reducible refine Ext.drew ?_ | (with_reducible refine Ext.setAt ?_ _ _ _ ?_; rotate_left; omega) | with_reducible refine Ext.trans ?_ (by assumption) | with_reducible exact Past.bel _ | with_reducible refine Ext.trans ?_ (Past.bel _))))).mono ?_); rintro e w' ⟨rfl, hx⟩; (first | (obtain ⟨wx, rfl⟩ := Past.again hx) | (obtain ⟨wx, rfl⟩ := Past.ofd hx) | (obtain ⟨wx, rfl⟩ := Past.of hx))))
      refine wp_region_past (by kernel_rfl) (by kernel_rfl) ?_
      repeat (go_big_quiet_step (first | (go_at_call 71; exact Calls.past (HF.out _ (by repeat (first | with_reducible exact Ext.refl _ | with_reducible assumption | with_reducible refine Ext.alloc ?_ _ | with_reducible refine Ext.drew ?_ | (with_reducible refine Ext.setAt ?_ _ _ _ ?_; rotate_left; omega) | with_reducible refine Ext.trans ?_ (by assumption) | with_reducible exact Past.bel _ | with_reducible refine Ext.trans ?_ (Past.bel _))))) | (go_at_call 70; exact Calls.past (HL.out _ (by repeat (first | with_reducible exact Ext.refl _ | with_reducible assumption | with_reducible refine Ext.alloc ?_ _ | with_reducible refine Ext.drew ?_ | (with_reducible refine Ext.setAt ?_ _ _ _ ?_; rotate_left; omega) | with_reducible refine Ext.trans ?_ (by assumption) | with_reducible exact Past.bel _ | with_reducible refine Ext.trans ?_ (Past.bel _))))) | (go_at_call 52; exact Calls.past_same (within_c _ _ _ _))))
      refine wpQuiet_nil ?_
      rintro _ ⟨wx, rfl⟩
      go_wp2_with fail
      go_ret2
      exact ⟨by rw [bsV, bsC, HB.out, h1, h2]; rfl, (by repeat (first | with_reducible exact Ext.refl _ | with_reducible assumption | with_reducible refine Ext.alloc ?_ _ | with_reducible refine Ext.drew ?_ | (with_reducible refine Ext.setAt ?_ _ _ _ ?_; rotate_left; omega) | with_reducible refine Ext.trans ?_ (by assumption) | with_reducible exact Past.bel _ | with_reducible refine Ext.trans ?_ (Past.bel _)))⟩
    · have h2' := inB_t.1 h2
      obtain ⟨M, hM⟩ : ∃ M : Nat, (M : Int) = Z - wid - A := ⟨(Z - wid - A).toNat, by omega⟩
      have hin : ∀ x : Int, A ≤ x → x ≤ Z → inS n wd x = true := fun x hx hy => by
        obtain ⟨q1, q2⟩ := HAZ.out
        exact inB_t.2 ⟨by omega, by omega⟩
      have HI := Lib.hid hin
      have hge : ∀ i : Nat, i ≤ M → 0 ≤ winD wd pl wid (A + i) := fun i hi => by
        have := B.out.mono (hin (A + i) (by omega) (by omega)) (hin (A + i + wid) (by omega) (by omega)) (by omega)
        unfold winD; omega
      have HG := Lib.hid hge
      have hv : bsV n wd pl wid = (bsI wd pl wid A (M + 1)).1 := by
        rw [bsV, HB.out, h1, h2, ← HAZ.out.1, ← HAZ.out.2, ← hM]; rfl
      have hc : bsC n wd pl wid = 0 := by rw [bsC, HB.out, h1, h2]; rfl
      rw [hv, hc]
      clear hin hge hv hc
      go_enter Try.func42, Try.ntmps42
      go_wp2_with (go_at_call 13; ((with_reducible refine (validSpring_c hn (HS.out.ext (by repeat (first | with_reducible exact Ext.refl _ | with_reducible assumption | with_reducible refine Ext.alloc ?_ _ | with_reducible refine Ext.drew ?_ | (with_reducible refine Ext.setAt ?_ _ _ _ ?_; rotate_left; omega) | with_reducible refine Ext.trans ?_ (by assumption) | with_reducible exact Past.bel _ | with_reducible refine Ext.trans ?_ (Past.bel _))))).mono ?_); rintro e w' ⟨rfl, hx⟩; (first | (obtain ⟨wx, rfl⟩ := Past.again hx) | (obtain ⟨wx, rfl⟩ := Past.ofd hx) | (obtain ⟨wx, rfl⟩ := Past.of hx))))
      refine wp_region_past (by kernel_rfl) (by kernel_rfl) ?_
      repeat (go_big_quiet_step (first | (go_at_call 71; exact Calls.past (HF.out _ (by repeat (first | with_reducible exact Ext.refl _ | with_reducible assumption | with_reducible refine Ext.alloc ?_ _ | with_reducible refine Ext.drew ?_ | (with_reducible refine Ext.setAt ?_ _ _ _ ?_; rotate_left; omega) | with_reducible refine Ext.trans ?_ (by assumption) | with_reducible exact Past.bel _ | with_reducible refine Ext.trans ?_ (Past.bel _))))) | (go_at_call 70; exact Calls.past (HL.out _ (by repeat (first | with_reducible exact Ext.refl _ | with_reducible assumption | with_reducible refine Ext.alloc ?_ _ | with_reducible refine Ext.drew ?_ | (with_reducible refine Ext.setAt ?_ _ _ _ ?_; rotate_left; omega) | with_reducible refine Ext.trans ?_ (by assumption) | with_reducible exact Past.bel _ | with_reducible refine Ext.trans ?_ (Past.bel _))))) | (go_at_call 52; exact Calls.past_same (within_c _ _ _ _))))
      refine wpQuiet_nil ?_
      rintro _ ⟨wx, rfl⟩
      go_wp2_with (go_at_call 71; ((with_reducible refine (HF.out _ (by repeat (first | with_reducible exact Ext.refl _ | with_reducible assumption | with_reducible refine Ext.alloc ?_ _ | with_reducible refine Ext.drew ?_ | (with_reducible refine Ext.setAt ?_ _ _ _ ?_; rotate_left; omega) | with_reducible refine Ext.trans ?_ (by assumption) | with_reducible exact Past.bel _ | with_reducible refine Ext.trans ?_ (Past.bel _)))).mono ?_); rintro e w' ⟨rfl, hx⟩; (first | (obtain ⟨wx, rfl⟩ := Past.again hx) | (obtain ⟨wx, rfl⟩ := Past.ofd hx) | (obtain ⟨wx, rfl⟩ := Past.of hx))))
      go_loopw [6, 7, 8] (fun be le ti wr => ∃ (i : Nat) (T be' le' : Int), T = A + (i : Int) ∧ i ≤ M + 1 ∧ ti = .int .i64 T ∧ be = .int .i64 be' ∧ le = .int .i64 le' ∧ (be', le') = bsI wd pl wid A i ∧ -1 ≤ le' ∧ le' ≤ 1000000 ∧ Ext (w.alloc (.cells #[.slice a n c] 26)) wr) (fun _ _ ti _ => (A + M + 1 - intOf ti).toNat)
      case atStart => exact ⟨0, A, 0, -1, by simp, by omega, rfl, rfl, rfl, rfl, by omega, by omega, (by repeat (first | with_reducible exact Ext.refl _ | with_reducible assumption | with_reducible refine Ext.alloc ?_ _ | with_reducible refine Ext.drew ?_ | (with_reducible refine Ext.setAt ?_ _ _ _ ?_; rotate_left; omega) | with_reducible refine Ext.trans ?_ (by assumption) | with_reducible exact Past.bel _ | with_reducible refine Ext.trans ?_ (Past.bel _)))⟩
      case round =>
        obtain ⟨i, T, be', le', hT, hi, rfl, rfl, rfl, hbl0, l0, l1, hbl⟩ := hrel
        have HT := Lib.hid hT
        have HBI := Lib.hid hbl0
        have hz := hbl.size
        simp only [World.size_alloc] at hz
        have hg : w.heap.size < wr.heap.size := by omega
        have p0 : wr.cell? ⟨w.heap.size, 0, none⟩ = some (.slice a n c) := by rw [hbl.cell (by simp)]; simp [go_sem]
        have hxw : Ext w wr := Ext.trans (by repeat (first | with_reducible exact Ext.refl _ | with_reducible assumption | with_reducible refine Ext.alloc ?_ _ | with_reducible refine Ext.drew ?_ | (with_reducible refine Ext.setAt ?_ _ _ _ ?_; rotate_left; omega) | with_reducible refine Ext.trans ?_ (by assumption) | with_reducible exact Past.bel _ | with_reducible refine Ext.trans ?_ (Past.bel _))) hbl
        have t0 : 0 ≤ T := by omega
        have t1 : T ≤ 2001 := by omega
        clear hbl0
        by_cases hlt : i ≤ M
        · have i1 := HI.out T (by omega) (by omega)
          have i2 := HI.out (T + wid) (by omega) (by omega)
          have u1 : T + wid ≤ Z := by omega
          have I1 := Lib.hid i1
          have I2 := Lib.hid i2
          obtain ⟨P1, hP1⟩ : ∃ P, P = pullF wd pl T := ⟨_, rfl⟩
          obtain ⟨P2, hP2⟩ : ∃ P, P = pullF wd pl (T + wid) := ⟨_, rfl⟩
          have b1 := B.out.pull i1
          have b2 := B.out.pull i2
          have hge := HG.out i hlt
          rw [← hT] at hge
          have hD : winD wd pl wid T = P2 - P1 := by rw [winD, hP1, hP2]
          have hPP : ∀ x, x = T ∨ x = T + wid → ∀ W, Ext w W → Calls Try.prog 48 #[.agg #[.slice a n c], .int .i64 x] W fun e w' => e = .returned (.int .i64 (if x = T then P1 else P2)) ∧ Ext W w' := fun x hx W hq => by
            rcases hx with rfl | rfl
            · rw [if_pos rfl, hP1]; exact pullAt_c B.out (HS.out.ext hq) I1.out
            · rw [if_neg (by omega), hP2]; exact pullAt_c B.out (HS.out.ext hq) I2.out
          have HPP := Lib.hid hPP
          have w1 : (if T = T then P1 else P2) = P1 := if_pos rfl
          have w2 : (if T + wid = T then P1 else P2) = P2 := if_neg (by omega)
          have hst := bsI_step wd pl wid A i (fun j hj => HG.out j (by omega))
          rw [← hT, hD, ← HBI.out] at hst
          rw [← hP1] at b1
          rw [← hP2] at b2
          rw [hD] at hge
          have HST := Lib.hid hst
          clear hPP i1 i2 hP1 hP2 hD hst hT
          by_cases c1 : le' < 0
          · go_wp2_with (go_at_call 70; ((with_reducible refine (HL.out _ (by repeat (first | with_reducible exact Ext.refl _ | with_reducible assumption | with_reducible refine Ext.alloc ?_ _ | with_reducible refine Ext.drew ?_ | (with_reducible refine Ext.setAt ?_ _ _ _ ?_; rotate_left; omega) | with_reducible refine Ext.trans ?_ (by assumption) | with_reducible exact Past.bel _ | with_reducible refine Ext.trans ?_ (Past.bel _)))).mono ?_); rintro e w' ⟨rfl, hx⟩; (first | (obtain ⟨wx, rfl⟩ := Past.again hx) | (obtain ⟨wx, rfl⟩ := Past.ofd hx) | (obtain ⟨wx, rfl⟩ := Past.of hx))))
            refine wp_region_past (by kernel_rfl) (by kernel_rfl) ?_
            repeat (go_big_quiet_step ((go_at_call 48; exact Calls.past (HPP.out _ (by first | exact Or.inl rfl | exact Or.inr rfl) _ (by repeat (first | with_reducible exact Ext.refl _ | with_reducible assumption | with_reducible refine Ext.alloc ?_ _ | with_reducible refine Ext.drew ?_ | (with_reducible refine Ext.setAt ?_ _ _ _ ?_; rotate_left; omega) | with_reducible refine Ext.trans ?_ (by assumption) | with_reducible exact Past.bel _ | with_reducible refine Ext.trans ?_ (Past.bel _)))))))
            refine wpQuiet_nil ?_
            rintro _ ⟨wx, rfl⟩
            go_wp2_with fail
            exact ⟨⟨i + 1, T + 1, T, P2 - P1, by have := HT.out; omega, by omega, rfl, rfl, rfl, by rw [HST.out, if_pos (.inl c1)], by omega, by omega, (by repeat (first | with_reducible exact Ext.refl _ | with_reducible assumption | with_reducible refine Ext.alloc ?_ _ | with_reducible refine Ext.drew ?_ | (with_reducible refine Ext.setAt ?_ _ _ _ ?_; rotate_left; omega) | with_reducible refine Ext.trans ?_ (by assumption) | with_reducible exact Past.bel _ | with_reducible refine Ext.trans ?_ (Past.bel _)))⟩, by have := HT.out; simp [intOf]; omega⟩
          · by_cases c2 : P2 - P1 < le'
            · go_wp2_with (go_at_call 70; ((with_reducible refine (HL.out _ (by repeat (first | with_reducible exact Ext.refl _ | with_reducible assumption | with_reducible refine Ext.alloc ?_ _ | with_reducible refine Ext.drew ?_ | (with_reducible refine Ext.setAt ?_ _ _ _ ?_; rotate_left; omega) | with_reducible refine Ext.trans ?_ (by assumption) | with_reducible exact Past.bel _ | with_reducible refine Ext.trans ?_ (Past.bel _)))).mono ?_); rintro e w' ⟨rfl, hx⟩; (first | (obtain ⟨wx, rfl⟩ := Past.again hx) | (obtain ⟨wx, rfl⟩ := Past.ofd hx) | (obtain ⟨wx, rfl⟩ := Past.of hx))))
              refine wp_region_past (by kernel_rfl) (by kernel_rfl) ?_
              repeat (go_big_quiet_step ((go_at_call 48; exact Calls.past (HPP.out _ (by first | exact Or.inl rfl | exact Or.inr rfl) _ (by repeat (first | with_reducible exact Ext.refl _ | with_reducible assumption | with_reducible refine Ext.alloc ?_ _ | with_reducible refine Ext.drew ?_ | (with_reducible refine Ext.setAt ?_ _ _ _ ?_; rotate_left; omega) | with_reducible refine Ext.trans ?_ (by assumption) | with_reducible exact Past.bel _ | with_reducible refine Ext.trans ?_ (Past.bel _)))))))
              refine wpQuiet_nil ?_
              rintro _ ⟨wx, rfl⟩
              go_wp2_with fail
              exact ⟨⟨i + 1, T + 1, T, P2 - P1, by have := HT.out; omega, by omega, rfl, rfl, rfl, by rw [HST.out, if_pos (.inr c2)], by omega, by omega, (by repeat (first | with_reducible exact Ext.refl _ | with_reducible assumption | with_reducible refine Ext.alloc ?_ _ | with_reducible refine Ext.drew ?_ | (with_reducible refine Ext.setAt ?_ _ _ _ ?_; rotate_left; omega) | with_reducible refine Ext.trans ?_ (by assumption) | with_reducible exact Past.bel _ | with_reducible refine Ext.trans ?_ (Past.bel _)))⟩, by have := HT.out; simp [intOf]; omega⟩
            · have HN := Lib.hid (show ¬ (le' < 0 ∨ P2 - P1 < le') by omega)
              go_wp2_with (go_at_call 70; ((with_reducible refine (HL.out _ (by repeat (first | with_reducible exact Ext.refl _ | with_reducible assumption | with_reducible refine Ext.alloc ?_ _ | with_reducible refine Ext.drew ?_ | (with_reducible refine Ext.setAt ?_ _ _ _ ?_; rotate_left; omega) | with_reducible refine Ext.trans ?_ (by assumption) | with_reducible exact Past.bel _ | with_reducible refine Ext.trans ?_ (Past.bel _)))).mono ?_); rintro e w' ⟨rfl, hx⟩; (first | (obtain ⟨wx, rfl⟩ := Past.again hx) | (obtain ⟨wx, rfl⟩ := Past.ofd hx) | (obtain ⟨wx, rfl⟩ := Past.of hx))))
              refine wp_region_past (by kernel_rfl) (by kernel_rfl) ?_
              repeat (go_big_quiet_step ((go_at_call 48; exact Calls.past (HPP.out _ (by first | exact Or.inl rfl | exact Or.inr rfl) _ (by repeat (first | with_reducible exact Ext.refl _ | with_reducible assumption | with_reducible refine Ext.alloc ?_ _ | with_reducible refine Ext.drew ?_ | (with_reducible refine Ext.setAt ?_ _ _ _ ?_; rotate_left; omega) | with_reducible refine Ext.trans ?_ (by assumption) | with_reducible exact Past.bel _ | with_reducible refine Ext.trans ?_ (Past.bel _)))))))
              refine wpQuiet_nil ?_
              rintro _ ⟨wx, rfl⟩
              go_wp2_with fail
              exact ⟨⟨i + 1, T + 1, be', le', by have := HT.out; omega, by omega, rfl, rfl, rfl, by rw [HST.out, if_neg HN.out], by omega, by omega, (by repeat (first | with_reducible exact Ext.refl _ | with_reducible assumption | with_reducible refine Ext.alloc ?_ _ | with_reducible refine Ext.drew ?_ | (with_reducible refine Ext.setAt ?_ _ _ _ ?_; rotate_left; omega) | with_reducible refine Ext.trans ?_ (by assumption) | with_reducible exact Past.bel _ | with_reducible refine Ext.trans ?_ (Past.bel _)))⟩, by have := HT.out; simp [intOf]; omega⟩
        · have hi2 : i = M + 1 := by omega
          have HR := Lib.hid (show be' = (bsI wd pl wid A (M + 1)).1 by rw [← hi2, ← HBI.out])
          have u1 : Z < T + wid := by omega
          clear hi2 hT
          go_wp2_with (go_at_call 70; ((with_reducible refine (HL.out _ (by repeat (first | with_reducible exact Ext.refl _ | with_reducible assumption | with_reducible refine Ext.alloc ?_ _ | with_reducible refine Ext.drew ?_ | (with_reducible refine Ext.setAt ?_ _ _ _ ?_; rotate_left; omega) | with_reducible refine Ext.trans ?_ (by assumption) | with_reducible exact Past.bel _ | with_reducible refine Ext.trans ?_ (Past.bel _)))).mono ?_); rintro e w' ⟨rfl, hx⟩; (first | (obtain ⟨wx, rfl⟩ := Past.again hx) | (obtain ⟨wx, rfl⟩ := Past.ofd hx) | (obtain ⟨wx, rfl⟩ := Past.of hx))))
          go_ret2
          exact ⟨by rw [HR.out]; rfl, (by repeat (first | with_reducible exact Ext.refl _ | with_reducible assumption | with_reducible refine Ext.alloc ?_ _ | with_reducible refine Ext.drew ?_ | (with_reducible refine Ext.setAt ?_ _ _ _ ?_; rotate_left; omega) | with_reducible refine Ext.trans ?_ (by assumption) | with_reducible exact Past.bel _ | with_reducible refine Ext.trans ?_ (Past.bel _)))⟩
end
end Go.Proofs.Ytglcjnplmhelhaa

namespace Go.Proofs.Ytglcjnplmhelhaa
open Go.RowKit
set_option linter.unusedVariables false
set_option linter.unusedSimpArgs false

section
variable {a : Option Addr} {n c : Nat} {wd pl : Nat → Int} {w : World}
set_option maxHeartbeats 4000000 in
theorem specBestStopwork_c (hn : n ≤ 1048576) (hs : S2 w a n wd pl) (wid : Int) :
    Calls Try.prog 43 #[.agg #[.slice a n c], .int .i64 wid] w fun e w' => e = .returned (.tuple #[.int .i64 (bsV n wd pl wid), .int .i64 (bsC n wd pl wid)]) ∧ Ext w w' := by
  have HS := Lib.hid hs
  clear hs
  cases h1 : spV n wd pl
  · go_enter Try.func43, Try.ntmps43
    go_wp2_with (go_at_call 49; ((with_reducible refine (l13Ok_c hn (HS.out.ext (by repeat (first | with_reducible exact Ext.refl _ | with_reducible assumption | with_reducible refine Ext.alloc ?_ _ | with_reducible refine Ext.drew ?_ | (with_reducible refine Ext.setAt ?_ _ _ _ ?_; rotate_left; omega) | with_reducible refine Ext.trans ?_ (by assumption) | with_reducible exact Past.bel _ | with_reducible refine Ext.trans ?_ (Past.bel _))))).mono ?_); rintro e w' ⟨rfl, hx⟩; (first | (obtain ⟨wx, rfl⟩ := Past.again hx) | (obtain ⟨wx, rfl⟩ := Past.ofd hx) | (obtain ⟨wx, rfl⟩ := Past.of hx))))
    go_ret2
    exact ⟨by rw [bsV, bsC, h1]; rfl, (by repeat (first | with_reducible exact Ext.refl _ | with_reducible assumption | with_reducible refine Ext.alloc ?_ _ | with_reducible refine Ext.drew ?_ | (with_reducible refine Ext.setAt ?_ _ _ _ ?_; rotate_left; omega) | with_reducible refine Ext.trans ?_ (by assumption) | with_reducible exact Past.bel _ | with_reducible refine Ext.trans ?_ (Past.bel _)))⟩
  · have B := Lib.hid (spV_b h1)
    have hn1 : 1 ≤ n := by have := B.out.n2; omega
    have b0 := B.out.wb 0 (by omega)
    have bz := B.out.wb (n - 1) (by omega)
    obtain ⟨A, hA⟩ : ∃ A, A = wd 0 := ⟨_, rfl⟩
    obtain ⟨Z, hZ⟩ : ∃ Z, Z = wd (n - 1) := ⟨_, rfl⟩
    have HF := Lib.hid (fun W (hq : Ext w W) => (hA ▸ l13First_c hn1 (HS.out.ext hq) : Calls Try.prog 68 #[.agg #[.slice a n c]] W fun e w' => e = .returned (.int .i64 A) ∧ Ext W w'))
    have HL := Lib.hid (fun W (hq : Ext w W) => (hZ ▸ l13Last_c hn1 hn (HS.out.ext hq) : Calls Try.prog 69 #[.agg #[.slice a n c]] W fun e w' => e = .returned (.int .i64 Z) ∧ Ext W w'))
    rw [← hA] at b0
    rw [← hZ] at bz
    have hbB : bsB n wd wid = inB wid 1 (Z - A) := by rw [bsB, hA, hZ]
    have HB := Lib.hid hbB
    have HAZ := Lib.hid (And.intro hA hZ)
    clear hA hZ hbB
    cases h2 : inB wid 1 (Z - A)
    · go_enter Try.func43, Try.ntmps43
      go_wp2_with (go_at_call 49; ((with_reducible refine (l13Ok_c hn (HS.out.ext (by repeat (first | with_reducible exact Ext.refl _ | with_reducible assumption | with_reducible refine Ext.alloc ?_ _ | with_reducible refine Ext.drew ?_ | (with_reducible refine Ext.setAt ?_ _ _ _ ?_; rotate_left; omega) | with_reducible refine Ext.trans ?_ (by assumption) | with_reducible exact Past.bel _ | with_reducible refine Ext.trans ?_ (Past.bel _))))).mono ?_); rintro e w' ⟨rfl, hx⟩; (first | (obtain ⟨wx, rfl⟩ := Past.again hx) | (obtain ⟨wx, rfl⟩ := Past.ofd hx) | (obtain ⟨wx, rfl⟩ := Past.of hx))))
      refine wp_region_past (by kernel_rfl) (by kernel_rfl) ?_
      repeat (go_big_quiet_step (first | (go_at_call 68; exact Calls.past (HF.out _ (by repeat (first | with_reducible exact Ext.refl _ | with_reducible assumption | with_reducible refine Ext.alloc ?_ _ | with_reducible refine Ext.drew ?_ | (with_reducible refine Ext.setAt ?_ _ _ _ ?_; rotate_left; omega) | with_reducible refine Ext.trans ?_ (by assumption) | with_reducible exact Past.bel _ | with_reducible refine Ext.trans ?_ (Past.bel _))))) | (go_at_call 69; exact Calls.past (HL.out _ (by repeat (first | with_reducible exact Ext.refl _ | with_reducible assumption | with_reducible refine Ext.alloc ?_ _ | with_reducible refine Ext.drew ?_ | (with_reducible refine Ext.setAt ?_ _ _ _ ?_; rotate_left; omega) | with_reducible refine Ext.trans ?_ (by assumption) | with_reducible exact Past.bel _ | with_reducible refine Ext.trans ?_ (Past.bel _))))) | (go_at_call 57; exact Calls.past_same (l00In_c _ _ _ _))))
      refine wpQuiet_nil ?_
      rintro _ ⟨wx, rfl⟩
      go_wp2_with fail
      go_ret2
      exact ⟨by rw [bsV, bsC, HB.out, h1, h2]; rfl, (by repeat (first | with_reducible exact Ext.refl _ | with_reducible assumption | with_reducible refine Ext.alloc ?_ _ | with_reducible refine Ext.drew ?_ | (with_reducible refine Ext.setAt ?_ _ _ _ ?_; rotate_left; omega) | with_reducible refine Ext.trans ?_ (by assumption) | with_reducible exact Past.bel _ | with_reducible refine Ext.trans ?_ (Past.bel _)))⟩
    · have h2' := inB_t.1 h2
      obtain ⟨M, hM⟩ : ∃ M : Nat, (M : Int) = Z - wid - A := ⟨(Z - wid - A).toNat, by omega⟩
      have hin : ∀ x : Int, A ≤ x → x ≤ Z → inS n wd x = true := fun x hx hy => by
        obtain ⟨q1, q2⟩ := HAZ.out
        exact inB_t.2 ⟨by omega, by omega⟩
      have HI := Lib.hid hin
      have hge : ∀ i : Nat, i ≤ M → 0 ≤ winD wd pl wid (A + i) := fun i hi => by
        have := B.out.mono (hin (A + i) (by omega) (by omega)) (hin (A + i + wid) (by omega) (by omega)) (by omega)
        unfold winD; omega
      have HG := Lib.hid hge
      have hv : bsV n wd pl wid = (bsI wd pl wid A (M + 1)).1 := by
        rw [bsV, HB.out, h1, h2, ← HAZ.out.1, ← HAZ.out.2, ← hM]; rfl
      have hc : bsC n wd pl wid = 0 := by rw [bsC, HB.out, h1, h2]; rfl
      rw [hv, hc]
      clear hin hge hv hc
      go_enter Try.func43, Try.ntmps43
      go_wp2_with (go_at_call 49; ((with_reducible refine (l13Ok_c hn (HS.out.ext (by repeat (first | with_reducible exact Ext.refl _ | with_reducible assumption | with_reducible refine Ext.alloc ?_ _ | with_reducible refine Ext.drew ?_ | (with_reducible refine Ext.setAt ?_ _ _ _ ?_; rotate_left; omega) | with_reducible refine Ext.trans ?_ (by assumption) | with_reducible exact Past.bel _ | with_reducible refine Ext.trans ?_ (Past.bel _))))).mono ?_); rintro e w' ⟨rfl, hx⟩; (first | (obtain ⟨wx, rfl⟩ := Past.again hx) | (obtain ⟨wx, rfl⟩ := Past.ofd hx) | (obtain ⟨wx, rfl⟩ := Past.of hx))))
      refine wp_region_past (by kernel_rfl) (by kernel_rfl) ?_
      repeat (go_big_quiet_step (first | (go_at_call 68; exact Calls.past (HF.out _ (by repeat (first | with_reducible exact Ext.refl _ | with_reducible assumption | with_reducible refine Ext.alloc ?_ _ | with_reducible refine Ext.drew ?_ | (with_reducible refine Ext.setAt ?_ _ _ _ ?_; rotate_left; omega) | with_reducible refine Ext.trans ?_ (by assumption) | with_reducible exact Past.bel _ | with_reducible refine Ext.trans ?_ (Past.bel _))))) | (go_at_call 69; exact Calls.past (HL.out _ (by repeat (first | with_reducible exact Ext.refl _ | with_reducible assumption | with_reducible refine Ext.alloc ?_ _ | with_reducible refine Ext.drew ?_ | (with_reducible refine Ext.setAt ?_ _ _ _ ?_; rotate_left; omega) | with_reducible refine Ext.trans ?_ (by assumption) | with_reducible exact Past.bel _ | with_reducible refine Ext.trans ?_ (Past.bel _))))) | (go_at_call 57; exact Calls.past_same (l00In_c _ _ _ _))))
      refine wpQuiet_nil ?_
      rintro _ ⟨wx, rfl⟩
      have i1 := HI.out A (by omega) (by omega)
      have i2 := HI.out (A + wid) (by omega) (by omega)
      have I1 := Lib.hid i1
      have I2 := Lib.hid i2
      obtain ⟨P1, hP1⟩ : ∃ P, P = pullF wd pl A := ⟨_, rfl⟩
      obtain ⟨P2, hP2⟩ : ∃ P, P = pullF wd pl (A + wid) := ⟨_, rfl⟩
      have b1 := B.out.pull i1
      have b2 := B.out.pull i2
      have hge := HG.out 0 (by omega)
      have eA : A + ((0 : Nat) : Int) = A := by omega
      rw [eA] at hge
      have hD : winD wd pl wid A = P2 - P1 := by rw [winD, hP1, hP2]
      have hPP : ∀ x, x = A ∨ x = A + wid → ∀ W, Ext w W → Calls Try.prog 51 #[.agg #[.slice a n c], .int .i64 x] W fun e w' => e = .returned (.int .i64 (if x = A then P1 else P2)) ∧ Ext W w' := fun x hx W hq => by
        rcases hx with rfl | rfl
        · rw [if_pos rfl, hP1]; exact l13At_c B.out (HS.out.ext hq) I1.out
        · rw [if_neg (by omega), hP2]; exact l13At_c B.out (HS.out.ext hq) I2.out
      have HPP := Lib.hid hPP
      have w1 : (if A = A then P1 else P2) = P1 := if_pos rfl
      have w2 : (if A + wid = A then P1 else P2) = P2 := if_neg (by omega)
      rw [← hP1] at b1
      rw [← hP2] at b2
      rw [hD] at hge
      have HST := Lib.hid (show (A, P2 - P1) = bsI wd pl wid A 1 by rw [← hD]; rfl)
      clear hPP i1 i2 hP1 hP2 hD eA
      go_wp2_with (go_at_call 68; ((with_reducible refine (HF.out _ (by repeat (first | with_reducible exact Ext.refl _ | with_reducible assumption | with_reducible refine Ext.alloc ?_ _ | with_reducible refine Ext.drew ?_ | (with_reducible refine Ext.setAt ?_ _ _ _ ?_; rotate_left; omega) | with_reducible refine Ext.trans ?_ (by assumption) | with_reducible exact Past.bel _ | with_reducible refine Ext.trans ?_ (Past.bel _)))).mono ?_); rintro e w' ⟨rfl, hx⟩; (first | (obtain ⟨wx, rfl⟩ := Past.again hx) | (obtain ⟨wx, rfl⟩ := Past.ofd hx) | (obtain ⟨wx, rfl⟩ := Past.of hx))))
      have p0 : wx.out.cell? ⟨w.heap.size, 0, none⟩ = some (.slice a n c) := by rw [Ext.cell (show Ext (w.alloc (.cells #[.slice a n c] 26)) wx.out from (by repeat (first | with_reducible exact Ext.refl _ | with_reducible assumption | with_reducible refine Ext.alloc ?_ _ | with_reducible refine Ext.drew ?_ | (with_reducible refine Ext.setAt ?_ _ _ _ ?_; rotate_left; omega) | with_reducible refine Ext.trans ?_ (by assumption) | with_reducible exact Past.bel _ | with_reducible refine Ext.trans ?_ (Past.bel _)))) (by simp)]; simp [go_sem]
      have hx0 : Ext (w.alloc (.cells #[.slice a n c] 26)) wx.out := (by repeat (first | with_reducible exact Ext.refl _ | with_reducible assumption | with_reducible refine Ext.alloc ?_ _ | with_reducible refine Ext.drew ?_ | (with_reducible refine Ext.setAt ?_ _ _ _ ?_; rotate_left; omega) | with_reducible refine Ext.trans ?_ (by assumption) | with_reducible exact Past.bel _ | with_reducible refine Ext.trans ?_ (Past.bel _)))
      generalize wx.out = v0 at hx0 p0 ⊢
      have hz0 := hx0.size
      simp only [World.size_alloc] at hz0
      have hg0 : w.heap.size < v0.heap.size := by omega
      have hxw0 : Ext w v0 := Ext.trans (by repeat (first | with_reducible exact Ext.refl _ | with_reducible assumption | with_reducible refine Ext.alloc ?_ _ | with_reducible refine Ext.drew ?_ | (with_reducible refine Ext.setAt ?_ _ _ _ ?_; rotate_left; omega) | with_reducible refine Ext.trans ?_ (by assumption) | with_reducible exact Past.bel _ | with_reducible refine Ext.trans ?_ (Past.bel _))) hx0
      refine wp_region_past (by kernel_rfl) (by kernel_rfl) ?_
      repeat (go_big_quiet_step ((go_at_call 51; exact Calls.past (HPP.out _ (by first | exact Or.inl rfl | exact Or.inr rfl) _ (by repeat (first | with_reducible exact Ext.refl _ | with_reducible assumption | with_reducible refine Ext.alloc ?_ _ | with_reducible refine Ext.drew ?_ | (with_reducible refine Ext.setAt ?_ _ _ _ ?_; rotate_left; omega) | with_reducible refine Ext.trans ?_ (by assumption) | with_reducible exact Past.bel _ | with_reducible refine Ext.trans ?_ (Past.bel _)))))))
      refine wpQuiet_nil ?_
      rintro _ ⟨wx, rfl⟩
      go_wp2_with fail
      clear w1 w2
      go_loopw [6, 7, 8] (fun be le ti wr => ∃ (i : Nat) (T be' le' : Int), T = A + (i : Int) ∧ 1 ≤ i ∧ i ≤ M + 1 ∧ ti = .int .i64 T ∧ be = .int .i64 be' ∧ le = .int .i64 le' ∧ (be', le') = bsI wd pl wid A i ∧ 0 ≤ le' ∧ le' ≤ 1000000 ∧ Ext (w.alloc (.cells #[.slice a n c] 26)) wr) (fun _ _ ti _ => (A + M + 1 - intOf ti).toNat)
      case atStart => exact ⟨1, A + 1, A, P2 - P1, by simp, by omega, by omega, rfl, rfl, rfl, HST.out, by omega, by omega, (by repeat (first | with_reducible exact Ext.refl _ | with_reducible assumption | with_reducible refine Ext.alloc ?_ _ | with_reducible refine Ext.drew ?_ | (with_reducible refine Ext.setAt ?_ _ _ _ ?_; rotate_left; omega) | with_reducible refine Ext.trans ?_ (by assumption) | with_reducible exact Past.bel _ | with_reducible refine Ext.trans ?_ (Past.bel _)))⟩
      case round =>
        clear hge b1 b2 HST HPP I1 I2
        obtain ⟨i, T, be', le', hT, hi1, hi, rfl, rfl, rfl, hbl0, l0, l1, hbl⟩ := hrel
        have HT := Lib.hid hT
        have HBI := Lib.hid hbl0
        have hz := hbl.size
        simp only [World.size_alloc] at hz
        have hg : w.heap.size < wr.heap.size := by omega
        have p0 : wr.cell? ⟨w.heap.size, 0, none⟩ = some (.slice a n c) := by rw [hbl.cell (by simp)]; simp [go_sem]
        have hxw : Ext w wr := Ext.trans (by repeat (first | with_reducible exact Ext.refl _ | with_reducible assumption | with_reducible refine Ext.alloc ?_ _ | with_reducible refine Ext.drew ?_ | (with_reducible refine Ext.setAt ?_ _ _ _ ?_; rotate_left; omega) | with_reducible refine Ext.trans ?_ (by assumption) | with_reducible exact Past.bel _ | with_reducible refine Ext.trans ?_ (Past.bel _))) hbl
        have t0 : 0 ≤ T := by omega
        have t1 : T ≤ 2001 := by omega
        clear hbl0
        by_cases hlt : i ≤ M
        · have i1 := HI.out T (by omega) (by omega)
          have i2 := HI.out (T + wid) (by omega) (by omega)
          have u1 : T + wid ≤ Z := by omega
          have I1 := Lib.hid i1
          have I2 := Lib.hid i2
          obtain ⟨P1, hP1⟩ : ∃ P, P = pullF wd pl T := ⟨_, rfl⟩
          obtain ⟨P2, hP2⟩ : ∃ P, P = pullF wd pl (T + wid) := ⟨_, rfl⟩
          have b1 := B.out.pull i1
          have b2 := B.out.pull i2
          have hge := HG.out i hlt
          rw [← hT] at hge
          have hD : winD wd pl wid T = P2 - P1 := by rw [winD, hP1, hP2]
          have hPP : ∀ x, x = T ∨ x = T + wid → ∀ W, Ext w W → Calls Try.prog 51 #[.agg #[.slice a n c], .int .i64 x] W fun e w' => e = .returned (.int .i64 (if x = T then P1 else P2)) ∧ Ext W w' := fun x hx W hq => by
            rcases hx with rfl | rfl
            · rw [if_pos rfl, hP1]; exact l13At_c B.out (HS.out.ext hq) I1.out
            · rw [if_neg (by omega), hP2]; exact l13At_c B.out (HS.out.ext hq) I2.out
          have HPP := Lib.hid hPP
          have w1 : (if T = T then P1 else P2) = P1 := if_pos rfl
          have w2 : (if T + wid = T then P1 else P2) = P2 := if_neg (by omega)
          have hst := bsI_step wd pl wid A i (fun j hj => HG.out j (by omega))
          rw [← hT, hD, ← HBI.out] at hst
          rw [← hP1] at b1
          rw [← hP2] at b2
          rw [hD] at hge
          have HST := Lib.hid hst
          clear hPP i1 i2 hP1 hP2 hD hst hT
          by_cases c2 : P2 - P1 < le'
          · go_wp2_with (go_at_call 69; ((with_reducible refine (HL.out _ (by repeat (first | with_reducible exact Ext.refl _ | with_reducible assumption | with_reducible refine Ext.alloc ?_ _ | with_reducible refine Ext.drew ?_ | (with_reducible refine Ext.setAt ?_ _ _ _ ?_; rotate_left; omega) | with_reducible refine Ext.trans ?_ (by assumption) | with_reducible exact Past.bel _ | with_reducible refine Ext.trans ?_ (Past.bel _)))).mono ?_); rintro e w' ⟨rfl, hx⟩; (first | (obtain ⟨wx, rfl⟩ := Past.again hx) | (obtain ⟨wx, rfl⟩ := Past.ofd hx) | (obtain ⟨wx, rfl⟩ := Past.of hx))))
            refine wp_region_past (by kernel_rfl) (by kernel_rfl) ?_
            repeat (go_big_quiet_step ((go_at_call 51; exact Calls.past (HPP.out _ (by first | exact Or.inl rfl | exact Or.inr rfl) _ (by repeat (first | with_reducible exact Ext.refl _ | with_reducible assumption | with_reducible refine Ext.alloc ?_ _ | with_reducible refine Ext.drew ?_ | (with_reducible refine Ext.setAt ?_ _ _ _ ?_; rotate_left; omega) | with_reducible refine Ext.trans ?_ (by assumption) | with_reducible exact Past.bel _ | with_reducible refine Ext.trans ?_ (Past.bel _)))))))
            refine wpQuiet_nil ?_
            rintro _ ⟨wx, rfl⟩
            go_wp2_with fail
            exact ⟨⟨i + 1, T + 1, T, P2 - P1, by have := HT.out; omega, by omega, by omega, rfl, rfl, rfl, by rw [HST.out, if_pos (.inr c2)], by omega, by omega, (by repeat (first | with_reducible exact Ext.refl _ | with_reducible assumption | with_reducible refine Ext.alloc ?_ _ | with_reducible refine Ext.drew ?_ | (with_reducible refine Ext.setAt ?_ _ _ _ ?_; rotate_left; omega) | with_reducible refine Ext.trans ?_ (by assumption) | with_reducible exact Past.bel _ | with_reducible refine Ext.trans ?_ (Past.bel _)))⟩, by have := HT.out; simp [intOf]; omega⟩
          · have HN := Lib.hid (show ¬ (le' < 0 ∨ P2 - P1 < le') by omega)
            go_wp2_with (go_at_call 69; ((with_reducible refine (HL.out _ (by repeat (first | with_reducible exact Ext.refl _ | with_reducible assumption | with_reducible refine Ext.alloc ?_ _ | with_reducible refine Ext.drew ?_ | (with_reducible refine Ext.setAt ?_ _ _ _ ?_; rotate_left; omega) | with_reducible refine Ext.trans ?_ (by assumption) | with_reducible exact Past.bel _ | with_reducible refine Ext.trans ?_ (Past.bel _)))).mono ?_); rintro e w' ⟨rfl, hx⟩; (first | (obtain ⟨wx, rfl⟩ := Past.again hx) | (obtain ⟨wx, rfl⟩ := Past.ofd hx) | (obtain ⟨wx, rfl⟩ := Past.of hx))))
            refine wp_region_past (by kernel_rfl) (by kernel_rfl) ?_
            repeat (go_big_quiet_step ((go_at_call 51; exact Calls.past (HPP.out _ (by first | exact Or.inl rfl | exact Or.inr rfl) _ (by repeat (first | with_reducible exact Ext.refl _ | with_reducible assumption | with_reducible refine Ext.alloc ?_ _ | with_reducible refine Ext.drew ?_ | (with_reducible refine Ext.setAt ?_ _ _ _ ?_; rotate_left; omega) | with_reducible refine Ext.trans ?_ (by assumption) | with_reducible exact Past.bel _ | with_reducible refine Ext.trans ?_ (Past.bel _)))))))
            refine wpQuiet_nil ?_
            rintro _ ⟨wx, rfl⟩
            go_wp2_with fail
            exact ⟨⟨i + 1, T + 1, be', le', by have := HT.out; omega, by omega, by omega, rfl, rfl, rfl, by rw [HST.out, if_neg HN.out], by omega, by omega, (by repeat (first | with_reducible exact Ext.refl _ | with_reducible assumption | with_reducible refine Ext.alloc ?_ _ | with_reducible refine Ext.drew ?_ | (with_reducible refine Ext.setAt ?_ _ _ _ ?_; rotate_left; omega) | with_reducible refine Ext.trans ?_ (by assumption) | with_reducible exact Past.bel _ | with_reducible refine Ext.trans ?_ (Past.bel _)))⟩, by have := HT.out; simp [intOf]; omega⟩
        · have hi2 : i = M + 1 := by omega
          have HR := Lib.hid (show be' = (bsI wd pl wid A (M + 1)).1 by rw [← hi2, ← HBI.out])
          have u1 : Z < T + wid := by omega
          clear hi2 hT
          go_wp2_with (go_at_call 69; ((with_reducible refine (HL.out _ (by repeat (first | with_reducible exact Ext.refl _ | with_reducible assumption | with_reducible refine Ext.alloc ?_ _ | with_reducible refine Ext.drew ?_ | (with_reducible refine Ext.setAt ?_ _ _ _ ?_; rotate_left; omega) | with_reducible refine Ext.trans ?_ (by assumption) | with_reducible exact Past.bel _ | with_reducible refine Ext.trans ?_ (Past.bel _)))).mono ?_); rintro e w' ⟨rfl, hx⟩; (first | (obtain ⟨wx, rfl⟩ := Past.again hx) | (obtain ⟨wx, rfl⟩ := Past.ofd hx) | (obtain ⟨wx, rfl⟩ := Past.of hx))))
          go_ret2
          exact ⟨by rw [HR.out]; rfl, (by repeat (first | with_reducible exact Ext.refl _ | with_reducible assumption | with_reducible refine Ext.alloc ?_ _ | with_reducible refine Ext.drew ?_ | (with_reducible refine Ext.setAt ?_ _ _ _ ?_; rotate_left; omega) | with_reducible refine Ext.trans ?_ (by assumption) | with_reducible exact Past.bel _ | with_reducible refine Ext.trans ?_ (Past.bel _)))⟩
end
end Go.Proofs.Ytglcjnplmhelhaa

namespace Go.Proofs.Ytglcjnplmhelhaa
set_option linter.unusedVariables false
/-- the jumps among the first j places -/
def jmp (o : Nat → Int) (least : Int) : Nat → List Int
  | 0 => []
  | j + 1 => if least ≤ absI (o (j + 1) - o j) then jmp o least j ++ [(j : Int) + 1] else jmp o least j
theorem jmp_len (o : Nat → Int) (least : Int) (j : Nat) : (jmp o least j).length ≤ j := by
  induction j with
  | zero => simp [jmp]
  | succ j ih =>
    simp only [jmp]; split
    · rw [List.length_append, List.length_singleton]; omega
    · omega
def jmpCode (n : Nat) (f o : Nat → Int) (least : Int) : Int := if rdV n f o then (if inB least 0 200000 then 0 else 2) else 1
def jmpRes (n : Nat) (f o : Nat → Int) (least : Int) : List Int := if jmpCode n f o least = 0 then jmp o least (n - 1) else []
theorem jmpRes_len (n : Nat) (f o : Nat → Int) (least : Int) : (jmpRes n f o least).length ≤ n := by
  unfold jmpRes; split
  · have := jmp_len o least (n - 1); omega
  · simp
end Go.Proofs.Ytglcjnplmhelhaa

namespace Go.Proofs.Ytglcjnplmhelhaa
open Go.RowKit
set_option linter.unusedVariables false
set_option linter.unusedSimpArgs false

theorem info_i64 : (Try.prog.info? 2).map (fun i => (i.zero, i.size, i.bytes)) = some (some (.int .i64 0), 1, 8) := by kernel_rfl
theorem jmp_t {o : Nat → Int} {least : Int} {j : Nat} (h : least ≤ absI (o (j + 1) - o j)) : (jmp o least j).map (Value.int .i64) ++ [.int .i64 ((j : Int) + 1)] = (jmp o least (j + 1)).map (Value.int .i64) ∧ (jmp o least j).length + 1 = (jmp o least (j + 1)).length := by
  simp [jmp, h]
theorem jmp_f {o : Nat → Int} {least : Int} {j : Nat} (h : absI (o (j + 1) - o j) < least) : jmp o least (j + 1) = jmp o least j := by
  simp only [jmp]; rw [if_neg (Int.not_le.2 h)]
end Go.Proofs.Ytglcjnplmhelhaa

namespace Go.Proofs.Ytglcjnplmhelhaa
set_option linter.unusedVariables false
/-- a function's first j values -/
def outs (F : Nat → Int) : Nat → List Int
  | 0 => []
  | j + 1 => outs F j ++ [F j]
theorem outs_len (F : Nat → Int) (j : Nat) : (outs F j).length = j := by
  induction j with
  | zero => rfl
  | succ j ih => simp [outs, ih]
def rateFn (h o : Nat → Int) (j : Nat) : Int := nearD (24000 * (o (j + 1) - o j)) (h (j + 1) - h j)
def rateCode (n : Nat) (h o : Nat → Int) : Int := if rdV n h o then 0 else 1
def rateRes (n : Nat) (h o : Nat → Int) : List Int := if rdV n h o then outs (rateFn h o) (n - 1) else []
theorem rateRes_len (n : Nat) (h o : Nat → Int) : (rateRes n h o).length ≤ n := by
  unfold rateRes; split
  · rw [outs_len]; omega
  · simp
end Go.Proofs.Ytglcjnplmhelhaa

namespace Go.Proofs.Ytglcjnplmhelhaa
open Go.RowKit
set_option linter.unusedVariables false
set_option linter.unusedSimpArgs false

theorem outs_own {w : World} {b e : Nat} {v : Value} {F : Nat → Int} {j : Nat} (h : w.ownsRow b e 1 v j ((outs F j).map (Value.int .i64))) : w.ownsRow b e 1 v (outs F j).length ((outs F j).map (Value.int .i64)) := by rw [outs_len]; exact h
theorem outs_step (F : Nat → Int) (j : Nat) : (outs F j ++ [F j]).map (Value.int .i64) = (outs F (j + 1)).map (Value.int .i64) := by simp [outs]
end Go.Proofs.Ytglcjnplmhelhaa
