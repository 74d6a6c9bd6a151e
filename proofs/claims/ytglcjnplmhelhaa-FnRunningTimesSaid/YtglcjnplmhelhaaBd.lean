/- PullAt. EnergyBetween. RunningTime: the program. RunningTime: the reference. WeightFor. -/
import Derived.Test.YtglcjnplmhelhaaBb

namespace Go.Proofs.Ytglcjnplmhelhaa
open Go.RowKit
set_option linter.unusedVariables false
set_option linter.unusedSimpArgs false

/-- what PullAt returns -/
def paV (n : Nat) (wd pl : Nat → Int) (t : Int) : Int := if spV n wd pl && inS n wd t then pullF wd pl t else 0
def paC (n : Nat) (wd pl : Nat → Int) (t : Int) : Int := if spV n wd pl then (if inS n wd t then 0 else 2) else 1
section
variable {a : Option Addr} {n c : Nat} {wd pl : Nat → Int} {w : World}
set_option maxHeartbeats 1000000 in
theorem implPullAt_c (hn : n ≤ 1048576) (hs : S2 w a n wd pl) (t : Int) :
    Calls Try.prog 11 #[.agg #[.slice a n c], .int .i64 t] w fun e w' => e = .returned (.tuple #[.int .i64 (paV n wd pl t), .int .i64 (paC n wd pl t)]) ∧ Ext w w' := by
  have HS := Lib.hid hs
  clear hs
  cases h1 : spV n wd pl
  · go_enter Try.func11, Try.ntmps11
    go_wp2_with (go_at_call 13; ((with_reducible refine (validSpring_c hn (HS.out.ext (by repeat (first | with_reducible exact Ext.refl _ | with_reducible assumption | with_reducible refine Ext.alloc ?_ _ | with_reducible refine Ext.drew ?_ | (with_reducible refine Ext.setAt ?_ _ _ _ ?_; rotate_left; omega) | with_reducible refine Ext.trans ?_ (by assumption) | with_reducible exact Past.bel _ | with_reducible refine Ext.trans ?_ (Past.bel _))))).mono ?_); rintro e w' ⟨rfl, hx⟩; (first | (obtain ⟨wx, rfl⟩ := Past.again hx) | (obtain ⟨wx, rfl⟩ := Past.ofd hx) | (obtain ⟨wx, rfl⟩ := Past.of hx))))
    go_ret2
    exact ⟨by simp [paV, paC, h1], (by repeat (first | with_reducible exact Ext.refl _ | with_reducible assumption | with_reducible refine Ext.alloc ?_ _ | with_reducible refine Ext.drew ?_ | (with_reducible refine Ext.setAt ?_ _ _ _ ?_; rotate_left; omega) | with_reducible refine Ext.trans ?_ (by assumption) | with_reducible exact Past.bel _ | with_reducible refine Ext.trans ?_ (Past.bel _)))⟩
  · have B := Lib.hid (spV_b h1)
    have hn1 : 1 ≤ n := by have := B.out.n2; omega
    cases h2 : inS n wd t
    · go_enter Try.func11, Try.ntmps11
      go_wp2_with (first | (go_at_call 13; ((with_reducible refine (validSpring_c hn (HS.out.ext (by repeat (first | with_reducible exact Ext.refl _ | with_reducible assumption | with_reducible refine Ext.alloc ?_ _ | with_reducible refine Ext.drew ?_ | (with_reducible refine Ext.setAt ?_ _ _ _ ?_; rotate_left; omega) | with_reducible refine Ext.trans ?_ (by assumption) | with_reducible exact Past.bel _ | with_reducible refine Ext.trans ?_ (Past.bel _))))).mono ?_); rintro e w' ⟨rfl, hx⟩; (first | (obtain ⟨wx, rfl⟩ := Past.again hx) | (obtain ⟨wx, rfl⟩ := Past.ofd hx) | (obtain ⟨wx, rfl⟩ := Past.of hx)))) | (go_at_call 47; ((with_reducible refine (isPosition_c hn1 hn (HS.out.ext (by repeat (first | with_reducible exact Ext.refl _ | with_reducible assumption | with_reducible refine Ext.alloc ?_ _ | with_reducible refine Ext.drew ?_ | (with_reducible refine Ext.setAt ?_ _ _ _ ?_; rotate_left; omega) | with_reducible refine Ext.trans ?_ (by assumption) | with_reducible exact Past.bel _ | with_reducible refine Ext.trans ?_ (Past.bel _)))) _).mono ?_); rintro e w' ⟨rfl, hx⟩; (first | (obtain ⟨wx, rfl⟩ := Past.again hx) | (obtain ⟨wx, rfl⟩ := Past.ofd hx) | (obtain ⟨wx, rfl⟩ := Past.of hx)))))
      go_ret2
      exact ⟨by simp [paV, paC, h1, h2], (by repeat (first | with_reducible exact Ext.refl _ | with_reducible assumption | with_reducible refine Ext.alloc ?_ _ | with_reducible refine Ext.drew ?_ | (with_reducible refine Ext.setAt ?_ _ _ _ ?_; rotate_left; omega) | with_reducible refine Ext.trans ?_ (by assumption) | with_reducible exact Past.bel _ | with_reducible refine Ext.trans ?_ (Past.bel _)))⟩
    · have H2 := Lib.hid h2
      go_enter Try.func11, Try.ntmps11
      go_wp2_with (first | (go_at_call 13; ((with_reducible refine (validSpring_c hn (HS.out.ext (by repeat (first | with_reducible exact Ext.refl _ | with_reducible assumption | with_reducible refine Ext.alloc ?_ _ | with_reducible refine Ext.drew ?_ | (with_reducible refine Ext.setAt ?_ _ _ _ ?_; rotate_left; omega) | with_reducible refine Ext.trans ?_ (by assumption) | with_reducible exact Past.bel _ | with_reducible refine Ext.trans ?_ (Past.bel _))))).mono ?_); rintro e w' ⟨rfl, hx⟩; (first | (obtain ⟨wx, rfl⟩ := Past.again hx) | (obtain ⟨wx, rfl⟩ := Past.ofd hx) | (obtain ⟨wx, rfl⟩ := Past.of hx)))) | (go_at_call 47; ((with_reducible refine (isPosition_c hn1 hn (HS.out.ext (by repeat (first | with_reducible exact Ext.refl _ | with_reducible assumption | with_reducible refine Ext.alloc ?_ _ | with_reducible refine Ext.drew ?_ | (with_reducible refine Ext.setAt ?_ _ _ _ ?_; rotate_left; omega) | with_reducible refine Ext.trans ?_ (by assumption) | with_reducible exact Past.bel _ | with_reducible refine Ext.trans ?_ (Past.bel _)))) _).mono ?_); rintro e w' ⟨rfl, hx⟩; (first | (obtain ⟨wx, rfl⟩ := Past.again hx) | (obtain ⟨wx, rfl⟩ := Past.ofd hx) | (obtain ⟨wx, rfl⟩ := Past.of hx)))) | (go_at_call 48; ((with_reducible refine (pullAt_c B.out (HS.out.ext (by repeat (first | with_reducible exact Ext.refl _ | with_reducible assumption | with_reducible refine Ext.alloc ?_ _ | with_reducible refine Ext.drew ?_ | (with_reducible refine Ext.setAt ?_ _ _ _ ?_; rotate_left; omega) | with_reducible refine Ext.trans ?_ (by assumption) | with_reducible exact Past.bel _ | with_reducible refine Ext.trans ?_ (Past.bel _)))) H2.out).mono ?_); rintro e w' ⟨rfl, hx⟩; (first | (obtain ⟨wx, rfl⟩ := Past.again hx) | (obtain ⟨wx, rfl⟩ := Past.ofd hx) | (obtain ⟨wx, rfl⟩ := Past.of hx)))))
      go_ret2
      exact ⟨by simp [paV, paC, h1, h2], (by repeat (first | with_reducible exact Ext.refl _ | with_reducible assumption | with_reducible refine Ext.alloc ?_ _ | with_reducible refine Ext.drew ?_ | (with_reducible refine Ext.setAt ?_ _ _ _ ?_; rotate_left; omega) | with_reducible refine Ext.trans ?_ (by assumption) | with_reducible exact Past.bel _ | with_reducible refine Ext.trans ?_ (Past.bel _)))⟩
set_option maxHeartbeats 1000000 in
theorem specPullAt_c (hn : n ≤ 1048576) (hs : S2 w a n wd pl) (t : Int) :
    Calls Try.prog 12 #[.agg #[.slice a n c], .int .i64 t] w fun e w' => e = .returned (.tuple #[.int .i64 (paV n wd pl t), .int .i64 (paC n wd pl t)]) ∧ Ext w w' := by
  have HS := Lib.hid hs
  clear hs
  cases h1 : spV n wd pl
  · go_enter Try.func12, Try.ntmps12
    go_wp2_with (go_at_call 49; ((with_reducible refine (l13Ok_c hn (HS.out.ext (by repeat (first | with_reducible exact Ext.refl _ | with_reducible assumption | with_reducible refine Ext.alloc ?_ _ | with_reducible refine Ext.drew ?_ | (with_reducible refine Ext.setAt ?_ _ _ _ ?_; rotate_left; omega) | with_reducible refine Ext.trans ?_ (by assumption) | with_reducible exact Past.bel _ | with_reducible refine Ext.trans ?_ (Past.bel _))))).mono ?_); rintro e w' ⟨rfl, hx⟩; (first | (obtain ⟨wx, rfl⟩ := Past.again hx) | (obtain ⟨wx, rfl⟩ := Past.ofd hx) | (obtain ⟨wx, rfl⟩ := Past.of hx))))
    go_ret2
    exact ⟨by simp [paV, paC, h1], (by repeat (first | with_reducible exact Ext.refl _ | with_reducible assumption | with_reducible refine Ext.alloc ?_ _ | with_reducible refine Ext.drew ?_ | (with_reducible refine Ext.setAt ?_ _ _ _ ?_; rotate_left; omega) | with_reducible refine Ext.trans ?_ (by assumption) | with_reducible exact Past.bel _ | with_reducible refine Ext.trans ?_ (Past.bel _)))⟩
  · have B := Lib.hid (spV_b h1)
    have hn1 : 1 ≤ n := by have := B.out.n2; omega
    cases h2 : inS n wd t
    · go_enter Try.func12, Try.ntmps12
      go_wp2_with (first | (go_at_call 49; ((with_reducible refine (l13Ok_c hn (HS.out.ext (by repeat (first | with_reducible exact Ext.refl _ | with_reducible assumption | with_reducible refine Ext.alloc ?_ _ | with_reducible refine Ext.drew ?_ | (with_reducible refine Ext.setAt ?_ _ _ _ ?_; rotate_left; omega) | with_reducible refine Ext.trans ?_ (by assumption) | with_reducible exact Past.bel _ | with_reducible refine Ext.trans ?_ (Past.bel _))))).mono ?_); rintro e w' ⟨rfl, hx⟩; (first | (obtain ⟨wx, rfl⟩ := Past.again hx) | (obtain ⟨wx, rfl⟩ := Past.ofd hx) | (obtain ⟨wx, rfl⟩ := Past.of hx)))) | (go_at_call 50; ((with_reducible refine (l13In_c hn1 hn (HS.out.ext (by repeat (first | with_reducible exact Ext.refl _ | with_reducible assumption | with_reducible refine Ext.alloc ?_ _ | with_reducible refine Ext.drew ?_ | (with_reducible refine Ext.setAt ?_ _ _ _ ?_; rotate_left; omega) | with_reducible refine Ext.trans ?_ (by assumption) | with_reducible exact Past.bel _ | with_reducible refine Ext.trans ?_ (Past.bel _)))) _).mono ?_); rintro e w' ⟨rfl, hx⟩; (first | (obtain ⟨wx, rfl⟩ := Past.again hx) | (obtain ⟨wx, rfl⟩ := Past.ofd hx) | (obtain ⟨wx, rfl⟩ := Past.of hx)))))
      go_ret2
      exact ⟨by simp [paV, paC, h1, h2], (by repeat (first | with_reducible exact Ext.refl _ | with_reducible assumption | with_reducible refine Ext.alloc ?_ _ | with_reducible refine Ext.drew ?_ | (with_reducible refine Ext.setAt ?_ _ _ _ ?_; rotate_left; omega) | with_reducible refine Ext.trans ?_ (by assumption) | with_reducible exact Past.bel _ | with_reducible refine Ext.trans ?_ (Past.bel _)))⟩
    · have H2 := Lib.hid h2
      go_enter Try.func12, Try.ntmps12
      go_wp2_with (first | (go_at_call 49; ((with_reducible refine (l13Ok_c hn (HS.out.ext (by repeat (first | with_reducible exact Ext.refl _ | with_reducible assumption | with_reducible refine Ext.alloc ?_ _ | with_reducible refine Ext.drew ?_ | (with_reducible refine Ext.setAt ?_ _ _ _ ?_; rotate_left; omega) | with_reducible refine Ext.trans ?_ (by assumption) | with_reducible exact Past.bel _ | with_reducible refine Ext.trans ?_ (Past.bel _))))).mono ?_); rintro e w' ⟨rfl, hx⟩; (first | (obtain ⟨wx, rfl⟩ := Past.again hx) | (obtain ⟨wx, rfl⟩ := Past.ofd hx) | (obtain ⟨wx, rfl⟩ := Past.of hx)))) | (go_at_call 50; ((with_reducible refine (l13In_c hn1 hn (HS.out.ext (by repeat (first | with_reducible exact Ext.refl _ | with_reducible assumption | with_reducible refine Ext.alloc ?_ _ | with_reducible refine Ext.drew ?_ | (with_reducible refine Ext.setAt ?_ _ _ _ ?_; rotate_left; omega) | with_reducible refine Ext.trans ?_ (by assumption) | with_reducible exact Past.bel _ | with_reducible refine Ext.trans ?_ (Past.bel _)))) _).mono ?_); rintro e w' ⟨rfl, hx⟩; (first | (obtain ⟨wx, rfl⟩ := Past.again hx) | (obtain ⟨wx, rfl⟩ := Past.ofd hx) | (obtain ⟨wx, rfl⟩ := Past.of hx)))) | (go_at_call 51; ((with_reducible refine (l13At_c B.out (HS.out.ext (by repeat (first | with_reducible exact Ext.refl _ | with_reducible assumption | with_reducible refine Ext.alloc ?_ _ | with_reducible refine Ext.drew ?_ | (with_reducible refine Ext.setAt ?_ _ _ _ ?_; rotate_left; omega) | with_reducible refine Ext.trans ?_ (by assumption) | with_reducible exact Past.bel _ | with_reducible refine Ext.trans ?_ (Past.bel _)))) H2.out).mono ?_); rintro e w' ⟨rfl, hx⟩; (first | (obtain ⟨wx, rfl⟩ := Past.again hx) | (obtain ⟨wx, rfl⟩ := Past.ofd hx) | (obtain ⟨wx, rfl⟩ := Past.of hx)))))
      go_ret2
      exact ⟨by simp [paV, paC, h1, h2], (by repeat (first | with_reducible exact Ext.refl _ | with_reducible assumption | with_reducible refine Ext.alloc ?_ _ | with_reducible refine Ext.drew ?_ | (with_reducible refine Ext.setAt ?_ _ _ _ ?_; rotate_left; omega) | with_reducible refine Ext.trans ?_ (by assumption) | with_reducible exact Past.bel _ | with_reducible refine Ext.trans ?_ (Past.bel _)))⟩
end
end Go.Proofs.Ytglcjnplmhelhaa

namespace Go.Proofs.Ytglcjnplmhelhaa
open Go.RowKit
set_option linter.unusedVariables false
set_option linter.unusedSimpArgs false

/-- what EnergyBetween returns -/
def ebB (n : Nat) (wd : Nat → Int) (f t : Int) : Bool := inS n wd f && (inS n wd t && decide (f ≤ t))
def ebV (n : Nat) (wd pl : Nat → Int) (f t : Int) : Int := if spV n wd pl && ebB n wd f t then eng wd pl f (t - f).toNat else 0
def ebC (n : Nat) (wd pl : Nat → Int) (f t : Int) : Int := if spV n wd pl then (if ebB n wd f t then 0 else 2) else 1
theorem eng_le {n : Nat} {wd pl : Nat → Int} (b : SpB n wd pl) {f : Int} (hf : inS n wd f = true) {k : Nat} (hk : inS n wd (f + k) = true) : ∀ j : Nat, j ≤ k → 0 ≤ eng wd pl f j ∧ eng wd pl f j ≤ 2000000 * j := by
  intro j
  induction j with
  | zero => intro _; simp [eng]
  | succ j ih =>
    intro hj
    have h1 := ih (by omega)
    have hin : ∀ i : Nat, i ≤ k → inS n wd (f + i) = true := fun i hi => by
      have h2 := inB_t.1 hf
      have h3 := inB_t.1 hk
      exact inB_t.2 ⟨by omega, by omega⟩
    have h4 := b.pull (hin j (by omega))
    have h5 := b.pull (hin (j + 1) hj)
    have e : f + ((j + 1 : Nat) : Int) = f + (j : Int) + 1 := by omega
    rw [e] at h5
    simp only [eng]
    omega
section
variable {a : Option Addr} {n c : Nat} {wd pl : Nat → Int} {w : World}
set_option maxHeartbeats 4000000 in
theorem implEnergy_c (hn : n ≤ 1048576) (hs : S2 w a n wd pl) (f t : Int) :
    Calls Try.prog 22 #[.agg #[.slice a n c], .int .i64 f, .int .i64 t] w fun e w' => e = .returned (.tuple #[.int .i64 (ebV n wd pl f t), .int .i64 (ebC n wd pl f t)]) ∧ Ext w w' := by
  have HS := Lib.hid hs
  clear hs
  cases h1 : spV n wd pl
  · go_enter Try.func22, Try.ntmps22
    go_wp2_with (go_at_call 13; ((with_reducible refine (validSpring_c hn (HS.out.ext (by repeat (first | with_reducible exact Ext.refl _ | with_reducible assumption | with_reducible refine Ext.alloc ?_ _ | with_reducible refine Ext.drew ?_ | (with_reducible refine Ext.setAt ?_ _ _ _ ?_; rotate_left; omega) | with_reducible refine Ext.trans ?_ (by assumption) | with_reducible exact Past.bel _ | with_reducible refine Ext.trans ?_ (Past.bel _))))).mono ?_); rintro e w' ⟨rfl, hx⟩; (first | (obtain ⟨wx, rfl⟩ := Past.again hx) | (obtain ⟨wx, rfl⟩ := Past.ofd hx) | (obtain ⟨wx, rfl⟩ := Past.of hx))))
    go_ret2
    exact ⟨by simp [ebV, ebC, h1], (by repeat (first | with_reducible exact Ext.refl _ | with_reducible assumption | with_reducible refine Ext.alloc ?_ _ | with_reducible refine Ext.drew ?_ | (with_reducible refine Ext.setAt ?_ _ _ _ ?_; rotate_left; omega) | with_reducible refine Ext.trans ?_ (by assumption) | with_reducible exact Past.bel _ | with_reducible refine Ext.trans ?_ (Past.bel _)))⟩
  · have B := Lib.hid (spV_b h1)
    have hn1 : 1 ≤ n := by have := B.out.n2; omega
    cases h2 : inS n wd f
    · go_enter Try.func22, Try.ntmps22
      go_wp2_with (first | (go_at_call 13; ((with_reducible refine (validSpring_c hn (HS.out.ext (by repeat (first | with_reducible exact Ext.refl _ | with_reducible assumption | with_reducible refine Ext.alloc ?_ _ | with_reducible refine Ext.drew ?_ | (with_reducible refine Ext.setAt ?_ _ _ _ ?_; rotate_left; omega) | with_reducible refine Ext.trans ?_ (by assumption) | with_reducible exact Past.bel _ | with_reducible refine Ext.trans ?_ (Past.bel _))))).mono ?_); rintro e w' ⟨rfl, hx⟩; (first | (obtain ⟨wx, rfl⟩ := Past.again hx) | (obtain ⟨wx, rfl⟩ := Past.ofd hx) | (obtain ⟨wx, rfl⟩ := Past.of hx)))) | (go_at_call 47; ((with_reducible refine (isPosition_c hn1 hn (HS.out.ext (by repeat (first | with_reducible exact Ext.refl _ | with_reducible assumption | with_reducible refine Ext.alloc ?_ _ | with_reducible refine Ext.drew ?_ | (with_reducible refine Ext.setAt ?_ _ _ _ ?_; rotate_left; omega) | with_reducible refine Ext.trans ?_ (by assumption) | with_reducible exact Past.bel _ | with_reducible refine Ext.trans ?_ (Past.bel _)))) _).mono ?_); rintro e w' ⟨rfl, hx⟩; (first | (obtain ⟨wx, rfl⟩ := Past.again hx) | (obtain ⟨wx, rfl⟩ := Past.ofd hx) | (obtain ⟨wx, rfl⟩ := Past.of hx)))))
      go_ret2
      exact ⟨by simp [ebV, ebC, ebB, h1, h2], (by repeat (first | with_reducible exact Ext.refl _ | with_reducible assumption | with_reducible refine Ext.alloc ?_ _ | with_reducible refine Ext.drew ?_ | (with_reducible refine Ext.setAt ?_ _ _ _ ?_; rotate_left; omega) | with_reducible refine Ext.trans ?_ (by assumption) | with_reducible exact Past.bel _ | with_reducible refine Ext.trans ?_ (Past.bel _)))⟩
    · cases h3 : inS n wd t
      · go_enter Try.func22, Try.ntmps22
        go_wp2_with (first | (go_at_call 13; ((with_reducible refine (validSpring_c hn (HS.out.ext (by repeat (first | with_reducible exact Ext.refl _ | with_reducible assumption | with_reducible refine Ext.alloc ?_ _ | with_reducible refine Ext.drew ?_ | (with_reducible refine Ext.setAt ?_ _ _ _ ?_; rotate_left; omega) | with_reducible refine Ext.trans ?_ (by assumption) | with_reducible exact Past.bel _ | with_reducible refine Ext.trans ?_ (Past.bel _))))).mono ?_); rintro e w' ⟨rfl, hx⟩; (first | (obtain ⟨wx, rfl⟩ := Past.again hx) | (obtain ⟨wx, rfl⟩ := Past.ofd hx) | (obtain ⟨wx, rfl⟩ := Past.of hx)))) | (go_at_call 47; ((with_reducible refine (isPosition_c hn1 hn (HS.out.ext (by repeat (first | with_reducible exact Ext.refl _ | with_reducible assumption | with_reducible refine Ext.alloc ?_ _ | with_reducible refine Ext.drew ?_ | (with_reducible refine Ext.setAt ?_ _ _ _ ?_; rotate_left; omega) | with_reducible refine Ext.trans ?_ (by assumption) | with_reducible exact Past.bel _ | with_reducible refine Ext.trans ?_ (Past.bel _)))) _).mono ?_); rintro e w' ⟨rfl, hx⟩; (first | (obtain ⟨wx, rfl⟩ := Past.again hx) | (obtain ⟨wx, rfl⟩ := Past.ofd hx) | (obtain ⟨wx, rfl⟩ := Past.of hx)))))
        go_ret2
        exact ⟨by simp [ebV, ebC, ebB, h1, h2, h3], (by repeat (first | with_reducible exact Ext.refl _ | with_reducible assumption | with_reducible refine Ext.alloc ?_ _ | with_reducible refine Ext.drew ?_ | (with_reducible refine Ext.setAt ?_ _ _ _ ?_; rotate_left; omega) | with_reducible refine Ext.trans ?_ (by assumption) | with_reducible exact Past.bel _ | with_reducible refine Ext.trans ?_ (Past.bel _)))⟩
      · by_cases h4 : f ≤ t
        · obtain ⟨k, hk⟩ : ∃ k : Nat, t = f + (k : Int) := ⟨(t - f).toNat, by omega⟩
          subst hk
          have hf := B.out.inS h2
          have ht := B.out.inS h3
          have hle := Lib.hid (eng_le B.out h2 h3)
          have hin := Lib.hid (fun (i : Nat) (hi : i ≤ k) => show inS n wd (f + (i : Int)) = true from by
            have h5 := inB_t.1 h2
            have h6 := inB_t.1 h3
            exact inB_t.2 ⟨by omega, by omega⟩)
          have hv : ebV n wd pl f (f + (k : Int)) = eng wd pl f k := by
            have e : (f + (k : Int) - f).toNat = k := by omega
            rw [ebV, ebB, h1, h2, h3, decide_eq_true h4, e]; rfl
          have hc : ebC n wd pl f (f + (k : Int)) = 0 := by rw [ebC, ebB, h1, h2, h3, decide_eq_true h4]; rfl
          rw [hv, hc]
          clear hv hc
          go_enter Try.func22, Try.ntmps22
          go_wp2_with (first | (go_at_call 13; ((with_reducible refine (validSpring_c hn (HS.out.ext (by repeat (first | with_reducible exact Ext.refl _ | with_reducible assumption | with_reducible refine Ext.alloc ?_ _ | with_reducible refine Ext.drew ?_ | (with_reducible refine Ext.setAt ?_ _ _ _ ?_; rotate_left; omega) | with_reducible refine Ext.trans ?_ (by assumption) | with_reducible exact Past.bel _ | with_reducible refine Ext.trans ?_ (Past.bel _))))).mono ?_); rintro e w' ⟨rfl, hx⟩; (first | (obtain ⟨wx, rfl⟩ := Past.again hx) | (obtain ⟨wx, rfl⟩ := Past.ofd hx) | (obtain ⟨wx, rfl⟩ := Past.of hx)))) | (go_at_call 47; ((with_reducible refine (isPosition_c hn1 hn (HS.out.ext (by repeat (first | with_reducible exact Ext.refl _ | with_reducible assumption | with_reducible refine Ext.alloc ?_ _ | with_reducible refine Ext.drew ?_ | (with_reducible refine Ext.setAt ?_ _ _ _ ?_; rotate_left; omega) | with_reducible refine Ext.trans ?_ (by assumption) | with_reducible exact Past.bel _ | with_reducible refine Ext.trans ?_ (Past.bel _)))) _).mono ?_); rintro e w' ⟨rfl, hx⟩; (first | (obtain ⟨wx, rfl⟩ := Past.again hx) | (obtain ⟨wx, rfl⟩ := Past.ofd hx) | (obtain ⟨wx, rfl⟩ := Past.of hx)))))
          clear h2 h3
          go_loopw [8, 9] (fun q i wr => ∃ (j : Nat) (T : Int), j ≤ k ∧ T = f + (j : Int) ∧ i = .int .i64 T ∧ q = .int .i64 (eng wd pl f j) ∧ Ext (w.alloc (.cells #[.slice a n c] 26)) wr) (fun _ i _ => (f + k - intOf i).toNat)
          case atStart => exact ⟨0, f, by omega, by simp, rfl, rfl, (by repeat (first | with_reducible exact Ext.refl _ | with_reducible assumption | with_reducible refine Ext.alloc ?_ _ | with_reducible refine Ext.drew ?_ | (with_reducible refine Ext.setAt ?_ _ _ _ ?_; rotate_left; omega) | with_reducible refine Ext.trans ?_ (by assumption) | with_reducible exact Past.bel _ | with_reducible refine Ext.trans ?_ (Past.bel _)))⟩
          case round =>
            obtain ⟨j, T, hj, hT, rfl, rfl, hbl⟩ := hrel
            have HT := Lib.hid hT
            have hz := hbl.size
            simp only [World.size_alloc] at hz
            have hg : w.heap.size < wr.heap.size := by omega
            have p0 : wr.cell? ⟨w.heap.size, 0, none⟩ = some (.slice a n c) := by rw [hbl.cell (by simp)]; simp [go_sem]
            have hxw : Ext w wr := Ext.trans (by repeat (first | with_reducible exact Ext.refl _ | with_reducible assumption | with_reducible refine Ext.alloc ?_ _ | with_reducible refine Ext.drew ?_ | (with_reducible refine Ext.setAt ?_ _ _ _ ?_; rotate_left; omega) | with_reducible refine Ext.trans ?_ (by assumption) | with_reducible exact Past.bel _ | with_reducible refine Ext.trans ?_ (Past.bel _))) hbl
            by_cases hlt : j < k
            · obtain ⟨y1, y2⟩ := hle.out j (by omega)
              have i1 := hin.out j (by omega)
              have i2 := hin.out (j + 1) (by omega)
              have e1 : f + ((j + 1 : Nat) : Int) = f + (j : Int) + 1 := by omega
              rw [e1, ← hT] at i2
              rw [← hT] at i1
              have I1 := Lib.hid i1
              have I2 := Lib.hid i2
              obtain ⟨P1, hP1⟩ : ∃ P, P = pullF wd pl T := ⟨_, rfl⟩
              obtain ⟨P2, hP2⟩ : ∃ P, P = pullF wd pl (T + 1) := ⟨_, rfl⟩
              have b1 := B.out.pull i1
              have b2 := B.out.pull i2
              have hPP : ∀ x, x = T ∨ x = T + 1 → ∀ W, Ext w W → Calls Try.prog 48 #[.agg #[.slice a n c], .int .i64 x] W fun e w' => e = .returned (.int .i64 (if x = T then P1 else P2)) ∧ Ext W w' := fun x hx W hq => by
                rcases hx with rfl | rfl
                · rw [if_pos rfl, hP1]; exact pullAt_c B.out (HS.out.ext hq) I1.out
                · rw [if_neg (by omega), hP2]; exact pullAt_c B.out (HS.out.ext hq) I2.out
              have HPP := Lib.hid hPP
              have w1 : (if T = T then P1 else P2) = P1 := if_pos rfl
              have w2 : (if T + 1 = T then P1 else P2) = P2 := if_neg (by omega)
              clear hPP
              rw [← hP1] at b1
              rw [← hP2] at b2
              have HE := Lib.hid (show eng wd pl f (j + 1) = eng wd pl f j + (P1 + P2) by rw [hP1, hP2, hT]; rfl)
              obtain ⟨E, hE⟩ : ∃ E, E = eng wd pl f j := ⟨_, rfl⟩
              rw [← hE] at y1 y2 HE ⊢
              have y3 : E ≤ 4000000000 := by omega
              have y4 : 0 ≤ T := by omega
              have y5 : T < f + (k : Int) := by omega
              have y6 : T ≤ 2000 := by omega
              clear i1 i2 hP1 hP2 hE e1 hT
              go_wp2_with fail
              refine wp_region_past (by kernel_rfl) (by kernel_rfl) ?_
              repeat (go_big_quiet_step ((go_at_call 48; exact Calls.past (HPP.out _ (by first | exact Or.inl rfl | exact Or.inr rfl) _ (by repeat (first | with_reducible exact Ext.refl _ | with_reducible assumption | with_reducible refine Ext.alloc ?_ _ | with_reducible refine Ext.drew ?_ | (with_reducible refine Ext.setAt ?_ _ _ _ ?_; rotate_left; omega) | with_reducible refine Ext.trans ?_ (by assumption) | with_reducible exact Past.bel _ | with_reducible refine Ext.trans ?_ (Past.bel _)))))))
              refine wpQuiet_nil ?_
              rintro _ ⟨wx, rfl⟩
              go_wp2_with fail
              exact ⟨⟨j + 1, T + 1, by omega, (by have := HT.out; omega), rfl, congrArg (Value.int IntKind.i64) HE.out.symm, (by repeat (first | with_reducible exact Ext.refl _ | with_reducible assumption | with_reducible refine Ext.alloc ?_ _ | with_reducible refine Ext.drew ?_ | (with_reducible refine Ext.setAt ?_ _ _ _ ?_; rotate_left; omega) | with_reducible refine Ext.trans ?_ (by assumption) | with_reducible exact Past.bel _ | with_reducible refine Ext.trans ?_ (Past.bel _)))⟩, by have := HT.out; simp [intOf]; omega⟩
            · obtain rfl : j = k := by omega
              have y5 : f + (j : Int) ≤ T := by omega
              clear hT
              go_wp2_with fail
              go_ret2
              exact ⟨rfl, (by repeat (first | with_reducible exact Ext.refl _ | with_reducible assumption | with_reducible refine Ext.alloc ?_ _ | with_reducible refine Ext.drew ?_ | (with_reducible refine Ext.setAt ?_ _ _ _ ?_; rotate_left; omega) | with_reducible refine Ext.trans ?_ (by assumption) | with_reducible exact Past.bel _ | with_reducible refine Ext.trans ?_ (Past.bel _)))⟩
        · have h5 : t < f := by omega
          go_enter Try.func22, Try.ntmps22
          go_wp2_with (first | (go_at_call 13; ((with_reducible refine (validSpring_c hn (HS.out.ext (by repeat (first | with_reducible exact Ext.refl _ | with_reducible assumption | with_reducible refine Ext.alloc ?_ _ | with_reducible refine Ext.drew ?_ | (with_reducible refine Ext.setAt ?_ _ _ _ ?_; rotate_left; omega) | with_reducible refine Ext.trans ?_ (by assumption) | with_reducible exact Past.bel _ | with_reducible refine Ext.trans ?_ (Past.bel _))))).mono ?_); rintro e w' ⟨rfl, hx⟩; (first | (obtain ⟨wx, rfl⟩ := Past.again hx) | (obtain ⟨wx, rfl⟩ := Past.ofd hx) | (obtain ⟨wx, rfl⟩ := Past.of hx)))) | (go_at_call 47; ((with_reducible refine (isPosition_c hn1 hn (HS.out.ext (by repeat (first | with_reducible exact Ext.refl _ | with_reducible assumption | with_reducible refine Ext.alloc ?_ _ | with_reducible refine Ext.drew ?_ | (with_reducible refine Ext.setAt ?_ _ _ _ ?_; rotate_left; omega) | with_reducible refine Ext.trans ?_ (by assumption) | with_reducible exact Past.bel _ | with_reducible refine Ext.trans ?_ (Past.bel _)))) _).mono ?_); rintro e w' ⟨rfl, hx⟩; (first | (obtain ⟨wx, rfl⟩ := Past.again hx) | (obtain ⟨wx, rfl⟩ := Past.ofd hx) | (obtain ⟨wx, rfl⟩ := Past.of hx)))))
          go_ret2
          exact ⟨by rw [ebV, ebC, ebB, h1, h2, h3, decide_eq_false (show ¬ f ≤ t by omega)]; rfl, (by repeat (first | with_reducible exact Ext.refl _ | with_reducible assumption | with_reducible refine Ext.alloc ?_ _ | with_reducible refine Ext.drew ?_ | (with_reducible refine Ext.setAt ?_ _ _ _ ?_; rotate_left; omega) | with_reducible refine Ext.trans ?_ (by assumption) | with_reducible exact Past.bel _ | with_reducible refine Ext.trans ?_ (Past.bel _)))⟩
set_option maxHeartbeats 4000000 in
theorem specEnergy_c (hn : n ≤ 1048576) (hs : S2 w a n wd pl) (f t : Int) :
    Calls Try.prog 23 #[.agg #[.slice a n c], .int .i64 f, .int .i64 t] w fun e w' => e = .returned (.tuple #[.int .i64 (ebV n wd pl f t), .int .i64 (ebC n wd pl f t)]) ∧ Ext w w' := by
  have HS := Lib.hid hs
  clear hs
  cases h1 : spV n wd pl
  · go_enter Try.func23, Try.ntmps23
    go_wp2_with (go_at_call 49; ((with_reducible refine (l13Ok_c hn (HS.out.ext (by repeat (first | with_reducible exact Ext.refl _ | with_reducible assumption | with_reducible refine Ext.alloc ?_ _ | with_reducible refine Ext.drew ?_ | (with_reducible refine Ext.setAt ?_ _ _ _ ?_; rotate_left; omega) | with_reducible refine Ext.trans ?_ (by assumption) | with_reducible exact Past.bel _ | with_reducible refine Ext.trans ?_ (Past.bel _))))).mono ?_); rintro e w' ⟨rfl, hx⟩; (first | (obtain ⟨wx, rfl⟩ := Past.again hx) | (obtain ⟨wx, rfl⟩ := Past.ofd hx) | (obtain ⟨wx, rfl⟩ := Past.of hx))))
    go_ret2
    exact ⟨by simp [ebV, ebC, h1], (by repeat (first | with_reducible exact Ext.refl _ | with_reducible assumption | with_reducible refine Ext.alloc ?_ _ | with_reducible refine Ext.drew ?_ | (with_reducible refine Ext.setAt ?_ _ _ _ ?_; rotate_left; omega) | with_reducible refine Ext.trans ?_ (by assumption) | with_reducible exact Past.bel _ | with_reducible refine Ext.trans ?_ (Past.bel _)))⟩
  · have B := Lib.hid (spV_b h1)
    have hn1 : 1 ≤ n := by have := B.out.n2; omega
    cases h2 : inS n wd f
    · go_enter Try.func23, Try.ntmps23
      go_wp2_with (first | (go_at_call 49; ((with_reducible refine (l13Ok_c hn (HS.out.ext (by repeat (first | with_reducible exact Ext.refl _ | with_reducible assumption | with_reducible refine Ext.alloc ?_ _ | with_reducible refine Ext.drew ?_ | (with_reducible refine Ext.setAt ?_ _ _ _ ?_; rotate_left; omega) | with_reducible refine Ext.trans ?_ (by assumption) | with_reducible exact Past.bel _ | with_reducible refine Ext.trans ?_ (Past.bel _))))).mono ?_); rintro e w' ⟨rfl, hx⟩; (first | (obtain ⟨wx, rfl⟩ := Past.again hx) | (obtain ⟨wx, rfl⟩ := Past.ofd hx) | (obtain ⟨wx, rfl⟩ := Past.of hx)))) | (go_at_call 50; ((with_reducible refine (l13In_c hn1 hn (HS.out.ext (by repeat (first | with_reducible exact Ext.refl _ | with_reducible assumption | with_reducible refine Ext.alloc ?_ _ | with_reducible refine Ext.drew ?_ | (with_reducible refine Ext.setAt ?_ _ _ _ ?_; rotate_left; omega) | with_reducible refine Ext.trans ?_ (by assumption) | with_reducible exact Past.bel _ | with_reducible refine Ext.trans ?_ (Past.bel _)))) _).mono ?_); rintro e w' ⟨rfl, hx⟩; (first | (obtain ⟨wx, rfl⟩ := Past.again hx) | (obtain ⟨wx, rfl⟩ := Past.ofd hx) | (obtain ⟨wx, rfl⟩ := Past.of hx)))))
      go_ret2
      exact ⟨by simp [ebV, ebC, ebB, h1, h2], (by repeat (first | with_reducible exact Ext.refl _ | with_reducible assumption | with_reducible refine Ext.alloc ?_ _ | with_reducible refine Ext.drew ?_ | (with_reducible refine Ext.setAt ?_ _ _ _ ?_; rotate_left; omega) | with_reducible refine Ext.trans ?_ (by assumption) | with_reducible exact Past.bel _ | with_reducible refine Ext.trans ?_ (Past.bel _)))⟩
    · cases h3 : inS n wd t
      · go_enter Try.func23, Try.ntmps23
        go_wp2_with (first | (go_at_call 49; ((with_reducible refine (l13Ok_c hn (HS.out.ext (by repeat (first | with_reducible exact Ext.refl _ | with_reducible assumption | with_reducible refine Ext.alloc ?_ _ | with_reducible refine Ext.drew ?_ | (with_reducible refine Ext.setAt ?_ _ _ _ ?_; rotate_left; omega) | with_reducible refine Ext.trans ?_ (by assumption) | with_reducible exact Past.bel _ | with_reducible refine Ext.trans ?_ (Past.bel _))))).mono ?_); rintro e w' ⟨rfl, hx⟩; (first | (obtain ⟨wx, rfl⟩ := Past.again hx) | (obtain ⟨wx, rfl⟩ := Past.ofd hx) | (obtain ⟨wx, rfl⟩ := Past.of hx)))) | (go_at_call 50; ((with_reducible refine (l13In_c hn1 hn (HS.out.ext (by repeat (first | with_reducible exact Ext.refl _ | with_reducible assumption | with_reducible refine Ext.alloc ?_ _ | with_reducible refine Ext.drew ?_ | (with_reducible refine Ext.setAt ?_ _ _ _ ?_; rotate_left; omega) | with_reducible refine Ext.trans ?_ (by assumption) | with_reducible exact Past.bel _ | with_reducible refine Ext.trans ?_ (Past.bel _)))) _).mono ?_); rintro e w' ⟨rfl, hx⟩; (first | (obtain ⟨wx, rfl⟩ := Past.again hx) | (obtain ⟨wx, rfl⟩ := Past.ofd hx) | (obtain ⟨wx, rfl⟩ := Past.of hx)))))
        go_ret2
        exact ⟨by simp [ebV, ebC, ebB, h1, h2, h3], (by repeat (first | with_reducible exact Ext.refl _ | with_reducible assumption | with_reducible refine Ext.alloc ?_ _ | with_reducible refine Ext.drew ?_ | (with_reducible refine Ext.setAt ?_ _ _ _ ?_; rotate_left; omega) | with_reducible refine Ext.trans ?_ (by assumption) | with_reducible exact Past.bel _ | with_reducible refine Ext.trans ?_ (Past.bel _)))⟩
      · by_cases h4 : f ≤ t
        · obtain ⟨k, hk⟩ : ∃ k : Nat, t = f + (k : Int) := ⟨(t - f).toNat, by omega⟩
          subst hk
          have hf := B.out.inS h2
          have ht := B.out.inS h3
          have hle := Lib.hid (eng_le B.out h2 h3)
          have hin := Lib.hid (fun (i : Nat) (hi : i ≤ k) => show inS n wd (f + (i : Int)) = true from by
            have h5 := inB_t.1 h2
            have h6 := inB_t.1 h3
            exact inB_t.2 ⟨by omega, by omega⟩)
          have hv : ebV n wd pl f (f + (k : Int)) = eng wd pl f k := by
            have e : (f + (k : Int) - f).toNat = k := by omega
            rw [ebV, ebB, h1, h2, h3, decide_eq_true h4, e]; rfl
          have hc : ebC n wd pl f (f + (k : Int)) = 0 := by rw [ebC, ebB, h1, h2, h3, decide_eq_true h4]; rfl
          rw [hv, hc]
          clear hv hc
          go_enter Try.func23, Try.ntmps23
          go_wp2_with (first | (go_at_call 49; ((with_reducible refine (l13Ok_c hn (HS.out.ext (by repeat (first | with_reducible exact Ext.refl _ | with_reducible assumption | with_reducible refine Ext.alloc ?_ _ | with_reducible refine Ext.drew ?_ | (with_reducible refine Ext.setAt ?_ _ _ _ ?_; rotate_left; omega) | with_reducible refine Ext.trans ?_ (by assumption) | with_reducible exact Past.bel _ | with_reducible refine Ext.trans ?_ (Past.bel _))))).mono ?_); rintro e w' ⟨rfl, hx⟩; (first | (obtain ⟨wx, rfl⟩ := Past.again hx) | (obtain ⟨wx, rfl⟩ := Past.ofd hx) | (obtain ⟨wx, rfl⟩ := Past.of hx)))) | (go_at_call 50; ((with_reducible refine (l13In_c hn1 hn (HS.out.ext (by repeat (first | with_reducible exact Ext.refl _ | with_reducible assumption | with_reducible refine Ext.alloc ?_ _ | with_reducible refine Ext.drew ?_ | (with_reducible refine Ext.setAt ?_ _ _ _ ?_; rotate_left; omega) | with_reducible refine Ext.trans ?_ (by assumption) | with_reducible exact Past.bel _ | with_reducible refine Ext.trans ?_ (Past.bel _)))) _).mono ?_); rintro e w' ⟨rfl, hx⟩; (first | (obtain ⟨wx, rfl⟩ := Past.again hx) | (obtain ⟨wx, rfl⟩ := Past.ofd hx) | (obtain ⟨wx, rfl⟩ := Past.of hx)))))
          clear h2 h3
          go_loopw [8, 9] (fun q i wr => ∃ (j : Nat) (T : Int), j ≤ k ∧ T = f + (j : Int) ∧ i = .int .i64 T ∧ q = .int .i64 (eng wd pl f j) ∧ Ext (w.alloc (.cells #[.slice a n c] 26)) wr) (fun _ i _ => (f + k - intOf i).toNat)
          case atStart => exact ⟨0, f, by omega, by simp, rfl, rfl, (by repeat (first | with_reducible exact Ext.refl _ | with_reducible assumption | with_reducible refine Ext.alloc ?_ _ | with_reducible refine Ext.drew ?_ | (with_reducible refine Ext.setAt ?_ _ _ _ ?_; rotate_left; omega) | with_reducible refine Ext.trans ?_ (by assumption) | with_reducible exact Past.bel _ | with_reducible refine Ext.trans ?_ (Past.bel _)))⟩
          case round =>
            obtain ⟨j, T, hj, hT, rfl, rfl, hbl⟩ := hrel
            have HT := Lib.hid hT
            have hz := hbl.size
            simp only [World.size_alloc] at hz
            have hg : w.heap.size < wr.heap.size := by omega
            have p0 : wr.cell? ⟨w.heap.size, 0, none⟩ = some (.slice a n c) := by rw [hbl.cell (by simp)]; simp [go_sem]
            have hxw : Ext w wr := Ext.trans (by repeat (first | with_reducible exact Ext.refl _ | with_reducible assumption | with_reducible refine Ext.alloc ?_ _ | with_reducible refine Ext.drew ?_ | (with_reducible refine Ext.setAt ?_ _ _ _ ?_; rotate_left; omega) | with_reducible refine Ext.trans ?_ (by assumption) | with_reducible exact Past.bel _ | with_reducible refine Ext.trans ?_ (Past.bel _))) hbl
            by_cases hlt : j < k
            · obtain ⟨y1, y2⟩ := hle.out j (by omega)
              have i1 := hin.out j (by omega)
              have i2 := hin.out (j + 1) (by omega)
              have e1 : f + ((j + 1 : Nat) : Int) = f + (j : Int) + 1 := by omega
              rw [e1, ← hT] at i2
              rw [← hT] at i1
              have I1 := Lib.hid i1
              have I2 := Lib.hid i2
              obtain ⟨P1, hP1⟩ : ∃ P, P = pullF wd pl T := ⟨_, rfl⟩
              obtain ⟨P2, hP2⟩ : ∃ P, P = pullF wd pl (T + 1) := ⟨_, rfl⟩
              have b1 := B.out.pull i1
              have b2 := B.out.pull i2
              have hPP : ∀ x, x = T ∨ x = T + 1 → ∀ W, Ext w W → Calls Try.prog 51 #[.agg #[.slice a n c], .int .i64 x] W fun e w' => e = .returned (.int .i64 (if x = T then P1 else P2)) ∧ Ext W w' := fun x hx W hq => by
                rcases hx with rfl | rfl
                · rw [if_pos rfl, hP1]; exact l13At_c B.out (HS.out.ext hq) I1.out
                · rw [if_neg (by omega), hP2]; exact l13At_c B.out (HS.out.ext hq) I2.out
              have HPP := Lib.hid hPP
              have w1 : (if T = T then P1 else P2) = P1 := if_pos rfl
              have w2 : (if T + 1 = T then P1 else P2) = P2 := if_neg (by omega)
              clear hPP
              rw [← hP1] at b1
              rw [← hP2] at b2
              have HE := Lib.hid (show eng wd pl f (j + 1) = eng wd pl f j + (P1 + P2) by rw [hP1, hP2, hT]; rfl)
              obtain ⟨E, hE⟩ : ∃ E, E = eng wd pl f j := ⟨_, rfl⟩
              rw [← hE] at y1 y2 HE ⊢
              have y3 : E ≤ 4000000000 := by omega
              have y4 : 0 ≤ T := by omega
              have y5 : T < f + (k : Int) := by omega
              have y6 : T ≤ 2000 := by omega
              clear i1 i2 hP1 hP2 hE e1 hT
              go_wp2_with fail
              refine wp_region_past (by kernel_rfl) (by kernel_rfl) ?_
              repeat (go_big_quiet_step ((go_at_call 51; exact Calls.past (HPP.out _ (by first | exact Or.inl rfl | exact Or.inr rfl) _ (by repeat (first | with_reducible exact Ext.refl _ | with_reducible assumption | with_reducible refine Ext.alloc ?_ _ | with_reducible refine Ext.drew ?_ | (with_reducible refine Ext.setAt ?_ _ _ _ ?_; rotate_left; omega) | with_reducible refine Ext.trans ?_ (by assumption) | with_reducible exact Past.bel _ | with_reducible refine Ext.trans ?_ (Past.bel _)))))))
              refine wpQuiet_nil ?_
              rintro _ ⟨wx, rfl⟩
              go_wp2_with fail
              exact ⟨⟨j + 1, T + 1, by omega, (by have := HT.out; omega), rfl, congrArg (Value.int IntKind.i64) HE.out.symm, (by repeat (first | with_reducible exact Ext.refl _ | with_reducible assumption | with_reducible refine Ext.alloc ?_ _ | with_reducible refine Ext.drew ?_ | (with_reducible refine Ext.setAt ?_ _ _ _ ?_; rotate_left; omega) | with_reducible refine Ext.trans ?_ (by assumption) | with_reducible exact Past.bel _ | with_reducible refine Ext.trans ?_ (Past.bel _)))⟩, by have := HT.out; simp [intOf]; omega⟩
            · obtain rfl : j = k := by omega
              have y5 : f + (j : Int) ≤ T := by omega
              clear hT
              go_wp2_with fail
              go_ret2
              exact ⟨rfl, (by repeat (first | with_reducible exact Ext.refl _ | with_reducible assumption | with_reducible refine Ext.alloc ?_ _ | with_reducible refine Ext.drew ?_ | (with_reducible refine Ext.setAt ?_ _ _ _ ?_; rotate_left; omega) | with_reducible refine Ext.trans ?_ (by assumption) | with_reducible exact Past.bel _ | with_reducible refine Ext.trans ?_ (Past.bel _)))⟩
        · have h5 : t < f := by omega
          go_enter Try.func23, Try.ntmps23
          go_wp2_with (first | (go_at_call 49; ((with_reducible refine (l13Ok_c hn (HS.out.ext (by repeat (first | with_reducible exact Ext.refl _ | with_reducible assumption | with_reducible refine Ext.alloc ?_ _ | with_reducible refine Ext.drew ?_ | (with_reducible refine Ext.setAt ?_ _ _ _ ?_; rotate_left; omega) | with_reducible refine Ext.trans ?_ (by assumption) | with_reducible exact Past.bel _ | with_reducible refine Ext.trans ?_ (Past.bel _))))).mono ?_); rintro e w' ⟨rfl, hx⟩; (first | (obtain ⟨wx, rfl⟩ := Past.again hx) | (obtain ⟨wx, rfl⟩ := Past.ofd hx) | (obtain ⟨wx, rfl⟩ := Past.of hx)))) | (go_at_call 50; ((with_reducible refine (l13In_c hn1 hn (HS.out.ext (by repeat (first | with_reducible exact Ext.refl _ | with_reducible assumption | with_reducible refine Ext.alloc ?_ _ | with_reducible refine Ext.drew ?_ | (with_reducible refine Ext.setAt ?_ _ _ _ ?_; rotate_left; omega) | with_reducible refine Ext.trans ?_ (by assumption) | with_reducible exact Past.bel _ | with_reducible refine Ext.trans ?_ (Past.bel _)))) _).mono ?_); rintro e w' ⟨rfl, hx⟩; (first | (obtain ⟨wx, rfl⟩ := Past.again hx) | (obtain ⟨wx, rfl⟩ := Past.ofd hx) | (obtain ⟨wx, rfl⟩ := Past.of hx)))))
          go_ret2
          exact ⟨by rw [ebV, ebC, ebB, h1, h2, h3, decide_eq_false (show ¬ f ≤ t by omega)]; rfl, (by repeat (first | with_reducible exact Ext.refl _ | with_reducible assumption | with_reducible refine Ext.alloc ?_ _ | with_reducible refine Ext.drew ?_ | (with_reducible refine Ext.setAt ?_ _ _ _ ?_; rotate_left; omega) | with_reducible refine Ext.trans ?_ (by assumption) | with_reducible exact Past.bel _ | with_reducible refine Ext.trans ?_ (Past.bel _)))⟩
end
end Go.Proofs.Ytglcjnplmhelhaa

namespace Go.Proofs.Ytglcjnplmhelhaa
open Go.RowKit
set_option linter.unusedVariables false
set_option linter.unusedSimpArgs false

theorem RunE.one {n : Nat} {w p : Nat → Int} {t need : Int} {i j : Nat} (h : RunE n w p t need i) (g : RunE n w p t need j) : i = j := by
  rcases Nat.lt_trichotomy i j with a | a | a
  · have := g.ok (i + 1) (by omega)
    have e : t - ((i + 1 : Nat) : Int) = t - i - 1 := by omega
    rw [e] at this
    exact absurd this h.no
  · exact a
  · have := h.ok (j + 1) (by omega)
    have e : t - ((j + 1 : Nat) : Int) = t - j - 1 := by omega
    rw [e] at this
    exact absurd this g.no
/-- what RunningTime returns -/
def rtB (n : Nat) (wd : Nat → Int) (t need : Int) : Bool := inS n wd t && inB need 0 1000000
def rtV (n : Nat) (wd pl : Nat → Int) (t need : Int) : Int := if spV n wd pl && rtB n wd t need && decide (need ≤ pullF wd pl t) then (runN n wd pl t need 2001 : Nat) else 0
def rtC (n : Nat) (wd pl : Nat → Int) (t need : Int) : Int := if spV n wd pl then (if rtB n wd t need then (if need ≤ pullF wd pl t then 0 else 3) else 2) else 1
theorem rt_ret {n : Nat} {wd pl : Nat → Int} {t need : Int} (h1 : spV n wd pl = true) (h2 : inS n wd t = true) (h3 : inB need 0 1000000 = true) (h4 : need ≤ pullF wd pl t) {j : Nat} (r : RunE n wd pl t need j) : (j : Int) = rtV n wd pl t need ∧ 0 = rtC n wd pl t need := by
  have b := spV_b h1
  have e := r.one (runN_end b h2 h4)
  have hb : rtB n wd t need = true := by rw [rtB, h2, h3]; rfl
  constructor
  · rw [rtV, h1, hb, decide_eq_true h4, ← e]; rfl
  · rw [rtC, h1, hb, if_pos rfl, if_pos rfl, if_pos h4]
section
variable {a : Option Addr} {n c : Nat} {wd pl : Nat → Int} {w : World}
set_option maxHeartbeats 4000000 in
theorem implRunningTime_c (hn : n ≤ 1048576) (hs : S2 w a n wd pl) (t need : Int) :
    Calls Try.prog 39 #[.agg #[.slice a n c], .int .i64 t, .int .i64 need] w fun e w' => e = .returned (.tuple #[.int .i64 (rtV n wd pl t need), .int .i64 (rtC n wd pl t need)]) ∧ Ext w w' := by
  have HS := Lib.hid hs
  clear hs
  cases h1 : spV n wd pl
  · go_enter Try.func39, Try.ntmps39
    go_wp2_with (go_at_call 13; ((with_reducible refine (validSpring_c hn (HS.out.ext (by repeat (first | with_reducible exact Ext.refl _ | with_reducible assumption | with_reducible refine Ext.alloc ?_ _ | with_reducible refine Ext.drew ?_ | (with_reducible refine Ext.setAt ?_ _ _ _ ?_; rotate_left; omega) | with_reducible refine Ext.trans ?_ (by assumption) | with_reducible exact Past.bel _ | with_reducible refine Ext.trans ?_ (Past.bel _))))).mono ?_); rintro e w' ⟨rfl, hx⟩; (first | (obtain ⟨wx, rfl⟩ := Past.again hx) | (obtain ⟨wx, rfl⟩ := Past.ofd hx) | (obtain ⟨wx, rfl⟩ := Past.of hx))))
    go_ret2
    exact ⟨by rw [rtV, rtC, h1]; rfl, (by repeat (first | with_reducible exact Ext.refl _ | with_reducible assumption | with_reducible refine Ext.alloc ?_ _ | with_reducible refine Ext.drew ?_ | (with_reducible refine Ext.setAt ?_ _ _ _ ?_; rotate_left; omega) | with_reducible refine Ext.trans ?_ (by assumption) | with_reducible exact Past.bel _ | with_reducible refine Ext.trans ?_ (Past.bel _)))⟩
  · have B := Lib.hid (spV_b h1)
    have hn1 : 1 ≤ n := by have := B.out.n2; omega
    cases h2 : inS n wd t
    · go_enter Try.func39, Try.ntmps39
      go_wp2_with (first | (go_at_call 13; ((with_reducible refine (validSpring_c hn (HS.out.ext (by repeat (first | with_reducible exact Ext.refl _ | with_reducible assumption | with_reducible refine Ext.alloc ?_ _ | with_reducible refine Ext.drew ?_ | (with_reducible refine Ext.setAt ?_ _ _ _ ?_; rotate_left; omega) | with_reducible refine Ext.trans ?_ (by assumption) | with_reducible exact Past.bel _ | with_reducible refine Ext.trans ?_ (Past.bel _))))).mono ?_); rintro e w' ⟨rfl, hx⟩; (first | (obtain ⟨wx, rfl⟩ := Past.again hx) | (obtain ⟨wx, rfl⟩ := Past.ofd hx) | (obtain ⟨wx, rfl⟩ := Past.of hx)))) | (go_at_call 47; ((with_reducible refine (isPosition_c hn1 hn (HS.out.ext (by repeat (first | with_reducible exact Ext.refl _ | with_reducible assumption | with_reducible refine Ext.alloc ?_ _ | with_reducible refine Ext.drew ?_ | (with_reducible refine Ext.setAt ?_ _ _ _ ?_; rotate_left; omega) | with_reducible refine Ext.trans ?_ (by assumption) | with_reducible exact Past.bel _ | with_reducible refine Ext.trans ?_ (Past.bel _)))) _).mono ?_); rintro e w' ⟨rfl, hx⟩; (first | (obtain ⟨wx, rfl⟩ := Past.again hx) | (obtain ⟨wx, rfl⟩ := Past.ofd hx) | (obtain ⟨wx, rfl⟩ := Past.of hx)))))
      go_ret2
      exact ⟨by rw [rtV, rtC, rtB, h1, h2]; rfl, (by repeat (first | with_reducible exact Ext.refl _ | with_reducible assumption | with_reducible refine Ext.alloc ?_ _ | with_reducible refine Ext.drew ?_ | (with_reducible refine Ext.setAt ?_ _ _ _ ?_; rotate_left; omega) | with_reducible refine Ext.trans ?_ (by assumption) | with_reducible exact Past.bel _ | with_reducible refine Ext.trans ?_ (Past.bel _)))⟩
    · cases h3 : inB need 0 1000000
      · go_enter Try.func39, Try.ntmps39
        go_wp2_with (first | (go_at_call 13; ((with_reducible refine (validSpring_c hn (HS.out.ext (by repeat (first | with_reducible exact Ext.refl _ | with_reducible assumption | with_reducible refine Ext.alloc ?_ _ | with_reducible refine Ext.drew ?_ | (with_reducible refine Ext.setAt ?_ _ _ _ ?_; rotate_left; omega) | with_reducible refine Ext.trans ?_ (by assumption) | with_reducible exact Past.bel _ | with_reducible refine Ext.trans ?_ (Past.bel _))))).mono ?_); rintro e w' ⟨rfl, hx⟩; (first | (obtain ⟨wx, rfl⟩ := Past.again hx) | (obtain ⟨wx, rfl⟩ := Past.ofd hx) | (obtain ⟨wx, rfl⟩ := Past.of hx)))) | (go_at_call 47; ((with_reducible refine (isPosition_c hn1 hn (HS.out.ext (by repeat (first | with_reducible exact Ext.refl _ | with_reducible assumption | with_reducible refine Ext.alloc ?_ _ | with_reducible refine Ext.drew ?_ | (with_reducible refine Ext.setAt ?_ _ _ _ ?_; rotate_left; omega) | with_reducible refine Ext.trans ?_ (by assumption) | with_reducible exact Past.bel _ | with_reducible refine Ext.trans ?_ (Past.bel _)))) _).mono ?_); rintro e w' ⟨rfl, hx⟩; (first | (obtain ⟨wx, rfl⟩ := Past.again hx) | (obtain ⟨wx, rfl⟩ := Past.ofd hx) | (obtain ⟨wx, rfl⟩ := Past.of hx)))) | (go_at_call 53; ((with_reducible refine (isPull_c _ _).mono ?_); rintro e w' ⟨rfl, rfl⟩)))
        go_ret2
        exact ⟨by rw [rtV, rtC, rtB, h1, h2, h3]; rfl, (by repeat (first | with_reducible exact Ext.refl _ | with_reducible assumption | with_reducible refine Ext.alloc ?_ _ | with_reducible refine Ext.drew ?_ | (with_reducible refine Ext.setAt ?_ _ _ _ ?_; rotate_left; omega) | with_reducible refine Ext.trans ?_ (by assumption) | with_reducible exact Past.bel _ | with_reducible refine Ext.trans ?_ (Past.bel _)))⟩
      · have H2 := Lib.hid h2
        have ht := B.out.inS h2
        obtain ⟨P0, hP0⟩ : ∃ P, P = pullF wd pl t := ⟨_, rfl⟩
        have HP0 := Lib.hid hP0
        have HC0 := Lib.hid (fun W (hq : Ext w W) => (hP0 ▸ pullAt_c B.out (HS.out.ext hq) H2.out : Calls Try.prog 48 #[.agg #[.slice a n c], .int .i64 t] W fun e w' => e = .returned (.int .i64 P0) ∧ Ext W w'))
        clear hP0
        by_cases h4 : P0 < need
        · go_enter Try.func39, Try.ntmps39
          go_wp2_with (first | (go_at_call 13; ((with_reducible refine (validSpring_c hn (HS.out.ext (by repeat (first | with_reducible exact Ext.refl _ | with_reducible assumption | with_reducible refine Ext.alloc ?_ _ | with_reducible refine Ext.drew ?_ | (with_reducible refine Ext.setAt ?_ _ _ _ ?_; rotate_left; omega) | with_reducible refine Ext.trans ?_ (by assumption) | with_reducible exact Past.bel _ | with_reducible refine Ext.trans ?_ (Past.bel _))))).mono ?_); rintro e w' ⟨rfl, hx⟩; (first | (obtain ⟨wx, rfl⟩ := Past.again hx) | (obtain ⟨wx, rfl⟩ := Past.ofd hx) | (obtain ⟨wx, rfl⟩ := Past.of hx)))) | (go_at_call 47; ((with_reducible refine (isPosition_c hn1 hn (HS.out.ext (by repeat (first | with_reducible exact Ext.refl _ | with_reducible assumption | with_reducible refine Ext.alloc ?_ _ | with_reducible refine Ext.drew ?_ | (with_reducible refine Ext.setAt ?_ _ _ _ ?_; rotate_left; omega) | with_reducible refine Ext.trans ?_ (by assumption) | with_reducible exact Past.bel _ | with_reducible refine Ext.trans ?_ (Past.bel _)))) _).mono ?_); rintro e w' ⟨rfl, hx⟩; (first | (obtain ⟨wx, rfl⟩ := Past.again hx) | (obtain ⟨wx, rfl⟩ := Past.ofd hx) | (obtain ⟨wx, rfl⟩ := Past.of hx)))) | (go_at_call 53; ((with_reducible refine (isPull_c _ _).mono ?_); rintro e w' ⟨rfl, rfl⟩)) | (go_at_call 48; ((with_reducible refine (HC0.out _ (by repeat (first | with_reducible exact Ext.refl _ | with_reducible assumption | with_reducible refine Ext.alloc ?_ _ | with_reducible refine Ext.drew ?_ | (with_reducible refine Ext.setAt ?_ _ _ _ ?_; rotate_left; omega) | with_reducible refine Ext.trans ?_ (by assumption) | with_reducible exact Past.bel _ | with_reducible refine Ext.trans ?_ (Past.bel _)))).mono ?_); rintro e w' ⟨rfl, hx⟩; (first | (obtain ⟨wx, rfl⟩ := Past.again hx) | (obtain ⟨wx, rfl⟩ := Past.ofd hx) | (obtain ⟨wx, rfl⟩ := Past.of hx)))))
          go_ret2
          exact ⟨by have e : ¬ need ≤ pullF wd pl t := by rw [← HP0.out]; omega
                    rw [rtV, rtC, rtB, h1, h2, h3, decide_eq_false e, if_neg e]; rfl, (by repeat (first | with_reducible exact Ext.refl _ | with_reducible assumption | with_reducible refine Ext.alloc ?_ _ | with_reducible refine Ext.drew ?_ | (with_reducible refine Ext.setAt ?_ _ _ _ ?_; rotate_left; omega) | with_reducible refine Ext.trans ?_ (by assumption) | with_reducible exact Past.bel _ | with_reducible refine Ext.trans ?_ (Past.bel _)))⟩
        · have HD := Lib.hid (show ∀ j : Nat, RunE n wd pl t need j → (j : Int) = rtV n wd pl t need ∧ 0 = rtC n wd pl t need from fun j r => rt_ret h1 h2 h3 (by rw [← HP0.out]; omega) r)
          have HO := Lib.hid (show ∀ i : Nat, i ≤ 0 → inS n wd (t - i) = true ∧ need ≤ pullF wd pl (t - i) from fun i hi => by
            obtain rfl : i = 0 := by omega
            have e : t - ((0 : Nat) : Int) = t := by omega
            rw [e]; exact ⟨h2, by rw [← HP0.out]; omega⟩)
          go_enter Try.func39, Try.ntmps39
          go_wp2_with (first | (go_at_call 13; ((with_reducible refine (validSpring_c hn (HS.out.ext (by repeat (first | with_reducible exact Ext.refl _ | with_reducible assumption | with_reducible refine Ext.alloc ?_ _ | with_reducible refine Ext.drew ?_ | (with_reducible refine Ext.setAt ?_ _ _ _ ?_; rotate_left; omega) | with_reducible refine Ext.trans ?_ (by assumption) | with_reducible exact Past.bel _ | with_reducible refine Ext.trans ?_ (Past.bel _))))).mono ?_); rintro e w' ⟨rfl, hx⟩; (first | (obtain ⟨wx, rfl⟩ := Past.again hx) | (obtain ⟨wx, rfl⟩ := Past.ofd hx) | (obtain ⟨wx, rfl⟩ := Past.of hx)))) | (go_at_call 47; ((with_reducible refine (isPosition_c hn1 hn (HS.out.ext (by repeat (first | with_reducible exact Ext.refl _ | with_reducible assumption | with_reducible refine Ext.alloc ?_ _ | with_reducible refine Ext.drew ?_ | (with_reducible refine Ext.setAt ?_ _ _ _ ?_; rotate_left; omega) | with_reducible refine Ext.trans ?_ (by assumption) | with_reducible exact Past.bel _ | with_reducible refine Ext.trans ?_ (Past.bel _)))) _).mono ?_); rintro e w' ⟨rfl, hx⟩; (first | (obtain ⟨wx, rfl⟩ := Past.again hx) | (obtain ⟨wx, rfl⟩ := Past.ofd hx) | (obtain ⟨wx, rfl⟩ := Past.of hx)))) | (go_at_call 53; ((with_reducible refine (isPull_c _ _).mono ?_); rintro e w' ⟨rfl, rfl⟩)) | (go_at_call 48; ((with_reducible refine (HC0.out _ (by repeat (first | with_reducible exact Ext.refl _ | with_reducible assumption | with_reducible refine Ext.alloc ?_ _ | with_reducible refine Ext.drew ?_ | (with_reducible refine Ext.setAt ?_ _ _ _ ?_; rotate_left; omega) | with_reducible refine Ext.trans ?_ (by assumption) | with_reducible exact Past.bel _ | with_reducible refine Ext.trans ?_ (Past.bel _)))).mono ?_); rintro e w' ⟨rfl, hx⟩; (first | (obtain ⟨wx, rfl⟩ := Past.again hx) | (obtain ⟨wx, rfl⟩ := Past.ofd hx) | (obtain ⟨wx, rfl⟩ := Past.of hx)))))
          go_loopw [8] (fun q wr => ∃ j : Nat, q = .int .i64 (j : Nat) ∧ j ≤ 2001 ∧ (∀ i : Nat, i ≤ j → inS n wd (t - i) = true ∧ need ≤ pullF wd pl (t - i)) ∧ Ext (w.alloc (.cells #[.slice a n c] 26)) wr) (fun q _ => 3000 - (intOf q).toNat)
          case atStart => exact ⟨0, rfl, by omega, HO.out, (by repeat (first | with_reducible exact Ext.refl _ | with_reducible assumption | with_reducible refine Ext.alloc ?_ _ | with_reducible refine Ext.drew ?_ | (with_reducible refine Ext.setAt ?_ _ _ _ ?_; rotate_left; omega) | with_reducible refine Ext.trans ?_ (by assumption) | with_reducible exact Past.bel _ | with_reducible refine Ext.trans ?_ (Past.bel _)))⟩
          case round =>
            obtain ⟨j, rfl, hj, hok, hbl⟩ := hrel
            have OK := Lib.hid hok
            have hz := hbl.size
            simp only [World.size_alloc] at hz
            have hg : w.heap.size < wr.heap.size := by omega
            have p0 : wr.cell? ⟨w.heap.size, 0, none⟩ = some (.slice a n c) := by rw [hbl.cell (by simp)]; simp [go_sem]
            have hxw : Ext w wr := Ext.trans (by repeat (first | with_reducible exact Ext.refl _ | with_reducible assumption | with_reducible refine Ext.alloc ?_ _ | with_reducible refine Ext.drew ?_ | (with_reducible refine Ext.setAt ?_ _ _ _ ?_; rotate_left; omega) | with_reducible refine Ext.trans ?_ (by assumption) | with_reducible exact Past.bel _ | with_reducible refine Ext.trans ?_ (Past.bel _))) hbl
            have hjt := B.out.inS (hok j (Nat.le_refl _)).1
            clear hok
            cases h5 : inS n wd (t - (j : Int) - 1)
            · have HR := Lib.hid (HD.out j ⟨OK.out, by rw [h5]; simp⟩)
              go_wp2_with (go_at_call 47; ((with_reducible refine (isPosition_c hn1 hn (HS.out.ext (by repeat (first | with_reducible exact Ext.refl _ | with_reducible assumption | with_reducible refine Ext.alloc ?_ _ | with_reducible refine Ext.drew ?_ | (with_reducible refine Ext.setAt ?_ _ _ _ ?_; rotate_left; omega) | with_reducible refine Ext.trans ?_ (by assumption) | with_reducible exact Past.bel _ | with_reducible refine Ext.trans ?_ (Past.bel _)))) _).mono ?_); rintro e w' ⟨rfl, hx⟩; (first | (obtain ⟨wx, rfl⟩ := Past.again hx) | (obtain ⟨wx, rfl⟩ := Past.ofd hx) | (obtain ⟨wx, rfl⟩ := Past.of hx))))
              go_ret2
              exact ⟨ret_two (congrArg (Value.int IntKind.i64) HR.out.1) (congrArg (Value.int IntKind.i64) HR.out.2), (by repeat (first | with_reducible exact Ext.refl _ | with_reducible assumption | with_reducible refine Ext.alloc ?_ _ | with_reducible refine Ext.drew ?_ | (with_reducible refine Ext.setAt ?_ _ _ _ ?_; rotate_left; omega) | with_reducible refine Ext.trans ?_ (by assumption) | with_reducible exact Past.bel _ | with_reducible refine Ext.trans ?_ (Past.bel _)))⟩
            · have H5 := Lib.hid h5
              obtain ⟨P1, hP1⟩ : ∃ P, P = pullF wd pl (t - (j : Int) - 1) := ⟨_, rfl⟩
              have HP1 := Lib.hid hP1
              have HC1 := Lib.hid (fun W (hq : Ext w W) => (hP1 ▸ pullAt_c B.out (HS.out.ext hq) H5.out : Calls Try.prog 48 #[.agg #[.slice a n c], .int .i64 (t - (j : Int) - 1)] W fun e w' => e = .returned (.int .i64 P1) ∧ Ext W w'))
              clear hP1
              by_cases h6 : need ≤ P1
              · have HN := Lib.hid (show ∀ i : Nat, i ≤ j + 1 → inS n wd (t - i) = true ∧ need ≤ pullF wd pl (t - i) from fun i hi => by
                  by_cases e : i = j + 1
                  · subst e
                    have e2 : t - ((j + 1 : Nat) : Int) = t - j - 1 := by omega
                    rw [e2]; exact ⟨H5.out, by rw [← HP1.out]; exact h6⟩
                  · exact OK.out i (by omega))
                have hj2 := B.out.inS h5
                go_wp2_with (first | (go_at_call 47; ((with_reducible refine (isPosition_c hn1 hn (HS.out.ext (by repeat (first | with_reducible exact Ext.refl _ | with_reducible assumption | with_reducible refine Ext.alloc ?_ _ | with_reducible refine Ext.drew ?_ | (with_reducible refine Ext.setAt ?_ _ _ _ ?_; rotate_left; omega) | with_reducible refine Ext.trans ?_ (by assumption) | with_reducible exact Past.bel _ | with_reducible refine Ext.trans ?_ (Past.bel _)))) _).mono ?_); rintro e w' ⟨rfl, hx⟩; (first | (obtain ⟨wx, rfl⟩ := Past.again hx) | (obtain ⟨wx, rfl⟩ := Past.ofd hx) | (obtain ⟨wx, rfl⟩ := Past.of hx)))) | (go_at_call 48; ((with_reducible refine (HC1.out _ (by repeat (first | with_reducible exact Ext.refl _ | with_reducible assumption | with_reducible refine Ext.alloc ?_ _ | with_reducible refine Ext.drew ?_ | (with_reducible refine Ext.setAt ?_ _ _ _ ?_; rotate_left; omega) | with_reducible refine Ext.trans ?_ (by assumption) | with_reducible exact Past.bel _ | with_reducible refine Ext.trans ?_ (Past.bel _)))).mono ?_); rintro e w' ⟨rfl, hx⟩; (first | (obtain ⟨wx, rfl⟩ := Past.again hx) | (obtain ⟨wx, rfl⟩ := Past.ofd hx) | (obtain ⟨wx, rfl⟩ := Past.of hx)))))
                exact ⟨⟨j + 1, by go_num, by omega, HN.out, (by repeat (first | with_reducible exact Ext.refl _ | with_reducible assumption | with_reducible refine Ext.alloc ?_ _ | with_reducible refine Ext.drew ?_ | (with_reducible refine Ext.setAt ?_ _ _ _ ?_; rotate_left; omega) | with_reducible refine Ext.trans ?_ (by assumption) | with_reducible exact Past.bel _ | with_reducible refine Ext.trans ?_ (Past.bel _)))⟩, by simp [intOf]; omega⟩
              · have HR := Lib.hid (HD.out j ⟨OK.out, fun hc => h6 (by rw [HP1.out]; exact hc.2)⟩)
                go_wp2_with (first | (go_at_call 47; ((with_reducible refine (isPosition_c hn1 hn (HS.out.ext (by repeat (first | with_reducible exact Ext.refl _ | with_reducible assumption | with_reducible refine Ext.alloc ?_ _ | with_reducible refine Ext.drew ?_ | (with_reducible refine Ext.setAt ?_ _ _ _ ?_; rotate_left; omega) | with_reducible refine Ext.trans ?_ (by assumption) | with_reducible exact Past.bel _ | with_reducible refine Ext.trans ?_ (Past.bel _)))) _).mono ?_); rintro e w' ⟨rfl, hx⟩; (first | (obtain ⟨wx, rfl⟩ := Past.again hx) | (obtain ⟨wx, rfl⟩ := Past.ofd hx) | (obtain ⟨wx, rfl⟩ := Past.of hx)))) | (go_at_call 48; ((with_reducible refine (HC1.out _ (by repeat (first | with_reducible exact Ext.refl _ | with_reducible assumption | with_reducible refine Ext.alloc ?_ _ | with_reducible refine Ext.drew ?_ | (with_reducible refine Ext.setAt ?_ _ _ _ ?_; rotate_left; omega) | with_reducible refine Ext.trans ?_ (by assumption) | with_reducible exact Past.bel _ | with_reducible refine Ext.trans ?_ (Past.bel _)))).mono ?_); rintro e w' ⟨rfl, hx⟩; (first | (obtain ⟨wx, rfl⟩ := Past.again hx) | (obtain ⟨wx, rfl⟩ := Past.ofd hx) | (obtain ⟨wx, rfl⟩ := Past.of hx)))))
                go_ret2
                exact ⟨ret_two (congrArg (Value.int IntKind.i64) HR.out.1) (congrArg (Value.int IntKind.i64) HR.out.2), (by repeat (first | with_reducible exact Ext.refl _ | with_reducible assumption | with_reducible refine Ext.alloc ?_ _ | with_reducible refine Ext.drew ?_ | (with_reducible refine Ext.setAt ?_ _ _ _ ?_; rotate_left; omega) | with_reducible refine Ext.trans ?_ (by assumption) | with_reducible exact Past.bel _ | with_reducible refine Ext.trans ?_ (Past.bel _)))⟩
end
end Go.Proofs.Ytglcjnplmhelhaa

namespace Go.Proofs.Ytglcjnplmhelhaa
open Go.RowKit
set_option linter.unusedVariables false
set_option linter.unusedSimpArgs false

section
variable {a : Option Addr} {n c : Nat} {wd pl : Nat → Int} {w : World}
set_option maxHeartbeats 4000000 in
theorem specRunningTime_c (hn : n ≤ 1048576) (hs : S2 w a n wd pl) (t need : Int) :
    Calls Try.prog 40 #[.agg #[.slice a n c], .int .i64 t, .int .i64 need] w fun e w' => e = .returned (.tuple #[.int .i64 (rtV n wd pl t need), .int .i64 (rtC n wd pl t need)]) ∧ Ext w w' := by
  have HS := Lib.hid hs
  clear hs
  cases h1 : spV n wd pl
  · go_enter Try.func40, Try.ntmps40
    go_wp2_with (go_at_call 49; ((with_reducible refine (l13Ok_c hn (HS.out.ext (by repeat (first | with_reducible exact Ext.refl _ | with_reducible assumption | with_reducible refine Ext.alloc ?_ _ | with_reducible refine Ext.drew ?_ | (with_reducible refine Ext.setAt ?_ _ _ _ ?_; rotate_left; omega) | with_reducible refine Ext.trans ?_ (by assumption) | with_reducible exact Past.bel _ | with_reducible refine Ext.trans ?_ (Past.bel _))))).mono ?_); rintro e w' ⟨rfl, hx⟩; (first | (obtain ⟨wx, rfl⟩ := Past.again hx) | (obtain ⟨wx, rfl⟩ := Past.ofd hx) | (obtain ⟨wx, rfl⟩ := Past.of hx))))
    go_ret2
    exact ⟨by rw [rtV, rtC, h1]; rfl, (by repeat (first | with_reducible exact Ext.refl _ | with_reducible assumption | with_reducible refine Ext.alloc ?_ _ | with_reducible refine Ext.drew ?_ | (with_reducible refine Ext.setAt ?_ _ _ _ ?_; rotate_left; omega) | with_reducible refine Ext.trans ?_ (by assumption) | with_reducible exact Past.bel _ | with_reducible refine Ext.trans ?_ (Past.bel _)))⟩
  · have B := Lib.hid (spV_b h1)
    have hn1 : 1 ≤ n := by have := B.out.n2; omega
    cases h2 : inS n wd t
    · go_enter Try.func40, Try.ntmps40
      go_wp2_with (first | (go_at_call 49; ((with_reducible refine (l13Ok_c hn (HS.out.ext (by repeat (first | with_reducible exact Ext.refl _ | with_reducible assumption | with_reducible refine Ext.alloc ?_ _ | with_reducible refine Ext.drew ?_ | (with_reducible refine Ext.setAt ?_ _ _ _ ?_; rotate_left; omega) | with_reducible refine Ext.trans ?_ (by assumption) | with_reducible exact Past.bel _ | with_reducible refine Ext.trans ?_ (Past.bel _))))).mono ?_); rintro e w' ⟨rfl, hx⟩; (first | (obtain ⟨wx, rfl⟩ := Past.again hx) | (obtain ⟨wx, rfl⟩ := Past.ofd hx) | (obtain ⟨wx, rfl⟩ := Past.of hx)))) | (go_at_call 50; ((with_reducible refine (l13In_c hn1 hn (HS.out.ext (by repeat (first | with_reducible exact Ext.refl _ | with_reducible assumption | with_reducible refine Ext.alloc ?_ _ | with_reducible refine Ext.drew ?_ | (with_reducible refine Ext.setAt ?_ _ _ _ ?_; rotate_left; omega) | with_reducible refine Ext.trans ?_ (by assumption) | with_reducible exact Past.bel _ | with_reducible refine Ext.trans ?_ (Past.bel _)))) _).mono ?_); rintro e w' ⟨rfl, hx⟩; (first | (obtain ⟨wx, rfl⟩ := Past.again hx) | (obtain ⟨wx, rfl⟩ := Past.ofd hx) | (obtain ⟨wx, rfl⟩ := Past.of hx)))))
      go_ret2
      exact ⟨by rw [rtV, rtC, rtB, h1, h2]; rfl, (by repeat (first | with_reducible exact Ext.refl _ | with_reducible assumption | with_reducible refine Ext.alloc ?_ _ | with_reducible refine Ext.drew ?_ | (with_reducible refine Ext.setAt ?_ _ _ _ ?_; rotate_left; omega) | with_reducible refine Ext.trans ?_ (by assumption) | with_reducible exact Past.bel _ | with_reducible refine Ext.trans ?_ (Past.bel _)))⟩
    · cases h3 : inB need 0 1000000
      · go_enter Try.func40, Try.ntmps40
        go_wp2_with (first | (go_at_call 49; ((with_reducible refine (l13Ok_c hn (HS.out.ext (by repeat (first | with_reducible exact Ext.refl _ | with_reducible assumption | with_reducible refine Ext.alloc ?_ _ | with_reducible refine Ext.drew ?_ | (with_reducible refine Ext.setAt ?_ _ _ _ ?_; rotate_left; omega) | with_reducible refine Ext.trans ?_ (by assumption) | with_reducible exact Past.bel _ | with_reducible refine Ext.trans ?_ (Past.bel _))))).mono ?_); rintro e w' ⟨rfl, hx⟩; (first | (obtain ⟨wx, rfl⟩ := Past.again hx) | (obtain ⟨wx, rfl⟩ := Past.ofd hx) | (obtain ⟨wx, rfl⟩ := Past.of hx)))) | (go_at_call 50; ((with_reducible refine (l13In_c hn1 hn (HS.out.ext (by repeat (first | with_reducible exact Ext.refl _ | with_reducible assumption | with_reducible refine Ext.alloc ?_ _ | with_reducible refine Ext.drew ?_ | (with_reducible refine Ext.setAt ?_ _ _ _ ?_; rotate_left; omega) | with_reducible refine Ext.trans ?_ (by assumption) | with_reducible exact Past.bel _ | with_reducible refine Ext.trans ?_ (Past.bel _)))) _).mono ?_); rintro e w' ⟨rfl, hx⟩; (first | (obtain ⟨wx, rfl⟩ := Past.again hx) | (obtain ⟨wx, rfl⟩ := Past.ofd hx) | (obtain ⟨wx, rfl⟩ := Past.of hx)))) | (go_at_call 57; ((with_reducible refine (l00In_c _ _ _ _).mono ?_); rintro e w' ⟨rfl, rfl⟩)))
        go_ret2
        exact ⟨by rw [rtV, rtC, rtB, h1, h2, h3]; rfl, (by repeat (first | with_reducible exact Ext.refl _ | with_reducible assumption | with_reducible refine Ext.alloc ?_ _ | with_reducible refine Ext.drew ?_ | (with_reducible refine Ext.setAt ?_ _ _ _ ?_; rotate_left; omega) | with_reducible refine Ext.trans ?_ (by assumption) | with_reducible exact Past.bel _ | with_reducible refine Ext.trans ?_ (Past.bel _)))⟩
      · have H2 := Lib.hid h2
        have ht := B.out.inS h2
        obtain ⟨P0, hP0⟩ : ∃ P, P = pullF wd pl t := ⟨_, rfl⟩
        have HP0 := Lib.hid hP0
        have HC0 := Lib.hid (fun W (hq : Ext w W) => (hP0 ▸ l13At_c B.out (HS.out.ext hq) H2.out : Calls Try.prog 51 #[.agg #[.slice a n c], .int .i64 t] W fun e w' => e = .returned (.int .i64 P0) ∧ Ext W w'))
        clear hP0
        by_cases h4 : P0 < need
        · go_enter Try.func40, Try.ntmps40
          go_wp2_with (first | (go_at_call 49; ((with_reducible refine (l13Ok_c hn (HS.out.ext (by repeat (first | with_reducible exact Ext.refl _ | with_reducible assumption | with_reducible refine Ext.alloc ?_ _ | with_reducible refine Ext.drew ?_ | (with_reducible refine Ext.setAt ?_ _ _ _ ?_; rotate_left; omega) | with_reducible refine Ext.trans ?_ (by assumption) | with_reducible exact Past.bel _ | with_reducible refine Ext.trans ?_ (Past.bel _))))).mono ?_); rintro e w' ⟨rfl, hx⟩; (first | (obtain ⟨wx, rfl⟩ := Past.again hx) | (obtain ⟨wx, rfl⟩ := Past.ofd hx) | (obtain ⟨wx, rfl⟩ := Past.of hx)))) | (go_at_call 50; ((with_reducible refine (l13In_c hn1 hn (HS.out.ext (by repeat (first | with_reducible exact Ext.refl _ | with_reducible assumption | with_reducible refine Ext.alloc ?_ _ | with_reducible refine Ext.drew ?_ | (with_reducible refine Ext.setAt ?_ _ _ _ ?_; rotate_left; omega) | with_reducible refine Ext.trans ?_ (by assumption) | with_reducible exact Past.bel _ | with_reducible refine Ext.trans ?_ (Past.bel _)))) _).mono ?_); rintro e w' ⟨rfl, hx⟩; (first | (obtain ⟨wx, rfl⟩ := Past.again hx) | (obtain ⟨wx, rfl⟩ := Past.ofd hx) | (obtain ⟨wx, rfl⟩ := Past.of hx)))) | (go_at_call 57; ((with_reducible refine (l00In_c _ _ _ _).mono ?_); rintro e w' ⟨rfl, rfl⟩)) | (go_at_call 51; ((with_reducible refine (HC0.out _ (by repeat (first | with_reducible exact Ext.refl _ | with_reducible assumption | with_reducible refine Ext.alloc ?_ _ | with_reducible refine Ext.drew ?_ | (with_reducible refine Ext.setAt ?_ _ _ _ ?_; rotate_left; omega) | with_reducible refine Ext.trans ?_ (by assumption) | with_reducible exact Past.bel _ | with_reducible refine Ext.trans ?_ (Past.bel _)))).mono ?_); rintro e w' ⟨rfl, hx⟩; (first | (obtain ⟨wx, rfl⟩ := Past.again hx) | (obtain ⟨wx, rfl⟩ := Past.ofd hx) | (obtain ⟨wx, rfl⟩ := Past.of hx)))))
          go_ret2
          exact ⟨by have e : ¬ need ≤ pullF wd pl t := by rw [← HP0.out]; omega
                    rw [rtV, rtC, rtB, h1, h2, h3, decide_eq_false e, if_neg e]; rfl, (by repeat (first | with_reducible exact Ext.refl _ | with_reducible assumption | with_reducible refine Ext.alloc ?_ _ | with_reducible refine Ext.drew ?_ | (with_reducible refine Ext.setAt ?_ _ _ _ ?_; rotate_left; omega) | with_reducible refine Ext.trans ?_ (by assumption) | with_reducible exact Past.bel _ | with_reducible refine Ext.trans ?_ (Past.bel _)))⟩
        · have HD := Lib.hid (show ∀ j : Nat, RunE n wd pl t need j → (j : Int) = rtV n wd pl t need ∧ 0 = rtC n wd pl t need from fun j r => rt_ret h1 h2 h3 (by rw [← HP0.out]; omega) r)
          have HO := Lib.hid (show ∀ i : Nat, i ≤ 0 → inS n wd (t - i) = true ∧ need ≤ pullF wd pl (t - i) from fun i hi => by
            obtain rfl : i = 0 := by omega
            have e : t - ((0 : Nat) : Int) = t := by omega
            rw [e]; exact ⟨h2, by rw [← HP0.out]; omega⟩)
          go_enter Try.func40, Try.ntmps40
          go_wp2_with (first | (go_at_call 49; ((with_reducible refine (l13Ok_c hn (HS.out.ext (by repeat (first | with_reducible exact Ext.refl _ | with_reducible assumption | with_reducible refine Ext.alloc ?_ _ | with_reducible refine Ext.drew ?_ | (with_reducible refine Ext.setAt ?_ _ _ _ ?_; rotate_left; omega) | with_reducible refine Ext.trans ?_ (by assumption) | with_reducible exact Past.bel _ | with_reducible refine Ext.trans ?_ (Past.bel _))))).mono ?_); rintro e w' ⟨rfl, hx⟩; (first | (obtain ⟨wx, rfl⟩ := Past.again hx) | (obtain ⟨wx, rfl⟩ := Past.ofd hx) | (obtain ⟨wx, rfl⟩ := Past.of hx)))) | (go_at_call 50; ((with_reducible refine (l13In_c hn1 hn (HS.out.ext (by repeat (first | with_reducible exact Ext.refl _ | with_reducible assumption | with_reducible refine Ext.alloc ?_ _ | with_reducible refine Ext.drew ?_ | (with_reducible refine Ext.setAt ?_ _ _ _ ?_; rotate_left; omega) | with_reducible refine Ext.trans ?_ (by assumption) | with_reducible exact Past.bel _ | with_reducible refine Ext.trans ?_ (Past.bel _)))) _).mono ?_); rintro e w' ⟨rfl, hx⟩; (first | (obtain ⟨wx, rfl⟩ := Past.again hx) | (obtain ⟨wx, rfl⟩ := Past.ofd hx) | (obtain ⟨wx, rfl⟩ := Past.of hx)))) | (go_at_call 57; ((with_reducible refine (l00In_c _ _ _ _).mono ?_); rintro e w' ⟨rfl, rfl⟩)) | (go_at_call 51; ((with_reducible refine (HC0.out _ (by repeat (first | with_reducible exact Ext.refl _ | with_reducible assumption | with_reducible refine Ext.alloc ?_ _ | with_reducible refine Ext.drew ?_ | (with_reducible refine Ext.setAt ?_ _ _ _ ?_; rotate_left; omega) | with_reducible refine Ext.trans ?_ (by assumption) | with_reducible exact Past.bel _ | with_reducible refine Ext.trans ?_ (Past.bel _)))).mono ?_); rintro e w' ⟨rfl, hx⟩; (first | (obtain ⟨wx, rfl⟩ := Past.again hx) | (obtain ⟨wx, rfl⟩ := Past.ofd hx) | (obtain ⟨wx, rfl⟩ := Past.of hx)))))
          go_loopw [8] (fun q wr => ∃ j : Nat, q = .int .i64 (j : Nat) ∧ j ≤ 2001 ∧ (∀ i : Nat, i ≤ j → inS n wd (t - i) = true ∧ need ≤ pullF wd pl (t - i)) ∧ Ext (w.alloc (.cells #[.slice a n c] 26)) wr) (fun q _ => 3000 - (intOf q).toNat)
          case atStart => exact ⟨0, rfl, by omega, HO.out, (by repeat (first | with_reducible exact Ext.refl _ | with_reducible assumption | with_reducible refine Ext.alloc ?_ _ | with_reducible refine Ext.drew ?_ | (with_reducible refine Ext.setAt ?_ _ _ _ ?_; rotate_left; omega) | with_reducible refine Ext.trans ?_ (by assumption) | with_reducible exact Past.bel _ | with_reducible refine Ext.trans ?_ (Past.bel _)))⟩
          case round =>
            obtain ⟨j, rfl, hj, hok, hbl⟩ := hrel
            have OK := Lib.hid hok
            have hz := hbl.size
            simp only [World.size_alloc] at hz
            have hg : w.heap.size < wr.heap.size := by omega
            have p0 : wr.cell? ⟨w.heap.size, 0, none⟩ = some (.slice a n c) := by rw [hbl.cell (by simp)]; simp [go_sem]
            have hxw : Ext w wr := Ext.trans (by repeat (first | with_reducible exact Ext.refl _ | with_reducible assumption | with_reducible refine Ext.alloc ?_ _ | with_reducible refine Ext.drew ?_ | (with_reducible refine Ext.setAt ?_ _ _ _ ?_; rotate_left; omega) | with_reducible refine Ext.trans ?_ (by assumption) | with_reducible exact Past.bel _ | with_reducible refine Ext.trans ?_ (Past.bel _))) hbl
            have hjt := B.out.inS (hok j (Nat.le_refl _)).1
            clear hok
            have hin := OK.out j (Nat.le_refl _)
            have hin2 := inB_t.1 hin.1
            obtain ⟨F0, hF0⟩ : ∃ F, F = wd 0 := ⟨_, rfl⟩
            have HF := Lib.hid (fun W (hq : Ext w W) => (hF0 ▸ l13First_c hn1 (HS.out.ext hq) : Calls Try.prog 68 #[.agg #[.slice a n c]] W fun e w' => e = .returned (.int .i64 F0) ∧ Ext W w'))
            rw [← hF0] at hin2
            have HF0 := Lib.hid hF0
            clear hin hF0
            cases h5 : inS n wd (t - (j : Int) - 1)
            · have hno : t - (j : Int) ≤ F0 := by
                rcases Int.lt_or_le F0 (t - (j : Int)) with h | h
                · have := inB_f.1 h5
                  rw [← HF0.out] at this
                  exact absurd ⟨by omega, by omega⟩ this
                · exact h
              have HR := Lib.hid (HD.out j ⟨OK.out, by rw [h5]; simp⟩)
              go_wp2_with (go_at_call 68; ((with_reducible refine (HF.out _ (by repeat (first | with_reducible exact Ext.refl _ | with_reducible assumption | with_reducible refine Ext.alloc ?_ _ | with_reducible refine Ext.drew ?_ | (with_reducible refine Ext.setAt ?_ _ _ _ ?_; rotate_left; omega) | with_reducible refine Ext.trans ?_ (by assumption) | with_reducible exact Past.bel _ | with_reducible refine Ext.trans ?_ (Past.bel _)))).mono ?_); rintro e w' ⟨rfl, hx⟩; (first | (obtain ⟨wx, rfl⟩ := Past.again hx) | (obtain ⟨wx, rfl⟩ := Past.ofd hx) | (obtain ⟨wx, rfl⟩ := Past.of hx))))
              go_ret2
              exact ⟨ret_two (congrArg (Value.int IntKind.i64) HR.out.1) (congrArg (Value.int IntKind.i64) HR.out.2), (by repeat (first | with_reducible exact Ext.refl _ | with_reducible assumption | with_reducible refine Ext.alloc ?_ _ | with_reducible refine Ext.drew ?_ | (with_reducible refine Ext.setAt ?_ _ _ _ ?_; rotate_left; omega) | with_reducible refine Ext.trans ?_ (by assumption) | with_reducible exact Past.bel _ | with_reducible refine Ext.trans ?_ (Past.bel _)))⟩
            · have hyes : F0 < t - (j : Int) := by have := inB_t.1 h5; rw [← HF0.out] at this; omega
              have H5 := Lib.hid h5
              obtain ⟨P1, hP1⟩ : ∃ P, P = pullF wd pl (t - (j : Int) - 1) := ⟨_, rfl⟩
              have HP1 := Lib.hid hP1
              have HC1 := Lib.hid (fun W (hq : Ext w W) => (hP1 ▸ l13At_c B.out (HS.out.ext hq) H5.out : Calls Try.prog 51 #[.agg #[.slice a n c], .int .i64 (t - (j : Int) - 1)] W fun e w' => e = .returned (.int .i64 P1) ∧ Ext W w'))
              clear hP1
              by_cases h6 : need ≤ P1
              · have HN := Lib.hid (show ∀ i : Nat, i ≤ j + 1 → inS n wd (t - i) = true ∧ need ≤ pullF wd pl (t - i) from fun i hi => by
                  by_cases e : i = j + 1
                  · subst e
                    have e2 : t - ((j + 1 : Nat) : Int) = t - j - 1 := by omega
                    rw [e2]; exact ⟨H5.out, by rw [← HP1.out]; exact h6⟩
                  · exact OK.out i (by omega))
                have hj2 := B.out.inS h5
                go_wp2_with (first | (go_at_call 68; ((with_reducible refine (HF.out _ (by repeat (first | with_reducible exact Ext.refl _ | with_reducible assumption | with_reducible refine Ext.alloc ?_ _ | with_reducible refine Ext.drew ?_ | (with_reducible refine Ext.setAt ?_ _ _ _ ?_; rotate_left; omega) | with_reducible refine Ext.trans ?_ (by assumption) | with_reducible exact Past.bel _ | with_reducible refine Ext.trans ?_ (Past.bel _)))).mono ?_); rintro e w' ⟨rfl, hx⟩; (first | (obtain ⟨wx, rfl⟩ := Past.again hx) | (obtain ⟨wx, rfl⟩ := Past.ofd hx) | (obtain ⟨wx, rfl⟩ := Past.of hx)))) | (go_at_call 51; ((with_reducible refine (HC1.out _ (by repeat (first | with_reducible exact Ext.refl _ | with_reducible assumption | with_reducible refine Ext.alloc ?_ _ | with_reducible refine Ext.drew ?_ | (with_reducible refine Ext.setAt ?_ _ _ _ ?_; rotate_left; omega) | with_reducible refine Ext.trans ?_ (by assumption) | with_reducible exact Past.bel _ | with_reducible refine Ext.trans ?_ (Past.bel _)))).mono ?_); rintro e w' ⟨rfl, hx⟩; (first | (obtain ⟨wx, rfl⟩ := Past.again hx) | (obtain ⟨wx, rfl⟩ := Past.ofd hx) | (obtain ⟨wx, rfl⟩ := Past.of hx)))))
                exact ⟨⟨j + 1, by go_num, by omega, HN.out, (by repeat (first | with_reducible exact Ext.refl _ | with_reducible assumption | with_reducible refine Ext.alloc ?_ _ | with_reducible refine Ext.drew ?_ | (with_reducible refine Ext.setAt ?_ _ _ _ ?_; rotate_left; omega) | with_reducible refine Ext.trans ?_ (by assumption) | with_reducible exact Past.bel _ | with_reducible refine Ext.trans ?_ (Past.bel _)))⟩, by simp [intOf]; omega⟩
              · have HR := Lib.hid (HD.out j ⟨OK.out, fun hc => h6 (by rw [HP1.out]; exact hc.2)⟩)
                go_wp2_with (first | (go_at_call 68; ((with_reducible refine (HF.out _ (by repeat (first | with_reducible exact Ext.refl _ | with_reducible assumption | with_reducible refine Ext.alloc ?_ _ | with_reducible refine Ext.drew ?_ | (with_reducible refine Ext.setAt ?_ _ _ _ ?_; rotate_left; omega) | with_reducible refine Ext.trans ?_ (by assumption) | with_reducible exact Past.bel _ | with_reducible refine Ext.trans ?_ (Past.bel _)))).mono ?_); rintro e w' ⟨rfl, hx⟩; (first | (obtain ⟨wx, rfl⟩ := Past.again hx) | (obtain ⟨wx, rfl⟩ := Past.ofd hx) | (obtain ⟨wx, rfl⟩ := Past.of hx)))) | (go_at_call 51; ((with_reducible refine (HC1.out _ (by repeat (first | with_reducible exact Ext.refl _ | with_reducible assumption | with_reducible refine Ext.alloc ?_ _ | with_reducible refine Ext.drew ?_ | (with_reducible refine Ext.setAt ?_ _ _ _ ?_; rotate_left; omega) | with_reducible refine Ext.trans ?_ (by assumption) | with_reducible exact Past.bel _ | with_reducible refine Ext.trans ?_ (Past.bel _)))).mono ?_); rintro e w' ⟨rfl, hx⟩; (first | (obtain ⟨wx, rfl⟩ := Past.again hx) | (obtain ⟨wx, rfl⟩ := Past.ofd hx) | (obtain ⟨wx, rfl⟩ := Past.of hx)))))
                go_ret2
                exact ⟨ret_two (congrArg (Value.int IntKind.i64) HR.out.1) (congrArg (Value.int IntKind.i64) HR.out.2), (by repeat (first | with_reducible exact Ext.refl _ | with_reducible assumption | with_reducible refine Ext.alloc ?_ _ | with_reducible refine Ext.drew ?_ | (with_reducible refine Ext.setAt ?_ _ _ _ ?_; rotate_left; omega) | with_reducible refine Ext.trans ?_ (by assumption) | with_reducible exact Past.bel _ | with_reducible refine Ext.trans ?_ (Past.bel _)))⟩
end
end Go.Proofs.Ytglcjnplmhelhaa

namespace Go.Proofs.Ytglcjnplmhelhaa
open Go.RowKit
set_option linter.unusedVariables false
set_option linter.unusedSimpArgs false

theorem ceil_eq {m r : Int} (hr : 0 < r) : -(-m / r) = (m + r - 1) / r := by
  have h1 := Int.mul_ediv_add_emod (-m) r
  have h2 := Int.emod_nonneg (-m) (show r ≠ 0 by omega)
  have h3 := Int.emod_lt_of_pos (-m) hr
  obtain ⟨q, hq⟩ : ∃ q, q = -m / r := ⟨_, rfl⟩
  rw [← hq] at h1 ⊢
  have e4 : m + r - 1 = (r - 1 - (-m % r)) + r * (-q) := by grind
  rw [e4, Int.add_mul_ediv_left _ _ (by omega), Int.ediv_eq_zero_of_lt (by omega) (by omega)]; omega
def wfB (m r : Int) : Bool := inB m 0 1000000000 && inB r 1 10000
def wfV (m r : Int) : Int := if wfB m r then (m + r - 1) / r else 0
def wfC (m r : Int) : Int := if wfB m r then 0 else 2
theorem ceilDiv_c (m r : Int) (w : World) (hr : 1 ≤ r) (hr2 : r ≤ 10000) (h0 : 0 ≤ m) (h1 : m ≤ 1000000000) :
    Calls Try.prog 56 #[.int .i64 m, .int .i64 r] w fun e w' => e = .returned (.int .i64 ((m + r - 1) / r)) ∧ w = w' := by
  rw [← ceil_eq (show 0 < r by omega)]
  have hb := ediv_bd (N := 9223372036854775807) (show 0 < r by omega) (show -9223372036854775807 ≤ -m by omega) (by omega) (by omega)
  obtain ⟨q, hq⟩ : ∃ q, q = -m / r := ⟨_, rfl⟩
  have HC := Lib.hid (fun W => (hq ▸ floorDiv_c (-m) r W (by omega) (by omega) (by omega) : Calls Try.prog 74 #[.int .i64 (-m), .int .i64 r] W fun e w' => e = .returned (.int .i64 q) ∧ W = w'))
  rw [← hq] at hb ⊢
  clear hq
  go_enter Try.func56, Try.ntmps56
  go_wp2_with (go_at_call 74; ((with_reducible refine (HC.out _).mono ?_); rintro e w' ⟨rfl, rfl⟩))
  go_ret
  exact ⟨rfl, rfl⟩
theorem implWeightFor_c (m r : Int) (w : World) :
    Calls Try.prog 16 #[.int .i64 m, .int .i64 r] w fun e w' => e = .returned (.tuple #[.int .i64 (wfV m r), .int .i64 (wfC m r)]) ∧ w = w' := by
  cases h1 : inB m 0 1000000000
  · go_enter Try.func16, Try.ntmps16
    go_wp2_with (go_at_call 52; ((with_reducible refine (within_c _ _ _ _).mono ?_); rintro e w' ⟨rfl, rfl⟩))
    go_ret2
    exact ⟨by rw [wfV, wfC, wfB, h1]; rfl, rfl⟩
  · cases h2 : inB r 1 10000
    · go_enter Try.func16, Try.ntmps16
      go_wp2_with (go_at_call 52; ((with_reducible refine (within_c _ _ _ _).mono ?_); rintro e w' ⟨rfl, rfl⟩))
      go_ret2
      exact ⟨by rw [wfV, wfC, wfB, h1, h2]; rfl, rfl⟩
    · have h1' := inB_t.1 h1
      have h2' := inB_t.1 h2
      go_enter Try.func16, Try.ntmps16
      go_wp2_with (first | (go_at_call 52; ((with_reducible refine (within_c _ _ _ _).mono ?_); rintro e w' ⟨rfl, rfl⟩)) | (go_at_call 56; ((with_reducible refine (ceilDiv_c _ _ _ (by omega) (by omega) (by omega) (by omega)).mono ?_); rintro e w' ⟨rfl, rfl⟩)))
      go_ret2
      exact ⟨by rw [wfV, wfC, wfB, h1, h2]; rfl, rfl⟩
theorem specWeightFor_c (m r : Int) (w : World) :
    Calls Try.prog 17 #[.int .i64 m, .int .i64 r] w fun e w' => e = .returned (.tuple #[.int .i64 (wfV m r), .int .i64 (wfC m r)]) ∧ w = w' := by
  cases h1 : inB m 0 1000000000
  · go_enter Try.func17, Try.ntmps17
    go_wp2_with (go_at_call 57; ((with_reducible refine (l00In_c _ _ _ _).mono ?_); rintro e w' ⟨rfl, rfl⟩))
    go_ret2
    exact ⟨by rw [wfV, wfC, wfB, h1]; rfl, rfl⟩
  · cases h2 : inB r 1 10000
    · go_enter Try.func17, Try.ntmps17
      go_wp2_with (go_at_call 57; ((with_reducible refine (l00In_c _ _ _ _).mono ?_); rintro e w' ⟨rfl, rfl⟩))
      go_ret2
      exact ⟨by rw [wfV, wfC, wfB, h1, h2]; rfl, rfl⟩
    · have h1' := inB_t.1 h1
      have h2' := inB_t.1 h2
      obtain ⟨S, hS⟩ : ∃ S, S = m + r - 1 := ⟨_, rfl⟩
      have t1 : (m + r - 1).tdiv r = (m + r - 1) / r := Int.tdiv_eq_ediv_of_nonneg (by omega)
      have hb := ediv_bd (N := 9223372036854775807) (show 0 < r by omega) (show -9223372036854775807 ≤ m + r - 1 by omega) (by omega) (by omega)
      go_enter Try.func17, Try.ntmps17
      go_wp2_with (go_at_call 57; ((with_reducible refine (l00In_c _ _ _ _).mono ?_); rintro e w' ⟨rfl, rfl⟩))
      go_ret2
      exact ⟨by rw [wfV, wfC, wfB, h1, h2]; rfl, rfl⟩
end Go.Proofs.Ytglcjnplmhelhaa
