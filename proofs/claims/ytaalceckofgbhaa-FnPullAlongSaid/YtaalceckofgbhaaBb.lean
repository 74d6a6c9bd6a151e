/- Torque along a train of gears: plain arithmetic. No program in sight. Trains checked: the program and the reference. Lists of pairs checked: the program and the reference. Slices that a call makes and writes: what is kept, what is read, what is marked. No program in sight. An append of one number at a step of a region that draws its order. No program in sight. An append of one number at a step, with what it leaves, of a region that draws its order. No program in sight. What the functions on fits return, further. Lists of readings: copied, compared, checked, summed. Lists of readings: checked. Lists of readings: summed. Laws on lists of readings that only read: ValidReadings, FitOf. Lists of integers: compared, marked, held; absolute values. Dice and draws: numbers that follow from bytes. Draws: a source of numbers. Draws: pick, one, among. Lists of pairs that a draw makes beside its source. The draw of readings. The draws of the laws on readings: lists. Jumps of readings: the program's and the reference's. Rates between readings: the program's and the reference's. Sums of valid readings are valid (Cauchy and Schwarz). No program in sight. Residuals of readings: the reference's. Residuals of readings: the program's. The law on ResidualsOf. Residuals add up to nearly nothing; what moves with the errors. No program in sight. Lists compared, absolute values: of the laws. -/
import Derived.Test.YtaalceckofgbhaaBa
import Derived.Deep.RegionHeld3
import Derived.Deep.AppendLies
import Derived.Deep.DeepCutAuto
import Derived.WalkKit

namespace Go.Proofs.Ytaalceckofgbhaa
set_option linter.unusedVariables false

/-- teeth -/
def tB (n : Int) : Bool := inB n 6 240
/-- one pair -/
def prB (a b : Int) : Bool := tB a && tB b
/-- the first k pairs -/
def trTo (h o : Nat → Int) : Nat → Bool
  | 0 => true
  | k + 1 => trTo h o k && prB (h k) (o k)
/-- a train -/
def trV (n : Nat) (h o : Nat → Int) : Bool := trTo h o n && decide (n ≤ 5)
theorem trTo_le {h o : Nat → Int} {n k : Nat} (ht : trTo h o n = true) (hk : k ≤ n) : trTo h o k = true := by
  induction n with
  | zero => obtain rfl : k = 0 := by omega
            rfl
  | succ n ih =>
    simp only [trTo, Bool.and_eq_true] at ht
    by_cases e : k = n + 1
    · subst e; simp only [trTo, Bool.and_eq_true]; exact ht
    · exact ih ht.1 (by omega)
theorem trTo_at {h o : Nat → Int} {n k : Nat} (ht : trTo h o n = true) (hk : k < n) : (6 ≤ h k ∧ h k ≤ 240) ∧ 6 ≤ o k ∧ o k ≤ 240 := by
  have := trTo_le ht (show k + 1 ≤ n by omega)
  simp only [trTo, Bool.and_eq_true, prB, tB] at this
  exact ⟨inB_t.1 this.2.1, inB_t.1 this.2.2⟩
theorem trTo_ff {h o : Nat → Int} {n k : Nat} (hk : k < n) (hf : prB (h k) (o k) = false) : trTo h o n = false := by
  cases ht : trTo h o n
  · rfl
  · have := trTo_le ht (show k + 1 ≤ n by omega)
    simp only [trTo, Bool.and_eq_true, hf] at this
    simp at this
theorem trV_ff {h o : Nat → Int} {n k : Nat} (hk : k < n) (hf : prB (h k) (o k) = false) : trV n h o = false := by rw [trV, trTo_ff hk hf]; rfl
theorem trV_to {h o : Nat → Int} {n : Nat} (hv : trV n h o = true) : trTo h o n = true ∧ n ≤ 5 := by
  simp only [trV, Bool.and_eq_true, decide_eq_true_eq] at hv
  exact hv
/-- one pair's torque -/
def stp (l a b p : Int) : Int := p * b / a * (1000 - l) / 1000
/-- the torque of arbor k -/
def plk (h o : Nat → Int) (p l : Int) : Nat → Int
  | 0 => p
  | k + 1 => stp l (h k) (o k) (plk h o p l k)
/-- a step's numbers -/
theorem stp_bd {l a b p B : Int} (ha : 6 ≤ a) (ha' : a ≤ 240) (hb : 6 ≤ b) (hb' : b ≤ 240) (hl : 0 ≤ l) (hl' : l ≤ 1000) (hp : 0 ≤ p) (hp' : p ≤ B) :
    (0 ≤ p * b ∧ p * b ≤ 240 * B) ∧ (0 ≤ p * b / a ∧ p * b / a ≤ 40 * B) ∧ (0 ≤ p * b / a * (1000 - l) ∧ p * b / a * (1000 - l) ≤ 40000 * B) ∧ 0 ≤ stp l a b p ∧ stp l a b p ≤ 40 * B := by
  have m1 := mul_nn (A := B) (B := 240) hp hp' (show 0 ≤ b by omega) hb'
  have q0 := Int.ediv_nonneg m1.1 (show 0 ≤ a by omega)
  have q1 : p * b / a ≤ 40 * B := by
    refine Int.ediv_le_of_le_mul (by omega) ?_
    have h2 : 40 * B * 6 ≤ 40 * B * a := Int.mul_le_mul_of_nonneg_left ha (by omega)
    omega
  have m2 := mul_nn (A := 40 * B) (B := 1000) q0 q1 (show 0 ≤ 1000 - l by omega) (by omega)
  refine ⟨⟨m1.1, by omega⟩, ⟨q0, q1⟩, ⟨m2.1, by omega⟩, ?_, ?_⟩
  · exact Int.ediv_nonneg m2.1 (by omega)
  · unfold stp; omega
theorem stp_mono {l a b p q : Int} (ha : 0 < a) (hb : 0 ≤ b) (hl : l ≤ 1000) (h : p ≤ q) : stp l a b p ≤ stp l a b q := by
  unfold stp
  have h1 : p * b ≤ q * b := Int.mul_le_mul_of_nonneg_right h hb
  have h2 : p * b / a ≤ q * b / a := Int.ediv_le_ediv ha h1
  have h3 : p * b / a * (1000 - l) ≤ q * b / a * (1000 - l) := Int.mul_le_mul_of_nonneg_right h2 (by omega)
  exact Int.ediv_le_ediv (by omega) h3
theorem plk_mono {h o : Nat → Int} {n : Nat} {l p q : Int} (ht : trTo h o n = true) (hl : l ≤ 1000) (hpq : p ≤ q) : ∀ k, k ≤ n → plk h o p l k ≤ plk h o q l k := by
  intro k
  induction k with
  | zero => intro _; exact hpq
  | succ k ih =>
    intro hk
    obtain ⟨⟨a0, _⟩, b0, _⟩ := trTo_at ht (show k < n by omega)
    exact stp_mono (by omega) (by omega) hl (ih (by omega))
theorem plk_bd {h o : Nat → Int} {n : Nat} {l p : Int} (ht : trTo h o n = true) (hl : 0 ≤ l) (hl' : l ≤ 1000) (hp : 0 ≤ p) (hp' : p ≤ 1000000) : ∀ k, k ≤ n → 0 ≤ plk h o p l k ∧ plk h o p l k ≤ 1000000 * 40 ^ k := by
  intro k
  induction k with
  | zero => intro _; exact ⟨hp, by simpa [plk] using hp'⟩
  | succ k ih =>
    intro hk
    obtain ⟨⟨a0, a1⟩, b0, b1⟩ := trTo_at ht (show k < n by omega)
    have h1 := ih (by omega)
    have h2 := (stp_bd a0 a1 b0 b1 hl hl' h1.1 h1.2).2.2.2
    have e : (40 : Int) ^ (k + 1) = 40 ^ k * 40 := Int.pow_succ 40 k
    rw [e]
    exact ⟨h2.1, by have := h2.2; simp only [plk]; omega⟩
theorem plk_bd5 {h o : Nat → Int} {n : Nat} {l p : Int} (ht : trTo h o n = true) (hn : n ≤ 5) (hl : 0 ≤ l) (hl' : l ≤ 1000) (hp : 0 ≤ p) (hp' : p ≤ 1000000) {k : Nat} (hk : k < n) : 0 ≤ plk h o p l k ∧ plk h o p l k ≤ 2560000000000 := by
  have h1 := plk_bd ht hl hl' hp hp' k (by omega)
  have h2 : (1000000 : Int) * 40 ^ k ≤ 2560000000000 := by
    obtain rfl | rfl | rfl | rfl | rfl : k = 0 ∨ k = 1 ∨ k = 2 ∨ k = 3 ∨ k = 4 := by omega
    all_goals decide
  exact ⟨h1.1, by omega⟩
/-- PullAlong's code -/
def alC (n : Nat) (h o : Nat → Int) (p l : Int) : Int := if trV n h o then (if inB p 0 1000000 && inB l 0 1000 then 0 else 2) else 1
/-- how many torques it returns -/
def alN (n : Nat) (h o : Nat → Int) (p l : Int) : Nat := if trV n h o && (inB p 0 1000000 && inB l 0 1000) then n + 1 else 0
theorem al_ok {n : Nat} {h o : Nat → Int} {p l : Int} (hc : alC n h o p l = 0) : trTo h o n = true ∧ n ≤ 5 ∧ (0 ≤ p ∧ p ≤ 1000000) ∧ (0 ≤ l ∧ l ≤ 1000) ∧ alN n h o p l = n + 1 := by
  unfold alC at hc
  split at hc
  · rename_i hv
    split at hc
    · rename_i hr
      have hr2 := hr
      simp only [Bool.and_eq_true] at hr
      exact ⟨(trV_to hv).1, (trV_to hv).2, inB_t.1 hr.1, inB_t.1 hr.2, by rw [alN, hv, hr2]; rfl⟩
    · exact absurd hc (by decide)
  · exact absurd hc (by decide)
theorem al_is {n : Nat} {h o : Nat → Int} {p l : Int} (hv : trV n h o = true) (hp : 0 ≤ p) (hp' : p ≤ 1000000) (hl : 0 ≤ l) (hl' : l ≤ 1000) : alC n h o p l = 0 ∧ alN n h o p l = n + 1 := by
  have h1 : inB p 0 1000000 = true := inB_t.2 ⟨hp, hp'⟩
  have h2 : inB l 0 1000 = true := inB_t.2 ⟨hl, hl'⟩
  constructor
  · rw [alC, hv, h1, h2]; rfl
  · rw [alN, hv, h1, h2]; rfl
theorem alN_le {n : Nat} {h o : Nat → Int} {p l : Int} : alN n h o p l ≤ 6 := by
  unfold alN
  split
  · rename_i hv
    simp only [Bool.and_eq_true] at hv
    have := (trV_to hv.1).2
    omega
  · omega
/-- what LeastPull returns: a code and a torque -/
structure Lp (n : Nat) (h o : Nat → Int) (need l : Int) (v C : Int) : Prop where
  bad : trV n h o = false → C = 1 ∧ v = 0
  rng : trV n h o = true → (inB need 0 1000000 && inB l 0 1000) = false → C = 2 ∧ v = 0
  non : trV n h o = true → (inB need 0 1000000 && inB l 0 1000) = true → plk h o 1000000 l n < need → C = 3 ∧ v = 0
  yes : trV n h o = true → (inB need 0 1000000 && inB l 0 1000) = true → need ≤ plk h o 1000000 l n → C = 0 ∧ 0 ≤ v ∧ v ≤ 1000000 ∧ need ≤ plk h o v l n ∧ ∀ t, 0 ≤ t → t < v → plk h o t l n < need
theorem Lp.one {n : Nat} {h o : Nat → Int} {need l v C v' C' : Int} (x : Lp n h o need l v C) (y : Lp n h o need l v' C') : C = C' ∧ v = v' := by
  cases hv : trV n h o
  · exact ⟨(x.bad hv).1.trans (y.bad hv).1.symm, (x.bad hv).2.trans (y.bad hv).2.symm⟩
  · cases hr : (inB need 0 1000000 && inB l 0 1000)
    · exact ⟨(x.rng hv hr).1.trans (y.rng hv hr).1.symm, (x.rng hv hr).2.trans (y.rng hv hr).2.symm⟩
    · by_cases hm : plk h o 1000000 l n < need
      · exact ⟨(x.non hv hr hm).1.trans (y.non hv hr hm).1.symm, (x.non hv hr hm).2.trans (y.non hv hr hm).2.symm⟩
      · obtain ⟨a1, a2, a3, a4, a5⟩ := x.yes hv hr (by omega)
        obtain ⟨b1, b2, b3, b4, b5⟩ := y.yes hv hr (by omega)
        refine ⟨a1.trans b1.symm, ?_⟩
        rcases Int.lt_trichotomy v v' with h1 | h1 | h1
        · have := b5 v a2 h1; omega
        · exact h1
        · have := a5 v' b2 h1; omega
theorem Lp.ok {n : Nat} {h o : Nat → Int} {need l v : Int} (x : Lp n h o need l v 0) : trTo h o n = true ∧ trV n h o = true ∧ (0 ≤ l ∧ l ≤ 1000) ∧ (0 ≤ v ∧ v ≤ 1000000) ∧ need ≤ plk h o v l n ∧ ∀ t, 0 ≤ t → t < v → plk h o t l n < need := by
  cases hv : trV n h o
  · exact absurd (x.bad hv).1 (by decide)
  · cases hr : (inB need 0 1000000 && inB l 0 1000)
    · exact absurd (x.rng hv hr).1 (by decide)
    · by_cases hm : plk h o 1000000 l n < need
      · exact absurd (x.non hv hr hm).1 (by decide)
      · obtain ⟨_, b2, b3, b4, b5⟩ := x.yes hv hr (by omega)
        simp only [Bool.and_eq_true] at hr
        exact ⟨(trV_to hv).1, rfl, inB_t.1 hr.2, ⟨b2, b3⟩, b4, b5⟩
end Go.Proofs.Ytaalceckofgbhaa

namespace Go.Proofs.Ytaalceckofgbhaa
open Go.RowKit
set_option linter.unusedVariables false
set_option linter.unusedSimpArgs false

theorem toothed_c (n : Int) (w : World) : Calls Try.prog 34 #[.int .i64 n] w fun e w' => e = .returned (.bool (tB n)) ∧ w = w' := by
  go_enter Try.func34, Try.ntmps34
  go_wp2_with (go_at_call 20; ((with_reducible refine (within_c _ _ _ _).mono ?_); rintro e w' ⟨rfl, rfl⟩))
  go_ret
  exact ⟨rfl, rfl⟩
theorem l05Teeth_c (n : Int) (w : World) : Calls Try.prog 35 #[.int .i64 n] w fun e w' => e = .returned (.bool (tB n)) ∧ w = w' := by
  go_enter Try.func35, Try.ntmps35
  go_wp2_with (go_at_call 23; ((with_reducible refine (l00In_c _ _ _ _).mono ?_); rintro e w' ⟨rfl, rfl⟩))
  go_ret
  exact ⟨rfl, rfl⟩
theorem isPullP_c (n : Int) (w : World) : Calls Try.prog 19 #[.int .i64 n] w fun e w' => e = .returned (.bool (inB n 0 1000000)) ∧ w = w' := by
  go_enter Try.func19, Try.ntmps19
  go_wp2_with (go_at_call 20; ((with_reducible refine (within_c _ _ _ _).mono ?_); rintro e w' ⟨rfl, rfl⟩))
  go_ret
  exact ⟨rfl, rfl⟩
theorem validPair_c (a b : Int) (w : World) : Calls Try.prog 31 #[.agg #[.int .i64 a, .int .i64 b]] w fun e w' => e = .returned (.bool (prB a b)) ∧ Ext w w' := by
  cases ha : tB a
  · go_enter Try.func31, Try.ntmps31
    go_wp2_with (go_at_call 34; ((with_reducible refine (toothed_c _ _).mono ?_); rintro e w' ⟨rfl, rfl⟩))
    go_ret
    exact ⟨ret_bool (by rw [prB, ha]; rfl), (by repeat (first | with_reducible exact Ext.refl _ | with_reducible assumption | with_reducible refine Ext.alloc ?_ _ | with_reducible refine Ext.drew ?_ | (with_reducible refine Ext.setAt ?_ _ _ _ ?_; rotate_left; omega) | with_reducible refine Ext.trans ?_ (by assumption) | with_reducible exact Past.bel _ | with_reducible refine Ext.trans ?_ (Past.bel _)))⟩
  · go_enter Try.func31, Try.ntmps31
    go_wp2_with (go_at_call 34; ((with_reducible refine (toothed_c _ _).mono ?_); rintro e w' ⟨rfl, rfl⟩))
    go_ret
    exact ⟨ret_bool (by rw [prB, ha]; rfl), (by repeat (first | with_reducible exact Ext.refl _ | with_reducible assumption | with_reducible refine Ext.alloc ?_ _ | with_reducible refine Ext.drew ?_ | (with_reducible refine Ext.setAt ?_ _ _ _ ?_; rotate_left; omega) | with_reducible refine Ext.trans ?_ (by assumption) | with_reducible exact Past.bel _ | with_reducible refine Ext.trans ?_ (Past.bel _)))⟩
theorem l05Pair_c (a b : Int) (w : World) : Calls Try.prog 32 #[.agg #[.int .i64 a, .int .i64 b]] w fun e w' => e = .returned (.bool (prB a b)) ∧ Ext w w' := by
  cases ha : tB a
  · go_enter Try.func32, Try.ntmps32
    go_wp2_with (go_at_call 35; ((with_reducible refine (l05Teeth_c _ _).mono ?_); rintro e w' ⟨rfl, rfl⟩))
    go_ret
    exact ⟨ret_bool (by rw [prB, ha]; rfl), (by repeat (first | with_reducible exact Ext.refl _ | with_reducible assumption | with_reducible refine Ext.alloc ?_ _ | with_reducible refine Ext.drew ?_ | (with_reducible refine Ext.setAt ?_ _ _ _ ?_; rotate_left; omega) | with_reducible refine Ext.trans ?_ (by assumption) | with_reducible exact Past.bel _ | with_reducible refine Ext.trans ?_ (Past.bel _)))⟩
  · go_enter Try.func32, Try.ntmps32
    go_wp2_with (go_at_call 35; ((with_reducible refine (l05Teeth_c _ _).mono ?_); rintro e w' ⟨rfl, rfl⟩))
    go_ret
    exact ⟨ret_bool (by rw [prB, ha]; rfl), (by repeat (first | with_reducible exact Ext.refl _ | with_reducible assumption | with_reducible refine Ext.alloc ?_ _ | with_reducible refine Ext.drew ?_ | (with_reducible refine Ext.setAt ?_ _ _ _ ?_; rotate_left; omega) | with_reducible refine Ext.trans ?_ (by assumption) | with_reducible exact Past.bel _ | with_reducible refine Ext.trans ?_ (Past.bel _)))⟩
end Go.Proofs.Ytaalceckofgbhaa

namespace Go.Proofs.Ytaalceckofgbhaa
open Go.RowKit
set_option linter.unusedVariables false
set_option linter.unusedSimpArgs false

set_option maxHeartbeats 1000000 in
theorem l05Ok_c (a : Option Addr) (n c : Nat) (h o : Nat → Int) (w : World) (hn : n ≤ 1048576) (hs : S2 w a n h o) :
    Calls Try.prog 22 #[.slice a n c] w fun e w' => e = .returned (.bool (trV n h o)) ∧ Ext w w' := by
  have HS := Lib.hid hs
  clear hs
  go_enter Try.func22, Try.ntmps22
  go_wp2_with fail
  go_loopw [3] (fun i wr => ∃ k : Nat, k ≤ n ∧ i = .int .i64 k ∧ Ext w wr ∧ trTo h o k = true) (fun i _ => n - (intOf i).toNat)
  case atStart => exact ⟨0, by omega, rfl, Ext.refl _, rfl⟩
  case round =>
    obtain ⟨k, hk, rfl, hbl, heq⟩ := hrel
    have HE := Lib.hid heq
    clear heq
    by_cases hlt : k < n
    · obtain ⟨b1, o1, rfl, hb1, q1, q2⟩ := (S2.ext HS.out hbl).at hlt
      have hb2 : b1 < wr.heap.size + 1 := by omega
      have hpr := fun W => l05Pair_c (h k) (o k) W
      cases hp : prB (h k) (o k)
      · have G := Lib.hid hp
        rw [hp] at hpr
        have HPR := Lib.hid hpr
        clear hp hpr
        go_wp2_with (go_at_call 32; ((with_reducible refine (HPR.out _).mono ?_); rintro e w' ⟨rfl, hx⟩; (first | (obtain ⟨wx, rfl⟩ := Past.again hx) | (obtain ⟨wx, rfl⟩ := Past.ofd hx) | (obtain ⟨wx, rfl⟩ := Past.of hx))))
        go_ret
        exact ⟨ret_bool (trV_ff hlt G.out).symm, (by repeat (first | with_reducible exact Ext.refl _ | with_reducible assumption | with_reducible refine Ext.alloc ?_ _ | with_reducible refine Ext.drew ?_ | (with_reducible refine Ext.setAt ?_ _ _ _ ?_; rotate_left; omega) | with_reducible refine Ext.trans ?_ (by assumption) | with_reducible exact Past.bel _ | with_reducible refine Ext.trans ?_ (Past.bel _)))⟩
      · have G := Lib.hid hp
        rw [hp] at hpr
        have HPR := Lib.hid hpr
        clear hp hpr
        go_wp2_with (go_at_call 32; ((with_reducible refine (HPR.out _).mono ?_); rintro e w' ⟨rfl, hx⟩; (first | (obtain ⟨wx, rfl⟩ := Past.again hx) | (obtain ⟨wx, rfl⟩ := Past.ofd hx) | (obtain ⟨wx, rfl⟩ := Past.of hx))))
        exact ⟨⟨k + 1, by omega, by go_num, (by repeat (first | with_reducible exact Ext.refl _ | with_reducible assumption | with_reducible refine Ext.alloc ?_ _ | with_reducible refine Ext.drew ?_ | (with_reducible refine Ext.setAt ?_ _ _ _ ?_; rotate_left; omega) | with_reducible refine Ext.trans ?_ (by assumption) | with_reducible exact Past.bel _ | with_reducible refine Ext.trans ?_ (Past.bel _))), by simp [trTo, HE.out, G.out]⟩, by simp [intOf]; omega⟩
    · obtain rfl : k = n := by omega
      go_wp2_with fail
      go_ret
      exact ⟨ret_bool (by rw [trV, HE.out]; simp; omega), (by repeat (first | with_reducible exact Ext.refl _ | with_reducible assumption | with_reducible refine Ext.alloc ?_ _ | with_reducible refine Ext.drew ?_ | (with_reducible refine Ext.setAt ?_ _ _ _ ?_; rotate_left; omega) | with_reducible refine Ext.trans ?_ (by assumption) | with_reducible exact Past.bel _ | with_reducible refine Ext.trans ?_ (Past.bel _)))⟩
set_option maxHeartbeats 1000000 in
theorem validTrain_c (a : Option Addr) (n c : Nat) (h o : Nat → Int) (w : World) (hn : n ≤ 1048576) (hs : S2 w a n h o) :
    Calls Try.prog 18 #[.slice a n c] w fun e w' => e = .returned (.bool (trV n h o)) ∧ Ext w w' := by
  have HS := Lib.hid hs
  clear hs
  go_enter Try.func18, Try.ntmps18
  go_wp2_with fail
  go_loopw [7] (fun i wr => ∃ k : Nat, k ≤ n ∧ i = .int .i64 k ∧ Ext w wr ∧ trTo h o k = true) (fun i _ => n - (intOf i).toNat)
  case atStart => exact ⟨0, by omega, rfl, Ext.refl _, rfl⟩
  case round =>
    obtain ⟨k, hk, rfl, hbl, heq⟩ := hrel
    have HE := Lib.hid heq
    clear heq
    by_cases hlt : k < n
    · obtain ⟨b1, o1, rfl, hb1, q1, q2⟩ := (S2.ext HS.out hbl).at hlt
      have hb2 : b1 < wr.heap.size + 1 := by omega
      have hpr := fun W => validPair_c (h k) (o k) W
      cases hp : prB (h k) (o k)
      · have G := Lib.hid hp
        rw [hp] at hpr
        have HPR := Lib.hid hpr
        clear hp hpr
        go_wp2_with (go_at_call 31; ((with_reducible refine (HPR.out _).mono ?_); rintro e w' ⟨rfl, hx⟩; (first | (obtain ⟨wx, rfl⟩ := Past.again hx) | (obtain ⟨wx, rfl⟩ := Past.ofd hx) | (obtain ⟨wx, rfl⟩ := Past.of hx))))
        go_ret
        exact ⟨ret_bool (trV_ff hlt G.out).symm, (by repeat (first | with_reducible exact Ext.refl _ | with_reducible assumption | with_reducible refine Ext.alloc ?_ _ | with_reducible refine Ext.drew ?_ | (with_reducible refine Ext.setAt ?_ _ _ _ ?_; rotate_left; omega) | with_reducible refine Ext.trans ?_ (by assumption) | with_reducible exact Past.bel _ | with_reducible refine Ext.trans ?_ (Past.bel _)))⟩
      · have G := Lib.hid hp
        rw [hp] at hpr
        have HPR := Lib.hid hpr
        clear hp hpr
        go_wp2_with (go_at_call 31; ((with_reducible refine (HPR.out _).mono ?_); rintro e w' ⟨rfl, hx⟩; (first | (obtain ⟨wx, rfl⟩ := Past.again hx) | (obtain ⟨wx, rfl⟩ := Past.ofd hx) | (obtain ⟨wx, rfl⟩ := Past.of hx))))
        exact ⟨⟨k + 1, by omega, by go_num, (by repeat (first | with_reducible exact Ext.refl _ | with_reducible assumption | with_reducible refine Ext.alloc ?_ _ | with_reducible refine Ext.drew ?_ | (with_reducible refine Ext.setAt ?_ _ _ _ ?_; rotate_left; omega) | with_reducible refine Ext.trans ?_ (by assumption) | with_reducible exact Past.bel _ | with_reducible refine Ext.trans ?_ (Past.bel _))), by simp [trTo, HE.out, G.out]⟩, by simp [intOf]; omega⟩
    · obtain rfl : k = n := by omega
      go_wp2_with fail
      go_ret
      exact ⟨ret_bool (by rw [trV, HE.out]; simp; omega), (by repeat (first | with_reducible exact Ext.refl _ | with_reducible assumption | with_reducible refine Ext.alloc ?_ _ | with_reducible refine Ext.drew ?_ | (with_reducible refine Ext.setAt ?_ _ _ _ ?_; rotate_left; omega) | with_reducible refine Ext.trans ?_ (by assumption) | with_reducible exact Past.bel _ | with_reducible refine Ext.trans ?_ (Past.bel _)))⟩
end Go.Proofs.Ytaalceckofgbhaa

namespace Go.Proofs.Ytaalceckofgbhaa
open Go.RowKit
set_option linter.unusedVariables false

theorem ext_grown {w w' : World} (h : Ext w w') : w.grownBy w' none :=
  ⟨Below.os h, Below.tape h, Below.output h, h.size, fun k hk _ => h.block hk⟩
theorem grown_ext {w w' : World} (h : w.grownBy w' none) : Ext w w' :=
  ⟨h.os, h.tape, h.output, h.size, fun k hk => h.block k hk (by simp)⟩
theorem grown_trans {a b c : World} {row : Option Nat} (h : a.grownBy b row) (k : b.grownBy c row) : a.grownBy c row :=
  ⟨k.os.trans h.os, k.tape.trans h.tape, k.output.trans h.output, Nat.le_trans h.size k.size, fun i hi hn => (k.block i (Nat.lt_of_lt_of_le hi h.size) hn).trans (h.block i hi hn)⟩
section
variable {w w' : World} {base : Nat} {e : TypeId} {size : Nat} {v : Value} {n : Nat} {xs : List Value}
theorem own_ext (h : w.ownsRow base e size v n xs) (x : Ext w w') : w'.ownsRow base e size v n xs := h.kept (ext_grown x) (by cases hv : v.ownBlock <;> simp)
/-- what is owned lies from its base on, and below the heap's end -/
theorem own_in {a : Option Addr} {cap : Nat} (h : w.ownsRow base e size (.slice a n cap) n xs) {ad : Addr} (ha : a = some ad) : base ≤ ad.block ∧ ad.block < w.heap.size :=
  h.lt ad.block (by subst ha; rfl)
theorem own_at {a : Option Addr} {cap j : Nat} (h : w.ownsRow base e 1 (.slice a n cap) n xs) (hj : j < n) :
    ∃ g, a = some ⟨g, 0, none⟩ ∧ base ≤ g ∧ g < w.heap.size ∧ w.cell? ⟨g, j, none⟩ = xs[j]? ∧ w.frozen? ⟨g, j, none⟩ = false := by
  rcases h.2 with ⟨h1, h2⟩ | ⟨g, cap', cur, h1, hb, hg, h2, h3, h4, h5⟩
  · omega
  · simp only [Value.slice.injEq, true_and] at h1
    obtain ⟨rfl, rfl⟩ := h1
    exact ⟨g, rfl, hb, (Array.getElem?_eq_some_iff.1 hg).1, h.cellAt j (by omega), h.frozenAt j⟩
theorem own_at2 {a : Option Addr} {cap j : Nat} (h : w.ownsRow base e 2 (.slice a n cap) n xs) (hj : j < n) :
    ∃ g, a = some ⟨g, 0, none⟩ ∧ base ≤ g ∧ g < w.heap.size ∧ (w.cell? ⟨g, j * 2, none⟩ = xs[j * 2]? ∧ w.frozen? ⟨g, j * 2, none⟩ = false) ∧ w.cell? ⟨g, j * 2 + 1, none⟩ = xs[j * 2 + 1]? ∧ w.frozen? ⟨g, j * 2 + 1, none⟩ = false := by
  rcases h.2 with ⟨h1, h2⟩ | ⟨g, cap', cur, h1, hb, hg, h2, h3, h4, h5⟩
  · omega
  · simp only [Value.slice.injEq, true_and] at h1
    obtain ⟨rfl, rfl⟩ := h1
    exact ⟨g, rfl, hb, (Array.getElem?_eq_some_iff.1 hg).1, ⟨h.cellAt _ (by omega), h.frozenAt _⟩, h.cellAt _ (by omega), h.frozenAt _⟩
theorem own_set {g cap j : Nat} (h : w.ownsRow base e size (.slice (some ⟨g, 0, none⟩) n cap) n xs) (u : Value) : (w.setCell ⟨g, j, none⟩ u).ownsRow base e size (.slice (some ⟨g, 0, none⟩) n cap) n (xs.set j u) := (h.stored j u).1
theorem grown_set (g j : Nat) (u : Value) : w.grownBy (w.setCell ⟨g, j, none⟩ u) (some g) :=
  ⟨rfl, rfl, rfl, by simp, fun k _ hk => heap_setCell_other w ⟨g, j, none⟩ k u (fun e => hk (by simp [e]))⟩
theorem own_s1 {a : Option Addr} {cap : Nat} {l : List Int} (h : w.ownsRow base e 1 (.slice a n cap) n (l.map (Value.int .i64))) : S1 w a n (fun j => l.getD j 0) := fun hn => by
  obtain ⟨g, rfl, _, hg, _⟩ := own_at h hn
  have hl : l.length = n := by simpa using h.1
  refine ⟨g, 0, rfl, hg, fun j hj => ?_⟩
  rw [Nat.zero_add, h.cellAt j (by omega)]
  simp [List.getD, show j < l.length by omega]
theorem own_len {l : List Int} (h : w.ownsRow base e 1 v n (l.map (Value.int .i64))) : n = l.length := by simpa using h.1.symm
end
/-- a slice of integers that reads the same behind a change of another block -/
theorem S1.but {w w' : World} {a : Option Addr} {n : Nat} {f : Nat → Int} {row : Option Nat} (s : S1 w a n f) (hg : w.grownBy w' row) (hne : ∀ ad, a = some ad → some ad.block ≠ row) : S1 w' a n f := fun hn => by
  obtain ⟨b, off, ha, hb, hc⟩ := s hn
  refine ⟨b, off, ha, Nat.lt_of_lt_of_le hb hg.size, fun j hj => ?_⟩
  rw [World.cell?_of_block (a := ⟨b, off + j, none⟩) (hg.block b hb (hne _ ha))]
  exact hc j hj
theorem S2.but {w w' : World} {a : Option Addr} {n : Nat} {h o : Nat → Int} {row : Option Nat} (s : S2 w a n h o) (hg : w.grownBy w' row) (hne : ∀ ad, a = some ad → some ad.block ≠ row) : S2 w' a n h o := fun hn => by
  obtain ⟨b, off, ha, hb, hc⟩ := s hn
  refine ⟨b, off, ha, Nat.lt_of_lt_of_le hb hg.size, fun j hj => ?_⟩
  rw [World.cell?_of_block (a := ⟨b, off + j * 2, none⟩) (hg.block b hb (hne _ ha)), World.cell?_of_block (a := ⟨b, off + j * 2 + 1, none⟩) (hg.block b hb (hne _ ha))]
  exact hc j hj
/-- owned rows of two calls, the second begun when the first had ended, lie in different blocks -/
theorem own_ne2 {w1 w2 : World} {b1 b2 : Nat} {e1 e2 : TypeId} {s1 s2 : Nat} {v1 v2 : Value} {n1 n2 : Nat} {xs1 xs2 : List Value} (h1 : w1.ownsRow b1 e1 s1 v1 n1 xs1) (h2 : w2.ownsRow b2 e2 s2 v2 n2 xs2) (hb : w1.heap.size ≤ b2) :
    (v1.ownBlock = none ∨ v1.ownBlock ≠ v2.ownBlock) ∧ (v2.ownBlock = none ∨ v2.ownBlock ≠ v1.ownBlock) := by
  have hne : ∀ k, v1.ownBlock = some k → v2.ownBlock = some k → False := fun k hk hk2 => by
    have := (h1.lt k hk).2; have := (h2.lt k hk2).1; omega
  constructor
  · cases h : v1.ownBlock with
    | none => exact .inl rfl
    | some k => exact .inr fun e => hne k h e.symm
  · cases h : v2.ownBlock with
    | none => exact .inl rfl
    | some k => exact .inr fun e => hne k e.symm h
/-- the numbers k, k + 1 .. over the first j places of a list -/
def marked (k : Int) (xs : List Value) : Nat → List Value
  | 0 => xs
  | j + 1 => (marked k xs j).set j (.int .i64 (k + j))
theorem marked_length (k : Int) (xs : List Value) (j : Nat) : (marked k xs j).length = xs.length := by
  induction j with
  | zero => rfl
  | succ j ih => simp [marked, ih]
theorem marked_at (k : Int) (xs : List Value) {j i : Nat} (hi : i < j) (hx : i < xs.length) : (marked k xs j)[i]? = some (.int .i64 (k + i)) := by
  induction j with
  | zero => omega
  | succ j ih =>
    simp only [marked]
    by_cases e : i = j
    · subst e; rw [List.getElem?_set_self (by rw [marked_length]; exact hx)]
    · rw [List.getElem?_set_ne (by omega)]; exact ih (by omega)
/-- the numbers k, k + 1 .. -/
def ups (k : Int) (n : Nat) : List Value := (List.range n).map fun j => Value.int .i64 (k + (j : Nat))
theorem marked_all (k : Int) (xs : List Value) : marked k xs xs.length = ups k xs.length := by
  apply List.ext_getElem?
  intro i
  by_cases hi : i < xs.length
  · rw [marked_at k xs hi hi]; simp [ups, hi]
  · rw [List.getElem?_eq_none (by rw [marked_length]; omega), List.getElem?_eq_none (by simp [ups]; omega)]
theorem ups_at (k : Int) {n i : Nat} (hi : i < n) : (ups k n)[i]? = some (.int .i64 (k + i)) := by simp [ups, hi]
theorem own_form {w : World} {base : Nat} {e : TypeId} {size : Nat} {v : Value} {n : Nat} {xs : List Value} (h : w.ownsRow base e size v n xs) : ∃ b cap, v = .slice b n cap := by
  rcases h.2 with ⟨h1, h2⟩ | ⟨g, cap', cur, h1, _⟩
  · subst h2; exact ⟨none, 0, h1⟩
  · exact ⟨_, _, h1⟩
/-- 'out = append(out, u)', 'out' made by the call that began in w0 -/
theorem app1 {P : Program} {w w0 : World} {ops : Array Oper} {rest : List Oper} {o : Oper} {a : Act} {Q : Exit → Act → World → Prop} (t e : TypeId) (s x : Operand)
    (hop : o.op = .call { callee := .builtin .append, args := #[s, x], argTypes := #[t, t] }) (hgd : o.guard = none)
    (ht : P.underlying t = some (.slice e)) (hinfo : (P.info? e).map (fun i => (i.zero, i.size, i.bytes)) = some (some (.int .i64 0), 1, 8))
    (v : Value) (l : List Int) (u : Int) (g : Nat) (hs : a.eval s = v) (hx : a.eval x = .slice (some ⟨g, 0, none⟩) 1 1) (hown : w.ownsRow w0.heap.size e 1 v l.length (l.map (Value.int .i64)))
    (hc : w.cell? ⟨g, 0, none⟩ = some (.int .i64 u)) (hl : l.length ≤ 1048576) (h0 : Ext w0 w)
    (hK : ∀ v' w', w'.ownsRow w0.heap.size e 1 v' (l ++ [u]).length ((l ++ [u]).map (Value.int .i64)) → Ext w0 w' → wpList P ops Q rest (a.put o.dst v') w') : wpList P ops Q (o :: rest) a w := by
  obtain ⟨i, hi, hz, hsz, hb⟩ := info_parts hinfo
  refine wpList_append_own (P := P) w hgd s x t hop w0.heap.size e i (.int .i64 0) 1 8 ht hi hz hsz hb rfl (by decide) v l.length _ hs hown ⟨g, 0, none⟩ 1 1 [.int .i64 u] hx rfl ?_ ?_ ?_ ?_ h0.size ?_
  · intro j z hz'
    cases j with
    | zero =>
      simp at hz'; subst hz'
      simpa [Addr.add] using hc
    | succ j => simp at hz'
  · intro z hz'
    simp at hz'; subst hz'; rfl
  · unfold maxLen; omega
  · omega
  · intro v' w' h1 h2 _
    refine hK v' w' (by simpa using h1) (h0.grown h2 fun k hk => (hown.lt k hk).1)
end Go.Proofs.Ytaalceckofgbhaa

namespace Go.Proofs.Ytaalceckofgbhaa
open Go.RowKit
set_option linter.unusedVariables false
theorem app1s {P : Program} {w w0 : World} {ops : Array Oper} {o : Oper} {a : Act} {K : Act → World → Prop} {Q : Exit → Act → World → Prop} {E : Prop} (t e : TypeId) (s x : Operand)
    (hop : o.op = .call { callee := .builtin .append, args := #[s, x], argTypes := #[t, t] }) (hgd : o.guard = none)
    (ht : P.underlying t = some (.slice e)) (hinfo : (P.info? e).map (fun i => (i.zero, i.size, i.bytes)) = some (some (.int .i64 0), 1, 8))
    (v : Value) (l : List Int) (u : Int) (g : Nat) (hs : a.eval s = v) (hx : a.eval x = .slice (some ⟨g, 0, none⟩) 1 1) (hown : w.ownsRow w0.heap.size e 1 v l.length (l.map (Value.int .i64)))
    (hc : w.cell? ⟨g, 0, none⟩ = some (.int .i64 u)) (hl : l.length ≤ 1048576) (h0 : Ext w0 w)
    (hK : ∀ v' w', w'.ownsRow w0.heap.size e 1 v' (l ++ [u]).length ((l ++ [u]).map (Value.int .i64)) → Ext w0 w' → K (a.put o.dst v') w') :
    if Region.wanted o (yielded ops a.tmps) = true then Oper.wp P o a w K Q else E := by
  obtain ⟨i, hi, hz, hsz, hb⟩ := info_parts hinfo
  refine step_append_lies w hgd s x t hop w0.heap.size e i (.int .i64 0) 1 8 ht hi hz hsz hb rfl (by decide) v l.length _ hs hown ⟨g, 0, none⟩ 1 1 [.int .i64 u] hx rfl ?_ ?_ (by decide) ?_ ?_ h0.size _ rfl ?_
  · intro j z hz'
    cases j with
    | zero =>
      simp at hz'; subst hz'
      simpa [Addr.add] using hc
    | succ j => simp at hz'
  · intro z hz'
    simp at hz'; subst hz'; rfl
  · unfold maxLen; omega
  · omega
  · intro g' cap w' h1 h2 _ _
    refine hK _ w' ?_ (h0.grown h2 fun k hk => (hown.lt k hk).1)
    have e1 : (l ++ [u]).length = l.length + 1 := by simp
    rw [e1]; simpa using h1
end Go.Proofs.Ytaalceckofgbhaa

namespace Go.Proofs.Ytaalceckofgbhaa
open Go.RowKit
set_option linter.unusedVariables false
theorem app1t {P : Program} {w w0 : World} {ops : Array Oper} {o : Oper} {a : Act} {K : Act → World → Prop} {Q : Exit → Act → World → Prop} {E : Prop} (t e : TypeId) (s x : Operand)
    (hop : o.op = .call { callee := .builtin .append, args := #[s, x], argTypes := #[t, t] }) (hgd : o.guard = none)
    (ht : P.underlying t = some (.slice e)) (hinfo : (P.info? e).map (fun i => (i.zero, i.size, i.bytes)) = some (some (.int .i64 0), 1, 8))
    (v : Value) (l : List Int) (u : Int) (g : Nat) (hs : a.eval s = v) (hx : a.eval x = .slice (some ⟨g, 0, none⟩) 1 1) (hown : w.ownsRow w0.heap.size e 1 v l.length (l.map (Value.int .i64)))
    (hc : w.cell? ⟨g, 0, none⟩ = some (.int .i64 u)) (hl : l.length ≤ 1048576) (h0 : Ext w0 w)
    (hK : ∀ v' w', w'.ownsRow w0.heap.size e 1 v' (l ++ [u]).length ((l ++ [u]).map (Value.int .i64)) → Ext w0 w' → (∀ b i, b < w.heap.size → v.ownBlock ≠ some b → w'.cell? ⟨b, i, none⟩ = w.cell? ⟨b, i, none⟩) → K (a.put o.dst v') w') :
    if Region.wanted o (yielded ops a.tmps) = true then Oper.wp P o a w K Q else E := by
  obtain ⟨i, hi, hz, hsz, hb⟩ := info_parts hinfo
  refine step_append_lies w hgd s x t hop w0.heap.size e i (.int .i64 0) 1 8 ht hi hz hsz hb rfl (by decide) v l.length _ hs hown ⟨g, 0, none⟩ 1 1 [.int .i64 u] hx rfl ?_ ?_ (by decide) ?_ ?_ h0.size _ rfl ?_
  · intro j z hz'
    cases j with
    | zero =>
      simp at hz'; subst hz'
      simpa [Addr.add] using hc
    | succ j => simp at hz'
  · intro z hz'
    simp at hz'; subst hz'; rfl
  · unfold maxLen; omega
  · omega
  · intro g' cap w' h1 h2 _ _
    refine hK _ w' ?_ (h0.grown h2 fun k hk => (hown.lt k hk).1) (fun b i hb hne => h2.cell_far ⟨b, i, none⟩ hb (fun e => hne e.symm))
    have e1 : (l ++ [u]).length = l.length + 1 := by simp
    rw [e1]; simpa using h1
theorem own_base {w : World} {b0 b1 : Nat} {e : TypeId} {s : Nat} {v : Value} {n : Nat} {xs : List Value} (h : w.ownsRow b1 e s v n xs) (hb : b0 ≤ b1) : w.ownsRow b0 e s v n xs := by
  obtain ⟨h1, h2⟩ := h
  refine ⟨h1, ?_⟩
  rcases h2 with h2 | ⟨g, cap, cur, a, b, c⟩
  · exact .inl h2
  · exact .inr ⟨g, cap, cur, a, Nat.le_trans hb b, c⟩
end Go.Proofs.Ytaalceckofgbhaa

namespace Go.Proofs.Ytaalceckofgbhaa
open Go.RowKit
set_option linter.unusedVariables false
set_option linter.unusedSimpArgs false

def addNone : Value := .agg #[.int .i64 0, .int .i64 0, .int .i64 0, .int .i64 0, .int .i64 0]
theorem add_ret {c x y xx xy c' x' y' xx' xy' k : Int} {v : Value} (h : k = addCode c x y xx xy c' x' y' xx' xy') (hv : v = addV c x y xx xy c' x' y' xx' xy') :
    Ending.returned (.tuple #[v, .int .i64 k]) = .returned (.tuple #[addV c x y xx xy c' x' y' xx' xy', .int .i64 (addCode c x y xx xy c' x' y' xx' xy')]) := by rw [h, hv]
theorem add_wraps {c x y xx xy c' x' y' xx' xy' : Int} (f : FB c x y xx xy) (f' : FB c' x' y' xx' xy') :
    Value.agg #[.int .i64 (c + c'), .int .i64 (wrap64 (x + x')), .int .i64 (wrap64 (y + y')), .int .i64 (wrap64 (xx + xx')), .int .i64 (wrap64 (xy + xy'))] = .agg #[.int .i64 (c + c'), .int .i64 (x + x'), .int .i64 (y + y'), .int .i64 (xx + xx'), .int .i64 (xy + xy')] := by
  obtain ⟨a0, a1, a2, a3, a4, a5, a6, a7, a8, a9, a10⟩ := f
  obtain ⟨b0, b1, b2, b3, b4, b5, b6, b7, b8, b9, b10⟩ := f'
  rw [IntWalk.wrap64_in (x + x') (by omega), IntWalk.wrap64_in (y + y') (by omega), IntWalk.wrap64_in (xx + xx') (by omega), IntWalk.wrap64_in (xy + xy') (by omega)]
end Go.Proofs.Ytaalceckofgbhaa

namespace Go.Proofs.Ytaalceckofgbhaa
open Go.RowKit
set_option linter.unusedVariables false
set_option linter.unusedSimpArgs false

end Go.Proofs.Ytaalceckofgbhaa

namespace Go.Proofs.Ytaalceckofgbhaa
open Go.RowKit
set_option linter.unusedVariables false
set_option linter.unusedSimpArgs false

end Go.Proofs.Ytaalceckofgbhaa

namespace Go.Proofs.Ytaalceckofgbhaa
open Go.RowKit
set_option linter.unusedVariables false
set_option linter.unusedSimpArgs false

def fitA (c x y xx xy : Int) : Array Value := #[.int .i64 c, .int .i64 x, .int .i64 y, .int .i64 xx, .int .i64 xy]
/-- a block that holds a fit: its cells -/
theorem fit_cells {w : World} {g T : Nat} {c x y xx xy : Int} (b : Blk w g T (fitA c x y xx xy)) :
    (w.cell? ⟨g, 0, none⟩ = some (.int .i64 c) ∧ w.cell? ⟨g, 1, none⟩ = some (.int .i64 x) ∧ w.cell? ⟨g, 2, none⟩ = some (.int .i64 y) ∧ w.cell? ⟨g, 3, none⟩ = some (.int .i64 xx) ∧ w.cell? ⟨g, 4, none⟩ = some (.int .i64 xy)) ∧
    (w.frozen? ⟨g, 0, none⟩ = false ∧ w.frozen? ⟨g, 1, none⟩ = false ∧ w.frozen? ⟨g, 2, none⟩ = false ∧ w.frozen? ⟨g, 3, none⟩ = false ∧ w.frozen? ⟨g, 4, none⟩ = false) :=
  ⟨⟨b.cell 0, b.cell 1, b.cell 2, b.cell 3, b.cell 4⟩, b.frozen 0, b.frozen 1, b.frozen 2, b.frozen 3, b.frozen 4⟩
theorem fit_set {w : World} {g T : Nat} {c x y xx xy c' x' y' xx' xy' : Int} (b : Blk w g T (fitA c x y xx xy)) :
    Blk (((((w.setCell ⟨g, 0, none⟩ (.int .i64 c')).setCell ⟨g, 1, none⟩ (.int .i64 x')).setCell ⟨g, 2, none⟩ (.int .i64 y')).setCell ⟨g, 3, none⟩ (.int .i64 xx')).setCell ⟨g, 4, none⟩ (.int .i64 xy')) g T (fitA c' x' y' xx' xy') :=
  ((((b.set 0 _).set 1 _).set 2 _).set 3 _).set 4 _
theorem fit_other {w : World} {g T b : Nat} {cur : Array Value} {u0 u1 u2 u3 u4 : Value} (h : Blk w g T cur) (hne : g ≠ b) :
    Blk (((((w.setCell ⟨b, 0, none⟩ u0).setCell ⟨b, 1, none⟩ u1).setCell ⟨b, 2, none⟩ u2).setCell ⟨b, 3, none⟩ u3).setCell ⟨b, 4, none⟩ u4) g T cur :=
  ((((h.other _ _ _ hne).other _ _ _ hne).other _ _ _ hne).other _ _ _ hne).other _ _ _ hne
theorem two_new (w : World) (T : Nat) (c1 c2 : Array Value) : Blk ((w.alloc (.cells c1 T)).alloc (.cells c2 T)) w.heap.size T c1 ∧ Blk ((w.alloc (.cells c1 T)).alloc (.cells c2 T)) (w.heap.size + 1) T c2 :=
  ⟨(Blk.new w c1 T).ext ((Ext.refl _).alloc _), by have := Blk.new (w.alloc (.cells c1 T)) c2 T; rwa [World.size_alloc] at this⟩
end Go.Proofs.Ytaalceckofgbhaa

namespace Go.Proofs.Ytaalceckofgbhaa
open Go.RowKit
set_option linter.unusedVariables false
set_option linter.unusedSimpArgs false

end Go.Proofs.Ytaalceckofgbhaa

namespace Go.Proofs.Ytaalceckofgbhaa
open Go.RowKit
set_option linter.unusedVariables false
set_option linter.unusedSimpArgs false

theorem ret_abs {n q : Int} (h : q = absI n) : Ending.returned (.int .i64 q) = .returned (.int .i64 (absI n)) := by rw [h]
end Go.Proofs.Ytaalceckofgbhaa

namespace Go.Proofs.Ytaalceckofgbhaa
open Go.RowKit
set_option linter.unusedVariables false
set_option linter.unusedSimpArgs false

/-- A slice of bytes reads as 'f'. -/
def U8 (w : World) (a : Option Addr) (n : Nat) (f : Nat → Nat) : Prop :=
  0 < n → ∃ b off, a = some ⟨b, off, none⟩ ∧ b < w.heap.size ∧ ∀ j, j < n → w.cell? ⟨b, off + j, none⟩ = some (.int .u8 (f j : Nat))
theorem U8.ext {w w' : World} {a : Option Addr} {n : Nat} {f : Nat → Nat} (s : U8 w a n f) (e : Ext w w') : U8 w' a n f := fun hn => by
  obtain ⟨b, off, ha, hb, hc⟩ := s hn
  exact ⟨b, off, ha, Nat.lt_of_lt_of_le hb e.size, fun j hj => by rw [e.cell hb]; exact hc j hj⟩
theorem U8.at {w : World} {a : Option Addr} {n : Nat} {f : Nat → Nat} (s : U8 w a n f) {j : Nat} (hj : j < n) :
    ∃ b off, a = some ⟨b, off, none⟩ ∧ b < w.heap.size ∧ w.cell? ⟨b, off + j, none⟩ = some (.int .u8 (f j : Nat)) := by
  obtain ⟨b, off, ha, hb, hc⟩ := s (by omega)
  exact ⟨b, off, ha, hb, hc j hj⟩
theorem f6big_c (a : Option Addr) (n c : Nat) (w : World) : Calls Try.prog 4 #[.slice a n c] w fun e w' => e = .returned (.bool (decide (4096 < n))) ∧ w = w' := by
  go_enter Try.func4, Try.ntmps4
  go_wp2
  go_ret
  exact ⟨ret_bool (by simp; omega), rfl⟩
set_option maxHeartbeats 1000000 in
theorem f6roll_c (a : Option Addr) (n c : Nat) (f : Nat → Nat) (seed : Int) (w : World) (hn : n ≤ 1048576) (hs : U8 w a n f) :
    Calls Try.prog 9 #[.slice a n c, .int .u64 seed] w fun e w' => ∃ g hh, e = .returned (.pointer (some ⟨g, 0, none⟩)) ∧ Blk w' g 46 #[.slice a n c, .int .i64 0, .int .u64 hh] ∧ w.heap.size ≤ g ∧ Ext w w' := by
  have HS := Lib.hid hs
  clear hs
  go_enter Try.func9, Try.ntmps9
  go_wp2_with fail
  go_loopw [6] (fun i wr => ∃ (j : Nat) (hh : Int), j ≤ n ∧ i = .int .i64 (j : Int) ∧ Ext w wr ∧ Blk wr w.heap.size 46 #[.slice a n c, .int .i64 0, .int .u64 hh]) (fun i _ => n - (intOf i).toNat)
  case atStart => exact ⟨0, _, by omega, rfl, (by repeat (first | with_reducible exact Ext.refl _ | with_reducible assumption | with_reducible refine Ext.alloc ?_ _ | with_reducible refine Ext.drew ?_ | (with_reducible refine Ext.setAt ?_ _ _ _ ?_; rotate_left; omega) | with_reducible refine Ext.trans ?_ (by assumption) | with_reducible exact Past.bel _ | with_reducible refine Ext.trans ?_ (Past.bel _))), Blk.new _ _ _⟩
  case round =>
    obtain ⟨j, hh, hj, rfl, hbl, ho⟩ := hrel
    have HB := Lib.hid ho
    by_cases hlt : j < n
    · obtain ⟨b1, o1, rfl, hb1, q1⟩ := (HS.out.ext hbl).at hlt
      have c2 := ho.cell 2
      have f2 := ho.frozen 2
      have x0 : (0 : Int) ≤ (j : Int) := by omega
      have x1 : (j : Int) < (n : Int) := by omega
      clear ho
      go_wp2_with fail
      go_region
      all_goals (go_wp2_with fail; exact ⟨⟨j + 1, _, by omega, by go_num, (by repeat (first | with_reducible exact Ext.refl _ | with_reducible assumption | with_reducible refine Ext.alloc ?_ _ | with_reducible refine Ext.drew ?_ | (with_reducible refine Ext.setAt ?_ _ _ _ ?_; rotate_left; omega) | with_reducible refine Ext.trans ?_ (by assumption) | with_reducible exact Past.bel _ | with_reducible refine Ext.trans ?_ (Past.bel _))), HB.out.set 2 _⟩, by simp [intOf]; omega⟩)
    · go_wp2_with fail
      go_ret
      exact ⟨_, _, rfl, HB.out, Nat.le_refl _, (by repeat (first | with_reducible exact Ext.refl _ | with_reducible assumption | with_reducible refine Ext.alloc ?_ _ | with_reducible refine Ext.drew ?_ | (with_reducible refine Ext.setAt ?_ _ _ _ ?_; rotate_left; omega) | with_reducible refine Ext.trans ?_ (by assumption) | with_reducible exact Past.bel _ | with_reducible refine Ext.trans ?_ (Past.bel _)))⟩
theorem mask24 (E : Int) (h0 : 0 ≤ E) (h1 : E ≤ 18446744073709551615) : ∃ X, bits BinOp.and IntKind.u64 E 16777215 = X ∧ 0 ≤ X ∧ X ≤ 16777215 := by
  have h := bits_and_u64_nat E.toNat 16777215 (by omega) (by omega)
  rw [Int.toNat_of_nonneg h0] at h
  have := Nat.and_le_right (n := E.toNat) (m := 16777215)
  exact ⟨_, h, by omega, by omega⟩
theorem grown_drew {w w' : World} {row : Option Nat} (h : w.grownBy w' row) : w.grownBy w'.drew row := ⟨h.os, h.tape, h.output, h.size, h.block⟩
/-- what 'below' leaves of a dice -/
structure Dice (w : World) (g : Nat) (a : Option Addr) (n c : Nat) : Prop where
  blk : ∃ (i : Nat) (hh : Int), Blk w g 46 #[.slice a n c, .int .i64 i, .int .u64 hh] ∧ i ≤ n
set_option maxHeartbeats 2000000 in
theorem below_c (g : Nat) (a : Option Addr) (n c : Nat) (f : Nat → Nat) (m : Int) (w : World) (hm : 1 ≤ m) (hn : n ≤ 1048576) (hs : U8 w a n f) (hf : ∀ j, j < n → f j ≤ 255) (hd : Dice w g a n c) (hne : 0 < n → ∀ ad, a = some ad → ad.block ≠ g) :
    Calls Try.prog 10 #[.pointer (some ⟨g, 0, none⟩), .int .i64 m] w fun e w' => ∃ x : Int, e = .returned (.int .i64 x) ∧ 0 ≤ x ∧ x < m ∧ Dice w' g a n c ∧ w.grownBy w' (some g) := by
  obtain ⟨⟨i, hh, hb, hi⟩⟩ := hd
  have HB := Lib.hid hb
  have c0 := hb.cell 0
  have c1 := hb.cell 1
  have c2 := hb.cell 2
  have f1 := hb.frozen 1
  have f2 := hb.frozen 2
  clear hb
  obtain ⟨X, hX, X0, X1⟩ := mask24 (IntKind.u64.wrap (IntKind.u64.wrap (hh * 6364136223846793005) + 1442695040888963407) / 8589934592) (by rw [IntKind.wrap_u64]; omega) (by rw [IntKind.wrap_u64]; omega)
  have hw : wrap64 X = X := IntWalk.wrap64_in X (by omega)
  have k0 : ∀ u, (w.setCell ⟨g, 2, none⟩ u).cell? ⟨g, 0, none⟩ = some (.slice a n c) := fun u => by simp [go_sem, c0]
  have k1 : ∀ u, (w.setCell ⟨g, 2, none⟩ u).cell? ⟨g, 1, none⟩ = some (.int .i64 i) := fun u => by simp [go_sem, c1]
  have K0 := Lib.hid k0
  have K1 := Lib.hid k1
  clear k0 k1
  by_cases hlt : i < n
  · obtain ⟨b1, o1, rfl, hb1, q1⟩ := hs.at hlt
    have hg := hne (by omega) _ rfl
    simp only at hg
    have hfi := hf i hlt
    have k2 : ∀ u, (w.setCell ⟨g, 2, none⟩ u).cell? ⟨b1, o1 + i, none⟩ = some (.int .u8 (f i : Nat)) := fun u => by simp [go_sem, q1, hg]
    have K2 := Lib.hid k2
    clear k2
    have x0 : (0 : Int) ≤ (i : Int) := by omega
    have x1 : (i : Int) < (n : Int) := by omega
    have x2 : IntKind.i64.wrap (f i : Int) = (f i : Int) := IntWalk.i64_in _ (by omega)
    have x3 : IntKind.i64.wrap (X + (f i : Int)) = X + (f i : Int) := IntWalk.i64_in _ (by omega)
    have r0 := Int.tmod_nonneg m (show (0 : Int) ≤ X + (f i : Int) by omega)
    have r1 := Int.tmod_lt_of_pos (X + (f i : Int)) (show 0 < m by omega)
    go_enter Try.func10, Try.ntmps10
    go_wp2_with fail
    go_region_held3 (fun w' => w'.cell? ⟨g, 0, none⟩ = some (.slice (some ⟨b1, o1, none⟩) n c) ∧ w'.cell? ⟨g, 1, none⟩ = some (.int .i64 i)) (exact ⟨K0.out _, K1.out _⟩) (fail)
    go_wp2_with fail
    go_region_held3 (fun w' => w'.cell? ⟨g, 0, none⟩ = some (.slice (some ⟨b1, o1, none⟩) n c) ∧ w'.cell? ⟨g, 1, none⟩ = some (.int .i64 i) ∧ w'.cell? ⟨b1, o1 + i, none⟩ = some (.int .u8 (f i : Nat))) (exact ⟨K0.out _, K1.out _, K2.out _⟩) (fail)
    go_wp2_with fail
    go_ret
    refine ⟨(X + (f i : Int)) % m, rfl, Int.emod_nonneg _ (by omega), Int.emod_lt_of_pos _ (by omega), ⟨⟨i + 1, IntKind.u64.wrap (IntKind.u64.wrap (hh * 6364136223846793005) + 1442695040888963407), ?_, by omega⟩⟩, grown_drew (grown_drew (grown_trans (grown_set g 2 _) (grown_set g 1 _)))⟩
    exact (HB.out.set 2 (.int .u64 (IntKind.u64.wrap (IntKind.u64.wrap (hh * 6364136223846793005) + 1442695040888963407)))).set 1 (.int .i64 ((i : Int) + 1))
  · have x1 : (n : Int) ≤ (i : Int) := by omega
    have r0 := Int.tmod_nonneg m X0
    have r1 := Int.tmod_lt_of_pos X (show 0 < m by omega)
    go_enter Try.func10, Try.ntmps10
    go_wp2_with fail
    go_region_held3 (fun w' => w'.cell? ⟨g, 0, none⟩ = some (.slice a n c) ∧ w'.cell? ⟨g, 1, none⟩ = some (.int .i64 i)) (exact ⟨K0.out _, K1.out _⟩) (fail)
    go_wp2_with fail
    go_ret
    exact ⟨X % m, rfl, Int.emod_nonneg _ (by omega), Int.emod_lt_of_pos _ (by omega), ⟨⟨i, _, HB.out.set 2 _, by omega⟩⟩, grown_drew (grown_set g 2 _)⟩
end Go.Proofs.Ytaalceckofgbhaa

namespace Go.Proofs.Ytaalceckofgbhaa
open Go.RowKit
set_option linter.unusedVariables false
set_option linter.unusedSimpArgs false

/-- A source in block g: its bytes, at most K taken. -/
structure Src (w : World) (g : Nat) (a : Option Addr) (n c : Nat) (f : Nat → Nat) (K : Nat) : Prop where
  blk : ∃ (i : Nat) (hh : Int), Blk w g 51 #[.slice a n c, .int .i64 i, .int .u64 hh] ∧ i ≤ K
  byt : U8 w a n f
  far : 0 < n → ∀ ad, a = some ad → ad.block ≠ g
  low : ∀ j, j < n → f j ≤ 255
theorem mask8 (E : Int) (h0 : 0 ≤ E) (h1 : E ≤ 18446744073709551615) : ∃ X, bits BinOp.and IntKind.u64 E 255 = X ∧ 0 ≤ X ∧ X ≤ 255 := by
  have h := bits_and_u64_nat E.toNat 255 (by omega) (by omega)
  rw [Int.toNat_of_nonneg h0] at h
  have := Nat.and_le_right (n := E.toNat) (m := 255)
  exact ⟨_, h, by omega, by omega⟩
theorem U8.but {w w' : World} {a : Option Addr} {n g : Nat} {f : Nat → Nat} (s : U8 w a n f) (hg : w.grownBy w' (some g)) (hne : 0 < n → ∀ ad, a = some ad → ad.block ≠ g) : U8 w' a n f := fun hn => by
  obtain ⟨b, off, ha, hb, hc⟩ := s hn
  refine ⟨b, off, ha, Nat.lt_of_lt_of_le hb hg.size, fun j hj => ?_⟩
  rw [World.cell?_of_block (a := ⟨b, off + j, none⟩) (hg.block b hb (fun e => hne hn _ ha (by simpa using e)))]
  exact hc j hj
theorem l00From_c (a : Option Addr) (n c : Nat) (f : Nat → Nat) (w : World) (hs : U8 w a n f) (hl : ∀ j, j < n → f j ≤ 255) (hf : 0 < n → ∀ ad, a = some ad → ad.block < w.heap.size) :
    Calls Try.prog 14 #[.slice a n c] w fun e w' => e = .returned (.pointer (some ⟨w.heap.size, 0, none⟩)) ∧ Src w' w.heap.size a n c f 0 ∧ Ext w w' := by
  have HS := Lib.hid hs
  clear hs
  go_enter Try.func14, Try.ntmps14
  go_wp2
  go_ret
  exact ⟨rfl, ⟨⟨0, 0, Blk.new _ _ _, Nat.le_refl _⟩, HS.out.ext (by repeat (first | with_reducible exact Ext.refl _ | with_reducible assumption | with_reducible refine Ext.alloc ?_ _ | with_reducible refine Ext.drew ?_ | (with_reducible refine Ext.setAt ?_ _ _ _ ?_; rotate_left; omega) | with_reducible refine Ext.trans ?_ (by assumption) | with_reducible exact Past.bel _ | with_reducible refine Ext.trans ?_ (Past.bel _))), fun h0 ad ha => by have := hf h0 ad ha; omega, hl⟩, (by repeat (first | with_reducible exact Ext.refl _ | with_reducible assumption | with_reducible refine Ext.alloc ?_ _ | with_reducible refine Ext.drew ?_ | (with_reducible refine Ext.setAt ?_ _ _ _ ?_; rotate_left; omega) | with_reducible refine Ext.trans ?_ (by assumption) | with_reducible exact Past.bel _ | with_reducible refine Ext.trans ?_ (Past.bel _)))⟩
set_option maxHeartbeats 2000000 in
theorem next_c (g : Nat) (a : Option Addr) (n c : Nat) (f : Nat → Nat) (K : Nat) (w : World) (hn : n ≤ 1048576) (hK : K ≤ 1000000) (hd : Src w g a n c f K) :
    Calls Try.prog 33 #[.pointer (some ⟨g, 0, none⟩)] w fun e w' => ∃ x : Int, e = .returned (.int .i64 x) ∧ 0 ≤ x ∧ x ≤ 255 ∧ Src w' g a n c f (K + 1) ∧ w.grownBy w' (some g) := by
  obtain ⟨⟨i, hh, hb, hi⟩, hs, hne, hlo⟩ := hd
  have HB := Lib.hid hb
  have HS := Lib.hid hs
  have c0 := hb.cell 0
  have c1 := hb.cell 1
  have c2 := hb.cell 2
  have f1 := hb.frozen 1
  have f2 := hb.frozen 2
  clear hb
  have C0 := Lib.hid c0
  have C1 := Lib.hid c1
  have k0 : ∀ u v, ((w.setCell ⟨g, 1, none⟩ u).setCell ⟨g, 2, none⟩ v).cell? ⟨g, 0, none⟩ = some (.slice a n c) := fun u v => by simp [go_sem, c0]
  have k1 : ∀ u v, ((w.setCell ⟨g, 1, none⟩ u).setCell ⟨g, 2, none⟩ v).cell? ⟨g, 1, none⟩ = some u := fun u v => by simp [go_sem, c1]
  have K0 := Lib.hid k0
  have K1 := Lib.hid k1
  clear k0 k1
  have x3 : IntKind.i64.wrap ((i : Int) + 1) = (i : Int) + 1 := IntWalk.i64_in _ (by omega)
  by_cases hlt : i < n
  · obtain ⟨b1, o1, rfl, hb1, q1⟩ := hs.at hlt
    have hg := hne (by omega) _ rfl
    simp only at hg
    have hfi := hlo i hlt
    have x0 : (0 : Int) ≤ (i : Int) := by omega
    have x1 : (i : Int) < (n : Int) := by omega
    have x5 : (i : Int) + 1 ≤ (n : Int) := by omega
    have x2 : IntKind.i64.wrap (f i : Int) = (f i : Int) := IntWalk.i64_in _ (by omega)
    have HN := Lib.hid hne
    have HL := Lib.hid hlo
    clear hs hlo hne
    go_enter Try.func33, Try.ntmps33
    go_wp2_with fail
    go_region_held3 (fun w' => w'.cell? ⟨g, 0, none⟩ = some (.slice (some ⟨b1, o1, none⟩) n c) ∧ w'.cell? ⟨g, 1, none⟩ = some (.int .i64 i)) (exact ⟨C0.out, C1.out⟩) (fail)
    go_wp2_with fail
    go_region_held3 (fun w' => w'.cell? ⟨g, 0, none⟩ = some (.slice (some ⟨b1, o1, none⟩) n c) ∧ w'.cell? ⟨g, 1, none⟩ = some (.int .i64 i) ∧ w'.cell? ⟨b1, o1 + i, none⟩ = some (.int .u8 (f i : Nat))) (exact ⟨C0.out, C1.out, q1⟩) (fail)
    go_wp2_with fail
    go_region_held3 (fun w' => w'.cell? ⟨g, 0, none⟩ = some (.slice (some ⟨b1, o1, none⟩) n c) ∧ w'.cell? ⟨g, 1, none⟩ = some (.int .i64 ((i : Int) + 1))) (exact ⟨K0.out _ _, K1.out _ _⟩) (fail)
    go_wp2_with fail
    go_ret
    have hgr := grown_drew (grown_drew (grown_drew (grown_trans (grown_set (w := w) g 1 (.int .i64 ((i : Int) + 1))) (grown_set g 2 (.int .u64 (IntKind.u64.wrap (IntKind.u64.wrap (IntKind.u64.wrap (hh * 6364136223846793005) + (f i : Int)) + 1442695040888963407)))))))
    exact ⟨(f i : Int), rfl, by omega, by omega, ⟨⟨i + 1, IntKind.u64.wrap (IntKind.u64.wrap (IntKind.u64.wrap (hh * 6364136223846793005) + (f i : Int)) + 1442695040888963407), (HB.out.set 1 (.int .i64 ((i : Int) + 1))).set 2 (.int .u64 (IntKind.u64.wrap (IntKind.u64.wrap (IntKind.u64.wrap (hh * 6364136223846793005) + (f i : Int)) + 1442695040888963407))), by omega⟩, HS.out.but hgr HN.out, HN.out, HL.out⟩, hgr⟩
  · have x1 : (n : Int) ≤ (i : Int) := by omega
    have x5 : (n : Int) < (i : Int) + 1 := by omega
    obtain ⟨X, hX, X0, X1⟩ := mask8 (IntKind.u64.wrap (IntKind.u64.wrap (IntKind.u64.wrap (hh * 6364136223846793005)) + 1442695040888963407) / 1099511627776) (by rw [IntKind.wrap_u64]; omega) (by rw [IntKind.wrap_u64]; omega)
    have hw : wrap64 X = X := IntWalk.wrap64_in X (by omega)
    have HN := Lib.hid hne
    have HL := Lib.hid hlo
    clear hs hlo hne
    go_enter Try.func33, Try.ntmps33
    go_wp2_with fail
    go_region_held3 (fun w' => w'.cell? ⟨g, 0, none⟩ = some (.slice a n c) ∧ w'.cell? ⟨g, 1, none⟩ = some (.int .i64 i)) (exact ⟨C0.out, C1.out⟩) (fail)
    go_wp2_with fail
    go_region_held3 (fun w' => w'.cell? ⟨g, 0, none⟩ = some (.slice a n c) ∧ w'.cell? ⟨g, 1, none⟩ = some (.int .i64 ((i : Int) + 1))) (exact ⟨K0.out _ _, K1.out _ _⟩) (fail)
    go_wp2_with fail
    go_ret
    have hgr := grown_drew (grown_drew (grown_trans (grown_set (w := w) g 1 (.int .i64 ((i : Int) + 1))) (grown_set g 2 (.int .u64 (IntKind.u64.wrap (IntKind.u64.wrap (IntKind.u64.wrap (hh * 6364136223846793005)) + 1442695040888963407))))))
    exact ⟨X, rfl, X0, X1, ⟨⟨i + 1, IntKind.u64.wrap (IntKind.u64.wrap (IntKind.u64.wrap (hh * 6364136223846793005)) + 1442695040888963407), (HB.out.set 1 (.int .i64 ((i : Int) + 1))).set 2 (.int .u64 (IntKind.u64.wrap (IntKind.u64.wrap (IntKind.u64.wrap (hh * 6364136223846793005)) + 1442695040888963407))), by omega⟩, HS.out.but hgr HN.out, HN.out, HL.out⟩, hgr⟩
end Go.Proofs.Ytaalceckofgbhaa

namespace Go.Proofs.Ytaalceckofgbhaa
open Go.RowKit
set_option linter.unusedVariables false
set_option linter.unusedSimpArgs false

theorem grown_refl (w : World) (row : Option Nat) : w.grownBy w row := ⟨rfl, rfl, rfl, Nat.le_refl _, fun _ _ _ => rfl⟩
theorem Src.le {w : World} {g : Nat} {a : Option Addr} {n c : Nat} {f : Nat → Nat} {K L : Nat} (h : Src w g a n c f K) (hl : K ≤ L) : Src w g a n c f L := by
  obtain ⟨⟨i, hh, hb, hi⟩, hs, hne, hlo⟩ := h
  exact ⟨⟨i, hh, hb, by omega⟩, hs, hne, hlo⟩
set_option maxHeartbeats 1000000 in
theorem pick_c (g : Nat) (a : Option Addr) (n c : Nat) (f : Nat → Nat) (K : Nat) (m : Int) (w : World) (hn : n ≤ 1048576) (hK : K ≤ 999999) (hd : Src w g a n c f K) :
    Calls Try.prog 25 #[.pointer (some ⟨g, 0, none⟩), .int .i64 m] w fun e w' => ∃ x : Int, e = .returned (.int .i64 x) ∧ 0 ≤ x ∧ (x = 0 ∨ x < m) ∧ x ≤ 65535 ∧ Src w' g a n c f (K + 2) ∧ w.grownBy w' (some g) := by
  by_cases h1 : m ≤ 1
  · go_enter Try.func25, Try.ntmps25
    go_wp2
    go_ret
    exact ⟨0, rfl, by omega, .inl rfl, by omega, hd.le (by omega), grown_refl _ _⟩
  · by_cases h2 : 200 < m
    · go_enter Try.func25, Try.ntmps25
      go_wp2_with fail
      refine (next_c g a n c f K _ hn (by omega) hd).mono ?_
      rintro e w1 ⟨x, rfl, x0, x1, hs1, hg1⟩
      have e1 := IntWalk.i64_in (x * 256) (by omega)
      go_wp2_with fail
      refine (next_c g a n c f (K + 1) _ hn (by omega) hs1).mono ?_
      rintro e w2 ⟨y, rfl, y0, y1, hs2, hg2⟩
      have e2 := IntWalk.i64_in (x * 256 + y) (by omega)
      have e3 : wrap64 (x * 256) = x * 256 := IntWalk.wrap64_in _ (by omega)
      have e4 : wrap64 (x * 256 + y) = x * 256 + y := IntWalk.wrap64_in _ (by omega)
      go_wp2_with fail
      go_ret
      refine ⟨(x * 256 + y) % m, ?_, Int.emod_nonneg _ (by omega), .inr (Int.emod_lt_of_pos _ (by omega)), ?_, hs2, grown_trans hg1 hg2⟩
      · simp [go_sem]
      · have q1 := Int.mul_ediv_add_emod (x * 256 + y) m; have q2 := Int.mul_nonneg (show 0 ≤ m by omega) (Int.ediv_nonneg (show 0 ≤ x * 256 + y by omega) (show 0 ≤ m by omega)); omega
    · go_enter Try.func25, Try.ntmps25
      go_wp2_with fail
      refine (next_c g a n c f K _ hn (by omega) hd).mono ?_
      rintro e w1 ⟨x, rfl, x0, x1, hs1, hg1⟩
      go_wp2_with fail
      go_ret
      exact ⟨x % m, by simp [go_sem], Int.emod_nonneg _ (by omega), .inr (Int.emod_lt_of_pos _ (by omega)), by have := Int.emod_lt_of_pos x (show 0 < m by omega); omega, hs1.le (by omega), hg1⟩
theorem one_c (g : Nat) (a : Option Addr) (n c : Nat) (f : Nat → Nat) (K : Nat) (m : Int) (w : World) (hn : n ≤ 1048576) (hK : K ≤ 999999) (hd : Src w g a n c f K) :
    Calls Try.prog 26 #[.pointer (some ⟨g, 0, none⟩), .int .i64 m] w fun e w' => ∃ b : Bool, e = .returned (.bool b) ∧ Src w' g a n c f (K + 2) ∧ w.grownBy w' (some g) := by
  go_enter Try.func26, Try.ntmps26
  go_wp2_with fail
  refine (pick_c g a n c f K m _ hn hK hd).mono ?_
  rintro e w1 ⟨x, rfl, x0, x1, x2, hs1, hg1⟩
  go_wp2_with fail
  go_ret
  exact ⟨_, rfl, hs1, hg1⟩
theorem among_c (g : Nat) (a : Option Addr) (n c : Nat) (f : Nat → Nat) (K : Nat) (la : Option Addr) (ln lc : Nat) (z : Nat → Int) (w : World) (hn : n ≤ 1048576) (hK : K ≤ 999999) (hd : Src w g a n c f K) (hl : 1 ≤ ln) (hl2 : ln ≤ 1048576) (hs : S1 w la ln z) (hne : ∀ ad, la = some ad → ad.block ≠ g) :
    Calls Try.prog 30 #[.pointer (some ⟨g, 0, none⟩), .slice la ln lc] w fun e w' => ∃ j : Nat, e = .returned (.int .i64 (z j)) ∧ j < ln ∧ Src w' g a n c f (K + 2) ∧ w.grownBy w' (some g) := by
  go_enter Try.func30, Try.ntmps30
  go_wp2_with fail
  refine (pick_c g a n c f K ln _ hn hK hd).mono ?_
  rintro e w1 ⟨x, rfl, x0, x1, x2, hs1, hg1⟩
  obtain ⟨j, rfl⟩ := Int.eq_ofNat_of_zero_le x0
  have hj : j < ln := by omega
  obtain ⟨b, off, rfl, hb, hc⟩ := (hs.but hg1 (fun ad e => by have := hne ad e; simpa using this)).at hj
  have y0 : (0 : Int) ≤ (j : Int) := by omega
  have y1 : (j : Int) < (ln : Int) := by omega
  go_wp2_with fail
  go_ret
  exact ⟨j, by simp [go_sem], hj, hs1, hg1⟩
end Go.Proofs.Ytaalceckofgbhaa

namespace Go.Proofs.Ytaalceckofgbhaa
open Go.RowKit
set_option linter.unusedVariables false
set_option linter.unusedSimpArgs false

/-- the cells of pairs -/
def PR (l : List (Int × Int)) : List Value := l.flatMap fun p => [.int .i64 p.1, .int .i64 p.2]
theorem PR_len (l : List (Int × Int)) : (PR l).length = l.length * 2 := by
  induction l with
  | nil => rfl
  | cons p l ih =>
    have : PR (p :: l) = .int .i64 p.1 :: .int .i64 p.2 :: PR l := rfl
    rw [this]; simp only [List.length_cons, ih]; omega
theorem PR_app (l k : List (Int × Int)) : PR (l ++ k) = PR l ++ PR k := by simp [PR, List.flatMap_append]
theorem PR_at {l : List (Int × Int)} {j : Nat} (hj : j < l.length) : (PR l)[j * 2]? = some (.int .i64 (l.getD j (0, 0)).1) ∧ (PR l)[j * 2 + 1]? = some (.int .i64 (l.getD j (0, 0)).2) := by
  induction l generalizing j with
  | nil => simp at hj
  | cons p l ih =>
    have e : PR (p :: l) = .int .i64 p.1 :: .int .i64 p.2 :: PR l := rfl
    rw [e]
    cases j with
    | zero => simp
    | succ j =>
      have h1 := ih (j := j) (by simpa using hj)
      rw [show (j + 1) * 2 = j * 2 + 1 + 1 by omega, show j * 2 + 1 + 1 + 1 = (j * 2 + 1) + 1 + 1 by omega]
      simpa using h1
theorem own_s2 {w : World} {base : Nat} {e : TypeId} {a : Option Addr} {cap n : Nat} {l : List (Int × Int)} (h : w.ownsRow base e 2 (.slice a n cap) n (PR l)) (hl : n = l.length) :
    S2 w a n (fun j => (l.getD j (0, 0)).1) (fun j => (l.getD j (0, 0)).2) := fun hn => by
  obtain ⟨g, rfl, _, hg, _⟩ := own_at2 h hn
  refine ⟨g, 0, rfl, hg, fun j hj => ?_⟩
  obtain ⟨g', e', _, _, h1, h2⟩ := own_at2 h hj
  obtain rfl : g = g' := by simpa using e'
  obtain ⟨p1, p2⟩ := PR_at (l := l) (j := j) (by omega)
  simp only [Nat.zero_add]
  exact ⟨h1.1.trans p1, h2.1.trans p2⟩
theorem grown_weak {w w' : World} {row : Option Nat} (h : w.grownBy w' none) : w.grownBy w' row := ⟨h.os, h.tape, h.output, h.size, fun k hk _ => h.block k hk (by simp)⟩
theorem Src.keep {w w' : World} {g : Nat} {a : Option Addr} {n c : Nat} {f : Nat → Nat} {K B : Nat} {row : Option Nat} (h : Src w g a n c f K) (hx : w.grownBy w' row) (hr : ∀ k, row = some k → B ≤ k) (hg : g < B) (hc : 0 < n → ∀ ad, a = some ad → ad.block < B) (hB : B ≤ w.heap.size) : Src w' g a n c f K := by
  obtain ⟨⟨i, hh, hb, hi⟩, hs, hne, hlo⟩ := h
  refine ⟨⟨i, hh, (hx.block g (by omega) (fun e => by have := hr g e.symm; omega)).trans hb, hi⟩, fun hn => ?_, hne, hlo⟩
  obtain ⟨b, off, ha, hb1, hcc⟩ := hs hn
  have hbB := hc hn _ ha
  simp only at hbB
  refine ⟨b, off, ha, Nat.lt_of_lt_of_le hb1 hx.size, fun j hj => ?_⟩
  rw [World.cell?_of_block (a := ⟨b, off + j, none⟩) (hx.block b hb1 (fun e => by have := hr b e.symm; omega))]
  exact hcc j hj
/-- Where a draw stands: its list, its source, what it has kept of the world it began in. -/
structure St (w0 w : World) (g : Nat) (a : Option Addr) (n c : Nat) (f : Nat → Nat) (K : Nat) (T : TypeId) (v : Value) (l : List (Int × Int)) : Prop where
  own : w.ownsRow w0.heap.size T 2 v l.length (PR l)
  src : Src w g a n c f K
  gr : w0.grownBy w (some g)
  low : g < w0.heap.size
  cod : 0 < n → ∀ ad, a = some ad → ad.block < w0.heap.size
section
variable {w0 w w1 : World} {g : Nat} {a : Option Addr} {n c : Nat} {f : Nat → Nat} {K K' : Nat} {T : TypeId} {v : Value} {l : List (Int × Int)}
theorem St.ne (h : St w0 w g a n c f K T v l) : v.ownBlock ≠ some g := fun e => by have := (h.own.lt g e).1; have := h.low; omega
theorem St.le (h : St w0 w g a n c f K T v l) (hl : K ≤ K') : St w0 w g a n c f K' T v l := ⟨h.own, h.src.le hl, h.gr, h.low, h.cod⟩
theorem St.drawn (h : St w0 w g a n c f K T v l) (hs : Src w1 g a n c f K') (hx : w.grownBy w1 (some g)) : St w0 w1 g a n c f K' T v l :=
  ⟨h.own.kept hx (.inr h.ne), hs, grown_trans h.gr hx, h.low, h.cod⟩
theorem St.alloc (h : St w0 w g a n c f K T v l) (o : Obj) : St w0 (w.alloc o) g a n c f K T v l := by
  have e : Ext w (w.alloc o) := (by repeat (first | with_reducible exact Ext.refl _ | with_reducible assumption | with_reducible refine Ext.alloc ?_ _ | with_reducible refine Ext.drew ?_ | (with_reducible refine Ext.setAt ?_ _ _ _ ?_; rotate_left; omega) | with_reducible refine Ext.trans ?_ (by assumption) | with_reducible exact Past.bel _ | with_reducible refine Ext.trans ?_ (Past.bel _)))
  exact ⟨own_ext h.own e, h.src.keep (ext_grown e) (fun k hk => by cases hk) h.low h.cod h.gr.size, grown_trans h.gr (grown_weak (ext_grown e)), h.low, h.cod⟩
theorem St.reset (h : St w0 w g a n c f K T v l) : St w0 w g a n c f K T (.slice none 0 0) [] := ⟨World.ownsRow_nil _ _ _ _, h.src, h.gr, h.low, h.cod⟩
/-- 'out = append(out, T{x, y})' -/
theorem app2 {P : Program} {ops : Array Oper} {rest : List Oper} {o : Oper} {A : Act} {Q : Exit → Act → World → Prop} (t : TypeId) (s x : Operand) (z : Value)
    (hop : o.op = .call { callee := .builtin .append, args := #[s, x], argTypes := #[t, t] }) (hgd : o.guard = none)
    (ht : P.underlying t = some (.slice T)) (hinfo : (P.info? T).map (fun i => (i.zero, i.size, i.bytes)) = some (some z, 2, 16)) (hz : z.cells.size = 2)
    (p q : Int) (gb : Nat) (hs : A.eval s = v) (hx : A.eval x = .slice (some ⟨gb, 0, none⟩) 1 1) (h : St w0 w g a n c f K T v l)
    (hc : Blk w gb T #[.int .i64 p, .int .i64 q]) (hl : l.length ≤ 1048576)
    (hK : ∀ v' w', St w0 w' g a n c f K T v' (l ++ [(p, q)]) → wpList P ops Q rest (A.put o.dst v') w') : wpList P ops Q (o :: rest) A w := by
  obtain ⟨i, hi, hz', hsz, hb⟩ := info_parts hinfo
  refine wpList_append_own (P := P) w hgd s x t hop w0.heap.size T i z 2 16 ht hi hz' hsz hb hz (by decide) v l.length _ hs h.own ⟨gb, 0, none⟩ 1 1 [.int .i64 p, .int .i64 q] hx rfl ?_ ?_ ?_ ?_ h.gr.size ?_
  · exact World.news_of_block hc
  · intro u hu
    simp at hu; rcases hu with rfl | rfl <;> rfl
  · unfold maxLen; omega
  · omega
  · intro v' w' h1 h2 _
    have hr : ∀ k, v.ownBlock = some k → w0.heap.size ≤ k := fun k hk => (h.own.lt k hk).1
    refine hK v' w' ⟨?_, h.src.keep h2 hr h.low h.cod h.gr.size, ⟨h2.os.trans h.gr.os, h2.tape.trans h.gr.tape, h2.output.trans h.gr.output, Nat.le_trans h.gr.size h2.size, fun k hk hn => ?_⟩, h.low, h.cod⟩
    · rw [PR_app, List.length_append]; have e1 : PR [(p, q)] = [.int .i64 p, .int .i64 q] := rfl
      rw [e1]; simpa using h1
    · exact (h2.block k (Nat.lt_of_lt_of_le hk h.gr.size) (fun e => by have := hr k e.symm; omega)).trans (h.gr.block k hk hn)
theorem PR_set0 {l : List (Int × Int)} {j : Nat} (hj : j < l.length) (z : Int) : (PR l).set (j * 2) (.int .i64 z) = PR (l.set j (z, (l.getD j (0, 0)).2)) := by
  induction l generalizing j with
  | nil => simp at hj
  | cons p l ih =>
    have e : PR (p :: l) = .int .i64 p.1 :: .int .i64 p.2 :: PR l := rfl
    cases j with
    | zero => rfl
    | succ j =>
      have h1 := ih (j := j) (by simpa using hj)
      rw [e, show (j + 1) * 2 = j * 2 + 1 + 1 by omega]
      simp only [List.set_cons_succ, h1]; simp [PR]
theorem PR_set1 {l : List (Int × Int)} {j : Nat} (hj : j < l.length) (z : Int) : (PR l).set (j * 2 + 1) (.int .i64 z) = PR (l.set j ((l.getD j (0, 0)).1, z)) := by
  induction l generalizing j with
  | nil => simp at hj
  | cons p l ih =>
    have e : PR (p :: l) = .int .i64 p.1 :: .int .i64 p.2 :: PR l := rfl
    cases j with
    | zero => rfl
    | succ j =>
      have h1 := ih (j := j) (by simpa using hj)
      rw [e, show (j + 1) * 2 + 1 = (j * 2 + 1) + 1 + 1 by omega]
      simp only [List.set_cons_succ, h1]; simp [PR]
theorem St.set {gb cap m i : Nat} {u : Value} {l' : List (Int × Int)} (h : St w0 w g a n c f K T (.slice (some ⟨gb, 0, none⟩) m cap) l) (hm : m = l.length) (hp : (PR l).set i u = PR l') (hl : l'.length = l.length) :
    St w0 (w.setCell ⟨gb, i, none⟩ u) g a n c f K T (.slice (some ⟨gb, 0, none⟩) m cap) l' := by
  subst hm
  have hgb : w0.heap.size ≤ gb := (h.own.lt gb rfl).1
  have hx := grown_set (w := w) gb i u
  refine ⟨?_, h.src.keep hx (fun k hk => by cases hk; exact hgb) h.low h.cod h.gr.size, ⟨h.gr.os, h.gr.tape, h.gr.output, by simpa using h.gr.size, fun k hk hn => ?_⟩, h.low, h.cod⟩
  · rw [hl, ← hp]; exact own_set h.own u
  · exact (hx.block k (Nat.lt_of_lt_of_le hk h.gr.size) (fun e => absurd (show k = gb by simpa using e) (by omega))).trans (h.gr.block k hk hn)
end
end Go.Proofs.Ytaalceckofgbhaa

namespace Go.Proofs.Ytaalceckofgbhaa
open Go.RowKit
set_option linter.unusedVariables false
set_option linter.unusedSimpArgs false

end Go.Proofs.Ytaalceckofgbhaa

namespace Go.Proofs.Ytaalceckofgbhaa
open Go.RowKit
set_option linter.unusedVariables false
set_option linter.unusedSimpArgs false

theorem grown_up {w W w' : World} {g : Nat} (h : W.grownBy w' (some g)) (hx : Ext w W) (hg : w.heap.size ≤ g) : Ext w w' := hx.grown h (fun k hk => by injection hk with hk; omega)
theorem U8.low' {w : World} {a : Option Addr} {n : Nat} {f : Nat → Nat} (hs : U8 w a n f) : 0 < n → ∀ ad, a = some ad → ad.block < w.heap.size := fun h0 ad e => by
  obtain ⟨b, o, e2, hb, _⟩ := hs.at h0
  have e3 : some ad = some (⟨b, o, none⟩ : Addr) := e.symm.trans e2
  rw [Option.some.inj e3]; exact hb
theorem own_cap' {w : World} {base : Nat} {e : TypeId} {size : Nat} {a : Option Addr} {n cap : Nat} {xs : List Value} (h : w.ownsRow base e size (.slice a n cap) n xs) : n ≤ cap ∧ cap ≤ maxLen := by
  rcases h.2 with ⟨h1, h2⟩ | ⟨g, cap', cur, h1, _, _, h2, h3, _⟩
  · simp only [Value.slice.injEq] at h1
    obtain ⟨_, h3, h4⟩ := h1
    subst h4; exact ⟨by omega, Nat.zero_le _⟩
  · simp only [Value.slice.injEq] at h1
    omega
theorem own_shape {w : World} {base : Nat} {e : TypeId} {size : Nat} {a : Option Addr} {n cap : Nat} {xs : List Value} (h : w.ownsRow base e size (.slice a n cap) n xs) : (a = none ∧ n = 0 ∧ cap = 0) ∨ ∃ g, a = some ⟨g, 0, none⟩ := by
  rcases h.2 with ⟨h1, h2⟩ | ⟨g, cap', cur, h1, _⟩
  · simp only [Value.slice.injEq] at h1
    exact .inl ⟨h1.1, h2, h1.2.2⟩
  · simp only [Value.slice.injEq] at h1
    exact .inr ⟨g, h1.1⟩
/-- a drawn list of readings -/
structure LiE (w w' : World) (b : Option Addr) (n cap : Nat) (h o : Nat → Int) : Prop where
  n61 : n ≤ 61
  s2 : S2 w' b n h o
  ext : Ext w w'
  far : ∀ ad, b = some ad → w.heap.size ≤ ad.block
  nc : n ≤ cap
  cm : cap ≤ maxLen
  form : (b = none ∧ n = 0 ∧ cap = 0) ∨ ∃ g, b = some ⟨g, 0, none⟩
theorem LiE.of {w w0 w' : World} {g : Nat} {a : Option Addr} {n c : Nat} {f : Nat → Nat} {K : Nat} {T : TypeId} {b : Option Addr} {m cap : Nat} {l : List (Int × Int)} (h : St w0 w' g a n c f K T (.slice b m cap) l) (hm : m = l.length) (hl : l.length ≤ 61) (hx : Ext w w0) (hg : w.heap.size ≤ g) :
    LiE w w' b m cap (fun j => (l.getD j (0, 0)).1) (fun j => (l.getD j (0, 0)).2) := by
  subst hm
  have hc := own_cap' h.own
  exact ⟨hl, own_s2 h.own rfl, grown_up h.gr hx hg, fun ad e => by subst e; have := (h.own.lt ad.block rfl).1; have := hx.size; omega, hc.1, hc.2, own_shape h.own⟩
def postL (w : World) (e : Ending) (w' : World) : Prop := ∃ b m cap h o, e = .returned (.slice b m cap) ∧ LiE w w' b m cap h o
def postL1 (w : World) (e : Ending) (w' : World) : Prop := ∃ b m cap h o x, e = .returned (.tuple #[.slice b m cap, .int .i64 x]) ∧ LiE w w' b m cap h o
theorem li_from (a : Option Addr) (n c : Nat) (f : Nat → Nat) (w : World) (hs : U8 w a n f) (hl : ∀ j, j < n → f j ≤ 255) :
    Calls Try.prog 14 #[.slice a n c] w fun e w' => e = .returned (.pointer (some ⟨w.heap.size, 0, none⟩)) ∧ Src w' w.heap.size a n c f 0 ∧ Ext w w' := l00From_c a n c f w hs hl hs.low'
theorem s1_lit {w : World} {b n : Nat} {z : Nat → Int} (hb : b < w.heap.size) (h : ∀ j, j < n → w.cell? ⟨b, j, none⟩ = some (.int .i64 (z j))) : S1 w (some ⟨b, 0, none⟩) n z := fun _ => ⟨b, 0, rfl, hb, fun j hj => by rw [Nat.zero_add]; exact h j hj⟩
/-- sums of any list -/
theorem fit_blk5 {w : World} {g : Nat} {T : TypeId} {a b c d e : Value} (h : Blk w g T #[a, b, c, d, e]) : w.cell? ⟨g, 0, none⟩ = some a ∧ w.cell? ⟨g, 1, none⟩ = some b ∧ w.cell? ⟨g, 2, none⟩ = some c ∧ w.cell? ⟨g, 3, none⟩ = some d ∧ w.cell? ⟨g, 4, none⟩ = some e := by
  refine ⟨?_, ?_, ?_, ?_, ?_⟩ <;> (rw [h.cell]; rfl)
end Go.Proofs.Ytaalceckofgbhaa

namespace Go.Proofs.Ytaalceckofgbhaa
open Go.RowKit
set_option linter.unusedVariables false
set_option linter.unusedSimpArgs false

theorem info_i64 : (Try.prog.info? 2).map (fun i => (i.zero, i.size, i.bytes)) = some (some (.int .i64 0), 1, 8) := by kernel_rfl
theorem jmp_t {o : Nat → Int} {least : Int} {j : Nat} (h : least ≤ absI (o (j + 1) - o j)) : (jmp o least j).map (Value.int .i64) ++ [.int .i64 ((j : Int) + 1)] = (jmp o least (j + 1)).map (Value.int .i64) ∧ (jmp o least j).length + 1 = (jmp o least (j + 1)).length := by
  simp [jmp, h]
theorem jmp_f {o : Nat → Int} {least : Int} {j : Nat} (h : absI (o (j + 1) - o j) < least) : jmp o least (j + 1) = jmp o least j := by
  simp only [jmp]; rw [if_neg (Int.not_le.2 h)]
end Go.Proofs.Ytaalceckofgbhaa

namespace Go.Proofs.Ytaalceckofgbhaa
open Go.RowKit
set_option linter.unusedVariables false
set_option linter.unusedSimpArgs false

theorem outs_own {w : World} {b e : Nat} {v : Value} {F : Nat → Int} {j : Nat} (h : w.ownsRow b e 1 v j ((outs F j).map (Value.int .i64))) : w.ownsRow b e 1 v (outs F j).length ((outs F j).map (Value.int .i64)) := by rw [outs_len]; exact h
theorem outs_step (F : Nat → Int) (j : Nat) : (outs F j ++ [F j]).map (Value.int .i64) = (outs F (j + 1)).map (Value.int .i64) := by simp [outs]
end Go.Proofs.Ytaalceckofgbhaa

namespace Go.Proofs.Ytaalceckofgbhaa
set_option linter.unusedVariables false
theorem sm_nn {f : Nat → Int} {k : Nat} (hf : ∀ j, j < k → 0 ≤ f j) : 0 ≤ sm f k := by
  induction k with
  | zero => simp [sm]
  | succ k ih =>
    have h1 := ih (fun j hj => hf j (by omega))
    have h2 := hf k (by omega)
    simp only [sm]; omega
theorem sm_dev (h : Nat → Int) (x : Int) (k : Nat) : sm (fun i => (h i - x) * (h i - x)) k = sXX h k - 2 * (sm h k * x) + (k : Int) * (x * x) := by
  induction k with
  | zero => simp [sm, sXX]
  | succ k ih =>
    have h1 : (h k - x) * (h k - x) = h k * h k - 2 * (h k * x) + x * x := by
      rw [Int.sub_mul, Int.mul_sub, Int.mul_sub, Int.mul_comm x (h k)]; omega
    have h2 : (sm h k + h k) * x = sm h k * x + h k * x := Int.add_mul _ _ _
    have h3 : ((k + 1 : Nat) : Int) * (x * x) = (k : Int) * (x * x) + x * x := by rw [Int.natCast_add, Int.add_mul]; simp
    have h4 : sXX h (k + 1) = sXX h k + h k * h k := rfl
    simp only [sm]
    rw [ih, h1, h2, h3, h4]
    omega
theorem sm_cs (h : Nat → Int) (k : Nat) : sm h k * sm h k ≤ (k : Int) * sXX h k := by
  induction k with
  | zero => simp [sm]
  | succ k ih =>
    have h1 := sm_dev h (h k) k
    have h2 : 0 ≤ sm (fun i => (h i - h k) * (h i - h k)) k := sm_nn fun j _ => sqr_nn _
    have h3 : (sm h k + h k) * (sm h k + h k) = sm h k * sm h k + 2 * (sm h k * h k) + h k * h k := by
      rw [Int.add_mul, Int.mul_add, Int.mul_add, Int.mul_comm (h k) (sm h k)]; omega
    have h4 : ((k + 1 : Nat) : Int) * (sXX h k + h k * h k) = (k : Int) * sXX h k + (k : Int) * (h k * h k) + sXX h k + h k * h k := by
      rw [Int.natCast_add, Int.add_mul, Int.mul_add]; simp; omega
    have h5 : sXX h (k + 1) = sXX h k + h k * h k := rfl
    simp only [sm]
    rw [h5, h3, h4]
    omega
theorem vF_of {n : Nat} {h o : Nat → Int} (r : RB n h o) : vF n (sm h n) (sm o n) (sXX h n) (sXY h o n) = true := by
  have h60 := r.n60
  have a1 := sm_bd (f := h) (A := 0) (B := 10000) (k := n) r.bh
  have a2 := sm_bd (f := o) (A := -100000) (B := 100000) (k := n) r.bo
  have a3 := sm_bd (f := fun i => h i * h i) (A := 0) (B := 100000000) (k := n) fun j hj => by
    have := r.bh j hj
    exact ⟨sqr_nn _, by have := mul_bd (A := 10000) (B := 10000) (by omega) (r.bh j hj).2 (by omega) (r.bh j hj).2; omega⟩
  have a4 := sm_bd (f := fun i => h i * o i) (A := -1000000000) (B := 1000000000) (k := n) fun j hj => by
    have b1 := r.bh j hj
    have b2 := r.bo j hj
    have := mul_bd (A := 10000) (B := 100000) (by omega) b1.2 (by omega) b2.2
    omega
  have a5 := sm_cs h n
  have e1 : sm (fun i => h i * h i) n = sXX h n := rfl
  have e2 : sm (fun i => h i * o i) n = sXY h o n := rfl
  rw [e1] at a3
  rw [e2] at a4
  simp only [vF, Bool.and_eq_true, inB_t, decide_eq_true_eq]
  refine ⟨⟨⟨⟨⟨?_, ?_⟩, ?_⟩, ?_⟩, ?_⟩, a5⟩ <;> omega
/-- the code of residuals -/
def resCode (n : Nat) (h o : Nat → Int) : Int := if rdV n h o then (if slD n (sm h n) (sm o n) (sXX h n) (sXY h o n) = 0 then 6 else 0) else 1
def lineAt (n : Nat) (h o : Nat → Int) (j : Nat) : Int := offV n (sm h n) (sm o n) (sXX h n) (sXY h o n) (h j)
theorem resCode_f {n : Nat} {h o : Nat → Int} (hv : rdV n h o = true) : codeF n (sm h n) (sm o n) (sXX h n) (sXY h o n) = resCode n h o := by
  rw [codeF, if_pos (vF_of (rb_of hv)), resCode, if_pos hv]
end Go.Proofs.Ytaalceckofgbhaa

namespace Go.Proofs.Ytaalceckofgbhaa
open Go.RowKit
set_option linter.unusedVariables false
set_option linter.unusedSimpArgs false

def resFn (n : Nat) (h o : Nat → Int) (j : Nat) : Int := IntKind.i64.wrap (o j - lineAt n h o j)
def resRes (n : Nat) (h o : Nat → Int) : List Int := if resCode n h o = 0 then outs (resFn n h o) n else []
theorem resRes_len (n : Nat) (h o : Nat → Int) : (resRes n h o).length ≤ n := by
  unfold resRes; split
  · rw [outs_len]; omega
  · simp
end Go.Proofs.Ytaalceckofgbhaa

namespace Go.Proofs.Ytaalceckofgbhaa
open Go.RowKit
set_option linter.unusedVariables false
set_option linter.unusedSimpArgs false

end Go.Proofs.Ytaalceckofgbhaa

namespace Go.Proofs.Ytaalceckofgbhaa
open Go.RowKit
set_option linter.unusedVariables false
set_option linter.unusedSimpArgs false

end Go.Proofs.Ytaalceckofgbhaa

namespace Go.Proofs.Ytaalceckofgbhaa
open Go.RowKit
set_option linter.unusedVariables false
theorem sm_add (f g : Nat → Int) (k : Nat) : sm (fun i => f i + g i) k = sm f k + sm g k := by
  induction k with
  | zero => simp [sm]
  | succ k ih => simp only [sm, ih]; omega
theorem sm_sub (f g : Nat → Int) (k : Nat) : sm (fun i => f i - g i) k = sm f k - sm g k := by
  induction k with
  | zero => simp [sm]
  | succ k ih => simp only [sm, ih]; omega
theorem sm_mulr (f : Nat → Int) (c : Int) (k : Nat) : sm (fun i => f i * c) k = sm f k * c := by
  induction k with
  | zero => simp [sm]
  | succ k ih => simp only [sm, ih, Int.add_mul]
theorem sm_const (c : Int) (k : Nat) : sm (fun _ => c) k = (k : Int) * c := by
  induction k with
  | zero => simp [sm]
  | succ k ih => simp only [sm, ih]; rw [Int.natCast_add, Int.add_mul]; simp
theorem sm_congr {f g : Nat → Int} {k : Nat} (h : ∀ j, j < k → f j = g j) : sm f k = sm g k := by
  induction k with
  | zero => rfl
  | succ k ih => simp only [sm]; rw [ih (fun j hj => h j (by omega)), h k (by omega)]
theorem sm_le {f g : Nat → Int} {k : Nat} (h : ∀ j, j < k → f j ≤ g j) : sm f k ≤ sm g k := by
  induction k with
  | zero => exact Int.le_refl _
  | succ k ih => simp only [sm]; have := ih (fun j hj => h j (by omega)); have := h k (by omega); omega
/-- the terms of the fitted line -/
def lnA (n : Nat) (h o : Nat → Int) (hr : Int) : Int := sm o n * slD n (sm h n) (sm o n) (sXX h n) (sXY h o n) + slN n (sm h n) (sm o n) (sXX h n) (sXY h o n) * (hr * n - sm h n)
def lnE (n : Nat) (h o : Nat → Int) : Int := n * slD n (sm h n) (sm o n) (sXX h n) (sXY h o n)
theorem lineAt_eq (n : Nat) (h o : Nat → Int) (j : Nat) : lineAt n h o j = nearD (lnA n h o (h j)) (lnE n h o) := rfl
theorem lnA_sum (n : Nat) (h o : Nat → Int) : sm (fun j => lnA n h o (h j)) n = lnE n h o * sm o n := by
  unfold lnA lnE
  generalize slD (n : Int) (sm h n) (sm o n) (sXX h n) (sXY h o n) = D
  generalize slN (n : Int) (sm h n) (sm o n) (sXX h n) (sXY h o n) = N
  have e1 : (fun j => sm o n * D + N * (h j * (n : Int) - sm h n)) = (fun j => (sm o n * D - N * sm h n) + h j * ((n : Int) * N)) := by
    funext j; grind
  rw [e1, sm_add, sm_const, sm_mulr]; grind
/-- the sum of what is left -/
theorem res_sum (n : Nat) (h o : Nat → Int) (hE : 0 < lnE n h o) : 2 * (sm (fun j => o j - lineAt n h o j) n) ≤ n ∧ -(n : Int) ≤ 2 * (sm (fun j => o j - lineAt n h o j) n) := by
  rw [sm_sub]
  have hs := lnA_sum n h o
  obtain ⟨E, hEe⟩ : ∃ E, E = lnE n h o := ⟨_, rfl⟩
  rw [← hEe] at hs hE
  have hb : ∀ j, 2 * (lineAt n h o j * E - lnA n h o (h j)) ≤ E ∧ 2 * (lnA n h o (h j) - lineAt n h o j * E) < E := fun j => by
    rw [lineAt_eq, ← hEe]; exact nearD_bd hE
  have a1 := sm_le (k := n) (f := fun j => lineAt n h o j * (2 * E)) (g := fun j => lnA n h o (h j) * 2 + E) (fun j _ => by have := (hb j).1; grind)
  have a2 := sm_le (k := n) (f := fun j => lnA n h o (h j) * 2) (g := fun j => lineAt n h o j * (2 * E) + E) (fun j _ => by have := (hb j).2; grind)
  rw [sm_mulr, sm_add, sm_mulr, sm_const, hs] at a1
  rw [sm_add, sm_mulr, sm_mulr, sm_const, hs] at a2
  generalize sm (lineAt n h o) n = L at a1 a2 ⊢
  have e1 : sm (fun j => lineAt n h o j) n = sm (lineAt n h o) n := rfl
  generalize sm o n = S at a1 a2 ⊢
  have b1 : E * (2 * (L - S)) ≤ E * n := by grind
  have b2 : E * (2 * (S - L)) ≤ E * n := by grind
  have c1 := Int.le_of_mul_le_mul_left b1 hE
  have c2 := Int.le_of_mul_le_mul_left b2 hE
  omega
theorem wrap_add (a b : Int) : wrap64 (wrap64 a + b) = wrap64 (a + b) := by
  unfold wrap64; omega
end Go.Proofs.Ytaalceckofgbhaa

namespace Go.Proofs.Ytaalceckofgbhaa
open Go.RowKit
set_option linter.unusedVariables false
set_option linter.unusedSimpArgs false

set_option maxHeartbeats 400000 in
theorem f6same_c (aa ab : Option Addr) (n m ca cb : Nat) (f g : Nat → Int) (w : World) (hn : n ≤ 1048576) (hm : m ≤ 1048576) (ha : S1 w aa n f) (hb : S1 w ab m g) :
    Calls Try.prog 8 #[.slice aa n ca, .slice ab m cb] w fun e w' => e = .returned (.bool (n == m && eq1To f g n)) ∧ Ext w w' := by
  have HA := Lib.hid ha
  have HB := Lib.hid hb
  clear ha hb
  by_cases hnm : n = m
  · subst hnm
    go_enter Try.func8, Try.ntmps8
    go_wp2_with fail
    go_loopw [5] (fun i wr => ∃ k : Nat, k ≤ n ∧ i = .int .i64 k ∧ Ext w wr ∧ eq1To f g k = true) (fun i _ => n - (intOf i).toNat)
    case atStart => exact ⟨0, by omega, rfl, Ext.refl _, rfl⟩
    case round =>
      obtain ⟨k, hk, rfl, hbl, heq⟩ := hrel
      have HE := Lib.hid heq
      clear heq
      by_cases hlt : k < n
      · obtain ⟨b1, o1, rfl, hb1, q1⟩ := (S1.ext HA.out hbl).at hlt
        obtain ⟨b2, o2, rfl, hb2, q3⟩ := (S1.ext HB.out hbl).at hlt
        by_cases hne : f k = g k
        · have hb0 : (f k != g k) = false := by simpa using hne
          have HN := Lib.hid hne
          clear hne
          go_wp2_with fail
          refine wp_region_past (by kernel_rfl) (by kernel_rfl) ?_
          repeat (go_big_quiet_step (fail))
          refine wpQuiet_nil ?_
          rintro _ ⟨wx, rfl⟩
          go_wp2_with fail
          exact ⟨⟨k + 1, by omega, by go_num, (by repeat (first | with_reducible exact Ext.refl _ | with_reducible assumption | with_reducible refine Ext.alloc ?_ _ | with_reducible refine Ext.drew ?_ | (with_reducible refine Ext.setAt ?_ _ _ _ ?_; rotate_left; omega) | with_reducible refine Ext.trans ?_ (by assumption) | with_reducible exact Past.bel _ | with_reducible refine Ext.trans ?_ (Past.bel _))), by simp [eq1To, HE.out, HN.out]⟩, by simp [intOf]; omega⟩
        · have hb0 : (f k != g k) = true := by simpa using hne
          have HN := Lib.hid hne
          clear hne
          go_wp2_with fail
          refine wp_region_past (by kernel_rfl) (by kernel_rfl) ?_
          repeat (go_big_quiet_step (fail))
          refine wpQuiet_nil ?_
          rintro _ ⟨wx, rfl⟩
          go_wp2_with fail
          go_ret
          exact ⟨ret_bool (by rw [eq1To_ff hlt HN.out]; simp), (by repeat (first | with_reducible exact Ext.refl _ | with_reducible assumption | with_reducible refine Ext.alloc ?_ _ | with_reducible refine Ext.drew ?_ | (with_reducible refine Ext.setAt ?_ _ _ _ ?_; rotate_left; omega) | with_reducible refine Ext.trans ?_ (by assumption) | with_reducible exact Past.bel _ | with_reducible refine Ext.trans ?_ (Past.bel _)))⟩
      · obtain rfl : k = n := by omega
        go_wp2_with fail
        go_ret
        exact ⟨ret_bool (by simp [HE.out]), hbl⟩
  · have hne : ((n : Int) != (m : Int)) = true := by simp; omega
    go_enter Try.func8, Try.ntmps8
    go_wp2_with fail
    go_ret
    exact ⟨ret_bool (by simp [hnm]), Ext.refl _⟩
theorem f6same_self (aa ab : Option Addr) (n ca cb : Nat) (f : Nat → Int) (w : World) (hn : n ≤ 1048576) (ha : S1 w aa n f) (hb : S1 w ab n f) :
    Calls Try.prog 8 #[.slice aa n ca, .slice ab n cb] w fun e w' => e = .returned (.bool true) ∧ Ext w w' :=
  (f6same_c aa ab n n ca cb f f w hn hn ha hb).mono fun e w' ⟨he, hx⟩ => ⟨by rw [he, eq1To_self]; simp, hx⟩
theorem outs_getD (F : Nat → Int) (N : Nat) : ∀ j, j < N → (outs F N).getD j 0 = F j := by
  induction N with
  | zero => intro j h; omega
  | succ N ih =>
    intro j hj
    simp only [outs, List.getD, List.getElem?_append, outs_len]
    by_cases e : j < N
    · rw [if_pos e]; exact ih j e
    · have e2 : j = N := by omega
      subst e2
      rw [if_neg e]; simp
theorem absI_near2 {q p mo : Int} (h1 : 2 * (q * p - mo) ≤ p) (h2 : 2 * (mo - q * p) < p) : 2 * absI (q * p - mo) ≤ p := by unfold absI; split <;> omega
end Go.Proofs.Ytaalceckofgbhaa
