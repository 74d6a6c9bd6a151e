/- Torques along a train: the program and the reference. PullAlong: the program and the reference. LeastPull: the reference. sort.Search, walked by hand, with a predicate that makes new memory; the predicate of LeastPull. The predicate of LeastPull: a region that draws its order, walked by hand (what is held of the world grows behind the call). LeastPull: the program's. A jump between two levels is the best change. No program in sight. Lists of pairs that a law makes. Springs: what the small functions return. Springs: the torque at a position. Springs: the torque at a position, the reference. Springs: valid ones. The draws of springs: where a draw stands. The draw of a valid spring. The draw of a spring that is seldom not valid. The draw of a position of a spring. PullAt. EnergyBetween. RunningTime: the program. RunningTime: the reference. WeightFor. -/
import Derived.Test.YtaalceckofgbhaaBb
import Derived.Deep.RegionHeld3
import Derived.Deep.AppendLies
import Derived.Test.YtaalceckofgbhaaBa

namespace Go.Proofs.Ytaalceckofgbhaa
open Go.RowKit
set_option linter.unusedVariables false
set_option linter.unusedSimpArgs false

/-- what l13Along, pullAlong return -/
def postAl (w : World) (n : Nat) (F : Nat → Int) (e : Ending) (w' : World) : Prop := ∃ b cap, e = .returned (.slice b (n + 1) cap) ∧ Ext w w' ∧ S1 w' b (n + 1) F
theorem own_outs1 {w : World} {base : Nat} {T : TypeId} {a : Option Addr} {cap n : Nat} {F : Nat → Int} (h : w.ownsRow base T 1 (.slice a n cap) n ((outs F n).map (Value.int .i64))) : S1 w a n F := fun hn => by
  obtain ⟨b, o, ha, hb, hc⟩ := own_s1 h hn
  refine ⟨b, o, ha, hb, fun j hj => ?_⟩
  have := hc j hj
  dsimp only at this
  rw [outs_getD F n j hj] at this
  exact this
theorem own_one (w : World) (p : Int) (F : Nat → Int) (hF : F 0 = p) : (w.alloc (.cells #[.int .i64 p] 2)).ownsRow w.heap.size 2 1 (.slice (some ⟨w.heap.size, 0, none⟩) 1 1) (0 + 1) ((outs F (0 + 1)).map (Value.int .i64)) := by
  subst hF
  exact ⟨rfl, .inr ⟨w.heap.size, 1, _, rfl, Nat.le_refl _, heap_alloc_new w _, Nat.le_refl _, by decide, rfl, rfl⟩⟩
set_option maxHeartbeats 2000000 in
theorem l13Along_c (a : Option Addr) (n c : Nat) (h o : Nat → Int) (p l : Int) (w : World) (ht : trTo h o n = true) (hn : n ≤ 5) (hp : 0 ≤ p) (hp' : p ≤ 1000000) (hl : 0 ≤ l) (hl' : l ≤ 1000) (hs : S2 w a n h o) :
    Calls Try.prog 24 #[.slice a n c, .int .i64 p, .int .i64 l] w (postAl w n (plk h o p l)) := by
  have HS := Lib.hid hs
  have HT := Lib.hid ht
  clear hs ht
  obtain ⟨i0, hi, hz0, hz1, hz2⟩ := info_parts info_i64
  go_enter Try.func24, Try.ntmps24
  go_wp2_with fail
  go_loopw [1, 7, 8] (fun v1 v7 v8 wr => ∃ j : Nat, j ≤ n ∧ v8 = .int .i64 j ∧ v1 = .int .i64 (plk h o p l j) ∧ Ext w wr ∧ wr.ownsRow w.heap.size 2 1 v7 (j + 1) ((outs (plk h o p l) (j + 1)).map (Value.int .i64))) (fun _ _ i _ => n - (intOf i).toNat)
  case atStart => exact ⟨0, by omega, rfl, rfl, (by repeat (first | with_reducible exact Ext.refl _ | with_reducible assumption | with_reducible refine Ext.alloc ?_ _ | with_reducible refine Ext.drew ?_ | (with_reducible refine Ext.setAt ?_ _ _ _ ?_; rotate_left; omega) | with_reducible refine Ext.trans ?_ (by assumption) | with_reducible exact Past.bel _ | with_reducible refine Ext.trans ?_ (Past.bel _))), own_one w p (plk h o p l) rfl⟩
  case round =>
    obtain ⟨j, hj, rfl, rfl, hbl, ho⟩ := hrel
    have HO := Lib.hid ho
    clear ho
    by_cases hlt : j < n
    · obtain ⟨b1, o1, rfl, hb1, q3, q4⟩ := (HS.out.ext hbl).at hlt
      obtain ⟨⟨a0, a1⟩, b0, b1'⟩ := trTo_at HT.out hlt
      have hq := plk_bd5 HT.out hn hl hl' hp hp' hlt
      have hF : stp l (h j) (o j) (plk h o p l j) = plk h o p l (j + 1) := rfl
      obtain ⟨A, hA⟩ : ∃ A, A = h j := ⟨_, rfl⟩
      obtain ⟨B, hB⟩ : ∃ A, A = o j := ⟨_, rfl⟩
      obtain ⟨Q, hQ⟩ : ∃ A, A = plk h o p l j := ⟨_, rfl⟩
      rw [← hA] at a0 a1 q3 hF
      rw [← hB] at b0 b1' q4 hF
      rw [← hQ] at hq hF ⊢
      obtain ⟨⟨m0, m1⟩, ⟨d0, d1⟩, ⟨e0, e1⟩, s0, s1⟩ := stp_bd a0 a1 b0 b1' hl hl' hq.1 hq.2
      have t1 : (Q * B).tdiv A = Q * B / A := Int.tdiv_eq_ediv_of_nonneg m0
      have t2 : (Q * B / A * (1000 - l)).tdiv 1000 = Q * B / A * (1000 - l) / 1000 := Int.tdiv_eq_ediv_of_nonneg e0
      have hF2 : Q * B / A * (1000 - l) / 1000 = plk h o p l (j + 1) := hF
      obtain ⟨D, hD⟩ : ∃ D, D = Q * B / A := ⟨_, rfl⟩
      rw [← hD] at t1 t2 d0 d1 e0 e1 hF2
      rw [hF2] at t2
      rw [hF] at s0 s1
      have HF := Lib.hid hF2
      have hz : (A == 0) = false := by simp; omega
      have hb2 : b1 < wr.heap.size + 1 := by omega
      clear hA hB hQ hD hF hF2
      go_wp2_with fail
      refine wp_region_past (by kernel_rfl) (by kernel_rfl) ?_
      repeat (go_big_quiet_step (fail))
      refine wpQuiet_nil ?_
      rintro _ ⟨wx, rfl⟩
      go_wp2_with (at_builtin; refine app1 (w0 := w) 27 2 _ _ rfl rfl Try.underlying27 info_i64 _ (outs (plk h o p l) (j + 1)) (plk h o p l (j + 1)) _ rfl rfl (own_ext (outs_own HO.out) (by repeat (first | with_reducible exact Ext.refl _ | with_reducible assumption | with_reducible refine Ext.alloc ?_ _ | with_reducible refine Ext.drew ?_ | (with_reducible refine Ext.setAt ?_ _ _ _ ?_; rotate_left; omega) | with_reducible refine Ext.trans ?_ (by assumption) | with_reducible exact Past.bel _ | with_reducible refine Ext.trans ?_ (Past.bel _)))) (by simp [go_sem]) (by rw [outs_len]; omega) (by repeat (first | with_reducible exact Ext.refl _ | with_reducible assumption | with_reducible refine Ext.alloc ?_ _ | with_reducible refine Ext.drew ?_ | (with_reducible refine Ext.setAt ?_ _ _ _ ?_; rotate_left; omega) | with_reducible refine Ext.trans ?_ (by assumption) | with_reducible exact Past.bel _ | with_reducible refine Ext.trans ?_ (Past.bel _))) ?_; intro v1 w1 ho1 hx1)
      exact ⟨⟨j + 1, by omega, by go_num, rfl, (by repeat (first | with_reducible exact Ext.refl _ | with_reducible assumption | with_reducible refine Ext.alloc ?_ _ | with_reducible refine Ext.drew ?_ | (with_reducible refine Ext.setAt ?_ _ _ _ ?_; rotate_left; omega) | with_reducible refine Ext.trans ?_ (by assumption) | with_reducible exact Past.bel _ | with_reducible refine Ext.trans ?_ (Past.bel _))), by rw [← outs_step]; simpa [outs_len] using ho1⟩, by simp [intOf]; omega⟩
    · obtain rfl : j = n := by omega
      obtain ⟨b, cap, rfl⟩ := own_form HO.out
      go_wp2_with fail
      go_ret
      exact ⟨b, cap, rfl, (by repeat (first | with_reducible exact Ext.refl _ | with_reducible assumption | with_reducible refine Ext.alloc ?_ _ | with_reducible refine Ext.drew ?_ | (with_reducible refine Ext.setAt ?_ _ _ _ ?_; rotate_left; omega) | with_reducible refine Ext.trans ?_ (by assumption) | with_reducible exact Past.bel _ | with_reducible refine Ext.trans ?_ (Past.bel _))), own_outs1 HO.out⟩
set_option maxHeartbeats 2000000 in
theorem pullAlong_c (a : Option Addr) (n c : Nat) (h o : Nat → Int) (p l : Int) (w : World) (ht : trTo h o n = true) (hn : n ≤ 5) (hp : 0 ≤ p) (hp' : p ≤ 1000000) (hl : 0 ≤ l) (hl' : l ≤ 1000) (hs : S2 w a n h o) :
    Calls Try.prog 21 #[.slice a n c, .int .i64 p, .int .i64 l] w (postAl w n (plk h o p l)) := by
  have HS := Lib.hid hs
  have HT := Lib.hid ht
  clear hs ht
  obtain ⟨i0, hi, hz0, hz1, hz2⟩ := info_parts info_i64
  go_enter Try.func21, Try.ntmps21
  go_wp2_with fail
  go_loopw [1, 7, 14] (fun v1 v7 v8 wr => ∃ j : Nat, j ≤ n ∧ v8 = .int .i64 j ∧ v1 = .int .i64 (plk h o p l j) ∧ Ext w wr ∧ wr.ownsRow w.heap.size 2 1 v7 (j + 1) ((outs (plk h o p l) (j + 1)).map (Value.int .i64))) (fun _ _ i _ => n - (intOf i).toNat)
  case atStart => exact ⟨0, by omega, rfl, rfl, (by repeat (first | with_reducible exact Ext.refl _ | with_reducible assumption | with_reducible refine Ext.alloc ?_ _ | with_reducible refine Ext.drew ?_ | (with_reducible refine Ext.setAt ?_ _ _ _ ?_; rotate_left; omega) | with_reducible refine Ext.trans ?_ (by assumption) | with_reducible exact Past.bel _ | with_reducible refine Ext.trans ?_ (Past.bel _))), own_one w p (plk h o p l) rfl⟩
  case round =>
    obtain ⟨j, hj, rfl, rfl, hbl, ho⟩ := hrel
    have HO := Lib.hid ho
    clear ho
    by_cases hlt : j < n
    · obtain ⟨b1, o1, rfl, hb1, q3, q4⟩ := (HS.out.ext hbl).at hlt
      obtain ⟨⟨a0, a1⟩, b0, b1'⟩ := trTo_at HT.out hlt
      have hq := plk_bd5 HT.out hn hl hl' hp hp' hlt
      have hF : stp l (h j) (o j) (plk h o p l j) = plk h o p l (j + 1) := rfl
      obtain ⟨A, hA⟩ : ∃ A, A = h j := ⟨_, rfl⟩
      obtain ⟨B, hB⟩ : ∃ A, A = o j := ⟨_, rfl⟩
      obtain ⟨Q, hQ⟩ : ∃ A, A = plk h o p l j := ⟨_, rfl⟩
      rw [← hA] at a0 a1 q3 hF
      rw [← hB] at b0 b1' q4 hF
      rw [← hQ] at hq hF ⊢
      obtain ⟨⟨m0, m1⟩, ⟨d0, d1⟩, ⟨e0, e1⟩, s0, s1⟩ := stp_bd a0 a1 b0 b1' hl hl' hq.1 hq.2
      have t1 : (Q * B).tdiv A = Q * B / A := Int.tdiv_eq_ediv_of_nonneg m0
      have t2 : (Q * B / A * (1000 - l)).tdiv 1000 = Q * B / A * (1000 - l) / 1000 := Int.tdiv_eq_ediv_of_nonneg e0
      have hF2 : Q * B / A * (1000 - l) / 1000 = plk h o p l (j + 1) := hF
      obtain ⟨D, hD⟩ : ∃ D, D = Q * B / A := ⟨_, rfl⟩
      rw [← hD] at t1 t2 d0 d1 e0 e1 hF2
      rw [hF2] at t2
      rw [hF] at s0 s1
      have HF := Lib.hid hF2
      have hz : (A == 0) = false := by simp; omega
      have hb2 : b1 < wr.heap.size + 1 := by omega
      clear hA hB hQ hD hF hF2
      go_wp2_with (at_builtin; refine app1 (w0 := w) 27 2 _ _ rfl rfl Try.underlying27 info_i64 _ (outs (plk h o p l) (j + 1)) (plk h o p l (j + 1)) _ rfl rfl (own_ext (outs_own HO.out) (by repeat (first | with_reducible exact Ext.refl _ | with_reducible assumption | with_reducible refine Ext.alloc ?_ _ | with_reducible refine Ext.drew ?_ | (with_reducible refine Ext.setAt ?_ _ _ _ ?_; rotate_left; omega) | with_reducible refine Ext.trans ?_ (by assumption) | with_reducible exact Past.bel _ | with_reducible refine Ext.trans ?_ (Past.bel _)))) (by simp [go_sem]) (by rw [outs_len]; omega) (by repeat (first | with_reducible exact Ext.refl _ | with_reducible assumption | with_reducible refine Ext.alloc ?_ _ | with_reducible refine Ext.drew ?_ | (with_reducible refine Ext.setAt ?_ _ _ _ ?_; rotate_left; omega) | with_reducible refine Ext.trans ?_ (by assumption) | with_reducible exact Past.bel _ | with_reducible refine Ext.trans ?_ (Past.bel _))) ?_; intro v1 w1 ho1 hx1)
      exact ⟨⟨j + 1, by omega, by go_num, rfl, (by repeat (first | with_reducible exact Ext.refl _ | with_reducible assumption | with_reducible refine Ext.alloc ?_ _ | with_reducible refine Ext.drew ?_ | (with_reducible refine Ext.setAt ?_ _ _ _ ?_; rotate_left; omega) | with_reducible refine Ext.trans ?_ (by assumption) | with_reducible exact Past.bel _ | with_reducible refine Ext.trans ?_ (Past.bel _))), by rw [← outs_step]; simpa [outs_len] using ho1⟩, by simp [intOf]; omega⟩
    · obtain rfl : j = n := by omega
      obtain ⟨b, cap, rfl⟩ := own_form HO.out
      go_wp2_with fail
      go_ret
      exact ⟨b, cap, rfl, (by repeat (first | with_reducible exact Ext.refl _ | with_reducible assumption | with_reducible refine Ext.alloc ?_ _ | with_reducible refine Ext.drew ?_ | (with_reducible refine Ext.setAt ?_ _ _ _ ?_; rotate_left; omega) | with_reducible refine Ext.trans ?_ (by assumption) | with_reducible exact Past.bel _ | with_reducible refine Ext.trans ?_ (Past.bel _))), own_outs1 HO.out⟩
end Go.Proofs.Ytaalceckofgbhaa

namespace Go.Proofs.Ytaalceckofgbhaa
open Go.RowKit
set_option linter.unusedVariables false
set_option linter.unusedSimpArgs false

/-- what PullAlong returns -/
def postPA (w : World) (n : Nat) (h o : Nat → Int) (p l : Int) (e : Ending) (w' : World) : Prop :=
  ∃ b cap, e = .returned (.tuple #[.slice b (alN n h o p l) cap, .int .i64 (alC n h o p l)]) ∧ Ext w w' ∧ S1 w' b (alN n h o p l) (plk h o p l)
theorem al_nil {w w' : World} {n : Nat} {h o : Nat → Int} {p l C : Int} (hx : Ext w w') (hc : alC n h o p l = C) (hn : alN n h o p l = 0) : postPA w n h o p l (.returned (.tuple #[.slice none 0 0, .int .i64 C])) w' :=
  ⟨none, 0, by rw [hc, hn], hx, by rw [hn]; exact fun h0 => absurd h0 (Nat.lt_irrefl 0)⟩
set_option maxHeartbeats 1000000 in
theorem implPullAlong_c (a : Option Addr) (n c : Nat) (h o : Nat → Int) (p l : Int) (w : World) (hn : n ≤ 1048576) (hs : S2 w a n h o) :
    Calls Try.prog 6 #[.slice a n c, .int .i64 p, .int .i64 l] w (postPA w n h o p l) := by
  have HS := Lib.hid hs
  clear hs
  cases h1 : trV n h o
  · go_enter Try.func6, Try.ntmps6
    go_wp2_with (go_at_call 18; ((with_reducible refine (validTrain_c _ _ _ _ _ _ hn HS.out).mono ?_); rintro e w' ⟨rfl, hx⟩; (first | (obtain ⟨wx, rfl⟩ := Past.again hx) | (obtain ⟨wx, rfl⟩ := Past.ofd hx) | (obtain ⟨wx, rfl⟩ := Past.of hx))))
    go_ret2
    exact al_nil (by repeat (first | with_reducible exact Ext.refl _ | with_reducible assumption | with_reducible refine Ext.alloc ?_ _ | with_reducible refine Ext.drew ?_ | (with_reducible refine Ext.setAt ?_ _ _ _ ?_; rotate_left; omega) | with_reducible refine Ext.trans ?_ (by assumption) | with_reducible exact Past.bel _ | with_reducible refine Ext.trans ?_ (Past.bel _))) (by rw [alC, h1]; rfl) (by rw [alN, h1]; rfl)
  · cases h2 : inB p 0 1000000
    · go_enter Try.func6, Try.ntmps6
      go_wp2_with (first | (go_at_call 18; ((with_reducible refine (validTrain_c _ _ _ _ _ _ hn HS.out).mono ?_); rintro e w' ⟨rfl, hx⟩; (first | (obtain ⟨wx, rfl⟩ := Past.again hx) | (obtain ⟨wx, rfl⟩ := Past.ofd hx) | (obtain ⟨wx, rfl⟩ := Past.of hx)))) | (go_at_call 19; ((with_reducible refine (isPullP_c _ _).mono ?_); rintro e w' ⟨rfl, rfl⟩)) | (go_at_call 20; ((with_reducible refine (within_c _ _ _ _).mono ?_); rintro e w' ⟨rfl, rfl⟩)))
      go_ret2
      exact al_nil (by repeat (first | with_reducible exact Ext.refl _ | with_reducible assumption | with_reducible refine Ext.alloc ?_ _ | with_reducible refine Ext.drew ?_ | (with_reducible refine Ext.setAt ?_ _ _ _ ?_; rotate_left; omega) | with_reducible refine Ext.trans ?_ (by assumption) | with_reducible exact Past.bel _ | with_reducible refine Ext.trans ?_ (Past.bel _))) (by rw [alC, h1, h2]; rfl) (by rw [alN, h1, h2]; rfl)
    · cases h3 : inB l 0 1000
      · go_enter Try.func6, Try.ntmps6
        go_wp2_with (first | (go_at_call 18; ((with_reducible refine (validTrain_c _ _ _ _ _ _ hn HS.out).mono ?_); rintro e w' ⟨rfl, hx⟩; (first | (obtain ⟨wx, rfl⟩ := Past.again hx) | (obtain ⟨wx, rfl⟩ := Past.ofd hx) | (obtain ⟨wx, rfl⟩ := Past.of hx)))) | (go_at_call 19; ((with_reducible refine (isPullP_c _ _).mono ?_); rintro e w' ⟨rfl, rfl⟩)) | (go_at_call 20; ((with_reducible refine (within_c _ _ _ _).mono ?_); rintro e w' ⟨rfl, rfl⟩)))
        go_ret2
        exact al_nil (by repeat (first | with_reducible exact Ext.refl _ | with_reducible assumption | with_reducible refine Ext.alloc ?_ _ | with_reducible refine Ext.drew ?_ | (with_reducible refine Ext.setAt ?_ _ _ _ ?_; rotate_left; omega) | with_reducible refine Ext.trans ?_ (by assumption) | with_reducible exact Past.bel _ | with_reducible refine Ext.trans ?_ (Past.bel _))) (by rw [alC, h1, h2, h3]; rfl) (by rw [alN, h1, h2, h3]; rfl)
      · have hv := trV_to h1
        have hp := inB_t.1 h2
        have hl := inB_t.1 h3
        have HC := Lib.hid (al_is h1 hp.1 hp.2 hl.1 hl.2)
        go_enter Try.func6, Try.ntmps6
        go_wp2_with (first | (go_at_call 18; ((with_reducible refine (validTrain_c _ _ _ _ _ _ hn HS.out).mono ?_); rintro e w' ⟨rfl, hx⟩; (first | (obtain ⟨wx, rfl⟩ := Past.again hx) | (obtain ⟨wx, rfl⟩ := Past.ofd hx) | (obtain ⟨wx, rfl⟩ := Past.of hx)))) | (go_at_call 19; ((with_reducible refine (isPullP_c _ _).mono ?_); rintro e w' ⟨rfl, rfl⟩)) | (go_at_call 20; ((with_reducible refine (within_c _ _ _ _).mono ?_); rintro e w' ⟨rfl, rfl⟩)))
        refine (pullAlong_c a n c h o p l _ hv.1 hv.2 hp.1 hp.2 hl.1 hl.2 (HS.out.ext (by repeat (first | with_reducible exact Ext.refl _ | with_reducible assumption | with_reducible refine Ext.alloc ?_ _ | with_reducible refine Ext.drew ?_ | (with_reducible refine Ext.setAt ?_ _ _ _ ?_; rotate_left; omega) | with_reducible refine Ext.trans ?_ (by assumption) | with_reducible exact Past.bel _ | with_reducible refine Ext.trans ?_ (Past.bel _))))).mono ?_
        rintro e w1 ⟨b, cap, rfl, hx1, hs1⟩
        have HS1 := Lib.hid hs1
        clear hs1
        go_wp2_with fail
        go_ret2
        exact ⟨b, cap, by rw [HC.out.1, HC.out.2]; rfl, (by repeat (first | with_reducible exact Ext.refl _ | with_reducible assumption | with_reducible refine Ext.alloc ?_ _ | with_reducible refine Ext.drew ?_ | (with_reducible refine Ext.setAt ?_ _ _ _ ?_; rotate_left; omega) | with_reducible refine Ext.trans ?_ (by assumption) | with_reducible exact Past.bel _ | with_reducible refine Ext.trans ?_ (Past.bel _))), by rw [HC.out.2]; exact HS1.out⟩
set_option maxHeartbeats 1000000 in
theorem specPullAlong_c (a : Option Addr) (n c : Nat) (h o : Nat → Int) (p l : Int) (w : World) (hn : n ≤ 1048576) (hs : S2 w a n h o) :
    Calls Try.prog 7 #[.slice a n c, .int .i64 p, .int .i64 l] w (postPA w n h o p l) := by
  have HS := Lib.hid hs
  clear hs
  cases h1 : trV n h o
  · go_enter Try.func7, Try.ntmps7
    go_wp2_with (go_at_call 22; ((with_reducible refine (l05Ok_c _ _ _ _ _ _ hn HS.out).mono ?_); rintro e w' ⟨rfl, hx⟩; (first | (obtain ⟨wx, rfl⟩ := Past.again hx) | (obtain ⟨wx, rfl⟩ := Past.ofd hx) | (obtain ⟨wx, rfl⟩ := Past.of hx))))
    go_ret2
    exact al_nil (by repeat (first | with_reducible exact Ext.refl _ | with_reducible assumption | with_reducible refine Ext.alloc ?_ _ | with_reducible refine Ext.drew ?_ | (with_reducible refine Ext.setAt ?_ _ _ _ ?_; rotate_left; omega) | with_reducible refine Ext.trans ?_ (by assumption) | with_reducible exact Past.bel _ | with_reducible refine Ext.trans ?_ (Past.bel _))) (by rw [alC, h1]; rfl) (by rw [alN, h1]; rfl)
  · cases h2 : inB p 0 1000000
    · go_enter Try.func7, Try.ntmps7
      go_wp2_with (first | (go_at_call 22; ((with_reducible refine (l05Ok_c _ _ _ _ _ _ hn HS.out).mono ?_); rintro e w' ⟨rfl, hx⟩; (first | (obtain ⟨wx, rfl⟩ := Past.again hx) | (obtain ⟨wx, rfl⟩ := Past.ofd hx) | (obtain ⟨wx, rfl⟩ := Past.of hx)))) | (go_at_call 23; ((with_reducible refine (l00In_c _ _ _ _).mono ?_); rintro e w' ⟨rfl, rfl⟩)) | (go_at_call 23; ((with_reducible refine (l00In_c _ _ _ _).mono ?_); rintro e w' ⟨rfl, rfl⟩)))
      go_ret2
      exact al_nil (by repeat (first | with_reducible exact Ext.refl _ | with_reducible assumption | with_reducible refine Ext.alloc ?_ _ | with_reducible refine Ext.drew ?_ | (with_reducible refine Ext.setAt ?_ _ _ _ ?_; rotate_left; omega) | with_reducible refine Ext.trans ?_ (by assumption) | with_reducible exact Past.bel _ | with_reducible refine Ext.trans ?_ (Past.bel _))) (by rw [alC, h1, h2]; rfl) (by rw [alN, h1, h2]; rfl)
    · cases h3 : inB l 0 1000
      · go_enter Try.func7, Try.ntmps7
        go_wp2_with (first | (go_at_call 22; ((with_reducible refine (l05Ok_c _ _ _ _ _ _ hn HS.out).mono ?_); rintro e w' ⟨rfl, hx⟩; (first | (obtain ⟨wx, rfl⟩ := Past.again hx) | (obtain ⟨wx, rfl⟩ := Past.ofd hx) | (obtain ⟨wx, rfl⟩ := Past.of hx)))) | (go_at_call 23; ((with_reducible refine (l00In_c _ _ _ _).mono ?_); rintro e w' ⟨rfl, rfl⟩)) | (go_at_call 23; ((with_reducible refine (l00In_c _ _ _ _).mono ?_); rintro e w' ⟨rfl, rfl⟩)))
        go_ret2
        exact al_nil (by repeat (first | with_reducible exact Ext.refl _ | with_reducible assumption | with_reducible refine Ext.alloc ?_ _ | with_reducible refine Ext.drew ?_ | (with_reducible refine Ext.setAt ?_ _ _ _ ?_; rotate_left; omega) | with_reducible refine Ext.trans ?_ (by assumption) | with_reducible exact Past.bel _ | with_reducible refine Ext.trans ?_ (Past.bel _))) (by rw [alC, h1, h2, h3]; rfl) (by rw [alN, h1, h2, h3]; rfl)
      · have hv := trV_to h1
        have hp := inB_t.1 h2
        have hl := inB_t.1 h3
        have HC := Lib.hid (al_is h1 hp.1 hp.2 hl.1 hl.2)
        go_enter Try.func7, Try.ntmps7
        go_wp2_with (first | (go_at_call 22; ((with_reducible refine (l05Ok_c _ _ _ _ _ _ hn HS.out).mono ?_); rintro e w' ⟨rfl, hx⟩; (first | (obtain ⟨wx, rfl⟩ := Past.again hx) | (obtain ⟨wx, rfl⟩ := Past.ofd hx) | (obtain ⟨wx, rfl⟩ := Past.of hx)))) | (go_at_call 23; ((with_reducible refine (l00In_c _ _ _ _).mono ?_); rintro e w' ⟨rfl, rfl⟩)) | (go_at_call 23; ((with_reducible refine (l00In_c _ _ _ _).mono ?_); rintro e w' ⟨rfl, rfl⟩)))
        refine (l13Along_c a n c h o p l _ hv.1 hv.2 hp.1 hp.2 hl.1 hl.2 (HS.out.ext (by repeat (first | with_reducible exact Ext.refl _ | with_reducible assumption | with_reducible refine Ext.alloc ?_ _ | with_reducible refine Ext.drew ?_ | (with_reducible refine Ext.setAt ?_ _ _ _ ?_; rotate_left; omega) | with_reducible refine Ext.trans ?_ (by assumption) | with_reducible exact Past.bel _ | with_reducible refine Ext.trans ?_ (Past.bel _))))).mono ?_
        rintro e w1 ⟨b, cap, rfl, hx1, hs1⟩
        have HS1 := Lib.hid hs1
        clear hs1
        go_wp2_with fail
        go_ret2
        exact ⟨b, cap, by rw [HC.out.1, HC.out.2]; rfl, (by repeat (first | with_reducible exact Ext.refl _ | with_reducible assumption | with_reducible refine Ext.alloc ?_ _ | with_reducible refine Ext.drew ?_ | (with_reducible refine Ext.setAt ?_ _ _ _ ?_; rotate_left; omega) | with_reducible refine Ext.trans ?_ (by assumption) | with_reducible exact Past.bel _ | with_reducible refine Ext.trans ?_ (Past.bel _))), by rw [HC.out.2]; exact HS1.out⟩
end Go.Proofs.Ytaalceckofgbhaa

namespace Go.Proofs.Ytaalceckofgbhaa
open Go.RowKit
set_option linter.unusedVariables false
set_option linter.unusedSimpArgs false

/-- what LeastPull returns -/
def postLP (w : World) (n : Nat) (h o : Nat → Int) (need l : Int) (e : Ending) (w' : World) : Prop :=
  ∃ v C : Int, e = .returned (.tuple #[.int .i64 v, .int .i64 C]) ∧ Ext w w' ∧ Lp n h o need l v C
theorem lp_bad {n : Nat} {h o : Nat → Int} {need l : Int} (h1 : trV n h o = false) : Lp n h o need l 0 1 :=
  ⟨fun _ => ⟨rfl, rfl⟩, fun q => by rw [h1] at q; exact absurd q (by decide), fun q => by rw [h1] at q; exact absurd q (by decide), fun q => by rw [h1] at q; exact absurd q (by decide)⟩
theorem lp_rng {n : Nat} {h o : Nat → Int} {need l : Int} (h1 : trV n h o = true) (h2 : (inB need 0 1000000 && inB l 0 1000) = false) : Lp n h o need l 0 2 :=
  ⟨fun q => by rw [h1] at q; exact absurd q (by decide), fun _ _ => ⟨rfl, rfl⟩, fun _ q => by rw [h2] at q; exact absurd q (by decide), fun _ q => by rw [h2] at q; exact absurd q (by decide)⟩
theorem lp_non {n : Nat} {h o : Nat → Int} {need l : Int} (h1 : trV n h o = true) (h2 : (inB need 0 1000000 && inB l 0 1000) = true) (h3 : plk h o 1000000 l n < need) : Lp n h o need l 0 3 :=
  ⟨fun q => by rw [h1] at q; exact absurd q (by decide), fun _ q => by rw [h2] at q; exact absurd q (by decide), fun _ _ _ => ⟨rfl, rfl⟩, fun _ _ q => absurd q (by omega)⟩
theorem lp_yes {n : Nat} {h o : Nat → Int} {need l v : Int} (h1 : trV n h o = true) (h2 : (inB need 0 1000000 && inB l 0 1000) = true) (h3 : 0 ≤ v) (h4 : v ≤ 1000000) (h5 : need ≤ plk h o v l n) (h6 : ∀ t, 0 ≤ t → t < v → plk h o t l n < need) : Lp n h o need l v 0 :=
  ⟨fun q => by rw [h1] at q; exact absurd q (by decide), fun _ q => by rw [h2] at q; exact absurd q (by decide), fun _ _ q => by
    have := plk_mono (trV_to h1).1 (by simp only [Bool.and_eq_true] at h2; exact (inB_t.1 h2.2).2) h4 n (Nat.le_refl n); omega, fun _ _ _ => ⟨rfl, h3, h4, h5, h6⟩⟩
set_option maxHeartbeats 2000000 in
theorem specLeastPull_c (a : Option Addr) (n c : Nat) (h o : Nat → Int) (need l : Int) (w : World) (hn : n ≤ 1048576) (hs : S2 w a n h o) :
    Calls Try.prog 13 #[.slice a n c, .int .i64 need, .int .i64 l] w (postLP w n h o need l) := by
  have HS := Lib.hid hs
  clear hs
  cases h1 : trV n h o
  · go_enter Try.func13, Try.ntmps13
    go_wp2_with (go_at_call 22; ((with_reducible refine (l05Ok_c _ _ _ _ _ _ hn HS.out).mono ?_); rintro e w' ⟨rfl, hx⟩; (first | (obtain ⟨wx, rfl⟩ := Past.again hx) | (obtain ⟨wx, rfl⟩ := Past.ofd hx) | (obtain ⟨wx, rfl⟩ := Past.of hx))))
    go_ret2
    exact ⟨0, 1, rfl, (by repeat (first | with_reducible exact Ext.refl _ | with_reducible assumption | with_reducible refine Ext.alloc ?_ _ | with_reducible refine Ext.drew ?_ | (with_reducible refine Ext.setAt ?_ _ _ _ ?_; rotate_left; omega) | with_reducible refine Ext.trans ?_ (by assumption) | with_reducible exact Past.bel _ | with_reducible refine Ext.trans ?_ (Past.bel _))), lp_bad h1⟩
  · cases h2 : inB need 0 1000000
    · go_enter Try.func13, Try.ntmps13
      go_wp2_with (first | (go_at_call 22; ((with_reducible refine (l05Ok_c _ _ _ _ _ _ hn HS.out).mono ?_); rintro e w' ⟨rfl, hx⟩; (first | (obtain ⟨wx, rfl⟩ := Past.again hx) | (obtain ⟨wx, rfl⟩ := Past.ofd hx) | (obtain ⟨wx, rfl⟩ := Past.of hx)))) | (go_at_call 23; ((with_reducible refine (l00In_c _ _ _ _).mono ?_); rintro e w' ⟨rfl, rfl⟩)))
      go_ret2
      exact ⟨0, 2, rfl, (by repeat (first | with_reducible exact Ext.refl _ | with_reducible assumption | with_reducible refine Ext.alloc ?_ _ | with_reducible refine Ext.drew ?_ | (with_reducible refine Ext.setAt ?_ _ _ _ ?_; rotate_left; omega) | with_reducible refine Ext.trans ?_ (by assumption) | with_reducible exact Past.bel _ | with_reducible refine Ext.trans ?_ (Past.bel _))), lp_rng h1 (by rw [h2]; rfl)⟩
    · cases h3 : inB l 0 1000
      · go_enter Try.func13, Try.ntmps13
        go_wp2_with (first | (go_at_call 22; ((with_reducible refine (l05Ok_c _ _ _ _ _ _ hn HS.out).mono ?_); rintro e w' ⟨rfl, hx⟩; (first | (obtain ⟨wx, rfl⟩ := Past.again hx) | (obtain ⟨wx, rfl⟩ := Past.ofd hx) | (obtain ⟨wx, rfl⟩ := Past.of hx)))) | (go_at_call 23; ((with_reducible refine (l00In_c _ _ _ _).mono ?_); rintro e w' ⟨rfl, rfl⟩)))
        go_ret2
        exact ⟨0, 2, rfl, (by repeat (first | with_reducible exact Ext.refl _ | with_reducible assumption | with_reducible refine Ext.alloc ?_ _ | with_reducible refine Ext.drew ?_ | (with_reducible refine Ext.setAt ?_ _ _ _ ?_; rotate_left; omega) | with_reducible refine Ext.trans ?_ (by assumption) | with_reducible exact Past.bel _ | with_reducible refine Ext.trans ?_ (Past.bel _))), lp_rng h1 (by rw [h2, h3]; rfl)⟩
      · have hv := trV_to h1
        have hp := inB_t.1 h2
        have hl := inB_t.1 h3
        have HR : RowKit.Hid ((inB need 0 1000000 && inB l 0 1000) = true) := Lib.hid (by rw [h2, h3]; rfl)
        have HAL := Lib.hid (fun (p : Int) (W : World) (h0 : 0 ≤ p) (h4 : p ≤ 1000000) (hq : S2 W a n h o) => l13Along_c a n c h o p l W hv.1 hv.2 h0 h4 hl.1 hl.2 hq)
        have H1 := Lib.hid h1
        go_enter Try.func13, Try.ntmps13
        go_wp2_with (first | (go_at_call 22; ((with_reducible refine (l05Ok_c _ _ _ _ _ _ hn HS.out).mono ?_); rintro e w' ⟨rfl, hx⟩; (first | (obtain ⟨wx, rfl⟩ := Past.again hx) | (obtain ⟨wx, rfl⟩ := Past.ofd hx) | (obtain ⟨wx, rfl⟩ := Past.of hx)))) | (go_at_call 23; ((with_reducible refine (l00In_c _ _ _ _).mono ?_); rintro e w' ⟨rfl, rfl⟩)))
        refine (HAL.out 1000000 _ (by decide) (by decide) (HS.out.ext (by repeat (first | with_reducible exact Ext.refl _ | with_reducible assumption | with_reducible refine Ext.alloc ?_ _ | with_reducible refine Ext.drew ?_ | (with_reducible refine Ext.setAt ?_ _ _ _ ?_; rotate_left; omega) | with_reducible refine Ext.trans ?_ (by assumption) | with_reducible exact Past.bel _ | with_reducible refine Ext.trans ?_ (Past.bel _))))).mono ?_
        rintro e w1 ⟨b, cap, rfl, hx1, hs1⟩
        obtain ⟨Q, hQ⟩ : ∃ Q, Q = plk h o 1000000 l n := ⟨_, rfl⟩
        obtain ⟨b1, o1, rfl, hb1, q1⟩ := hs1.at (show n < n + 1 by omega)
        rw [← hQ] at q1
        have HQ := Lib.hid hQ
        have x0 : (0 : Int) ≤ (n : Int) := by omega
        have x1 : (n : Int) < ((n + 1 : Nat) : Int) := by omega
        have hw1 : Ext w w1 := (by repeat (first | with_reducible exact Ext.refl _ | with_reducible assumption | with_reducible refine Ext.alloc ?_ _ | with_reducible refine Ext.drew ?_ | (with_reducible refine Ext.setAt ?_ _ _ _ ?_; rotate_left; omega) | with_reducible refine Ext.trans ?_ (by assumption) | with_reducible exact Past.bel _ | with_reducible refine Ext.trans ?_ (Past.bel _)))
        clear hs1 hQ h1 h2 h3
        by_cases hm : Q < need
        · go_wp2_with fail
          go_ret2
          exact ⟨0, 3, rfl, (by repeat (first | with_reducible exact Ext.refl _ | with_reducible assumption | with_reducible refine Ext.alloc ?_ _ | with_reducible refine Ext.drew ?_ | (with_reducible refine Ext.setAt ?_ _ _ _ ?_; rotate_left; omega) | with_reducible refine Ext.trans ?_ (by assumption) | with_reducible exact Past.bel _ | with_reducible refine Ext.trans ?_ (Past.bel _))), lp_non H1.out HR.out (by rw [← HQ.out]; exact hm)⟩
        · go_wp2_with fail
          clear q1
          go_loopw [8, 9] (fun v8 v9 wr => ∃ lo hi : Int, v8 = .int .i64 lo ∧ v9 = .int .i64 hi ∧ 0 ≤ lo ∧ lo ≤ hi ∧ hi ≤ 1000000 ∧ Ext w wr ∧ RowKit.Hid (need ≤ plk h o hi l n ∧ ∀ t, 0 ≤ t → t < lo → plk h o t l n < need)) (fun v8 v9 _ => (intOf v9 - intOf v8).toNat)
          case atStart => exact ⟨0, 1000000, rfl, rfl, by omega, by omega, by omega, (by repeat (first | with_reducible exact Ext.refl _ | with_reducible assumption | with_reducible refine Ext.alloc ?_ _ | with_reducible refine Ext.drew ?_ | (with_reducible refine Ext.setAt ?_ _ _ _ ?_; rotate_left; omega) | with_reducible refine Ext.trans ?_ (by assumption) | with_reducible exact Past.bel _ | with_reducible refine Ext.trans ?_ (Past.bel _))), Lib.hid ⟨by rw [← HQ.out]; omega, fun t h0 h4 => absurd h4 (by omega)⟩⟩
          case round =>
            obtain ⟨lo, hi, rfl, rfl, l0, l1, l2, hbl, HI⟩ := hrel
            by_cases hlt : lo < hi
            · obtain ⟨M, hM⟩ : ∃ M, M = (lo + hi) / 2 := ⟨_, rfl⟩
              have t1 : (lo + hi).tdiv 2 = M := by rw [hM]; exact Int.tdiv_eq_ediv_of_nonneg (by omega)
              have m0 : lo ≤ M := by omega
              have m1 : M < hi := by omega
              clear hM
              go_wp2_with fail
              refine (HAL.out M _ (by omega) (by omega) (HS.out.ext (by repeat (first | with_reducible exact Ext.refl _ | with_reducible assumption | with_reducible refine Ext.alloc ?_ _ | with_reducible refine Ext.drew ?_ | (with_reducible refine Ext.setAt ?_ _ _ _ ?_; rotate_left; omega) | with_reducible refine Ext.trans ?_ (by assumption) | with_reducible exact Past.bel _ | with_reducible refine Ext.trans ?_ (Past.bel _))))).mono ?_
              rintro e w2 ⟨b2, cap2, rfl, hx2, hs2⟩
              obtain ⟨R, hR⟩ : ∃ Q, Q = plk h o M l n := ⟨_, rfl⟩
              obtain ⟨b3, o3, rfl, hb3, q3⟩ := hs2.at (show n < n + 1 by omega)
              rw [← hR] at q3
              have HR2 := Lib.hid hR
              have hw2 : Ext w w2 := (by repeat (first | with_reducible exact Ext.refl _ | with_reducible assumption | with_reducible refine Ext.alloc ?_ _ | with_reducible refine Ext.drew ?_ | (with_reducible refine Ext.setAt ?_ _ _ _ ?_; rotate_left; omega) | with_reducible refine Ext.trans ?_ (by assumption) | with_reducible exact Past.bel _ | with_reducible refine Ext.trans ?_ (Past.bel _)))
              clear hs2 hR
              by_cases hge : need ≤ R
              · go_wp2_with fail
                exact ⟨⟨lo, M, rfl, by first | rfl | go_num, l0, m0, by omega, (by repeat (first | with_reducible exact Ext.refl _ | with_reducible assumption | with_reducible refine Ext.alloc ?_ _ | with_reducible refine Ext.drew ?_ | (with_reducible refine Ext.setAt ?_ _ _ _ ?_; rotate_left; omega) | with_reducible refine Ext.trans ?_ (by assumption) | with_reducible exact Past.bel _ | with_reducible refine Ext.trans ?_ (Past.bel _))), Lib.hid ⟨by rw [← HR2.out]; exact hge, HI.out.2⟩⟩, by simp [intOf]; omega⟩
              · go_wp2_with fail
                exact ⟨⟨M + 1, hi, by first | rfl | go_num, rfl, by omega, by omega, l2, (by repeat (first | with_reducible exact Ext.refl _ | with_reducible assumption | with_reducible refine Ext.alloc ?_ _ | with_reducible refine Ext.drew ?_ | (with_reducible refine Ext.setAt ?_ _ _ _ ?_; rotate_left; omega) | with_reducible refine Ext.trans ?_ (by assumption) | with_reducible exact Past.bel _ | with_reducible refine Ext.trans ?_ (Past.bel _))), Lib.hid ⟨HI.out.1, fun t h0 h4 => by
                  have h5 := plk_mono hv.1 hl.2 (show t ≤ M by omega) n (Nat.le_refl n)
                  have h6 := HR2.out
                  omega⟩⟩, by simp [intOf]; omega⟩
            · obtain rfl : lo = hi := by omega
              go_wp2_with fail
              go_ret2
              exact ⟨lo, 0, rfl, (by repeat (first | with_reducible exact Ext.refl _ | with_reducible assumption | with_reducible refine Ext.alloc ?_ _ | with_reducible refine Ext.drew ?_ | (with_reducible refine Ext.setAt ?_ _ _ _ ?_; rotate_left; omega) | with_reducible refine Ext.trans ?_ (by assumption) | with_reducible exact Past.bel _ | with_reducible refine Ext.trans ?_ (Past.bel _))), lp_yes H1.out HR.out l0 l2 HI.out.1 HI.out.2⟩
end Go.Proofs.Ytaalceckofgbhaa

namespace Go.Proofs.Ytaalceckofgbhaa
open Go.RowKit
set_option linter.unusedVariables false
set_option linter.unusedSimpArgs false

/-- what Search returns -/
def postSe (w : World) (N : Nat) (q : Nat → Bool) (e : Ending) (w' : World) : Prop := ∃ v : Nat, e = .returned (.int .i64 v) ∧ v ≤ N ∧ (∀ t, t < v → q t = false) ∧ (v < N → q v = true) ∧ Ext w w'
set_option maxHeartbeats 1000000 in
theorem search_c (cb : Array Value) (N : Nat) (q : Nat → Bool) (w : World) (hN : N ≤ 1000001)
    (hf : ∀ i, i < N → ∀ W, Ext w W → Calls Try.prog 28 (#[.int .i64 i] ++ cb) W fun e w' => e = .returned (.bool (q i)) ∧ Ext W w')
    (hm : ∀ a b, a ≤ b → b < N → q a = true → q b = true) :
    Calls Try.prog 27 #[.int .i64 N, .func (.func 28) #[] cb] w (postSe w N q) := by
  have HF := Lib.hid hf
  have HM := Lib.hid hm
  clear hf hm
  go_enter Try.func27, Try.ntmps27
  go_wp2_with fail
  go_loopw [5, 6] (fun v5 v6 wr => ∃ lo hi : Nat, v5 = .int .i64 lo ∧ v6 = .int .i64 hi ∧ lo ≤ hi ∧ hi ≤ N ∧ Ext w wr ∧ RowKit.Hid ((∀ t, t < lo → q t = false) ∧ (hi < N → q hi = true))) (fun v5 v6 _ => (intOf v6 - intOf v5).toNat)
  case atStart => exact ⟨0, N, rfl, rfl, by omega, by omega, (by repeat (first | with_reducible exact Ext.refl _ | with_reducible assumption | with_reducible refine Ext.alloc ?_ _ | with_reducible refine Ext.drew ?_ | (with_reducible refine Ext.setAt ?_ _ _ _ ?_; rotate_left; omega) | with_reducible refine Ext.trans ?_ (by assumption) | with_reducible exact Past.bel _ | with_reducible refine Ext.trans ?_ (Past.bel _))), Lib.hid ⟨fun t h0 => absurd h0 (by omega), fun h0 => absurd h0 (by omega)⟩⟩
  case round =>
    obtain ⟨lo, hi, rfl, rfl, l1, l2, hbl, HI⟩ := hrel
    by_cases hlt : lo < hi
    · have hc := HF.out ((lo + hi) / 2) (by omega) wr hbl
      rw [show (((lo + hi) / 2 : Nat) : Int) = ((lo : Int) + (hi : Int)) / 2 by omega] at hc
      cases hp : q ((lo + hi) / 2) <;> rw [hp] at hc
      · have HP := Lib.hid hp
        clear hp
        go_wp2_with (go_at_call 28; refine hc.mono ?_; rintro e w' ⟨rfl, hx⟩)
        exact ⟨⟨(lo + hi) / 2 + 1, hi, by rw [show ((lo : Int) + (hi : Int)) / 2 + 1 = (((lo + hi) / 2 + 1 : Nat) : Int) by omega], rfl, by omega, l2, (by repeat (first | with_reducible exact Ext.refl _ | with_reducible assumption | with_reducible refine Ext.alloc ?_ _ | with_reducible refine Ext.drew ?_ | (with_reducible refine Ext.setAt ?_ _ _ _ ?_; rotate_left; omega) | with_reducible refine Ext.trans ?_ (by assumption) | with_reducible exact Past.bel _ | with_reducible refine Ext.trans ?_ (Past.bel _))), Lib.hid ⟨fun t h0 => by
          cases hq : q t
          · rfl
          · have := HM.out t ((lo + hi) / 2) (by omega) (by omega) hq
            rw [HP.out] at this; exact absurd this (by decide), HI.out.2⟩⟩, by simp [intOf]; omega⟩
      · have HP := Lib.hid hp
        clear hp
        go_wp2_with (go_at_call 28; refine hc.mono ?_; rintro e w' ⟨rfl, hx⟩)
        exact ⟨⟨lo, (lo + hi) / 2, rfl, by rw [show ((lo : Int) + (hi : Int)) / 2 = (((lo + hi) / 2 : Nat) : Int) by omega], by omega, by omega, (by repeat (first | with_reducible exact Ext.refl _ | with_reducible assumption | with_reducible refine Ext.alloc ?_ _ | with_reducible refine Ext.drew ?_ | (with_reducible refine Ext.setAt ?_ _ _ _ ?_; rotate_left; omega) | with_reducible refine Ext.trans ?_ (by assumption) | with_reducible exact Past.bel _ | with_reducible refine Ext.trans ?_ (Past.bel _))), Lib.hid ⟨HI.out.1, fun _ => HP.out⟩⟩, by simp [intOf]; omega⟩
    · obtain rfl : lo = hi := by omega
      go_wp2_with fail
      go_ret
      exact ⟨lo, rfl, l2, HI.out.1, HI.out.2, (by repeat (first | with_reducible exact Ext.refl _ | with_reducible assumption | with_reducible refine Ext.alloc ?_ _ | with_reducible refine Ext.drew ?_ | (with_reducible refine Ext.setAt ?_ _ _ _ ?_; rotate_left; omega) | with_reducible refine Ext.trans ?_ (by assumption) | with_reducible exact Past.bel _ | with_reducible refine Ext.trans ?_ (Past.bel _)))⟩
end Go.Proofs.Ytaalceckofgbhaa

namespace Go.Proofs.Ytaalceckofgbhaa
open Go.RowKit
set_option linter.unusedVariables false
set_option linter.unusedSimpArgs false

theorem wpAnyH_grow {P : Program} {md : Region.Mode} {ops : Array Oper} {Q : Exit → Act → World → Prop} {S S' : World → Prop} (h : ∀ w, S' w → S w) :
    ∀ (fuel : Nat) (listed : Array Bool) (a : Act) (w : World), wpAnyH P md ops Q S' fuel listed a w → wpAnyH P md ops Q S fuel listed a w
  | 0, _, _, _, h0 => h0
  | fuel + 1, _, _, _, h0 => ⟨h0.1, fun i hi => wpOp_mono (fun a' w' h' => ⟨h _ h'.1, wpAnyH_grow h fuel _ a' w' h'.2⟩) (h0.2 i hi)⟩
set_option maxHeartbeats 1000000 in
theorem lpCond_c (a : Option Addr) (n c : Nat) (h o : Nat → Int) (need l : Int) (k : Int) (W : World) (ba bb bc : Nat) (ht : trTo h o n = true) (hn : n ≤ 5) (hp : 0 ≤ k) (hp' : k ≤ 1000000) (hl : 0 ≤ l) (hl' : l ≤ 1000) (hs : S2 W a n h o)
    (h1 : Blk W ba 24 #[.slice a n c]) (h2 : Blk W bb 2 #[.int .i64 l]) (h3 : Blk W bc 2 #[.int .i64 need]) :
    Calls Try.prog 28 #[.int .i64 k, .pointer (some ⟨ba, 0, none⟩), .pointer (some ⟨bb, 0, none⟩), .pointer (some ⟨bc, 0, none⟩)] W fun e w' => e = .returned (.bool (decide (need ≤ plk h o k l n))) ∧ Ext W w' := by
  have HPA := Lib.hid (fun (W' : World) (hq : Ext W W') => pullAlong_c a n c h o k l W' ht hn hp hp' hl hl' (hs.ext hq))
  have SK := Lib.hid (fun (w' : World) (hq : Ext W w') => (show w'.cell? ⟨ba, 0, none⟩ = some (.slice a n c) ∧ w'.cell? ⟨bb, 0, none⟩ = some (.int .i64 l) ∧ w'.cell? ⟨bc, 0, none⟩ = some (.int .i64 need) from ⟨(h1.ext hq).cell 0, (h2.ext hq).cell 0, (h3.ext hq).cell 0⟩))
  obtain ⟨R, hR⟩ : ∃ Q, Q = plk h o k l n := ⟨_, rfl⟩
  have x0 : (0 : Int) ≤ (n : Int) := by omega
  have x1 : (n : Int) < (n : Int) + 1 := by omega
  have HR := Lib.hid hR
  clear hs ht h1 h2 h3 hR
  rw [← HR.out]
  go_enter Try.func28, Try.ntmps28
  go_wp2_with fail
  refine wp_region_held_drew (S := fun w' => w'.cell? ⟨ba, 0, none⟩ = some (.slice a n c) ∧ w'.cell? ⟨bb, 0, none⟩ = some (.int .i64 l) ∧ w'.cell? ⟨bc, 0, none⟩ = some (.int .i64 need)) (by kernel_rfl) (SK.out _ (by repeat (first | with_reducible exact Ext.refl _ | with_reducible assumption | with_reducible refine Ext.alloc ?_ _ | with_reducible refine Ext.drew ?_ | (with_reducible refine Ext.setAt ?_ _ _ _ ?_; rotate_left; omega) | with_reducible refine Ext.trans ?_ (by assumption) | with_reducible exact Past.bel _ | with_reducible refine Ext.trans ?_ (Past.bel _)))) (fun hHeld => ?_)
  refine wpAnyH_take (i := 0) (oi := ⟨some 6, .load 24 (.tmp 1), _, _, _, _⟩) (v := .slice a n c) rfl (by kernel_rfl) (by kernel_rfl) (by kernel_rfl) (fun _ _ _ h => h) (Or.inl ⟨by rfl, by (intro w hSw; (try dsimp only at hSw); go_simp)⟩) hHeld ?_
  simp only [Act.put, List.setIfInBounds_toArray, List.set_cons_zero, List.set_cons_succ]
  refine wpAnyH_take (i := 1) (oi := ⟨some 7, .move (.tmp 0), _, _, _, _⟩) (v := .int .i64 k) rfl (by kernel_rfl) (by kernel_rfl) (by kernel_rfl) (fun _ _ _ h => h) (Or.inl ⟨by rfl, by (intro w hSw; (try dsimp only at hSw); go_simp)⟩) hHeld ?_
  simp only [Act.put, List.setIfInBounds_toArray, List.set_cons_zero, List.set_cons_succ]
  refine wpAnyH_take (i := 2) (oi := ⟨some 8, .load 2 (.tmp 2), _, _, _, _⟩) (v := .int .i64 l) rfl (by kernel_rfl) (by kernel_rfl) (by kernel_rfl) (fun _ _ _ h => h) (Or.inl ⟨by rfl, by (intro w hSw; (try dsimp only at hSw); go_simp)⟩) hHeld ?_
  simp only [Act.put, List.setIfInBounds_toArray, List.set_cons_zero, List.set_cons_succ]
  refine wpAnyH_take (i := 4) (oi := ⟨some 10, .load 24 (.tmp 1), _, _, _, _⟩) (v := .slice a n c) rfl (by kernel_rfl) (by kernel_rfl) (by kernel_rfl) (fun _ _ _ h => h) (Or.inl ⟨by rfl, by (intro w hSw; (try dsimp only at hSw); go_simp)⟩) hHeld ?_
  simp only [Act.put, List.setIfInBounds_toArray, List.set_cons_zero, List.set_cons_succ]
  refine wpAnyH_take (i := 5) (oi := ⟨some 11, .call { callee := .builtin .len, args := #[.tmp 10], argTypes := #[24] }, _, _, _, _⟩) (v := .int .i64 n) rfl (by kernel_rfl) (by kernel_rfl) (by kernel_rfl) (fun _ _ _ h => h) (Or.inl ⟨by rfl, by (intro w hSw; (try dsimp only at hSw); go_simp)⟩) hHeld ?_
  simp only [Act.put, List.setIfInBounds_toArray, List.set_cons_zero, List.set_cons_succ]
  refine wpAnyH_take (i := 8) (oi := ⟨some 14, .load 2 (.tmp 3), _, _, _, _⟩) (v := .int .i64 need) rfl (by kernel_rfl) (by kernel_rfl) (by kernel_rfl) (fun _ _ _ h => h) (Or.inl ⟨by rfl, by (intro w hSw; (try dsimp only at hSw); go_simp)⟩) hHeld ?_
  simp only [Act.put, List.setIfInBounds_toArray, List.set_cons_zero, List.set_cons_succ]
  refine wpAnyH_ready (rs := [3]) (by kernel_rfl) (by simp) ?_
  refine AllReadyH.cons (o := ⟨some 9, .call { callee := .value (.func 21), args := #[.tmp 6, .tmp 7, .tmp 8], argTypes := #[24, 2, 2] }, _, _, _, _⟩) rfl (fun K hK => ?_) AllReadyH.nil
  go_simp
  go_at_call 21
  refine (HPA.out _ (by repeat (first | with_reducible exact Ext.refl _ | with_reducible assumption | with_reducible refine Ext.alloc ?_ _ | with_reducible refine Ext.drew ?_ | (with_reducible refine Ext.setAt ?_ _ _ _ ?_; rotate_left; omega) | with_reducible refine Ext.trans ?_ (by assumption) | with_reducible exact Past.bel _ | with_reducible refine Ext.trans ?_ (Past.bel _)))).mono ?_
  rintro e w2 ⟨b2, cap2, rfl, hx2, hs2⟩
  obtain ⟨b3, o3, rfl, hb3, q3⟩ := hs2.at (show n < n + 1 by omega)
  rw [← HR.out] at q3
  clear hs2
  refine hK.out _ _ (SK.out _ (by repeat (first | with_reducible exact Ext.refl _ | with_reducible assumption | with_reducible refine Ext.alloc ?_ _ | with_reducible refine Ext.drew ?_ | (with_reducible refine Ext.setAt ?_ _ _ _ ?_; rotate_left; omega) | with_reducible refine Ext.trans ?_ (by assumption) | with_reducible exact Past.bel _ | with_reducible refine Ext.trans ?_ (Past.bel _)))) (fun hH2 => ?_)
  refine wpAnyH_grow (S' := fun w' => (w'.cell? ⟨ba, 0, none⟩ = some (.slice a n c) ∧ w'.cell? ⟨bb, 0, none⟩ = some (.int .i64 l) ∧ w'.cell? ⟨bc, 0, none⟩ = some (.int .i64 need)) ∧ w'.cell? ⟨b3, o3 + n, none⟩ = some (.int .i64 R)) (fun w h => h.1) _ _ _ _ ?_
  have hH3 := And.intro hH2 q3
  clear hK K
  refine wpAnyH_take (i := 6) (oi := ⟨some 12, .indexAddr 27 (.tmp 9) (.tmp 11), _, _, _, _⟩) (v := .pointer (some ⟨b3, o3 + n, none⟩)) rfl (by kernel_rfl) (by kernel_rfl) (by kernel_rfl) (fun _ _ _ h => h) (Or.inl ⟨by rfl, by (intro w hSw; (try dsimp only at hSw); go_simp)⟩) hH3 ?_
  simp only [Act.put, List.setIfInBounds_toArray, List.set_cons_zero, List.set_cons_succ]
  refine wpAnyH_take (i := 7) (oi := ⟨some 13, .load 2 (.tmp 12), _, _, _, _⟩) (v := .int .i64 R) rfl (by kernel_rfl) (by kernel_rfl) (by kernel_rfl) (fun _ _ _ h => h) (Or.inl ⟨by rfl, by (intro w hSw; (try dsimp only at hSw); go_simp)⟩) hH3 ?_
  simp only [Act.put, List.setIfInBounds_toArray, List.set_cons_zero, List.set_cons_succ]
  refine wpAnyH_take (i := 9) (oi := ⟨some 15, .binOp .geq 2 (.tmp 13) (.tmp 14) 2, _, _, _, _⟩) (v := .bool (decide (need ≤ R))) rfl (by kernel_rfl) (by kernel_rfl) (by kernel_rfl) (fun _ _ _ h => h) (Or.inl ⟨by rfl, by (intro w hSw; (try dsimp only at hSw); go_simp)⟩) hH3 ?_
  simp only [Act.put, List.setIfInBounds_toArray, List.set_cons_zero, List.set_cons_succ]
  refine wpAnyH_take (i := 10) (oi := ⟨some 5, .assign (.tmp 15), _, _, _, _⟩) (v := .bool (decide (need ≤ R))) rfl (by kernel_rfl) (by kernel_rfl) (by kernel_rfl) (fun _ _ _ h => h) (Or.inl ⟨by rfl, by (intro w hSw; (try dsimp only at hSw); go_simp)⟩) hH3 ?_
  simp only [Act.put, List.setIfInBounds_toArray, List.set_cons_zero, List.set_cons_succ]
  refine wpAnyH_done (by kernel_rfl) ?_ _
  go_wp2_with fail
  go_ret
  exact ⟨rfl, (by repeat (first | with_reducible exact Ext.refl _ | with_reducible assumption | with_reducible refine Ext.alloc ?_ _ | with_reducible refine Ext.drew ?_ | (with_reducible refine Ext.setAt ?_ _ _ _ ?_; rotate_left; omega) | with_reducible refine Ext.trans ?_ (by assumption) | with_reducible exact Past.bel _ | with_reducible refine Ext.trans ?_ (Past.bel _)))⟩
end Go.Proofs.Ytaalceckofgbhaa

namespace Go.Proofs.Ytaalceckofgbhaa
open Go.RowKit
set_option linter.unusedVariables false
set_option linter.unusedSimpArgs false

set_option maxHeartbeats 2000000 in
theorem implLeastPull_c (a : Option Addr) (n c : Nat) (h o : Nat → Int) (need l : Int) (w : World) (hn : n ≤ 1048576) (hs : S2 w a n h o) :
    Calls Try.prog 12 #[.slice a n c, .int .i64 need, .int .i64 l] w (postLP w n h o need l) := by
  have HS := Lib.hid hs
  clear hs
  obtain ⟨W3, hW3⟩ : ∃ W3, W3 = ((w.alloc (.cells #[.slice a n c] 24)).alloc (.cells #[.int .i64 need] 2)).alloc (.cells #[.int .i64 l] 2) := ⟨_, rfl⟩
  have hx3 : Ext w W3 := by rw [hW3]; exact (by repeat (first | with_reducible exact Ext.refl _ | with_reducible assumption | with_reducible refine Ext.alloc ?_ _ | with_reducible refine Ext.drew ?_ | (with_reducible refine Ext.setAt ?_ _ _ _ ?_; rotate_left; omega) | with_reducible refine Ext.trans ?_ (by assumption) | with_reducible exact Past.bel _ | with_reducible refine Ext.trans ?_ (Past.bel _)))
  have hz3 : W3.heap.size = w.heap.size + 1 + 1 + 1 := by rw [hW3]; simp
  have hB0 : Blk W3 w.heap.size 24 #[.slice a n c] := by rw [hW3]; exact ((Blk.new w _ _).ext (by repeat (first | with_reducible exact Ext.refl _ | with_reducible assumption | with_reducible refine Ext.alloc ?_ _ | with_reducible refine Ext.drew ?_ | (with_reducible refine Ext.setAt ?_ _ _ _ ?_; rotate_left; omega) | with_reducible refine Ext.trans ?_ (by assumption) | with_reducible exact Past.bel _ | with_reducible refine Ext.trans ?_ (Past.bel _)))).ext (by repeat (first | with_reducible exact Ext.refl _ | with_reducible assumption | with_reducible refine Ext.alloc ?_ _ | with_reducible refine Ext.drew ?_ | (with_reducible refine Ext.setAt ?_ _ _ _ ?_; rotate_left; omega) | with_reducible refine Ext.trans ?_ (by assumption) | with_reducible exact Past.bel _ | with_reducible refine Ext.trans ?_ (Past.bel _)))
  have hB1 : Blk W3 (w.heap.size + 1) 2 #[.int .i64 need] := by rw [hW3]; exact (show Blk _ (w.heap.size + 1) _ _ by have := Blk.new (w.alloc (.cells #[.slice a n c] 24)) #[.int .i64 need] 2; rwa [World.size_alloc] at this).ext (by repeat (first | with_reducible exact Ext.refl _ | with_reducible assumption | with_reducible refine Ext.alloc ?_ _ | with_reducible refine Ext.drew ?_ | (with_reducible refine Ext.setAt ?_ _ _ _ ?_; rotate_left; omega) | with_reducible refine Ext.trans ?_ (by assumption) | with_reducible exact Past.bel _ | with_reducible refine Ext.trans ?_ (Past.bel _)))
  have hB2 : Blk W3 (w.heap.size + 1 + 1) 2 #[.int .i64 l] := by rw [hW3]; have := Blk.new ((w.alloc (.cells #[.slice a n c] 24)).alloc (.cells #[.int .i64 need] 2)) #[.int .i64 l] 2; rwa [World.size_alloc, World.size_alloc] at this
  have HS3 := Lib.hid (HS.out.ext hx3)
  have c0 := hB0.cell 0
  have c1 := hB1.cell 0
  have c2 := hB2.cell 0
  simp at c0 c1 c2
  have HK := Lib.hid (fun (W : World) (hq : Ext W3 W) => (show W.cell? ⟨w.heap.size, 0, none⟩ = some (.slice a n c) ∧ W.cell? ⟨w.heap.size + 1, 0, none⟩ = some (.int .i64 need) ∧ W.cell? ⟨w.heap.size + 1 + 1, 0, none⟩ = some (.int .i64 l) from ⟨(hB0.ext hq).cell 0, (hB1.ext hq).cell 0, (hB2.ext hq).cell 0⟩))
  cases h1 : trV n h o
  · go_enter Try.func12, Try.ntmps12
    go_wp2_with fail
    rw [← hW3]
    go_wp2_with (go_at_call 18; ((with_reducible refine (validTrain_c _ _ _ _ _ _ hn HS3.out).mono ?_); rintro e w' ⟨rfl, hx⟩; (first | (obtain ⟨wx, rfl⟩ := Past.again hx) | (obtain ⟨wx, rfl⟩ := Past.ofd hx) | (obtain ⟨wx, rfl⟩ := Past.of hx))))
    go_ret2
    exact ⟨0, 1, rfl, (by repeat (first | with_reducible exact Ext.refl _ | with_reducible assumption | with_reducible refine Ext.alloc ?_ _ | with_reducible refine Ext.drew ?_ | (with_reducible refine Ext.setAt ?_ _ _ _ ?_; rotate_left; omega) | with_reducible refine Ext.trans ?_ (by assumption) | with_reducible exact Past.bel _ | with_reducible refine Ext.trans ?_ (Past.bel _))), lp_bad h1⟩
  · cases h2 : inB need 0 1000000
    · go_enter Try.func12, Try.ntmps12
      go_wp2_with fail
      rw [← hW3]
      go_wp2_with (first | (go_at_call 18; ((with_reducible refine (validTrain_c _ _ _ _ _ _ hn HS3.out).mono ?_); rintro e w' ⟨rfl, hx⟩; (first | (obtain ⟨wx, rfl⟩ := Past.again hx) | (obtain ⟨wx, rfl⟩ := Past.ofd hx) | (obtain ⟨wx, rfl⟩ := Past.of hx)))) | (go_at_call 19; ((with_reducible refine (isPullP_c _ _).mono ?_); rintro e w' ⟨rfl, rfl⟩)) | (go_at_call 20; ((with_reducible refine (within_c _ _ _ _).mono ?_); rintro e w' ⟨rfl, rfl⟩)))
      go_ret2
      exact ⟨0, 2, rfl, (by repeat (first | with_reducible exact Ext.refl _ | with_reducible assumption | with_reducible refine Ext.alloc ?_ _ | with_reducible refine Ext.drew ?_ | (with_reducible refine Ext.setAt ?_ _ _ _ ?_; rotate_left; omega) | with_reducible refine Ext.trans ?_ (by assumption) | with_reducible exact Past.bel _ | with_reducible refine Ext.trans ?_ (Past.bel _))), lp_rng h1 (by rw [h2]; rfl)⟩
    · cases h3 : inB l 0 1000
      · go_enter Try.func12, Try.ntmps12
        go_wp2_with fail
        rw [← hW3]
        go_wp2_with (first | (go_at_call 18; ((with_reducible refine (validTrain_c _ _ _ _ _ _ hn HS3.out).mono ?_); rintro e w' ⟨rfl, hx⟩; (first | (obtain ⟨wx, rfl⟩ := Past.again hx) | (obtain ⟨wx, rfl⟩ := Past.ofd hx) | (obtain ⟨wx, rfl⟩ := Past.of hx)))) | (go_at_call 19; ((with_reducible refine (isPullP_c _ _).mono ?_); rintro e w' ⟨rfl, rfl⟩)) | (go_at_call 20; ((with_reducible refine (within_c _ _ _ _).mono ?_); rintro e w' ⟨rfl, rfl⟩)))
        go_ret2
        exact ⟨0, 2, rfl, (by repeat (first | with_reducible exact Ext.refl _ | with_reducible assumption | with_reducible refine Ext.alloc ?_ _ | with_reducible refine Ext.drew ?_ | (with_reducible refine Ext.setAt ?_ _ _ _ ?_; rotate_left; omega) | with_reducible refine Ext.trans ?_ (by assumption) | with_reducible exact Past.bel _ | with_reducible refine Ext.trans ?_ (Past.bel _))), lp_rng h1 (by rw [h2, h3]; rfl)⟩
      · have hv := trV_to h1
        have hp := inB_t.1 h2
        have hl := inB_t.1 h3
        have HR : RowKit.Hid ((inB need 0 1000000 && inB l 0 1000) = true) := Lib.hid (by rw [h2, h3]; rfl)
        have HB := Lib.hid (And.intro hB0 (And.intro hB1 hB2))
        have HSE := Lib.hid (fun (W : World) (hq : Ext W3 W) => search_c #[.pointer (some ⟨w.heap.size, 0, none⟩), .pointer (some ⟨w.heap.size + 1 + 1, 0, none⟩), .pointer (some ⟨w.heap.size + 1, 0, none⟩)] 1000001 (fun k => decide (need ≤ plk h o (k : Nat) l n)) W (Nat.le_refl _)
          (fun i hi W' hq2 => lpCond_c a n c h o need l (i : Nat) W' _ _ _ hv.1 hv.2 (by omega) (by omega) hl.1 hl.2 (HS3.out.ext (hq.trans hq2)) (HB.out.1.ext (hq.trans hq2)) (HB.out.2.2.ext (hq.trans hq2)) (HB.out.2.1.ext (hq.trans hq2)))
          (fun x y hxy hy hx => decide_eq_true (Int.le_trans (of_decide_eq_true hx) (plk_mono hv.1 hl.2 (by omega) n (Nat.le_refl n)))))
        have H1 := Lib.hid h1
        go_enter Try.func12, Try.ntmps12
        go_wp2_with fail
        rw [← hW3]
        go_wp2_with (first | (go_at_call 18; ((with_reducible refine (validTrain_c _ _ _ _ _ _ hn HS3.out).mono ?_); rintro e w' ⟨rfl, hx⟩; (first | (obtain ⟨wx, rfl⟩ := Past.again hx) | (obtain ⟨wx, rfl⟩ := Past.ofd hx) | (obtain ⟨wx, rfl⟩ := Past.of hx)))) | (go_at_call 19; ((with_reducible refine (isPullP_c _ _).mono ?_); rintro e w' ⟨rfl, rfl⟩)) | (go_at_call 20; ((with_reducible refine (within_c _ _ _ _).mono ?_); rintro e w' ⟨rfl, rfl⟩)))
        refine (HSE.out _ (by repeat (first | with_reducible exact Ext.refl _ | with_reducible assumption | with_reducible refine Ext.alloc ?_ _ | with_reducible refine Ext.drew ?_ | (with_reducible refine Ext.setAt ?_ _ _ _ ?_; rotate_left; omega) | with_reducible refine Ext.trans ?_ (by assumption) | with_reducible exact Past.bel _ | with_reducible refine Ext.trans ?_ (Past.bel _)))).mono ?_
        rintro e w2 ⟨v, rfl, v1, v2, v3, hx2⟩
        have HV := Lib.hid (show (∀ t : Int, 0 ≤ t → t < (v : Int) → plk h o t l n < need) ∧ (v < 1000001 → need ≤ plk h o (v : Int) l n) from ⟨fun t t0 t1 => by
          have := of_decide_eq_false (v2 t.toNat (by omega))
          rw [Int.toNat_of_nonneg t0] at this
          omega, fun hv1 => of_decide_eq_true (v3 hv1)⟩)
        have hw2 : Ext w w2 := Ext.trans (Ext.trans hx3 (by repeat (first | with_reducible exact Ext.refl _ | with_reducible assumption | with_reducible refine Ext.alloc ?_ _ | with_reducible refine Ext.drew ?_ | (with_reducible refine Ext.setAt ?_ _ _ _ ?_; rotate_left; omega) | with_reducible refine Ext.trans ?_ (by assumption) | with_reducible exact Past.bel _ | with_reducible refine Ext.trans ?_ (Past.bel _)))) hx2
        clear v2 v3
        by_cases hlt : v < 1000001
        · have y1 : ¬ (1000000 : Int) < (v : Int) := by omega
          have y2 : decide ((1000000 : Int) < (v : Int)) = false := decide_eq_false y1
          go_wp2_with fail
          go_ret2
          exact ⟨v, 0, rfl, (by repeat (first | with_reducible exact Ext.refl _ | with_reducible assumption | with_reducible refine Ext.alloc ?_ _ | with_reducible refine Ext.drew ?_ | (with_reducible refine Ext.setAt ?_ _ _ _ ?_; rotate_left; omega) | with_reducible refine Ext.trans ?_ (by assumption) | with_reducible exact Past.bel _ | with_reducible refine Ext.trans ?_ (Past.bel _))), lp_yes H1.out HR.out (by omega) (by omega) (HV.out.2 hlt) HV.out.1⟩
        · have y1 : (1000000 : Int) < (v : Int) := by omega
          have y2 : decide ((1000000 : Int) < (v : Int)) = true := decide_eq_true y1
          go_wp2_with fail
          go_ret2
          exact ⟨0, 3, rfl, (by repeat (first | with_reducible exact Ext.refl _ | with_reducible assumption | with_reducible refine Ext.alloc ?_ _ | with_reducible refine Ext.drew ?_ | (with_reducible refine Ext.setAt ?_ _ _ _ ?_; rotate_left; omega) | with_reducible refine Ext.trans ?_ (by assumption) | with_reducible exact Past.bel _ | with_reducible refine Ext.trans ?_ (Past.bel _))), lp_non H1.out HR.out (HV.out.1 1000000 (by decide) y1)⟩
end Go.Proofs.Ytaalceckofgbhaa

namespace Go.Proofs.Ytaalceckofgbhaa
open Go.RowKit
set_option linter.unusedVariables false
theorem rdTo_of {h o : Nat → Int} {n : Nat} (hh : ∀ k, k < n → rdAt h o k = true) : rdTo h o n = true := by
  induction n with
  | zero => rfl
  | succ n ih => simp only [rdTo, ih (fun k hk => hh k (by omega)), hh n (by omega), Bool.and_self]
theorem rdV_of {h o : Nat → Int} {n : Nat} (h60 : n ≤ 60) (hh : ∀ k, k < n → 0 ≤ h k ∧ h k ≤ 10000) (ho : ∀ k, k < n → -100000 ≤ o k ∧ o k ≤ 100000) (hu : ∀ k, k + 1 < n → h k < h (k + 1)) : rdV n h o = true := by
  have h1 : rdTo h o n = true := rdTo_of fun k hk => by
    have a := inB_t.2 (hh k hk)
    have b := inB_t.2 (ho k hk)
    have c : (k == 0 || decide (h (k - 1) < h k)) = true := by
      by_cases e : k = 0
      · simp [e]
      · have := hu (k - 1) (by omega)
        rw [show k - 1 + 1 = k by omega] at this
        simp [this]
    rw [rdAt, a, b, c]; rfl
  rw [rdV, h1, decide_eq_true h60]; rfl
/-- two levels -/
def lvO (F : Nat) (J : Int) (k : Nat) : Int := if k < F then J else -J
theorem lv_sm1 (F : Nat) (J : Int) {k : Nat} (hk : k ≤ F) : sm (lvO F J) k = J * k := by
  induction k with
  | zero => simp [sm]
  | succ k ih =>
    simp only [sm, ih (by omega), lvO, if_pos (show k < F by omega)]
    rw [Int.natCast_add, Int.mul_add]; simp
theorem lv_sm2 (F : Nat) (J : Int) (k : Nat) : sm (lvO F J) (F + k) = J * (F - k) := by
  induction k with
  | zero => simp [lv_sm1 F J (Nat.le_refl F)]
  | succ k ih =>
    rw [← Nat.add_assoc]
    simp only [sm, ih, lvO, if_neg (show ¬ F + k < F by omega)]
    rw [Int.natCast_add]; grind
theorem lv_u1 (F S : Nat) (J : Int) {k : Nat} (hk : k ≤ F) : bcU (F + S) (lvO F J) k = J * J * (F + S) * bcD (F + S) k - 4 * (J * J * (k * (S * (F - k)))) := by
  unfold bcU bcD
  rw [lv_sm1 F J hk, lv_sm2 F J S, Int.natCast_add]; grind
theorem lv_u2 (F S : Nat) (J : Int) (k : Nat) : bcU (F + S) (lvO F J) (F + k) = J * J * (F + S) * bcD (F + S) (F + k) - 4 * (J * J * (F * (k * (S - k)))) := by
  unfold bcU bcD
  rw [lv_sm2 F J k, lv_sm2 F J S, Int.natCast_add, Int.natCast_add]; grind
theorem bcD_pos {n k : Nat} (h1 : 1 ≤ k) (hk : k < n) : 0 < bcD n k := Int.mul_pos (by omega) (by omega)
theorem lv_bc {F S : Nat} {J : Int} (hF : 1 ≤ F) (hS : 1 ≤ S) (hJ : 1 ≤ J) {j : Nat} (hj : j < F + S) :
    0 < (bc (F + S) (lvO F J) j).2.2 ∧ (j < F → (bc (F + S) (lvO F J) j).2.1 < J * J * (F + S) * (bc (F + S) (lvO F J) j).2.2) ∧
    (F ≤ j → bc (F + S) (lvO F J) j = ((F : Int), bcU (F + S) (lvO F J) F, bcD (F + S) F)) := by
  have hJJ : 1 ≤ J * J := by have := Int.mul_le_mul hJ hJ (by omega) (by omega); omega
  induction j with
  | zero =>
    refine ⟨by simp [bc], fun _ => ?_, fun h => by omega⟩
    have : 0 ≤ J * J * ((F : Int) + S) := Int.mul_nonneg (by omega) (by omega)
    simp only [bc]; omega
  | succ j ih =>
    obtain ⟨i1, i2, i3⟩ := ih (by omega)
    obtain ⟨st, hst⟩ : ∃ st, st = bc (F + S) (lvO F J) j := ⟨_, rfl⟩
    rw [← hst] at i1 i2 i3
    have hd := bcD_pos (n := F + S) (k := j + 1) (by omega) hj
    have hb : bc (F + S) (lvO F J) (j + 1) = if st.2.1 * bcD (F + S) (j + 1) < bcU (F + S) (lvO F J) (j + 1) * st.2.2 then ((j : Int) + 1, bcU (F + S) (lvO F J) (j + 1), bcD (F + S) (j + 1)) else st := by rw [hst]; rfl
    rw [hb]
    rcases Nat.lt_trichotomy (j + 1) F with h | h | h
    · -- ahead of the jump
      have hu := lv_u1 F S J (k := j + 1) (by omega)
      have hp : 0 < J * J * (((j + 1 : Nat) : Int) * ((S : Int) * ((F : Int) - ((j + 1 : Nat) : Int)))) := Int.mul_pos (by omega) (Int.mul_pos (by omega) (Int.mul_pos (by omega) (by omega)))
      split
      · exact ⟨hd, fun _ => by dsimp only; omega, fun h5 => by omega⟩
      · exact ⟨i1, fun _ => i2 (by omega), fun h5 => by omega⟩
    · -- at it
      have hu := lv_u1 F S J (k := j + 1) (by omega)
      have hz : (F : Int) - ((j + 1 : Nat) : Int) = 0 := by omega
      rw [hz] at hu
      have hc : st.2.1 * bcD (F + S) (j + 1) < bcU (F + S) (lvO F J) (j + 1) * st.2.2 := by
        have h6 := Int.mul_lt_mul_of_pos_right (i2 (by omega)) hd
        rw [hu]; grind
      rw [if_pos hc]
      refine ⟨hd, fun h5 => by omega, fun _ => ?_⟩
      rw [h]
      have : (j : Int) + 1 = (F : Int) := by omega
      rw [this]
    · -- behind it
      have e3 := i3 (by omega)
      obtain ⟨k, hk⟩ : ∃ k, j + 1 = F + k := ⟨j + 1 - F, by omega⟩
      have hu := lv_u2 F S J k
      rw [← hk] at hu
      have huF := lv_u1 F S J (Nat.le_refl F)
      have hz : (F : Int) - (F : Int) = 0 := by omega
      rw [hz] at huF
      have hp : 0 ≤ J * J * ((F : Int) * ((k : Int) * ((S : Int) - k))) := Int.mul_nonneg (by omega) (Int.mul_nonneg (by omega) (Int.mul_nonneg (by omega) (by omega)))
      have hdF := bcD_pos (n := F + S) (k := F) hF (by omega)
      have hc : ¬ st.2.1 * bcD (F + S) (j + 1) < bcU (F + S) (lvO F J) (j + 1) * st.2.2 := by
        rw [e3]
        dsimp only
        rw [hu, huF]
        have h7 : 0 ≤ (J * J * ((F : Int) * ((k : Int) * ((S : Int) - k)))) * bcD (F + S) F := Int.mul_nonneg hp (by omega)
        intro h8
        grind
      rw [if_neg hc]
      exact ⟨i1, fun h5 => by omega, fun _ => e3⟩
theorem lv_jmp {F : Nat} {J : Int} (hF : 1 ≤ F) (hJ : 1 ≤ J) (j : Nat) : jmp (lvO F J) (2 * J) j = if F ≤ j then [(F : Int)] else [] := by
  induction j with
  | zero => simp [jmp]; omega
  | succ j ih =>
    simp only [jmp, ih]
    rcases Nat.lt_trichotomy (j + 1) F with h | h | h
    · have hd : absI (lvO F J (j + 1) - lvO F J j) = 0 := by rw [lvO, lvO, if_pos h, if_pos (by omega)]; unfold absI; simp
      rw [hd, if_neg (by omega), if_neg (by omega), if_neg (by omega)]
    · have hd : absI (lvO F J (j + 1) - lvO F J j) = 2 * J := by rw [lvO, lvO, if_neg (by omega), if_pos (by omega)]; unfold absI; split <;> omega
      rw [hd, if_pos (Int.le_refl _), if_neg (by omega), if_pos (by omega)]
      have : (j : Int) + 1 = (F : Int) := by omega
      rw [this]; rfl
    · have hd : absI (lvO F J (j + 1) - lvO F J j) = 0 := by rw [lvO, lvO, if_neg (by omega), if_neg (by omega)]; unfold absI; simp
      rw [hd, if_neg (by omega), if_pos (by omega), if_pos (by omega)]
end Go.Proofs.Ytaalceckofgbhaa

namespace Go.Proofs.Ytaalceckofgbhaa
open Go.RowKit
set_option linter.unusedVariables false
set_option linter.unusedSimpArgs false

theorem Dice.ext {w w' : World} {g : Nat} {a : Option Addr} {n c : Nat} (h : Dice w g a n c) (hx : Ext w w') : Dice w' g a n c := by
  obtain ⟨i, hh, hb, hi⟩ := h.blk
  exact ⟨⟨i, hh, hb.ext hx, hi⟩⟩
theorem dice_of {w : World} {g : Nat} {a : Option Addr} {n c : Nat} {hh : Int} (h : Blk w g 46 #[.slice a n c, .int .i64 0, .int .u64 hh]) : Dice w g a n c := ⟨⟨0, hh, h, Nat.zero_le _⟩⟩
/-- a function's first k pairs -/
def outs2 (H O : Nat → Int) : Nat → List (Int × Int)
  | 0 => []
  | k + 1 => outs2 H O k ++ [(H k, O k)]
theorem outs2_len (H O : Nat → Int) (k : Nat) : (outs2 H O k).length = k := by
  induction k with
  | zero => rfl
  | succ k ih => simp [outs2, ih]
theorem outs2_at (H O : Nat → Int) (N : Nat) : ∀ j, j < N → (outs2 H O N).getD j (0, 0) = (H j, O j) := by
  induction N with
  | zero => intro j h; omega
  | succ N ih =>
    intro j hj
    simp only [outs2, List.getD, List.getElem?_append, outs2_len]
    by_cases e : j < N
    · rw [if_pos e]; exact ih j e
    · have e2 : j = N := by omega
      subst e2
      rw [if_neg e]; simp
theorem own_outs2 {w : World} {base : Nat} {e : TypeId} {a : Option Addr} {cap n : Nat} {H O : Nat → Int} (h : w.ownsRow base e 2 (.slice a n cap) n (PR (outs2 H O n))) : S2 w a n H O := fun hn => by
  obtain ⟨b, o, ha, hb, hc⟩ := own_s2 h (by rw [outs2_len]) hn
  refine ⟨b, o, ha, hb, fun j hj => ?_⟩
  have := hc j hj
  dsimp only at this
  rw [outs2_at H O n j hj] at this
  exact this
/-- 'own = append(own, T{x, y})', 'own' made behind w0 -/
theorem app2o {P : Program} {w w0 : World} {ops : Array Oper} {rest : List Oper} {o : Oper} {A : Act} {Q : Exit → Act → World → Prop} (t e : TypeId) (s x : Operand) (z : Value)
    (hop : o.op = .call { callee := .builtin .append, args := #[s, x], argTypes := #[t, t] }) (hgd : o.guard = none)
    (ht : P.underlying t = some (.slice e)) (hinfo : (P.info? e).map (fun i => (i.zero, i.size, i.bytes)) = some (some z, 2, 16)) (hz : z.cells.size = 2)
    (v : Value) (l : List (Int × Int)) (p q : Int) (gb : Nat) (hs : A.eval s = v) (hx : A.eval x = .slice (some ⟨gb, 0, none⟩) 1 1) (hown : w.ownsRow w0.heap.size e 2 v l.length (PR l))
    (hc : Blk w gb e #[.int .i64 p, .int .i64 q]) (hl : l.length ≤ 1048576) (h0 : Ext w0 w)
    (hK : ∀ v' w', w'.ownsRow w0.heap.size e 2 v' (l.length + 1) (PR (l ++ [(p, q)])) → Ext w0 w' → w.grownBy w' v.ownBlock → wpList P ops Q rest (A.put o.dst v') w') : wpList P ops Q (o :: rest) A w := by
  obtain ⟨i, hi, hz', hsz, hb⟩ := info_parts hinfo
  refine wpList_append_own (P := P) w hgd s x t hop w0.heap.size e i z 2 16 ht hi hz' hsz hb hz (by decide) v l.length _ hs hown ⟨gb, 0, none⟩ 1 1 [.int .i64 p, .int .i64 q] hx rfl ?_ ?_ ?_ ?_ h0.size ?_
  · exact World.news_of_block hc
  · intro u hu
    simp at hu; rcases hu with rfl | rfl <;> rfl
  · unfold maxLen; omega
  · omega
  · intro v' w' h1 h2 _
    refine hK v' w' ?_ (h0.grown h2 fun k hk => (hown.lt k hk).1) h2
    rw [PR_app]; have e1 : PR [(p, q)] = [.int .i64 p, .int .i64 q] := rfl
    rw [e1]; exact h1
/-- the same at a step of a region that draws its order -/
theorem app2os {P : Program} {w w0 : World} {ops : Array Oper} {o : Oper} {A : Act} {K : Act → World → Prop} {Q : Exit → Act → World → Prop} {E : Prop} (t e : TypeId) (s x : Operand) (z : Value)
    (hop : o.op = .call { callee := .builtin .append, args := #[s, x], argTypes := #[t, t] }) (hgd : o.guard = none)
    (ht : P.underlying t = some (.slice e)) (hinfo : (P.info? e).map (fun i => (i.zero, i.size, i.bytes)) = some (some z, 2, 16)) (hz : z.cells.size = 2)
    (v : Value) (l : List (Int × Int)) (p q : Int) (gb : Nat) (hs : A.eval s = v) (hx : A.eval x = .slice (some ⟨gb, 0, none⟩) 1 1) (hown : w.ownsRow w0.heap.size e 2 v l.length (PR l))
    (hc : Blk w gb e #[.int .i64 p, .int .i64 q]) (hl : l.length ≤ 1048576) (h0 : Ext w0 w)
    (hK : ∀ v' w', w'.ownsRow w0.heap.size e 2 v' (l.length + 1) (PR (l ++ [(p, q)])) → Ext w0 w' → K (A.put o.dst v') w') :
    if Region.wanted o (yielded ops A.tmps) = true then Oper.wp P o A w K Q else E := by
  obtain ⟨i, hi, hz', hsz, hb⟩ := info_parts hinfo
  refine step_append_lies w hgd s x t hop w0.heap.size e i z 2 16 ht hi hz' hsz hb hz (by decide) v l.length _ hs hown ⟨gb, 0, none⟩ 1 1 [.int .i64 p, .int .i64 q] hx rfl ?_ ?_ (by decide) ?_ ?_ h0.size _ rfl ?_
  · exact World.news_of_block hc
  · intro u hu
    simp at hu; rcases hu with rfl | rfl <;> rfl
  · unfold maxLen; omega
  · omega
  · intro g' cap w' h1 h2 _ _
    refine hK _ w' ?_ (h0.grown h2 fun k hk => (hown.lt k hk).1)
    rw [PR_app]; have e1 : PR [(p, q)] = [.int .i64 p, .int .i64 q] := rfl
    rw [e1]; exact h1
theorem own_outs2l {w : World} {b e : Nat} {v : Value} {H O : Nat → Int} {j : Nat} (h : w.ownsRow b e 2 v j (PR (outs2 H O j))) : w.ownsRow b e 2 v (outs2 H O j).length (PR (outs2 H O j)) := by rw [outs2_len]; exact h
end Go.Proofs.Ytaalceckofgbhaa

namespace Go.Proofs.Ytaalceckofgbhaa
open Go.RowKit
set_option linter.unusedVariables false
set_option linter.unusedSimpArgs false

section
variable {a : Option Addr} {n c : Nat} {wd pl : Nat → Int} {w : World}
theorem isPull_c (t : Int) (w : World) : Calls Try.prog 19 #[.int .i64 t] w fun e w' => e = .returned (.bool (inB t 0 1000000)) ∧ w = w' := by
  go_enter Try.func19, Try.ntmps19
  go_wp2_with (go_at_call 20; ((with_reducible refine (within_c _ _ _ _).mono ?_); rintro e w' ⟨rfl, rfl⟩))
  go_ret
  exact ⟨rfl, rfl⟩
end
end Go.Proofs.Ytaalceckofgbhaa

namespace Go.Proofs.Ytaalceckofgbhaa
open Go.RowKit
set_option linter.unusedVariables false
set_option linter.unusedSimpArgs false

section
variable {a : Option Addr} {n c : Nat} {wd pl : Nat → Int} {w : World}
end
end Go.Proofs.Ytaalceckofgbhaa

namespace Go.Proofs.Ytaalceckofgbhaa
open Go.RowKit
set_option linter.unusedVariables false
set_option linter.unusedSimpArgs false

section
variable {a : Option Addr} {n c : Nat} {wd pl : Nat → Int} {w : World}
end
end Go.Proofs.Ytaalceckofgbhaa

namespace Go.Proofs.Ytaalceckofgbhaa
open Go.RowKit
set_option linter.unusedVariables false
set_option linter.unusedSimpArgs false

theorem spV_ff {wd pl : Nat → Int} {n k : Nat} (hk : k < n) (h : bdA wd pl k = false) : false = spV n wd pl := by rw [spV, bdTo_ff hk h]; rfl
theorem spV_n {wd pl : Nat → Int} {n : Nat} (h : ¬ (2 ≤ n ∧ n ≤ 20)) : false = spV n wd pl := by
  have e : (decide (2 ≤ n) && decide (n ≤ 20)) = false := by
    cases e : (decide (2 ≤ n) && decide (n ≤ 20))
    · rfl
    · rw [Bool.and_eq_true, decide_eq_true_eq, decide_eq_true_eq] at e; exact absurd e h
  rw [spV, e, Bool.and_false]
section
variable {a : Option Addr} {n c : Nat} {wd pl : Nat → Int} {w : World}
end
end Go.Proofs.Ytaalceckofgbhaa

namespace Go.Proofs.Ytaalceckofgbhaa
open Go.RowKit
set_option linter.unusedVariables false
set_option linter.unusedSimpArgs false

theorem grown_alloc {a w : World} {row : Option Nat} (h : a.grownBy w row) (o : Obj) : a.grownBy (w.alloc o) row := grown_trans h (grown_weak (ext_grown ((Ext.refl w).alloc o)))
theorem Blk.cell0 {w : World} {g : Nat} {T : TypeId} {v : Value} (h : Blk w g T #[v]) : w.cell? ⟨g, 0, none⟩ = some v := by rw [h.cell]; rfl
/-- what a cell holds, whatever it is: an equation that outlives a store -/
def cellV (w : World) (b o : Nat) : Value := (w.cell? ⟨b, o, none⟩).getD undef
theorem cellV_of {w : World} {b o : Nat} {v : Value} (h : w.cell? ⟨b, o, none⟩ = some v) : w.cell? ⟨b, o, none⟩ = some (cellV w b o) := by rw [cellV, h]; rfl
theorem cellV_set {w : World} {b o : Nat} {v : Value} (h : w.cell? ⟨b, o, none⟩ = some v) (u : Value) : (w.setCell ⟨b, o, none⟩ u).cell? ⟨b, o, none⟩ = some (cellV (w.setCell ⟨b, o, none⟩ u) b o) :=
  cellV_of (v := u) (by simp [go_sem, h])
theorem s1_of {w : World} {b n : Nat} {z : Nat → Int} (hb : b < w.heap.size) (h : ∀ j, j < n → w.cell? ⟨b, j, none⟩ = some (.int .i64 (z j))) : S1 w (some ⟨b, 0, none⟩) n z := fun _ => ⟨b, 0, rfl, hb, fun j hj => by rw [Nat.zero_add]; exact h j hj⟩
theorem own_cap {w : World} {base : Nat} {e : TypeId} {size : Nat} {a : Option Addr} {n cap : Nat} {xs : List Value} (h : w.ownsRow base e size (.slice a n cap) n xs) : n ≤ cap ∧ cap ≤ maxLen := by
  rcases h.2 with ⟨h1, h2⟩ | ⟨g, cap', cur, h1, _, _, h2, h3, _⟩
  · simp only [Value.slice.injEq] at h1
    omega
  · simp only [Value.slice.injEq] at h1
    omega
/-- a list beside a cell that holds 'u' -/
structure Sq (w0 w : World) (g : Nat) (a : Option Addr) (n c : Nat) (f : Nat → Nat) (K : Nat) (T U : TypeId) (go : Nat) (u v : Value) (l : List (Int × Int)) : Prop where
  st : St w0 w g a n c f K T v l
  cell : Blk w go U #[u]
  lo : w0.heap.size ≤ go
  ne : v.ownBlock ≠ some go
section
variable {w0 w w1 : World} {g : Nat} {a : Option Addr} {n c : Nat} {f : Nat → Nat} {K K' : Nat} {T U : TypeId} {go : Nat} {u v : Value} {l : List (Int × Int)}
theorem Sq.le (h : Sq w0 w g a n c f K T U go u v l) (hl : K ≤ K') : Sq w0 w g a n c f K' T U go u v l := ⟨h.st.le hl, h.cell, h.lo, h.ne⟩
theorem Sq.drawn (h : Sq w0 w g a n c f K T U go u v l) (hs : Src w1 g a n c f K') (hx : w.grownBy w1 (some g)) : Sq w0 w1 g a n c f K' T U go u v l :=
  ⟨h.st.drawn hs hx, (hx.block go h.cell.lt (fun e => by have e2 : go = g := by simpa using e
                                                         have := h.lo; have := h.st.low; omega)).trans h.cell, h.lo, h.ne⟩
theorem Sq.ext (h : Sq w0 w g a n c f K T U go u v l) (hx : Ext w w1) : Sq w0 w1 g a n c f K T U go u v l :=
  ⟨⟨own_ext h.st.own hx, h.st.src.keep (ext_grown hx) (fun k hk => by cases hk) h.st.low h.st.cod h.st.gr.size, grown_trans h.st.gr (grown_weak (ext_grown hx)), h.st.low, h.st.cod⟩, h.cell.ext hx, h.lo, h.ne⟩
theorem Sq.alloc (h : Sq w0 w g a n c f K T U go u v l) (o : Obj) : Sq w0 (w.alloc o) g a n c f K T U go u v l := ⟨h.st.alloc o, h.cell.ext (by repeat (first | with_reducible exact Ext.refl _ | with_reducible assumption | with_reducible refine Ext.alloc ?_ _ | with_reducible refine Ext.drew ?_ | (with_reducible refine Ext.setAt ?_ _ _ _ ?_; rotate_left; omega) | with_reducible refine Ext.trans ?_ (by assumption) | with_reducible exact Past.bel _ | with_reducible refine Ext.trans ?_ (Past.bel _))), h.lo, h.ne⟩
/-- a new cell for the list -/
theorem Sq.new (h : St w0 w g a n c f K T v l) : Sq w0 (w.alloc (.cells #[u] U)) g a n c f K T U w.heap.size u v l :=
  ⟨h.alloc _, Blk.new _ _ _, h.gr.size, fun e => by have := (h.own.lt _ e).2; omega⟩
theorem St.far (h : St w0 w g a n c f K T v l) {b i : Nat} (hb : w0.heap.size ≤ b) (hne : v.ownBlock ≠ some b) (x : Value) : St w0 (w.setCell ⟨b, i, none⟩ x) g a n c f K T v l := by
  have hx := grown_set (w := w) b i x
  refine ⟨h.own.kept hx (.inr hne), h.src.keep hx (fun k hk => by cases hk; exact hb) h.low h.cod h.gr.size, ⟨h.gr.os, h.gr.tape, h.gr.output, by simpa using h.gr.size, fun k hk hn => ?_⟩, h.low, h.cod⟩
  exact (hx.block k (Nat.lt_of_lt_of_le hk h.gr.size) (fun e => absurd (show k = b by simpa using e) (by omega))).trans (h.gr.block k hk hn)
/-- the list's value laid into the cell -/
theorem Sq.store (h : Sq w0 w g a n c f K T U go u v l) (hg : w0.heap.size ≤ go) : Sq w0 (w.setCell ⟨go, 0, none⟩ v) g a n c f K T U go v v l :=
  ⟨h.st.far hg h.ne v, by have := h.cell.set 0 v; simpa using this, h.lo, h.ne⟩
/-- another list, not of this cell's block -/
theorem Sq.reset (h : Sq w0 w g a n c f K T U go u v l) : Sq w0 w g a n c f K T U go u (.slice none 0 0) [] := ⟨h.st.reset, h.cell, h.lo, fun e => by cases e⟩
theorem Sq.set {gb cap m i : Nat} {x : Value} {l' : List (Int × Int)} (h : Sq w0 w g a n c f K T U go u (.slice (some ⟨gb, 0, none⟩) m cap) l) (hm : m = l.length) (hp : (PR l).set i x = PR l') (hl : l'.length = l.length) :
    Sq w0 (w.setCell ⟨gb, i, none⟩ x) g a n c f K T U go u (.slice (some ⟨gb, 0, none⟩) m cap) l' :=
  ⟨h.st.set hm hp hl, h.cell.other gb i x (fun e => h.ne (by rw [e]; rfl)), h.lo, h.ne⟩
/-- 'out.X = append(out.X, T{x, y})', as far as the append -/
theorem app2s {P : Program} {ops : Array Oper} {rest : List Oper} {o : Oper} {A : Act} {Q : Exit → Act → World → Prop} (t : TypeId) (s x : Operand) (z : Value)
    (hop : o.op = .call { callee := .builtin .append, args := #[s, x], argTypes := #[t, t] }) (hgd : o.guard = none)
    (ht : P.underlying t = some (.slice T)) (hinfo : (P.info? T).map (fun i => (i.zero, i.size, i.bytes)) = some (some z, 2, 16)) (hz : z.cells.size = 2)
    (p q : Int) (gb : Nat) (hs : A.eval s = v) (hx : A.eval x = .slice (some ⟨gb, 0, none⟩) 1 1) (h : Sq w0 w g a n c f K T U go u v l)
    (hc : Blk w gb T #[.int .i64 p, .int .i64 q]) (hl : l.length ≤ 1048576)
    (hK : ∀ g' cap w', Sq w0 w' g a n c f K T U go u (.slice (some ⟨g', 0, none⟩) (l.length + 1) cap) (l ++ [(p, q)]) → wpList P ops Q rest (A.put o.dst (.slice (some ⟨g', 0, none⟩) (l.length + 1) cap)) w') : wpList P ops Q (o :: rest) A w := by
  obtain ⟨i, hi, hz', hsz, hb⟩ := info_parts hinfo
  refine wpList_append_lies (P := P) w hgd s x t hop w0.heap.size T i z 2 16 ht hi hz' hsz hb hz (by decide) v l.length _ hs h.st.own ⟨gb, 0, none⟩ 1 1 [.int .i64 p, .int .i64 q] hx rfl ?_ ?_ (by decide) ?_ ?_ h.st.gr.size _ rfl ?_
  · exact World.news_of_block hc
  · intro u hu
    simp at hu; rcases hu with rfl | rfl <;> rfl
  · unfold maxLen; omega
  · omega
  · intro g' cap w' h1 h2 h3 h4
    have hr : ∀ k, v.ownBlock = some k → w0.heap.size ≤ k := fun k hk => (h.st.own.lt k hk).1
    refine hK g' cap w' ⟨⟨?_, h.st.src.keep h2 hr h.st.low h.st.cod h.st.gr.size, ⟨h2.os.trans h.st.gr.os, h2.tape.trans h.st.gr.tape, h2.output.trans h.st.gr.output, Nat.le_trans h.st.gr.size h2.size, fun k hk hn => ?_⟩, h.st.low, h.st.cod⟩, ?_, h.lo, ?_⟩
    · rw [PR_app, List.length_append]; have e1 : PR [(p, q)] = [.int .i64 p, .int .i64 q] := rfl
      rw [e1]; simpa using h1
    · exact (h2.block k (Nat.lt_of_lt_of_le hk h.st.gr.size) (fun e => by have := hr k e.symm; omega)).trans (h.st.gr.block k hk hn)
    · exact (h2.block go h.cell.lt (fun e => h.ne e.symm)).trans h.cell
    · intro e
      have e2 : g' = go := by simpa [Value.ownBlock] using e
      rcases h3 with h3 | h3
      · exact h.ne (by rw [h3, e2])
      · have := h.cell.lt; omega
end
theorem St.made {w0 w : World} {g : Nat} {a : Option Addr} {n c : Nat} {f : Nat → Nat} {K : Nat} {T : TypeId} {v : Value} {l : List (Int × Int)} (h : St w0 w g a n c f K T v l) (p q : Int) :
    St w0 (w.alloc (.cells #[.int .i64 p, .int .i64 q] T)) g a n c f K T (.slice (some ⟨w.heap.size, 0, none⟩) 1 1) [(p, q)] :=
  ⟨⟨rfl, .inr ⟨w.heap.size, 1, #[.int .i64 p, .int .i64 q], rfl, h.gr.size, heap_alloc_new w _, Nat.le_refl _, by decide, rfl, rfl⟩⟩, (h.alloc _).src, (h.alloc _).gr, h.low, h.cod⟩
/-- A drawn spring: its bends anywhere in memory of the draw's own; the source behind it. -/
structure Spr (w0 w : World) (g : Nat) (a : Option Addr) (n c : Nat) (f : Nat → Nat) (K : Nat) (a' : Option Addr) (n' : Nat) (wd pl : Nat → Int) : Prop where
  n21 : n' ≤ 21
  s2 : S2 w a' n' wd pl
  far : ∀ ad, a' = some ad → w0.heap.size ≤ ad.block
  src : Src w g a n c f K
  gr : w0.grownBy w (some g)
  low : g < w0.heap.size
  cod : 0 < n → ∀ ad, a = some ad → ad.block < w0.heap.size
section
variable {w0 w w1 : World} {g : Nat} {a : Option Addr} {n c : Nat} {f : Nat → Nat} {K K' : Nat} {a' : Option Addr} {n' : Nat} {wd pl : Nat → Int}
theorem Spr.le (h : Spr w0 w g a n c f K a' n' wd pl) (hl : K ≤ K') : Spr w0 w g a n c f K' a' n' wd pl := ⟨h.n21, h.s2, h.far, h.src.le hl, h.gr, h.low, h.cod⟩
theorem Spr.drawn (h : Spr w0 w g a n c f K a' n' wd pl) (hs : Src w1 g a n c f K') (hx : w.grownBy w1 (some g)) : Spr w0 w1 g a n c f K' a' n' wd pl :=
  ⟨h.n21, h.s2.but hx (fun ad e e2 => by have := h.far ad e; have := h.low; have e3 : ad.block = g := by simpa using e2
                                         omega), h.far, hs, grown_trans h.gr hx, h.low, h.cod⟩
theorem Spr.ext (h : Spr w0 w g a n c f K a' n' wd pl) (hx : Ext w w1) : Spr w0 w1 g a n c f K a' n' wd pl :=
  ⟨h.n21, h.s2.ext hx, h.far, h.src.keep (ext_grown hx) (fun k hk => by cases hk) h.low h.cod h.gr.size, grown_trans h.gr (grown_weak (ext_grown hx)), h.low, h.cod⟩
theorem St.spr {T : TypeId} {cap m : Nat} {b : Option Addr} {l : List (Int × Int)} (h : St w0 w g a n c f K T (.slice b m cap) l) (hm : m = l.length) (hl : l.length ≤ 21) :
    Spr w0 w g a n c f K b m (fun j => (l.getD j (0, 0)).1) (fun j => (l.getD j (0, 0)).2) := by
  subst hm
  exact ⟨hl, own_s2 h.own rfl, fun ad e => by subst e; exact (h.own.lt ad.block rfl).1, h.src, h.gr, h.low, h.cod⟩
theorem Spr.less (h : Spr w0 w g a n c f K a' n' wd pl) {m : Nat} (hm : m ≤ n') : Spr w0 w g a n c f K a' m wd pl :=
  ⟨Nat.le_trans hm h.n21, fun h0 => by obtain ⟨b, o, e, hb, hc⟩ := h.s2 (by omega); exact ⟨b, o, e, hb, fun j hj => hc j (by omega)⟩, h.far, h.src, h.gr, h.low, h.cod⟩
/-- behind the store into the result's cell -/
theorem Spr.fin {W1 : World} (hx1 : Ext w0 W1) (hz1 : W1.heap.size = w0.heap.size + 1) (hg : g < w0.heap.size) (hcd : 0 < n → ∀ ad, a = some ad → ad.block < w0.heap.size) (h : Spr W1 w g a n c f K a' n' wd pl) (x : Value) :
    Spr w0 (w.setCell ⟨w0.heap.size, 0, none⟩ x) g a n c f K a' n' wd pl := by
  have hsz := h.gr.size
  refine ⟨h.n21, h.s2.but (grown_set _ _ _) (fun ad e e2 => by have := h.far ad e; injection e2 with e2; omega), fun ad e => by have := h.far ad e; omega, h.src.keep (grown_set _ _ _) (fun k hk => by injection hk with hk; omega) hg hcd (by omega), ?_, hg, hcd⟩
  have hgr := h.gr
  refine ⟨hgr.os.trans (Below.os hx1), hgr.tape.trans (Below.tape hx1), hgr.output.trans (Below.output hx1), by simp; omega, fun k hk hn => ?_⟩
  have h1 := (grown_set (w := w) w0.heap.size 0 x).block k (by omega) (fun e => by injection e with e; omega)
  exact (h1.trans (hgr.block k (by omega) hn)).trans (hx1.block hk)
end
end Go.Proofs.Ytaalceckofgbhaa

namespace Go.Proofs.Ytaalceckofgbhaa
open Go.RowKit
set_option linter.unusedVariables false
set_option linter.unusedSimpArgs false

end Go.Proofs.Ytaalceckofgbhaa

namespace Go.Proofs.Ytaalceckofgbhaa
open Go.RowKit
set_option linter.unusedVariables false
set_option linter.unusedSimpArgs false

end Go.Proofs.Ytaalceckofgbhaa

namespace Go.Proofs.Ytaalceckofgbhaa
open Go.RowKit
set_option linter.unusedVariables false
set_option linter.unusedSimpArgs false

theorem S2.grow {w w' : World} {a : Option Addr} {n g : Nat} {h o : Nat → Int} (s : S2 w a n h o) (hg : w.grownBy w' (some g)) (hne : ∀ ad, a = some ad → ad.block ≠ g) : S2 w' a n h o := s.but hg (fun ad e e2 => hne ad e (by injection e2))
theorem pick_at {x : Int} {n : Nat} (hn : 1 ≤ n) (h0 : 0 ≤ x) (h1 : x = 0 ∨ x < (n : Int)) : ∃ j : Nat, x = (j : Int) ∧ j < n ∧ (j : Int) < (n : Int) ∧ (0 : Int) ≤ (j : Int) := by
  obtain ⟨j, rfl⟩ := Int.eq_ofNat_of_zero_le h0
  exact ⟨j, rfl, by omega, by omega, by omega⟩
theorem Spr.ne {w0 w : World} {g : Nat} {a : Option Addr} {n c : Nat} {f : Nat → Nat} {K : Nat} {a' : Option Addr} {n' : Nat} {wd pl : Nat → Int} (h : Spr w0 w g a n c f K a' n' wd pl) : ∀ ad, a' = some ad → ad.block ≠ g := fun ad e => by have := h.far ad e; have := h.low; omega
end Go.Proofs.Ytaalceckofgbhaa

namespace Go.Proofs.Ytaalceckofgbhaa
open Go.RowKit
set_option linter.unusedVariables false
set_option linter.unusedSimpArgs false

/-- what PullAt returns -/
def paV (n : Nat) (wd pl : Nat → Int) (t : Int) : Int := if spV n wd pl && inS n wd t then pullF wd pl t else 0
def paC (n : Nat) (wd pl : Nat → Int) (t : Int) : Int := if spV n wd pl then (if inS n wd t then 0 else 2) else 1
section
variable {a : Option Addr} {n c : Nat} {wd pl : Nat → Int} {w : World}
end
end Go.Proofs.Ytaalceckofgbhaa

namespace Go.Proofs.Ytaalceckofgbhaa
open Go.RowKit
set_option linter.unusedVariables false
set_option linter.unusedSimpArgs false

/-- what EnergyBetween returns -/
def ebB (n : Nat) (wd : Nat → Int) (f t : Int) : Bool := inS n wd f && (inS n wd t && decide (f ≤ t))
def ebV (n : Nat) (wd pl : Nat → Int) (f t : Int) : Int := if spV n wd pl && ebB n wd f t then eng wd pl f (t - f).toNat else 0
def ebC (n : Nat) (wd pl : Nat → Int) (f t : Int) : Int := if spV n wd pl then (if ebB n wd f t then 0 else 2) else 1
theorem eng_le {n : Nat} {wd pl : Nat → Int} (b : SpB n wd pl) {f : Int} (hf : inS n wd f = true) {k : Nat} (hk : inS n wd (f + k) = true) : ∀ j : Nat, j ≤ k → 0 ≤ eng wd pl f j ∧ eng wd pl f j ≤ 2000000 * j := by
  intro j
  induction j with
  | zero => intro _; simp [eng]
  | succ j ih =>
    intro hj
    have h1 := ih (by omega)
    have hin : ∀ i : Nat, i ≤ k → inS n wd (f + i) = true := fun i hi => by
      have h2 := inB_t.1 hf
      have h3 := inB_t.1 hk
      exact inB_t.2 ⟨by omega, by omega⟩
    have h4 := b.pull (hin j (by omega))
    have h5 := b.pull (hin (j + 1) hj)
    have e : f + ((j + 1 : Nat) : Int) = f + (j : Int) + 1 := by omega
    rw [e] at h5
    simp only [eng]
    omega
section
variable {a : Option Addr} {n c : Nat} {wd pl : Nat → Int} {w : World}
end
end Go.Proofs.Ytaalceckofgbhaa

namespace Go.Proofs.Ytaalceckofgbhaa
open Go.RowKit
set_option linter.unusedVariables false
set_option linter.unusedSimpArgs false

theorem RunE.one {n : Nat} {w p : Nat → Int} {t need : Int} {i j : Nat} (h : RunE n w p t need i) (g : RunE n w p t need j) : i = j := by
  rcases Nat.lt_trichotomy i j with a | a | a
  · have := g.ok (i + 1) (by omega)
    have e : t - ((i + 1 : Nat) : Int) = t - i - 1 := by omega
    rw [e] at this
    exact absurd this h.no
  · exact a
  · have := h.ok (j + 1) (by omega)
    have e : t - ((j + 1 : Nat) : Int) = t - j - 1 := by omega
    rw [e] at this
    exact absurd this g.no
/-- what RunningTime returns -/
def rtB (n : Nat) (wd : Nat → Int) (t need : Int) : Bool := inS n wd t && inB need 0 1000000
def rtV (n : Nat) (wd pl : Nat → Int) (t need : Int) : Int := if spV n wd pl && rtB n wd t need && decide (need ≤ pullF wd pl t) then (runN n wd pl t need 2001 : Nat) else 0
def rtC (n : Nat) (wd pl : Nat → Int) (t need : Int) : Int := if spV n wd pl then (if rtB n wd t need then (if need ≤ pullF wd pl t then 0 else 3) else 2) else 1
theorem rt_ret {n : Nat} {wd pl : Nat → Int} {t need : Int} (h1 : spV n wd pl = true) (h2 : inS n wd t = true) (h3 : inB need 0 1000000 = true) (h4 : need ≤ pullF wd pl t) {j : Nat} (r : RunE n wd pl t need j) : (j : Int) = rtV n wd pl t need ∧ 0 = rtC n wd pl t need := by
  have b := spV_b h1
  have e := r.one (runN_end b h2 h4)
  have hb : rtB n wd t need = true := by rw [rtB, h2, h3]; rfl
  constructor
  · rw [rtV, h1, hb, decide_eq_true h4, ← e]; rfl
  · rw [rtC, h1, hb, if_pos rfl, if_pos rfl, if_pos h4]
section
variable {a : Option Addr} {n c : Nat} {wd pl : Nat → Int} {w : World}
end
end Go.Proofs.Ytaalceckofgbhaa

namespace Go.Proofs.Ytaalceckofgbhaa
open Go.RowKit
set_option linter.unusedVariables false
set_option linter.unusedSimpArgs false

section
variable {a : Option Addr} {n c : Nat} {wd pl : Nat → Int} {w : World}
end
end Go.Proofs.Ytaalceckofgbhaa

namespace Go.Proofs.Ytaalceckofgbhaa
open Go.RowKit
set_option linter.unusedVariables false
set_option linter.unusedSimpArgs false

theorem ceil_eq {m r : Int} (hr : 0 < r) : -(-m / r) = (m + r - 1) / r := by
  have h1 := Int.mul_ediv_add_emod (-m) r
  have h2 := Int.emod_nonneg (-m) (show r ≠ 0 by omega)
  have h3 := Int.emod_lt_of_pos (-m) hr
  obtain ⟨q, hq⟩ : ∃ q, q = -m / r := ⟨_, rfl⟩
  rw [← hq] at h1 ⊢
  have e4 : m + r - 1 = (r - 1 - (-m % r)) + r * (-q) := by grind
  rw [e4, Int.add_mul_ediv_left _ _ (by omega), Int.ediv_eq_zero_of_lt (by omega) (by omega)]; omega
def wfB (m r : Int) : Bool := inB m 0 1000000000 && inB r 1 10000
def wfV (m r : Int) : Int := if wfB m r then (m + r - 1) / r else 0
def wfC (m r : Int) : Int := if wfB m r then 0 else 2
end Go.Proofs.Ytaalceckofgbhaa
