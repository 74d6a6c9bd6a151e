/- Months and rules marked; marks held. Calendars: compared. Calendars: compared as wholes. Calendars marked; marks held; calendars of their own compared. The library's contracts at this seat, as the kit's tool has written them. Decimal numerals: the program's. The program's given calendars. -/
import Derived.Test.YtppphpnimecgpaaDoorBb
import Derived.Shelf.Strings.Builder1
import Derived.Shelf.Strings.Builder2
import Derived.Shelf.Strings.OnBuilder
import Derived.Shelf.Strings.BuilderF
import Derived.Shelf.Strings.Builder2Cap
import Derived.Shelf.Strconv.Itoa0
import Derived.Shelf.Strconv.Itoa1
import Derived.Shelf.LaysM
import Derived.Shelf.Strconv.Itoa2
import Derived.Shelf.Strconv.Itoa3
import Derived.Shelf.Strconv.Itoa4
import Derived.Test.YtppphpnimecgpaaDoorProg

namespace Go.Proofs.YtppphpnimecgpaaDoor
open Go.RowKit
set_option linter.unusedVariables false
set_option linter.unusedSimpArgs false

/-- the mark at place i of months, of rules -/
def mM (k0 : Nat) (i : Nat) : Value := if i % 3 = 0 then .string (markT (k0 + i)) else .int .i64 ((k0 + i : Nat) : Int)
def mR (k0 : Nat) (i : Nat) : Value := if i % 3 = 2 then .bool (decide ((k0 + i) % 3 = 0)) else .int .i64 ((k0 + i : Nat) : Int)
theorem markedF_step3 (F : Nat → Value) (xs : List Value) (j : Nat) (a b c : Value) (ha : a = F (j * 3)) (hb : b = F (j * 3 + 1)) (hc : c = F (j * 3 + 2)) : (((markedF F xs (j * 3)).set (j * 3) a).set (j * 3 + 1) b).set (j * 3 + 2) c = markedF F xs ((j + 1) * 3) := by
  subst ha hb hc
  rw [show (j + 1) * 3 = j * 3 + 1 + 1 + 1 by omega]; rfl
theorem mM_0 (k0 j : Nat) : mM k0 (j * 3) = .string (markT (k0 + j * 3)) := by rw [mM, if_pos (by omega)]
theorem mM_1 (k0 j : Nat) : mM k0 (j * 3 + 1) = .int .i64 (((k0 + j * 3 : Nat) : Int) + 1) := by rw [mM, if_neg (by omega)]; congr 1
theorem mM_2 (k0 j : Nat) : mM k0 (j * 3 + 2) = .int .i64 (((k0 + j * 3 : Nat) : Int) + 1 + 1) := by rw [mM, if_neg (by omega)]; congr 1
theorem mR_0 (k0 j : Nat) : mR k0 (j * 3) = .int .i64 ((k0 + j * 3 : Nat) : Int) := by rw [mR, if_neg (by omega)]
theorem mR_1 (k0 j : Nat) : mR k0 (j * 3 + 1) = .int .i64 (((k0 + j * 3 : Nat) : Int) + 1) := by rw [mR, if_neg (by omega)]; congr 1
theorem mR_2 (k0 j : Nat) : mR k0 (j * 3 + 2) = .bool (((((k0 + j * 3 : Nat) : Int) + 1 + 1) % 3) == 0) := by
  rw [mR, if_pos (by omega)]; congr 1
  rw [Bool.eq_iff_iff]; simp; omega
set_option maxHeartbeats 1000000 in
theorem markMonthS_c (a : Option Addr) (n c base : Nat) (k0 : Nat) (xs : List Value) (w : World) (hn : n ≤ 1000) (h1 : k0 ≤ 1048576) (hs : w.ownsRow base 63 3 (.slice a n c) n xs) :
    Calls Tryd.prog 42 #[.slice a n c, .int .i64 (k0 : Nat)] w fun e w' => e = .returned (.int .i64 ((k0 + n * 3 : Nat) : Int)) ∧ w'.ownsRow base 63 3 (.slice a n c) n (markedF (mM k0) xs (n * 3)) ∧ w.grownBy w' (Value.slice a n c).ownBlock := by
  have HS := Lib.hid hs
  have hl : xs.length = n * 3 := by simpa using hs.1
  clear hs
  go_enter Tryd.func42, Tryd.ntmps42
  go_wp2_with fail
  go_loopw [1, 5] (fun q i wr => ∃ j : Nat, j ≤ n ∧ i = .int .i64 j ∧ q = .int .i64 ((k0 + j * 3 : Nat) : Int) ∧ wr.ownsRow base 63 3 (.slice a n c) n (markedF (mM k0) xs (j * 3)) ∧ w.grownBy wr (Value.slice a n c).ownBlock) (fun _ i _ => n - (intOf i).toNat)
  case atStart => exact ⟨0, by omega, rfl, by simp, HS.out, World.grownBy.refl _ _⟩
  case round =>
    obtain ⟨j, hj, rfl, rfl, ho, hg⟩ := hrel
    obtain ⟨K, hK⟩ : ∃ K, K = k0 + j * 3 := ⟨_, rfl⟩
    rw [← hK]
    have HK := Lib.hid hK
    by_cases hlt : j < n
    · obtain ⟨g, rfl, hb1, hb2, hc⟩ := own_atK ho (by omega)
      have HO := Lib.hid ho
      have HG := Lib.hid hg
      have hex : ∀ i, i < n * 3 → ∃ v, wr.cell? ⟨g, i, none⟩ = some v := fun i hi => ⟨(markedF (mM k0) xs (j * 3))[i]'(by rw [markedF_length]; omega), by rw [(hc i hi).1]; exact List.getElem?_eq_getElem _⟩
      obtain ⟨v0, q0⟩ := hex (j * 3) (by omega)
      obtain ⟨v1, q1⟩ := hex (j * 3 + 1) (by omega)
      obtain ⟨v2, q2⟩ := hex (j * 3 + 2) (by omega)
      have f0 := (hc (j * 3) (by omega)).2
      have f1 := (hc (j * 3 + 1) (by omega)).2
      have f2 := (hc (j * 3 + 2) (by omega)).2
      have hKb : K ≤ 2000000 := by omega
      clear hc hex ho hg hK
      go_wp2_with (go_at_call 63; ((with_reducible refine (markText_c _ _ (by omega)).mono ?_); rintro e w' ⟨rfl, hx⟩; (first | (obtain ⟨wx, rfl⟩ := Past.again hx) | (obtain ⟨wx, rfl⟩ := Past.ofd hx) | (obtain ⟨wx, rfl⟩ := Past.of hx))))
      refine ⟨⟨j + 1, by omega, by go_num, congrArg _ (by have := HK.out; omega), ?_, ?_⟩, by simp [intOf]; omega⟩
      · have := own_set (j := j * 3 + 2) (own_set (j := j * 3 + 1) (own_set (j := j * 3) (own_ext HO.out (Past.bel wx)) (.string (markT K))) (.int .i64 ((K : Int) + 1))) (.int .i64 ((K : Int) + 1 + 1))
        rw [markedF_step3 (mM k0) xs j _ _ _ (by rw [mM_0, HK.out]) (by rw [mM_1, HK.out]) (by rw [mM_2, HK.out])] at this
        exact this
      · exact grown_trans (grown_trans (grown_trans (grown_trans HG.out (grown_weak (ext_grown (Past.bel wx)))) (grown_set _ _ _)) (grown_set _ _ _)) (grown_set _ _ _)
    · obtain rfl : j = n := by omega
      have HO := Lib.hid ho
      have HG := Lib.hid hg
      clear ho hg hK
      go_wp2_with fail
      go_ret
      exact ⟨by have := HK.out; subst this; rfl, HO.out, HG.out⟩
set_option maxHeartbeats 1000000 in
theorem markLeapRuleS_c (a : Option Addr) (n c base : Nat) (k0 : Nat) (xs : List Value) (w : World) (hn : n ≤ 1000) (h1 : k0 ≤ 1048576) (hs : w.ownsRow base 67 3 (.slice a n c) n xs) :
    Calls Tryd.prog 43 #[.slice a n c, .int .i64 (k0 : Nat)] w fun e w' => e = .returned (.int .i64 ((k0 + n * 3 : Nat) : Int)) ∧ w'.ownsRow base 67 3 (.slice a n c) n (markedF (mR k0) xs (n * 3)) ∧ w.grownBy w' (Value.slice a n c).ownBlock := by
  have HS := Lib.hid hs
  have hl : xs.length = n * 3 := by simpa using hs.1
  clear hs
  go_enter Tryd.func43, Tryd.ntmps43
  go_wp2_with fail
  go_loopw [1, 5] (fun q i wr => ∃ j : Nat, j ≤ n ∧ i = .int .i64 j ∧ q = .int .i64 ((k0 + j * 3 : Nat) : Int) ∧ wr.ownsRow base 67 3 (.slice a n c) n (markedF (mR k0) xs (j * 3)) ∧ w.grownBy wr (Value.slice a n c).ownBlock) (fun _ i _ => n - (intOf i).toNat)
  case atStart => exact ⟨0, by omega, rfl, by simp, HS.out, World.grownBy.refl _ _⟩
  case round =>
    obtain ⟨j, hj, rfl, rfl, ho, hg⟩ := hrel
    obtain ⟨K, hK⟩ : ∃ K, K = k0 + j * 3 := ⟨_, rfl⟩
    rw [← hK]
    have HK := Lib.hid hK
    by_cases hlt : j < n
    · obtain ⟨g, rfl, hb1, hb2, hc⟩ := own_atK ho (by omega)
      have HO := Lib.hid ho
      have HG := Lib.hid hg
      have hex : ∀ i, i < n * 3 → ∃ v, wr.cell? ⟨g, i, none⟩ = some v := fun i hi => ⟨(markedF (mR k0) xs (j * 3))[i]'(by rw [markedF_length]; omega), by rw [(hc i hi).1]; exact List.getElem?_eq_getElem _⟩
      obtain ⟨v0, q0⟩ := hex (j * 3) (by omega)
      obtain ⟨v1, q1⟩ := hex (j * 3 + 1) (by omega)
      obtain ⟨v2, q2⟩ := hex (j * 3 + 2) (by omega)
      have f0 := (hc (j * 3) (by omega)).2
      have f1 := (hc (j * 3 + 1) (by omega)).2
      have f2 := (hc (j * 3 + 2) (by omega)).2
      have hKb : K ≤ 2000000 := by omega
      have hsz := hb2
      obtain ⟨B, hB⟩ : ∃ B, B = ((((K : Int) + 1 + 1) % 3) == 0) := ⟨_, rfl⟩
      have HB := Lib.hid hB
      clear hc hex ho hg hK hB
      go_wp2_with fail
      refine ⟨⟨j + 1, by omega, by go_num, congrArg _ (by have := HK.out; omega), ?_, ?_⟩, by simp [intOf]; omega⟩
      · have := own_set (j := j * 3 + 2) (own_set (j := j * 3 + 1) (own_set (j := j * 3) HO.out (.int .i64 (K : Int))) (.int .i64 ((K : Int) + 1))) (.bool ((((K : Int) + 1 + 1) % 3) == 0))
        rw [markedF_step3 (mR k0) xs j _ _ _ (by rw [mR_0, HK.out]) (by rw [mR_1, HK.out]) (by rw [mR_2, HK.out])] at this
        exact this
      · exact grown_trans (grown_trans (grown_trans HG.out (grown_set _ _ _)) (grown_set _ _ _)) (grown_set _ _ _)
    · obtain rfl : j = n := by omega
      have HO := Lib.hid ho
      have HG := Lib.hid hg
      clear ho hg hK
      go_wp2_with fail
      go_ret
      exact ⟨by have := HK.out; subst this; rfl, HO.out, HG.out⟩
set_option maxHeartbeats 1000000 in
theorem heldMonthS_c (a : Option Addr) (n c base : Nat) (k0 : Nat) (xs : List Value) (w : World) (hn : n ≤ 1000) (h1 : k0 ≤ 1048576) (hx : xs.length = n * 3) (hs : w.ownsRow base 63 3 (.slice a n c) n (markedF (mM k0) xs (n * 3))) :
    Calls Tryd.prog 44 #[.slice a n c, .int .i64 (k0 : Nat)] w fun e w' => e = .returned (.int .i64 ((k0 + n * 3 : Nat) : Int)) ∧ Ext w w' := by
  have HS := Lib.hid hs
  clear hs
  go_enter Tryd.func44, Tryd.ntmps44
  go_wp2_with fail
  go_loopw [1, 5] (fun q i wr => ∃ j : Nat, j ≤ n ∧ i = .int .i64 j ∧ q = .int .i64 ((k0 + j * 3 : Nat) : Int) ∧ Ext w wr) (fun _ i _ => n - (intOf i).toNat)
  case atStart => exact ⟨0, by omega, rfl, by simp, (by repeat (first | with_reducible exact Ext.refl _ | with_reducible assumption | with_reducible refine Ext.alloc ?_ _ | with_reducible refine Ext.drew ?_ | (with_reducible refine Ext.setAt ?_ _ _ _ ?_; rotate_left; omega) | with_reducible refine Ext.trans ?_ (by assumption) | with_reducible exact Past.bel _ | with_reducible refine Ext.trans ?_ (Past.bel _)))⟩
  case round =>
    obtain ⟨j, hj, rfl, rfl, hbl⟩ := hrel
    obtain ⟨K, hK⟩ : ∃ K, K = k0 + j * 3 := ⟨_, rfl⟩
    rw [← hK]
    have HK := Lib.hid hK
    by_cases hlt : j < n
    · obtain ⟨g, rfl, hb1, hb2, hc⟩ := own_atK (own_ext HS.out hbl) (by omega)
      have q0 : wr.cell? ⟨g, j * 3, none⟩ = some (.string (markT K)) := by rw [(hc _ (by omega)).1, markedF_at _ _ (by omega) (by omega), mM_0, ← hK]
      have q1 : wr.cell? ⟨g, j * 3 + 1, none⟩ = some (.int .i64 ((K : Int) + 1)) := by rw [(hc _ (by omega)).1, markedF_at _ _ (by omega) (by omega), mM_1, ← hK]
      have q2 : wr.cell? ⟨g, j * 3 + 2, none⟩ = some (.int .i64 ((K : Int) + 1 + 1)) := by rw [(hc _ (by omega)).1, markedF_at _ _ (by omega) (by omega), mM_2, ← hK]
      have hKb : K ≤ 2000000 := by omega
      clear hc hK
      go_wp2_with fail
      refine wp_region_past (by kernel_rfl) (by kernel_rfl) ?_
      repeat (go_big_quiet_step ((go_at_call 63; exact Calls.past (markText_c _ _ (by omega)))))
      refine wpQuiet_nil ?_
      rintro _ ⟨wx, rfl⟩
      go_wp2_with fail
      exact ⟨⟨j + 1, by omega, by go_num, congrArg _ (by have := HK.out; omega), (by repeat (first | with_reducible exact Ext.refl _ | with_reducible assumption | with_reducible refine Ext.alloc ?_ _ | with_reducible refine Ext.drew ?_ | (with_reducible refine Ext.setAt ?_ _ _ _ ?_; rotate_left; omega) | with_reducible refine Ext.trans ?_ (by assumption) | with_reducible exact Past.bel _ | with_reducible refine Ext.trans ?_ (Past.bel _)))⟩, by simp [intOf]; omega⟩
    · obtain rfl : j = n := by omega
      clear hK
      go_wp2_with fail
      go_ret
      exact ⟨by have := HK.out; subst this; rfl, (by repeat (first | with_reducible exact Ext.refl _ | with_reducible assumption | with_reducible refine Ext.alloc ?_ _ | with_reducible refine Ext.drew ?_ | (with_reducible refine Ext.setAt ?_ _ _ _ ?_; rotate_left; omega) | with_reducible refine Ext.trans ?_ (by assumption) | with_reducible exact Past.bel _ | with_reducible refine Ext.trans ?_ (Past.bel _)))⟩
set_option maxHeartbeats 1000000 in
theorem heldLeapRuleS_c (a : Option Addr) (n c base : Nat) (k0 : Nat) (xs : List Value) (w : World) (hn : n ≤ 1000) (h1 : k0 ≤ 1048576) (hx : xs.length = n * 3) (hs : w.ownsRow base 67 3 (.slice a n c) n (markedF (mR k0) xs (n * 3))) :
    Calls Tryd.prog 45 #[.slice a n c, .int .i64 (k0 : Nat)] w fun e w' => e = .returned (.int .i64 ((k0 + n * 3 : Nat) : Int)) ∧ w = w' := by
  have HS := Lib.hid hs
  clear hs
  go_enter Tryd.func45, Tryd.ntmps45
  go_wp2_with fail
  go_loop [1, 5] (fun q i => ∃ j : Nat, j ≤ n ∧ i = .int .i64 j ∧ q = .int .i64 ((k0 + j * 3 : Nat) : Int)) (fun _ i => n - (intOf i).toNat)
  case atStart => exact ⟨0, by omega, rfl, by simp⟩
  case round =>
    obtain ⟨j, hj, rfl, rfl⟩ := hrel
    obtain ⟨K, hK⟩ : ∃ K, K = k0 + j * 3 := ⟨_, rfl⟩
    rw [← hK]
    have HK := Lib.hid hK
    by_cases hlt : j < n
    · obtain ⟨g, rfl, hb1, hb2, hc⟩ := own_atK HS.out (by omega)
      have q0 : w.cell? ⟨g, j * 3, none⟩ = some (.int .i64 (K : Int)) := by rw [(hc _ (by omega)).1, markedF_at _ _ (by omega) (by omega), mR_0, ← hK]
      have q1 : w.cell? ⟨g, j * 3 + 1, none⟩ = some (.int .i64 ((K : Int) + 1)) := by rw [(hc _ (by omega)).1, markedF_at _ _ (by omega) (by omega), mR_1, ← hK]
      have q2 : w.cell? ⟨g, j * 3 + 2, none⟩ = some (.bool ((((K : Int) + 1 + 1) % 3) == 0)) := by rw [(hc _ (by omega)).1, markedF_at _ _ (by omega) (by omega), mR_2, ← hK]
      have hKb : K ≤ 2000000 := by omega
      clear hc hK
      go_wp2_with fail
      exact ⟨⟨j + 1, by omega, by go_num, congrArg _ (by have := HK.out; omega)⟩, by simp [intOf]; omega⟩
    · obtain rfl : j = n := by omega
      clear hK
      go_wp2_with fail
      go_ret
      exact ⟨by have := HK.out; subst this; rfl, rfl⟩
end Go.Proofs.YtppphpnimecgpaaDoor

namespace Go.Proofs.YtppphpnimecgpaaDoor
open Go.RowKit
set_option linter.unusedVariables false
set_option linter.unusedSimpArgs false

theorem eqMonth_self (s : ByteArray) (a b : Int) (w : World) :
    Calls Tryd.prog 61 #[.agg #[.string s, .int .i64 a, .int .i64 b], .agg #[.string s, .int .i64 a, .int .i64 b]] w fun e w' => e = .returned (.bool true) ∧ Ext w w' := by
  go_enter Tryd.func61, Tryd.ntmps61
  go_wp2
  go_ret
  exact ⟨rfl, (by repeat (first | with_reducible exact Ext.refl _ | with_reducible assumption | with_reducible refine Ext.alloc ?_ _ | with_reducible refine Ext.drew ?_ | (with_reducible refine Ext.setAt ?_ _ _ _ ?_; rotate_left; omega) | with_reducible refine Ext.trans ?_ (by assumption) | with_reducible exact Past.bel _ | with_reducible refine Ext.trans ?_ (Past.bel _)))⟩
theorem eqLeapRule_self (a b : Int) (l : Bool) (w : World) :
    Calls Tryd.prog 62 #[.agg #[.int .i64 a, .int .i64 b, .bool l], .agg #[.int .i64 a, .int .i64 b, .bool l]] w fun e w' => e = .returned (.bool true) ∧ Ext w w' := by
  go_enter Tryd.func62, Tryd.ntmps62
  go_wp2
  go_ret
  exact ⟨rfl, (by repeat (first | with_reducible exact Ext.refl _ | with_reducible assumption | with_reducible refine Ext.alloc ?_ _ | with_reducible refine Ext.drew ?_ | (with_reducible refine Ext.setAt ?_ _ _ _ ?_; rotate_left; omega) | with_reducible refine Ext.trans ?_ (by assumption) | with_reducible exact Past.bel _ | with_reducible refine Ext.trans ?_ (Past.bel _)))⟩
set_option maxHeartbeats 400000 in
theorem eqMonthS_self (aa ab : Option Addr) (n ca cb : Nat) (nm : Nat → ByteArray) (dy lp : Nat → Int) (w : World) (hn : n ≤ 1048576) (ha : S3 w aa n nm dy lp) (hb : S3 w ab n nm dy lp) :
    Calls Tryd.prog 40 #[.slice aa n ca, .slice ab n cb] w fun e w' => e = .returned (.bool true) ∧ Ext w w' := by
  have HA := Lib.hid ha
  have HB := Lib.hid hb
  clear ha hb
  go_enter Tryd.func40, Tryd.ntmps40
  go_wp2_with fail
  go_loopw [5] (fun i wr => ∃ k : Nat, k ≤ n ∧ i = .int .i64 k ∧ Ext w wr) (fun i _ => n - (intOf i).toNat)
  case atStart => exact ⟨0, by omega, rfl, Ext.refl _⟩
  case round =>
    obtain ⟨k, hk, rfl, hbl⟩ := hrel
    by_cases hlt : k < n
    · obtain ⟨b1, o1, rfl, hb1, q1, q2, q3⟩ := (S3.ext HA.out hbl).at hlt
      obtain ⟨b2, o2, rfl, hb2, q4, q5, q6⟩ := (S3.ext HB.out hbl).at hlt
      go_wp2_with fail
      refine wp_region_past (by kernel_rfl) (by kernel_rfl) ?_
      repeat (go_big_quiet_step ((go_at_call 61; exact Calls.past (eqMonth_self _ _ _ _))))
      refine wpQuiet_nil ?_
      rintro _ ⟨wx, rfl⟩
      go_wp2_with fail
      exact ⟨⟨k + 1, by omega, by go_num, (by repeat (first | with_reducible exact Ext.refl _ | with_reducible assumption | with_reducible refine Ext.alloc ?_ _ | with_reducible refine Ext.drew ?_ | (with_reducible refine Ext.setAt ?_ _ _ _ ?_; rotate_left; omega) | with_reducible refine Ext.trans ?_ (by assumption) | with_reducible exact Past.bel _ | with_reducible refine Ext.trans ?_ (Past.bel _)))⟩, by simp [intOf]; omega⟩
    · obtain rfl : k = n := by omega
      go_wp2_with fail
      go_ret
      exact ⟨rfl, hbl⟩
set_option maxHeartbeats 400000 in
theorem eqLeapRuleS_self (aa ab : Option Addr) (n ca cb : Nat) (ev rs : Nat → Int) (lf : Nat → Bool) (w : World) (hn : n ≤ 1048576) (ha : R3 w aa n ev rs lf) (hb : R3 w ab n ev rs lf) :
    Calls Tryd.prog 41 #[.slice aa n ca, .slice ab n cb] w fun e w' => e = .returned (.bool true) ∧ Ext w w' := by
  have HA := Lib.hid ha
  have HB := Lib.hid hb
  clear ha hb
  go_enter Tryd.func41, Tryd.ntmps41
  go_wp2_with fail
  go_loopw [5] (fun i wr => ∃ k : Nat, k ≤ n ∧ i = .int .i64 k ∧ Ext w wr) (fun i _ => n - (intOf i).toNat)
  case atStart => exact ⟨0, by omega, rfl, Ext.refl _⟩
  case round =>
    obtain ⟨k, hk, rfl, hbl⟩ := hrel
    by_cases hlt : k < n
    · obtain ⟨b1, o1, rfl, hb1, q1, q2, q3⟩ := (R3.ext HA.out hbl).at hlt
      obtain ⟨b2, o2, rfl, hb2, q4, q5, q6⟩ := (R3.ext HB.out hbl).at hlt
      go_wp2_with fail
      refine wp_region_past (by kernel_rfl) (by kernel_rfl) ?_
      repeat (go_big_quiet_step ((go_at_call 62; exact Calls.past (eqLeapRule_self _ _ _ _))))
      refine wpQuiet_nil ?_
      rintro _ ⟨wx, rfl⟩
      go_wp2_with fail
      exact ⟨⟨k + 1, by omega, by go_num, (by repeat (first | with_reducible exact Ext.refl _ | with_reducible assumption | with_reducible refine Ext.alloc ?_ _ | with_reducible refine Ext.drew ?_ | (with_reducible refine Ext.setAt ?_ _ _ _ ?_; rotate_left; omega) | with_reducible refine Ext.trans ?_ (by assumption) | with_reducible exact Past.bel _ | with_reducible refine Ext.trans ?_ (Past.bel _)))⟩, by simp [intOf]; omega⟩
    · obtain rfl : k = n := by omega
      go_wp2_with fail
      go_ret
      exact ⟨rfl, hbl⟩
end Go.Proofs.YtppphpnimecgpaaDoor

namespace Go.Proofs.YtppphpnimecgpaaDoor
open Go.RowKit
set_option linter.unusedVariables false
set_option linter.unusedSimpArgs false

set_option maxHeartbeats 400000 in
theorem eqCalendar_self (s : ByteArray) (m1 r1 m2 r2 : Option Addr) (c1 d1 c2 d2 : Nat) (wk : Int) (nm : Nat → ByteArray) (c : CalN) (w : World) (hm : c.n ≤ 1048576) (hr : c.nr ≤ 1048576) (h1 : CalM w m1 r1 nm c) (h2 : CalM w m2 r2 nm c) :
    Calls Tryd.prog 20 #[.agg #[.string s, .slice m1 c.n c1, .slice r1 c.nr d1, .int .i64 wk], .agg #[.string s, .slice m2 c.n c2, .slice r2 c.nr d2, .int .i64 wk]] w fun e w' => e = .returned (.bool true) ∧ Ext w w' := by
  have H1 := Lib.hid h1
  have H2 := Lib.hid h2
  clear h1 h2
  go_enter Tryd.func20, Tryd.ntmps20
  go_wp2_with fail
  refine (eqMonthS_self _ _ _ _ _ _ _ _ _ hm (H1.out.mo.ext (by repeat (first | with_reducible exact Ext.refl _ | with_reducible assumption | with_reducible refine Ext.alloc ?_ _ | with_reducible refine Ext.drew ?_ | (with_reducible refine Ext.setAt ?_ _ _ _ ?_; rotate_left; omega) | with_reducible refine Ext.trans ?_ (by assumption) | with_reducible exact Past.bel _ | with_reducible refine Ext.trans ?_ (Past.bel _)))) (H2.out.mo.ext (by repeat (first | with_reducible exact Ext.refl _ | with_reducible assumption | with_reducible refine Ext.alloc ?_ _ | with_reducible refine Ext.drew ?_ | (with_reducible refine Ext.setAt ?_ _ _ _ ?_; rotate_left; omega) | with_reducible refine Ext.trans ?_ (by assumption) | with_reducible exact Past.bel _ | with_reducible refine Ext.trans ?_ (Past.bel _))))).mono ?_
  rintro e w1 ⟨rfl, hx1⟩
  have e1 : ∀ k v, k < 4 → ((w.alloc (.cells #[.string s, .slice m1 c.n c1, .slice r1 c.nr d1, .int .i64 wk] 42)).alloc (.cells #[.string s, .slice m2 c.n c2, .slice r2 c.nr d2, .int .i64 wk] 42)).cell? ⟨w.heap.size, k, none⟩ = some v → w1.cell? ⟨w.heap.size, k, none⟩ = some v := fun k v _ h => by rw [hx1.cell (by simp <;> omega)]; exact h
  have e2 : ∀ k v, k < 4 → ((w.alloc (.cells #[.string s, .slice m1 c.n c1, .slice r1 c.nr d1, .int .i64 wk] 42)).alloc (.cells #[.string s, .slice m2 c.n c2, .slice r2 c.nr d2, .int .i64 wk] 42)).cell? ⟨w.heap.size + 1, k, none⟩ = some v → w1.cell? ⟨w.heap.size + 1, k, none⟩ = some v := fun k v _ h => by rw [hx1.cell (by simp <;> omega)]; exact h
  have a2 := e1 2 (.slice r1 c.nr d1) (by omega) (by simp [go_sem])
  have a3 := e1 3 (.int .i64 wk) (by omega) (by simp [go_sem])
  have b2 := e2 2 (.slice r2 c.nr d2) (by omega) (by simp [go_sem])
  have b3 := e2 3 (.int .i64 wk) (by omega) (by simp [go_sem])
  have z1 := hx1.size
  simp only [World.size_alloc] at z1
  have hxw : Ext w w1 := Ext.trans (by repeat (first | with_reducible exact Ext.refl _ | with_reducible assumption | with_reducible refine Ext.alloc ?_ _ | with_reducible refine Ext.drew ?_ | (with_reducible refine Ext.setAt ?_ _ _ _ ?_; rotate_left; omega) | with_reducible refine Ext.trans ?_ (by assumption) | with_reducible exact Past.bel _ | with_reducible refine Ext.trans ?_ (Past.bel _))) hx1
  clear e1 e2 hx1
  have g0 : w.heap.size < w1.heap.size := by omega
  have g1 : w.heap.size + 1 < w1.heap.size := by omega
  go_wp2_with fail
  refine (eqLeapRuleS_self _ _ _ _ _ _ _ _ _ hr (H1.out.ru.ext (by repeat (first | with_reducible exact Ext.refl _ | with_reducible assumption | with_reducible refine Ext.alloc ?_ _ | with_reducible refine Ext.drew ?_ | (with_reducible refine Ext.setAt ?_ _ _ _ ?_; rotate_left; omega) | with_reducible refine Ext.trans ?_ (by assumption) | with_reducible exact Past.bel _ | with_reducible refine Ext.trans ?_ (Past.bel _)))) (H2.out.ru.ext (by repeat (first | with_reducible exact Ext.refl _ | with_reducible assumption | with_reducible refine Ext.alloc ?_ _ | with_reducible refine Ext.drew ?_ | (with_reducible refine Ext.setAt ?_ _ _ _ ?_; rotate_left; omega) | with_reducible refine Ext.trans ?_ (by assumption) | with_reducible exact Past.bel _ | with_reducible refine Ext.trans ?_ (Past.bel _))))).mono ?_
  rintro e w2 ⟨rfl, hx2⟩
  have u3 : w2.cell? ⟨w.heap.size, 3, none⟩ = some (.int .i64 wk) := by rw [hx2.cell g0]; exact a3
  have v3 : w2.cell? ⟨w.heap.size + 1, 3, none⟩ = some (.int .i64 wk) := by rw [hx2.cell g1]; exact b3
  go_wp2_with fail
  go_ret
  exact ⟨rfl, (by repeat (first | with_reducible exact Ext.refl _ | with_reducible assumption | with_reducible refine Ext.alloc ?_ _ | with_reducible refine Ext.drew ?_ | (with_reducible refine Ext.setAt ?_ _ _ _ ?_; rotate_left; omega) | with_reducible refine Ext.trans ?_ (by assumption) | with_reducible exact Past.bel _ | with_reducible refine Ext.trans ?_ (Past.bel _)))⟩
end Go.Proofs.YtppphpnimecgpaaDoor

namespace Go.Proofs.YtppphpnimecgpaaDoor
open Go.RowKit
set_option linter.unusedVariables false
set_option linter.unusedSimpArgs false

theorem eqCal_own {w : World} {b1 b2 b3 b4 : Nat} {M : List Mo} {R : List Ru} {a1 a2 a3 a4 : Option Addr} {c1 c2 c3 c4 : Nat} (nm : ByteArray) (wk : Int) (hM : M.length ≤ 1000) (hR : R.length ≤ 1000)
    (h1 : w.ownsRow b1 63 3 (.slice a1 M.length c1) M.length (MT M)) (h2 : w.ownsRow b2 67 3 (.slice a2 R.length c2) R.length (RT R)) (h3 : w.ownsRow b3 63 3 (.slice a3 M.length c3) M.length (MT M)) (h4 : w.ownsRow b4 67 3 (.slice a4 R.length c4) R.length (RT R)) :
    Calls Tryd.prog 20 #[.agg #[.string nm, .slice a1 M.length c1, .slice a2 R.length c2, .int .i64 wk], .agg #[.string nm, .slice a3 M.length c3, .slice a4 R.length c4, .int .i64 wk]] w fun e w' => e = .returned (.bool true) ∧ Ext w w' :=
  eqCalendar_self nm a1 a2 a3 a4 c1 c2 c3 c4 wk (nmOf M) (calOf M R) w (Nat.le_trans hM (by decide)) (Nat.le_trans hR (by decide)) (own_calM h1 h2) (own_calM h3 h4)
set_option maxHeartbeats 1000000 in
theorem markCal_c (a1 a2 : Option Addr) (n1 n2 c1 c2 b1 b2 : Nat) (nm : ByteArray) (wk : Int) (xs ys : List Value) (w : World) (hn1 : n1 ≤ 1000) (hn2 : n2 ≤ 1000) (h1 : w.ownsRow b1 63 3 (.slice a1 n1 c1) n1 xs) (h2 : w.ownsRow b2 67 3 (.slice a2 n2 c2) n2 ys)
    (ap : ((Value.slice a1 n1 c1).ownBlock = none ∨ (Value.slice a1 n1 c1).ownBlock ≠ (Value.slice a2 n2 c2).ownBlock) ∧ ((Value.slice a2 n2 c2).ownBlock = none ∨ (Value.slice a2 n2 c2).ownBlock ≠ (Value.slice a1 n1 c1).ownBlock)) :
    Calls Tryd.prog 21 #[.agg #[.string nm, .slice a1 n1 c1, .slice a2 n2 c2, .int .i64 wk], .int .i64 1] w fun e w' => e = .returned (.int .i64 ((1 + n1 * 3 + n2 * 3 : Nat) : Int)) ∧ w'.ownsRow b1 63 3 (.slice a1 n1 c1) n1 (markedF (mM 1) xs (n1 * 3)) ∧ w'.ownsRow b2 67 3 (.slice a2 n2 c2) n2 (markedF (mR (1 + n1 * 3)) ys (n2 * 3)) ∧
      ∃ wm, w.grownBy wm (Value.slice a1 n1 c1).ownBlock ∧ wm.grownBy w' (Value.slice a2 n2 c2).ownBlock := by
  have H1 := Lib.hid h1
  have H2 := Lib.hid h2
  have AP := Lib.hid ap
  clear h1 h2 ap
  go_enter Tryd.func21, Tryd.ntmps21
  go_wp2_with fail
  refine (markMonthS_c a1 n1 c1 b1 1 xs _ hn1 (by omega) (own_ext H1.out (by repeat (first | with_reducible exact Ext.refl _ | with_reducible assumption | with_reducible refine Ext.alloc ?_ _ | with_reducible refine Ext.drew ?_ | (with_reducible refine Ext.setAt ?_ _ _ _ ?_; rotate_left; omega) | with_reducible refine Ext.trans ?_ (by assumption) | with_reducible exact Past.bel _ | with_reducible refine Ext.trans ?_ (Past.bel _))))).mono ?_
  rintro e w1 ⟨rfl, ho1, hg1⟩
  have B0 := Blk.new w #[.string nm, .slice a1 n1 c1, .slice a2 n2 c2, .int .i64 wk] 42
  obtain ⟨k1, k2, k3, k4, k5, k6, k7, k8, k9⟩ := (B0.grown hg1 (fun e => by have := (H1.out.lt _ e.symm).2; omega)).cel
  have G1 := Lib.hid (grown_trans (grown_weak (ext_grown ((Ext.refl w).alloc (.cells #[.string nm, .slice a1 n1 c1, .slice a2 n2 c2, .int .i64 wk] 42)))) hg1)
  have O1 := Lib.hid ho1
  have O2 := Lib.hid ((own_ext (w' := w.alloc _) H2.out ((Ext.refl _).alloc (.cells #[.string nm, .slice a1 n1 c1, .slice a2 n2 c2, .int .i64 wk] 42))).kept hg1 AP.out.2)
  obtain ⟨K, hK⟩ : ∃ K, K = 1 + n1 * 3 := ⟨_, rfl⟩
  rw [← hK]
  have HK := Lib.hid hK
  have hKb : K ≤ 3001 := by omega
  clear B0 hg1 ho1 hK
  go_wp2_with fail
  refine (markLeapRuleS_c a2 n2 c2 b2 K ys _ hn2 (by omega) O2.out).mono ?_
  rintro e w2 ⟨rfl, ho2, hg2⟩
  have P1 := Lib.hid (O1.out.kept hg2 AP.out.1)
  have P2 := Lib.hid ho2
  have G2 := Lib.hid hg2
  clear ho2 hg2
  go_wp2_with fail
  go_ret
  exact ⟨ret_i64 (by have := HK.out; subst this; simp), P1.out, by rw [← HK.out]; exact P2.out, _, G1.out, G2.out⟩
set_option maxHeartbeats 1000000 in
theorem heldCal_c (a1 a2 : Option Addr) (n1 n2 c1 c2 b1 b2 : Nat) (nm : ByteArray) (wk : Int) (xs ys : List Value) (w : World) (hn1 : n1 ≤ 1000) (hn2 : n2 ≤ 1000) (hx : xs.length = n1 * 3) (hy : ys.length = n2 * 3) (h1 : w.ownsRow b1 63 3 (.slice a1 n1 c1) n1 (markedF (mM 1) xs (n1 * 3))) (h2 : w.ownsRow b2 67 3 (.slice a2 n2 c2) n2 (markedF (mR (1 + n1 * 3)) ys (n2 * 3))) :
    Calls Tryd.prog 22 #[.agg #[.string nm, .slice a1 n1 c1, .slice a2 n2 c2, .int .i64 wk], .int .i64 1] w fun e w' => e = .returned (.int .i64 ((1 + n1 * 3 + n2 * 3 : Nat) : Int)) ∧ Ext w w' := by
  have H1 := Lib.hid h1
  have H2 := Lib.hid h2
  clear h1 h2
  go_enter Tryd.func22, Tryd.ntmps22
  go_wp2_with fail
  refine (heldMonthS_c a1 n1 c1 b1 1 xs _ hn1 (by omega) hx (own_ext H1.out (by repeat (first | with_reducible exact Ext.refl _ | with_reducible assumption | with_reducible refine Ext.alloc ?_ _ | with_reducible refine Ext.drew ?_ | (with_reducible refine Ext.setAt ?_ _ _ _ ?_; rotate_left; omega) | with_reducible refine Ext.trans ?_ (by assumption) | with_reducible exact Past.bel _ | with_reducible refine Ext.trans ?_ (Past.bel _))))).mono ?_
  rintro e w1 ⟨rfl, hx1⟩
  obtain ⟨k1, k2, k3, k4, k5, k6, k7, k8, k9⟩ := ((Blk.new w #[.string nm, .slice a1 n1 c1, .slice a2 n2 c2, .int .i64 wk] 42).ext hx1).cel
  have e1 : Ext w w1 := Ext.trans (by repeat (first | with_reducible exact Ext.refl _ | with_reducible assumption | with_reducible refine Ext.alloc ?_ _ | with_reducible refine Ext.drew ?_ | (with_reducible refine Ext.setAt ?_ _ _ _ ?_; rotate_left; omega) | with_reducible refine Ext.trans ?_ (by assumption) | with_reducible exact Past.bel _ | with_reducible refine Ext.trans ?_ (Past.bel _))) hx1
  obtain ⟨K, hK⟩ : ∃ K, K = 1 + n1 * 3 := ⟨_, rfl⟩
  have HK := Lib.hid hK
  rw [← hK] at H2
  rw [← hK]
  have hKb : K ≤ 3001 := by omega
  have y0 : ¬ (K : Int) < 0 := by omega
  clear hK hx1
  go_wp2_with fail
  refine (heldLeapRuleS_c a2 n2 c2 b2 K ys _ hn2 (by omega) hy (own_ext H2.out e1)).mono ?_
  rintro e w2 ⟨rfl, rfl⟩
  obtain ⟨L, hL⟩ : ∃ L, L = K + n2 * 3 := ⟨_, rfl⟩
  rw [← hL]
  have y1 : ¬ (L : Int) < 0 := by omega
  have HL := Lib.hid hL
  clear hL
  go_wp2_with fail
  go_ret
  exact ⟨ret_i64 (by have h1 := HL.out; have h2 := HK.out; omega), e1⟩
end Go.Proofs.YtppphpnimecgpaaDoor

namespace Go.Proofs
open Go.Shelf
def Tryd.lays169_ren : Go.Shelf.Ren := ⟨fun | 169 => 54 | n => n, fun | 70 => 80 | 9 => 9 | 0 => 0 | 72 => 83 | 37 => 81 | 127 => 109 | 3 => 3 | 5 => 5 | n => n, fun | n => n⟩
theorem Tryd.lays169 : Go.Proofs.Lays.n169 Tryd.prog Tryd.lays169_ren := {
  mixed := by kernel_rfl
  f169 := Tryd.func54.trans (congrArg some (by kernel_rfl))
  t0 := Tryd.underlying0
  a0 := Tryd.isAgg0
  z0 := Tryd.sizeOf0
  v0 := Tryd.zeroValue0
  t3 := Tryd.underlying3
  a3 := Tryd.isAgg3
  z3 := Tryd.sizeOf3
  v3 := Tryd.zeroValue3
  t9 := Tryd.underlying9
  a9 := Tryd.isAgg9
  z9 := Tryd.sizeOf9
  v9 := Tryd.zeroValue9
  t37 := Tryd.underlying81
  a37 := Tryd.isAgg81
  z37 := Tryd.sizeOf81
  v37 := Tryd.zeroValue81
  t70 := Tryd.underlying80
  a70 := Tryd.isAgg80
  z70 := Tryd.sizeOf80
  v70 := Tryd.zeroValue80
  t72 := Tryd.underlying83
  a72 := Tryd.isAgg83
  z72 := Tryd.sizeOf83
  v72 := Tryd.zeroValue83
  t127 := Tryd.underlying109
  a127 := Tryd.isAgg109
  z127 := Tryd.sizeOf109
  v127 := Tryd.zeroValue109 }
theorem Tryd.Builder_Extra_169 : Builder.Extra Tryd.prog Tryd.lays169_ren := {
  sizeBuilder := by kernel_rfl
  liesBuilder := by kernel_rfl
  t5 := Tryd.underlying5
  a5 := Tryd.isAgg5
  z5 := Tryd.sizeOf5
  v5 := Tryd.zeroValue5
  infoByte := by kernel_rfl
  cellsByte := by kernel_rfl
  sizeByte := by kernel_rfl
  neB5 := by decide }
open Go.RowKit in
theorem Tryd.Builder_String (B b : Nat) (l : List UInt8) (w : World) (h : Lib.IsBuilder 83 5 B b (Lib.byteCells l) w) (h0 : l ≠ []) :
    Calls Tryd.prog 54 #[.pointer (some ⟨b, 0, none⟩)] w fun e w' => e = .returned (.string ⟨l.toArray⟩) ∧ Below B w w' := Any.Builder_String Tryd.lays169 Tryd.Builder_Extra_169 B b l w h h0
open Go.RowKit in
theorem Tryd.Builder_String_empty (B b : Nat) (w : World) (h : Lib.IsBuilder 83 5 B b [] w) (hBw : B ≤ w.heap.size) :
    Calls Tryd.prog 54 #[.pointer (some ⟨b, 0, none⟩)] w fun e w' => e = .returned (.string ⟨#[]⟩) ∧ Below B w w' := Any.Builder_String_empty Tryd.lays169 Tryd.Builder_Extra_169 B b w h hBw
open Go.RowKit in
theorem Tryd.Builder_String_any (B b : Nat) (l : List UInt8) (w : World) (h : Lib.IsBuilder 83 5 B b (Lib.byteCells l) w) (hBw : B ≤ w.heap.size) :
    Calls Tryd.prog 54 #[.pointer (some ⟨b, 0, none⟩)] w fun e w' => e = .returned (.string ⟨l.toArray⟩) ∧ Below B w w' := Any.Builder_String_any Tryd.lays169 Tryd.Builder_Extra_169 B b l w h hBw
def Tryd.lays241_ren : Go.Shelf.Ren := ⟨fun | 241 => 77 | 277 => 88 | n => n, fun | 70 => 80 | 3 => 3 | 0 => 0 | 72 => 83 | 37 => 81 | 5 => 5 | n => n, fun | n => n⟩
theorem Tryd.lays241 : Go.Proofs.Lays.n241 Tryd.prog Tryd.lays241_ren := {
  mixed := by kernel_rfl
  f241 := Tryd.func77.trans (congrArg some (by kernel_rfl))
  f277 := Tryd.func88.trans (congrArg some (by kernel_rfl))
  t0 := Tryd.underlying0
  a0 := Tryd.isAgg0
  z0 := Tryd.sizeOf0
  v0 := Tryd.zeroValue0
  t3 := Tryd.underlying3
  a3 := Tryd.isAgg3
  z3 := Tryd.sizeOf3
  v3 := Tryd.zeroValue3
  t37 := Tryd.underlying81
  a37 := Tryd.isAgg81
  z37 := Tryd.sizeOf81
  v37 := Tryd.zeroValue81
  t70 := Tryd.underlying80
  a70 := Tryd.isAgg80
  z70 := Tryd.sizeOf80
  v70 := Tryd.zeroValue80
  t72 := Tryd.underlying83
  a72 := Tryd.isAgg83
  z72 := Tryd.sizeOf83
  v72 := Tryd.zeroValue83 }
theorem Tryd.Builder_Extra_241 : Builder.Extra Tryd.prog Tryd.lays241_ren := {
  sizeBuilder := by kernel_rfl
  liesBuilder := by kernel_rfl
  t5 := Tryd.underlying5
  a5 := Tryd.isAgg5
  z5 := Tryd.sizeOf5
  v5 := Tryd.zeroValue5
  infoByte := by kernel_rfl
  cellsByte := by kernel_rfl
  sizeByte := by kernel_rfl
  neB5 := by decide }
open Go.RowKit in
theorem Tryd.Builder_grow_fresh (B b n : Nat) (w : World) (hB : B ≤ b) (hbk : w.heap[b]? = some (.cells #[.pointer (some ⟨b, 0, none⟩), .slice none 0 0] 83 (0, 0))) (hBw : B ≤ w.heap.size) (hn : n ≤ 281474976710656) :
    Calls Tryd.prog 77 #[.pointer (some ⟨b, 0, none⟩), .int .i64 n] w fun e w' => e = .returned (.tuple #[]) ∧ (Lib.BuilderAt 83 5 B b (.pointer (some ⟨b, 0, none⟩)) [] w' ∧ Below B w w') := Any.Builder_grow_fresh Tryd.lays241 Tryd.Builder_Extra_241 B b n w hB hbk hBw hn
def Tryd.lays165_ren : Go.Shelf.Ren := ⟨fun | 165 => 60 | 240 => 75 | 241 => 77 | 276 => 83 | 277 => 88 | n => n, fun | 70 => 80 | 3 => 3 | 0 => 0 | 4 => 4 | 9 => 9 | 20 => 20 | 72 => 83 | 37 => 81 | 164 => 113 | 5 => 5 | n => n, fun | n => n⟩
theorem Tryd.lays165 : Go.Proofs.Lays.n165 Tryd.prog Tryd.lays165_ren := {
  mixed := by kernel_rfl
  f165 := Tryd.func60.trans (congrArg some (by kernel_rfl))
  f240 := Tryd.func75.trans (congrArg some (by kernel_rfl))
  f241 := Tryd.func77.trans (congrArg some (by kernel_rfl))
  f276 := Tryd.func83.trans (congrArg some (by kernel_rfl))
  f277 := Tryd.func88.trans (congrArg some (by kernel_rfl))
  t0 := Tryd.underlying0
  a0 := Tryd.isAgg0
  z0 := Tryd.sizeOf0
  v0 := Tryd.zeroValue0
  t3 := Tryd.underlying3
  a3 := Tryd.isAgg3
  z3 := Tryd.sizeOf3
  v3 := Tryd.zeroValue3
  t4 := Tryd.underlying4
  a4 := Tryd.isAgg4
  z4 := Tryd.sizeOf4
  v4 := Tryd.zeroValue4
  t9 := Tryd.underlying9
  a9 := Tryd.isAgg9
  z9 := Tryd.sizeOf9
  v9 := Tryd.zeroValue9
  t20 := Tryd.underlying20
  a20 := Tryd.isAgg20
  z20 := Tryd.sizeOf20
  v20 := Tryd.zeroValue20
  t37 := Tryd.underlying81
  a37 := Tryd.isAgg81
  z37 := Tryd.sizeOf81
  v37 := Tryd.zeroValue81
  t70 := Tryd.underlying80
  a70 := Tryd.isAgg80
  z70 := Tryd.sizeOf80
  v70 := Tryd.zeroValue80
  t72 := Tryd.underlying83
  a72 := Tryd.isAgg83
  z72 := Tryd.sizeOf83
  v72 := Tryd.zeroValue83
  t164 := Tryd.underlying113
  a164 := Tryd.isAgg113
  z164 := Tryd.sizeOf113
  v164 := Tryd.zeroValue113 }
theorem Tryd.Builder_Extra_165 : Builder.Extra Tryd.prog Tryd.lays165_ren := {
  sizeBuilder := by kernel_rfl
  liesBuilder := by kernel_rfl
  t5 := Tryd.underlying5
  a5 := Tryd.isAgg5
  z5 := Tryd.sizeOf5
  v5 := Tryd.zeroValue5
  infoByte := by kernel_rfl
  cellsByte := by kernel_rfl
  sizeByte := by kernel_rfl
  neB5 := by decide }
open Go.RowKit in
theorem Tryd.Builder_Grow_fresh (B b n : Nat) (w : World) (hB : B ≤ b) (hbk : w.heap[b]? = some (.cells #[.pointer none, .slice none 0 0] 83 (0, 0))) (hBw : B ≤ w.heap.size) (hn : n ≤ 281474976710656) :
    Calls Tryd.prog 60 #[.pointer (some ⟨b, 0, none⟩), .int .i64 n] w fun e w' => e = .returned (.tuple #[]) ∧ (Lib.BuilderAt 83 5 B b (.pointer (some ⟨b, 0, none⟩)) [] w' ∧ Below B w w') := Any.Builder_Grow_fresh Tryd.lays165 Tryd.Builder_Extra_165 B b n w hB hbk hBw hn
def Tryd.lays156_ren : Go.Shelf.Ren := ⟨fun | 156 => 35 | 165 => 60 | 166 => 53 | 169 => 54 | 240 => 75 | 241 => 77 | 276 => 83 | 277 => 88 | n => n, fun | 31 => 59 | 9 => 9 | 3 => 3 | 4 => 4 | 0 => 0 | 20 => 20 | 72 => 83 | 76 => 86 | 70 => 80 | 37 => 81 | 75 => 85 | 127 => 109 | 164 => 113 | 5 => 5 | 80 => 88 | n => n, fun | n => n⟩
theorem Tryd.lays156 : Go.Proofs.Lays.n156 Tryd.prog Tryd.lays156_ren := {
  mixed := by kernel_rfl
  f156 := Tryd.func35.trans (congrArg some (by kernel_rfl))
  f165 := Tryd.func60.trans (congrArg some (by kernel_rfl))
  f166 := Tryd.func53.trans (congrArg some (by kernel_rfl))
  f169 := Tryd.func54.trans (congrArg some (by kernel_rfl))
  f240 := Tryd.func75.trans (congrArg some (by kernel_rfl))
  f241 := Tryd.func77.trans (congrArg some (by kernel_rfl))
  f276 := Tryd.func83.trans (congrArg some (by kernel_rfl))
  f277 := Tryd.func88.trans (congrArg some (by kernel_rfl))
  t0 := Tryd.underlying0
  a0 := Tryd.isAgg0
  z0 := Tryd.sizeOf0
  v0 := Tryd.zeroValue0
  t3 := Tryd.underlying3
  a3 := Tryd.isAgg3
  z3 := Tryd.sizeOf3
  v3 := Tryd.zeroValue3
  t4 := Tryd.underlying4
  a4 := Tryd.isAgg4
  z4 := Tryd.sizeOf4
  v4 := Tryd.zeroValue4
  t9 := Tryd.underlying9
  a9 := Tryd.isAgg9
  z9 := Tryd.sizeOf9
  v9 := Tryd.zeroValue9
  t20 := Tryd.underlying20
  a20 := Tryd.isAgg20
  z20 := Tryd.sizeOf20
  v20 := Tryd.zeroValue20
  t31 := Tryd.underlying59
  a31 := Tryd.isAgg59
  z31 := Tryd.sizeOf59
  v31 := Tryd.zeroValue59
  t37 := Tryd.underlying81
  a37 := Tryd.isAgg81
  z37 := Tryd.sizeOf81
  v37 := Tryd.zeroValue81
  t70 := Tryd.underlying80
  a70 := Tryd.isAgg80
  z70 := Tryd.sizeOf80
  v70 := Tryd.zeroValue80
  t72 := Tryd.underlying83
  a72 := Tryd.isAgg83
  z72 := Tryd.sizeOf83
  v72 := Tryd.zeroValue83
  t75 := Tryd.underlying85
  a75 := Tryd.isAgg85
  z75 := Tryd.sizeOf85
  v75 := Tryd.zeroValue85
  t76 := Tryd.underlying86
  a76 := Tryd.isAgg86
  z76 := Tryd.sizeOf86
  v76 := Tryd.zeroValue86
  t127 := Tryd.underlying109
  a127 := Tryd.isAgg109
  z127 := Tryd.sizeOf109
  v127 := Tryd.zeroValue109
  t164 := Tryd.underlying113
  a164 := Tryd.isAgg113
  z164 := Tryd.sizeOf113
  v164 := Tryd.zeroValue113 }
theorem Tryd.Builder_Extra_156 : Builder.Extra Tryd.prog Tryd.lays156_ren := {
  sizeBuilder := by kernel_rfl
  liesBuilder := by kernel_rfl
  t5 := Tryd.underlying5
  a5 := Tryd.isAgg5
  z5 := Tryd.sizeOf5
  v5 := Tryd.zeroValue5
  infoByte := by kernel_rfl
  cellsByte := by kernel_rfl
  sizeByte := by kernel_rfl
  neB5 := by decide }
open Go.RowKit in
theorem Tryd.strings_Join_none (a : Option Addr) (c : Nat) (sep : ByteArray) (w : World) :
    Calls Tryd.prog 35 #[.slice a 0 c, .string sep] w fun e w' => e = .returned (.string ⟨#[]⟩) ∧ w' = w := Any.strings_Join_none Tryd.lays156 Tryd.Builder_Extra_156 a c sep w
open Go.RowKit in
theorem Tryd.strings_Join (bk o c : Nat) (xs : List ByteArray) (sep : ByteArray) (w : World) (hcells : ∀ (j : Nat) x, xs[j]? = some x → w.cell? ⟨bk, o + j, none⟩ = some (.string x)) (hbk : bk < w.heap.size) (hN : xs.length ≤ 140737488355328) (hcap : xs.length ≤ c) (hlen : (Lib.join (xs.map (·.data.toList)) sep.data.toList).length ≤ 140737488355328) :
    Calls Tryd.prog 35 #[.slice (some ⟨bk, o, none⟩) xs.length c, .string sep] w fun e w' => e = .returned (.string ⟨(Lib.join (xs.map (·.data.toList)) sep.data.toList).toArray⟩) ∧ Below w.heap.size w w' := Any.strings_Join Tryd.lays156 Tryd.Builder_Extra_156 bk o c xs sep w hcells hbk hN hcap hlen
open Go.RowKit in
theorem Tryd.Builder_String_f (B b : Nat) (l : List UInt8) (w : World) (h : Lib.IsBuilderF 83 5 B b (Lib.byteCells l) w) (h0 : l ≠ []) :
    Calls Tryd.prog 54 #[.pointer (some ⟨b, 0, none⟩)] w fun e w' => e = .returned (.string ⟨l.toArray⟩) ∧ (Lib.IsBuilderF 83 5 B b (Lib.byteCells l) w' ∧ Below B w w') := Any.Builder_String_f Tryd.lays169 Tryd.Builder_Extra_169 B b l w h h0
open Go.RowKit in
theorem Tryd.Builder_String_empty_f (B b : Nat) (w : World) (h : Lib.IsBuilderF 83 5 B b [] w) (hBw : B ≤ w.heap.size) :
    Calls Tryd.prog 54 #[.pointer (some ⟨b, 0, none⟩)] w fun e w' => e = .returned (.string ⟨#[]⟩) ∧ (Lib.IsBuilderF 83 5 B b [] w' ∧ Below B w w') := Any.Builder_String_empty_f Tryd.lays169 Tryd.Builder_Extra_169 B b w h hBw
open Go.RowKit in
theorem Tryd.Builder_String_any_f (B b : Nat) (l : List UInt8) (w : World) (h : Lib.IsBuilderF 83 5 B b (Lib.byteCells l) w) (hBw : B ≤ w.heap.size) :
    Calls Tryd.prog 54 #[.pointer (some ⟨b, 0, none⟩)] w fun e w' => e = .returned (.string ⟨l.toArray⟩) ∧ (Lib.IsBuilderF 83 5 B b (Lib.byteCells l) w' ∧ Below B w w') := Any.Builder_String_any_f Tryd.lays169 Tryd.Builder_Extra_169 B b l w h hBw
open Go.RowKit in
theorem Tryd.Builder_grow_fresh_cap (B b n : Nat) (w : World) (hB : B ≤ b) (hbk : w.heap[b]? = some (.cells #[.pointer (some ⟨b, 0, none⟩), .slice none 0 0] 83 (0, 0))) (hBw : B ≤ w.heap.size) (hn : n ≤ 281474976710656) :
    Calls Tryd.prog 77 #[.pointer (some ⟨b, 0, none⟩), .int .i64 n] w fun e w' => e = .returned (.tuple #[]) ∧ (Lib.BuilderAt 83 5 B b (.pointer (some ⟨b, 0, none⟩)) [] w' ∧ Below B w w') ∧ ∃ p cap, w'.cell? ⟨b, 1, none⟩ = some (.slice p 0 cap) ∧ n ≤ cap := Any.Builder_grow_fresh_cap Tryd.lays241 Tryd.Builder_Extra_241 B b n w hB hbk hBw hn
open Go.RowKit in
theorem Tryd.Builder_Grow_fresh_cap (B b n : Nat) (w : World) (hB : B ≤ b) (hbk : w.heap[b]? = some (.cells #[.pointer none, .slice none 0 0] 83 (0, 0))) (hBw : B ≤ w.heap.size) (hn : n ≤ 281474976710656) :
    Calls Tryd.prog 60 #[.pointer (some ⟨b, 0, none⟩), .int .i64 n] w fun e w' => e = .returned (.tuple #[]) ∧ (Lib.BuilderAt 83 5 B b (.pointer (some ⟨b, 0, none⟩)) [] w' ∧ Below B w w') ∧ ∃ p cap, w'.cell? ⟨b, 1, none⟩ = some (.slice p 0 cap) ∧ n ≤ cap := Any.Builder_Grow_fresh_cap Tryd.lays165 Tryd.Builder_Extra_165 B b n w hB hbk hBw hn
def Tryd.lays129_ren : Go.Shelf.Ren := ⟨fun | 129 => 90 | n => n, fun | 53 => 116 | 3 => 3 | 4 => 4 | 46 => 128 | 5 => 5 | 9 => 9 | n => n, fun | n => n⟩
theorem Tryd.lays129 : Go.Proofs.Lays.n129 Tryd.prog Tryd.lays129_ren := {
  mixed := by kernel_rfl
  f129 := Tryd.func90.trans (congrArg some (by kernel_rfl))
  t3 := Tryd.underlying3
  a3 := Tryd.isAgg3
  z3 := Tryd.sizeOf3
  v3 := Tryd.zeroValue3
  t4 := Tryd.underlying4
  a4 := Tryd.isAgg4
  z4 := Tryd.sizeOf4
  v4 := Tryd.zeroValue4
  t5 := Tryd.underlying5
  a5 := Tryd.isAgg5
  z5 := Tryd.sizeOf5
  v5 := Tryd.zeroValue5
  t9 := Tryd.underlying9
  a9 := Tryd.isAgg9
  z9 := Tryd.sizeOf9
  v9 := Tryd.zeroValue9
  t46 := Tryd.underlying128
  a46 := Tryd.isAgg128
  z46 := Tryd.sizeOf128
  v46 := Tryd.zeroValue128
  t53 := Tryd.underlying116
  a53 := Tryd.isAgg116
  z53 := Tryd.sizeOf116
  v53 := Tryd.zeroValue116 }
theorem Tryd.bits_Len64 (x : Int) (w : World) (h0 : 0 ≤ x) (h1 : x ≤ 18446744073709551615) :
    Calls Tryd.prog 90 #[.int .u64 x] w fun e w' => e = .returned (.int .i64 (Lib.bitLen x.toNat)) ∧ w' = w := Any.bits_Len64 Tryd.lays129 x w h0 h1
def Tryd.lays317_ren : Go.Shelf.Ren := ⟨fun | 317 => 89 | n => n, fun | 3 => 3 | 46 => 128 | n => n, fun | n => n⟩
theorem Tryd.lays317 : Go.Proofs.Lays.n317 Tryd.prog Tryd.lays317_ren := {
  mixed := by kernel_rfl
  f317 := Tryd.func89.trans (congrArg some (by kernel_rfl))
  t3 := Tryd.underlying3
  a3 := Tryd.isAgg3
  z3 := Tryd.sizeOf3
  v3 := Tryd.zeroValue3
  t46 := Tryd.underlying128
  a46 := Tryd.isAgg128
  z46 := Tryd.sizeOf128
  v46 := Tryd.zeroValue128 }
open Go.Lib in
theorem Tryd.internal_strconv_log10Pow2 (x : Nat) (h : x ≤ 64) (w : World) :
    Calls Tryd.prog 89 #[.int .i64 x] w fun e w' => e = .returned (.int .i64 (Lib.l10 x)) ∧ w' = w := Any.internal_strconv_log10Pow2 Tryd.lays317 x h w
def Tryd.lays318_ren : Go.Shelf.Ren := ⟨fun | 318 => 91 | n => n, fun | 3 => 3 | 4 => 4 | n => n, fun | n => n⟩
theorem Tryd.lays318 : Go.Proofs.Lays.n318 Tryd.prog Tryd.lays318_ren := {
  mixed := by kernel_rfl
  f318 := Tryd.func91.trans (congrArg some (by kernel_rfl))
  t3 := Tryd.underlying3
  a3 := Tryd.isAgg3
  z3 := Tryd.sizeOf3
  v3 := Tryd.zeroValue3
  t4 := Tryd.underlying4
  a4 := Tryd.isAgg4
  z4 := Tryd.sizeOf4
  v4 := Tryd.zeroValue4 }
open Go.Lib in
theorem Tryd.internal_strconv_bool2_int (b : Bool) (w : World) :
    Calls Tryd.prog 91 #[.bool b] w fun e w' => e = .returned (.int .i64 (if b then 1 else 0)) ∧ w' = w := Any.internal_strconv_bool2_int Tryd.lays318 b w
def Tryd.lays283_ren : Go.Shelf.Ren := ⟨fun | 283 => 84 | n => n, fun | 3 => 3 | 9 => 9 | 4 => 4 | n => n, fun | n => n⟩
theorem Tryd.lays283 : Go.Proofs.Lays.n283 Tryd.prog Tryd.lays283_ren := {
  mixed := by kernel_rfl
  f283 := Tryd.func84.trans (congrArg some (by kernel_rfl))
  t3 := Tryd.underlying3
  a3 := Tryd.isAgg3
  z3 := Tryd.sizeOf3
  v3 := Tryd.zeroValue3
  t4 := Tryd.underlying4
  a4 := Tryd.isAgg4
  z4 := Tryd.sizeOf4
  v4 := Tryd.zeroValue4
  t9 := Tryd.underlying9
  a9 := Tryd.isAgg9
  z9 := Tryd.sizeOf9
  v9 := Tryd.zeroValue9 }
open Go.Lib in
theorem Tryd.internal_strconv_small (i : Nat) (h : i < 100) (w : World) :
    Calls Tryd.prog 84 #[.int .i64 i] w fun e w' => e = .returned (.string ⟨(Lib.decDigits i).toArray⟩) ∧ w' = w := Any.internal_strconv_small Tryd.lays283 i h w
def Tryd.laysM284_ren : Go.Shelf.Ren := ⟨fun | 284 => 85 | 129 => 90 | 317 => 89 | 318 => 91 | n => n, fun | 53 => 116 | 3 => 3 | 212 => 124 | 0 => 0 | 4 => 4 | 46 => 128 | 5 => 5 | 9 => 9 | n => n, fun | 17 => 0 | n => n⟩
theorem Tryd.laysM284 : Go.Proofs.LaysM.n284 Tryd.prog Tryd.laysM284_ren := {
  mixed := by kernel_rfl
  f129 := Tryd.func90.trans (congrArg some (by kernel_rfl))
  f284 := Tryd.func85.trans (congrArg some (by kernel_rfl))
  f317 := Tryd.func89.trans (congrArg some (by kernel_rfl))
  f318 := Tryd.func91.trans (congrArg some (by kernel_rfl))
  t0 := Tryd.underlying0
  a0 := Tryd.isAgg0
  z0 := Tryd.sizeOf0
  v0 := Tryd.zeroValue0
  t3 := Tryd.underlying3
  a3 := Tryd.isAgg3
  z3 := Tryd.sizeOf3
  v3 := Tryd.zeroValue3
  t4 := Tryd.underlying4
  a4 := Tryd.isAgg4
  z4 := Tryd.sizeOf4
  v4 := Tryd.zeroValue4
  t5 := Tryd.underlying5
  a5 := Tryd.isAgg5
  z5 := Tryd.sizeOf5
  v5 := Tryd.zeroValue5
  t9 := Tryd.underlying9
  a9 := Tryd.isAgg9
  z9 := Tryd.sizeOf9
  v9 := Tryd.zeroValue9
  t46 := Tryd.underlying128
  a46 := Tryd.isAgg128
  z46 := Tryd.sizeOf128
  v46 := Tryd.zeroValue128
  t53 := Tryd.underlying116
  a53 := Tryd.isAgg116
  z53 := Tryd.sizeOf116
  v53 := Tryd.zeroValue116
  t212 := Tryd.underlying124
  a212 := Tryd.isAgg124
  z212 := Tryd.sizeOf124
  v212 := Tryd.zeroValue124
  g17 := by kernel_rfl
  i0 := by kernel_rfl
  i3 := by kernel_rfl
  i4 := by kernel_rfl
  i5 := by kernel_rfl
  i9 := by kernel_rfl
  i46 := by kernel_rfl
  i53 := by kernel_rfl
  i212 := by kernel_rfl
  m17 := by kernel_rfl }
open Go.Lib in
theorem Tryd.internal_strconv_numDigits (u : Nat) (h1 : 1 ≤ u) (h2 : u < 18446744073709551616) (w : World) (htab : Lib.TabIs Tryd.prog w "internal/strconv.uint64pow10" .u64 Lib.pow10Tab) :
    Calls Tryd.prog 85 #[.int .u64 u] w fun e w' => e = .returned (.int .i64 (Lib.nDigits u)) ∧ w' = w := Any.internal_strconv_numDigits Tryd.laysM284 u h1 h2 w htab
def Tryd.lays285_ren : Go.Shelf.Ren := ⟨fun | 285 => 86 | n => n, fun | 37 => 81 | 53 => 116 | 3 => 3 | 4 => 4 | 51 => 125 | 9 => 9 | 5 => 5 | 0 => 0 | n => n, fun | n => n⟩
theorem Tryd.lays285 : Go.Proofs.Lays.n285 Tryd.prog Tryd.lays285_ren := {
  mixed := by kernel_rfl
  f285 := Tryd.func86.trans (congrArg some (by kernel_rfl))
  t0 := Tryd.underlying0
  a0 := Tryd.isAgg0
  z0 := Tryd.sizeOf0
  v0 := Tryd.zeroValue0
  t3 := Tryd.underlying3
  a3 := Tryd.isAgg3
  z3 := Tryd.sizeOf3
  v3 := Tryd.zeroValue3
  t4 := Tryd.underlying4
  a4 := Tryd.isAgg4
  z4 := Tryd.sizeOf4
  v4 := Tryd.zeroValue4
  t5 := Tryd.underlying5
  a5 := Tryd.isAgg5
  z5 := Tryd.sizeOf5
  v5 := Tryd.zeroValue5
  t9 := Tryd.underlying9
  a9 := Tryd.isAgg9
  z9 := Tryd.sizeOf9
  v9 := Tryd.zeroValue9
  t37 := Tryd.underlying81
  a37 := Tryd.isAgg81
  z37 := Tryd.sizeOf81
  v37 := Tryd.zeroValue81
  t51 := Tryd.underlying125
  a51 := Tryd.isAgg125
  z51 := Tryd.sizeOf125
  v51 := Tryd.zeroValue125
  t53 := Tryd.underlying116
  a53 := Tryd.isAgg116
  z53 := Tryd.sizeOf116
  v53 := Tryd.zeroValue116 }
open Go.RowKit Go.Sort Go.Lib in
theorem Tryd.internal_strconv_formatBase10 (blk off cap : Nat) (u : Nat) (d : Array UInt8) (w : World) (hH : Holds (fun (b : UInt8) => Value.int .u8 (b.toNat : Int)) w blk off d) (hu : u < 10 ^ d.size) (hu64 : u < 18446744073709551616) (hsz : d.size < 4611686018427387904) :
    Calls Tryd.prog 86 #[.slice (some ⟨blk, off, none⟩) d.size cap, .int .u64 u] w fun e w' =>
      e = .returned (.tuple #[]) ∧ ∃ (n v' : Nat) (dk : Array UInt8), w' = (putRow (fun (b : UInt8) => Value.int .u8 (b.toNat : Int)) w blk off dk).drewN n ∧ FmtInv d.size u 0 v' dk := Any.internal_strconv_formatBase10 Tryd.lays285 blk off cap u d w hH hu hu64 hsz
def Tryd.laysM246_ren : Go.Shelf.Ren := ⟨fun | 246 => 76 | 283 => 84 | 284 => 85 | 285 => 86 | 286 => 87 | 129 => 90 | 317 => 89 | 318 => 91 | 319 => 92 | 320 => 93 | 337 => 94 | 338 => 95 | n => n, fun | 2 => 2 | 3 => 3 | 9 => 9 | 4 => 4 | 171 => 115 | 0 => 0 | 53 => 116 | 37 => 81 | 5 => 5 | 173 => 119 | 212 => 124 | 51 => 125 | 20 => 20 | 213 => 126 | 46 => 128 | 232 => 131 | 233 => 132 | n => n, fun | 17 => 0 | 18 => 2 | 19 => 3 | n => n⟩
theorem Tryd.laysM246 : Go.Proofs.LaysM.n246 Tryd.prog Tryd.laysM246_ren := {
  mixed := by kernel_rfl
  f129 := Tryd.func90.trans (congrArg some (by kernel_rfl))
  f246 := Tryd.func76.trans (congrArg some (by kernel_rfl))
  f283 := Tryd.func84.trans (congrArg some (by kernel_rfl))
  f284 := Tryd.func85.trans (congrArg some (by kernel_rfl))
  f285 := Tryd.func86.trans (congrArg some (by kernel_rfl))
  f286 := Tryd.func87.trans (congrArg some (by kernel_rfl))
  f317 := Tryd.func89.trans (congrArg some (by kernel_rfl))
  f318 := Tryd.func91.trans (congrArg some (by kernel_rfl))
  f319 := Tryd.func92.trans (congrArg some (by kernel_rfl))
  f320 := Tryd.func93.trans (congrArg some (by kernel_rfl))
  f337 := Tryd.func94.trans (congrArg some (by kernel_rfl))
  f338 := Tryd.func95.trans (congrArg some (by kernel_rfl))
  t0 := Tryd.underlying0
  a0 := Tryd.isAgg0
  z0 := Tryd.sizeOf0
  v0 := Tryd.zeroValue0
  t2 := Tryd.underlying2
  a2 := Tryd.isAgg2
  z2 := Tryd.sizeOf2
  v2 := Tryd.zeroValue2
  t3 := Tryd.underlying3
  a3 := Tryd.isAgg3
  z3 := Tryd.sizeOf3
  v3 := Tryd.zeroValue3
  t4 := Tryd.underlying4
  a4 := Tryd.isAgg4
  z4 := Tryd.sizeOf4
  v4 := Tryd.zeroValue4
  t5 := Tryd.underlying5
  a5 := Tryd.isAgg5
  z5 := Tryd.sizeOf5
  v5 := Tryd.zeroValue5
  t9 := Tryd.underlying9
  a9 := Tryd.isAgg9
  z9 := Tryd.sizeOf9
  v9 := Tryd.zeroValue9
  t20 := Tryd.underlying20
  a20 := Tryd.isAgg20
  z20 := Tryd.sizeOf20
  v20 := Tryd.zeroValue20
  t37 := Tryd.underlying81
  a37 := Tryd.isAgg81
  z37 := Tryd.sizeOf81
  v37 := Tryd.zeroValue81
  t46 := Tryd.underlying128
  a46 := Tryd.isAgg128
  z46 := Tryd.sizeOf128
  v46 := Tryd.zeroValue128
  t51 := Tryd.underlying125
  a51 := Tryd.isAgg125
  z51 := Tryd.sizeOf125
  v51 := Tryd.zeroValue125
  t53 := Tryd.underlying116
  a53 := Tryd.isAgg116
  z53 := Tryd.sizeOf116
  v53 := Tryd.zeroValue116
  t171 := Tryd.underlying115
  a171 := Tryd.isAgg115
  z171 := Tryd.sizeOf115
  v171 := Tryd.zeroValue115
  t173 := Tryd.underlying119
  a173 := Tryd.isAgg119
  z173 := Tryd.sizeOf119
  v173 := Tryd.zeroValue119
  t212 := Tryd.underlying124
  a212 := Tryd.isAgg124
  z212 := Tryd.sizeOf124
  v212 := Tryd.zeroValue124
  t213 := Tryd.underlying126
  a213 := Tryd.isAgg126
  z213 := Tryd.sizeOf126
  t232 := Tryd.underlying131
  a232 := Tryd.isAgg131
  z232 := Tryd.sizeOf131
  v232 := Tryd.zeroValue131
  t233 := Tryd.underlying132
  a233 := Tryd.isAgg132
  z233 := Tryd.sizeOf132
  v233 := Tryd.zeroValue132
  g17 := by kernel_rfl
  g18 := by kernel_rfl
  g19 := by kernel_rfl
  i0 := by kernel_rfl
  i2 := by kernel_rfl
  i3 := by kernel_rfl
  i4 := by kernel_rfl
  i5 := by kernel_rfl
  i9 := by kernel_rfl
  i20 := by kernel_rfl
  i37 := by kernel_rfl
  i46 := by kernel_rfl
  i51 := by kernel_rfl
  i53 := by kernel_rfl
  i171 := by kernel_rfl
  i173 := by kernel_rfl
  i212 := by kernel_rfl
  i232 := by kernel_rfl
  i233 := by kernel_rfl
  m17 := by kernel_rfl
  m18 := by kernel_rfl
  m19 := by kernel_rfl }
open Go.RowKit Go.Sort Go.Lib in
theorem Tryd.internal_strconv_FormatInt_10 (n : Int) (h0 : -9223372036854775808 ≤ n) (h1 : n ≤ 9223372036854775807) (w : World) (htab : Lib.TabIs Tryd.prog w "internal/strconv.uint64pow10" .u64 Lib.pow10Tab) :
    Calls Tryd.prog 76 #[.int .i64 n, .int .i64 10] w fun e w' => e = .returned (.string ⟨(Lib.itoa n).toArray⟩) ∧ ∃ k os, w' = grow (w.drewN k) os := Any.internal_strconv_FormatInt_10 Tryd.laysM246 n h0 h1 w htab
def Tryd.lays246_ren : Go.Shelf.Ren := ⟨fun | 246 => 76 | 283 => 84 | 284 => 85 | 285 => 86 | 286 => 87 | 129 => 90 | 317 => 89 | 318 => 91 | 319 => 92 | 320 => 93 | 337 => 94 | 338 => 95 | n => n, fun | 2 => 2 | 3 => 3 | 9 => 9 | 4 => 4 | 171 => 115 | 0 => 0 | 53 => 116 | 37 => 81 | 5 => 5 | 173 => 119 | 212 => 124 | 51 => 125 | 20 => 20 | 213 => 126 | 46 => 128 | 232 => 131 | 233 => 132 | n => n, fun | 17 => 0 | 18 => 2 | 19 => 3 | n => n⟩
theorem Tryd.lays246 : Go.Proofs.Lays.n246 Tryd.prog Tryd.lays246_ren := {
  mixed := by kernel_rfl
  f129 := Tryd.func90.trans (congrArg some (by kernel_rfl))
  f246 := Tryd.func76.trans (congrArg some (by kernel_rfl))
  f283 := Tryd.func84.trans (congrArg some (by kernel_rfl))
  f284 := Tryd.func85.trans (congrArg some (by kernel_rfl))
  f285 := Tryd.func86.trans (congrArg some (by kernel_rfl))
  f286 := Tryd.func87.trans (congrArg some (by kernel_rfl))
  f317 := Tryd.func89.trans (congrArg some (by kernel_rfl))
  f318 := Tryd.func91.trans (congrArg some (by kernel_rfl))
  f319 := Tryd.func92.trans (congrArg some (by kernel_rfl))
  f320 := Tryd.func93.trans (congrArg some (by kernel_rfl))
  f337 := Tryd.func94.trans (congrArg some (by kernel_rfl))
  f338 := Tryd.func95.trans (congrArg some (by kernel_rfl))
  t0 := Tryd.underlying0
  a0 := Tryd.isAgg0
  z0 := Tryd.sizeOf0
  v0 := Tryd.zeroValue0
  t2 := Tryd.underlying2
  a2 := Tryd.isAgg2
  z2 := Tryd.sizeOf2
  v2 := Tryd.zeroValue2
  t3 := Tryd.underlying3
  a3 := Tryd.isAgg3
  z3 := Tryd.sizeOf3
  v3 := Tryd.zeroValue3
  t4 := Tryd.underlying4
  a4 := Tryd.isAgg4
  z4 := Tryd.sizeOf4
  v4 := Tryd.zeroValue4
  t5 := Tryd.underlying5
  a5 := Tryd.isAgg5
  z5 := Tryd.sizeOf5
  v5 := Tryd.zeroValue5
  t9 := Tryd.underlying9
  a9 := Tryd.isAgg9
  z9 := Tryd.sizeOf9
  v9 := Tryd.zeroValue9
  t20 := Tryd.underlying20
  a20 := Tryd.isAgg20
  z20 := Tryd.sizeOf20
  v20 := Tryd.zeroValue20
  t37 := Tryd.underlying81
  a37 := Tryd.isAgg81
  z37 := Tryd.sizeOf81
  v37 := Tryd.zeroValue81
  t46 := Tryd.underlying128
  a46 := Tryd.isAgg128
  z46 := Tryd.sizeOf128
  v46 := Tryd.zeroValue128
  t51 := Tryd.underlying125
  a51 := Tryd.isAgg125
  z51 := Tryd.sizeOf125
  v51 := Tryd.zeroValue125
  t53 := Tryd.underlying116
  a53 := Tryd.isAgg116
  z53 := Tryd.sizeOf116
  v53 := Tryd.zeroValue116
  t171 := Tryd.underlying115
  a171 := Tryd.isAgg115
  z171 := Tryd.sizeOf115
  v171 := Tryd.zeroValue115
  t173 := Tryd.underlying119
  a173 := Tryd.isAgg119
  z173 := Tryd.sizeOf119
  v173 := Tryd.zeroValue119
  t212 := Tryd.underlying124
  a212 := Tryd.isAgg124
  z212 := Tryd.sizeOf124
  v212 := Tryd.zeroValue124
  t213 := Tryd.underlying126
  a213 := Tryd.isAgg126
  z213 := Tryd.sizeOf126
  t232 := Tryd.underlying131
  a232 := Tryd.isAgg131
  z232 := Tryd.sizeOf131
  v232 := Tryd.zeroValue131
  t233 := Tryd.underlying132
  a233 := Tryd.isAgg132
  z233 := Tryd.sizeOf132
  v233 := Tryd.zeroValue132
  g17 := by kernel_rfl
  g18 := by kernel_rfl
  g19 := by kernel_rfl }
open Go.RowKit Go.Sort Go.Lib in
theorem Tryd.internal_strconv_FormatInt_10_small (i : Nat) (hi : i < 100) (w : World) :
    Calls Tryd.prog 76 #[.int .i64 i, .int .i64 10] w fun e w' => e = .returned (.string ⟨(Lib.decDigits i).toArray⟩) ∧ w' = w := Any.internal_strconv_FormatInt_10_small Tryd.lays246 i hi w
def Tryd.laysM173_ren : Go.Shelf.Ren := ⟨fun | 173 => 55 | 246 => 76 | 283 => 84 | 284 => 85 | 285 => 86 | 286 => 87 | 129 => 90 | 317 => 89 | 318 => 91 | 319 => 92 | 320 => 93 | 337 => 94 | 338 => 95 | n => n, fun | 2 => 2 | 3 => 3 | 9 => 9 | 4 => 4 | 171 => 115 | 0 => 0 | 53 => 116 | 37 => 81 | 5 => 5 | 173 => 119 | 212 => 124 | 51 => 125 | 20 => 20 | 213 => 126 | 46 => 128 | 232 => 131 | 233 => 132 | n => n, fun | 17 => 0 | 18 => 2 | 19 => 3 | n => n⟩
theorem Tryd.laysM173 : Go.Proofs.LaysM.n173 Tryd.prog Tryd.laysM173_ren := {
  mixed := by kernel_rfl
  f129 := Tryd.func90.trans (congrArg some (by kernel_rfl))
  f173 := Tryd.func55.trans (congrArg some (by kernel_rfl))
  f246 := Tryd.func76.trans (congrArg some (by kernel_rfl))
  f283 := Tryd.func84.trans (congrArg some (by kernel_rfl))
  f284 := Tryd.func85.trans (congrArg some (by kernel_rfl))
  f285 := Tryd.func86.trans (congrArg some (by kernel_rfl))
  f286 := Tryd.func87.trans (congrArg some (by kernel_rfl))
  f317 := Tryd.func89.trans (congrArg some (by kernel_rfl))
  f318 := Tryd.func91.trans (congrArg some (by kernel_rfl))
  f319 := Tryd.func92.trans (congrArg some (by kernel_rfl))
  f320 := Tryd.func93.trans (congrArg some (by kernel_rfl))
  f337 := Tryd.func94.trans (congrArg some (by kernel_rfl))
  f338 := Tryd.func95.trans (congrArg some (by kernel_rfl))
  t0 := Tryd.underlying0
  a0 := Tryd.isAgg0
  z0 := Tryd.sizeOf0
  v0 := Tryd.zeroValue0
  t2 := Tryd.underlying2
  a2 := Tryd.isAgg2
  z2 := Tryd.sizeOf2
  v2 := Tryd.zeroValue2
  t3 := Tryd.underlying3
  a3 := Tryd.isAgg3
  z3 := Tryd.sizeOf3
  v3 := Tryd.zeroValue3
  t4 := Tryd.underlying4
  a4 := Tryd.isAgg4
  z4 := Tryd.sizeOf4
  v4 := Tryd.zeroValue4
  t5 := Tryd.underlying5
  a5 := Tryd.isAgg5
  z5 := Tryd.sizeOf5
  v5 := Tryd.zeroValue5
  t9 := Tryd.underlying9
  a9 := Tryd.isAgg9
  z9 := Tryd.sizeOf9
  v9 := Tryd.zeroValue9
  t20 := Tryd.underlying20
  a20 := Tryd.isAgg20
  z20 := Tryd.sizeOf20
  v20 := Tryd.zeroValue20
  t37 := Tryd.underlying81
  a37 := Tryd.isAgg81
  z37 := Tryd.sizeOf81
  v37 := Tryd.zeroValue81
  t46 := Tryd.underlying128
  a46 := Tryd.isAgg128
  z46 := Tryd.sizeOf128
  v46 := Tryd.zeroValue128
  t51 := Tryd.underlying125
  a51 := Tryd.isAgg125
  z51 := Tryd.sizeOf125
  v51 := Tryd.zeroValue125
  t53 := Tryd.underlying116
  a53 := Tryd.isAgg116
  z53 := Tryd.sizeOf116
  v53 := Tryd.zeroValue116
  t171 := Tryd.underlying115
  a171 := Tryd.isAgg115
  z171 := Tryd.sizeOf115
  v171 := Tryd.zeroValue115
  t173 := Tryd.underlying119
  a173 := Tryd.isAgg119
  z173 := Tryd.sizeOf119
  v173 := Tryd.zeroValue119
  t212 := Tryd.underlying124
  a212 := Tryd.isAgg124
  z212 := Tryd.sizeOf124
  v212 := Tryd.zeroValue124
  t213 := Tryd.underlying126
  a213 := Tryd.isAgg126
  z213 := Tryd.sizeOf126
  t232 := Tryd.underlying131
  a232 := Tryd.isAgg131
  z232 := Tryd.sizeOf131
  v232 := Tryd.zeroValue131
  t233 := Tryd.underlying132
  a233 := Tryd.isAgg132
  z233 := Tryd.sizeOf132
  v233 := Tryd.zeroValue132
  g17 := by kernel_rfl
  g18 := by kernel_rfl
  g19 := by kernel_rfl
  i0 := by kernel_rfl
  i2 := by kernel_rfl
  i3 := by kernel_rfl
  i4 := by kernel_rfl
  i5 := by kernel_rfl
  i9 := by kernel_rfl
  i20 := by kernel_rfl
  i37 := by kernel_rfl
  i46 := by kernel_rfl
  i51 := by kernel_rfl
  i53 := by kernel_rfl
  i171 := by kernel_rfl
  i173 := by kernel_rfl
  i212 := by kernel_rfl
  i232 := by kernel_rfl
  i233 := by kernel_rfl
  m17 := by kernel_rfl
  m18 := by kernel_rfl
  m19 := by kernel_rfl }
open Go.RowKit Go.Sort Go.Lib in
theorem Tryd.strconv_FormatInt_10 (n : Int) (h0 : -9223372036854775808 ≤ n) (h1 : n ≤ 9223372036854775807) (w : World) (htab : Lib.TabIs Tryd.prog w "internal/strconv.uint64pow10" .u64 Lib.pow10Tab) :
    Calls Tryd.prog 55 #[.int .i64 n, .int .i64 10] w fun e w' => e = .returned (.string ⟨(Lib.itoa n).toArray⟩) ∧ ∃ k os, w' = grow (w.drewN k) os := Any.strconv_FormatInt_10 Tryd.laysM173 n h0 h1 w htab
def Tryd.lays173_ren : Go.Shelf.Ren := ⟨fun | 173 => 55 | 246 => 76 | 283 => 84 | 284 => 85 | 285 => 86 | 286 => 87 | 129 => 90 | 317 => 89 | 318 => 91 | 319 => 92 | 320 => 93 | 337 => 94 | 338 => 95 | n => n, fun | 2 => 2 | 3 => 3 | 9 => 9 | 4 => 4 | 171 => 115 | 0 => 0 | 53 => 116 | 37 => 81 | 5 => 5 | 173 => 119 | 212 => 124 | 51 => 125 | 20 => 20 | 213 => 126 | 46 => 128 | 232 => 131 | 233 => 132 | n => n, fun | 17 => 0 | 18 => 2 | 19 => 3 | n => n⟩
theorem Tryd.lays173 : Go.Proofs.Lays.n173 Tryd.prog Tryd.lays173_ren := {
  mixed := by kernel_rfl
  f129 := Tryd.func90.trans (congrArg some (by kernel_rfl))
  f173 := Tryd.func55.trans (congrArg some (by kernel_rfl))
  f246 := Tryd.func76.trans (congrArg some (by kernel_rfl))
  f283 := Tryd.func84.trans (congrArg some (by kernel_rfl))
  f284 := Tryd.func85.trans (congrArg some (by kernel_rfl))
  f285 := Tryd.func86.trans (congrArg some (by kernel_rfl))
  f286 := Tryd.func87.trans (congrArg some (by kernel_rfl))
  f317 := Tryd.func89.trans (congrArg some (by kernel_rfl))
  f318 := Tryd.func91.trans (congrArg some (by kernel_rfl))
  f319 := Tryd.func92.trans (congrArg some (by kernel_rfl))
  f320 := Tryd.func93.trans (congrArg some (by kernel_rfl))
  f337 := Tryd.func94.trans (congrArg some (by kernel_rfl))
  f338 := Tryd.func95.trans (congrArg some (by kernel_rfl))
  t0 := Tryd.underlying0
  a0 := Tryd.isAgg0
  z0 := Tryd.sizeOf0
  v0 := Tryd.zeroValue0
  t2 := Tryd.underlying2
  a2 := Tryd.isAgg2
  z2 := Tryd.sizeOf2
  v2 := Tryd.zeroValue2
  t3 := Tryd.underlying3
  a3 := Tryd.isAgg3
  z3 := Tryd.sizeOf3
  v3 := Tryd.zeroValue3
  t4 := Tryd.underlying4
  a4 := Tryd.isAgg4
  z4 := Tryd.sizeOf4
  v4 := Tryd.zeroValue4
  t5 := Tryd.underlying5
  a5 := Tryd.isAgg5
  z5 := Tryd.sizeOf5
  v5 := Tryd.zeroValue5
  t9 := Tryd.underlying9
  a9 := Tryd.isAgg9
  z9 := Tryd.sizeOf9
  v9 := Tryd.zeroValue9
  t20 := Tryd.underlying20
  a20 := Tryd.isAgg20
  z20 := Tryd.sizeOf20
  v20 := Tryd.zeroValue20
  t37 := Tryd.underlying81
  a37 := Tryd.isAgg81
  z37 := Tryd.sizeOf81
  v37 := Tryd.zeroValue81
  t46 := Tryd.underlying128
  a46 := Tryd.isAgg128
  z46 := Tryd.sizeOf128
  v46 := Tryd.zeroValue128
  t51 := Tryd.underlying125
  a51 := Tryd.isAgg125
  z51 := Tryd.sizeOf125
  v51 := Tryd.zeroValue125
  t53 := Tryd.underlying116
  a53 := Tryd.isAgg116
  z53 := Tryd.sizeOf116
  v53 := Tryd.zeroValue116
  t171 := Tryd.underlying115
  a171 := Tryd.isAgg115
  z171 := Tryd.sizeOf115
  v171 := Tryd.zeroValue115
  t173 := Tryd.underlying119
  a173 := Tryd.isAgg119
  z173 := Tryd.sizeOf119
  v173 := Tryd.zeroValue119
  t212 := Tryd.underlying124
  a212 := Tryd.isAgg124
  z212 := Tryd.sizeOf124
  v212 := Tryd.zeroValue124
  t213 := Tryd.underlying126
  a213 := Tryd.isAgg126
  z213 := Tryd.sizeOf126
  t232 := Tryd.underlying131
  a232 := Tryd.isAgg131
  z232 := Tryd.sizeOf131
  v232 := Tryd.zeroValue131
  t233 := Tryd.underlying132
  a233 := Tryd.isAgg132
  z233 := Tryd.sizeOf132
  v233 := Tryd.zeroValue132
  g17 := by kernel_rfl
  g18 := by kernel_rfl
  g19 := by kernel_rfl }
open Go.RowKit Go.Sort Go.Lib in
theorem Tryd.strconv_FormatInt_10_small (i : Nat) (hi : i < 100) (w : World) :
    Calls Tryd.prog 55 #[.int .i64 i, .int .i64 10] w fun e w' => e = .returned (.string ⟨(Lib.decDigits i).toArray⟩) ∧ w' = w := Any.strconv_FormatInt_10_small Tryd.lays173 i hi w
end Go.Proofs

namespace Go.Proofs.YtppphpnimecgpaaDoor
open Go.RowKit
set_option linter.unusedVariables false
set_option linter.unusedSimpArgs false

/-- the library's table of powers reads as it was laid, whatever is made new -/
def Tab (w : World) : Prop := Lib.TabBelow Tryd.prog w.heap.size w "internal/strconv.uint64pow10" .u64 Lib.pow10Tab
theorem Tab.ext {w w' : World} (h : Tab w) (x : Ext w w') : Tab w' := fun w'' x' => h w'' (Ext.trans x x')
theorem decimal_c (n : Int) (w : World) (h0 : -9223372036854775808 ≤ n) (h1 : n ≤ 9223372036854775807) (ht : Tab w) :
    Calls Tryd.prog 28 #[.int .i64 n] w fun e w' => e = .returned (tx (Lib.itoa n)) ∧ Ext w w' := by
  go_enter Tryd.func28, Tryd.ntmps28
  go_wp2_with fail
  refine (Tryd.strconv_FormatInt_10 n h0 h1 w (ht w (Ext.refl w))).mono ?_
  rintro e w' ⟨rfl, k, os, rfl⟩
  go_wp2_with fail
  go_ret
  exact ⟨rfl, Lib.below_grow _ w (Nat.le_refl _) k os⟩
end Go.Proofs.YtppphpnimecgpaaDoor

namespace Go.Proofs.YtppphpnimecgpaaDoor
open Go.RowKit
set_option linter.unusedVariables false
set_option linter.unusedSimpArgs false

set_option maxRecDepth 100000 in
set_option maxHeartbeats 2000000 in
theorem numbered_c (m : Nat) (d : Int) (w : World) (hm : m ≤ 1000) (ht : Tab w) :
    Calls Tryd.prog 39 #[.int .i64 (m : Nat), .int .i64 d] w fun e w' => ∃ b cap, e = .returned (.slice b m cap) ∧ Ext w w' ∧ w'.ownsRow w.heap.size 63 3 (.slice b m cap) m (MT (eqM d m)) := by
  have HT := Lib.hid ht
  clear ht
  go_enter Tryd.func39, Tryd.ntmps39
  go_wp2_with fail
  go_loopw [5, 6] (fun v i wr => ∃ j : Nat, j ≤ m ∧ i = .int .i64 ((j : Int) + 1) ∧ wr.ownsRow w.heap.size 63 3 v j (MT (eqM d j)) ∧ Ext w wr) (fun _ i _ => m + 1 - (intOf i).toNat)
  case atStart => exact ⟨0, by omega, rfl, World.ownsRow_nil _ _ _ _, (by repeat (first | with_reducible exact Ext.refl _ | with_reducible assumption | with_reducible refine Ext.alloc ?_ _ | with_reducible refine Ext.drew ?_ | (with_reducible refine Ext.setAt ?_ _ _ _ ?_; rotate_left; omega) | with_reducible refine Ext.trans ?_ (by assumption) | with_reducible exact Past.bel _ | with_reducible refine Ext.trans ?_ (Past.bel _)))⟩
  case round =>
    obtain ⟨j, hj, rfl, ho, hx⟩ := hrel
    have HO := Lib.hid ho
    clear ho
    have hsz := hx.size
    by_cases hlt : j < m
    · have x1 : (j : Int) + 1 ≤ (m : Int) := by omega
      obtain ⟨A, hA⟩ : ∃ A, A = Lib.itoa ((j : Int) + 1) := ⟨_, rfl⟩
      have la : A.length ≤ 7 := by rw [hA]; exact itoa_small _ (by omega) (by omega)
      have HD := Lib.hid (fun (W : World) (hq : Ext w W) => (show Calls Tryd.prog 28 #[.int .i64 ((j : Int) + 1)] W (fun e w' => e = .returned (.string ⟨A.toArray⟩) ∧ Ext W w') from by rw [hA]; exact decimal_c _ W (by omega) (by omega) (HT.out.ext hq)))
      have HA := Lib.hid hA
      clear hA
      go_wp2_with (first | (go_at_call 28; ((with_reducible refine (HD.out _ (by repeat (first | with_reducible exact Ext.refl _ | with_reducible assumption | with_reducible refine Ext.alloc ?_ _ | with_reducible refine Ext.drew ?_ | (with_reducible refine Ext.setAt ?_ _ _ _ ?_; rotate_left; omega) | with_reducible refine Ext.trans ?_ (by assumption) | with_reducible exact Past.bel _ | with_reducible refine Ext.trans ?_ (Past.bel _)))).mono ?_); rintro e w' ⟨rfl, hx⟩; (first | (obtain ⟨wx, rfl⟩ := Past.again hx) | (obtain ⟨wx, rfl⟩ := Past.ofd hx) | (obtain ⟨wx, rfl⟩ := Past.of hx)))) | (at_builtin; refine app_month _ _ rfl rfl w.heap.size _ j (j + 1) (MT (eqM d j)) (⟨#[109]⟩ ++ ⟨A.toArray⟩) d d _ 1 rfl rfl rfl (own_ext HO.out (by repeat (first | with_reducible exact Ext.refl _ | with_reducible assumption | with_reducible refine Ext.alloc ?_ _ | with_reducible refine Ext.drew ?_ | (with_reducible refine Ext.setAt ?_ _ _ _ ?_; rotate_left; omega) | with_reducible refine Ext.trans ?_ (by assumption) | with_reducible exact Past.bel _ | with_reducible refine Ext.trans ?_ (Past.bel _)))) (Blk.new _ _ _) (by omega) (Ext.size (by repeat (first | with_reducible exact Ext.refl _ | with_reducible assumption | with_reducible refine Ext.alloc ?_ _ | with_reducible refine Ext.drew ?_ | (with_reducible refine Ext.setAt ?_ _ _ _ ?_; rotate_left; omega) | with_reducible refine Ext.trans ?_ (by assumption) | with_reducible exact Past.bel _ | with_reducible refine Ext.trans ?_ (Past.bel _)))) ?_; intro b6 c6 w6 s6 s7))
      have hx6 : Ext w w6 := by
        refine Ext.grown ?_ s7 (fun q hq => (HO.out.lt q hq).1)
        ((repeat (first | with_reducible exact Ext.refl _ | with_reducible assumption | with_reducible refine Ext.alloc ?_ _ | with_reducible refine Ext.drew ?_ | (with_reducible refine Ext.setAt ?_ _ _ _ ?_; rotate_left; omega) | with_reducible refine Ext.trans ?_ (by assumption) | with_reducible exact Past.bel _ | with_reducible refine Ext.trans ?_ (Past.bel _))); done)
      refine ⟨⟨j + 1, by omega, by go_num, ?_, hx6⟩, by simp [intOf]; omega⟩
      rw [eqM_step, MT_app, ← HA.out]
      exact s6
    · have x1 : ¬ (j : Int) + 1 ≤ (m : Int) := by omega
      obtain rfl : j = m := by omega
      obtain ⟨b, cap, rfl⟩ := own_form HO.out
      go_wp2_with fail
      go_ret
      exact ⟨b, cap, rfl, hx, HO.out⟩
/-- 'append' of two rules to rules of its own -/
theorem app_rules {w : World} {ops : Array Oper} {rest : List Oper} {o : Oper} {A : Act} {Q : Exit → Act → World → Prop} (s x : Operand)
    (hop : o.op = .call { callee := .builtin .append, args := #[s, x], argTypes := #[40, 40] }) (hgd : o.guard = none)
    (B : Nat) (v : Value) (n k m : Nat) (xs ys : List Value) (gb c : Nat) (hm : m = n + k) (hk : k ≤ 100) (hs : A.eval s = v) (hx : A.eval x = .slice (some ⟨gb, 0, none⟩) k c) (h : w.ownsRow B 67 3 v n xs)
    (hc : Blk w gb 67 ys.toArray) (hy : ys.length = k * 3) (ho : ∀ u ∈ ys, u.oneCell' = true) (hl : n ≤ 1048576) (h0 : B ≤ w.heap.size)
    (hK : ∀ b' c' w', w'.ownsRow B 67 3 (.slice b' m c') m (xs ++ ys) → w.grownBy w' v.ownBlock → wpList Tryd.prog ops Q rest (A.put o.dst (.slice b' m c')) w') : wpList Tryd.prog ops Q (o :: rest) A w := by
  subst hm
  refine appG 40 67 s x _ 3 24 hop hgd Tryd.underlying40 info_rule rfl (by decide) (by decide) B v n xs k ys gb c hs hx h hc hy ho hk hl h0 ?_
  intro v' w' s6 s7
  obtain ⟨b', c', rfl⟩ := own_form s6
  exact hK b' c' w' s6 s7
theorem apart_of {w : World} {b1 b2 n1 n2 : Nat} {e1 e2 : TypeId} {s1 s2 : Nat} {v1 v2 : Value} {x1 x2 : List Value} (h1 : w.ownsRow b1 e1 s1 v1 n1 x1) (h2 : w.ownsRow b2 e2 s2 v2 n2 x2) (hlt : ∀ k, v1.ownBlock = some k → k < b2) :
    (v1.ownBlock = none ∨ v1.ownBlock ≠ v2.ownBlock) ∧ (v2.ownBlock = none ∨ v2.ownBlock ≠ v1.ownBlock) := by
  have hne : ∀ k, v1.ownBlock = some k → v2.ownBlock = some k → False := fun k hk hk2 => by
    have := hlt k hk; have := (h2.lt k hk2).1; omega
  constructor
  · cases h : v1.ownBlock with
    | none => exact .inl rfl
    | some k => exact .inr fun e => hne k h e.symm
  · cases h : v2.ownBlock with
    | none => exact .inl rfl
    | some k => exact .inr fun e => hne k e.symm h
theorem two_cells (w : World) (T U : TypeId) (a b : Array Value) : Blk ((w.alloc (.cells a T)).alloc (.cells b U)) w.heap.size T a ∧ Blk ((w.alloc (.cells a T)).alloc (.cells b U)) (w.heap.size + 1) U b :=
  ⟨(Blk.new w a T).ext ((Ext.refl _).alloc _), by have := Blk.new (w.alloc (.cells a T)) b U; rwa [World.size_alloc] at this⟩
set_option maxRecDepth 100000 in
set_option maxHeartbeats 4000000 in
theorem implNamed_egy (w : World) (ht : Tab w) :
    Calls Tryd.prog 19 #[.string egyS] w fun e w' => NmR w w' egyM [] 10 0 egyS e := by
  rw [egyS]
  go_enter Tryd.func19, Tryd.ntmps19
  go_wp2_with fail
  obtain ⟨K0, J0⟩ := two_cells w 42 42 #[.string ⟨#[]⟩, .slice none 0 0, .slice none 0 0, .int .i64 0] #[.string ⟨#[101, 103, 121, 112, 116, 105, 97, 110]⟩, .slice none 0 0, .slice none 0 0, .int .i64 7]
  refine (numbered_c 12 30 _ (by omega) (ht.ext (by repeat (first | with_reducible exact Ext.refl _ | with_reducible assumption | with_reducible refine Ext.alloc ?_ _ | with_reducible refine Ext.drew ?_ | (with_reducible refine Ext.setAt ?_ _ _ _ ?_; rotate_left; omega) | with_reducible refine Ext.trans ?_ (by assumption) | with_reducible exact Past.bel _ | with_reducible refine Ext.trans ?_ (Past.bel _))))).mono ?_
  rintro e w1 ⟨b, cap, rfl, hx1, ho1⟩
  have z1 := hx1.size
  simp only [World.size_alloc] at ho1 z1
  have HO := Lib.hid ho1
  have K1 := Lib.hid (K0.ext hx1)
  have J1 := Lib.hid (J0.ext hx1)
  clear ho1 K0 J0
  go_wp2_with (at_builtin; refine app_month _ _ rfl rfl (w.heap.size + 1 + 1) _ 12 13 (MT (eqM 30 12)) ⟨#[109, 49, 51]⟩ 5 5 _ 1 rfl rfl rfl (own_ext HO.out (by repeat (first | with_reducible exact Ext.refl _ | with_reducible assumption | with_reducible refine Ext.alloc ?_ _ | with_reducible refine Ext.drew ?_ | (with_reducible refine Ext.setAt ?_ _ _ _ ?_; rotate_left; omega) | with_reducible refine Ext.trans ?_ (by assumption) | with_reducible exact Past.bel _ | with_reducible refine Ext.trans ?_ (Past.bel _)))) (Blk.new _ _ _) (by omega) (Nat.le_trans z1 (Ext.size (w := w1) (by repeat (first | with_reducible exact Ext.refl _ | with_reducible assumption | with_reducible refine Ext.alloc ?_ _ | with_reducible refine Ext.drew ?_ | (with_reducible refine Ext.setAt ?_ _ _ _ ?_; rotate_left; omega) | with_reducible refine Ext.trans ?_ (by assumption) | with_reducible exact Past.bel _ | with_reducible refine Ext.trans ?_ (Past.bel _))))) ?_; intro b6 c6 w6 s6 s7; have K6 := (Blk.grown (K1.out.ext (w' := w1.alloc _) (by repeat (first | with_reducible exact Ext.refl _ | with_reducible assumption | with_reducible refine Ext.alloc ?_ _ | with_reducible refine Ext.drew ?_ | (with_reducible refine Ext.setAt ?_ _ _ _ ?_; rotate_left; omega) | with_reducible refine Ext.trans ?_ (by assumption) | with_reducible exact Past.bel _ | with_reducible refine Ext.trans ?_ (Past.bel _)))) s7 (fun e => by have := (HO.out.lt _ e.symm).1; omega)).cel; have J6 := (Blk.grown (J1.out.ext (w' := w1.alloc _) (by repeat (first | with_reducible exact Ext.refl _ | with_reducible assumption | with_reducible refine Ext.alloc ?_ _ | with_reducible refine Ext.drew ?_ | (with_reducible refine Ext.setAt ?_ _ _ _ ?_; rotate_left; omega) | with_reducible refine Ext.trans ?_ (by assumption) | with_reducible exact Past.bel _ | with_reducible refine Ext.trans ?_ (Past.bel _)))) s7 (fun e => by have := (HO.out.lt _ e.symm).1; omega)).cel; obtain ⟨k1, k2, k3, k4, k5, k6, k7, k8, k9⟩ := K6; obtain ⟨j1, j2, j3, j4, j5, j6, j7, j8, j9⟩ := J6; have S6 := Lib.hid s6; have S7 := Lib.hid s7; clear s6 s7)
  have e6 : Ext w w6 := by
    refine Ext.grown ?_ S7.out (fun q hq => by have := (HO.out.lt q hq).1; omega)
    ((repeat (first | with_reducible exact Ext.refl _ | with_reducible assumption | with_reducible refine Ext.alloc ?_ _ | with_reducible refine Ext.drew ?_ | (with_reducible refine Ext.setAt ?_ _ _ _ ?_; rotate_left; omega) | with_reducible refine Ext.trans ?_ (by assumption) | with_reducible exact Past.bel _ | with_reducible refine Ext.trans ?_ (Past.bel _))); done)
  have S6' : w6.ownsRow (w.heap.size + 1 + 1) 63 3 (.slice b6 13 c6) 13 (MT egyM) := by rw [egyM, MT_app]; exact S6.out
  refine bodyPost_ret (v := .tuple #[.agg #[.string ⟨#[101, 103, 121, 112, 116, 105, 97, 110]⟩, .slice b6 13 c6, .slice none 0 0, .int .i64 10], .int .i64 0]) (by simp [results, Tryd.results19, go_sem, k2, k3, k4, k5]) rfl ?_
  exact NmR.mk4 rfl rfl (Ext.setAt (Ext.setAt e6 _ _ _ (by omega)) _ _ _ (by omega)) (own_base (own_low (own_low S6' (by omega) _ _) (by omega) _ _) (by omega)) (World.ownsRow_nil _ _ _ _) ⟨apart_none _, .inl rfl⟩ _ _ _ _
set_option maxRecDepth 100000 in
set_option maxHeartbeats 8000000 in
theorem implNamed_fix (w : World) (ht : Tab w) :
    Calls Tryd.prog 19 #[.string fixS] w fun e w' => NmR w w' fixM gregR 7 0 fixS e := by
  rw [fixS]
  go_enter Tryd.func19, Tryd.ntmps19
  go_wp2_with fail
  obtain ⟨K0, J0⟩ := two_cells w 42 42 #[.string ⟨#[]⟩, .slice none 0 0, .slice none 0 0, .int .i64 0] #[.string ⟨#[102, 105, 120, 101, 100]⟩, .slice none 0 0, .slice none 0 0, .int .i64 7]
  refine (numbered_c 12 28 _ (by omega) (ht.ext (by repeat (first | with_reducible exact Ext.refl _ | with_reducible assumption | with_reducible refine Ext.alloc ?_ _ | with_reducible refine Ext.drew ?_ | (with_reducible refine Ext.setAt ?_ _ _ _ ?_; rotate_left; omega) | with_reducible refine Ext.trans ?_ (by assumption) | with_reducible exact Past.bel _ | with_reducible refine Ext.trans ?_ (Past.bel _))))).mono ?_
  rintro e w1 ⟨b, cap, rfl, hx1, ho1⟩
  have z1 := hx1.size
  simp only [World.size_alloc] at ho1 z1
  have HO := Lib.hid ho1
  have K1 := Lib.hid (K0.ext hx1)
  have J1 := Lib.hid (J0.ext hx1)
  clear ho1 K0 J0
  go_upto_region 19 with (at_builtin; refine app_month _ _ rfl rfl (w.heap.size + 1 + 1) _ 12 13 (MT (eqM 28 12)) ⟨#[109, 49, 51]⟩ 29 30 _ 1 rfl rfl rfl (own_ext HO.out (by repeat (first | with_reducible exact Ext.refl _ | with_reducible assumption | with_reducible refine Ext.alloc ?_ _ | with_reducible refine Ext.drew ?_ | (with_reducible refine Ext.setAt ?_ _ _ _ ?_; rotate_left; omega) | with_reducible refine Ext.trans ?_ (by assumption) | with_reducible exact Past.bel _ | with_reducible refine Ext.trans ?_ (Past.bel _)))) (Blk.new _ _ _) (by omega) (Nat.le_trans z1 (Ext.size (w := w1) (by repeat (first | with_reducible exact Ext.refl _ | with_reducible assumption | with_reducible refine Ext.alloc ?_ _ | with_reducible refine Ext.drew ?_ | (with_reducible refine Ext.setAt ?_ _ _ _ ?_; rotate_left; omega) | with_reducible refine Ext.trans ?_ (by assumption) | with_reducible exact Past.bel _ | with_reducible refine Ext.trans ?_ (Past.bel _))))) ?_; intro b6 c6 w6 s6 s7; have K6 := Lib.hid (Blk.grown (K1.out.ext (w' := w1.alloc _) (by repeat (first | with_reducible exact Ext.refl _ | with_reducible assumption | with_reducible refine Ext.alloc ?_ _ | with_reducible refine Ext.drew ?_ | (with_reducible refine Ext.setAt ?_ _ _ _ ?_; rotate_left; omega) | with_reducible refine Ext.trans ?_ (by assumption) | with_reducible exact Past.bel _ | with_reducible refine Ext.trans ?_ (Past.bel _)))) s7 (fun e => by have := (HO.out.lt _ e.symm).1; omega)); have J6 := Lib.hid (Blk.grown (J1.out.ext (w' := w1.alloc _) (by repeat (first | with_reducible exact Ext.refl _ | with_reducible assumption | with_reducible refine Ext.alloc ?_ _ | with_reducible refine Ext.drew ?_ | (with_reducible refine Ext.setAt ?_ _ _ _ ?_; rotate_left; omega) | with_reducible refine Ext.trans ?_ (by assumption) | with_reducible exact Past.bel _ | with_reducible refine Ext.trans ?_ (Past.bel _)))) s7 (fun e => by have := (HO.out.lt _ e.symm).1; omega)); obtain ⟨k1, k2, k3, k4, k5, k6, k7, k8, k9⟩ := K6.out.cel; obtain ⟨j1, j2, j3, j4, j5, j6, j7, j8, j9⟩ := J6.out.cel; have S6' := Lib.hid s6; have S7 := Lib.hid s7; clear s6 s7)
  have e6 : Ext w w6 := by
    refine Ext.grown ?_ S7.out (fun q hq => by have := (HO.out.lt q hq).1; omega)
    ((repeat (first | with_reducible exact Ext.refl _ | with_reducible assumption | with_reducible refine Ext.alloc ?_ _ | with_reducible refine Ext.drew ?_ | (with_reducible refine Ext.setAt ?_ _ _ _ ?_; rotate_left; omega) | with_reducible refine Ext.trans ?_ (by assumption) | with_reducible exact Past.bel _ | with_reducible refine Ext.trans ?_ (Past.bel _))); done)
  have S6 := Lib.hid (show w6.ownsRow (w.heap.size + 1 + 1) 63 3 (.slice b6 13 c6) 13 (MT fixM) from by rw [fixM, MT_app]; exact S6'.out)
  clear k1 k2 k3 k4 k5 k6 k7 k8 k9 j1 j2 j3 j4 j5 j6 j7 j8 j9
  have z6 : w.heap.size + 1 + 1 ≤ w6.heap.size := by have := S7.out.size; simp only [World.size_alloc] at this; omega
  have zB0 : ∀ X : World, Ext w X → X.ownsRow (w.heap.size + 1 + 1) 63 3 (.slice b6 13 c6) 13 (MT fixM) → w.heap.size + 1 + 1 ≤ X.heap.size := fun X _ h => by obtain ⟨g, hg, h1, h2, _⟩ := own_atK h (by omega); omega
  have J7 : Blk (w6.setCell ⟨w.heap.size + 1, 1, none⟩ (.slice b6 13 c6)) (w.heap.size + 1) 42 #[.string ⟨#[102, 105, 120, 101, 100]⟩, .slice b6 13 c6, .slice none 0 0, .int .i64 7] := J6.out.set 1 _
  have K7 := K6.out.other (w.heap.size + 1) 1 (.slice b6 13 c6) (by omega)
  have O7 := own_low S6.out (show w.heap.size + 1 < w.heap.size + 1 + 1 by omega) 1 (.slice b6 13 c6)
  have e7 := Ext.setAt e6 (w.heap.size + 1) 1 (.slice b6 13 c6) (by omega)
  generalize hX : w6.setCell ⟨w.heap.size + 1, 1, none⟩ (.slice b6 13 c6) = X at J7 K7 O7 e7 ⊢
  have zX := Nat.le_refl X.heap.size
  have zB : w.heap.size + 1 + 1 ≤ X.heap.size := zB0 X e7 O7
  obtain ⟨j1, j2, j3, j4, j5, j6, j7, j8, j9⟩ := J7.cel
  obtain ⟨k1, k2, k3, k4, k5, k6, k7, k8, k9⟩ := K7.cel
  have J8 : Blk ((X.setCell ⟨w.heap.size + 1, 2, none⟩ (.slice (some ⟨X.heap.size, 0, none⟩) 1 1)).alloc (.cells #[.int .i64 4, .int .i64 0, .bool true] 67)) (w.heap.size + 1) 42 #[.string ⟨#[102, 105, 120, 101, 100]⟩, .slice b6 13 c6, .slice (some ⟨X.heap.size, 0, none⟩) 1 1, .int .i64 7] := Blk.ext (J7.set 2 _) ((Ext.refl _).alloc _)
  have K8 := Blk.ext (K7.other (w.heap.size + 1) 2 (.slice (some ⟨X.heap.size, 0, none⟩) 1 1) (by omega)) ((Ext.refl _).alloc (.cells #[.int .i64 4, .int .i64 0, .bool true] 67))
  have O8 := own_ext (own_low O7 (show w.heap.size + 1 < w.heap.size + 1 + 1 by omega) 2 (.slice (some ⟨X.heap.size, 0, none⟩) 1 1)) ((Ext.refl _).alloc (.cells #[.int .i64 4, .int .i64 0, .bool true] 67))
  have R8 := own_litg (w := X.setCell ⟨w.heap.size + 1, 2, none⟩ (.slice (some ⟨X.heap.size, 0, none⟩) 1 1)) (base := X.heap.size) (g := X.heap.size) (e := 67) (size := 3) (n := 1) #[.int .i64 4, .int .i64 0, .bool true] (RT julR) rfl rfl (by decide) (by simp) (by simp)
  have e8 := (Ext.setAt e7 (w.heap.size + 1) 2 (.slice (some ⟨X.heap.size, 0, none⟩) 1 1) (by omega)).alloc (.cells #[.int .i64 4, .int .i64 0, .bool true] 67)
  have zY0 : ((X.setCell ⟨w.heap.size + 1, 2, none⟩ (.slice (some ⟨X.heap.size, 0, none⟩) 1 1)).alloc (.cells #[.int .i64 4, .int .i64 0, .bool true] 67)).heap.size = X.heap.size + 1 := by simp
  have LT8 := Lib.hid (fun k hk => (O7.lt k hk).2)
  clear J7 K7 O7 e7
  go_upto_region 21 with fail
  generalize hY : (X.setCell ⟨w.heap.size + 1, 2, none⟩ (.slice (some ⟨X.heap.size, 0, none⟩) 1 1)).alloc (.cells #[.int .i64 4, .int .i64 0, .bool true] 67) = Y at J8 K8 O8 R8 e8 zY0 ⊢
  clear j1 j2 j3 j4 j5 j6 j7 j8 j9 k1 k2 k3 k4 k5 k6 k7 k8 k9
  obtain ⟨j1, j2, j3, j4, j5, j6, j7, j8, j9⟩ := J8.cel
  obtain ⟨k1, k2, k3, k4, k5, k6, k7, k8, k9⟩ := K8.cel
  have ZY := Lib.hid zY0
  have HR8 := Lib.hid R8
  have HJ8 := Lib.hid J8
  have HK8 := Lib.hid K8
  have HO8 := Lib.hid O8
  clear R8 J8 K8 O8 zY0
  go_wp2_with (at_builtin; refine app_rules _ _ rfl rfl X.heap.size _ 1 2 3 (RT julR) [.int .i64 100, .int .i64 0, .bool false, .int .i64 400, .int .i64 0, .bool true] _ 2 rfl (by omega) rfl rfl (own_ext HR8.out (by repeat (first | with_reducible exact Ext.refl _ | with_reducible assumption | with_reducible refine Ext.alloc ?_ _ | with_reducible refine Ext.drew ?_ | (with_reducible refine Ext.setAt ?_ _ _ _ ?_; rotate_left; omega) | with_reducible refine Ext.trans ?_ (by assumption) | with_reducible exact Past.bel _ | with_reducible refine Ext.trans ?_ (Past.bel _)))) (Blk.new _ _ _) rfl (by intro u hu; simp only [List.mem_cons, List.not_mem_nil, or_false] at hu; rcases hu with rfl | rfl | rfl | rfl | rfl | rfl <;> rfl) (by omega) (Nat.le_trans (by have := ZY.out; omega) (Ext.size (w := Y) (by repeat (first | with_reducible exact Ext.refl _ | with_reducible assumption | with_reducible refine Ext.alloc ?_ _ | with_reducible refine Ext.drew ?_ | (with_reducible refine Ext.setAt ?_ _ _ _ ?_; rotate_left; omega) | with_reducible refine Ext.trans ?_ (by assumption) | with_reducible exact Past.bel _ | with_reducible refine Ext.trans ?_ (Past.bel _))))) ?_; intro b9 c9 w9 s6 s7; have J9 := (Blk.grown (HJ8.out.ext (w' := Y.alloc _) (by repeat (first | with_reducible exact Ext.refl _ | with_reducible assumption | with_reducible refine Ext.alloc ?_ _ | with_reducible refine Ext.drew ?_ | (with_reducible refine Ext.setAt ?_ _ _ _ ?_; rotate_left; omega) | with_reducible refine Ext.trans ?_ (by assumption) | with_reducible exact Past.bel _ | with_reducible refine Ext.trans ?_ (Past.bel _)))) s7 (fun e => by have := (HR8.out.lt _ e.symm).1; omega)).cel; have K9 := (Blk.grown (HK8.out.ext (w' := Y.alloc _) (by repeat (first | with_reducible exact Ext.refl _ | with_reducible assumption | with_reducible refine Ext.alloc ?_ _ | with_reducible refine Ext.drew ?_ | (with_reducible refine Ext.setAt ?_ _ _ _ ?_; rotate_left; omega) | with_reducible refine Ext.trans ?_ (by assumption) | with_reducible exact Past.bel _ | with_reducible refine Ext.trans ?_ (Past.bel _)))) s7 (fun e => by have := (HR8.out.lt _ e.symm).1; omega)).cel; clear j1 j2 j3 j4 j5 j6 j7 j8 j9 k1 k2 k3 k4 k5 k6 k7 k8 k9; obtain ⟨k1, k2, k3, k4, k5, k6, k7, k8, k9⟩ := K9; obtain ⟨j1, j2, j3, j4, j5, j6, j7, j8, j9⟩ := J9; have S9 := Lib.hid s6; have T9 := Lib.hid s7; clear s6 s7)
  have e9 : Ext w w9 := by
    refine Ext.grown ?_ T9.out (fun q hq => by have := (HR8.out.lt q hq).1; omega)
    ((repeat (first | with_reducible exact Ext.refl _ | with_reducible assumption | with_reducible refine Ext.alloc ?_ _ | with_reducible refine Ext.drew ?_ | (with_reducible refine Ext.setAt ?_ _ _ _ ?_; rotate_left; omega) | with_reducible refine Ext.trans ?_ (by assumption) | with_reducible exact Past.bel _ | with_reducible refine Ext.trans ?_ (Past.bel _))); done)
  have O9 : w9.ownsRow (w.heap.size + 1 + 1) 63 3 (.slice b6 13 c6) 13 (MT fixM) := (own_ext (w' := Y.alloc _) HO8.out (by repeat (first | with_reducible exact Ext.refl _ | with_reducible assumption | with_reducible refine Ext.alloc ?_ _ | with_reducible refine Ext.drew ?_ | (with_reducible refine Ext.setAt ?_ _ _ _ ?_; rotate_left; omega) | with_reducible refine Ext.trans ?_ (by assumption) | with_reducible exact Past.bel _ | with_reducible refine Ext.trans ?_ (Past.bel _)))).kept T9.out (by
    cases hv : (Value.slice b6 13 c6).ownBlock with
    | none => exact .inl rfl
    | some k => exact .inr fun e => by have := LT8.out k hv; have := (HR8.out.lt _ e.symm).1; omega)
  have S9' : w9.ownsRow X.heap.size 67 3 (.slice b9 3 c9) 3 (RT gregR) := S9.out
  refine bodyPost_ret (v := .tuple #[.agg #[.string ⟨#[102, 105, 120, 101, 100]⟩, .slice b6 13 c6, .slice b9 3 c9, .int .i64 7], .int .i64 0]) (by simp [results, Tryd.results19, go_sem, k2, k3, k4, k5]) rfl ?_
  exact NmR.mk4 rfl rfl (Ext.setAt e9 _ _ _ (by omega)) (own_base (own_low O9 (by omega) _ _) (by omega)) (own_base (own_low S9' (by omega) _ _) (by omega)) (apart_of O9 S9' LT8.out) _ _ _ _
end Go.Proofs.YtppphpnimecgpaaDoor
