/- The median of errors: the program's, the reference's; the law. The median of errors: the program's; the law. The median: at least half below, at least half above. No program in sight. The law on ResidualsOf. Lists compared, absolute values: of the laws. The law on JumpsOf. The law on medians: its walk. What arguments of plain data hold: slices of mixed structs, slices of numbers. No program in sight. What an argument of bytes holds. -/
import Derived.Test.YtmbpjlgeneemjaaBd
import Derived.Sort.OwnSortedInts
import Derived.Test.YtmbpjlgeneemjaaBc
import Derived.Test.YtmbpjlgeneemjaaBa

namespace Go.Proofs.Ytmbpjlgeneemjaa
open Go.RowKit
set_option linter.unusedVariables false
set_option linter.unusedSimpArgs false

def mdCode (n : Nat) (h o : Nat → Int) : Int := if rdV n h o then (if n = 0 then 6 else 0) else 1
def mdRes (n : Nat) (h o : Nat → Int) : Int := if mdCode n h o = 0 then (srt (outs o n)).getD ((n - 1) / 2) 0 else 0
theorem outs_get (F : Nat → Int) (n i : Nat) (h : i < n) : (outs F n).getD i 0 = F i := by
  induction n with
  | zero => omega
  | succ n ih =>
    simp only [outs, List.getD, List.getElem?_append, outs_len]
    by_cases e : i < n
    · rw [if_pos e]; exact ih e
    · obtain rfl : i = n := by omega
      rw [if_neg e]; simp
set_option maxHeartbeats 2000000 in
theorem l14Sorted_c (a : Option Addr) (n c : Nat) (f o : Nat → Int) (w : World) (hn : n ≤ 1000000) (hs : S2 w a n f o) :
    Calls Try.prog 67 #[.slice a n c] w fun e w' => ∃ b cap, e = .returned (.slice b n cap) ∧ w'.ownsRow w.heap.size 2 1 (.slice b n cap) n ((srt (outs o n)).map (Value.int .i64)) ∧ Ext w w' := by
  have HS := Lib.hid hs
  clear hs
  go_enter Try.func67, Try.ntmps67
  go_wp2_with fail
  go_loopw [3, 4] (fun v3 v4 wr => ∃ j : Nat, j ≤ n ∧ v4 = .int .i64 j ∧ wr.ownsRow w.heap.size 2 1 v3 j ((outs o j).map (Value.int .i64)) ∧ Ext w wr) (fun _ v4 _ => n - (intOf v4).toNat)
  case atStart => exact ⟨0, by omega, rfl, World.ownsRow_made _ #[] 0 (Nat.le_refl _) (Nat.zero_le _) rfl, (by repeat (first | with_reducible exact Ext.refl _ | with_reducible assumption | with_reducible refine Ext.alloc ?_ _ | with_reducible refine Ext.drew ?_ | (with_reducible refine Ext.setAt ?_ _ _ _ ?_; rotate_left; omega) | with_reducible refine Ext.trans ?_ (by assumption) | with_reducible exact Past.bel _ | with_reducible refine Ext.trans ?_ (Past.bel _)))⟩
  case round =>
    obtain ⟨j, hj, rfl, ho, hx⟩ := hrel
    have HO := Lib.hid ho
    have x0 : (0 : Int) ≤ (j : Int) := by omega
    clear ho
    by_cases hlt : j < n
    · have x1 : (j : Int) < (n : Int) := by omega
      obtain ⟨b1, o1, rfl, hb1, q1, q2⟩ := (HS.out.ext hx).at hlt
      go_wp2_with (at_builtin; refine app1 (w0 := w) 34 2 _ _ rfl rfl Try.underlying34 info_i64 _ (outs o j) (o j) _ rfl rfl (own_ext (by rw [outs_len]; exact HO.out) (by repeat (first | with_reducible exact Ext.refl _ | with_reducible assumption | with_reducible refine Ext.alloc ?_ _ | with_reducible refine Ext.drew ?_ | (with_reducible refine Ext.setAt ?_ _ _ _ ?_; rotate_left; omega) | with_reducible refine Ext.trans ?_ (by assumption) | with_reducible exact Past.bel _ | with_reducible refine Ext.trans ?_ (Past.bel _)))) (by simp [go_sem]) (by rw [outs_len]; omega) (by repeat (first | with_reducible exact Ext.refl _ | with_reducible assumption | with_reducible refine Ext.alloc ?_ _ | with_reducible refine Ext.drew ?_ | (with_reducible refine Ext.setAt ?_ _ _ _ ?_; rotate_left; omega) | with_reducible refine Ext.trans ?_ (by assumption) | with_reducible exact Past.bel _ | with_reducible refine Ext.trans ?_ (Past.bel _))) ?_; intro v6 w6 s6 s7)
      exact ⟨⟨j + 1, by omega, by go_num, (by rw [List.length_append, outs_len] at s6; exact s6), s7⟩, by simp [intOf]; omega⟩
    · have x1 : ¬ (j : Int) < (n : Int) := by omega
      obtain rfl : j = n := by omega
      obtain ⟨b9, c9, rfl⟩ := own_form HO.out
      have hs1 : S1 wr b9 j o := fun h0 => by
        obtain ⟨g, rfl, _, hg, _⟩ := own_at HO.out h0
        refine ⟨g, 0, rfl, hg, fun i hi => ?_⟩
        have := own_gets HO.out i (by rw [outs_len]; exact hi)
        rw [outs_get o j i hi] at this
        rw [Nat.zero_add]; exact this
      go_wp2_with fail
      refine (l05Sort_c b9 j c9 o wr hn hs1).mono ?_
      rintro e w' ⟨b, cap, rfl, hw, hx'⟩
      have HW2 := Lib.hid (own_weaken hw hx.size)
      have hxx := Ext.trans hx hx'
      clear hw
      go_wp2_with fail
      go_ret
      exact ⟨b, cap, rfl, HW2.out, hxx⟩
set_option maxHeartbeats 2000000 in
theorem specMedian_c (a : Option Addr) (n c : Nat) (f o : Nat → Int) (w : World) (hn : n ≤ 1048576) (hs : S2 w a n f o) :
    Calls Try.prog 38 #[.slice a n c] w fun e w' => e = .returned (.tuple #[.int .i64 (mdRes n f o), .int .i64 (mdCode n f o)]) ∧ Ext w w' := by
  have HS := Lib.hid hs
  clear hs
  have HV := Lib.hid (fun (W : World) (hq : Ext w W) => l14Ok_c a n c f o W hn (HS.out.ext hq))
  cases hv : rdV n f o
  · have HC := Lib.hid (show mdCode n f o = 1 by rw [mdCode, hv]; rfl)
    rw [hv] at HV
    clear hv
    go_enter Try.func38, Try.ntmps38
    go_wp2_with (go_at_call 48; ((with_reducible refine (HV.out _ (by repeat (first | with_reducible exact Ext.refl _ | with_reducible assumption | with_reducible refine Ext.alloc ?_ _ | with_reducible refine Ext.drew ?_ | (with_reducible refine Ext.setAt ?_ _ _ _ ?_; rotate_left; omega) | with_reducible refine Ext.trans ?_ (by assumption) | with_reducible exact Past.bel _ | with_reducible refine Ext.trans ?_ (Past.bel _)))).mono ?_); rintro e w' ⟨rfl, hx⟩; (first | (obtain ⟨wx, rfl⟩ := Past.again hx) | (obtain ⟨wx, rfl⟩ := Past.ofd hx) | (obtain ⟨wx, rfl⟩ := Past.of hx))))
    go_ret2
    exact ⟨by rw [mdRes, HC.out]; rfl, (by repeat (first | with_reducible exact Ext.refl _ | with_reducible assumption | with_reducible refine Ext.alloc ?_ _ | with_reducible refine Ext.drew ?_ | (with_reducible refine Ext.setAt ?_ _ _ _ ?_; rotate_left; omega) | with_reducible refine Ext.trans ?_ (by assumption) | with_reducible exact Past.bel _ | with_reducible refine Ext.trans ?_ (Past.bel _)))⟩
  · have h60 := (rb_of hv).n60
    rw [hv] at HV
    by_cases h0 : n = 0
    · have HC := Lib.hid (show mdCode n f o = 6 by rw [mdCode, hv, if_pos rfl, if_pos h0])
      subst h0
      clear hv
      go_enter Try.func38, Try.ntmps38
      go_wp2_with (go_at_call 48; ((with_reducible refine (HV.out _ (by repeat (first | with_reducible exact Ext.refl _ | with_reducible assumption | with_reducible refine Ext.alloc ?_ _ | with_reducible refine Ext.drew ?_ | (with_reducible refine Ext.setAt ?_ _ _ _ ?_; rotate_left; omega) | with_reducible refine Ext.trans ?_ (by assumption) | with_reducible exact Past.bel _ | with_reducible refine Ext.trans ?_ (Past.bel _)))).mono ?_); rintro e w' ⟨rfl, hx⟩; (first | (obtain ⟨wx, rfl⟩ := Past.again hx) | (obtain ⟨wx, rfl⟩ := Past.ofd hx) | (obtain ⟨wx, rfl⟩ := Past.of hx))))
      go_ret2
      exact ⟨by rw [mdRes, HC.out]; rfl, (by repeat (first | with_reducible exact Ext.refl _ | with_reducible assumption | with_reducible refine Ext.alloc ?_ _ | with_reducible refine Ext.drew ?_ | (with_reducible refine Ext.setAt ?_ _ _ _ ?_; rotate_left; omega) | with_reducible refine Ext.trans ?_ (by assumption) | with_reducible exact Past.bel _ | with_reducible refine Ext.trans ?_ (Past.bel _)))⟩
    · have HC := Lib.hid (show mdCode n f o = 0 by rw [mdCode, hv, if_pos rfl, if_neg h0])
      have b0 : ((n : Int) == 0) = false := beq_eq_false_iff_ne.2 (by omega)
      have b1 : ¬ (n : Int) = 0 := by omega
      have i1 : ((n : Int) - 1) / 2 = (((n - 1) / 2 : Nat) : Int) := by omega
      have i2 : (0 : Int) ≤ (((n - 1) / 2 : Nat) : Int) := by omega
      have i3 : (((n - 1) / 2 : Nat) : Int) < (n : Int) := by omega
      have i4 : (0 : Int) ≤ (n : Int) - 1 := by omega
      clear hv
      go_enter Try.func38, Try.ntmps38
      go_wp2_with (go_at_call 48; ((with_reducible refine (HV.out _ (by repeat (first | with_reducible exact Ext.refl _ | with_reducible assumption | with_reducible refine Ext.alloc ?_ _ | with_reducible refine Ext.drew ?_ | (with_reducible refine Ext.setAt ?_ _ _ _ ?_; rotate_left; omega) | with_reducible refine Ext.trans ?_ (by assumption) | with_reducible exact Past.bel _ | with_reducible refine Ext.trans ?_ (Past.bel _)))).mono ?_); rintro e w' ⟨rfl, hx⟩; (first | (obtain ⟨wx, rfl⟩ := Past.again hx) | (obtain ⟨wx, rfl⟩ := Past.ofd hx) | (obtain ⟨wx, rfl⟩ := Past.of hx))))
      have hxq : Ext w wx.out := (by repeat (first | with_reducible exact Ext.refl _ | with_reducible assumption | with_reducible refine Ext.alloc ?_ _ | with_reducible refine Ext.drew ?_ | (with_reducible refine Ext.setAt ?_ _ _ _ ?_; rotate_left; omega) | with_reducible refine Ext.trans ?_ (by assumption) | with_reducible exact Past.bel _ | with_reducible refine Ext.trans ?_ (Past.bel _)))
      generalize wx.out = wq at hxq ⊢
      refine (l14Sorted_c a n c f o wq (by omega) (HS.out.ext hxq)).mono ?_
      rintro e w' ⟨b, cap, rfl, hw, hx'⟩
      obtain ⟨g, rfl, _, hg, _⟩ := own_at hw (j := 0) (by omega)
      have r1 := own_gets hw ((n - 1) / 2) (by rw [srt_len, outs_len]; omega)
      obtain ⟨y, hy⟩ : ∃ y, y = (srt (outs o n)).getD ((n - 1) / 2) 0 := ⟨_, rfl⟩
      rw [← hy] at r1
      have HY := Lib.hid hy
      have hxx := Ext.trans hxq hx'
      clear hw hy
      go_wp2_with fail
      go_ret2
      exact ⟨by rw [mdRes, if_pos HC.out, HC.out, ← HY.out]; rfl, hxx⟩
end Go.Proofs.Ytmbpjlgeneemjaa

namespace Go.Proofs.Ytmbpjlgeneemjaa
open Go.RowKit
set_option linter.unusedVariables false
set_option linter.unusedSimpArgs false

set_option maxHeartbeats 4000000 in
theorem implMedian_c (a : Option Addr) (n c : Nat) (f o : Nat → Int) (w : World) (hn : n ≤ 1048576) (hs : S2 w a n f o) :
    Calls Try.prog 40 #[.slice a n c] w fun e w' => e = .returned (.tuple #[.int .i64 (mdRes n f o), .int .i64 (mdCode n f o)]) ∧ Ext w w' := by
  have HS := Lib.hid hs
  clear hs
  have HV := Lib.hid (fun (W : World) (hq : Ext w W) => validReadings_c a n c f o W hn (HS.out.ext hq))
  cases hv : rdV n f o
  · have HC := Lib.hid (show mdCode n f o = 1 by rw [mdCode, hv]; rfl)
    rw [hv] at HV
    clear hv
    go_enter Try.func40, Try.ntmps40
    go_wp2_with (go_at_call 20; ((with_reducible refine (HV.out _ (by repeat (first | with_reducible exact Ext.refl _ | with_reducible assumption | with_reducible refine Ext.alloc ?_ _ | with_reducible refine Ext.drew ?_ | (with_reducible refine Ext.setAt ?_ _ _ _ ?_; rotate_left; omega) | with_reducible refine Ext.trans ?_ (by assumption) | with_reducible exact Past.bel _ | with_reducible refine Ext.trans ?_ (Past.bel _)))).mono ?_); rintro e w' ⟨rfl, hx⟩; (first | (obtain ⟨wx, rfl⟩ := Past.again hx) | (obtain ⟨wx, rfl⟩ := Past.ofd hx) | (obtain ⟨wx, rfl⟩ := Past.of hx))))
    go_ret2
    exact ⟨by rw [mdRes, HC.out]; rfl, (by repeat (first | with_reducible exact Ext.refl _ | with_reducible assumption | with_reducible refine Ext.alloc ?_ _ | with_reducible refine Ext.drew ?_ | (with_reducible refine Ext.setAt ?_ _ _ _ ?_; rotate_left; omega) | with_reducible refine Ext.trans ?_ (by assumption) | with_reducible exact Past.bel _ | with_reducible refine Ext.trans ?_ (Past.bel _)))⟩
  · have h60 := (rb_of hv).n60
    rw [hv] at HV
    by_cases h0 : n = 0
    · have HC := Lib.hid (show mdCode n f o = 6 by rw [mdCode, hv, if_pos rfl, if_pos h0])
      subst h0
      clear hv
      go_enter Try.func40, Try.ntmps40
      go_wp2_with (go_at_call 20; ((with_reducible refine (HV.out _ (by repeat (first | with_reducible exact Ext.refl _ | with_reducible assumption | with_reducible refine Ext.alloc ?_ _ | with_reducible refine Ext.drew ?_ | (with_reducible refine Ext.setAt ?_ _ _ _ ?_; rotate_left; omega) | with_reducible refine Ext.trans ?_ (by assumption) | with_reducible exact Past.bel _ | with_reducible refine Ext.trans ?_ (Past.bel _)))).mono ?_); rintro e w' ⟨rfl, hx⟩; (first | (obtain ⟨wx, rfl⟩ := Past.again hx) | (obtain ⟨wx, rfl⟩ := Past.ofd hx) | (obtain ⟨wx, rfl⟩ := Past.of hx))))
      go_ret2
      exact ⟨by rw [mdRes, HC.out]; rfl, (by repeat (first | with_reducible exact Ext.refl _ | with_reducible assumption | with_reducible refine Ext.alloc ?_ _ | with_reducible refine Ext.drew ?_ | (with_reducible refine Ext.setAt ?_ _ _ _ ?_; rotate_left; omega) | with_reducible refine Ext.trans ?_ (by assumption) | with_reducible exact Past.bel _ | with_reducible refine Ext.trans ?_ (Past.bel _)))⟩
    · have HC := Lib.hid (show mdCode n f o = 0 by rw [mdCode, hv, if_pos rfl, if_neg h0])
      have b0 : ((n : Int) == 0) = false := beq_eq_false_iff_ne.2 (by omega)
      have b1 : ¬ (n : Int) = 0 := by omega
      clear hv
      go_enter Try.func40, Try.ntmps40
      go_wp2_with (go_at_call 20; ((with_reducible refine (HV.out _ (by repeat (first | with_reducible exact Ext.refl _ | with_reducible assumption | with_reducible refine Ext.alloc ?_ _ | with_reducible refine Ext.drew ?_ | (with_reducible refine Ext.setAt ?_ _ _ _ ?_; rotate_left; omega) | with_reducible refine Ext.trans ?_ (by assumption) | with_reducible exact Past.bel _ | with_reducible refine Ext.trans ?_ (Past.bel _)))).mono ?_); rintro e w' ⟨rfl, hx⟩; (first | (obtain ⟨wx, rfl⟩ := Past.again hx) | (obtain ⟨wx, rfl⟩ := Past.ofd hx) | (obtain ⟨wx, rfl⟩ := Past.of hx))))
      have hxq : Ext w wx.out := (by repeat (first | with_reducible exact Ext.refl _ | with_reducible assumption | with_reducible refine Ext.alloc ?_ _ | with_reducible refine Ext.drew ?_ | (with_reducible refine Ext.setAt ?_ _ _ _ ?_; rotate_left; omega) | with_reducible refine Ext.trans ?_ (by assumption) | with_reducible exact Past.bel _ | with_reducible refine Ext.trans ?_ (Past.bel _)))
      generalize wx.out = wq at hxq ⊢
      go_loopw [4, 6, 15] (fun v4 v6 v15 wr => ∃ j : Nat, j ≤ n ∧ v15 = .int .i64 j ∧ wr.ownsRow wq.heap.size 2 1 v4 j ((outs o j).map (Value.int .i64)) ∧ Ext wq wr) (fun _ _ v15 _ => n - (intOf v15).toNat)
      case atStart => exact ⟨0, by omega, rfl, World.ownsRow_nil _ _ _ _, Ext.refl _⟩
      case round =>
        obtain ⟨j, hj, rfl, ho, hx⟩ := hrel
        have HO := Lib.hid ho
        have x0 : (0 : Int) ≤ (j : Int) := by omega
        have hwr := Ext.trans hxq hx
        clear ho
        by_cases hlt : j < n
        · have x1 : (j : Int) < (n : Int) := by omega
          obtain ⟨b1', o1, rfl, hb1, q1, q2⟩ := (HS.out.ext hwr).at hlt
          go_wp2_with (at_builtin; refine app1 (w0 := wq) 34 2 _ _ rfl rfl Try.underlying34 info_i64 _ (outs o j) (o j) _ rfl rfl (own_ext (by rw [outs_len]; exact HO.out) (by repeat (first | with_reducible exact Ext.refl _ | with_reducible assumption | with_reducible refine Ext.alloc ?_ _ | with_reducible refine Ext.drew ?_ | (with_reducible refine Ext.setAt ?_ _ _ _ ?_; rotate_left; omega) | with_reducible refine Ext.trans ?_ (by assumption) | with_reducible exact Past.bel _ | with_reducible refine Ext.trans ?_ (Past.bel _)))) (by simp [go_sem]) (by rw [outs_len]; omega) (by repeat (first | with_reducible exact Ext.refl _ | with_reducible assumption | with_reducible refine Ext.alloc ?_ _ | with_reducible refine Ext.drew ?_ | (with_reducible refine Ext.setAt ?_ _ _ _ ?_; rotate_left; omega) | with_reducible refine Ext.trans ?_ (by assumption) | with_reducible exact Past.bel _ | with_reducible refine Ext.trans ?_ (Past.bel _))) ?_; intro v7 w7 s6 s7)
          exact ⟨⟨j + 1, by omega, by go_num, (by rw [List.length_append, outs_len] at s6; exact s6), s7⟩, by simp [intOf]; omega⟩
        · have x1 : ¬ (j : Int) < (n : Int) := by omega
          obtain rfl : j = n := by omega
          have hrow := HO.out
          rcases hrow.2 with ⟨_, hn0⟩ | ⟨g, cap, cur, rfl, hbase, hb, h1, h2, h3, h4⟩
          · exact absurd hn0 h0
          have hgl : g < wr.heap.size := (Array.getElem?_eq_some_iff.1 hb).1
          have hH : Sort.Holds (Value.int .i64) wr g 0 (outs o j).toArray := holds_of_blockI hb (by rw [outs_len]; simpa using h4)
          have hc := Try.slices_Sort_int g 0 cap (outs o j) wr hH hgl (by rw [outs_len]; omega)
          rw [outs_len] at hc
          have HCS := Lib.hid hc
          have HSO := Lib.hid (fun (nn : Nat) (os : Array Obj) => (show (Sort.grow (Sort.putRow (Value.int .i64) (Sort.ahead wr nn) g 0 (srt (outs o j)).toArray) os).ownsRow wq.heap.size 2 1 (.slice (some ⟨g, 0, none⟩) j cap) j ((srt (outs o j)).map (Value.int .i64)) ∧ Ext wq (Sort.grow (Sort.putRow (Value.int .i64) (Sort.ahead wr nn) g 0 (srt (outs o j)).toArray) os) from by
            have := ownsRow_sortedI (n := nn) (os := os) (ts := srt (outs o j)) (ss := outs o j) (srt_len _) hbase hb (by rw [outs_len]; exact h1) h2 h3
            rw [outs_len] at this
            exact ⟨this, hx.grown (grownBy_sortedI _) (fun q hq => by cases hq; exact hbase)⟩))
          clear hc hH hrow h1 h2 h3 h4 hb
          have i1 : ((j : Int) - 1) / 2 = (((j - 1) / 2 : Nat) : Int) := by omega
          have i2 : (0 : Int) ≤ (((j - 1) / 2 : Nat) : Int) := by omega
          have i3 : (((j - 1) / 2 : Nat) : Int) < (j : Int) := by omega
          have i4 : (0 : Int) ≤ (j : Int) - 1 := by omega
          go_wp2_with fail
          refine HCS.out.mono ?_
          rintro e w' ⟨rfl, nn, os, hw'⟩
          obtain ⟨hw, hxw⟩ := HSO.out nn os
          rw [show (Sort.grow (Sort.putRow (Value.int .i64) (Sort.ahead wr nn) g 0 (srt (outs o j)).toArray) os) = w' from hw'.symm] at hw hxw
          have r1 := own_gets hw ((j - 1) / 2) (by rw [srt_len, outs_len]; omega)
          obtain ⟨y, hy⟩ : ∃ y, y = (srt (outs o j)).getD ((j - 1) / 2) 0 := ⟨_, rfl⟩
          rw [← hy] at r1
          have HY := Lib.hid hy
          have hxx := Ext.trans hxq hxw
          clear hw hy hw' HSO HCS
          go_wp2_with fail
          go_ret2
          exact ⟨by rw [mdRes, if_pos HC.out, HC.out, ← HY.out]; rfl, hxx⟩
set_option maxHeartbeats 800000 in
theorem walkMedianOff (a : Option Addr) (n c : Nat) (f o : Nat → Int) (hm : n ≤ maxLen) (w : World) (hs : S2 w a n f o) :
    Calls Try.prog 7 #[.slice a n c] w fun e w' => e = .returned (.bool true) ∧ Ext w w' := by
  have HS := Lib.hid hs
  clear hs
  have hm' := Lib.hid hm
  clear hm
  by_cases hn : n ≤ 1048576
  · have h1 : ¬ (1048576 : Int) < n := by omega
    go_enter Try.func7, Try.ntmps7
    go_wp2_with (first | (go_at_call 37; ((with_reducible refine (szReadingS_c _ _ _ _ _ (by omega) (by omega) hm'.out).mono ?_); rintro e w' ⟨rfl, rfl⟩)))
    refine (toReadingS_r _ _ _ _ _ _ hn (HS.out.ext (by repeat (first | with_reducible exact Ext.refl _ | with_reducible assumption | with_reducible refine Ext.alloc ?_ _ | with_reducible refine Ext.drew ?_ | (with_reducible refine Ext.setAt ?_ _ _ _ ?_; rotate_left; omega) | with_reducible refine Ext.trans ?_ (by assumption) | with_reducible exact Past.bel _ | with_reducible refine Ext.trans ?_ (Past.bel _))))).mono ?_
    rintro e w' ⟨g1, rfl, hx1, hs1⟩
    have HS1 := Lib.hid hs1
    clear hs1
    (first | (obtain ⟨wx1, rfl⟩ := Past.again hx1) | (obtain ⟨wx1, rfl⟩ := Past.of hx1))
    go_wp2_with fail
    refine (specMedian_c _ _ _ _ _ _ hn (HS1.out.ext (by repeat (first | with_reducible exact Ext.refl _ | with_reducible assumption | with_reducible refine Ext.alloc ?_ _ | with_reducible refine Ext.drew ?_ | (with_reducible refine Ext.setAt ?_ _ _ _ ?_; rotate_left; omega) | with_reducible refine Ext.trans ?_ (by assumption) | with_reducible exact Past.bel _ | with_reducible refine Ext.trans ?_ (Past.bel _))))).mono ?_
    rintro e w' ⟨rfl, hx2⟩
    (first | (obtain ⟨wx2, rfl⟩ := Past.again hx2) | (obtain ⟨wx2, rfl⟩ := Past.of hx2))
    go_wp2_with fail
    refine (toReadingS_r _ _ _ _ _ _ hn (HS.out.ext (by repeat (first | with_reducible exact Ext.refl _ | with_reducible assumption | with_reducible refine Ext.alloc ?_ _ | with_reducible refine Ext.drew ?_ | (with_reducible refine Ext.setAt ?_ _ _ _ ?_; rotate_left; omega) | with_reducible refine Ext.trans ?_ (by assumption) | with_reducible exact Past.bel _ | with_reducible refine Ext.trans ?_ (Past.bel _))))).mono ?_
    rintro e w' ⟨g3, rfl, hx3, hs3⟩
    have HS3 := Lib.hid hs3
    clear hs3
    (first | (obtain ⟨wx3, rfl⟩ := Past.again hx3) | (obtain ⟨wx3, rfl⟩ := Past.of hx3))
    go_wp2_with fail
    refine (implMedian_c _ _ _ _ _ _ hn (HS3.out.ext (by repeat (first | with_reducible exact Ext.refl _ | with_reducible assumption | with_reducible refine Ext.alloc ?_ _ | with_reducible refine Ext.drew ?_ | (with_reducible refine Ext.setAt ?_ _ _ _ ?_; rotate_left; omega) | with_reducible refine Ext.trans ?_ (by assumption) | with_reducible exact Past.bel _ | with_reducible refine Ext.trans ?_ (Past.bel _))))).mono ?_
    rintro e w' ⟨rfl, hx4⟩
    (first | (obtain ⟨wx4, rfl⟩ := Past.again hx4) | (obtain ⟨wx4, rfl⟩ := Past.of hx4))
    go_wp2_with fail
    refine (toReadingS_r _ _ _ _ _ _ hn (HS.out.ext (by repeat (first | with_reducible exact Ext.refl _ | with_reducible assumption | with_reducible refine Ext.alloc ?_ _ | with_reducible refine Ext.drew ?_ | (with_reducible refine Ext.setAt ?_ _ _ _ ?_; rotate_left; omega) | with_reducible refine Ext.trans ?_ (by assumption) | with_reducible exact Past.bel _ | with_reducible refine Ext.trans ?_ (Past.bel _))))).mono ?_
    rintro e w' ⟨g6, rfl, hx6, hs6⟩
    have HS6 := Lib.hid hs6
    clear hs6
    (first | (obtain ⟨wx6, rfl⟩ := Past.again hx6) | (obtain ⟨wx6, rfl⟩ := Past.of hx6))
    go_wp2_with fail
    refine (eqReadingS_self _ _ _ _ _ _ _ _ hn (HS3.out.ext (by repeat (first | with_reducible exact Ext.refl _ | with_reducible assumption | with_reducible refine Ext.alloc ?_ _ | with_reducible refine Ext.drew ?_ | (with_reducible refine Ext.setAt ?_ _ _ _ ?_; rotate_left; omega) | with_reducible refine Ext.trans ?_ (by assumption) | with_reducible exact Past.bel _ | with_reducible refine Ext.trans ?_ (Past.bel _)))) (HS6.out.ext (by repeat (first | with_reducible exact Ext.refl _ | with_reducible assumption | with_reducible refine Ext.alloc ?_ _ | with_reducible refine Ext.drew ?_ | (with_reducible refine Ext.setAt ?_ _ _ _ ?_; rotate_left; omega) | with_reducible refine Ext.trans ?_ (by assumption) | with_reducible exact Past.bel _ | with_reducible refine Ext.trans ?_ (Past.bel _))))).mono ?_
    rintro e w' ⟨rfl, hx7⟩
    (first | (obtain ⟨wx7, rfl⟩ := Past.again hx7) | (obtain ⟨wx7, rfl⟩ := Past.of hx7))
    go_wp2_with fail
    go_ret
    exact ⟨rfl, (by repeat (first | with_reducible exact Ext.refl _ | with_reducible assumption | with_reducible refine Ext.alloc ?_ _ | with_reducible refine Ext.drew ?_ | (with_reducible refine Ext.setAt ?_ _ _ _ ?_; rotate_left; omega) | with_reducible refine Ext.trans ?_ (by assumption) | with_reducible exact Past.bel _ | with_reducible refine Ext.trans ?_ (Past.bel _)))⟩
  · have h1 : (1048576 : Int) < n := by omega
    go_enter Try.func7, Try.ntmps7
    go_wp2_with (first | (go_at_call 37; ((with_reducible refine (szReadingS_c _ _ _ _ _ (by omega) (by omega) hm'.out).mono ?_); rintro e w' ⟨rfl, rfl⟩)))
    go_ret
    exact ⟨rfl, (by repeat (first | with_reducible exact Ext.refl _ | with_reducible assumption | with_reducible refine Ext.alloc ?_ _ | with_reducible refine Ext.drew ?_ | (with_reducible refine Ext.setAt ?_ _ _ _ ?_; rotate_left; omega) | with_reducible refine Ext.trans ?_ (by assumption) | with_reducible exact Past.bel _ | with_reducible refine Ext.trans ?_ (Past.bel _)))⟩
end Go.Proofs.Ytmbpjlgeneemjaa

namespace Go.Proofs.Ytmbpjlgeneemjaa
set_option linter.unusedVariables false
def cl (o : Nat → Int) (m : Int) (n : Nat) : Nat := (outs o n).countP fun x => decide (x ≤ m)
def ch (o : Nat → Int) (m : Int) (n : Nat) : Nat := (outs o n).countP fun x => decide (m ≤ x)
def fd (o : Nat → Int) (m : Int) : Nat → Bool
  | 0 => false
  | j + 1 => fd o m j || o j == m
theorem cl_zero (o : Nat → Int) (m : Int) : cl o m 0 = 0 := rfl
theorem ch_zero (o : Nat → Int) (m : Int) : ch o m 0 = 0 := rfl
theorem cl_y {o : Nat → Int} {m : Int} {j : Nat} (h : o j ≤ m) : cl o m (j + 1) = cl o m j + 1 := by simp [cl, outs, List.countP_append, h]
theorem cl_n {o : Nat → Int} {m : Int} {j : Nat} (h : ¬ o j ≤ m) : cl o m (j + 1) = cl o m j := by simp [cl, outs, List.countP_append, h]
theorem ch_y {o : Nat → Int} {m : Int} {j : Nat} (h : m ≤ o j) : ch o m (j + 1) = ch o m j + 1 := by simp [ch, outs, List.countP_append, h]
theorem ch_n {o : Nat → Int} {m : Int} {j : Nat} (h : ¬ m ≤ o j) : ch o m (j + 1) = ch o m j := by simp [ch, outs, List.countP_append, h]
theorem cl_le (o : Nat → Int) (m : Int) (n : Nat) : cl o m n ≤ n := by have := List.countP_le_length (p := fun x => decide (x ≤ m)) (l := outs o n); rw [outs_len] at this; exact this
theorem ch_le (o : Nat → Int) (m : Int) (n : Nat) : ch o m n ≤ n := by have := List.countP_le_length (p := fun x => decide (m ≤ x)) (l := outs o n); rw [outs_len] at this; exact this
theorem fd_of {o : Nat → Int} {m : Int} {n : Nat} (h : m ∈ outs o n) : fd o m n = true := by
  induction n with
  | zero => simp [outs] at h
  | succ n ih =>
    rw [outs, List.mem_append] at h
    rcases h with h | h
    · rw [fd, ih h]; rfl
    · rw [fd, List.mem_singleton.1 h]; simp
theorem med_law {o : Nat → Int} {n : Nat} (h : 0 < n) {m : Int} (hm : m = (srt (outs o n)).getD ((n - 1) / 2) 0) : fd o m n = true ∧ n ≤ 2 * cl o m n ∧ n ≤ 2 * ch o m n := by
  obtain ⟨s, hs⟩ : ∃ s, s = srt (outs o n) := ⟨_, rfl⟩
  have hl : s.length = n := by rw [hs, srt_len, outs_len]
  have hp : s.Perm (outs o n) := by rw [hs]; exact srt_perm _
  have hu : s.Pairwise (· ≤ ·) := by rw [hs]; exact srt_up _
  rw [← hs] at hm
  obtain ⟨k, hk⟩ : ∃ k, k = (n - 1) / 2 := ⟨_, rfl⟩
  rw [← hk] at hm
  have hkn : k < s.length := by omega
  have hmem : m ∈ s := by rw [hm, getD_el _ _ hkn]; exact List.getElem_mem hkn
  refine ⟨fd_of (hp.mem_iff.1 hmem), ?_, ?_⟩
  · have h1 : cl o m n = s.countP fun x => decide (x ≤ m) := (hp.countP_eq _).symm
    have h2 : (s.take (k + 1)).countP (fun x => decide (x ≤ m)) = (s.take (k + 1)).length := List.countP_eq_length.2 fun y hy => by
      obtain ⟨i, hi, rfl⟩ := List.mem_iff_getElem.1 hy
      simp only [List.length_take] at hi
      rw [List.getElem_take, decide_eq_true_eq, ← getD_el s i (by omega), hm]
      rcases Nat.lt_or_ge i k with e | e
      · exact pw_at hu e hkn
      · have : i = k := by omega
        rw [this]; exact Int.le_refl _
    have h3 : s.countP (fun x => decide (x ≤ m)) = (s.take (k + 1)).countP (fun x => decide (x ≤ m)) + (s.drop (k + 1)).countP (fun x => decide (x ≤ m)) := by rw [← List.countP_append, List.take_append_drop]
    rw [List.length_take] at h2
    omega
  · have h1 : ch o m n = s.countP fun x => decide (m ≤ x) := (hp.countP_eq _).symm
    have h2 : (s.drop k).countP (fun x => decide (m ≤ x)) = (s.drop k).length := List.countP_eq_length.2 fun y hy => by
      obtain ⟨i, hi, rfl⟩ := List.mem_iff_getElem.1 hy
      simp only [List.length_drop] at hi
      rw [List.getElem_drop, decide_eq_true_eq, ← getD_el s (k + i) (by omega), hm]
      rcases Nat.eq_zero_or_pos i with e | e
      · rw [e]; exact Int.le_refl _
      · exact pw_at hu (by omega) (by omega)
    have h3 : s.countP (fun x => decide (m ≤ x)) = (s.take k).countP (fun x => decide (m ≤ x)) + (s.drop k).countP (fun x => decide (m ≤ x)) := by rw [← List.countP_append, List.take_append_drop]
    rw [List.length_drop] at h2
    omega
end Go.Proofs.Ytmbpjlgeneemjaa

namespace Go.Proofs.Ytmbpjlgeneemjaa
open Go.RowKit
set_option linter.unusedVariables false
set_option linter.unusedSimpArgs false

end Go.Proofs.Ytmbpjlgeneemjaa

namespace Go.Proofs.Ytmbpjlgeneemjaa
open Go.RowKit
set_option linter.unusedVariables false
set_option linter.unusedSimpArgs false

set_option maxHeartbeats 400000 in
theorem f6same_c (aa ab : Option Addr) (n m ca cb : Nat) (f g : Nat → Int) (w : World) (hn : n ≤ 1048576) (hm : m ≤ 1048576) (ha : S1 w aa n f) (hb : S1 w ab m g) :
    Calls Try.prog 31 #[.slice aa n ca, .slice ab m cb] w fun e w' => e = .returned (.bool (n == m && eq1To f g n)) ∧ Ext w w' := by
  have HA := Lib.hid ha
  have HB := Lib.hid hb
  clear ha hb
  by_cases hnm : n = m
  · subst hnm
    go_enter Try.func31, Try.ntmps31
    go_wp2_with fail
    go_loopw [5] (fun i wr => ∃ k : Nat, k ≤ n ∧ i = .int .i64 k ∧ Ext w wr ∧ eq1To f g k = true) (fun i _ => n - (intOf i).toNat)
    case atStart => exact ⟨0, by omega, rfl, Ext.refl _, rfl⟩
    case round =>
      obtain ⟨k, hk, rfl, hbl, heq⟩ := hrel
      have HE := Lib.hid heq
      clear heq
      by_cases hlt : k < n
      · obtain ⟨b1, o1, rfl, hb1, q1⟩ := (S1.ext HA.out hbl).at hlt
        obtain ⟨b2, o2, rfl, hb2, q3⟩ := (S1.ext HB.out hbl).at hlt
        by_cases hne : f k = g k
        · have hb0 : (f k != g k) = false := by simpa using hne
          have HN := Lib.hid hne
          clear hne
          go_wp2_with fail
          refine wp_region_past (by kernel_rfl) (by kernel_rfl) ?_
          repeat (go_big_quiet_step (fail))
          refine wpQuiet_nil ?_
          rintro _ ⟨wx, rfl⟩
          go_wp2_with fail
          exact ⟨⟨k + 1, by omega, by go_num, (by repeat (first | with_reducible exact Ext.refl _ | with_reducible assumption | with_reducible refine Ext.alloc ?_ _ | with_reducible refine Ext.drew ?_ | (with_reducible refine Ext.setAt ?_ _ _ _ ?_; rotate_left; omega) | with_reducible refine Ext.trans ?_ (by assumption) | with_reducible exact Past.bel _ | with_reducible refine Ext.trans ?_ (Past.bel _))), by simp [eq1To, HE.out, HN.out]⟩, by simp [intOf]; omega⟩
        · have hb0 : (f k != g k) = true := by simpa using hne
          have HN := Lib.hid hne
          clear hne
          go_wp2_with fail
          refine wp_region_past (by kernel_rfl) (by kernel_rfl) ?_
          repeat (go_big_quiet_step (fail))
          refine wpQuiet_nil ?_
          rintro _ ⟨wx, rfl⟩
          go_wp2_with fail
          go_ret
          exact ⟨ret_bool (by rw [eq1To_ff hlt HN.out]; simp), (by repeat (first | with_reducible exact Ext.refl _ | with_reducible assumption | with_reducible refine Ext.alloc ?_ _ | with_reducible refine Ext.drew ?_ | (with_reducible refine Ext.setAt ?_ _ _ _ ?_; rotate_left; omega) | with_reducible refine Ext.trans ?_ (by assumption) | with_reducible exact Past.bel _ | with_reducible refine Ext.trans ?_ (Past.bel _)))⟩
      · obtain rfl : k = n := by omega
        go_wp2_with fail
        go_ret
        exact ⟨ret_bool (by simp [HE.out]), hbl⟩
  · have hne : ((n : Int) != (m : Int)) = true := by simp; omega
    go_enter Try.func31, Try.ntmps31
    go_wp2_with fail
    go_ret
    exact ⟨ret_bool (by simp [hnm]), Ext.refl _⟩
theorem f6same_self (aa ab : Option Addr) (n ca cb : Nat) (f : Nat → Int) (w : World) (hn : n ≤ 1048576) (ha : S1 w aa n f) (hb : S1 w ab n f) :
    Calls Try.prog 31 #[.slice aa n ca, .slice ab n cb] w fun e w' => e = .returned (.bool true) ∧ Ext w w' :=
  (f6same_c aa ab n n ca cb f f w hn hn ha hb).mono fun e w' ⟨he, hx⟩ => ⟨by rw [he, eq1To_self]; simp, hx⟩
theorem f6size_c (n : Int) (w : World) (h0 : -9223372036854775807 ≤ n) (h1 : n ≤ 9223372036854775807) :
    Calls Try.prog 32 #[.int .i64 n] w fun e w' => e = .returned (.int .i64 (absI n)) ∧ w = w' := by
  go_enter Try.func32, Try.ntmps32
  go_wp2
  all_goals (go_ret; exact ⟨ret_abs (by unfold absI; split <;> omega), rfl⟩)
theorem outs_getD (F : Nat → Int) (N : Nat) : ∀ j, j < N → (outs F N).getD j 0 = F j := by
  induction N with
  | zero => intro j h; omega
  | succ N ih =>
    intro j hj
    simp only [outs, List.getD, List.getElem?_append, outs_len]
    by_cases e : j < N
    · rw [if_pos e]; exact ih j e
    · have e2 : j = N := by omega
      subst e2
      rw [if_neg e]; simp
theorem absI_near2 {q p mo : Int} (h1 : 2 * (q * p - mo) ≤ p) (h2 : 2 * (mo - q * p) < p) : 2 * absI (q * p - mo) ≤ p := by unfold absI; split <;> omega
end Go.Proofs.Ytmbpjlgeneemjaa

namespace Go.Proofs.Ytmbpjlgeneemjaa
open Go.RowKit
set_option linter.unusedVariables false
set_option linter.unusedSimpArgs false

end Go.Proofs.Ytmbpjlgeneemjaa

namespace Go.Proofs.Ytmbpjlgeneemjaa
open Go.RowKit
set_option linter.unusedVariables false
set_option linter.unusedSimpArgs false

set_option maxRecDepth 100000 in
set_option maxHeartbeats 8000000 in
theorem walkMedians (a : Option Addr) (n c : Nat) (f : Nat → Nat) (hm : n ≤ maxLen) (w : World) (hs : U8 w a n f) (hl : ∀ j, j < n → f j ≤ 255) :
    Calls Try.prog 8 #[.slice a n c] w fun e w' => e = .returned (.bool true) ∧ Ext w w' := by
  by_cases hn : n ≤ 4096
  · have e1 : decide (4096 < n) = false := decide_eq_false (by omega)
    go_enter Try.func8, Try.ntmps8
    go_wp2_with (go_at_call 9; ((with_reducible refine (f6big_c _ _ _ _).mono ?_); rintro e w' ⟨rfl, rfl⟩))
    refine (drawMedian_c a n c f w (by omega) hs hl).mono ?_
    rintro e w2 ⟨b, m, cap, h, o, rfl, h2⟩
    have hm' : m ≤ 1048576 := by have := h2.n61; omega
    have HS := Lib.hid h2.s2
    have hxw := h2.ext
    clear h2
    obtain ⟨V, hV⟩ : ∃ V, V = mdRes m h o := ⟨_, rfl⟩
    obtain ⟨C, hC⟩ : ∃ C, C = mdCode m h o := ⟨_, rfl⟩
    have HI := Lib.hid (fun (W : World) (hq : Ext w2 W) => (show Calls Try.prog 40 #[.slice b m cap] W (fun e w' => e = .returned (.tuple #[.int .i64 V, .int .i64 C]) ∧ Ext W w') from by rw [hV, hC]; exact implMedian_c b m cap h o W hm' (HS.out.ext hq)))
    have HJ := Lib.hid (fun (W : World) (hq : Ext w2 W) => (show Calls Try.prog 38 #[.slice b m cap] W (fun e w' => e = .returned (.tuple #[.int .i64 V, .int .i64 C]) ∧ Ext W w') from by rw [hV, hC]; exact specMedian_c b m cap h o W hm' (HS.out.ext hq)))
    have HL : C = 0 → fd o V m = true ∧ m ≤ 2 * cl o V m ∧ m ≤ 2 * ch o V m := fun h0 => by
      have h1 : mdCode m h o = 0 := hC.symm.trans h0
      have h3 : m ≠ 0 := fun e => by
        rw [mdCode] at h1
        cases hr : rdV m h o
        · rw [hr] at h1; simp at h1
        · rw [hr, if_pos rfl, if_pos e] at h1; exact absurd h1 (by decide)
      exact med_law (by omega) (by rw [hV, mdRes, if_pos h1])
    have HLL := Lib.hid HL
    have c1 : (C != C) = false := by simp
    have c2 : (V != V) = false := by simp
    clear hV hC HL
    go_wp2_with fail
    refine (HI.out w2 (Ext.refl _)).mono ?_
    rintro e w3 ⟨rfl, hx3⟩
    go_wp2_with fail
    refine (HJ.out w3 hx3).mono ?_
    rintro e w4 ⟨rfl, hx4⟩
    have hx24 := Ext.trans hx3 hx4
    have hw4 := Ext.trans hxw hx24
    go_wp2_with fail
    refine (drawJumps_c a n c f w4 (by omega) (hs.ext hw4) hl).mono ?_
    rintro e w5 ⟨b', m', cap', h', o', x, rfl, h5⟩
    have hm5 : m' ≤ 1048576 := by have := h5.n61; omega
    have H5 := Lib.hid h5.s2
    have hx5 := h5.ext
    clear h5
    go_wp2_with fail
    refine (implJumpsOf_c b' m' cap' h' o' x w5 hm5 H5.out).mono ?_
    rintro e w6 ⟨b6, c6, rfl, hx6, ho6⟩
    have HO6 := Lib.hid ho6
    clear ho6
    go_wp2_with fail
    refine (specJumpsOf_c b' m' cap' h' o' x w6 hm5 (H5.out.ext hx6)).mono ?_
    rintro e w7 ⟨b7, c7, rfl, hx7, ho7⟩
    have HO7 := Lib.hid ho7
    clear ho7
    have hl1 : (jmpRes m' h' o' x).length ≤ 1048576 := Nat.le_trans (jmpRes_len m' h' o' x) hm5
    obtain ⟨D, hD⟩ : ∃ C, C = jmpCode m' h' o' x := ⟨_, rfl⟩
    rw [← hD]
    have d1 : (D != D) = false := by simp
    have hx57 := Ext.trans hx6 hx7
    have hx27 := Ext.trans hx24 (Ext.trans hx5 hx57)
    have hw7 := Ext.trans hxw hx27
    clear hD HI HJ
    go_wp2_with fail
    refine (f6same_self _ _ _ _ _ _ _ hl1 (own_s1 (own_ext HO6.out hx7)) (own_s1 HO7.out)).mono ?_
    rintro e w8 ⟨rfl, hx8⟩
    have hx28 := Ext.trans hx27 hx8
    have hw8 := Ext.trans hw7 hx8
    have S8 := Lib.hid (HS.out.ext hx28)
    clear HO6 HO7 hx3 hx4 hx5 hx6 hx7 hx8 hx24 hx57 hx27 hw4 hw7
    by_cases c4 : C = 0
    · obtain ⟨g1, g2, g3⟩ := HLL.out c4
      have GG := Lib.hid (And.intro g1 (And.intro g2 g3))
      have c5 : (C != 0) = false := by simpa using c4
      clear g1 g2 g3 c4
      go_wp2_with fail
      go_loopw [14, 15, 16, 17] (fun v14 v15 v16 v17 wr => ∃ j : Nat, j ≤ m ∧ v17 = .int .i64 j ∧ (∃ p : Nat, v14 = .int .i64 p ∧ p = cl o V j ∧ p ≤ j) ∧ (∃ q : Nat, v15 = .int .i64 q ∧ q = ch o V j ∧ q ≤ j) ∧ (∃ t : Bool, v16 = .bool t ∧ t = fd o V j) ∧ Ext w8 wr) (fun _ _ _ v17 _ => m - (intOf v17).toNat)
      case atStart => exact ⟨0, by omega, rfl, ⟨0, rfl, rfl, Nat.le_refl _⟩, ⟨0, rfl, rfl, Nat.le_refl _⟩, ⟨false, rfl, rfl⟩, Ext.refl _⟩
      case round =>
        obtain ⟨j, hj, rfl, ⟨p, rfl, hp, hpj⟩, ⟨q, rfl, hq, hqj⟩, ⟨t, rfl, ht⟩, hx⟩ := hrel
        have x0 : (0 : Int) ≤ (j : Int) := by omega
        have HP := Lib.hid hp
        have HQ := Lib.hid hq
        have HT := Lib.hid ht
        have hwr := Ext.trans hw8 hx
        clear hp hq ht
        by_cases hlt : j < m
        · have x1 : (j : Int) < (m : Int) := by omega
          obtain ⟨b1, o1, rfl, hb1, q1, q2⟩ := (S8.out.ext hx).at hlt
          have hb1r : b1 < wr.heap.size := by have := hx.size; omega
          obtain ⟨y, hy⟩ : ∃ y, y = o j := ⟨_, rfl⟩
          rw [← hy] at q2
          have HY := Lib.hid hy
          clear hy q1
          have HPQ := Lib.hid (And.intro hpj hqj)
          rcases Int.lt_trichotomy y V with hc | hc | hc
          · have k1 : y ≤ V := by omega
            have k2 : ¬ V ≤ y := by omega
            have k3 : (y == V) = false := beq_eq_false_iff_ne.2 (by omega)
            have f1 := Lib.hid (cl_y (o := o) (m := V) (j := j) (by rw [← HY.out]; exact k1))
            have f2 := Lib.hid (ch_n (o := o) (m := V) (j := j) (by rw [← HY.out]; exact k2))
            have f3 := Lib.hid (show fd o V (j + 1) = (t || false) by rw [fd, ← HT.out, ← HY.out, k3])
            cases t
            all_goals
              go_wp2_with fail
              exact ⟨⟨j + 1, by omega, by go_num, ⟨p + 1, by go_num, by rw [f1.out, HP.out], by omega⟩, ⟨q, rfl, by rw [f2.out, HQ.out], by omega⟩, ⟨_, rfl, by rw [f3.out]; rfl⟩, (by repeat (first | with_reducible exact Ext.refl _ | with_reducible assumption | with_reducible refine Ext.alloc ?_ _ | with_reducible refine Ext.drew ?_ | (with_reducible refine Ext.setAt ?_ _ _ _ ?_; rotate_left; omega) | with_reducible refine Ext.trans ?_ (by assumption) | with_reducible exact Past.bel _ | with_reducible refine Ext.trans ?_ (Past.bel _)))⟩, by simp [intOf]; omega⟩
          · subst hc
            have k1 : y ≤ y := Int.le_refl _
            have k3 : (y == y) = true := by simp
            have f1 := Lib.hid (cl_y (o := o) (m := y) (j := j) (by rw [← HY.out]; exact k1))
            have f2 := Lib.hid (ch_y (o := o) (m := y) (j := j) (by rw [← HY.out]; exact k1))
            have f3 := Lib.hid (show fd o y (j + 1) = true by rw [fd, ← HT.out, ← HY.out, k3]; cases t <;> rfl)
            cases t
            all_goals
              go_wp2_with fail
              exact ⟨⟨j + 1, by omega, by go_num, ⟨p + 1, by go_num, by rw [f1.out, HP.out], by omega⟩, ⟨q + 1, by go_num, by rw [f2.out, HQ.out], by omega⟩, ⟨_, rfl, by rw [f3.out]⟩, (by repeat (first | with_reducible exact Ext.refl _ | with_reducible assumption | with_reducible refine Ext.alloc ?_ _ | with_reducible refine Ext.drew ?_ | (with_reducible refine Ext.setAt ?_ _ _ _ ?_; rotate_left; omega) | with_reducible refine Ext.trans ?_ (by assumption) | with_reducible exact Past.bel _ | with_reducible refine Ext.trans ?_ (Past.bel _)))⟩, by simp [intOf]; omega⟩
          · have k1 : ¬ y ≤ V := by omega
            have k2 : V ≤ y := by omega
            have k3 : (y == V) = false := beq_eq_false_iff_ne.2 (by omega)
            have f1 := Lib.hid (cl_n (o := o) (m := V) (j := j) (by rw [← HY.out]; exact k1))
            have f2 := Lib.hid (ch_y (o := o) (m := V) (j := j) (by rw [← HY.out]; exact k2))
            have f3 := Lib.hid (show fd o V (j + 1) = (t || false) by rw [fd, ← HT.out, ← HY.out, k3])
            cases t
            all_goals
              go_wp2_with fail
              exact ⟨⟨j + 1, by omega, by go_num, ⟨p, rfl, by rw [f1.out, HP.out], by omega⟩, ⟨q + 1, by go_num, by rw [f2.out, HQ.out], by omega⟩, ⟨_, rfl, by rw [f3.out]; rfl⟩, (by repeat (first | with_reducible exact Ext.refl _ | with_reducible assumption | with_reducible refine Ext.alloc ?_ _ | with_reducible refine Ext.drew ?_ | (with_reducible refine Ext.setAt ?_ _ _ _ ?_; rotate_left; omega) | with_reducible refine Ext.trans ?_ (by assumption) | with_reducible exact Past.bel _ | with_reducible refine Ext.trans ?_ (Past.bel _)))⟩, by simp [intOf]; omega⟩
        · have x1 : ¬ (j : Int) < (m : Int) := by omega
          obtain rfl : j = m := by omega
          have t1 : t = true := HT.out.trans GG.out.1
          subst t1
          have t2 : (j : Int) ≤ 2 * (p : Int) := by have := GG.out.2.1; have := HP.out; omega
          have t3 : (j : Int) ≤ 2 * (q : Int) := by have := GG.out.2.2; have := HQ.out; omega
          have t4 : decide ((j : Int) ≤ 2 * (p : Int)) = true := decide_eq_true t2
          have t5 : decide ((j : Int) ≤ 2 * (q : Int)) = true := decide_eq_true t3
          have t6 : decide (j ≤ 2 * p) = true := decide_eq_true (by omega)
          have t7 : decide (j ≤ 2 * q) = true := decide_eq_true (by omega)
          go_wp2_with fail
          go_ret
          exact ⟨rfl, hwr⟩
    · have c5 : (C != 0) = true := by simpa using c4
      clear c4
      go_wp2_with fail
      go_ret
      exact ⟨rfl, hw8⟩
  · have e1 : decide (4096 < n) = true := decide_eq_true (by omega)
    go_enter Try.func8, Try.ntmps8
    go_wp2_with (go_at_call 9; ((with_reducible refine (f6big_c _ _ _ _).mono ?_); rintro e w' ⟨rfl, rfl⟩))
    go_ret
    exact ⟨rfl, (by repeat (first | with_reducible exact Ext.refl _ | with_reducible assumption | with_reducible refine Ext.alloc ?_ _ | with_reducible refine Ext.drew ?_ | (with_reducible refine Ext.setAt ?_ _ _ _ ?_; rotate_left; omega) | with_reducible refine Ext.trans ?_ (by assumption) | with_reducible exact Past.bel _ | with_reducible refine Ext.trans ?_ (Past.bel _)))⟩
end Go.Proofs.Ytmbpjlgeneemjaa

namespace Go.Proofs.Ytmbpjlgeneemjaa
open Go.ChangeShapes Go.WideShapes Go.RowKit Go.Deep
set_option linter.unusedVariables false
section
variable {H : Type} {enc : TypeId × Value → H} {P : Program} {w : World} {base : Nat} {spare : Nat → Bool} {held : Bool}
/-- a slice of structs of one cell a field, at whatever depth -/
theorem down_rows {t e : TypeId} {fs : Array Field} {fuel : Nat} {v : Value} {x : DataW H × List MemPlace} (ht : P.underlying t = some (.slice e)) (hs : P.underlying e = some (.struct fs)) (hone : oneCellFields P fs = true) (hC : P.cellsOf e = fs.size) (hpos : 0 < fs.size)
    (hf : DataW.trod enc P w base spare held fuel t [v] = some x) :
    ∃ (a : Option Addr) (n cap : Nat) (z : Nat → Nat → Value), v = .slice a n cap ∧ n ≤ cap ∧ cap ≤ maxLen ∧
      (0 < n → ∃ b off, a = some ⟨b, off, none⟩ ∧ b < w.heap.size ∧ ∀ i, i < n → ∀ j (hj : j < fs.size), w.cell? ⟨b, off + i * fs.size + j, none⟩ = some (z i j) ∧ ∃ m y, DataW.trod enc P w base spare held m fs[j].type [z i j] = some y) := by
  rcases open_slice ht hf with ⟨hcs, _⟩ | ⟨a', len', cap', m, n', D, Pl, hcs, hb, hl, hm, hmm, hx, hcell⟩
  · simp at hcs
    subst hcs
    exact ⟨none, 0, 0, fun _ _ => .bool false, rfl, Nat.le_refl _, Nat.zero_le _, fun h => absurd h (Nat.lt_irrefl 0)⟩
  · simp at hcs
    subst hcs
    have hlm : len' ≤ m := by rw [hmm]; split <;> omega
    have hel : ∀ i, i < len' → ∃ z : Nat → Value, ∀ j (hj : j < fs.size), w.cell? (a'.add (i * fs.size + j)) = some (z j) ∧ ∃ m y, DataW.trod enc P w base spare held m fs[j].type [z j] = some y := fun i hi' => by
      obtain ⟨cs', hc, ht'⟩ := hcell i (by omega)
      rw [hC] at hc
      obtain ⟨_, hcl, hat⟩ := World.cells?_some hc
      obtain ⟨k, hl', hfl⟩ := down_struct hs hone hC ht'
      refine ⟨fun j => cs'.getD j (.bool false), fun j hj => ?_⟩
      obtain ⟨v', y, hv', hy⟩ := hfl j fs[j] (Array.getElem?_eq_getElem hj)
      have e1 : cs'.getD j (.bool false) = v' := by simp [List.getD, hv']
      refine ⟨?_, k, y, by show DataW.trod enc P w base spare held k fs[j].type [cs'.getD j (.bool false)] = some y; rw [e1]; exact hy⟩
      show w.cell? (a'.add (i * fs.size + j)) = some (cs'.getD j (.bool false))
      rw [← Go.Deep.add_add, hat j hj, e1]; exact hv'
    obtain ⟨z, hz⟩ := choose_lt hel
    refine ⟨some a', len', cap', z, rfl, hl, hm, fun hn => ?_⟩
    obtain ⟨b, off, spot⟩ := a'
    have h0 := (hz 0 hn 0 hpos).1
    have hspot : spot = none := by simpa [Addr.add] using World.cell?_spot h0
    subst hspot
    refine ⟨b, off, rfl, World.block_lt_of_cell? w ⟨b, off, none⟩ (by simpa [Addr.add] using h0), fun i hi' j hj => ?_⟩
    have h1 := hz i hi' j hj
    rw [Addr.add_lit] at h1
    rw [Nat.add_assoc]; exact h1
/-- a slice of int64s -/
theorem down_i64s {t e : TypeId} {fuel : Nat} {v : Value} {x : DataW H × List MemPlace} (ht : P.underlying t = some (.slice e)) (he : P.underlying e = some (.int .i64)) (hC : P.cellsOf e = 1)
    (hf : DataW.trod enc P w base spare held fuel t [v] = some x) :
    ∃ (a : Option Addr) (n cap : Nat) (z : Nat → Int), v = .slice a n cap ∧ n ≤ cap ∧ cap ≤ maxLen ∧ S1 w a n z ∧ ∀ j, j < n → (Lit.int .i64 (z j)).wf = true := by
  rcases open_slice ht hf with ⟨hcs, _⟩ | ⟨a', len', cap', m, n', D, Pl, hcs, hb, hl, hm, hmm, hx, hcell⟩
  · simp at hcs
    subst hcs
    exact ⟨none, 0, 0, fun _ => 0, rfl, Nat.le_refl _, Nat.zero_le _, (fun h => absurd h (Nat.lt_irrefl 0)), fun j hj => absurd hj (Nat.not_lt_zero j)⟩
  · simp at hcs
    subst hcs
    have hlm : len' ≤ m := by rw [hmm]; split <;> omega
    have hel : ∀ i, i < len' → ∃ z : Int, w.cell? (a'.add i) = some (.int .i64 z) ∧ (Lit.int .i64 z).wf = true := fun i hi' => by
      obtain ⟨cs', hc, ht'⟩ := hcell i (by omega)
      rw [hC] at hc
      obtain ⟨_, hcl, hat⟩ := World.cells?_some hc
      obtain ⟨z, hz, _, hw⟩ := DataW.trod_int he ht'
      subst hz
      have := hat 0 (by omega)
      refine ⟨z, ?_, hw⟩
      have e1 : a'.add i = (a'.add (i * 1)).add 0 := by rw [Go.Deep.add_add]; simp
      rw [e1, this]; rfl
    obtain ⟨z, hz⟩ := choose_lt hel
    refine ⟨some a', len', cap', z, rfl, hl, hm, fun hn => ?_, fun j hj => (hz j hj).2⟩
    obtain ⟨b, off, spot⟩ := a'
    have h0 := (hz 0 hn).1
    have hspot : spot = none := by simpa [Addr.add] using World.cell?_spot h0
    subst hspot
    refine ⟨b, off, rfl, World.block_lt_of_cell? w ⟨b, off, none⟩ (by simpa [Addr.add] using h0), fun i hi' => ?_⟩
    have h1 := (hz i hi').1
    rw [Addr.add_lit] at h1
    exact h1
theorem arg_i64s {r : Reach} {b0 : Nat} {t e : TypeId} {v : Value} {d : DataW H} {p : List MemPlace} (ht : P.underlying t = some (.slice e)) (he : P.underlying e = some (.int .i64)) (hC : P.cellsOf e = 1)
    (hv : Value.okWide P w r b0 t v) (h : DataW.Trod enc P w base spare held t v d p) :
    ∃ (a : Option Addr) (n cap : Nat) (z : Nat → Int), v = .slice a n cap ∧ n ≤ cap ∧ cap ≤ maxLen ∧ S1 w a n z ∧ ∀ j, j < n → (Lit.int .i64 (z j)).wf = true := by
  obtain ⟨a, n, cap, rfl⟩ := okWide_slice ht hv
  obtain ⟨fuel, hf⟩ := h
  exact down_i64s ht he hC (fuel := fuel) (by simpa [Value.cells] using hf)
end
/-- A slice of structs of 'k' cells: cell j of element i is 'z i j'. -/
def SK (w : World) (a : Option Addr) (n k : Nat) (z : Nat → Nat → Value) : Prop :=
  0 < n → ∃ b off, a = some ⟨b, off, none⟩ ∧ b < w.heap.size ∧ ∀ i, i < n → ∀ j, j < k → w.cell? ⟨b, off + i * k + j, none⟩ = some (z i j)
/-- Months: a name and two numbers each. -/
def S3 (w : World) (a : Option Addr) (n : Nat) (nm : Nat → ByteArray) (dy lp : Nat → Int) : Prop :=
  0 < n → ∃ b off, a = some ⟨b, off, none⟩ ∧ b < w.heap.size ∧ ∀ i, i < n → w.cell? ⟨b, off + i * 3, none⟩ = some (.string (nm i)) ∧ w.cell? ⟨b, off + i * 3 + 1, none⟩ = some (.int .i64 (dy i)) ∧ w.cell? ⟨b, off + i * 3 + 2, none⟩ = some (.int .i64 (lp i))
/-- Rules: two numbers and a truth value each. -/
def R3 (w : World) (a : Option Addr) (n : Nat) (ev rs : Nat → Int) (lf : Nat → Bool) : Prop :=
  0 < n → ∃ b off, a = some ⟨b, off, none⟩ ∧ b < w.heap.size ∧ ∀ i, i < n → w.cell? ⟨b, off + i * 3, none⟩ = some (.int .i64 (ev i)) ∧ w.cell? ⟨b, off + i * 3 + 1, none⟩ = some (.int .i64 (rs i)) ∧ w.cell? ⟨b, off + i * 3 + 2, none⟩ = some (.bool (lf i))
theorem S3.ext {w w' : World} {a : Option Addr} {n : Nat} {nm : Nat → ByteArray} {dy lp : Nat → Int} (s : S3 w a n nm dy lp) (e : Ext w w') : S3 w' a n nm dy lp := fun hn => by
  obtain ⟨b, off, ha, hb, hc⟩ := s hn
  exact ⟨b, off, ha, Nat.lt_of_lt_of_le hb e.size, fun j hj => by rw [e.cell hb, e.cell hb, e.cell hb]; exact hc j hj⟩
theorem S3.at {w : World} {a : Option Addr} {n : Nat} {nm : Nat → ByteArray} {dy lp : Nat → Int} (s : S3 w a n nm dy lp) {j : Nat} (hj : j < n) :
    ∃ b off, a = some ⟨b, off, none⟩ ∧ b < w.heap.size ∧ w.cell? ⟨b, off + j * 3, none⟩ = some (.string (nm j)) ∧ w.cell? ⟨b, off + j * 3 + 1, none⟩ = some (.int .i64 (dy j)) ∧ w.cell? ⟨b, off + j * 3 + 2, none⟩ = some (.int .i64 (lp j)) := by
  obtain ⟨b, off, ha, hb, hc⟩ := s (by omega)
  exact ⟨b, off, ha, hb, hc j hj⟩
theorem R3.ext {w w' : World} {a : Option Addr} {n : Nat} {ev rs : Nat → Int} {lf : Nat → Bool} (s : R3 w a n ev rs lf) (e : Ext w w') : R3 w' a n ev rs lf := fun hn => by
  obtain ⟨b, off, ha, hb, hc⟩ := s hn
  exact ⟨b, off, ha, Nat.lt_of_lt_of_le hb e.size, fun j hj => by rw [e.cell hb, e.cell hb, e.cell hb]; exact hc j hj⟩
theorem R3.at {w : World} {a : Option Addr} {n : Nat} {ev rs : Nat → Int} {lf : Nat → Bool} (s : R3 w a n ev rs lf) {j : Nat} (hj : j < n) :
    ∃ b off, a = some ⟨b, off, none⟩ ∧ b < w.heap.size ∧ w.cell? ⟨b, off + j * 3, none⟩ = some (.int .i64 (ev j)) ∧ w.cell? ⟨b, off + j * 3 + 1, none⟩ = some (.int .i64 (rs j)) ∧ w.cell? ⟨b, off + j * 3 + 2, none⟩ = some (.bool (lf j)) := by
  obtain ⟨b, off, ha, hb, hc⟩ := s (by omega)
  exact ⟨b, off, ha, hb, hc j hj⟩
end Go.Proofs.Ytmbpjlgeneemjaa

namespace Go.Proofs.Ytmbpjlgeneemjaa
open Go.ChangeShapes Go.WideShapes Go.RowKit Go.Deep
set_option linter.unusedVariables false
section
variable {H : Type} {enc : TypeId × Value → H} {P : Program} {w : World} {base : Nat} {spare : Nat → Bool} {held : Bool}
theorem down_u8s {t e : TypeId} {fuel : Nat} {v : Value} {x : DataW H × List MemPlace} (ht : P.underlying t = some (.slice e)) (he : P.underlying e = some (.int .u8)) (hC : P.cellsOf e = 1)
    (hf : DataW.trod enc P w base spare held fuel t [v] = some x) :
    ∃ (a : Option Addr) (n cap : Nat) (f : Nat → Nat), v = .slice a n cap ∧ n ≤ cap ∧ cap ≤ maxLen ∧ U8 w a n f ∧ ∀ j, j < n → f j ≤ 255 := by
  rcases open_slice ht hf with ⟨hcs, _⟩ | ⟨a', len', cap', m, n', D, Pl, hcs, hb, hl, hm, hmm, hx, hcell⟩
  · simp at hcs
    subst hcs
    exact ⟨none, 0, 0, fun _ => 0, rfl, Nat.le_refl _, Nat.zero_le _, (fun h => absurd h (Nat.lt_irrefl 0)), fun j hj => absurd hj (Nat.not_lt_zero j)⟩
  · simp at hcs
    subst hcs
    have hlm : len' ≤ m := by rw [hmm]; split <;> omega
    have hel : ∀ i, i < len' → ∃ z : Nat, w.cell? (a'.add i) = some (.int .u8 (z : Int)) ∧ z ≤ 255 := fun i hi' => by
      obtain ⟨cs', hc, ht'⟩ := hcell i (by omega)
      rw [hC] at hc
      obtain ⟨_, hcl, hat⟩ := World.cells?_some hc
      obtain ⟨z, hz, _, hw⟩ := DataW.trod_int he ht'
      subst hz
      have hw' : 0 ≤ z ∧ z ≤ 255 := by simpa [Lit.wf, IntKind.min, IntKind.max, IntKind.signed, IntKind.bits] using hw
      have := hat 0 (by omega)
      obtain ⟨k, rfl⟩ := Int.eq_ofNat_of_zero_le hw'.1
      refine ⟨k, ?_, by omega⟩
      have e1 : a'.add i = (a'.add (i * 1)).add 0 := by rw [Go.Deep.add_add]; simp
      rw [e1, this]; rfl
    obtain ⟨z, hz⟩ := choose_lt hel
    refine ⟨some a', len', cap', z, rfl, hl, hm, fun hn => ?_, fun j hj => (hz j hj).2⟩
    obtain ⟨b, off, spot⟩ := a'
    have h0 := (hz 0 hn).1
    have hspot : spot = none := by simpa [Addr.add] using World.cell?_spot h0
    subst hspot
    refine ⟨b, off, rfl, World.block_lt_of_cell? w ⟨b, off, none⟩ (by simpa [Addr.add] using h0), fun i hi' => ?_⟩
    have h1 := (hz i hi').1
    rw [Addr.add_lit] at h1
    exact h1
theorem arg_u8s {r : Reach} {b0 : Nat} {t e : TypeId} {v : Value} {d : DataW H} {p : List MemPlace} (ht : P.underlying t = some (.slice e)) (he : P.underlying e = some (.int .u8)) (hC : P.cellsOf e = 1)
    (hv : Value.okWide P w r b0 t v) (h : DataW.Trod enc P w base spare held t v d p) :
    ∃ (a : Option Addr) (n cap : Nat) (f : Nat → Nat), v = .slice a n cap ∧ n ≤ cap ∧ cap ≤ maxLen ∧ U8 w a n f ∧ ∀ j, j < n → f j ≤ 255 := by
  obtain ⟨a, n, cap, rfl⟩ := okWide_slice ht hv
  obtain ⟨fuel, hf⟩ := h
  exact down_u8s ht he hC (fuel := fuel) (by simpa [Value.cells] using hf)
end
end Go.Proofs.Ytmbpjlgeneemjaa
