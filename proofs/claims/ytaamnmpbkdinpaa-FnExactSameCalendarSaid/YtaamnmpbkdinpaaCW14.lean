/- Lengths of years: the program's. -/
import Derived.Test.YtaamnmpbkdinpaaCW13
namespace Go.Proofs.Ytaamnmpbkdinpaa
open Go.RowKit
set_option linter.unusedVariables false
set_option linter.unusedSimpArgs false

set_option maxHeartbeats 1000000 in
theorem yearLengths_c (s : ByteArray) (ma ra : Option Addr) (n mc rn rc : Nat) (wk : Int) (nm : Nat → ByteArray) (dy lp : Nat → Int) (w : World) (hn : n ≤ 1048576) (hs : S3 w ma n nm dy lp) (h20 : n ≤ 20) (hb : ∀ j, j < n → (1 ≤ dy j ∧ dy j ≤ 60) ∧ 1 ≤ lp j ∧ lp j ≤ 60) :
    Calls Try.prog 50 #[.agg #[.string s, .slice ma n mc, .slice ra rn rc, .int .i64 wk]] w fun e w' => e = .returned (.tuple #[.int .i64 (sm dy n), .int .i64 (sm lp n)]) ∧ Ext w w' := by
  have HS := Lib.hid hs
  have HB := Lib.hid hb
  clear hs hb
  go_enter Try.func50, Try.ntmps50
  go_wp2_with fail
  go_loopw [4, 5, 11] (fun a b i wr => ∃ j : Nat, j ≤ n ∧ i = .int .i64 j ∧ a = .int .i64 (sm dy j) ∧ b = .int .i64 (sm lp j) ∧ Ext w wr) (fun _ _ i _ => n - (intOf i).toNat)
  case atStart => exact ⟨0, by omega, rfl, rfl, rfl, (by repeat (first | with_reducible exact Ext.refl _ | with_reducible assumption | with_reducible refine Ext.alloc ?_ _ | with_reducible refine Ext.drew ?_ | (with_reducible refine Ext.setAt ?_ _ _ _ ?_; rotate_left; omega) | with_reducible refine Ext.trans ?_ (by assumption) | with_reducible exact Past.bel _ | with_reducible refine Ext.trans ?_ (Past.bel _)))⟩
  case round =>
    obtain ⟨j, hj, rfl, rfl, rfl, hbl⟩ := hrel
    by_cases hlt : j < n
    · obtain ⟨b1, o1, rfl, hb1, q1, q2, q3⟩ := (S3.ext HS.out hbl).at hlt
      have h1 := sm_bd (f := dy) (A := 1) (B := 60) (k := j) fun i hi => (HB.out i (by omega)).1
      have h2 := sm_bd (f := lp) (A := 1) (B := 60) (k := j) fun i hi => (HB.out i (by omega)).2
      obtain ⟨h3, h4⟩ := HB.out j hlt
      go_wp2_with fail
      exact ⟨⟨j + 1, by omega, by go_num, rfl, rfl, (by repeat (first | with_reducible exact Ext.refl _ | with_reducible assumption | with_reducible refine Ext.alloc ?_ _ | with_reducible refine Ext.drew ?_ | (with_reducible refine Ext.setAt ?_ _ _ _ ?_; rotate_left; omega) | with_reducible refine Ext.trans ?_ (by assumption) | with_reducible exact Past.bel _ | with_reducible refine Ext.trans ?_ (Past.bel _)))⟩, by simp [intOf]; omega⟩
    · obtain rfl : j = n := by omega
      go_wp2_with fail
      go_ret2
      exact ⟨rfl, (by repeat (first | with_reducible exact Ext.refl _ | with_reducible assumption | with_reducible refine Ext.alloc ?_ _ | with_reducible refine Ext.drew ?_ | (with_reducible refine Ext.setAt ?_ _ _ _ ?_; rotate_left; omega) | with_reducible refine Ext.trans ?_ (by assumption) | with_reducible exact Past.bel _ | with_reducible refine Ext.trans ?_ (Past.bel _)))⟩
end Go.Proofs.Ytaamnmpbkdinpaa
