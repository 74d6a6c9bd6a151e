/- Days of months, of years: the program's. -/
import Derived.Test.YtaamnmpbkdinpaaCW15
namespace Go.Proofs.Ytaamnmpbkdinpaa
open Go.RowKit
set_option linter.unusedVariables false
set_option linter.unusedSimpArgs false

set_option maxHeartbeats 1000000 in
theorem daysOfMonth_c (s : ByteArray) (ma ra : Option Addr) (n mc rn rc : Nat) (wk : Int) (nm : Nat → ByteArray) (dy lp : Nat → Int) (l : Bool) (j : Nat) (w : World) (hn : n ≤ 1048576) (hs : S3 w ma n nm dy lp) (hj : j < n) :
    Calls Try.prog 47 #[.agg #[.string s, .slice ma n mc, .slice ra rn rc, .int .i64 wk], .bool l, .int .i64 ((j : Int) + 1)] w fun e w' => e = .returned (.int .i64 (if l then lp j else dy j)) ∧ Ext w w' := by
  obtain ⟨b1, o1, rfl, hb1, q1, q2, q3⟩ := hs.at hj
  have x0 : (0 : Int) ≤ (j : Int) := by omega
  have x1 : (j : Int) < (n : Int) := by omega
  cases l
  · go_enter Try.func47, Try.ntmps47
    go_wp2
    go_ret
    exact ⟨rfl, (by repeat (first | with_reducible exact Ext.refl _ | with_reducible assumption | with_reducible refine Ext.alloc ?_ _ | with_reducible refine Ext.drew ?_ | (with_reducible refine Ext.setAt ?_ _ _ _ ?_; rotate_left; omega) | with_reducible refine Ext.trans ?_ (by assumption) | with_reducible exact Past.bel _ | with_reducible refine Ext.trans ?_ (Past.bel _)))⟩
  · go_enter Try.func47, Try.ntmps47
    go_wp2
    go_ret
    exact ⟨rfl, (by repeat (first | with_reducible exact Ext.refl _ | with_reducible assumption | with_reducible refine Ext.alloc ?_ _ | with_reducible refine Ext.drew ?_ | (with_reducible refine Ext.setAt ?_ _ _ _ ?_; rotate_left; omega) | with_reducible refine Ext.trans ?_ (by assumption) | with_reducible exact Past.bel _ | with_reducible refine Ext.trans ?_ (Past.bel _)))⟩
end Go.Proofs.Ytaamnmpbkdinpaa
