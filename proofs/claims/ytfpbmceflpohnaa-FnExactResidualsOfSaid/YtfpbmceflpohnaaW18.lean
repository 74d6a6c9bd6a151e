/- The law on ResidualsOf. -/
import Derived.Test.YtfpbmceflpohnaaW17
namespace Go.Proofs.Ytfpbmceflpohnaa
open Go.RowKit
set_option linter.unusedVariables false
set_option linter.unusedSimpArgs false

set_option maxHeartbeats 2000000 in
theorem walkResidualsOf (a : Option Addr) (n c : Nat) (f o : Nat → Int) (hm : n ≤ maxLen) (w : World) (hs : S2 w a n f o) :
    Calls Try.prog 12 #[.slice a n c] w fun e w' => e = .returned (.bool true) ∧ Ext w w' := by
  have HS := Lib.hid hs
  clear hs
  have hm' := Lib.hid hm
  clear hm
  by_cases hn : n ≤ 1048576
  · have h1 : ¬ (1048576 : Int) < n := by omega
    go_enter Try.func12, Try.ntmps12
    go_wp2_with (first | (go_at_call 20; ((with_reducible refine (szReadingS_c _ _ _ _ _ (by omega) (by omega) hm'.out).mono ?_); rintro e w' ⟨rfl, rfl⟩)))
    refine (toReadingS_r _ _ _ _ _ _ hn (HS.out.ext (by repeat (first | with_reducible exact Ext.refl _ | with_reducible assumption | with_reducible refine Ext.alloc ?_ _ | with_reducible refine Ext.drew ?_ | (with_reducible refine Ext.setAt ?_ _ _ _ ?_; rotate_left; omega) | with_reducible refine Ext.trans ?_ (by assumption) | with_reducible exact Past.bel _ | with_reducible refine Ext.trans ?_ (Past.bel _))))).mono ?_
    rintro e w' ⟨g1, rfl, hx1, hs1⟩
    have HS1 := Lib.hid hs1
    clear hs1
    (first | (obtain ⟨wx1, rfl⟩ := Past.again hx1) | (obtain ⟨wx1, rfl⟩ := Past.of hx1))
    go_wp2_with fail
    refine (specResidualsOf_c _ _ _ _ _ _ hn (HS1.out.ext (by repeat (first | with_reducible exact Ext.refl _ | with_reducible assumption | with_reducible refine Ext.alloc ?_ _ | with_reducible refine Ext.drew ?_ | (with_reducible refine Ext.setAt ?_ _ _ _ ?_; rotate_left; omega) | with_reducible refine Ext.trans ?_ (by assumption) | with_reducible exact Past.bel _ | with_reducible refine Ext.trans ?_ (Past.bel _))))).mono ?_
    rintro e w' ⟨a2, c2, rfl, hx2, ho2⟩
    have HO2 := Lib.hid ho2
    clear ho2
    (first | (obtain ⟨wx2, rfl⟩ := Past.again hx2) | (obtain ⟨wx2, rfl⟩ := Past.of hx2))
    go_wp2_with fail
    refine (toReadingS_o _ _ _ _ _ _ hn (HS.out.ext (by repeat (first | with_reducible exact Ext.refl _ | with_reducible assumption | with_reducible refine Ext.alloc ?_ _ | with_reducible refine Ext.drew ?_ | (with_reducible refine Ext.setAt ?_ _ _ _ ?_; rotate_left; omega) | with_reducible refine Ext.trans ?_ (by assumption) | with_reducible exact Past.bel _ | with_reducible refine Ext.trans ?_ (Past.bel _))))).mono ?_
    rintro e w' ⟨g3, xs3, rfl, hx3, hs3, ho3⟩
    have HS3 := Lib.hid hs3
    have HO3 := Lib.hid ho3
    clear hs3 ho3
    (first | (obtain ⟨wx3, rfl⟩ := Past.again hx3) | (obtain ⟨wx3, rfl⟩ := Past.of hx3))
    go_wp2_with fail
    refine (implResidualsOf_c _ _ _ _ _ _ hn (HS3.out.ext (by repeat (first | with_reducible exact Ext.refl _ | with_reducible assumption | with_reducible refine Ext.alloc ?_ _ | with_reducible refine Ext.drew ?_ | (with_reducible refine Ext.setAt ?_ _ _ _ ?_; rotate_left; omega) | with_reducible refine Ext.trans ?_ (by assumption) | with_reducible exact Past.bel _ | with_reducible refine Ext.trans ?_ (Past.bel _))))).mono ?_
    rintro e w' ⟨a4, c4, rfl, hx4, ho4⟩
    have HO4 := Lib.hid ho4
    clear ho4
    (first | (obtain ⟨wx4, rfl⟩ := Past.again hx4) | (obtain ⟨wx4, rfl⟩ := Past.of hx4))
    go_wp2_with fail
    have NE23 := own_ne2 HO2.out HO3.out (Nat.le_refl _)
    have NE34 := own_ne2 HO3.out HO4.out (Nat.le_refl _)
    have NE24 := own_ne2 HO2.out HO4.out hx3.size
    have N23 := Lib.hid NE23.1
    have N34 := Lib.hid NE34.2
    have N24 := Lib.hid NE24.1
    have LO3 := Lib.hid (fun k hk => (HO3.out.lt k hk).1)
    have LO4 := Lib.hid (fun k hk => (HO4.out.lt k hk).1)
    have hlen : (resRes n f o).length ≤ 1048576 := Nat.le_trans (resRes_len n f o) hn
    have z2 := hx1.size
    have z3 := hx2.size
    have z4 := hx3.size
    clear NE23 NE34 NE24
    refine (eqInt64S_self _ _ _ _ _ _ _ hlen (own_s1 HO4.out) (own_s1 (own_ext HO2.out (by repeat (first | with_reducible exact Ext.refl _ | with_reducible assumption | with_reducible refine Ext.alloc ?_ _ | with_reducible refine Ext.drew ?_ | (with_reducible refine Ext.setAt ?_ _ _ _ ?_; rotate_left; omega) | with_reducible refine Ext.trans ?_ (by assumption) | with_reducible exact Past.bel _ | with_reducible refine Ext.trans ?_ (Past.bel _)))))).mono ?_
    rintro e w' ⟨rfl, hx5⟩
    (first | (obtain ⟨wx5, rfl⟩ := Past.again hx5) | (obtain ⟨wx5, rfl⟩ := Past.of hx5))
    go_wp2_with fail
    refine (toReadingS_r _ _ _ _ _ _ hn (HS.out.ext (by repeat (first | with_reducible exact Ext.refl _ | with_reducible assumption | with_reducible refine Ext.alloc ?_ _ | with_reducible refine Ext.drew ?_ | (with_reducible refine Ext.setAt ?_ _ _ _ ?_; rotate_left; omega) | with_reducible refine Ext.trans ?_ (by assumption) | with_reducible exact Past.bel _ | with_reducible refine Ext.trans ?_ (Past.bel _))))).mono ?_
    rintro e w' ⟨g6, rfl, hx6, hs6⟩
    have HS6 := Lib.hid hs6
    clear hs6
    (first | (obtain ⟨wx6, rfl⟩ := Past.again hx6) | (obtain ⟨wx6, rfl⟩ := Past.of hx6))
    go_wp2_with fail
    refine (eqReadingS_self _ _ _ _ _ _ _ _ hn (HS3.out.ext (by repeat (first | with_reducible exact Ext.refl _ | with_reducible assumption | with_reducible refine Ext.alloc ?_ _ | with_reducible refine Ext.drew ?_ | (with_reducible refine Ext.setAt ?_ _ _ _ ?_; rotate_left; omega) | with_reducible refine Ext.trans ?_ (by assumption) | with_reducible exact Past.bel _ | with_reducible refine Ext.trans ?_ (Past.bel _)))) (HS6.out.ext (by repeat (first | with_reducible exact Ext.refl _ | with_reducible assumption | with_reducible refine Ext.alloc ?_ _ | with_reducible refine Ext.drew ?_ | (with_reducible refine Ext.setAt ?_ _ _ _ ?_; rotate_left; omega) | with_reducible refine Ext.trans ?_ (by assumption) | with_reducible exact Past.bel _ | with_reducible refine Ext.trans ?_ (Past.bel _))))).mono ?_
    rintro e w' ⟨rfl, hx7⟩
    (first | (obtain ⟨wx7, rfl⟩ := Past.again hx7) | (obtain ⟨wx7, rfl⟩ := Past.of hx7))
    go_wp2_with fail
    refine (markReadingS_c _ _ _ _ _ _ _ hn (by omega) (by omega) (own_ext HO3.out (by repeat (first | with_reducible exact Ext.refl _ | with_reducible assumption | with_reducible refine Ext.alloc ?_ _ | with_reducible refine Ext.drew ?_ | (with_reducible refine Ext.setAt ?_ _ _ _ ?_; rotate_left; omega) | with_reducible refine Ext.trans ?_ (by assumption) | with_reducible exact Past.bel _ | with_reducible refine Ext.trans ?_ (Past.bel _))))).mono ?_
    rintro e w8 ⟨rfl, hg8⟩
    have e8 : Ext w w8 := Ext.grown (by repeat (first | with_reducible exact Ext.refl _ | with_reducible assumption | with_reducible refine Ext.alloc ?_ _ | with_reducible refine Ext.drew ?_ | (with_reducible refine Ext.setAt ?_ _ _ _ ?_; rotate_left; omega) | with_reducible refine Ext.trans ?_ (by assumption) | with_reducible exact Past.bel _ | with_reducible refine Ext.trans ?_ (Past.bel _))) hg8 (fun k hk => by have := LO3.out k hk; omega)
    have O2 := Lib.hid ((own_ext HO2.out (by repeat (first | with_reducible exact Ext.refl _ | with_reducible assumption | with_reducible refine Ext.alloc ?_ _ | with_reducible refine Ext.drew ?_ | (with_reducible refine Ext.setAt ?_ _ _ _ ?_; rotate_left; omega) | with_reducible refine Ext.trans ?_ (by assumption) | with_reducible exact Past.bel _ | with_reducible refine Ext.trans ?_ (Past.bel _)))).kept hg8 N23.out)
    have O4 := Lib.hid ((own_ext HO4.out (by repeat (first | with_reducible exact Ext.refl _ | with_reducible assumption | with_reducible refine Ext.alloc ?_ _ | with_reducible refine Ext.drew ?_ | (with_reducible refine Ext.setAt ?_ _ _ _ ?_; rotate_left; omega) | with_reducible refine Ext.trans ?_ (by assumption) | with_reducible exact Past.bel _ | with_reducible refine Ext.trans ?_ (Past.bel _)))).kept hg8 N34.out)
    clear hg8 HO2 HO4 HO3 N23 N34 LO3
    go_wp2_with fail
    refine (eqInt64S_self _ _ _ _ _ _ _ hlen (own_s1 O4.out) (own_s1 O2.out)).mono ?_
    rintro e w' ⟨rfl, hx9⟩
    (first | (obtain ⟨wx9, rfl⟩ := Past.again hx9) | (obtain ⟨wx9, rfl⟩ := Past.of hx9))
    go_wp2_with fail
    refine (markInt64S_c _ _ _ _ _ _ _ hlen (by omega) (by omega) (own_ext O4.out (by repeat (first | with_reducible exact Ext.refl _ | with_reducible assumption | with_reducible refine Ext.alloc ?_ _ | with_reducible refine Ext.drew ?_ | (with_reducible refine Ext.setAt ?_ _ _ _ ?_; rotate_left; omega) | with_reducible refine Ext.trans ?_ (by assumption) | with_reducible exact Past.bel _ | with_reducible refine Ext.trans ?_ (Past.bel _))))).mono ?_
    rintro e w10 ⟨rfl, ho10, hg10⟩
    have e10 : Ext w w10 := Ext.grown (by repeat (first | with_reducible exact Ext.refl _ | with_reducible assumption | with_reducible refine Ext.alloc ?_ _ | with_reducible refine Ext.drew ?_ | (with_reducible refine Ext.setAt ?_ _ _ _ ?_; rotate_left; omega) | with_reducible refine Ext.trans ?_ (by assumption) | with_reducible exact Past.bel _ | with_reducible refine Ext.trans ?_ (Past.bel _))) hg10 (fun k hk => by have := LO4.out k hk; omega)
    have O10 := Lib.hid ho10
    have P2 := Lib.hid ((own_ext O2.out (by repeat (first | with_reducible exact Ext.refl _ | with_reducible assumption | with_reducible refine Ext.alloc ?_ _ | with_reducible refine Ext.drew ?_ | (with_reducible refine Ext.setAt ?_ _ _ _ ?_; rotate_left; omega) | with_reducible refine Ext.trans ?_ (by assumption) | with_reducible exact Past.bel _ | with_reducible refine Ext.trans ?_ (Past.bel _)))).kept hg10 N24.out)
    clear hg10 ho10 O2 O4 N24 LO4
    go_wp2_with fail
    refine (heldInt64S_c _ _ _ _ _ _ hlen (by omega) (by omega) O10.out).mono ?_
    rintro e w' ⟨rfl, rfl⟩
    go_wp2_with fail
    refine (toReadingS_r _ _ _ _ _ _ hn (HS.out.ext (by repeat (first | with_reducible exact Ext.refl _ | with_reducible assumption | with_reducible refine Ext.alloc ?_ _ | with_reducible refine Ext.drew ?_ | (with_reducible refine Ext.setAt ?_ _ _ _ ?_; rotate_left; omega) | with_reducible refine Ext.trans ?_ (by assumption) | with_reducible exact Past.bel _ | with_reducible refine Ext.trans ?_ (Past.bel _))))).mono ?_
    rintro e w' ⟨g11, rfl, hx11, hs11⟩
    have HS11 := Lib.hid hs11
    clear hs11
    (first | (obtain ⟨wx11, rfl⟩ := Past.again hx11) | (obtain ⟨wx11, rfl⟩ := Past.of hx11))
    go_wp2_with fail
    refine (implResidualsOf_c _ _ _ _ _ _ hn (HS11.out.ext (by repeat (first | with_reducible exact Ext.refl _ | with_reducible assumption | with_reducible refine Ext.alloc ?_ _ | with_reducible refine Ext.drew ?_ | (with_reducible refine Ext.setAt ?_ _ _ _ ?_; rotate_left; omega) | with_reducible refine Ext.trans ?_ (by assumption) | with_reducible exact Past.bel _ | with_reducible refine Ext.trans ?_ (Past.bel _))))).mono ?_
    rintro e w' ⟨a12, c12, rfl, hx12, ho12⟩
    have HO12 := Lib.hid ho12
    clear ho12
    (first | (obtain ⟨wx12, rfl⟩ := Past.again hx12) | (obtain ⟨wx12, rfl⟩ := Past.of hx12))
    go_wp2_with fail
    refine (eqInt64S_self _ _ _ _ _ _ _ hlen (own_s1 HO12.out) (own_s1 (own_ext P2.out (by repeat (first | with_reducible exact Ext.refl _ | with_reducible assumption | with_reducible refine Ext.alloc ?_ _ | with_reducible refine Ext.drew ?_ | (with_reducible refine Ext.setAt ?_ _ _ _ ?_; rotate_left; omega) | with_reducible refine Ext.trans ?_ (by assumption) | with_reducible exact Past.bel _ | with_reducible refine Ext.trans ?_ (Past.bel _)))))).mono ?_
    rintro e w' ⟨rfl, hx13⟩
    (first | (obtain ⟨wx13, rfl⟩ := Past.again hx13) | (obtain ⟨wx13, rfl⟩ := Past.of hx13))
    go_wp2_with fail
    refine (heldInt64S_c _ _ _ _ _ _ hlen (by omega) (by omega) (own_ext O10.out (by repeat (first | with_reducible exact Ext.refl _ | with_reducible assumption | with_reducible refine Ext.alloc ?_ _ | with_reducible refine Ext.drew ?_ | (with_reducible refine Ext.setAt ?_ _ _ _ ?_; rotate_left; omega) | with_reducible refine Ext.trans ?_ (by assumption) | with_reducible exact Past.bel _ | with_reducible refine Ext.trans ?_ (Past.bel _))))).mono ?_
    rintro e w' ⟨rfl, rfl⟩
    go_wp2_with fail
    go_ret
    exact ⟨rfl, (by repeat (first | with_reducible exact Ext.refl _ | with_reducible assumption | with_reducible refine Ext.alloc ?_ _ | with_reducible refine Ext.drew ?_ | (with_reducible refine Ext.setAt ?_ _ _ _ ?_; rotate_left; omega) | with_reducible refine Ext.trans ?_ (by assumption) | with_reducible exact Past.bel _ | with_reducible refine Ext.trans ?_ (Past.bel _)))⟩
  · have h1 : (1048576 : Int) < n := by omega
    go_enter Try.func12, Try.ntmps12
    go_wp2_with (first | (go_at_call 20; ((with_reducible refine (szReadingS_c _ _ _ _ _ (by omega) (by omega) hm'.out).mono ?_); rintro e w' ⟨rfl, rfl⟩)))
    go_ret
    exact ⟨rfl, (by repeat (first | with_reducible exact Ext.refl _ | with_reducible assumption | with_reducible refine Ext.alloc ?_ _ | with_reducible refine Ext.drew ?_ | (with_reducible refine Ext.setAt ?_ _ _ _ ?_; rotate_left; omega) | with_reducible refine Ext.trans ?_ (by assumption) | with_reducible exact Past.bel _ | with_reducible refine Ext.trans ?_ (Past.bel _)))⟩
end Go.Proofs.Ytfpbmceflpohnaa
