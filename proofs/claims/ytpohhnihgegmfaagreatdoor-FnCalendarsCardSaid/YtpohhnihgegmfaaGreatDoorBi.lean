/- Calendars compared. The law SameCalendar's walk. Calendars: cycles, means, texts read back. Ratios that are valid. The law on calendars: its walk. What an argument of bytes holds. What the cards' listed variables give the walks that read. -/
import Derived.Test.YtpohhnihgegmfaaGreatDoorBh
import Derived.Test.YtpohhnihgegmfaaGreatDoorBf
import Derived.Test.YtpohhnihgegmfaaGreatDoorBa
import Derived.Test.YtpohhnihgegmfaaGreatDoorRows
import Derived.Test.YtpohhnihgegmfaaGreatDoorBg
import Derived.ProofKit
import Derived.LaidMore
import Derived.OpenShut
import Derived.Stop.Joined
import Derived.Lib.LaidTab
import Derived.Lay
import Derived.HandedShaped
import Derived.Shelf.Vars

namespace Go.Proofs.YtpohhnihgegmfaaGreatDoor
open Go.RowKit
set_option linter.unusedVariables false
set_option linter.unusedSimpArgs false

section
variable {s1 s2 : ByteArray} {m1 r1 m2 r2 : Option Addr} {mc1 rc1 mc2 rc2 : Nat} {k1 k2 : Int} {n1 n2 : Nat → ByteArray} {x1 x2 : CalN} {w : World}
set_option maxHeartbeats 8000000 in
theorem l15Same_q {g1 g2 : Nat} (h1 : CalQ w g1 s1 m1 r1 mc1 rc1 k1 n1 x1) (h2 : CalQ w g2 s2 m2 r2 mc2 rc2 k2 n2 x2) :
    Calls Tryz.prog 54 #[.pointer (some ⟨g1, 0, none⟩), .pointer (some ⟨g2, 0, none⟩)] w fun e w' => e = .returned (.bool (sameB s1 n1 x1 k1 s2 n2 x2 k2)) ∧ Ext w w' := by
  have H1 := Lib.hid h1
  have H2 := Lib.hid h2
  have g0 := h1.p.lt
  have p0 := h1.p.c0
  have p1 := h1.p.c1
  have p2 := h1.p.c2
  have p3 := h1.p.c3
  have g1' := h2.p.lt
  have q0 := h2.p.c0
  have q1 := h2.p.c1
  have q2 := h2.p.c2
  have q3 := h2.p.c3
  have nb1 := h1.nb
  have nb2 := h2.nb
  have rb1 := h1.rb
  have rb2 := h2.rb
  clear h1 h2
  by_cases a : s1 = s2
  · have a' := bs_eq a
    have HA := Lib.hid a
    by_cases b : k1 = k2
    · have b' := bneI_f b
      have HB := Lib.hid b
      by_cases c : x1.n = x2.n
      · have c' := bneI_f (show (x1.n : Int) = (x2.n : Int) by omega)
        have HC := Lib.hid c
        by_cases d : x1.nr = x2.nr
        · have d' := bneI_f (show (x1.nr : Int) = (x2.nr : Int) by omega)
          have HD := Lib.hid d
          have l1 : x1.n ≤ x2.n := by omega
          have l2 : x2.n ≤ x1.n := by omega
          have l3 : x1.nr ≤ x2.nr := by omega
          have l4 : x2.nr ≤ x1.nr := by omega
          clear a b c d
          go_enter Tryz.func54, Tryz.ntmps54
          go_wp2_with fail
          refine wp_region_past (by kernel_rfl) (by kernel_rfl) ?_
          repeat (go_big_quiet_step (fail))
          refine wpQuiet_nil ?_
          rintro _ ⟨wx, rfl⟩
          go_wp2_with fail
          have HU0 := Lib.hid (show Ext w wx.out from Past.bel wx)
          go_loopw [5] (fun i wr => ∃ j : Nat, j ≤ x1.n ∧ i = .int .i64 j ∧ upTo (moE n1 x1 n2 x2) j = true ∧ Ext w wr) (fun i _ => x1.n - (intOf i).toNat)
          case atStart => exact ⟨0, by omega, rfl, rfl, (by repeat (first | with_reducible exact Ext.refl _ | with_reducible assumption | with_reducible refine Ext.alloc ?_ _ | with_reducible refine Ext.drew ?_ | (with_reducible refine Ext.setAt ?_ _ _ _ ?_; rotate_left; omega) | with_reducible refine Ext.trans ?_ (by assumption) | with_reducible exact Past.bel _ | with_reducible refine Ext.trans ?_ (Past.bel _)))⟩
          case round =>
            obtain ⟨j, hj, rfl, hu, hbl⟩ := hrel
            have HU := Lib.hid hu
            have K1 := H1.out.ext hbl
            have K2 := H2.out.ext hbl
            have g0 := K1.p.lt
            have p1 := K1.p.c1
            have g1' := K2.p.lt
            have q1 := K2.p.c1
            clear hu K1 K2 p0 p2 p3 q0 q2 q3
            by_cases hlt : j < x1.n
            · obtain ⟨b1, o1, e1, hb1, u1', u2', u3'⟩ := (S3.ext H1.out.p.mem.mo hbl).at hlt
              obtain ⟨b2, o2, e2, hb2, u4', u5', u6'⟩ := (S3.ext H2.out.p.mem.mo hbl).at (show j < x2.n by omega)
              have x2l : (j : Int) < (x2.n : Int) := by omega
              have x0l : (0 : Int) ≤ (j : Int) := by omega
              rw [e1] at p1
              rw [e2] at q1
              clear e1 e2
              cases he : moE n1 x1 n2 x2 j
              · have HE := Lib.hid he
                rcases moE_f he with a | ⟨a, b⟩ | ⟨a, b, d⟩
                · have a' := bs_ne a
                  clear a he
                  go_wp2_with fail
                  refine wp_region_past (by kernel_rfl) (by kernel_rfl) ?_
                  repeat (go_big_quiet_step (fail))
                  refine wpQuiet_nil ?_
                  rintro _ ⟨wx, rfl⟩
                  go_wp2_with fail
                  go_ret
                  exact ⟨ret_bool (by unfold sameB moS; rw [upTo_ff hlt HE.out]; simp), (by repeat (first | with_reducible exact Ext.refl _ | with_reducible assumption | with_reducible refine Ext.alloc ?_ _ | with_reducible refine Ext.drew ?_ | (with_reducible refine Ext.setAt ?_ _ _ _ ?_; rotate_left; omega) | with_reducible refine Ext.trans ?_ (by assumption) | with_reducible exact Past.bel _ | with_reducible refine Ext.trans ?_ (Past.bel _)))⟩
                · have a' := bs_eq a
                  have b' := beqI_f b
                  clear a b he
                  go_wp2_with fail
                  refine wp_region_past (by kernel_rfl) (by kernel_rfl) ?_
                  repeat (go_big_quiet_step (fail))
                  refine wpQuiet_nil ?_
                  rintro _ ⟨wx, rfl⟩
                  go_wp2_with fail
                  go_ret
                  exact ⟨ret_bool (by unfold sameB moS; rw [upTo_ff hlt HE.out]; simp), (by repeat (first | with_reducible exact Ext.refl _ | with_reducible assumption | with_reducible refine Ext.alloc ?_ _ | with_reducible refine Ext.drew ?_ | (with_reducible refine Ext.setAt ?_ _ _ _ ?_; rotate_left; omega) | with_reducible refine Ext.trans ?_ (by assumption) | with_reducible exact Past.bel _ | with_reducible refine Ext.trans ?_ (Past.bel _)))⟩
                · have a' := bs_eq a
                  have b' := beqI_t b
                  have d' := beqI_f d
                  clear a b d he
                  go_wp2_with fail
                  refine wp_region_past (by kernel_rfl) (by kernel_rfl) ?_
                  repeat (go_big_quiet_step (fail))
                  refine wpQuiet_nil ?_
                  rintro _ ⟨wx, rfl⟩
                  go_wp2_with fail
                  go_ret
                  exact ⟨ret_bool (by unfold sameB moS; rw [upTo_ff hlt HE.out]; simp), (by repeat (first | with_reducible exact Ext.refl _ | with_reducible assumption | with_reducible refine Ext.alloc ?_ _ | with_reducible refine Ext.drew ?_ | (with_reducible refine Ext.setAt ?_ _ _ _ ?_; rotate_left; omega) | with_reducible refine Ext.trans ?_ (by assumption) | with_reducible exact Past.bel _ | with_reducible refine Ext.trans ?_ (Past.bel _)))⟩
              · have HE := Lib.hid he
                obtain ⟨a, b, d⟩ := moE_t he
                have a' := bs_eq a
                have b' := beqI_t b
                have d' := beqI_t d
                clear a b d he
                go_wp2_with fail
                refine wp_region_past (by kernel_rfl) (by kernel_rfl) ?_
                repeat (go_big_quiet_step (fail))
                refine wpQuiet_nil ?_
                rintro _ ⟨wx, rfl⟩
                go_wp2_with fail
                exact ⟨⟨j + 1, by omega, by go_num, by simp only [upTo, HU.out, HE.out]; rfl, (by repeat (first | with_reducible exact Ext.refl _ | with_reducible assumption | with_reducible refine Ext.alloc ?_ _ | with_reducible refine Ext.drew ?_ | (with_reducible refine Ext.setAt ?_ _ _ _ ?_; rotate_left; omega) | with_reducible refine Ext.trans ?_ (by assumption) | with_reducible exact Past.bel _ | with_reducible refine Ext.trans ?_ (Past.bel _)))⟩, by simp [intOf]; omega⟩
            · have hjn : j = x1.n := by omega
              rw [hjn] at HU
              have HM := Lib.hid (show moS n1 x1 n2 x2 = true by unfold moS; rw [HU.out]; simp [HC.out])
              have x3 : (x1.n : Int) ≤ (j : Int) := by omega
              clear hjn
              go_wp2_with fail
              go_loopw [6] (fun i wr => ∃ j : Nat, j ≤ x1.nr ∧ i = .int .i64 j ∧ upTo (ruE x1 x2) j = true ∧ Ext w wr) (fun i _ => x1.nr - (intOf i).toNat)
              case atStart => exact ⟨0, by omega, rfl, rfl, (by repeat (first | with_reducible exact Ext.refl _ | with_reducible assumption | with_reducible refine Ext.alloc ?_ _ | with_reducible refine Ext.drew ?_ | (with_reducible refine Ext.setAt ?_ _ _ _ ?_; rotate_left; omega) | with_reducible refine Ext.trans ?_ (by assumption) | with_reducible exact Past.bel _ | with_reducible refine Ext.trans ?_ (Past.bel _)))⟩
              case round =>
                obtain ⟨j, hj, rfl, hu, hbl⟩ := hrel
                have HU := Lib.hid hu
                have K1 := H1.out.ext hbl
                have K2 := H2.out.ext hbl
                have g0 := K1.p.lt
                have p2 := K1.p.c2
                have g1' := K2.p.lt
                have q2 := K2.p.c2
                clear hu K1 K2 p1 q1
                by_cases hlt : j < x1.nr
                · obtain ⟨b1, o1, e1, hb1, u1', u2', u3'⟩ := (R3.ext H1.out.p.mem.ru hbl).at hlt
                  obtain ⟨b2, o2, e2, hb2, u4', u5', u6'⟩ := (R3.ext H2.out.p.mem.ru hbl).at (show j < x2.nr by omega)
                  have x2l : (j : Int) < (x2.nr : Int) := by omega
                  have x0l : (0 : Int) ≤ (j : Int) := by omega
                  rw [e1] at p2
                  rw [e2] at q2
                  clear e1 e2
                  cases he : ruE x1 x2 j
                  · have HE := Lib.hid he
                    rcases ruE_f he with a | ⟨a, b⟩ | ⟨a, b, d⟩
                    · have a' := beqI_f a
                      clear a he
                      go_wp2_with fail
                      refine wp_region_past (by kernel_rfl) (by kernel_rfl) ?_
                      repeat (go_big_quiet_step (fail))
                      refine wpQuiet_nil ?_
                      rintro _ ⟨wx, rfl⟩
                      go_wp2_with fail
                      go_ret
                      exact ⟨ret_bool (by unfold sameB ruS; rw [upTo_ff hlt HE.out]; simp), (by repeat (first | with_reducible exact Ext.refl _ | with_reducible assumption | with_reducible refine Ext.alloc ?_ _ | with_reducible refine Ext.drew ?_ | (with_reducible refine Ext.setAt ?_ _ _ _ ?_; rotate_left; omega) | with_reducible refine Ext.trans ?_ (by assumption) | with_reducible exact Past.bel _ | with_reducible refine Ext.trans ?_ (Past.bel _)))⟩
                    · have a' := beqI_t a
                      have b' := beqI_f b
                      clear a b he
                      go_wp2_with fail
                      refine wp_region_past (by kernel_rfl) (by kernel_rfl) ?_
                      repeat (go_big_quiet_step (fail))
                      refine wpQuiet_nil ?_
                      rintro _ ⟨wx, rfl⟩
                      go_wp2_with fail
                      go_ret
                      exact ⟨ret_bool (by unfold sameB ruS; rw [upTo_ff hlt HE.out]; simp), (by repeat (first | with_reducible exact Ext.refl _ | with_reducible assumption | with_reducible refine Ext.alloc ?_ _ | with_reducible refine Ext.drew ?_ | (with_reducible refine Ext.setAt ?_ _ _ _ ?_; rotate_left; omega) | with_reducible refine Ext.trans ?_ (by assumption) | with_reducible exact Past.bel _ | with_reducible refine Ext.trans ?_ (Past.bel _)))⟩
                    · have a' := beqI_t a
                      have b' := beqI_t b
                      have d' := beqB_f d
                      clear a b d he
                      go_wp2_with fail
                      refine wp_region_past (by kernel_rfl) (by kernel_rfl) ?_
                      repeat (go_big_quiet_step (fail))
                      refine wpQuiet_nil ?_
                      rintro _ ⟨wx, rfl⟩
                      go_wp2_with fail
                      go_ret
                      exact ⟨ret_bool (by unfold sameB ruS; rw [upTo_ff hlt HE.out]; simp), (by repeat (first | with_reducible exact Ext.refl _ | with_reducible assumption | with_reducible refine Ext.alloc ?_ _ | with_reducible refine Ext.drew ?_ | (with_reducible refine Ext.setAt ?_ _ _ _ ?_; rotate_left; omega) | with_reducible refine Ext.trans ?_ (by assumption) | with_reducible exact Past.bel _ | with_reducible refine Ext.trans ?_ (Past.bel _)))⟩
                  · have HE := Lib.hid he
                    obtain ⟨a, b, d⟩ := ruE_t he
                    have a' := beqI_t a
                    have b' := beqI_t b
                    have d' := beqB_t d
                    clear a b d he
                    go_wp2_with fail
                    refine wp_region_past (by kernel_rfl) (by kernel_rfl) ?_
                    repeat (go_big_quiet_step (fail))
                    refine wpQuiet_nil ?_
                    rintro _ ⟨wx, rfl⟩
                    go_wp2_with fail
                    exact ⟨⟨j + 1, by omega, by go_num, by simp only [upTo, HU.out, HE.out]; rfl, (by repeat (first | with_reducible exact Ext.refl _ | with_reducible assumption | with_reducible refine Ext.alloc ?_ _ | with_reducible refine Ext.drew ?_ | (with_reducible refine Ext.setAt ?_ _ _ _ ?_; rotate_left; omega) | with_reducible refine Ext.trans ?_ (by assumption) | with_reducible exact Past.bel _ | with_reducible refine Ext.trans ?_ (Past.bel _)))⟩, by simp [intOf]; omega⟩
                · have hjn : j = x1.nr := by omega
                  rw [hjn] at HU
                  have x3 : (x1.nr : Int) ≤ (j : Int) := by omega
                  clear hjn
                  go_wp2_with fail
                  go_ret
                  exact ⟨ret_bool (by unfold sameB ruS; rw [HU.out, HM.out]; simp [HA.out, HB.out, HD.out]), (by repeat (first | with_reducible exact Ext.refl _ | with_reducible assumption | with_reducible refine Ext.alloc ?_ _ | with_reducible refine Ext.drew ?_ | (with_reducible refine Ext.setAt ?_ _ _ _ ?_; rotate_left; omega) | with_reducible refine Ext.trans ?_ (by assumption) | with_reducible exact Past.bel _ | with_reducible refine Ext.trans ?_ (Past.bel _)))⟩
        · have d' := bneI_t (show ¬ (x1.nr : Int) = (x2.nr : Int) by omega)
          have HD := Lib.hid d
          clear a b c d
          go_enter Tryz.func54, Tryz.ntmps54
          go_wp2_with fail
          refine wp_region_past (by kernel_rfl) (by kernel_rfl) ?_
          repeat (go_big_quiet_step (fail))
          refine wpQuiet_nil ?_
          rintro _ ⟨wx, rfl⟩
          go_wp2_with fail
          go_ret
          exact ⟨ret_bool (by simp [sameB, ruS, HD.out]), (by repeat (first | with_reducible exact Ext.refl _ | with_reducible assumption | with_reducible refine Ext.alloc ?_ _ | with_reducible refine Ext.drew ?_ | (with_reducible refine Ext.setAt ?_ _ _ _ ?_; rotate_left; omega) | with_reducible refine Ext.trans ?_ (by assumption) | with_reducible exact Past.bel _ | with_reducible refine Ext.trans ?_ (Past.bel _)))⟩
      · have c' := bneI_t (show ¬ (x1.n : Int) = (x2.n : Int) by omega)
        have HC := Lib.hid c
        clear a b c
        go_enter Tryz.func54, Tryz.ntmps54
        go_wp2_with fail
        refine wp_region_past (by kernel_rfl) (by kernel_rfl) ?_
        repeat (go_big_quiet_step (fail))
        refine wpQuiet_nil ?_
        rintro _ ⟨wx, rfl⟩
        go_wp2_with fail
        go_ret
        exact ⟨ret_bool (by simp [sameB, moS, HC.out]), (by repeat (first | with_reducible exact Ext.refl _ | with_reducible assumption | with_reducible refine Ext.alloc ?_ _ | with_reducible refine Ext.drew ?_ | (with_reducible refine Ext.setAt ?_ _ _ _ ?_; rotate_left; omega) | with_reducible refine Ext.trans ?_ (by assumption) | with_reducible exact Past.bel _ | with_reducible refine Ext.trans ?_ (Past.bel _)))⟩
    · have b' := bneI_t b
      have HB := Lib.hid b
      clear a b
      go_enter Tryz.func54, Tryz.ntmps54
      go_wp2_with fail
      refine wp_region_past (by kernel_rfl) (by kernel_rfl) ?_
      repeat (go_big_quiet_step (fail))
      refine wpQuiet_nil ?_
      rintro _ ⟨wx, rfl⟩
      go_wp2_with fail
      go_ret
      exact ⟨ret_bool (by simp [sameB, HB.out]), (by repeat (first | with_reducible exact Ext.refl _ | with_reducible assumption | with_reducible refine Ext.alloc ?_ _ | with_reducible refine Ext.drew ?_ | (with_reducible refine Ext.setAt ?_ _ _ _ ?_; rotate_left; omega) | with_reducible refine Ext.trans ?_ (by assumption) | with_reducible exact Past.bel _ | with_reducible refine Ext.trans ?_ (Past.bel _)))⟩
  · have a' := bs_ne a
    have HA := Lib.hid a
    clear a
    go_enter Tryz.func54, Tryz.ntmps54
    go_wp2_with fail
    refine wp_region_past (by kernel_rfl) (by kernel_rfl) ?_
    repeat (go_big_quiet_step (fail))
    refine wpQuiet_nil ?_
    rintro _ ⟨wx, rfl⟩
    go_wp2_with fail
    go_ret
    exact ⟨ret_bool (by simp [sameB, HA.out]), (by repeat (first | with_reducible exact Ext.refl _ | with_reducible assumption | with_reducible refine Ext.alloc ?_ _ | with_reducible refine Ext.drew ?_ | (with_reducible refine Ext.setAt ?_ _ _ _ ?_; rotate_left; omega) | with_reducible refine Ext.trans ?_ (by assumption) | with_reducible exact Past.bel _ | with_reducible refine Ext.trans ?_ (Past.bel _)))⟩
end
end Go.Proofs.YtpohhnihgegmfaaGreatDoor

namespace Go.Proofs.YtpohhnihgegmfaaGreatDoor
open Go.RowKit
set_option linter.unusedVariables false
set_option linter.unusedSimpArgs false

theorem specSame_c {s1 s2 : ByteArray} {m1 r1 m2 r2 : Option Addr} {mc1 rc1 mc2 rc2 : Nat} (k1 k2 : Int) {n1 n2 : Nat → ByteArray} {x1 x2 : CalN} {w : World} (h1 : CalV w s1 m1 r1 mc1 rc1 n1 x1) (h2 : CalV w s2 m2 r2 mc2 rc2 n2 x2) :
    Calls Tryz.prog 22 #[.agg #[.string s1, .slice m1 x1.n mc1, .slice r1 x1.nr rc1, .int .i64 k1], .agg #[.string s2, .slice m2 x2.n mc2, .slice r2 x2.nr rc2, .int .i64 k2]] w fun e w' => e = .returned (.bool (sameB s1 n1 x1 k1 s2 n2 x2 k2)) ∧ Ext w w' := by
  have Q1 := Lib.hid (CalQ.new 27 k1 h1)
  have Q2 := Lib.hid (CalQ.new 27 k2 (h2.ext ((Ext.refl w).alloc (.cells #[.string s1, .slice m1 x1.n mc1, .slice r1 x1.nr rc1, .int .i64 k1] 27))))
  clear h1 h2
  simp only [World.size_alloc] at Q2
  go_enter Tryz.func22, Tryz.ntmps22
  go_wp2_with (go_at_call 54; ((with_reducible refine (l15Same_q (Q1.out.ext (by repeat (first | with_reducible exact Ext.refl _ | with_reducible assumption | with_reducible refine Ext.alloc ?_ _ | with_reducible refine Ext.drew ?_ | (with_reducible refine Ext.setAt ?_ _ _ _ ?_; rotate_left; omega) | with_reducible refine Ext.trans ?_ (by assumption) | with_reducible exact Past.bel _ | with_reducible refine Ext.trans ?_ (Past.bel _)))) (Q2.out.ext (by repeat (first | with_reducible exact Ext.refl _ | with_reducible assumption | with_reducible refine Ext.alloc ?_ _ | with_reducible refine Ext.drew ?_ | (with_reducible refine Ext.setAt ?_ _ _ _ ?_; rotate_left; omega) | with_reducible refine Ext.trans ?_ (by assumption) | with_reducible exact Past.bel _ | with_reducible refine Ext.trans ?_ (Past.bel _))))).mono ?_); rintro e w' ⟨rfl, hx⟩; (first | (obtain ⟨wx, rfl⟩ := Past.again hx) | (obtain ⟨wx, rfl⟩ := Past.ofd hx) | (obtain ⟨wx, rfl⟩ := Past.of hx))))
  go_ret
  exact ⟨rfl, (by repeat (first | with_reducible exact Ext.refl _ | with_reducible assumption | with_reducible refine Ext.alloc ?_ _ | with_reducible refine Ext.drew ?_ | (with_reducible refine Ext.setAt ?_ _ _ _ ?_; rotate_left; omega) | with_reducible refine Ext.trans ?_ (by assumption) | with_reducible exact Past.bel _ | with_reducible refine Ext.trans ?_ (Past.bel _)))⟩
end Go.Proofs.YtpohhnihgegmfaaGreatDoor

namespace Go.Proofs.YtpohhnihgegmfaaGreatDoor
open Go.RowKit
set_option linter.unusedVariables false
set_option linter.unusedSimpArgs false

section
variable {s : ByteArray} {nm : Nat → ByteArray} {c : CalN} {wk : Int}
theorem calTx_len (hok : calB s nm c wk = true) : (calTx s nm c wk).length ≤ 4000 := by
  rw [calTx, hok, if_pos rfl, calL]
  have := ttR_len (txB_of hok) (j := c.nr) (Nat.le_refl _)
  have := (calB_b hok).nr6
  omega
theorem upTo_tt {f : Nat → Bool} : ∀ {n : Nat}, (∀ k, k < n → f k = true) → upTo f n = true
  | 0, _ => rfl
  | n + 1, h => by rw [upTo, upTo_tt (fun k hk => h k (by omega)), h n (by omega)]; rfl
theorem same_self : sameB s nm c wk s nm c wk = true := by
  have h1 : upTo (moE nm c nm c) c.n = true := upTo_tt fun k _ => by simp [moE]
  have h2 : upTo (ruE c c) c.nr = true := upTo_tt fun k _ => by simp [ruE]
  simp only [sameB, moS, ruS, decide_true, h1, h2, Bool.and_self]
theorem gcd_cop {a b : Int} (ha : 1 ≤ a) (hb : 1 ≤ b) : gcdI (a / gcdI a b) (b / gcdI a b) = 1 := by
  have h := gcdI_bd ha hb
  have h2 : 0 < Int.gcd a b := by unfold gcdI at h; omega
  unfold gcdI
  rw [Int.gcd_ediv_gcd_ediv_gcd h2]; rfl
theorem gcd_part {a b : Int} (ha : 1 ≤ a) (hb : 1 ≤ b) : (a / gcdI a b) * b = a * (b / gcdI a b) ∧ 1 ≤ a / gcdI a b ∧ a / gcdI a b ≤ a ∧ 1 ≤ b / gcdI a b ∧ b / gcdI a b ≤ b := by
  obtain ⟨g1, g2, g3⟩ := gcdI_bd ha hb
  obtain ⟨p, hp⟩ := gcdI_dl (a := a) (b := b)
  obtain ⟨q, hq⟩ := gcdI_dr (a := a) (b := b)
  generalize gcdI a b = g at g1 g2 g3 hp hq ⊢
  have e1 : a / g = p := by rw [hp]; exact Int.mul_ediv_cancel_left _ (by omega)
  have e2 : b / g = q := by rw [hq]; exact Int.mul_ediv_cancel_left _ (by omega)
  have l1 := Int.ediv_le_self g (show 0 ≤ a by omega)
  have l2 := Int.ediv_le_self g (show 0 ≤ b by omega)
  rw [e1] at l1
  rw [e2] at l2
  rw [e1, e2]
  refine ⟨?_, ?_, l1, ?_, l2⟩
  · rw [hp, hq, ← Int.mul_assoc, Int.mul_comm p g]
  · rcases Int.lt_or_le 0 p with h | h
    · exact h
    · have := Int.mul_nonpos_of_nonneg_of_nonpos (show 0 ≤ g by omega) h; omega
  · rcases Int.lt_or_le 0 q with h | h
    · exact h
    · have := Int.mul_nonpos_of_nonneg_of_nonpos (show 0 ≤ g by omega) h; omega
theorem ym_yes (hok : calB s nm c wk = true) {y : Int} (hy : inB y 0 9999 = true) {j : Nat} (hj : j < c.n) : ymC s nm c wk y ((j : Int) + 1) = 0 ∧ ymV s nm c wk y ((j : Int) + 1) = c.mo y j := by
  have h : ymC s nm c wk y ((j : Int) + 1) = 0 := by rw [ymC, hok, hy, inB_t.2 (by omega)]; rfl
  exact ⟨h, by rw [ymV, if_pos h, succ_pred]⟩
theorem yr_yes (hok : calB s nm c wk = true) {y : Int} (hy : inB y 0 9999 = true) : yrC s nm c wk y = 0 ∧ yrV s nm c wk y = c.yl y := by
  have h : yrC s nm c wk y = 0 := by rw [yrC, hok, hy]; rfl
  exact ⟨h, by rw [yrV, if_pos h]⟩
end
theorem cal_read {M : List Mo} {R : List Ru} {nm : ByteArray} {wk : Int} (hok : calB nm (nmOf M) (calOf M R) wk = true) : CR (calTx nm (nmOf M) (calOf M R) wk) ⟨nm, wk, M, R⟩ true :=
  ⟨fun _ => ⟨hok, by rw [calTx, hok, if_pos rfl]; exact calL_tx ⟨nm, wk, M, R⟩⟩, fun e => by cases e⟩
theorem l02Size_t (n : Int) (w : World) (h0 : 0 ≤ n) : Calls Tryz.prog 87 #[.int .i64 n] w fun e w' => e = .returned (.int .i64 n) ∧ w = w' := by
  have x0 : ¬ n < 0 := by omega
  go_enter Tryz.func87, Tryz.ntmps87
  go_wp2_with fail
  go_ret
  exact ⟨rfl, rfl⟩
set_option maxHeartbeats 1000000 in
theorem validRatio_t (n d : Int) (w : World) (n0 : 1 ≤ n) (n1 : n ≤ 1000000000) (d0 : 1 ≤ d) (d1 : d ≤ 1000000000) (hg : gcdI n d = 1) :
    Calls Tryz.prog 23 #[.agg #[.int .i64 n, .int .i64 d]] w fun e w' => e = .returned (.bool true) ∧ Ext w w' := by
  have HL1 := Lib.hid (fun (W : World) => (inB_t.2 ⟨d0, d1⟩ ▸ l00In_c d 1 1000000000 W : Calls Tryz.prog 79 #[.int .i64 d, .int .i64 1, .int .i64 1000000000] W fun e w' => e = .returned (.bool true) ∧ W = w'))
  have hn2 : inB n (-1000000000) 1000000000 = true := inB_t.2 ⟨by omega, n1⟩
  have HL2 := Lib.hid (fun (W : World) => (hn2 ▸ l00In_c n (-1000000000) 1000000000 W : Calls Tryz.prog 79 #[.int .i64 n, .int .i64 (-1000000000), .int .i64 1000000000] W fun e w' => e = .returned (.bool true) ∧ W = w'))
  have HG := Lib.hid (fun (W : World) => (hg ▸ l02Gcd_c n d W (by omega) (by omega) (by omega) (by omega) : Calls Tryz.prog 86 #[.int .i64 n, .int .i64 d] W fun e w' => e = .returned (.int .i64 1) ∧ W = w'))
  have HA := Lib.hid (fun (W : World) => l02Size_t n W (by omega))
  have HO : ∀ W, Calls Tryz.prog 55 #[.agg #[.int .i64 n, .int .i64 d]] W fun e w' => e = .returned (.bool true) ∧ Ext W w' := fun W => by
    clear hg
    go_enter Tryz.func55, Tryz.ntmps55
    go_wp2_with fail
    refine wp_region_past (by kernel_rfl) (by kernel_rfl) ?_
    repeat (go_big_quiet_step (first | (go_at_call 79; with_reducible exact Calls.past_same (HL1.out _)) | (go_at_call 79; with_reducible exact Calls.past_same (HL2.out _)) | (go_at_call 87; with_reducible exact Calls.past_same (HA.out _)) | (go_at_call 86; with_reducible exact Calls.past_same (HG.out _))))
    refine wpQuiet_nil ?_
    rintro _ ⟨wx, rfl⟩
    go_wp2_with fail
    go_ret
    exact ⟨rfl, (by repeat (first | with_reducible exact Ext.refl _ | with_reducible assumption | with_reducible refine Ext.alloc ?_ _ | with_reducible refine Ext.drew ?_ | (with_reducible refine Ext.setAt ?_ _ _ _ ?_; rotate_left; omega) | with_reducible refine Ext.trans ?_ (by assumption) | with_reducible exact Past.bel _ | with_reducible refine Ext.trans ?_ (Past.bel _)))⟩
  have HO' := Lib.hid HO
  clear HO HL1 HL2 HG HA hg hn2
  go_enter Tryz.func23, Tryz.ntmps23
  go_wp2_with (go_at_call 55; ((with_reducible refine (HO'.out _).mono ?_); rintro e w' ⟨rfl, hx⟩; (first | (obtain ⟨wx, rfl⟩ := Past.again hx) | (obtain ⟨wx, rfl⟩ := Past.ofd hx) | (obtain ⟨wx, rfl⟩ := Past.of hx))))
  go_ret
  exact ⟨rfl, (by repeat (first | with_reducible exact Ext.refl _ | with_reducible assumption | with_reducible refine Ext.alloc ?_ _ | with_reducible refine Ext.drew ?_ | (with_reducible refine Ext.setAt ?_ _ _ _ ?_; rotate_left; omega) | with_reducible refine Ext.trans ?_ (by assumption) | with_reducible exact Past.bel _ | with_reducible refine Ext.trans ?_ (Past.bel _)))⟩
theorem a2At_c (a : Option Addr) (n c : Nat) (f : Nat → Nat) (w : World) (hs : U8 w a n f) (hl : ∀ j, j < n → f j ≤ 255) :
    Calls Tryz.prog 24 #[.slice a n c, .int .i64 0, .int .i64 200] w fun e w' => ∃ r : Int, e = .returned (.int .i64 r) ∧ 0 ≤ r ∧ r ≤ 199 ∧ w = w' := by
  by_cases h : 0 < n
  · obtain ⟨b1, o1, rfl, hb, hc⟩ := hs.at h
    have hc' : w.cell? ⟨b1, o1, none⟩ = some (.int .u8 (f 0 : Nat)) := hc
    have hf := hl 0 h
    have x0 : ¬ (n : Int) ≤ 0 := by omega
    have x1 : (0 : Int) < (n : Int) := by omega
    have x2 : IntKind.i64.wrap (f 0 : Int) = (f 0 : Int) := IntWalk.i64_in _ (by omega)
    clear hs hl
    go_enter Tryz.func24, Tryz.ntmps24
    go_wp2_with fail
    go_ret
    refine ⟨(f 0 : Int) % 200, by simp [go_sem], by omega, by omega, rfl⟩
  · have x0 : (n : Int) ≤ 0 := by omega
    go_enter Tryz.func24, Tryz.ntmps24
    go_wp2_with fail
    go_ret
    exact ⟨0, rfl, by omega, by omega, rfl⟩
end Go.Proofs.YtpohhnihgegmfaaGreatDoor

namespace Go.Proofs.YtpohhnihgegmfaaGreatDoor
open Go.RowKit
set_option linter.unusedVariables false
set_option linter.unusedSimpArgs false

/-- a drawn calendar, as the law holds it -/
structure CS (w W : World) (gc : Nat) (nm : ByteArray) (wk : Int) (M : List Mo) (R : List Ru) (m1 : Option Addr) (mc : Nat) (r1 : Option Addr) (rc : Nat) : Prop where
  e : Ext w W
  ka : Blk W gc 27 #[.string nm, .slice m1 M.length mc, .slice r1 R.length rc, .int .i64 wk]
  v : CalV W nm m1 r1 mc rc (nmOf M) (calOf M R)
theorem CS.ext {w W W' : World} {gc : Nat} {nm : ByteArray} {wk : Int} {M : List Mo} {R : List Ru} {m1 : Option Addr} {mc : Nat} {r1 : Option Addr} {rc : Nat} (h : CS w W gc nm wk M R m1 mc r1 rc) (x : Ext W W') : CS w W' gc nm wk M R m1 mc r1 rc := ⟨Ext.trans h.e x, h.ka.ext x, h.v.ext x⟩
theorem bw {a A : Int} (h : a = A) (x : Int) (hx : x = A) : (a == x) = true := by rw [h, hx]; simp
set_option maxRecDepth 100000 in
set_option maxHeartbeats 8000000 in
theorem walkCalendars (a1 : Option Addr) (n1 c1 : Nat) (f1 : Nat → Nat) (a2 : Option Addr) (n2 c2 : Nat) (f2 : Nat → Nat) (hm1 : n1 ≤ maxLen) (hm2 : n2 ≤ maxLen) (w : World) (hs1 : U8 w a1 n1 f1) (hl1 : ∀ j, j < n1 → f1 j ≤ 255) (hs2 : U8 w a2 n2 f2) (hl2 : ∀ j, j < n2 → f2 j ≤ 255) (hg : Gl w) :
    Calls Tryz.prog 4 #[.slice a1 n1 c1, .slice a2 n2 c2] w fun e w' => e = .returned (.bool true) ∧ Ext w w' := by
  clear hm1 hm2
  have HG := Lib.hid hg
  clear hg
  cases hlong : (decide (3000 < n1) || decide (3000 < n2))
  · have HL := Lib.hid (fun (W : World) => (hlong ▸ a2Long_c a1 a2 n1 c1 n2 c2 W : Calls Tryz.prog 5 #[.slice a1 n1 c1, .slice a2 n2 c2] W fun e w' => e = .returned (.bool false) ∧ W = w'))
    have hn : n1 ≤ 3000 ∧ n2 ≤ 3000 := by simp at hlong; omega
    clear hlong
    go_enter Tryz.func4, Tryz.ntmps4
    go_wp2_with (go_at_call 5; ((with_reducible refine (HL.out _).mono ?_); rintro e w' ⟨rfl, rfl⟩))
    refine (a2Calendar_c a1 n1 c1 f1 _ (by omega) hs1 hl1).mono ?_
    rintro e w1 ⟨M, R, nm, wk, m1, mc, r1, rc, rfl, hx1, om, or, hok⟩
    have xa : Ext w1 (w1.alloc (.cells #[.string nm, .slice m1 M.length mc, .slice r1 R.length rc, .int .i64 wk] 27)) := (by repeat (first | with_reducible exact Ext.refl _ | with_reducible assumption | with_reducible refine Ext.alloc ?_ _ | with_reducible refine Ext.drew ?_ | (with_reducible refine Ext.setAt ?_ _ _ _ ?_; rotate_left; omega) | with_reducible refine Ext.trans ?_ (by assumption) | with_reducible exact Past.bel _ | with_reducible refine Ext.trans ?_ (Past.bel _)))
    have S1 : CS w (w1.alloc (.cells #[.string nm, .slice m1 M.length mc, .slice r1 R.length rc, .int .i64 wk] 27)) w1.heap.size nm wk M R m1 mc r1 rc :=
      ⟨Ext.trans hx1 xa, Blk.new w1 #[.string nm, .slice m1 M.length mc, .slice r1 R.length rc, .int .i64 wk] 27, calV_of hok (own_ext om xa) (own_ext or xa)⟩
    have b := calB_b hok
    have hmean := b.mean
    have hlen := calTx_len hok
    have hread := cal_read hok
    have n20 := b.n20
    have hmz := (calB_b hok).n20
    have hrz := (calB_b hok).nr6
    obtain ⟨C, hC⟩ : ∃ x, x = (calOf M R).cyc := ⟨_, rfl⟩
    obtain ⟨T, hT⟩ : ∃ x, x = (calOf M R).bef (calOf M R).cyc.toNat := ⟨_, rfl⟩
    have hc2 : C ≤ 2000 := by rw [hC]; exact b.cyc1.2
    have hT2 : T ≤ 2400000 := by rw [hT]; have := b.bef (calOf M R).cyc.toNat; have := b.cyc1; omega
    rw [← hT, ← hC] at hmean
    obtain ⟨t1, t2, t3, t4⟩ := hmean
    obtain ⟨N, hN⟩ : ∃ x, x = T / gcdI T C := ⟨_, rfl⟩
    obtain ⟨D, hD⟩ : ∃ x, x = C / gcdI T C := ⟨_, rfl⟩
    have hcop := gcd_cop t1 t3
    obtain ⟨u1, u2, u3, u4, u5⟩ := gcd_part t1 t3
    rw [← hN, ← hD] at hcop u1
    rw [← hN] at u2 u3
    rw [← hD] at u4 u5
    have hcyc : cyV nm (nmOf M) (calOf M R) wk = C ∧ cyD nm (nmOf M) (calOf M R) wk = T ∧ caC nm (nmOf M) (calOf M R) wk = 0 := by rw [cyV, cyD, caC, hok, if_pos rfl, if_pos rfl, if_pos rfl, hC, hT]; exact ⟨rfl, rfl, rfl⟩
    have hmn : mnN nm (nmOf M) (calOf M R) wk = N ∧ mnD nm (nmOf M) (calOf M R) wk = D := by rw [mnN, mnD, hok, if_pos rfl, if_pos rfl, hN, hD, hT, hC]; exact ⟨rfl, rfl⟩
    obtain ⟨Tx, hTx⟩ : ∃ x, x = calTx nm (nmOf M) (calOf M R) wk := ⟨_, rfl⟩
    rw [← hTx] at hlen hread
    have p0 : 0 ≤ T * D := Int.mul_nonneg (by omega) (by omega)
    have p1 : T * D ≤ 4800000000 := Int.le_trans (Int.mul_le_mul_of_nonneg_left (show D ≤ 2000 by omega) (show 0 ≤ T by omega)) (by omega)
    have H1 := Lib.hid (fun (W : World) (S : CS w W w1.heap.size nm wk M R m1 mc r1 rc) => (show Calls Tryz.prog 18 #[.agg #[.string nm, .slice m1 M.length mc, .slice r1 R.length rc, .int .i64 wk]] W (fun e w' => e = .returned (.tuple #[.int .i64 C, .int .i64 T, .int .i64 0]) ∧ Ext W w') from by have h := implCycleOf_c wk S.v; rw [hcyc.1, hcyc.2.1, hcyc.2.2] at h; exact h))
    have H2 := Lib.hid (fun (W : World) (S : CS w W w1.heap.size nm wk M R m1 mc r1 rc) => (show Calls Tryz.prog 19 #[.agg #[.string nm, .slice m1 M.length mc, .slice r1 R.length rc, .int .i64 wk]] W (fun e w' => e = .returned (.tuple #[.agg #[.int .i64 N, .int .i64 D], .int .i64 0]) ∧ Ext W w') from by have h := implMeanYear_c wk S.v; rw [hmn.1, hmn.2, hcyc.2.2] at h; exact h))
    have H3 := Lib.hid (fun (W : World) (S : CS w W w1.heap.size nm wk M R m1 mc r1 rc) => (show Calls Tryz.prog 21 #[.agg #[.string nm, .slice m1 M.length mc, .slice r1 R.length rc, .int .i64 wk]] W (fun e w' => e = .returned (.string ⟨Tx.toArray⟩) ∧ Ext W w') from by rw [hTx]; exact implCalendarText_c wk S.v (HG.out.tab.ext S.e)))
    have H4 := Lib.hid (fun (W : World) (S : CS w W w1.heap.size nm wk M R m1 mc r1 rc) => implReadCalendar_c ⟨Tx.toArray⟩ W (by simp only [ByteArray.size, List.size_toArray]; omega) (HG.out.ext S.e) hread)
    have H5 := Lib.hid (fun (W : World) (S : CS w W w1.heap.size nm wk M R m1 mc r1 rc) m2 r2 mc2 rc2 (V : CalV W nm m2 r2 mc2 rc2 (nmOf M) (calOf M R)) => (show Calls Tryz.prog 22 #[.agg #[.string nm, .slice m2 M.length mc2, .slice r2 R.length rc2, .int .i64 wk], .agg #[.string nm, .slice m1 M.length mc, .slice r1 R.length rc, .int .i64 wk]] W (fun e w' => e = .returned (.bool true) ∧ Ext W w') from by have h := specSame_c wk wk V S.v; rw [same_self] at h; exact h))
    have H6 := Lib.hid (fun (W : World) => validRatio_t N D W u2 (by omega) u4 (by omega) hcop)
    have HLP := Lib.hid (fun (y : Int) (h0 : 0 ≤ y) (h1 : y ≤ 9999) => (show leapR nm (nmOf M) (calOf M R) wk y = (calOf M R).leap y ∧ leapR nm (nmOf M) (calOf M R) wk (y + C) = leapR nm (nmOf M) (calOf M R) wk (y + C) from by rw [leapR, hok, inB_t.2 ⟨h0, h1⟩]; exact ⟨rfl, rfl⟩))
    have HLA := Lib.hid (fun (y : Int) => (show (calOf M R).leap (y + C) = (calOf M R).leap y from by rw [hC]; exact b.leap_add y))
    have HOK := Lib.hid hok
    have HS2 := Lib.hid hs2
    have HL2 := Lib.hid hl2
    have S1h := Lib.hid S1
    have HM : N * C = T * D := u1
    clear hok b om or hC hT hN hD hcop hcyc hmn hTx hlen hread hs1 hl1 hs2 hl2 hx1 u1 HL
    obtain ⟨a1', a2', a3', a4', a5', a6', a7', a8', a9'⟩ := S1h.out.ka.cel
    go_wp2_with fail
    generalize hX : w1.alloc (.cells #[.string nm, .slice m1 M.length mc, .slice r1 R.length rc, .int .i64 wk] 27) = X1 at S1 S1h xa ⊢
    clear hX S1 xa a1' a2' a3' a4' a5' a6' a7' a8' a9'
    refine (H1.out _ S1h.out).mono ?_
    rintro e w2 ⟨rfl, hx2⟩
    have S2h := Lib.hid (S1h.out.ext hx2)
    obtain ⟨a1', a2', a3', a4', a5', a6', a7', a8', a9'⟩ := S2h.out.ka.cel
    clear hx2
    go_wp2_with fail
    clear a1' a2' a3' a4' a5' a6' a7' a8' a9' S1h
    refine (H2.out _ S2h.out).mono ?_
    rintro e w3 ⟨rfl, hx3⟩
    have hy3 : Ext w2 (w3.alloc (.cells #[.int .i64 N, .int .i64 D] 50)) := hx3.alloc _
    have S3h := Lib.hid (S2h.out.ext hy3)
    have B3 := Lib.hid (Blk.new w3 #[.int .i64 N, .int .i64 D] 50)
    have zz3 := hx3.size
    obtain ⟨a1', a2', a3', a4', a5', a6', a7', a8', a9'⟩ := S3h.out.ka.cel
    have e01 := B3.out.lt
    have e02 := B3.out.cell 0
    have e03 := B3.out.cell 1
    clear hx3
    go_wp2_with fail
    generalize hX : w3.alloc (.cells #[.int .i64 N, .int .i64 D] 50) = X3 at S3h B3 hy3 ⊢
    clear hX hy3 zz3 a1' a2' a3' a4' a5' a6' a7' a8' a9' e01 e02 e03 S2h
    refine (H3.out _ S3h.out).mono ?_
    rintro e w4 ⟨rfl, hx4⟩
    have S4h := Lib.hid (S3h.out.ext hx4)
    have B3' := Lib.hid (B3.out.ext hx4)
    obtain ⟨a1', a2', a3', a4', a5', a6', a7', a8', a9'⟩ := S4h.out.ka.cel
    have e01 := B3'.out.lt
    have e02 := B3'.out.cell 0
    have e03 := B3'.out.cell 1
    clear hx4
    go_wp2_with fail
    clear a1' a2' a3' a4' a5' a6' a7' a8' a9' e01 e02 e03 B3 S3h
    refine (H4.out _ S4h.out).mono ?_
    rintro e w5 ⟨m2, mc2, r2, rc2, rfl, hx5, om2, or2⟩
    have hy5 : Ext w4 (w5.alloc (.cells #[.string nm, .slice m2 M.length mc2, .slice r2 R.length rc2, .int .i64 wk] 27)) := hx5.alloc _
    have S5h := Lib.hid (S4h.out.ext hy5)
    have B3'' := Lib.hid (B3'.out.ext hy5)
    have B5 := Lib.hid (Blk.new w5 #[.string nm, .slice m2 M.length mc2, .slice r2 R.length rc2, .int .i64 wk] 27)
    have zz5 := hx5.size
    have V5 := calV_of HOK.out (own_ext om2 ((Ext.refl w5).alloc (.cells #[.string nm, .slice m2 M.length mc2, .slice r2 R.length rc2, .int .i64 wk] 27))) (own_ext or2 ((Ext.refl w5).alloc (.cells #[.string nm, .slice m2 M.length mc2, .slice r2 R.length rc2, .int .i64 wk] 27)))
    clear om2 or2
    obtain ⟨a1', a2', a3', a4', a5', a6', a7', a8', a9'⟩ := S5h.out.ka.cel
    have e01 := B3''.out.lt
    have e02 := B3''.out.cell 0
    have e03 := B3''.out.cell 1
    obtain ⟨e11, e12, e13, e14, e15, e16, e17, e18, e19⟩ := B5.out.cel
    clear hx5
    go_wp2_with fail
    generalize hX : w5.alloc (.cells #[.string nm, .slice m2 M.length mc2, .slice r2 R.length rc2, .int .i64 wk] 27) = X5 at S5h B3'' B5 hy5 V5 ⊢
    clear hX hy5 zz5 a1' a2' a3' a4' a5' a6' a7' a8' a9' e01 e02 e03 e11 e12 e13 e14 e15 e16 e17 e18 e19 B3' S4h
    refine (H5.out _ S5h.out m2 r2 mc2 rc2 V5).mono ?_
    rintro e w6 ⟨rfl, hx6⟩
    have S6h := Lib.hid (S5h.out.ext hx6)
    have B3''' := Lib.hid (B3''.out.ext hx6)
    have B5' := Lib.hid (B5.out.ext hx6)
    obtain ⟨a1', a2', a3', a4', a5', a6', a7', a8', a9'⟩ := S6h.out.ka.cel
    have e01 := B3'''.out.lt
    have e02 := B3'''.out.cell 0
    have e03 := B3'''.out.cell 1
    obtain ⟨e11, e12, e13, e14, e15, e16, e17, e18, e19⟩ := B5'.out.cel
    clear hx6
    go_wp2_with fail
    clear a1' a2' a3' a4' a5' a6' a7' a8' a9' e01 e02 e03 e11 e12 e13 e14 e15 e16 e17 e18 e19 B3'' B5 S5h
    clear V5
    refine (H6.out _).mono ?_
    rintro e w7 ⟨rfl, hx7⟩
    have S7h := Lib.hid (S6h.out.ext hx7)
    have B3'''' := Lib.hid (B3'''.out.ext hx7)
    have B5'' := Lib.hid (B5'.out.ext hx7)
    obtain ⟨a1', a2', a3', a4', a5', a6', a7', a8', a9'⟩ := S7h.out.ka.cel
    have e01 := B3''''.out.lt
    have e02 := B3''''.out.cell 0
    have e03 := B3''''.out.cell 1
    obtain ⟨e11, e12, e13, e14, e15, e16, e17, e18, e19⟩ := B5''.out.cel
    clear hx7
    go_wp2_with fail
    clear a1' a2' a3' a4' a5' a6' a7' a8' a9' e01 e02 e03 e11 e12 e13 e14 e15 e16 e17 e18 e19 B3''' B5' S6h
    refine (a2At_c a2 n2 c2 f2 _ (HS2.out.ext S7h.out.e) HL2.out).mono ?_
    rintro e w8 ⟨q, rfl, q0, q1, rfl⟩
    have hy0 : inB (30 * q) 0 9999 = true := inB_t.2 (by omega)
    have hlp1 := HLP.out (30 * q) (by omega) (by omega)
    obtain ⟨y, hy⟩ : ∃ y, y = 30 * q := ⟨_, rfl⟩
    have xw : wrap64 (30 * q) = y := by rw [hy]; exact IntWalk.wrap64_in _ (by omega)
    have xv : IntKind.i64.wrap (30 * q) = y := by rw [hy]; exact IntWalk.i64_in _ (by omega)
    have y0 : 0 ≤ y := by omega
    have y1 : y ≤ 5970 := by omega
    rw [← hy] at hy0
    obtain ⟨z, hz⟩ : ∃ z, z = y + C := ⟨_, rfl⟩
    have zw : wrap64 (y + C) = z := by rw [hz]; exact IntWalk.wrap64_in _ (by omega)
    have zv : IntKind.i64.wrap (y + C) = z := by rw [hz]; exact IntWalk.i64_in _ (by omega)
    obtain ⟨Lp, hLp⟩ : ∃ l, l = (calOf M R).leap y := ⟨_, rfl⟩
    have hlpy : leapR nm (nmOf M) (calOf M R) wk y = Lp := by rw [(HLP.out y y0 (by omega)).1, hLp]
    have hlpz : leapR nm (nmOf M) (calOf M R) wk z = Lp := by rw [(HLP.out z (by omega) (by omega)).1, hz, HLA.out, hLp]
    have I1 := Lib.hid (fun (W : World) (S : CS w W w1.heap.size nm wk M R m1 mc r1 rc) => (show Calls Tryz.prog 25 #[.agg #[.string nm, .slice m1 M.length mc, .slice r1 R.length rc, .int .i64 wk], .int .i64 y] W (fun e w' => e = .returned (.bool Lp) ∧ Ext W w') from by have h := implIsLeapYear_c wk y S.v; rw [hlpy] at h; exact h))
    have I2 := Lib.hid (fun (W : World) (S : CS w W w1.heap.size nm wk M R m1 mc r1 rc) => (show Calls Tryz.prog 25 #[.agg #[.string nm, .slice m1 M.length mc, .slice r1 R.length rc, .int .i64 wk], .int .i64 z] W (fun e w' => e = .returned (.bool Lp) ∧ Ext W w') from by have h := implIsLeapYear_c wk z S.v; rw [hlpz] at h; exact h))
    have I3 := Lib.hid (fun (W : World) (S : CS w W w1.heap.size nm wk M R m1 mc r1 rc) (j : Nat) (hj : j < M.length) => (show Calls Tryz.prog 26 #[.agg #[.string nm, .slice m1 M.length mc, .slice r1 R.length rc, .int .i64 wk], .int .i64 y, .int .i64 ((j : Int) + 1)] W (fun e w' => e = .returned (.tuple #[.int .i64 ((calOf M R).mo y j), .int .i64 0]) ∧ Ext W w') from by have h := implDaysInMonth_c wk y ((j : Int) + 1) S.v; rw [(ym_yes HOK.out hy0 hj).1, (ym_yes HOK.out hy0 hj).2] at h; exact h))
    obtain ⟨Q, hQ⟩ : ∃ q, q = (calOf M R).yl y := ⟨_, rfl⟩
    have I4 := Lib.hid (fun (W : World) (S : CS w W w1.heap.size nm wk M R m1 mc r1 rc) => (show Calls Tryz.prog 27 #[.agg #[.string nm, .slice m1 M.length mc, .slice r1 R.length rc, .int .i64 wk], .int .i64 y] W (fun e w' => e = .returned (.tuple #[.int .i64 Q, .int .i64 0]) ∧ Ext W w') from by have h := implDaysInYear_c wk y S.v; rw [(yr_yes HOK.out hy0).1, (yr_yes HOK.out hy0).2, ← hQ] at h; exact h))
    have HMB := Lib.hid (fun (j : Nat) (hj : j < M.length) => (calB_b HOK.out).mo y (show j < (calOf M R).n from hj))
    have HSB := Lib.hid (fun (j : Nat) (hj : j ≤ M.length) => sm_bd (f := (calOf M R).mo y) (A := 1) (B := 60) (k := j) (fun i hi => (calB_b HOK.out).mo y (show i < (calOf M R).n from Nat.lt_of_lt_of_le hi hj)))
    have HQ := Lib.hid (show sm ((calOf M R).mo y) M.length = Q from hQ.symm)
    clear hlp1 hlpy hlpz hLp hQ hy0 hy hz HLP HLA
    have n20' : M.length ≤ 20 := n20
    cases Lp
    all_goals
      obtain ⟨a1', a2', a3', a4', a5', a6', a7', a8', a9'⟩ := S7h.out.ka.cel
      go_wp2_with fail
      refine wp_region_past (by kernel_rfl) (by kernel_rfl) ?_
      repeat (go_big_quiet_step (first | (go_at_call 25; with_reducible exact Calls.past (I1.out _ (S7h.out.ext (by repeat (first | with_reducible exact Ext.refl _ | with_reducible assumption | with_reducible refine Ext.alloc ?_ _ | with_reducible refine Ext.drew ?_ | (with_reducible refine Ext.setAt ?_ _ _ _ ?_; rotate_left; omega) | with_reducible refine Ext.trans ?_ (by assumption) | with_reducible exact Past.bel _ | with_reducible refine Ext.trans ?_ (Past.bel _)))))) | (go_at_call 25; with_reducible exact Calls.past (I2.out _ (S7h.out.ext (by repeat (first | with_reducible exact Ext.refl _ | with_reducible assumption | with_reducible refine Ext.alloc ?_ _ | with_reducible refine Ext.drew ?_ | (with_reducible refine Ext.setAt ?_ _ _ _ ?_; rotate_left; omega) | with_reducible refine Ext.trans ?_ (by assumption) | with_reducible exact Past.bel _ | with_reducible refine Ext.trans ?_ (Past.bel _))))))))
      refine wpQuiet_nil ?_
      rintro _ ⟨wx, rfl⟩
      have S9 := Lib.hid (S7h.out.ext (Past.bel wx))
      clear a1' a2' a3' a4' a5' a6' a7' a8' a9'
      generalize wx.out = X9 at S9 ⊢
      go_wp2_with fail
      go_loopw [15, 16] (fun v15 v16 wr => ∃ j : Nat, j ≤ M.length ∧ v15 = .int .i64 (sm ((calOf M R).mo y) j) ∧ v16 = .int .i64 ((j : Int) + 1) ∧ CS w wr w1.heap.size nm wk M R m1 mc r1 rc) (fun _ v16 _ => M.length + 1 - (intOf v16).toNat)
      case atStart => exact ⟨0, Nat.zero_le _, rfl, rfl, S9.out⟩
      case round =>
        obtain ⟨j, hj, rfl, rfl, sj⟩ := hrel
        have SJ := Lib.hid sj
        clear sj
        obtain ⟨a1', a2', a3', a4', a5', a6', a7', a8', a9'⟩ := SJ.out.ka.cel
        by_cases hlt : j < M.length
        · have x1 : (j : Int) + 1 ≤ (M.length : Int) := by omega
          have b1 := HMB.out j hlt
          have b2 := HSB.out j hj
          have b3 : sm ((calOf M R).mo y) (j + 1) = sm ((calOf M R).mo y) j + (calOf M R).mo y j := rfl
          obtain ⟨U, hU⟩ : ∃ u, u = sm ((calOf M R).mo y) j := ⟨_, rfl⟩
          obtain ⟨V, hV⟩ : ∃ u, u = (calOf M R).mo y j := ⟨_, rfl⟩
          have I3j := Lib.hid (hV ▸ I3.out _ SJ.out j hlt)
          rw [← hU] at b2 b3 ⊢
          rw [← hV] at b1 b3
          have HUV := Lib.hid b3
          clear b3 hU hV
          go_wp2_with fail
          refine (I3j.out).mono ?_
          rintro e w10 ⟨rfl, hx10⟩
          have S10 := Lib.hid (SJ.out.ext hx10)
          clear a1' a2' a3' a4' a5' a6' a7' a8' a9'
          have xu : wrap64 (U + V) = U + V := IntWalk.wrap64_in _ (by omega)
          go_wp2_with fail
          exact ⟨⟨j + 1, hlt, by rw [HUV.out], by go_num, S10.out⟩, by simp [intOf]; omega⟩
        · obtain rfl : j = M.length := by omega
          have x1 : ¬ (M.length : Int) + 1 ≤ (M.length : Int) := by omega
          have HQ' := HQ.out
          go_wp2_with fail
          refine (I4.out _ SJ.out).mono ?_
          rintro e w10 ⟨rfl, hx10⟩
          go_wp2_with fail
          go_ret
          exact ⟨rfl, (SJ.out.ext hx10).e⟩
  · have HL := Lib.hid (fun (W : World) => (hlong ▸ a2Long_c a1 a2 n1 c1 n2 c2 W : Calls Tryz.prog 5 #[.slice a1 n1 c1, .slice a2 n2 c2] W fun e w' => e = .returned (.bool true) ∧ W = w'))
    clear hlong
    go_enter Tryz.func4, Tryz.ntmps4
    go_wp2_with (go_at_call 5; ((with_reducible refine (HL.out _).mono ?_); rintro e w' ⟨rfl, rfl⟩))
    go_ret
    exact ⟨rfl, (by repeat (first | with_reducible exact Ext.refl _ | with_reducible assumption | with_reducible refine Ext.alloc ?_ _ | with_reducible refine Ext.drew ?_ | (with_reducible refine Ext.setAt ?_ _ _ _ ?_; rotate_left; omega) | with_reducible refine Ext.trans ?_ (by assumption) | with_reducible exact Past.bel _ | with_reducible refine Ext.trans ?_ (Past.bel _)))⟩
end Go.Proofs.YtpohhnihgegmfaaGreatDoor

namespace Go.Proofs.YtpohhnihgegmfaaGreatDoor
open Go.ChangeShapes Go.WideShapes Go.RowKit Go.Deep
set_option linter.unusedVariables false
section
variable {H : Type} {enc : TypeId × Value → H} {P : Program} {w : World} {base : Nat} {spare : Nat → Bool} {held : Bool}
theorem down_u8s {t e : TypeId} {fuel : Nat} {v : Value} {x : DataW H × List MemPlace} (ht : P.underlying t = some (.slice e)) (he : P.underlying e = some (.int .u8)) (hC : P.cellsOf e = 1)
    (hf : DataW.trod enc P w base spare held fuel t [v] = some x) :
    ∃ (a : Option Addr) (n cap : Nat) (f : Nat → Nat), v = .slice a n cap ∧ n ≤ cap ∧ cap ≤ maxLen ∧ U8 w a n f ∧ ∀ j, j < n → f j ≤ 255 := by
  rcases open_slice ht hf with ⟨hcs, _⟩ | ⟨a', len', cap', m, n', D, Pl, hcs, hb, hl, hm, hmm, hx, hcell⟩
  · simp at hcs
    subst hcs
    exact ⟨none, 0, 0, fun _ => 0, rfl, Nat.le_refl _, Nat.zero_le _, (fun h => absurd h (Nat.lt_irrefl 0)), fun j hj => absurd hj (Nat.not_lt_zero j)⟩
  · simp at hcs
    subst hcs
    have hlm : len' ≤ m := by rw [hmm]; split <;> omega
    have hel : ∀ i, i < len' → ∃ z : Nat, w.cell? (a'.add i) = some (.int .u8 (z : Int)) ∧ z ≤ 255 := fun i hi' => by
      obtain ⟨cs', hc, ht'⟩ := hcell i (by omega)
      rw [hC] at hc
      obtain ⟨_, hcl, hat⟩ := World.cells?_some hc
      obtain ⟨z, hz, _, hw⟩ := DataW.trod_int he ht'
      subst hz
      have hw' : 0 ≤ z ∧ z ≤ 255 := by simpa [Lit.wf, IntKind.min, IntKind.max, IntKind.signed, IntKind.bits] using hw
      have := hat 0 (by omega)
      obtain ⟨k, rfl⟩ := Int.eq_ofNat_of_zero_le hw'.1
      refine ⟨k, ?_, by omega⟩
      have e1 : a'.add i = (a'.add (i * 1)).add 0 := by rw [Go.Deep.add_add]; simp
      rw [e1, this]; rfl
    obtain ⟨z, hz⟩ := choose_lt hel
    refine ⟨some a', len', cap', z, rfl, hl, hm, fun hn => ?_, fun j hj => (hz j hj).2⟩
    obtain ⟨b, off, spot⟩ := a'
    have h0 := (hz 0 hn).1
    have hspot : spot = none := by simpa [Addr.add] using World.cell?_spot h0
    subst hspot
    refine ⟨b, off, rfl, World.block_lt_of_cell? w ⟨b, off, none⟩ (by simpa [Addr.add] using h0), fun i hi' => ?_⟩
    have h1 := (hz i hi').1
    rw [Addr.add_lit] at h1
    exact h1
theorem arg_u8s {r : Reach} {b0 : Nat} {t e : TypeId} {v : Value} {d : DataW H} {p : List MemPlace} (ht : P.underlying t = some (.slice e)) (he : P.underlying e = some (.int .u8)) (hC : P.cellsOf e = 1)
    (hv : Value.okWide P w r b0 t v) (h : DataW.Trod enc P w base spare held t v d p) :
    ∃ (a : Option Addr) (n cap : Nat) (f : Nat → Nat), v = .slice a n cap ∧ n ≤ cap ∧ cap ≤ maxLen ∧ U8 w a n f ∧ ∀ j, j < n → f j ≤ 255 := by
  obtain ⟨a, n, cap, rfl⟩ := okWide_slice ht hv
  obtain ⟨fuel, hf⟩ := h
  exact down_u8s ht he hC (fuel := fuel) (by simpa [Value.cells] using hf)
end
end Go.Proofs.YtpohhnihgegmfaaGreatDoor

namespace Go.Proofs.YtpohhnihgegmfaaGreatDoor
open Go.ChangeShapes Go.WideShapes Go.ChangeAt Go.WideMaps Go.WideElems Go.RowKit
set_option linter.unusedVariables false

def laid7 : List (String × DataW Unit) := [("math/bits.deBruijn32tab", Rows.laid_math_bits_deBruijn32tab), ("math/bits.deBruijn64tab", Rows.laid_math_bits_deBruijn64tab), ("internal/strconv.uint64pow10", Rows.laid_internal_strconv_uint64pow10), ("unicode/utf8.acceptRanges", Rows.laid_unicode_utf8_acceptRanges), ("strconv.ErrRange", Rows.laid_strconv_ErrRange), ("strconv.ErrSyntax", Rows.laid_strconv_ErrSyntax), ("unicode/utf8.first", Rows.laid_unicode_utf8_first)]
theorem open_str {P : Program} {H : Type} {enc : TypeId × Value → H} {w : World} {base : Nat} {spare : Nat → Bool} {held : Bool} {r : Reach} {b0 : Nat} {t : TypeId} {v : Value} {d : DataW H} {p : List MemPlace} (ht : P.underlying t = some .string) (hv : Value.okWide P w r b0 t v) (h : DataW.Trod enc P w base spare held t v d p) :
    ∃ s : ByteArray, v = .string s ∧ s.size ≤ maxLen := by
  obtain ⟨s0, rfl⟩ := okWide_string ht hv
  obtain ⟨fuel, hf⟩ := h
  obtain ⟨s, hs, _, hz⟩ := DataW.trod_string ht hf
  obtain rfl : s0 = s := by simpa [Value.cells] using hs
  exact ⟨s0, rfl, hz⟩
theorem iface_read {P : Program} {w : World} {sp : Nat → Bool} {fuel : Nat} {t : TypeId} {ms : Array (String × TypeId)} {cs : List Value} {name : String} {d : DataW Unit} {p : List MemPlace}
    (ht : P.underlying t = some (.interface ms)) (h : DataW.trod (fun _ => ()) P w 0 sp false fuel t cs = some (.iface name d, p)) : ∃ u v, cs = [.iface u v] := by
  cases fuel with
  | zero => simp [DataW.trod] at h
  | succ n =>
    unfold DataW.trod at h
    rw [ht] at h
    split at h <;> simp_all
theorem cell_lt {w : World} {b o : Nat} {v : Value} (h : w.cell? ⟨b, o, none⟩ = some v) : b < w.heap.size := by
  rcases Nat.lt_or_ge b w.heap.size with h' | h'
  · exact h'
  · simp [World.cell?, Array.getElem?_eq_none h'] at h
theorem gl_of {W : World} (h : laidMetH Tryz.prog laid7 W) (hs : W.ShapedOpen Tryz.prog) : Gl W := by
  rw [MakeChecks.laidMetH_plain _ _ _ (by kernel_rfl)] at h
  obtain ⟨m, hm⟩ : ∃ m, W.cell? ⟨0, 0, none⟩ = some (.int .i64 m) := cell_of_shapedOpen_int (zero := #[.int .i64 0]) (t := 3) hs (of_decide_eq_true (by kernel_rfl)) (by kernel_rfl) rfl (by kernel_rfl) (by kernel_rfl) Tryz.underlying3
  obtain ⟨ps, ⟨g0, t0, cs0, f0, p0, q0, hg0, ht0, hv0, hd0, ⟨g1, t1, cs1, f1, p1, q1, hg1, ht1, hv1, hd1, ⟨g2, t2, cs2, f2, p2, q2, hg2, ht2, hv2, hd2, ⟨g3, t3, cs3, f3, p3, q3, hg3, ht3, hv3, hd3, ⟨g4, t4, cs4, f4, p4, q4, hg4, ht4, hv4, hd4, ⟨g5, t5, cs5, f5, p5, q5, hg5, ht5, hv5, hd5, _⟩, _⟩, _⟩, _⟩, _⟩, _⟩, _, _⟩ := h
  refine ⟨?_, ⟨m, fun w' x => (x.cell (cell_lt hm)).trans hm⟩, ?_, ?_⟩
  · have k1 : Tryz.prog.globalNamed "internal/strconv.uint64pow10" = some 3 := by kernel_rfl
    have k2 : (Tryz.prog.globals[3]?).map (·.type) = some 169 := by kernel_rfl
    obtain rfl := Option.some.inj (k1.symm.trans hg2)
    obtain rfl := Option.some.inj (k2.symm.trans ht2)
    refine Lib.tabBelow_of_tabIs ?_
    unfold Lib.TabIs
    rw [hv2, ← Lib.cells_of_tab (k := .u64) (zs := Lib.pow10Tab) (n := 20) Tryz.underlying169 Tryz.underlying105 (by kernel_rfl) (by kernel_rfl) hd2]
  · have k1 : Tryz.prog.globalNamed "strconv.ErrSyntax" = some 1 := by kernel_rfl
    have k2 : (Tryz.prog.globals[1]?).map (·.type) = some 95 := by kernel_rfl
    obtain rfl := Option.some.inj (k1.symm.trans hg5)
    obtain rfl := Option.some.inj (k2.symm.trans ht5)
    obtain ⟨u, v, e⟩ := iface_read Tryz.underlying95 hd5
    have hc : W.cell? ⟨1, 0, none⟩ = some (.iface u v) := by
      rw [World.var?_cell hg5 hv5 0, ← Array.getElem?_toList, e]; rfl
    exact ⟨_, Or.inr ⟨u, v, rfl⟩, fun w' x => (x.cell (cell_lt hc)).trans hc⟩
  · have k1 : Tryz.prog.globalNamed "strconv.ErrRange" = some 2 := by kernel_rfl
    have k2 : (Tryz.prog.globals[2]?).map (·.type) = some 95 := by kernel_rfl
    obtain rfl := Option.some.inj (k1.symm.trans hg4)
    obtain rfl := Option.some.inj (k2.symm.trans ht4)
    obtain ⟨u, v, e⟩ := iface_read Tryz.underlying95 hd4
    have hc : W.cell? ⟨2, 0, none⟩ = some (.iface u v) := by
      rw [World.var?_cell hg4 hv4 0, ← Array.getElem?_toList, e]; rfl
    exact ⟨_, Or.inr ⟨u, v, rfl⟩, fun w' x => (x.cell (cell_lt hc)).trans hc⟩
theorem laid7_met (os : Os) (args : Array Value) : laidMetH Tryz.prog laid7 ((World.laidAll Tryz.prog os laid7).forCall (fun _ _ => 0) ⟨#[], args, []⟩).memory := by
  rw [MakeChecks.laidMetH_plain _ _ _ (by kernel_rfl)]
  exact laidMet_laidAll _ (by kernel_rfl) (by kernel_rfl)
/-- a row whose listed variables are laid, the world's shape handed on -/
theorem row_shaped {H : Type} {enc : TypeId × Value → H} {a : Assume} {C : Checked} {os : Os} {f : FuncId} {fn : Func} {s : ChangeSpec} {conds : List PathCond} {apart fresh handsOn again : Bool} {X : World → Prop}
    (hX : ∀ (w w' : World), w.heap = w'.heap → X w → X w')
    (own : ownKnob C.prog.godebug = none) (started : os.Started) (noInit : C.prog.inits.idxOf? f = none) (hfn : C.prog.funcs[f]? = some fn)
    (witness : ∃ (w : World) (tape : Tape) (i : Input), w.os = os ∧ (w.forCall tape i).Shaped C.prog ∧ i.vars = [] ∧ Input.okWide C.prog (w.forCall tape i) .any w.heap.size f i ∧
      ((s.pre enc C.prog fn conds apart (w.forCall tape i).memory i.args ∧ X (w.forCall tape i).memory) ∧ sizedMet enc C.prog fn (OpenSpec.ofChange s) apart (w.forCall tape i).memory i.args) ∧ a.holds C.prog (lone (Frame.enter C.prog f i.args .normal) [] (w.forCall tape i)))
    (contract : ∀ (W : World) (base : Nat) (args : Array Value) (ds gs : List (DataW H)) (before : List MemPlace),
      (∀ (j : Nat) t v, fn.params[j]? = some t → args[j]? = some v → Value.okWide C.prog W .any base t v) →
      DataW.Whole enc C.prog fn.params.toList s.vars apart W args.toList ds gs before → X W → W.ShapedOpen C.prog →
      Calls C.prog f args W fun e W' => ∃ v, e = .returned v ∧ s.post enc C.prog fn apart fresh handsOn again W args v W') :
    ReturnsInHanded a C os f .any (fun w args => (s.pre enc C.prog fn conds apart w args ∧ X w) ∧ sizedMet enc C.prog fn (OpenSpec.ofChange s) apart w args) (s.post enc C.prog fn apart fresh handsOn again) := by
  refine returnsInHanded_of_calls own started noInit witness ?_
  rintro w tape i - hsh - ⟨_, _, _, fn', hfn', _, _, _, _, hval⟩ ⟨⟨⟨ds, gs, before, hw, _⟩, hx⟩, _⟩ _
  obtain rfl : fn' = fn := Option.some.inj (hfn'.symm.trans hfn)
  refine (contract (w.forCall tape i) w.heap.size i.args ds gs before hval (DataW.Whole.of_heap (w' := w.forCall tape i) (by rfl) hw) (hX _ _ (by rfl) hx) hsh).mono ?_
  rintro e W' ⟨v, rfl, hp⟩
  exact ChangeSpec.post_blind hp
theorem laid7_shaped (os : Os) (args : Array Value) : ((World.laidAll Tryz.prog os laid7).forCall (fun _ _ => 0) ⟨#[], args, []⟩).Shaped Tryz.prog :=
  World.shaped_of_ZipB (by kernel_rfl) (by kernel_rfl)
end Go.Proofs.YtpohhnihgegmfaaGreatDoor
