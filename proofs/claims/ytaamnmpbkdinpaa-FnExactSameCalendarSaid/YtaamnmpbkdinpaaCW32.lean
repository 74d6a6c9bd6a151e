/- Calendars compared. -/
import Derived.Test.YtaamnmpbkdinpaaCW31
namespace Go.Proofs.Ytaamnmpbkdinpaa
open Go.RowKit
set_option linter.unusedVariables false
set_option linter.unusedSimpArgs false

section
variable {s1 s2 : ByteArray} {m1 r1 m2 r2 : Option Addr} {mc1 rc1 mc2 rc2 : Nat} {k1 k2 : Int} {n1 n2 : Nat → ByteArray} {x1 x2 : CalN} {w : World}
set_option maxHeartbeats 2000000 in
theorem implSame_c (k1 k2 : Int) (h1 : CalV w s1 m1 r1 mc1 rc1 n1 x1) (h2 : CalV w s2 m2 r2 mc2 rc2 n2 x2) :
    Calls Try.prog 12 #[.agg #[.string s1, .slice m1 x1.n mc1, .slice r1 x1.nr rc1, .int .i64 k1], .agg #[.string s2, .slice m2 x2.n mc2, .slice r2 x2.nr rc2, .int .i64 k2]] w fun e w' => e = .returned (.bool (sameB s1 n1 x1 k1 s2 n2 x2 k2)) ∧ Ext w w' := by
  have H1 := Lib.hid h1
  have H2 := Lib.hid h2
  clear h1 h2
  by_cases a : s1 = s2
  · have a' := bs_eq a
    have HA := Lib.hid a
    by_cases b : k1 = k2
    · have b' := beqI_t b
      have HB := Lib.hid b
      cases c : moS n1 x1 n2 x2
      · have HC := Lib.hid c
        clear a b
        go_enter Try.func12, Try.ntmps12
        go_wp2_with (go_at_call 30; ((with_reducible refine (equalM_c _ _ _ _ n1 n2 x1 x2 _ H1.out.nb H2.out.nb (H1.out.mem.mo.ext (by repeat (first | with_reducible exact Ext.refl _ | with_reducible assumption | with_reducible refine Ext.alloc ?_ _ | with_reducible refine Ext.drew ?_ | (with_reducible refine Ext.setAt ?_ _ _ _ ?_; rotate_left; omega) | with_reducible refine Ext.trans ?_ (by assumption) | with_reducible exact Past.bel _ | with_reducible refine Ext.trans ?_ (Past.bel _)))) (H2.out.mem.mo.ext (by repeat (first | with_reducible exact Ext.refl _ | with_reducible assumption | with_reducible refine Ext.alloc ?_ _ | with_reducible refine Ext.drew ?_ | (with_reducible refine Ext.setAt ?_ _ _ _ ?_; rotate_left; omega) | with_reducible refine Ext.trans ?_ (by assumption) | with_reducible exact Past.bel _ | with_reducible refine Ext.trans ?_ (Past.bel _))))).mono ?_); rintro e w' ⟨rfl, hx⟩; (first | (obtain ⟨wx, rfl⟩ := Past.again hx) | (obtain ⟨wx, rfl⟩ := Past.ofd hx) | (obtain ⟨wx, rfl⟩ := Past.of hx))))
        go_ret
        exact ⟨ret_bool (by simp [sameB, HC.out]), (by repeat (first | with_reducible exact Ext.refl _ | with_reducible assumption | with_reducible refine Ext.alloc ?_ _ | with_reducible refine Ext.drew ?_ | (with_reducible refine Ext.setAt ?_ _ _ _ ?_; rotate_left; omega) | with_reducible refine Ext.trans ?_ (by assumption) | with_reducible exact Past.bel _ | with_reducible refine Ext.trans ?_ (Past.bel _)))⟩
      · have HC := Lib.hid c
        clear a b
        go_enter Try.func12, Try.ntmps12
        go_wp2_with (first | (go_at_call 30; ((with_reducible refine (equalM_c _ _ _ _ n1 n2 x1 x2 _ H1.out.nb H2.out.nb (H1.out.mem.mo.ext (by repeat (first | with_reducible exact Ext.refl _ | with_reducible assumption | with_reducible refine Ext.alloc ?_ _ | with_reducible refine Ext.drew ?_ | (with_reducible refine Ext.setAt ?_ _ _ _ ?_; rotate_left; omega) | with_reducible refine Ext.trans ?_ (by assumption) | with_reducible exact Past.bel _ | with_reducible refine Ext.trans ?_ (Past.bel _)))) (H2.out.mem.mo.ext (by repeat (first | with_reducible exact Ext.refl _ | with_reducible assumption | with_reducible refine Ext.alloc ?_ _ | with_reducible refine Ext.drew ?_ | (with_reducible refine Ext.setAt ?_ _ _ _ ?_; rotate_left; omega) | with_reducible refine Ext.trans ?_ (by assumption) | with_reducible exact Past.bel _ | with_reducible refine Ext.trans ?_ (Past.bel _))))).mono ?_); rintro e w' ⟨rfl, hx⟩; (first | (obtain ⟨wx, rfl⟩ := Past.again hx) | (obtain ⟨wx, rfl⟩ := Past.ofd hx) | (obtain ⟨wx, rfl⟩ := Past.of hx)))) | (go_at_call 31; ((with_reducible refine (equalR_c _ _ _ _ x1 x2 _ H1.out.rb H2.out.rb (H1.out.mem.ru.ext (by repeat (first | with_reducible exact Ext.refl _ | with_reducible assumption | with_reducible refine Ext.alloc ?_ _ | with_reducible refine Ext.drew ?_ | (with_reducible refine Ext.setAt ?_ _ _ _ ?_; rotate_left; omega) | with_reducible refine Ext.trans ?_ (by assumption) | with_reducible exact Past.bel _ | with_reducible refine Ext.trans ?_ (Past.bel _)))) (H2.out.mem.ru.ext (by repeat (first | with_reducible exact Ext.refl _ | with_reducible assumption | with_reducible refine Ext.alloc ?_ _ | with_reducible refine Ext.drew ?_ | (with_reducible refine Ext.setAt ?_ _ _ _ ?_; rotate_left; omega) | with_reducible refine Ext.trans ?_ (by assumption) | with_reducible exact Past.bel _ | with_reducible refine Ext.trans ?_ (Past.bel _))))).mono ?_); rintro e w' ⟨rfl, hx⟩; (first | (obtain ⟨wx, rfl⟩ := Past.again hx) | (obtain ⟨wx, rfl⟩ := Past.ofd hx) | (obtain ⟨wx, rfl⟩ := Past.of hx)))))
        go_ret
        exact ⟨ret_bool (by simp [sameB, HA.out, HB.out, HC.out]), (by repeat (first | with_reducible exact Ext.refl _ | with_reducible assumption | with_reducible refine Ext.alloc ?_ _ | with_reducible refine Ext.drew ?_ | (with_reducible refine Ext.setAt ?_ _ _ _ ?_; rotate_left; omega) | with_reducible refine Ext.trans ?_ (by assumption) | with_reducible exact Past.bel _ | with_reducible refine Ext.trans ?_ (Past.bel _)))⟩
    · have b' := beqI_f b
      have HB := Lib.hid b
      clear a b
      go_enter Try.func12, Try.ntmps12
      go_wp2_with fail
      go_ret
      exact ⟨ret_bool (by simp [sameB, HB.out]), (by repeat (first | with_reducible exact Ext.refl _ | with_reducible assumption | with_reducible refine Ext.alloc ?_ _ | with_reducible refine Ext.drew ?_ | (with_reducible refine Ext.setAt ?_ _ _ _ ?_; rotate_left; omega) | with_reducible refine Ext.trans ?_ (by assumption) | with_reducible exact Past.bel _ | with_reducible refine Ext.trans ?_ (Past.bel _)))⟩
  · have a' := bs_ne a
    have HA := Lib.hid a
    clear a
    go_enter Try.func12, Try.ntmps12
    go_wp2_with fail
    go_ret
    exact ⟨ret_bool (by simp [sameB, HA.out]), (by repeat (first | with_reducible exact Ext.refl _ | with_reducible assumption | with_reducible refine Ext.alloc ?_ _ | with_reducible refine Ext.drew ?_ | (with_reducible refine Ext.setAt ?_ _ _ _ ?_; rotate_left; omega) | with_reducible refine Ext.trans ?_ (by assumption) | with_reducible exact Past.bel _ | with_reducible refine Ext.trans ?_ (Past.bel _)))⟩
set_option maxHeartbeats 8000000 in
theorem l15Same_q {g1 g2 : Nat} (h1 : CalQ w g1 s1 m1 r1 mc1 rc1 k1 n1 x1) (h2 : CalQ w g2 s2 m2 r2 mc2 rc2 k2 n2 x2) :
    Calls Try.prog 27 #[.pointer (some ⟨g1, 0, none⟩), .pointer (some ⟨g2, 0, none⟩)] w fun e w' => e = .returned (.bool (sameB s1 n1 x1 k1 s2 n2 x2 k2)) ∧ Ext w w' := by
  have H1 := Lib.hid h1
  have H2 := Lib.hid h2
  have g0 := h1.p.lt
  have p0 := h1.p.c0
  have p1 := h1.p.c1
  have p2 := h1.p.c2
  have p3 := h1.p.c3
  have g1' := h2.p.lt
  have q0 := h2.p.c0
  have q1 := h2.p.c1
  have q2 := h2.p.c2
  have q3 := h2.p.c3
  have nb1 := h1.nb
  have nb2 := h2.nb
  have rb1 := h1.rb
  have rb2 := h2.rb
  clear h1 h2
  by_cases a : s1 = s2
  · have a' := bs_eq a
    have HA := Lib.hid a
    by_cases b : k1 = k2
    · have b' := bneI_f b
      have HB := Lib.hid b
      by_cases c : x1.n = x2.n
      · have c' := bneI_f (show (x1.n : Int) = (x2.n : Int) by omega)
        have HC := Lib.hid c
        by_cases d : x1.nr = x2.nr
        · have d' := bneI_f (show (x1.nr : Int) = (x2.nr : Int) by omega)
          have HD := Lib.hid d
          have l1 : x1.n ≤ x2.n := by omega
          have l2 : x2.n ≤ x1.n := by omega
          have l3 : x1.nr ≤ x2.nr := by omega
          have l4 : x2.nr ≤ x1.nr := by omega
          clear a b c d
          go_enter Try.func27, Try.ntmps27
          go_wp2_with fail
          refine wp_region_past (by kernel_rfl) (by kernel_rfl) ?_
          repeat (go_big_quiet_step (fail))
          refine wpQuiet_nil ?_
          rintro _ ⟨wx, rfl⟩
          go_wp2_with fail
          have HU0 := Lib.hid (show Ext w wx.out from Past.bel wx)
          go_loopw [5] (fun i wr => ∃ j : Nat, j ≤ x1.n ∧ i = .int .i64 j ∧ upTo (moE n1 x1 n2 x2) j = true ∧ Ext w wr) (fun i _ => x1.n - (intOf i).toNat)
          case atStart => exact ⟨0, by omega, rfl, rfl, (by repeat (first | with_reducible exact Ext.refl _ | with_reducible assumption | with_reducible refine Ext.alloc ?_ _ | with_reducible refine Ext.drew ?_ | (with_reducible refine Ext.setAt ?_ _ _ _ ?_; rotate_left; omega) | with_reducible refine Ext.trans ?_ (by assumption) | with_reducible exact Past.bel _ | with_reducible refine Ext.trans ?_ (Past.bel _)))⟩
          case round =>
            obtain ⟨j, hj, rfl, hu, hbl⟩ := hrel
            have HU := Lib.hid hu
            have K1 := H1.out.ext hbl
            have K2 := H2.out.ext hbl
            have g0 := K1.p.lt
            have p1 := K1.p.c1
            have g1' := K2.p.lt
            have q1 := K2.p.c1
            clear hu K1 K2 p0 p2 p3 q0 q2 q3
            by_cases hlt : j < x1.n
            · obtain ⟨b1, o1, e1, hb1, u1', u2', u3'⟩ := (S3.ext H1.out.p.mem.mo hbl).at hlt
              obtain ⟨b2, o2, e2, hb2, u4', u5', u6'⟩ := (S3.ext H2.out.p.mem.mo hbl).at (show j < x2.n by omega)
              have x2l : (j : Int) < (x2.n : Int) := by omega
              have x0l : (0 : Int) ≤ (j : Int) := by omega
              rw [e1] at p1
              rw [e2] at q1
              clear e1 e2
              cases he : moE n1 x1 n2 x2 j
              · have HE := Lib.hid he
                rcases moE_f he with a | ⟨a, b⟩ | ⟨a, b, d⟩
                · have a' := bs_ne a
                  clear a he
                  go_wp2_with fail
                  refine wp_region_past (by kernel_rfl) (by kernel_rfl) ?_
                  repeat (go_big_quiet_step (fail))
                  refine wpQuiet_nil ?_
                  rintro _ ⟨wx, rfl⟩
                  go_wp2_with fail
                  go_ret
                  exact ⟨ret_bool (by unfold sameB moS; rw [upTo_ff hlt HE.out]; simp), (by repeat (first | with_reducible exact Ext.refl _ | with_reducible assumption | with_reducible refine Ext.alloc ?_ _ | with_reducible refine Ext.drew ?_ | (with_reducible refine Ext.setAt ?_ _ _ _ ?_; rotate_left; omega) | with_reducible refine Ext.trans ?_ (by assumption) | with_reducible exact Past.bel _ | with_reducible refine Ext.trans ?_ (Past.bel _)))⟩
                · have a' := bs_eq a
                  have b' := beqI_f b
                  clear a b he
                  go_wp2_with fail
                  refine wp_region_past (by kernel_rfl) (by kernel_rfl) ?_
                  repeat (go_big_quiet_step (fail))
                  refine wpQuiet_nil ?_
                  rintro _ ⟨wx, rfl⟩
                  go_wp2_with fail
                  go_ret
                  exact ⟨ret_bool (by unfold sameB moS; rw [upTo_ff hlt HE.out]; simp), (by repeat (first | with_reducible exact Ext.refl _ | with_reducible assumption | with_reducible refine Ext.alloc ?_ _ | with_reducible refine Ext.drew ?_ | (with_reducible refine Ext.setAt ?_ _ _ _ ?_; rotate_left; omega) | with_reducible refine Ext.trans ?_ (by assumption) | with_reducible exact Past.bel _ | with_reducible refine Ext.trans ?_ (Past.bel _)))⟩
                · have a' := bs_eq a
                  have b' := beqI_t b
                  have d' := beqI_f d
                  clear a b d he
                  go_wp2_with fail
                  refine wp_region_past (by kernel_rfl) (by kernel_rfl) ?_
                  repeat (go_big_quiet_step (fail))
                  refine wpQuiet_nil ?_
                  rintro _ ⟨wx, rfl⟩
                  go_wp2_with fail
                  go_ret
                  exact ⟨ret_bool (by unfold sameB moS; rw [upTo_ff hlt HE.out]; simp), (by repeat (first | with_reducible exact Ext.refl _ | with_reducible assumption | with_reducible refine Ext.alloc ?_ _ | with_reducible refine Ext.drew ?_ | (with_reducible refine Ext.setAt ?_ _ _ _ ?_; rotate_left; omega) | with_reducible refine Ext.trans ?_ (by assumption) | with_reducible exact Past.bel _ | with_reducible refine Ext.trans ?_ (Past.bel _)))⟩
              · have HE := Lib.hid he
                obtain ⟨a, b, d⟩ := moE_t he
                have a' := bs_eq a
                have b' := beqI_t b
                have d' := beqI_t d
                clear a b d he
                go_wp2_with fail
                refine wp_region_past (by kernel_rfl) (by kernel_rfl) ?_
                repeat (go_big_quiet_step (fail))
                refine wpQuiet_nil ?_
                rintro _ ⟨wx, rfl⟩
                go_wp2_with fail
                exact ⟨⟨j + 1, by omega, by go_num, by simp only [upTo, HU.out, HE.out]; rfl, (by repeat (first | with_reducible exact Ext.refl _ | with_reducible assumption | with_reducible refine Ext.alloc ?_ _ | with_reducible refine Ext.drew ?_ | (with_reducible refine Ext.setAt ?_ _ _ _ ?_; rotate_left; omega) | with_reducible refine Ext.trans ?_ (by assumption) | with_reducible exact Past.bel _ | with_reducible refine Ext.trans ?_ (Past.bel _)))⟩, by simp [intOf]; omega⟩
            · have hjn : j = x1.n := by omega
              rw [hjn] at HU
              have HM := Lib.hid (show moS n1 x1 n2 x2 = true by unfold moS; rw [HU.out]; simp [HC.out])
              have x3 : (x1.n : Int) ≤ (j : Int) := by omega
              clear hjn
              go_wp2_with fail
              go_loopw [6] (fun i wr => ∃ j : Nat, j ≤ x1.nr ∧ i = .int .i64 j ∧ upTo (ruE x1 x2) j = true ∧ Ext w wr) (fun i _ => x1.nr - (intOf i).toNat)
              case atStart => exact ⟨0, by omega, rfl, rfl, (by repeat (first | with_reducible exact Ext.refl _ | with_reducible assumption | with_reducible refine Ext.alloc ?_ _ | with_reducible refine Ext.drew ?_ | (with_reducible refine Ext.setAt ?_ _ _ _ ?_; rotate_left; omega) | with_reducible refine Ext.trans ?_ (by assumption) | with_reducible exact Past.bel _ | with_reducible refine Ext.trans ?_ (Past.bel _)))⟩
              case round =>
                obtain ⟨j, hj, rfl, hu, hbl⟩ := hrel
                have HU := Lib.hid hu
                have K1 := H1.out.ext hbl
                have K2 := H2.out.ext hbl
                have g0 := K1.p.lt
                have p2 := K1.p.c2
                have g1' := K2.p.lt
                have q2 := K2.p.c2
                clear hu K1 K2 p1 q1
                by_cases hlt : j < x1.nr
                · obtain ⟨b1, o1, e1, hb1, u1', u2', u3'⟩ := (R3.ext H1.out.p.mem.ru hbl).at hlt
                  obtain ⟨b2, o2, e2, hb2, u4', u5', u6'⟩ := (R3.ext H2.out.p.mem.ru hbl).at (show j < x2.nr by omega)
                  have x2l : (j : Int) < (x2.nr : Int) := by omega
                  have x0l : (0 : Int) ≤ (j : Int) := by omega
                  rw [e1] at p2
                  rw [e2] at q2
                  clear e1 e2
                  cases he : ruE x1 x2 j
                  · have HE := Lib.hid he
                    rcases ruE_f he with a | ⟨a, b⟩ | ⟨a, b, d⟩
                    · have a' := beqI_f a
                      clear a he
                      go_wp2_with fail
                      refine wp_region_past (by kernel_rfl) (by kernel_rfl) ?_
                      repeat (go_big_quiet_step (fail))
                      refine wpQuiet_nil ?_
                      rintro _ ⟨wx, rfl⟩
                      go_wp2_with fail
                      go_ret
                      exact ⟨ret_bool (by unfold sameB ruS; rw [upTo_ff hlt HE.out]; simp), (by repeat (first | with_reducible exact Ext.refl _ | with_reducible assumption | with_reducible refine Ext.alloc ?_ _ | with_reducible refine Ext.drew ?_ | (with_reducible refine Ext.setAt ?_ _ _ _ ?_; rotate_left; omega) | with_reducible refine Ext.trans ?_ (by assumption) | with_reducible exact Past.bel _ | with_reducible refine Ext.trans ?_ (Past.bel _)))⟩
                    · have a' := beqI_t a
                      have b' := beqI_f b
                      clear a b he
                      go_wp2_with fail
                      refine wp_region_past (by kernel_rfl) (by kernel_rfl) ?_
                      repeat (go_big_quiet_step (fail))
                      refine wpQuiet_nil ?_
                      rintro _ ⟨wx, rfl⟩
                      go_wp2_with fail
                      go_ret
                      exact ⟨ret_bool (by unfold sameB ruS; rw [upTo_ff hlt HE.out]; simp), (by repeat (first | with_reducible exact Ext.refl _ | with_reducible assumption | with_reducible refine Ext.alloc ?_ _ | with_reducible refine Ext.drew ?_ | (with_reducible refine Ext.setAt ?_ _ _ _ ?_; rotate_left; omega) | with_reducible refine Ext.trans ?_ (by assumption) | with_reducible exact Past.bel _ | with_reducible refine Ext.trans ?_ (Past.bel _)))⟩
                    · have a' := beqI_t a
                      have b' := beqI_t b
                      have d' := beqB_f d
                      clear a b d he
                      go_wp2_with fail
                      refine wp_region_past (by kernel_rfl) (by kernel_rfl) ?_
                      repeat (go_big_quiet_step (fail))
                      refine wpQuiet_nil ?_
                      rintro _ ⟨wx, rfl⟩
                      go_wp2_with fail
                      go_ret
                      exact ⟨ret_bool (by unfold sameB ruS; rw [upTo_ff hlt HE.out]; simp), (by repeat (first | with_reducible exact Ext.refl _ | with_reducible assumption | with_reducible refine Ext.alloc ?_ _ | with_reducible refine Ext.drew ?_ | (with_reducible refine Ext.setAt ?_ _ _ _ ?_; rotate_left; omega) | with_reducible refine Ext.trans ?_ (by assumption) | with_reducible exact Past.bel _ | with_reducible refine Ext.trans ?_ (Past.bel _)))⟩
                  · have HE := Lib.hid he
                    obtain ⟨a, b, d⟩ := ruE_t he
                    have a' := beqI_t a
                    have b' := beqI_t b
                    have d' := beqB_t d
                    clear a b d he
                    go_wp2_with fail
                    refine wp_region_past (by kernel_rfl) (by kernel_rfl) ?_
                    repeat (go_big_quiet_step (fail))
                    refine wpQuiet_nil ?_
                    rintro _ ⟨wx, rfl⟩
                    go_wp2_with fail
                    exact ⟨⟨j + 1, by omega, by go_num, by simp only [upTo, HU.out, HE.out]; rfl, (by repeat (first | with_reducible exact Ext.refl _ | with_reducible assumption | with_reducible refine Ext.alloc ?_ _ | with_reducible refine Ext.drew ?_ | (with_reducible refine Ext.setAt ?_ _ _ _ ?_; rotate_left; omega) | with_reducible refine Ext.trans ?_ (by assumption) | with_reducible exact Past.bel _ | with_reducible refine Ext.trans ?_ (Past.bel _)))⟩, by simp [intOf]; omega⟩
                · have hjn : j = x1.nr := by omega
                  rw [hjn] at HU
                  have x3 : (x1.nr : Int) ≤ (j : Int) := by omega
                  clear hjn
                  go_wp2_with fail
                  go_ret
                  exact ⟨ret_bool (by unfold sameB ruS; rw [HU.out, HM.out]; simp [HA.out, HB.out, HD.out]), (by repeat (first | with_reducible exact Ext.refl _ | with_reducible assumption | with_reducible refine Ext.alloc ?_ _ | with_reducible refine Ext.drew ?_ | (with_reducible refine Ext.setAt ?_ _ _ _ ?_; rotate_left; omega) | with_reducible refine Ext.trans ?_ (by assumption) | with_reducible exact Past.bel _ | with_reducible refine Ext.trans ?_ (Past.bel _)))⟩
        · have d' := bneI_t (show ¬ (x1.nr : Int) = (x2.nr : Int) by omega)
          have HD := Lib.hid d
          clear a b c d
          go_enter Try.func27, Try.ntmps27
          go_wp2_with fail
          refine wp_region_past (by kernel_rfl) (by kernel_rfl) ?_
          repeat (go_big_quiet_step (fail))
          refine wpQuiet_nil ?_
          rintro _ ⟨wx, rfl⟩
          go_wp2_with fail
          go_ret
          exact ⟨ret_bool (by simp [sameB, ruS, HD.out]), (by repeat (first | with_reducible exact Ext.refl _ | with_reducible assumption | with_reducible refine Ext.alloc ?_ _ | with_reducible refine Ext.drew ?_ | (with_reducible refine Ext.setAt ?_ _ _ _ ?_; rotate_left; omega) | with_reducible refine Ext.trans ?_ (by assumption) | with_reducible exact Past.bel _ | with_reducible refine Ext.trans ?_ (Past.bel _)))⟩
      · have c' := bneI_t (show ¬ (x1.n : Int) = (x2.n : Int) by omega)
        have HC := Lib.hid c
        clear a b c
        go_enter Try.func27, Try.ntmps27
        go_wp2_with fail
        refine wp_region_past (by kernel_rfl) (by kernel_rfl) ?_
        repeat (go_big_quiet_step (fail))
        refine wpQuiet_nil ?_
        rintro _ ⟨wx, rfl⟩
        go_wp2_with fail
        go_ret
        exact ⟨ret_bool (by simp [sameB, moS, HC.out]), (by repeat (first | with_reducible exact Ext.refl _ | with_reducible assumption | with_reducible refine Ext.alloc ?_ _ | with_reducible refine Ext.drew ?_ | (with_reducible refine Ext.setAt ?_ _ _ _ ?_; rotate_left; omega) | with_reducible refine Ext.trans ?_ (by assumption) | with_reducible exact Past.bel _ | with_reducible refine Ext.trans ?_ (Past.bel _)))⟩
    · have b' := bneI_t b
      have HB := Lib.hid b
      clear a b
      go_enter Try.func27, Try.ntmps27
      go_wp2_with fail
      refine wp_region_past (by kernel_rfl) (by kernel_rfl) ?_
      repeat (go_big_quiet_step (fail))
      refine wpQuiet_nil ?_
      rintro _ ⟨wx, rfl⟩
      go_wp2_with fail
      go_ret
      exact ⟨ret_bool (by simp [sameB, HB.out]), (by repeat (first | with_reducible exact Ext.refl _ | with_reducible assumption | with_reducible refine Ext.alloc ?_ _ | with_reducible refine Ext.drew ?_ | (with_reducible refine Ext.setAt ?_ _ _ _ ?_; rotate_left; omega) | with_reducible refine Ext.trans ?_ (by assumption) | with_reducible exact Past.bel _ | with_reducible refine Ext.trans ?_ (Past.bel _)))⟩
  · have a' := bs_ne a
    have HA := Lib.hid a
    clear a
    go_enter Try.func27, Try.ntmps27
    go_wp2_with fail
    refine wp_region_past (by kernel_rfl) (by kernel_rfl) ?_
    repeat (go_big_quiet_step (fail))
    refine wpQuiet_nil ?_
    rintro _ ⟨wx, rfl⟩
    go_wp2_with fail
    go_ret
    exact ⟨ret_bool (by simp [sameB, HA.out]), (by repeat (first | with_reducible exact Ext.refl _ | with_reducible assumption | with_reducible refine Ext.alloc ?_ _ | with_reducible refine Ext.drew ?_ | (with_reducible refine Ext.setAt ?_ _ _ _ ?_; rotate_left; omega) | with_reducible refine Ext.trans ?_ (by assumption) | with_reducible exact Past.bel _ | with_reducible refine Ext.trans ?_ (Past.bel _)))⟩
end
end Go.Proofs.Ytaamnmpbkdinpaa
