/- Calendars compared: the program's lists. -/
import Derived.Test.YtaamnmpbkdinpaaCW30
import Derived.Test.YtaamnmpbkdinpaaCPlain11
import Derived.Laws.StructEq
namespace Go.Proofs.Ytaamnmpbkdinpaa
open Go.RowKit
set_option linter.unusedVariables false
set_option linter.unusedSimpArgs false

@[go_sem] theorem fM_fields : Try.prog.underlying 56 = some (.struct (Try.prog.fieldsOf 56)) := by kernel_rfl
@[go_sem] theorem fM_held : Try.prog.stoodInHeld 56 = false := by kernel_rfl
@[go_sem] theorem fM_guard : Try.prog.eqGuardType Try.prog.depth 56 = false := by kernel_rfl
@[go_sem] theorem fR_fields : Try.prog.underlying 59 = some (.struct (Try.prog.fieldsOf 59)) := by kernel_rfl
@[go_sem] theorem fR_held : Try.prog.stoodInHeld 59 = false := by kernel_rfl
@[go_sem] theorem fR_guard : Try.prog.eqGuardType Try.prog.depth 59 = false := by kernel_rfl
theorem beqI_t {a b : Int} (h : a = b) : (a == b) = true := by simpa using h
theorem beqI_f {a b : Int} (h : ¬ a = b) : (a == b) = false := by simpa using h
theorem bneI_t {a b : Int} (h : ¬ a = b) : (a != b) = true := by simpa using h
theorem bneI_f {a b : Int} (h : a = b) : (a != b) = false := by simpa using h
theorem beqB_t {a b : Bool} (h : a = b) : (a == b) = true := by simpa using h
theorem beqB_f {a b : Bool} (h : ¬ a = b) : (a == b) = false := by simpa using h
set_option maxHeartbeats 4000000 in
theorem equalM_c (a1 a2 : Option Addr) (c1 c2 : Nat) (n1 n2 : Nat → ByteArray) (x1 x2 : CalN) (w : World) (hn1 : x1.n ≤ 1048576) (hn2 : x2.n ≤ 1048576) (h1 : S3 w a1 x1.n n1 x1.dy x1.lp) (h2 : S3 w a2 x2.n n2 x2.dy x2.lp) :
    Calls Try.prog 30 #[.slice a1 x1.n c1, .slice a2 x2.n c2] w fun e w' => e = .returned (.bool (moS n1 x1 n2 x2)) ∧ Ext w w' := by
  have H1 := Lib.hid h1
  have H2 := Lib.hid h2
  clear h1 h2
  by_cases hn : x1.n = x2.n
  · have HN := Lib.hid hn
    have e0 : ((x1.n : Int) != (x2.n : Int)) = false := by simp; omega
    have l1 : x1.n ≤ x2.n := by omega
    have l2 : x2.n ≤ x1.n := by omega
    clear hn
    go_enter Try.func30, Try.ntmps30
    go_wp2_with fail
    go_loopw [13] (fun i wr => ∃ j : Nat, j ≤ x1.n ∧ i = .int .i64 j ∧ upTo (moE n1 x1 n2 x2) j = true ∧ Ext w wr) (fun i _ => x1.n - (intOf i).toNat)
    case atStart => exact ⟨0, by omega, rfl, rfl, (by repeat (first | with_reducible exact Ext.refl _ | with_reducible assumption | with_reducible refine Ext.alloc ?_ _ | with_reducible refine Ext.drew ?_ | (with_reducible refine Ext.setAt ?_ _ _ _ ?_; rotate_left; omega) | with_reducible refine Ext.trans ?_ (by assumption) | with_reducible exact Past.bel _ | with_reducible refine Ext.trans ?_ (Past.bel _)))⟩
    case round =>
      obtain ⟨j, hj, rfl, hu, hbl⟩ := hrel
      have HU := Lib.hid hu
      clear hu
      by_cases hlt : j < x1.n
      · obtain ⟨b1, o1, rfl, hb1, q1, q2, q3⟩ := (S3.ext H1.out hbl).at hlt
        obtain ⟨b2, o2, rfl, hb2, q4, q5, q6⟩ := (S3.ext H2.out hbl).at (show j < x2.n by omega)
        have x2l : (j : Int) < (x2.n : Int) := by omega
        have x0l : (0 : Int) ≤ (j : Int) := by omega
        cases he : moE n1 x1 n2 x2 j
        · have HE := Lib.hid he
          rcases moE_f he with a | ⟨a, b⟩ | ⟨a, b, d⟩
          · have a' := bs_ne a
            clear a he
            go_wp2_with fail
            refine wp_region_past (by kernel_rfl) (by kernel_rfl) ?_
            repeat (go_big_quiet_step (fail))
            refine wpQuiet_nil ?_
            rintro _ ⟨wx, rfl⟩
            go_wp2_with fail
            go_ret
            exact ⟨ret_bool (by unfold moS; rw [upTo_ff hlt HE.out, Bool.and_false]), (by repeat (first | with_reducible exact Ext.refl _ | with_reducible assumption | with_reducible refine Ext.alloc ?_ _ | with_reducible refine Ext.drew ?_ | (with_reducible refine Ext.setAt ?_ _ _ _ ?_; rotate_left; omega) | with_reducible refine Ext.trans ?_ (by assumption) | with_reducible exact Past.bel _ | with_reducible refine Ext.trans ?_ (Past.bel _)))⟩
          · have a' := bs_eq a
            have b' := beqI_f b
            clear a b he
            go_wp2_with fail
            refine wp_region_past (by kernel_rfl) (by kernel_rfl) ?_
            repeat (go_big_quiet_step (fail))
            refine wpQuiet_nil ?_
            rintro _ ⟨wx, rfl⟩
            go_wp2_with fail
            go_ret
            exact ⟨ret_bool (by unfold moS; rw [upTo_ff hlt HE.out, Bool.and_false]), (by repeat (first | with_reducible exact Ext.refl _ | with_reducible assumption | with_reducible refine Ext.alloc ?_ _ | with_reducible refine Ext.drew ?_ | (with_reducible refine Ext.setAt ?_ _ _ _ ?_; rotate_left; omega) | with_reducible refine Ext.trans ?_ (by assumption) | with_reducible exact Past.bel _ | with_reducible refine Ext.trans ?_ (Past.bel _)))⟩
          · have a' := bs_eq a
            have b' := beqI_t b
            have d' := beqI_f d
            clear a b d he
            go_wp2_with fail
            refine wp_region_past (by kernel_rfl) (by kernel_rfl) ?_
            repeat (go_big_quiet_step (fail))
            refine wpQuiet_nil ?_
            rintro _ ⟨wx, rfl⟩
            go_wp2_with fail
            go_ret
            exact ⟨ret_bool (by unfold moS; rw [upTo_ff hlt HE.out, Bool.and_false]), (by repeat (first | with_reducible exact Ext.refl _ | with_reducible assumption | with_reducible refine Ext.alloc ?_ _ | with_reducible refine Ext.drew ?_ | (with_reducible refine Ext.setAt ?_ _ _ _ ?_; rotate_left; omega) | with_reducible refine Ext.trans ?_ (by assumption) | with_reducible exact Past.bel _ | with_reducible refine Ext.trans ?_ (Past.bel _)))⟩
        · have HE := Lib.hid he
          obtain ⟨a, b, d⟩ := moE_t he
          have a' := bs_eq a
          have b' := beqI_t b
          have d' := beqI_t d
          clear a b d he
          go_wp2_with fail
          refine wp_region_past (by kernel_rfl) (by kernel_rfl) ?_
          repeat (go_big_quiet_step (fail))
          refine wpQuiet_nil ?_
          rintro _ ⟨wx, rfl⟩
          go_wp2_with fail
          exact ⟨⟨j + 1, by omega, by go_num, by simp only [upTo, HU.out, HE.out]; rfl, (by repeat (first | with_reducible exact Ext.refl _ | with_reducible assumption | with_reducible refine Ext.alloc ?_ _ | with_reducible refine Ext.drew ?_ | (with_reducible refine Ext.setAt ?_ _ _ _ ?_; rotate_left; omega) | with_reducible refine Ext.trans ?_ (by assumption) | with_reducible exact Past.bel _ | with_reducible refine Ext.trans ?_ (Past.bel _)))⟩, by simp [intOf]; omega⟩
      · have hjn : j = x1.n := by omega
        rw [hjn] at HU
        have HJ := Lib.hid hjn
        have x3 : (x1.n : Int) ≤ (j : Int) := by omega
        clear hjn
        go_wp2_with fail
        go_ret
        exact ⟨ret_bool (by unfold moS; rw [HU.out]; simp [HN.out]), (by repeat (first | with_reducible exact Ext.refl _ | with_reducible assumption | with_reducible refine Ext.alloc ?_ _ | with_reducible refine Ext.drew ?_ | (with_reducible refine Ext.setAt ?_ _ _ _ ?_; rotate_left; omega) | with_reducible refine Ext.trans ?_ (by assumption) | with_reducible exact Past.bel _ | with_reducible refine Ext.trans ?_ (Past.bel _)))⟩
  · have e0 : ((x1.n : Int) != (x2.n : Int)) = true := by simp; omega
    go_enter Try.func30, Try.ntmps30
    go_wp2_with fail
    go_ret
    exact ⟨ret_bool (by simp [moS, hn]), (by repeat (first | with_reducible exact Ext.refl _ | with_reducible assumption | with_reducible refine Ext.alloc ?_ _ | with_reducible refine Ext.drew ?_ | (with_reducible refine Ext.setAt ?_ _ _ _ ?_; rotate_left; omega) | with_reducible refine Ext.trans ?_ (by assumption) | with_reducible exact Past.bel _ | with_reducible refine Ext.trans ?_ (Past.bel _)))⟩
set_option maxHeartbeats 4000000 in
theorem equalR_c (a1 a2 : Option Addr) (c1 c2 : Nat) (x1 x2 : CalN) (w : World) (hn1 : x1.nr ≤ 1048576) (hn2 : x2.nr ≤ 1048576) (h1 : R3 w a1 x1.nr x1.ev x1.rs x1.lf) (h2 : R3 w a2 x2.nr x2.ev x2.rs x2.lf) :
    Calls Try.prog 31 #[.slice a1 x1.nr c1, .slice a2 x2.nr c2] w fun e w' => e = .returned (.bool (ruS x1 x2)) ∧ Ext w w' := by
  have H1 := Lib.hid h1
  have H2 := Lib.hid h2
  clear h1 h2
  by_cases hn : x1.nr = x2.nr
  · have HN := Lib.hid hn
    have e0 : ((x1.nr : Int) != (x2.nr : Int)) = false := by simp; omega
    have l1 : x1.nr ≤ x2.nr := by omega
    have l2 : x2.nr ≤ x1.nr := by omega
    clear hn
    go_enter Try.func31, Try.ntmps31
    go_wp2_with fail
    go_loopw [13] (fun i wr => ∃ j : Nat, j ≤ x1.nr ∧ i = .int .i64 j ∧ upTo (ruE x1 x2) j = true ∧ Ext w wr) (fun i _ => x1.nr - (intOf i).toNat)
    case atStart => exact ⟨0, by omega, rfl, rfl, (by repeat (first | with_reducible exact Ext.refl _ | with_reducible assumption | with_reducible refine Ext.alloc ?_ _ | with_reducible refine Ext.drew ?_ | (with_reducible refine Ext.setAt ?_ _ _ _ ?_; rotate_left; omega) | with_reducible refine Ext.trans ?_ (by assumption) | with_reducible exact Past.bel _ | with_reducible refine Ext.trans ?_ (Past.bel _)))⟩
    case round =>
      obtain ⟨j, hj, rfl, hu, hbl⟩ := hrel
      have HU := Lib.hid hu
      clear hu
      by_cases hlt : j < x1.nr
      · obtain ⟨b1, o1, rfl, hb1, q1, q2, q3⟩ := (R3.ext H1.out hbl).at hlt
        obtain ⟨b2, o2, rfl, hb2, q4, q5, q6⟩ := (R3.ext H2.out hbl).at (show j < x2.nr by omega)
        have x2l : (j : Int) < (x2.nr : Int) := by omega
        have x0l : (0 : Int) ≤ (j : Int) := by omega
        cases he : ruE x1 x2 j
        · have HE := Lib.hid he
          rcases ruE_f he with a | ⟨a, b⟩ | ⟨a, b, d⟩
          · have a' := beqI_f a
            clear a he
            go_wp2_with fail
            refine wp_region_past (by kernel_rfl) (by kernel_rfl) ?_
            repeat (go_big_quiet_step (fail))
            refine wpQuiet_nil ?_
            rintro _ ⟨wx, rfl⟩
            go_wp2_with fail
            go_ret
            exact ⟨ret_bool (by unfold ruS; rw [upTo_ff hlt HE.out, Bool.and_false]), (by repeat (first | with_reducible exact Ext.refl _ | with_reducible assumption | with_reducible refine Ext.alloc ?_ _ | with_reducible refine Ext.drew ?_ | (with_reducible refine Ext.setAt ?_ _ _ _ ?_; rotate_left; omega) | with_reducible refine Ext.trans ?_ (by assumption) | with_reducible exact Past.bel _ | with_reducible refine Ext.trans ?_ (Past.bel _)))⟩
          · have a' := beqI_t a
            have b' := beqI_f b
            clear a b he
            go_wp2_with fail
            refine wp_region_past (by kernel_rfl) (by kernel_rfl) ?_
            repeat (go_big_quiet_step (fail))
            refine wpQuiet_nil ?_
            rintro _ ⟨wx, rfl⟩
            go_wp2_with fail
            go_ret
            exact ⟨ret_bool (by unfold ruS; rw [upTo_ff hlt HE.out, Bool.and_false]), (by repeat (first | with_reducible exact Ext.refl _ | with_reducible assumption | with_reducible refine Ext.alloc ?_ _ | with_reducible refine Ext.drew ?_ | (with_reducible refine Ext.setAt ?_ _ _ _ ?_; rotate_left; omega) | with_reducible refine Ext.trans ?_ (by assumption) | with_reducible exact Past.bel _ | with_reducible refine Ext.trans ?_ (Past.bel _)))⟩
          · have a' := beqI_t a
            have b' := beqI_t b
            have d' := beqB_f d
            clear a b d he
            go_wp2_with fail
            refine wp_region_past (by kernel_rfl) (by kernel_rfl) ?_
            repeat (go_big_quiet_step (fail))
            refine wpQuiet_nil ?_
            rintro _ ⟨wx, rfl⟩
            go_wp2_with fail
            go_ret
            exact ⟨ret_bool (by unfold ruS; rw [upTo_ff hlt HE.out, Bool.and_false]), (by repeat (first | with_reducible exact Ext.refl _ | with_reducible assumption | with_reducible refine Ext.alloc ?_ _ | with_reducible refine Ext.drew ?_ | (with_reducible refine Ext.setAt ?_ _ _ _ ?_; rotate_left; omega) | with_reducible refine Ext.trans ?_ (by assumption) | with_reducible exact Past.bel _ | with_reducible refine Ext.trans ?_ (Past.bel _)))⟩
        · have HE := Lib.hid he
          obtain ⟨a, b, d⟩ := ruE_t he
          have a' := beqI_t a
          have b' := beqI_t b
          have d' := beqB_t d
          clear a b d he
          go_wp2_with fail
          refine wp_region_past (by kernel_rfl) (by kernel_rfl) ?_
          repeat (go_big_quiet_step (fail))
          refine wpQuiet_nil ?_
          rintro _ ⟨wx, rfl⟩
          go_wp2_with fail
          exact ⟨⟨j + 1, by omega, by go_num, by simp only [upTo, HU.out, HE.out]; rfl, (by repeat (first | with_reducible exact Ext.refl _ | with_reducible assumption | with_reducible refine Ext.alloc ?_ _ | with_reducible refine Ext.drew ?_ | (with_reducible refine Ext.setAt ?_ _ _ _ ?_; rotate_left; omega) | with_reducible refine Ext.trans ?_ (by assumption) | with_reducible exact Past.bel _ | with_reducible refine Ext.trans ?_ (Past.bel _)))⟩, by simp [intOf]; omega⟩
      · have hjn : j = x1.nr := by omega
        rw [hjn] at HU
        have HJ := Lib.hid hjn
        have x3 : (x1.nr : Int) ≤ (j : Int) := by omega
        clear hjn
        go_wp2_with fail
        go_ret
        exact ⟨ret_bool (by unfold ruS; rw [HU.out]; simp [HN.out]), (by repeat (first | with_reducible exact Ext.refl _ | with_reducible assumption | with_reducible refine Ext.alloc ?_ _ | with_reducible refine Ext.drew ?_ | (with_reducible refine Ext.setAt ?_ _ _ _ ?_; rotate_left; omega) | with_reducible refine Ext.trans ?_ (by assumption) | with_reducible exact Past.bel _ | with_reducible refine Ext.trans ?_ (Past.bel _)))⟩
  · have e0 : ((x1.nr : Int) != (x2.nr : Int)) = true := by simp; omega
    go_enter Try.func31, Try.ntmps31
    go_wp2_with fail
    go_ret
    exact ⟨ret_bool (by simp [ruS, hn]), (by repeat (first | with_reducible exact Ext.refl _ | with_reducible assumption | with_reducible refine Ext.alloc ?_ _ | with_reducible refine Ext.drew ?_ | (with_reducible refine Ext.setAt ?_ _ _ _ ?_; rotate_left; omega) | with_reducible refine Ext.trans ?_ (by assumption) | with_reducible exact Past.bel _ | with_reducible refine Ext.trans ?_ (Past.bel _)))⟩
end Go.Proofs.Ytaamnmpbkdinpaa
