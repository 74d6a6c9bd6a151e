/- Jumps of readings: the program's and the reference's. -/
import Derived.Test.YtfpbmceflpohnaaW11
import Derived.Test.YtfpbmceflpohnaaPlain9
namespace Go.Proofs.Ytfpbmceflpohnaa
open Go.RowKit
set_option linter.unusedVariables false
set_option linter.unusedSimpArgs false

theorem info_i64 : (Try.prog.info? 2).map (fun i => (i.zero, i.size, i.bytes)) = some (some (.int .i64 0), 1, 8) := by kernel_rfl
theorem jmp_t {o : Nat → Int} {least : Int} {j : Nat} (h : least ≤ absI (o (j + 1) - o j)) : (jmp o least j).map (Value.int .i64) ++ [.int .i64 ((j : Int) + 1)] = (jmp o least (j + 1)).map (Value.int .i64) ∧ (jmp o least j).length + 1 = (jmp o least (j + 1)).length := by
  simp [jmp, h]
theorem jmp_f {o : Nat → Int} {least : Int} {j : Nat} (h : absI (o (j + 1) - o j) < least) : jmp o least (j + 1) = jmp o least j := by
  simp only [jmp]; rw [if_neg (Int.not_le.2 h)]
set_option maxHeartbeats 2000000 in
theorem implJumpsOf_c (a : Option Addr) (n c : Nat) (f o : Nat → Int) (least : Int) (w : World) (hn : n ≤ 1048576) (hs : S2 w a n f o) :
    Calls Try.prog 37 #[.slice a n c, .int .i64 least] w fun e w' => ∃ b cap, e = .returned (.tuple #[.slice b (jmpRes n f o least).length cap, .int .i64 (jmpCode n f o least)]) ∧ Ext w w' ∧
      w'.ownsRow w.heap.size 2 1 (.slice b (jmpRes n f o least).length cap) (jmpRes n f o least).length ((jmpRes n f o least).map (Value.int .i64)) := by
  have HS := Lib.hid hs
  clear hs
  by_cases hv : rdV n f o = true
  · have HV := Lib.hid hv
    by_cases hl : inB least 0 200000 = true
    · have HL := Lib.hid hl
      have r := rb_of hv
      have ob := offB_of r
      have h60 := ob.n60
      obtain ⟨i0, hi, hz0, hz1, hz2⟩ := info_parts info_i64
      go_enter Try.func37, Try.ntmps37
      go_wp2_with (first | (go_at_call 23; ((with_reducible refine (validReadings_c _ _ _ _ _ _ hn (HS.out.ext (by repeat (first | with_reducible exact Ext.refl _ | with_reducible assumption | with_reducible refine Ext.alloc ?_ _ | with_reducible refine Ext.drew ?_ | (with_reducible refine Ext.setAt ?_ _ _ _ ?_; rotate_left; omega) | with_reducible refine Ext.trans ?_ (by assumption) | with_reducible exact Past.bel _ | with_reducible refine Ext.trans ?_ (Past.bel _))))).mono ?_); rintro e w' ⟨rfl, hx⟩; (first | (obtain ⟨wx, rfl⟩ := Past.again hx) | (obtain ⟨wx, rfl⟩ := Past.ofd hx) | (obtain ⟨wx, rfl⟩ := Past.of hx)))) | (go_at_call 57; ((with_reducible refine (within_c _ _ _ _).mono ?_); rintro e w' ⟨rfl, rfl⟩)))
      go_loopw [6, 7] (fun v i wr => ∃ j : Nat, j ≤ n ∧ i = .int .i64 ((j : Int) + 1) ∧ Ext w wr ∧ wr.ownsRow w.heap.size 2 1 v (jmp o least j).length ((jmp o least j).map (Value.int .i64)) ∧ (0 < j → j < n)) (fun _ i _ => n + 1 - (intOf i).toNat)
      case atStart => exact ⟨0, by omega, rfl, (by repeat (first | with_reducible exact Ext.refl _ | with_reducible assumption | with_reducible refine Ext.alloc ?_ _ | with_reducible refine Ext.drew ?_ | (with_reducible refine Ext.setAt ?_ _ _ _ ?_; rotate_left; omega) | with_reducible refine Ext.trans ?_ (by assumption) | with_reducible exact Past.bel _ | with_reducible refine Ext.trans ?_ (Past.bel _))), World.ownsRow_nil _ _ _ _, by omega⟩
      case round =>
        obtain ⟨j, hj, rfl, hbl, ho, hj2⟩ := hrel
        have HO := Lib.hid ho
        by_cases hlt : j + 1 < n
        · obtain ⟨b1, o1, rfl, hb1, q1, q2⟩ := (S2.ext HS.out hbl).at (show j + 1 < n by omega)
          obtain ⟨_, _, hh, _, q3, q4⟩ := (S2.ext HS.out hbl).at (show j < n by omega)
          obtain ⟨rfl, rfl⟩ := by simpa using hh
          have p1 := ob.bo j (by omega)
          have p2 := ob.bo (j + 1) (by omega)
          clear ho
          go_wp2_with fail
          refine wp_region_past (by kernel_rfl) (by kernel_rfl) ?_
          repeat (go_big_quiet_step ((go_at_call 73; exact Calls.past_same (abs_c _ _ (by omega) (by omega)))))
          refine wpQuiet_nil ?_
          rintro _ ⟨wx, rfl⟩
          have hlen := jmp_len o least j
          go_wp2_with (at_builtin; refine app1 (w0 := w) 45 2 _ _ rfl rfl Try.underlying45 info_i64 _ (jmp o least j) ((j : Int) + 1) _ rfl rfl (own_ext HO.out (by repeat (first | with_reducible exact Ext.refl _ | with_reducible assumption | with_reducible refine Ext.alloc ?_ _ | with_reducible refine Ext.drew ?_ | (with_reducible refine Ext.setAt ?_ _ _ _ ?_; rotate_left; omega) | with_reducible refine Ext.trans ?_ (by assumption) | with_reducible exact Past.bel _ | with_reducible refine Ext.trans ?_ (Past.bel _)))) (by simp [go_sem]) (by omega) (by repeat (first | with_reducible exact Ext.refl _ | with_reducible assumption | with_reducible refine Ext.alloc ?_ _ | with_reducible refine Ext.drew ?_ | (with_reducible refine Ext.setAt ?_ _ _ _ ?_; rotate_left; omega) | with_reducible refine Ext.trans ?_ (by assumption) | with_reducible exact Past.bel _ | with_reducible refine Ext.trans ?_ (Past.bel _))) ?_; intro v1 w1 ho1 hx1)
          · have hjt := jmp_t (o := o) (least := least) (j := j) (by assumption)
            exact ⟨⟨j + 1, by omega, by go_num, hx1, by rw [← hjt.2, ← hjt.1]; simpa using ho1, by omega⟩, by simp [intOf]; omega⟩
          · have hjf := jmp_f (o := o) (least := least) (j := j) (by assumption)
            exact ⟨⟨j + 1, by omega, by go_num, (by repeat (first | with_reducible exact Ext.refl _ | with_reducible assumption | with_reducible refine Ext.alloc ?_ _ | with_reducible refine Ext.drew ?_ | (with_reducible refine Ext.setAt ?_ _ _ _ ?_; rotate_left; omega) | with_reducible refine Ext.trans ?_ (by assumption) | with_reducible exact Past.bel _ | with_reducible refine Ext.trans ?_ (Past.bel _))), by rw [hjf]; exact own_ext HO.out (by repeat (first | with_reducible exact Ext.refl _ | with_reducible assumption | with_reducible refine Ext.alloc ?_ _ | with_reducible refine Ext.drew ?_ | (with_reducible refine Ext.setAt ?_ _ _ _ ?_; rotate_left; omega) | with_reducible refine Ext.trans ?_ (by assumption) | with_reducible exact Past.bel _ | with_reducible refine Ext.trans ?_ (Past.bel _))), by omega⟩, by simp [intOf]; omega⟩
        · obtain ⟨b, cap, rfl⟩ := own_form ho
          have he : jmpCode n f o least = 0 := by simp [jmpCode, HV.out, HL.out]
          have hr : jmpRes n f o least = jmp o least j := by
            rw [jmpRes, if_pos he]; congr 1; omega
          have HE := Lib.hid he
          have HR := Lib.hid hr
          clear ho he hr
          go_wp2_with fail
          go_ret2
          exact ⟨b, cap, ret_two (by rw [HR.out]; rfl) (congrArg _ HE.out.symm), (by repeat (first | with_reducible exact Ext.refl _ | with_reducible assumption | with_reducible refine Ext.alloc ?_ _ | with_reducible refine Ext.drew ?_ | (with_reducible refine Ext.setAt ?_ _ _ _ ?_; rotate_left; omega) | with_reducible refine Ext.trans ?_ (by assumption) | with_reducible exact Past.bel _ | with_reducible refine Ext.trans ?_ (Past.bel _))), by rw [HR.out]; exact HO.out⟩
    · have hf : inB least 0 200000 = false := by simpa using hl
      go_enter Try.func37, Try.ntmps37
      go_wp2_with (first | (go_at_call 23; ((with_reducible refine (validReadings_c _ _ _ _ _ _ hn (HS.out.ext (by repeat (first | with_reducible exact Ext.refl _ | with_reducible assumption | with_reducible refine Ext.alloc ?_ _ | with_reducible refine Ext.drew ?_ | (with_reducible refine Ext.setAt ?_ _ _ _ ?_; rotate_left; omega) | with_reducible refine Ext.trans ?_ (by assumption) | with_reducible exact Past.bel _ | with_reducible refine Ext.trans ?_ (Past.bel _))))).mono ?_); rintro e w' ⟨rfl, hx⟩; (first | (obtain ⟨wx, rfl⟩ := Past.again hx) | (obtain ⟨wx, rfl⟩ := Past.ofd hx) | (obtain ⟨wx, rfl⟩ := Past.of hx)))) | (go_at_call 57; ((with_reducible refine (within_c _ _ _ _).mono ?_); rintro e w' ⟨rfl, rfl⟩)))
      go_ret2
      have he : jmpCode n f o least = 2 := by simp [jmpCode, HV.out, hf]
      have hr : jmpRes n f o least = [] := by rw [jmpRes, he]; rfl
      exact ⟨none, 0, ret_two (by rw [hr]; rfl) (congrArg _ he.symm), (by repeat (first | with_reducible exact Ext.refl _ | with_reducible assumption | with_reducible refine Ext.alloc ?_ _ | with_reducible refine Ext.drew ?_ | (with_reducible refine Ext.setAt ?_ _ _ _ ?_; rotate_left; omega) | with_reducible refine Ext.trans ?_ (by assumption) | with_reducible exact Past.bel _ | with_reducible refine Ext.trans ?_ (Past.bel _))), by rw [hr]; exact World.ownsRow_nil _ _ _ _⟩
  · have hf : rdV n f o = false := by simpa using hv
    go_enter Try.func37, Try.ntmps37
    go_wp2_with (first | (go_at_call 23; ((with_reducible refine (validReadings_c _ _ _ _ _ _ hn (HS.out.ext (by repeat (first | with_reducible exact Ext.refl _ | with_reducible assumption | with_reducible refine Ext.alloc ?_ _ | with_reducible refine Ext.drew ?_ | (with_reducible refine Ext.setAt ?_ _ _ _ ?_; rotate_left; omega) | with_reducible refine Ext.trans ?_ (by assumption) | with_reducible exact Past.bel _ | with_reducible refine Ext.trans ?_ (Past.bel _))))).mono ?_); rintro e w' ⟨rfl, hx⟩; (first | (obtain ⟨wx, rfl⟩ := Past.again hx) | (obtain ⟨wx, rfl⟩ := Past.ofd hx) | (obtain ⟨wx, rfl⟩ := Past.of hx)))))
    go_ret2
    have he : jmpCode n f o least = 1 := by simp [jmpCode, hf]
    have hr : jmpRes n f o least = [] := by rw [jmpRes, he]; rfl
    exact ⟨none, 0, ret_two (by rw [hr]; rfl) (congrArg _ he.symm), (by repeat (first | with_reducible exact Ext.refl _ | with_reducible assumption | with_reducible refine Ext.alloc ?_ _ | with_reducible refine Ext.drew ?_ | (with_reducible refine Ext.setAt ?_ _ _ _ ?_; rotate_left; omega) | with_reducible refine Ext.trans ?_ (by assumption) | with_reducible exact Past.bel _ | with_reducible refine Ext.trans ?_ (Past.bel _))), by rw [hr]; exact World.ownsRow_nil _ _ _ _⟩
set_option maxHeartbeats 2000000 in
theorem specJumpsOf_c (a : Option Addr) (n c : Nat) (f o : Nat → Int) (least : Int) (w : World) (hn : n ≤ 1048576) (hs : S2 w a n f o) :
    Calls Try.prog 36 #[.slice a n c, .int .i64 least] w fun e w' => ∃ b cap, e = .returned (.tuple #[.slice b (jmpRes n f o least).length cap, .int .i64 (jmpCode n f o least)]) ∧ Ext w w' ∧
      w'.ownsRow w.heap.size 2 1 (.slice b (jmpRes n f o least).length cap) (jmpRes n f o least).length ((jmpRes n f o least).map (Value.int .i64)) := by
  have HS := Lib.hid hs
  clear hs
  by_cases hv : rdV n f o = true
  · have HV := Lib.hid hv
    by_cases hl : inB least 0 200000 = true
    · have HL := Lib.hid hl
      have r := rb_of hv
      have ob := offB_of r
      have h60 := ob.n60
      obtain ⟨i0, hi, hz0, hz1, hz2⟩ := info_parts info_i64
      go_enter Try.func36, Try.ntmps36
      go_wp2_with (first | (go_at_call 58; ((with_reducible refine (l14Ok_c _ _ _ _ _ _ hn (HS.out.ext (by repeat (first | with_reducible exact Ext.refl _ | with_reducible assumption | with_reducible refine Ext.alloc ?_ _ | with_reducible refine Ext.drew ?_ | (with_reducible refine Ext.setAt ?_ _ _ _ ?_; rotate_left; omega) | with_reducible refine Ext.trans ?_ (by assumption) | with_reducible exact Past.bel _ | with_reducible refine Ext.trans ?_ (Past.bel _))))).mono ?_); rintro e w' ⟨rfl, hx⟩; (first | (obtain ⟨wx, rfl⟩ := Past.again hx) | (obtain ⟨wx, rfl⟩ := Past.ofd hx) | (obtain ⟨wx, rfl⟩ := Past.of hx)))) | (go_at_call 66; ((with_reducible refine (l00In_c _ _ _ _).mono ?_); rintro e w' ⟨rfl, rfl⟩)))
      go_loopw [6, 7] (fun v i wr => ∃ j : Nat, j ≤ n ∧ i = .int .i64 ((j : Int) + 1) ∧ Ext w wr ∧ wr.ownsRow w.heap.size 2 1 v (jmp o least j).length ((jmp o least j).map (Value.int .i64)) ∧ (0 < j → j < n)) (fun _ i _ => n + 1 - (intOf i).toNat)
      case atStart => exact ⟨0, by omega, rfl, (by repeat (first | with_reducible exact Ext.refl _ | with_reducible assumption | with_reducible refine Ext.alloc ?_ _ | with_reducible refine Ext.drew ?_ | (with_reducible refine Ext.setAt ?_ _ _ _ ?_; rotate_left; omega) | with_reducible refine Ext.trans ?_ (by assumption) | with_reducible exact Past.bel _ | with_reducible refine Ext.trans ?_ (Past.bel _))), World.ownsRow_made _ #[] 0 (Ext.size (by repeat (first | with_reducible exact Ext.refl _ | with_reducible assumption | with_reducible refine Ext.alloc ?_ _ | with_reducible refine Ext.drew ?_ | (with_reducible refine Ext.setAt ?_ _ _ _ ?_; rotate_left; omega) | with_reducible refine Ext.trans ?_ (by assumption) | with_reducible exact Past.bel _ | with_reducible refine Ext.trans ?_ (Past.bel _)))) (Nat.zero_le _) rfl, by omega⟩
      case round =>
        obtain ⟨j, hj, rfl, hbl, ho, hj2⟩ := hrel
        have HO := Lib.hid ho
        by_cases hlt : j + 1 < n
        · obtain ⟨b1, o1, rfl, hb1, q1, q2⟩ := (S2.ext HS.out hbl).at (show j + 1 < n by omega)
          obtain ⟨_, _, hh, _, q3, q4⟩ := (S2.ext HS.out hbl).at (show j < n by omega)
          obtain ⟨rfl, rfl⟩ := by simpa using hh
          have p1 := ob.bo j (by omega)
          have p2 := ob.bo (j + 1) (by omega)
          clear ho
          go_wp2_with fail
          refine wp_region_past (by kernel_rfl) (by kernel_rfl) ?_
          repeat (go_big_quiet_step ((go_at_call 72; exact Calls.past_same (l02Size_c _ _ (by omega) (by omega)))))
          refine wpQuiet_nil ?_
          rintro _ ⟨wx, rfl⟩
          have hlen := jmp_len o least j
          go_wp2_with (at_builtin; refine app1 (w0 := w) 45 2 _ _ rfl rfl Try.underlying45 info_i64 _ (jmp o least j) ((j : Int) + 1) _ rfl rfl (own_ext HO.out (by repeat (first | with_reducible exact Ext.refl _ | with_reducible assumption | with_reducible refine Ext.alloc ?_ _ | with_reducible refine Ext.drew ?_ | (with_reducible refine Ext.setAt ?_ _ _ _ ?_; rotate_left; omega) | with_reducible refine Ext.trans ?_ (by assumption) | with_reducible exact Past.bel _ | with_reducible refine Ext.trans ?_ (Past.bel _)))) (by simp [go_sem]) (by omega) (by repeat (first | with_reducible exact Ext.refl _ | with_reducible assumption | with_reducible refine Ext.alloc ?_ _ | with_reducible refine Ext.drew ?_ | (with_reducible refine Ext.setAt ?_ _ _ _ ?_; rotate_left; omega) | with_reducible refine Ext.trans ?_ (by assumption) | with_reducible exact Past.bel _ | with_reducible refine Ext.trans ?_ (Past.bel _))) ?_; intro v1 w1 ho1 hx1)
          · have hjt := jmp_t (o := o) (least := least) (j := j) (by assumption)
            exact ⟨⟨j + 1, by omega, by go_num, hx1, by rw [← hjt.2, ← hjt.1]; simpa using ho1, by omega⟩, by simp [intOf]; omega⟩
          · have hjf := jmp_f (o := o) (least := least) (j := j) (by assumption)
            exact ⟨⟨j + 1, by omega, by go_num, (by repeat (first | with_reducible exact Ext.refl _ | with_reducible assumption | with_reducible refine Ext.alloc ?_ _ | with_reducible refine Ext.drew ?_ | (with_reducible refine Ext.setAt ?_ _ _ _ ?_; rotate_left; omega) | with_reducible refine Ext.trans ?_ (by assumption) | with_reducible exact Past.bel _ | with_reducible refine Ext.trans ?_ (Past.bel _))), by rw [hjf]; exact own_ext HO.out (by repeat (first | with_reducible exact Ext.refl _ | with_reducible assumption | with_reducible refine Ext.alloc ?_ _ | with_reducible refine Ext.drew ?_ | (with_reducible refine Ext.setAt ?_ _ _ _ ?_; rotate_left; omega) | with_reducible refine Ext.trans ?_ (by assumption) | with_reducible exact Past.bel _ | with_reducible refine Ext.trans ?_ (Past.bel _))), by omega⟩, by simp [intOf]; omega⟩
        · obtain ⟨b, cap, rfl⟩ := own_form ho
          have he : jmpCode n f o least = 0 := by simp [jmpCode, HV.out, HL.out]
          have hr : jmpRes n f o least = jmp o least j := by
            rw [jmpRes, if_pos he]; congr 1; omega
          have HE := Lib.hid he
          have HR := Lib.hid hr
          clear ho he hr
          go_wp2_with fail
          go_ret2
          exact ⟨b, cap, ret_two (by rw [HR.out]; rfl) (congrArg _ HE.out.symm), (by repeat (first | with_reducible exact Ext.refl _ | with_reducible assumption | with_reducible refine Ext.alloc ?_ _ | with_reducible refine Ext.drew ?_ | (with_reducible refine Ext.setAt ?_ _ _ _ ?_; rotate_left; omega) | with_reducible refine Ext.trans ?_ (by assumption) | with_reducible exact Past.bel _ | with_reducible refine Ext.trans ?_ (Past.bel _))), by rw [HR.out]; exact HO.out⟩
    · have hf : inB least 0 200000 = false := by simpa using hl
      go_enter Try.func36, Try.ntmps36
      go_wp2_with (first | (go_at_call 58; ((with_reducible refine (l14Ok_c _ _ _ _ _ _ hn (HS.out.ext (by repeat (first | with_reducible exact Ext.refl _ | with_reducible assumption | with_reducible refine Ext.alloc ?_ _ | with_reducible refine Ext.drew ?_ | (with_reducible refine Ext.setAt ?_ _ _ _ ?_; rotate_left; omega) | with_reducible refine Ext.trans ?_ (by assumption) | with_reducible exact Past.bel _ | with_reducible refine Ext.trans ?_ (Past.bel _))))).mono ?_); rintro e w' ⟨rfl, hx⟩; (first | (obtain ⟨wx, rfl⟩ := Past.again hx) | (obtain ⟨wx, rfl⟩ := Past.ofd hx) | (obtain ⟨wx, rfl⟩ := Past.of hx)))) | (go_at_call 66; ((with_reducible refine (l00In_c _ _ _ _).mono ?_); rintro e w' ⟨rfl, rfl⟩)))
      go_ret2
      have he : jmpCode n f o least = 2 := by simp [jmpCode, HV.out, hf]
      have hr : jmpRes n f o least = [] := by rw [jmpRes, he]; rfl
      exact ⟨none, 0, ret_two (by rw [hr]; rfl) (congrArg _ he.symm), (by repeat (first | with_reducible exact Ext.refl _ | with_reducible assumption | with_reducible refine Ext.alloc ?_ _ | with_reducible refine Ext.drew ?_ | (with_reducible refine Ext.setAt ?_ _ _ _ ?_; rotate_left; omega) | with_reducible refine Ext.trans ?_ (by assumption) | with_reducible exact Past.bel _ | with_reducible refine Ext.trans ?_ (Past.bel _))), by rw [hr]; exact World.ownsRow_nil _ _ _ _⟩
  · have hf : rdV n f o = false := by simpa using hv
    go_enter Try.func36, Try.ntmps36
    go_wp2_with (first | (go_at_call 58; ((with_reducible refine (l14Ok_c _ _ _ _ _ _ hn (HS.out.ext (by repeat (first | with_reducible exact Ext.refl _ | with_reducible assumption | with_reducible refine Ext.alloc ?_ _ | with_reducible refine Ext.drew ?_ | (with_reducible refine Ext.setAt ?_ _ _ _ ?_; rotate_left; omega) | with_reducible refine Ext.trans ?_ (by assumption) | with_reducible exact Past.bel _ | with_reducible refine Ext.trans ?_ (Past.bel _))))).mono ?_); rintro e w' ⟨rfl, hx⟩; (first | (obtain ⟨wx, rfl⟩ := Past.again hx) | (obtain ⟨wx, rfl⟩ := Past.ofd hx) | (obtain ⟨wx, rfl⟩ := Past.of hx)))))
    go_ret2
    have he : jmpCode n f o least = 1 := by simp [jmpCode, hf]
    have hr : jmpRes n f o least = [] := by rw [jmpRes, he]; rfl
    exact ⟨none, 0, ret_two (by rw [hr]; rfl) (congrArg _ he.symm), (by repeat (first | with_reducible exact Ext.refl _ | with_reducible assumption | with_reducible refine Ext.alloc ?_ _ | with_reducible refine Ext.drew ?_ | (with_reducible refine Ext.setAt ?_ _ _ _ ?_; rotate_left; omega) | with_reducible refine Ext.trans ?_ (by assumption) | with_reducible exact Past.bel _ | with_reducible refine Ext.trans ?_ (Past.bel _))), by rw [hr]; exact World.ownsRow_nil _ _ _ _⟩
end Go.Proofs.Ytfpbmceflpohnaa
