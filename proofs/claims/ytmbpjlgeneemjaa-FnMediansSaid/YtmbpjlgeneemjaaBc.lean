/- Jumps of readings: the program's and the reference's. An append of one number at a step of a region that draws its order. No program in sight. Rates between readings: the program's and the reference's. An append of one number at a step, with what it leaves, of a region that draws its order. No program in sight. Residuals of readings: the reference's. Residuals of readings: the program's. Dice and draws: numbers that follow from bytes. Draws: a source of numbers. -/
import Derived.Test.YtmbpjlgeneemjaaBb
import Derived.Test.YtmbpjlgeneemjaaBa
import Derived.Deep.RegionHeld3
import Derived.Deep.AppendLies
import Derived.Deep.DeepCutAuto

namespace Go.Proofs.Ytmbpjlgeneemjaa
open Go.RowKit
set_option linter.unusedVariables false
set_option linter.unusedSimpArgs false

theorem info_i64 : (Try.prog.info? 2).map (fun i => (i.zero, i.size, i.bytes)) = some (some (.int .i64 0), 1, 8) := by kernel_rfl
theorem jmp_t {o : Nat → Int} {least : Int} {j : Nat} (h : least ≤ absI (o (j + 1) - o j)) : (jmp o least j).map (Value.int .i64) ++ [.int .i64 ((j : Int) + 1)] = (jmp o least (j + 1)).map (Value.int .i64) ∧ (jmp o least j).length + 1 = (jmp o least (j + 1)).length := by
  simp [jmp, h]
theorem jmp_f {o : Nat → Int} {least : Int} {j : Nat} (h : absI (o (j + 1) - o j) < least) : jmp o least (j + 1) = jmp o least j := by
  simp only [jmp]; rw [if_neg (Int.not_le.2 h)]
set_option maxRecDepth 100000 in
set_option maxHeartbeats 2000000 in
theorem implJumpsOf_c (a : Option Addr) (n c : Nat) (f o : Nat → Int) (least : Int) (w : World) (hn : n ≤ 1048576) (hs : S2 w a n f o) :
    Calls Try.prog 15 #[.slice a n c, .int .i64 least] w fun e w' => ∃ b cap, e = .returned (.tuple #[.slice b (jmpRes n f o least).length cap, .int .i64 (jmpCode n f o least)]) ∧ Ext w w' ∧
      w'.ownsRow w.heap.size 2 1 (.slice b (jmpRes n f o least).length cap) (jmpRes n f o least).length ((jmpRes n f o least).map (Value.int .i64)) := by
  have HS := Lib.hid hs
  clear hs
  by_cases hv : rdV n f o = true
  · have HV := Lib.hid hv
    by_cases hl : inB least 0 200000 = true
    · have HL := Lib.hid hl
      have r := rb_of hv
      have ob := offB_of r
      have h60 := ob.n60
      obtain ⟨i0, hi, hz0, hz1, hz2⟩ := info_parts info_i64
      go_enter Try.func15, Try.ntmps15
      go_wp2_with (first | (go_at_call 20; ((with_reducible refine (validReadings_c _ _ _ _ _ _ hn (HS.out.ext (by repeat (first | with_reducible exact Ext.refl _ | with_reducible assumption | with_reducible refine Ext.alloc ?_ _ | with_reducible refine Ext.drew ?_ | (with_reducible refine Ext.setAt ?_ _ _ _ ?_; rotate_left; omega) | with_reducible refine Ext.trans ?_ (by assumption) | with_reducible exact Past.bel _ | with_reducible refine Ext.trans ?_ (Past.bel _))))).mono ?_); rintro e w' ⟨rfl, hx⟩; (first | (obtain ⟨wx, rfl⟩ := Past.again hx) | (obtain ⟨wx, rfl⟩ := Past.ofd hx) | (obtain ⟨wx, rfl⟩ := Past.of hx)))) | (go_at_call 50; ((with_reducible refine (within_c _ _ _ _).mono ?_); rintro e w' ⟨rfl, rfl⟩)))
      go_loopw [6, 7] (fun v i wr => ∃ j : Nat, j ≤ n ∧ i = .int .i64 ((j : Int) + 1) ∧ Ext w wr ∧ wr.ownsRow w.heap.size 2 1 v (jmp o least j).length ((jmp o least j).map (Value.int .i64)) ∧ (0 < j → j < n)) (fun _ i _ => n + 1 - (intOf i).toNat)
      case atStart => exact ⟨0, by omega, rfl, (by repeat (first | with_reducible exact Ext.refl _ | with_reducible assumption | with_reducible refine Ext.alloc ?_ _ | with_reducible refine Ext.drew ?_ | (with_reducible refine Ext.setAt ?_ _ _ _ ?_; rotate_left; omega) | with_reducible refine Ext.trans ?_ (by assumption) | with_reducible exact Past.bel _ | with_reducible refine Ext.trans ?_ (Past.bel _))), World.ownsRow_nil _ _ _ _, by omega⟩
      case round =>
        obtain ⟨j, hj, rfl, hbl, ho, hj2⟩ := hrel
        have HO := Lib.hid ho
        by_cases hlt : j + 1 < n
        · obtain ⟨b1, o1, rfl, hb1, q1, q2⟩ := (S2.ext HS.out hbl).at (show j + 1 < n by omega)
          obtain ⟨_, _, hh, _, q3, q4⟩ := (S2.ext HS.out hbl).at (show j < n by omega)
          obtain ⟨rfl, rfl⟩ := by simpa using hh
          have p1 := ob.bo j (by omega)
          have p2 := ob.bo (j + 1) (by omega)
          clear ho
          go_wp2_with fail
          refine wp_region_past (by kernel_rfl) (by kernel_rfl) ?_
          repeat (go_big_quiet_step ((go_at_call 51; exact Calls.past_same (abs_c _ _ (by omega) (by omega)))))
          refine wpQuiet_nil ?_
          rintro _ ⟨wx, rfl⟩
          have hlen := jmp_len o least j
          go_wp2_with (at_builtin; refine app1 (w0 := w) 34 2 _ _ rfl rfl Try.underlying34 info_i64 _ (jmp o least j) ((j : Int) + 1) _ rfl rfl (own_ext HO.out (by repeat (first | with_reducible exact Ext.refl _ | with_reducible assumption | with_reducible refine Ext.alloc ?_ _ | with_reducible refine Ext.drew ?_ | (with_reducible refine Ext.setAt ?_ _ _ _ ?_; rotate_left; omega) | with_reducible refine Ext.trans ?_ (by assumption) | with_reducible exact Past.bel _ | with_reducible refine Ext.trans ?_ (Past.bel _)))) (by simp [go_sem]) (by omega) (by repeat (first | with_reducible exact Ext.refl _ | with_reducible assumption | with_reducible refine Ext.alloc ?_ _ | with_reducible refine Ext.drew ?_ | (with_reducible refine Ext.setAt ?_ _ _ _ ?_; rotate_left; omega) | with_reducible refine Ext.trans ?_ (by assumption) | with_reducible exact Past.bel _ | with_reducible refine Ext.trans ?_ (Past.bel _))) ?_; intro v1 w1 ho1 hx1)
          · have hjt := jmp_t (o := o) (least := least) (j := j) (by assumption)
            exact ⟨⟨j + 1, by omega, by go_num, hx1, by rw [← hjt.2, ← hjt.1]; simpa using ho1, by omega⟩, by simp [intOf]; omega⟩
          · have hjf := jmp_f (o := o) (least := least) (j := j) (by assumption)
            exact ⟨⟨j + 1, by omega, by go_num, (by repeat (first | with_reducible exact Ext.refl _ | with_reducible assumption | with_reducible refine Ext.alloc ?_ _ | with_reducible refine Ext.drew ?_ | (with_reducible refine Ext.setAt ?_ _ _ _ ?_; rotate_left; omega) | with_reducible refine Ext.trans ?_ (by assumption) | with_reducible exact Past.bel _ | with_reducible refine Ext.trans ?_ (Past.bel _))), by rw [hjf]; exact own_ext HO.out (by repeat (first | with_reducible exact Ext.refl _ | with_reducible assumption | with_reducible refine Ext.alloc ?_ _ | with_reducible refine Ext.drew ?_ | (with_reducible refine Ext.setAt ?_ _ _ _ ?_; rotate_left; omega) | with_reducible refine Ext.trans ?_ (by assumption) | with_reducible exact Past.bel _ | with_reducible refine Ext.trans ?_ (Past.bel _))), by omega⟩, by simp [intOf]; omega⟩
        · obtain ⟨b, cap, rfl⟩ := own_form ho
          have he : jmpCode n f o least = 0 := by simp [jmpCode, HV.out, HL.out]
          have hr : jmpRes n f o least = jmp o least j := by
            rw [jmpRes, if_pos he]; congr 1; omega
          have HE := Lib.hid he
          have HR := Lib.hid hr
          clear ho he hr
          go_wp2_with fail
          go_ret2
          exact ⟨b, cap, ret_two (by rw [HR.out]; rfl) (congrArg _ HE.out.symm), (by repeat (first | with_reducible exact Ext.refl _ | with_reducible assumption | with_reducible refine Ext.alloc ?_ _ | with_reducible refine Ext.drew ?_ | (with_reducible refine Ext.setAt ?_ _ _ _ ?_; rotate_left; omega) | with_reducible refine Ext.trans ?_ (by assumption) | with_reducible exact Past.bel _ | with_reducible refine Ext.trans ?_ (Past.bel _))), by rw [HR.out]; exact HO.out⟩
    · have hf : inB least 0 200000 = false := by simpa using hl
      go_enter Try.func15, Try.ntmps15
      go_wp2_with (first | (go_at_call 20; ((with_reducible refine (validReadings_c _ _ _ _ _ _ hn (HS.out.ext (by repeat (first | with_reducible exact Ext.refl _ | with_reducible assumption | with_reducible refine Ext.alloc ?_ _ | with_reducible refine Ext.drew ?_ | (with_reducible refine Ext.setAt ?_ _ _ _ ?_; rotate_left; omega) | with_reducible refine Ext.trans ?_ (by assumption) | with_reducible exact Past.bel _ | with_reducible refine Ext.trans ?_ (Past.bel _))))).mono ?_); rintro e w' ⟨rfl, hx⟩; (first | (obtain ⟨wx, rfl⟩ := Past.again hx) | (obtain ⟨wx, rfl⟩ := Past.ofd hx) | (obtain ⟨wx, rfl⟩ := Past.of hx)))) | (go_at_call 50; ((with_reducible refine (within_c _ _ _ _).mono ?_); rintro e w' ⟨rfl, rfl⟩)))
      go_ret2
      have he : jmpCode n f o least = 2 := by simp [jmpCode, HV.out, hf]
      have hr : jmpRes n f o least = [] := by rw [jmpRes, he]; rfl
      exact ⟨none, 0, ret_two (by rw [hr]; rfl) (congrArg _ he.symm), (by repeat (first | with_reducible exact Ext.refl _ | with_reducible assumption | with_reducible refine Ext.alloc ?_ _ | with_reducible refine Ext.drew ?_ | (with_reducible refine Ext.setAt ?_ _ _ _ ?_; rotate_left; omega) | with_reducible refine Ext.trans ?_ (by assumption) | with_reducible exact Past.bel _ | with_reducible refine Ext.trans ?_ (Past.bel _))), by rw [hr]; exact World.ownsRow_nil _ _ _ _⟩
  · have hf : rdV n f o = false := by simpa using hv
    go_enter Try.func15, Try.ntmps15
    go_wp2_with (first | (go_at_call 20; ((with_reducible refine (validReadings_c _ _ _ _ _ _ hn (HS.out.ext (by repeat (first | with_reducible exact Ext.refl _ | with_reducible assumption | with_reducible refine Ext.alloc ?_ _ | with_reducible refine Ext.drew ?_ | (with_reducible refine Ext.setAt ?_ _ _ _ ?_; rotate_left; omega) | with_reducible refine Ext.trans ?_ (by assumption) | with_reducible exact Past.bel _ | with_reducible refine Ext.trans ?_ (Past.bel _))))).mono ?_); rintro e w' ⟨rfl, hx⟩; (first | (obtain ⟨wx, rfl⟩ := Past.again hx) | (obtain ⟨wx, rfl⟩ := Past.ofd hx) | (obtain ⟨wx, rfl⟩ := Past.of hx)))))
    go_ret2
    have he : jmpCode n f o least = 1 := by simp [jmpCode, hf]
    have hr : jmpRes n f o least = [] := by rw [jmpRes, he]; rfl
    exact ⟨none, 0, ret_two (by rw [hr]; rfl) (congrArg _ he.symm), (by repeat (first | with_reducible exact Ext.refl _ | with_reducible assumption | with_reducible refine Ext.alloc ?_ _ | with_reducible refine Ext.drew ?_ | (with_reducible refine Ext.setAt ?_ _ _ _ ?_; rotate_left; omega) | with_reducible refine Ext.trans ?_ (by assumption) | with_reducible exact Past.bel _ | with_reducible refine Ext.trans ?_ (Past.bel _))), by rw [hr]; exact World.ownsRow_nil _ _ _ _⟩
set_option maxRecDepth 100000 in
set_option maxHeartbeats 2000000 in
theorem specJumpsOf_c (a : Option Addr) (n c : Nat) (f o : Nat → Int) (least : Int) (w : World) (hn : n ≤ 1048576) (hs : S2 w a n f o) :
    Calls Try.prog 44 #[.slice a n c, .int .i64 least] w fun e w' => ∃ b cap, e = .returned (.tuple #[.slice b (jmpRes n f o least).length cap, .int .i64 (jmpCode n f o least)]) ∧ Ext w w' ∧
      w'.ownsRow w.heap.size 2 1 (.slice b (jmpRes n f o least).length cap) (jmpRes n f o least).length ((jmpRes n f o least).map (Value.int .i64)) := by
  have HS := Lib.hid hs
  clear hs
  by_cases hv : rdV n f o = true
  · have HV := Lib.hid hv
    by_cases hl : inB least 0 200000 = true
    · have HL := Lib.hid hl
      have r := rb_of hv
      have ob := offB_of r
      have h60 := ob.n60
      obtain ⟨i0, hi, hz0, hz1, hz2⟩ := info_parts info_i64
      go_enter Try.func44, Try.ntmps44
      go_wp2_with (first | (go_at_call 48; ((with_reducible refine (l14Ok_c _ _ _ _ _ _ hn (HS.out.ext (by repeat (first | with_reducible exact Ext.refl _ | with_reducible assumption | with_reducible refine Ext.alloc ?_ _ | with_reducible refine Ext.drew ?_ | (with_reducible refine Ext.setAt ?_ _ _ _ ?_; rotate_left; omega) | with_reducible refine Ext.trans ?_ (by assumption) | with_reducible exact Past.bel _ | with_reducible refine Ext.trans ?_ (Past.bel _))))).mono ?_); rintro e w' ⟨rfl, hx⟩; (first | (obtain ⟨wx, rfl⟩ := Past.again hx) | (obtain ⟨wx, rfl⟩ := Past.ofd hx) | (obtain ⟨wx, rfl⟩ := Past.of hx)))) | (go_at_call 63; ((with_reducible refine (l00In_c _ _ _ _).mono ?_); rintro e w' ⟨rfl, rfl⟩)))
      go_loopw [6, 7] (fun v i wr => ∃ j : Nat, j ≤ n ∧ i = .int .i64 ((j : Int) + 1) ∧ Ext w wr ∧ wr.ownsRow w.heap.size 2 1 v (jmp o least j).length ((jmp o least j).map (Value.int .i64)) ∧ (0 < j → j < n)) (fun _ i _ => n + 1 - (intOf i).toNat)
      case atStart => exact ⟨0, by omega, rfl, (by repeat (first | with_reducible exact Ext.refl _ | with_reducible assumption | with_reducible refine Ext.alloc ?_ _ | with_reducible refine Ext.drew ?_ | (with_reducible refine Ext.setAt ?_ _ _ _ ?_; rotate_left; omega) | with_reducible refine Ext.trans ?_ (by assumption) | with_reducible exact Past.bel _ | with_reducible refine Ext.trans ?_ (Past.bel _))), World.ownsRow_made _ #[] 0 (Ext.size (by repeat (first | with_reducible exact Ext.refl _ | with_reducible assumption | with_reducible refine Ext.alloc ?_ _ | with_reducible refine Ext.drew ?_ | (with_reducible refine Ext.setAt ?_ _ _ _ ?_; rotate_left; omega) | with_reducible refine Ext.trans ?_ (by assumption) | with_reducible exact Past.bel _ | with_reducible refine Ext.trans ?_ (Past.bel _)))) (Nat.zero_le _) rfl, by omega⟩
      case round =>
        obtain ⟨j, hj, rfl, hbl, ho, hj2⟩ := hrel
        have HO := Lib.hid ho
        by_cases hlt : j + 1 < n
        · obtain ⟨b1, o1, rfl, hb1, q1, q2⟩ := (S2.ext HS.out hbl).at (show j + 1 < n by omega)
          obtain ⟨_, _, hh, _, q3, q4⟩ := (S2.ext HS.out hbl).at (show j < n by omega)
          obtain ⟨rfl, rfl⟩ := by simpa using hh
          have p1 := ob.bo j (by omega)
          have p2 := ob.bo (j + 1) (by omega)
          clear ho
          go_wp2_with fail
          refine wp_region_past (by kernel_rfl) (by kernel_rfl) ?_
          repeat (go_big_quiet_step ((go_at_call 71; exact Calls.past_same (l02Size_c _ _ (by omega) (by omega)))))
          refine wpQuiet_nil ?_
          rintro _ ⟨wx, rfl⟩
          have hlen := jmp_len o least j
          go_wp2_with (at_builtin; refine app1 (w0 := w) 34 2 _ _ rfl rfl Try.underlying34 info_i64 _ (jmp o least j) ((j : Int) + 1) _ rfl rfl (own_ext HO.out (by repeat (first | with_reducible exact Ext.refl _ | with_reducible assumption | with_reducible refine Ext.alloc ?_ _ | with_reducible refine Ext.drew ?_ | (with_reducible refine Ext.setAt ?_ _ _ _ ?_; rotate_left; omega) | with_reducible refine Ext.trans ?_ (by assumption) | with_reducible exact Past.bel _ | with_reducible refine Ext.trans ?_ (Past.bel _)))) (by simp [go_sem]) (by omega) (by repeat (first | with_reducible exact Ext.refl _ | with_reducible assumption | with_reducible refine Ext.alloc ?_ _ | with_reducible refine Ext.drew ?_ | (with_reducible refine Ext.setAt ?_ _ _ _ ?_; rotate_left; omega) | with_reducible refine Ext.trans ?_ (by assumption) | with_reducible exact Past.bel _ | with_reducible refine Ext.trans ?_ (Past.bel _))) ?_; intro v1 w1 ho1 hx1)
          · have hjt := jmp_t (o := o) (least := least) (j := j) (by assumption)
            exact ⟨⟨j + 1, by omega, by go_num, hx1, by rw [← hjt.2, ← hjt.1]; simpa using ho1, by omega⟩, by simp [intOf]; omega⟩
          · have hjf := jmp_f (o := o) (least := least) (j := j) (by assumption)
            exact ⟨⟨j + 1, by omega, by go_num, (by repeat (first | with_reducible exact Ext.refl _ | with_reducible assumption | with_reducible refine Ext.alloc ?_ _ | with_reducible refine Ext.drew ?_ | (with_reducible refine Ext.setAt ?_ _ _ _ ?_; rotate_left; omega) | with_reducible refine Ext.trans ?_ (by assumption) | with_reducible exact Past.bel _ | with_reducible refine Ext.trans ?_ (Past.bel _))), by rw [hjf]; exact own_ext HO.out (by repeat (first | with_reducible exact Ext.refl _ | with_reducible assumption | with_reducible refine Ext.alloc ?_ _ | with_reducible refine Ext.drew ?_ | (with_reducible refine Ext.setAt ?_ _ _ _ ?_; rotate_left; omega) | with_reducible refine Ext.trans ?_ (by assumption) | with_reducible exact Past.bel _ | with_reducible refine Ext.trans ?_ (Past.bel _))), by omega⟩, by simp [intOf]; omega⟩
        · obtain ⟨b, cap, rfl⟩ := own_form ho
          have he : jmpCode n f o least = 0 := by simp [jmpCode, HV.out, HL.out]
          have hr : jmpRes n f o least = jmp o least j := by
            rw [jmpRes, if_pos he]; congr 1; omega
          have HE := Lib.hid he
          have HR := Lib.hid hr
          clear ho he hr
          go_wp2_with fail
          go_ret2
          exact ⟨b, cap, ret_two (by rw [HR.out]; rfl) (congrArg _ HE.out.symm), (by repeat (first | with_reducible exact Ext.refl _ | with_reducible assumption | with_reducible refine Ext.alloc ?_ _ | with_reducible refine Ext.drew ?_ | (with_reducible refine Ext.setAt ?_ _ _ _ ?_; rotate_left; omega) | with_reducible refine Ext.trans ?_ (by assumption) | with_reducible exact Past.bel _ | with_reducible refine Ext.trans ?_ (Past.bel _))), by rw [HR.out]; exact HO.out⟩
    · have hf : inB least 0 200000 = false := by simpa using hl
      go_enter Try.func44, Try.ntmps44
      go_wp2_with (first | (go_at_call 48; ((with_reducible refine (l14Ok_c _ _ _ _ _ _ hn (HS.out.ext (by repeat (first | with_reducible exact Ext.refl _ | with_reducible assumption | with_reducible refine Ext.alloc ?_ _ | with_reducible refine Ext.drew ?_ | (with_reducible refine Ext.setAt ?_ _ _ _ ?_; rotate_left; omega) | with_reducible refine Ext.trans ?_ (by assumption) | with_reducible exact Past.bel _ | with_reducible refine Ext.trans ?_ (Past.bel _))))).mono ?_); rintro e w' ⟨rfl, hx⟩; (first | (obtain ⟨wx, rfl⟩ := Past.again hx) | (obtain ⟨wx, rfl⟩ := Past.ofd hx) | (obtain ⟨wx, rfl⟩ := Past.of hx)))) | (go_at_call 63; ((with_reducible refine (l00In_c _ _ _ _).mono ?_); rintro e w' ⟨rfl, rfl⟩)))
      go_ret2
      have he : jmpCode n f o least = 2 := by simp [jmpCode, HV.out, hf]
      have hr : jmpRes n f o least = [] := by rw [jmpRes, he]; rfl
      exact ⟨none, 0, ret_two (by rw [hr]; rfl) (congrArg _ he.symm), (by repeat (first | with_reducible exact Ext.refl _ | with_reducible assumption | with_reducible refine Ext.alloc ?_ _ | with_reducible refine Ext.drew ?_ | (with_reducible refine Ext.setAt ?_ _ _ _ ?_; rotate_left; omega) | with_reducible refine Ext.trans ?_ (by assumption) | with_reducible exact Past.bel _ | with_reducible refine Ext.trans ?_ (Past.bel _))), by rw [hr]; exact World.ownsRow_nil _ _ _ _⟩
  · have hf : rdV n f o = false := by simpa using hv
    go_enter Try.func44, Try.ntmps44
    go_wp2_with (first | (go_at_call 48; ((with_reducible refine (l14Ok_c _ _ _ _ _ _ hn (HS.out.ext (by repeat (first | with_reducible exact Ext.refl _ | with_reducible assumption | with_reducible refine Ext.alloc ?_ _ | with_reducible refine Ext.drew ?_ | (with_reducible refine Ext.setAt ?_ _ _ _ ?_; rotate_left; omega) | with_reducible refine Ext.trans ?_ (by assumption) | with_reducible exact Past.bel _ | with_reducible refine Ext.trans ?_ (Past.bel _))))).mono ?_); rintro e w' ⟨rfl, hx⟩; (first | (obtain ⟨wx, rfl⟩ := Past.again hx) | (obtain ⟨wx, rfl⟩ := Past.ofd hx) | (obtain ⟨wx, rfl⟩ := Past.of hx)))))
    go_ret2
    have he : jmpCode n f o least = 1 := by simp [jmpCode, hf]
    have hr : jmpRes n f o least = [] := by rw [jmpRes, he]; rfl
    exact ⟨none, 0, ret_two (by rw [hr]; rfl) (congrArg _ he.symm), (by repeat (first | with_reducible exact Ext.refl _ | with_reducible assumption | with_reducible refine Ext.alloc ?_ _ | with_reducible refine Ext.drew ?_ | (with_reducible refine Ext.setAt ?_ _ _ _ ?_; rotate_left; omega) | with_reducible refine Ext.trans ?_ (by assumption) | with_reducible exact Past.bel _ | with_reducible refine Ext.trans ?_ (Past.bel _))), by rw [hr]; exact World.ownsRow_nil _ _ _ _⟩
end Go.Proofs.Ytmbpjlgeneemjaa

namespace Go.Proofs.Ytmbpjlgeneemjaa
open Go.RowKit
set_option linter.unusedVariables false
theorem app1s {P : Program} {w w0 : World} {ops : Array Oper} {o : Oper} {a : Act} {K : Act → World → Prop} {Q : Exit → Act → World → Prop} {E : Prop} (t e : TypeId) (s x : Operand)
    (hop : o.op = .call { callee := .builtin .append, args := #[s, x], argTypes := #[t, t] }) (hgd : o.guard = none)
    (ht : P.underlying t = some (.slice e)) (hinfo : (P.info? e).map (fun i => (i.zero, i.size, i.bytes)) = some (some (.int .i64 0), 1, 8))
    (v : Value) (l : List Int) (u : Int) (g : Nat) (hs : a.eval s = v) (hx : a.eval x = .slice (some ⟨g, 0, none⟩) 1 1) (hown : w.ownsRow w0.heap.size e 1 v l.length (l.map (Value.int .i64)))
    (hc : w.cell? ⟨g, 0, none⟩ = some (.int .i64 u)) (hl : l.length ≤ 1048576) (h0 : Ext w0 w)
    (hK : ∀ v' w', w'.ownsRow w0.heap.size e 1 v' (l ++ [u]).length ((l ++ [u]).map (Value.int .i64)) → Ext w0 w' → K (a.put o.dst v') w') :
    if Region.wanted o (yielded ops a.tmps) = true then Oper.wp P o a w K Q else E := by
  obtain ⟨i, hi, hz, hsz, hb⟩ := info_parts hinfo
  refine step_append_lies w hgd s x t hop w0.heap.size e i (.int .i64 0) 1 8 ht hi hz hsz hb rfl (by decide) v l.length _ hs hown ⟨g, 0, none⟩ 1 1 [.int .i64 u] hx rfl ?_ ?_ (by decide) ?_ ?_ h0.size _ rfl ?_
  · intro j z hz'
    cases j with
    | zero =>
      simp at hz'; subst hz'
      simpa [Addr.add] using hc
    | succ j => simp at hz'
  · intro z hz'
    simp at hz'; subst hz'; rfl
  · unfold maxLen; omega
  · omega
  · intro g' cap w' h1 h2 _ _
    refine hK _ w' ?_ (h0.grown h2 fun k hk => (hown.lt k hk).1)
    have e1 : (l ++ [u]).length = l.length + 1 := by simp
    rw [e1]; simpa using h1
end Go.Proofs.Ytmbpjlgeneemjaa

namespace Go.Proofs.Ytmbpjlgeneemjaa
open Go.RowKit
set_option linter.unusedVariables false
set_option linter.unusedSimpArgs false

theorem outs_own {w : World} {b e : Nat} {v : Value} {F : Nat → Int} {j : Nat} (h : w.ownsRow b e 1 v j ((outs F j).map (Value.int .i64))) : w.ownsRow b e 1 v (outs F j).length ((outs F j).map (Value.int .i64)) := by rw [outs_len]; exact h
theorem outs_step (F : Nat → Int) (j : Nat) : (outs F j ++ [F j]).map (Value.int .i64) = (outs F (j + 1)).map (Value.int .i64) := by simp [outs]
set_option maxRecDepth 100000 in
set_option maxHeartbeats 2000000 in
theorem implRatesBetween_c (a : Option Addr) (n c : Nat) (f o : Nat → Int) (w : World) (hn : n ≤ 1048576) (hs : S2 w a n f o) :
    Calls Try.prog 29 #[.slice a n c] w fun e w' => ∃ b cap, e = .returned (.tuple #[.slice b (rateRes n f o).length cap, .int .i64 (rateCode n f o)]) ∧ Ext w w' ∧
      w'.ownsRow w.heap.size 2 1 (.slice b (rateRes n f o).length cap) (rateRes n f o).length ((rateRes n f o).map (Value.int .i64)) := by
  have HS := Lib.hid hs
  clear hs
  by_cases hv : rdV n f o = true
  · have HV := Lib.hid hv
    have r := rb_of hv
    have R := Lib.hid r
    have h60 := r.n60
    clear r
    obtain ⟨i0, hi, hz0, hz1, hz2⟩ := info_parts info_i64
    go_enter Try.func29, Try.ntmps29
    go_wp2_with (first | (go_at_call 20; ((with_reducible refine (validReadings_c _ _ _ _ _ _ hn (HS.out.ext (by repeat (first | with_reducible exact Ext.refl _ | with_reducible assumption | with_reducible refine Ext.alloc ?_ _ | with_reducible refine Ext.drew ?_ | (with_reducible refine Ext.setAt ?_ _ _ _ ?_; rotate_left; omega) | with_reducible refine Ext.trans ?_ (by assumption) | with_reducible exact Past.bel _ | with_reducible refine Ext.trans ?_ (Past.bel _))))).mono ?_); rintro e w' ⟨rfl, hx⟩; (first | (obtain ⟨wx, rfl⟩ := Past.again hx) | (obtain ⟨wx, rfl⟩ := Past.ofd hx) | (obtain ⟨wx, rfl⟩ := Past.of hx)))))
    go_loopw [4, 5] (fun v i wr => ∃ j : Nat, j ≤ n ∧ i = .int .i64 ((j : Int) + 1) ∧ Ext w wr ∧ wr.ownsRow w.heap.size 2 1 v j ((outs (rateFn f o) j).map (Value.int .i64)) ∧ (0 < j → j < n)) (fun _ i _ => n + 1 - (intOf i).toNat)
    case atStart => exact ⟨0, by omega, rfl, (by repeat (first | with_reducible exact Ext.refl _ | with_reducible assumption | with_reducible refine Ext.alloc ?_ _ | with_reducible refine Ext.drew ?_ | (with_reducible refine Ext.setAt ?_ _ _ _ ?_; rotate_left; omega) | with_reducible refine Ext.trans ?_ (by assumption) | with_reducible exact Past.bel _ | with_reducible refine Ext.trans ?_ (Past.bel _))), World.ownsRow_nil _ _ _ _, by omega⟩
    case round =>
      obtain ⟨j, hj, rfl, hbl, ho, hj2⟩ := hrel
      have HO := Lib.hid ho
      clear ho
      by_cases hlt : j + 1 < n
      · obtain ⟨b1, o1, rfl, hb1, q1, q2⟩ := HS.out.at (show j + 1 < n by omega)
        obtain ⟨_, _, hh, _, q3, q4⟩ := HS.out.at (show j < n by omega)
        obtain ⟨rfl, rfl⟩ := by simpa using hh
        have p1 := R.out.bo j (by omega)
        have p2 := R.out.bo (j + 1) (by omega)
        have p3 := R.out.bh j (by omega)
        have p4 := R.out.bh (j + 1) (by omega)
        have p5 := R.out.up j (by omega)
        have SK : ∀ w', Ext w w' → (w'.cell? ⟨b1, o1 + (j + 1) * 2, none⟩ = some (.int .i64 (f (j + 1))) ∧ w'.cell? ⟨b1, o1 + (j + 1) * 2 + 1, none⟩ = some (.int .i64 (o (j + 1))) ∧ w'.cell? ⟨b1, o1 + j * 2, none⟩ = some (.int .i64 (f j)) ∧ w'.cell? ⟨b1, o1 + j * 2 + 1, none⟩ = some (.int .i64 (o j))) := fun w' hq => by
          refine ⟨?_, ?_, ?_, ?_⟩ <;> (rw [hq.cell (by assumption)]; assumption)
        have SK' := Lib.hid SK
        clear SK q1 q2 q3 q4
        have e1 := IntWalk.i64_in (o (j + 1) - o j) (by omega)
        have e2 := IntWalk.i64_in (24000 * (o (j + 1) - o j)) (by omega)
        have e3 := IntWalk.i64_in (f (j + 1) - f j) (by omega)
        have x0 : (0 : Int) ≤ (j : Int) + 1 := by omega
        have x1 : (j : Int) + 1 < (n : Int) := by omega
        have x2 : (j : Int) < (n : Int) := by omega
        have x3 := IntWalk.i64_in (j : Int) (by omega)
        have x4 : (0 : Int) ≤ (j : Int) := by omega
        have c5 : ∀ W, Calls Try.prog 55 #[.int .i64 (24000 * (o (j + 1) - o j)), .int .i64 (f (j + 1) - f j)] W fun e w' => e = .returned (.int .i64 (rateFn f o j)) ∧ W = w' := fun W => nearestDiv_c _ _ _ (by omega) (by omega) (by omega) (by omega)
        have C5 := Lib.hid c5
        clear c5
        go_wp2_with fail
        go_region_held3 (fun w' => w'.cell? ⟨b1, o1 + (j + 1) * 2, none⟩ = some (.int .i64 (f (j + 1))) ∧ w'.cell? ⟨b1, o1 + (j + 1) * 2 + 1, none⟩ = some (.int .i64 (o (j + 1))) ∧ w'.cell? ⟨b1, o1 + j * 2, none⟩ = some (.int .i64 (f j)) ∧ w'.cell? ⟨b1, o1 + j * 2 + 1, none⟩ = some (.int .i64 (o j))) (exact SK'.out _ (by repeat (first | with_reducible exact Ext.refl _ | with_reducible assumption | with_reducible refine Ext.alloc ?_ _ | with_reducible refine Ext.drew ?_ | (with_reducible refine Ext.setAt ?_ _ _ _ ?_; rotate_left; omega) | with_reducible refine Ext.trans ?_ (by assumption) | with_reducible exact Past.bel _ | with_reducible refine Ext.trans ?_ (Past.bel _)))) (first | (go_at_call 55; ((with_reducible refine (C5.out _).mono ?_); rintro e w' ⟨rfl, rfl⟩)) | (refine app1s (w0 := w) 34 2 _ _ (by rfl) (by rfl) Try.underlying34 info_i64 _ (outs (rateFn f o) j) (rateFn f o j) _ (by rfl) (by rfl) (own_ext (outs_own HO.out) (by repeat (first | with_reducible exact Ext.refl _ | with_reducible assumption | with_reducible refine Ext.alloc ?_ _ | with_reducible refine Ext.drew ?_ | (with_reducible refine Ext.setAt ?_ _ _ _ ?_; rotate_left; omega) | with_reducible refine Ext.trans ?_ (by assumption) | with_reducible exact Past.bel _ | with_reducible refine Ext.trans ?_ (Past.bel _)))) (by simp [go_sem]) (by rw [outs_len]; omega) (by repeat (first | with_reducible exact Ext.refl _ | with_reducible assumption | with_reducible refine Ext.alloc ?_ _ | with_reducible refine Ext.drew ?_ | (with_reducible refine Ext.setAt ?_ _ _ _ ?_; rotate_left; omega) | with_reducible refine Ext.trans ?_ (by assumption) | with_reducible exact Past.bel _ | with_reducible refine Ext.trans ?_ (Past.bel _))) ?_; intro v1 w1 ho1 hx1))
        all_goals (go_wp2_with fail; exact ⟨⟨j + 1, by omega, by go_num, hx1, by rw [← outs_step]; simpa [outs_len] using ho1, by omega⟩, by simp [intOf]; omega⟩)
      · obtain ⟨b, cap, rfl⟩ := own_form HO.out
        have he : rateCode n f o = 0 := by simp [rateCode, hv]
        have hl : j = n - 1 := by omega
        subst hl
        have hr : rateRes n f o = outs (rateFn f o) (n - 1) := by rw [rateRes, if_pos hv]
        have HE := Lib.hid he
        have HR := Lib.hid hr
        clear he hr
        go_wp2_with fail
        go_ret2
        exact ⟨b, cap, ret_two (by simp [HR.out, outs_len]) (congrArg _ HE.out.symm), (by repeat (first | with_reducible exact Ext.refl _ | with_reducible assumption | with_reducible refine Ext.alloc ?_ _ | with_reducible refine Ext.drew ?_ | (with_reducible refine Ext.setAt ?_ _ _ _ ?_; rotate_left; omega) | with_reducible refine Ext.trans ?_ (by assumption) | with_reducible exact Past.bel _ | with_reducible refine Ext.trans ?_ (Past.bel _))), by rw [HR.out]; exact (by simpa [outs_len] using HO.out)⟩
  · have hf : rdV n f o = false := by simpa using hv
    go_enter Try.func29, Try.ntmps29
    go_wp2_with (first | (go_at_call 20; ((with_reducible refine (validReadings_c _ _ _ _ _ _ hn (HS.out.ext (by repeat (first | with_reducible exact Ext.refl _ | with_reducible assumption | with_reducible refine Ext.alloc ?_ _ | with_reducible refine Ext.drew ?_ | (with_reducible refine Ext.setAt ?_ _ _ _ ?_; rotate_left; omega) | with_reducible refine Ext.trans ?_ (by assumption) | with_reducible exact Past.bel _ | with_reducible refine Ext.trans ?_ (Past.bel _))))).mono ?_); rintro e w' ⟨rfl, hx⟩; (first | (obtain ⟨wx, rfl⟩ := Past.again hx) | (obtain ⟨wx, rfl⟩ := Past.ofd hx) | (obtain ⟨wx, rfl⟩ := Past.of hx)))))
    go_ret2
    have he : rateCode n f o = 1 := by simp [rateCode, hf]
    have hr : rateRes n f o = [] := by rw [rateRes, hf]; rfl
    exact ⟨none, 0, ret_two (by rw [hr]; rfl) (congrArg _ he.symm), (by repeat (first | with_reducible exact Ext.refl _ | with_reducible assumption | with_reducible refine Ext.alloc ?_ _ | with_reducible refine Ext.drew ?_ | (with_reducible refine Ext.setAt ?_ _ _ _ ?_; rotate_left; omega) | with_reducible refine Ext.trans ?_ (by assumption) | with_reducible exact Past.bel _ | with_reducible refine Ext.trans ?_ (Past.bel _))), by rw [hr]; exact World.ownsRow_nil _ _ _ _⟩
set_option maxRecDepth 100000 in
set_option maxHeartbeats 2000000 in
theorem specRatesBetween_c (a : Option Addr) (n c : Nat) (f o : Nat → Int) (w : World) (hn : n ≤ 1048576) (hs : S2 w a n f o) :
    Calls Try.prog 30 #[.slice a n c] w fun e w' => ∃ b cap, e = .returned (.tuple #[.slice b (rateRes n f o).length cap, .int .i64 (rateCode n f o)]) ∧ Ext w w' ∧
      w'.ownsRow w.heap.size 2 1 (.slice b (rateRes n f o).length cap) (rateRes n f o).length ((rateRes n f o).map (Value.int .i64)) := by
  have HS := Lib.hid hs
  clear hs
  by_cases hv : rdV n f o = true
  · have HV := Lib.hid hv
    have r := rb_of hv
    have R := Lib.hid r
    have h60 := r.n60
    clear r
    obtain ⟨i0, hi, hz0, hz1, hz2⟩ := info_parts info_i64
    go_enter Try.func30, Try.ntmps30
    go_wp2_with (first | (go_at_call 48; ((with_reducible refine (l14Ok_c _ _ _ _ _ _ hn (HS.out.ext (by repeat (first | with_reducible exact Ext.refl _ | with_reducible assumption | with_reducible refine Ext.alloc ?_ _ | with_reducible refine Ext.drew ?_ | (with_reducible refine Ext.setAt ?_ _ _ _ ?_; rotate_left; omega) | with_reducible refine Ext.trans ?_ (by assumption) | with_reducible exact Past.bel _ | with_reducible refine Ext.trans ?_ (Past.bel _))))).mono ?_); rintro e w' ⟨rfl, hx⟩; (first | (obtain ⟨wx, rfl⟩ := Past.again hx) | (obtain ⟨wx, rfl⟩ := Past.ofd hx) | (obtain ⟨wx, rfl⟩ := Past.of hx)))))
    go_loopw [4, 5] (fun v i wr => ∃ j : Nat, j ≤ n ∧ i = .int .i64 ((j : Int) + 1) ∧ Ext w wr ∧ wr.ownsRow w.heap.size 2 1 v j ((outs (rateFn f o) j).map (Value.int .i64)) ∧ (0 < j → j < n)) (fun _ i _ => n + 1 - (intOf i).toNat)
    case atStart => exact ⟨0, by omega, rfl, (by repeat (first | with_reducible exact Ext.refl _ | with_reducible assumption | with_reducible refine Ext.alloc ?_ _ | with_reducible refine Ext.drew ?_ | (with_reducible refine Ext.setAt ?_ _ _ _ ?_; rotate_left; omega) | with_reducible refine Ext.trans ?_ (by assumption) | with_reducible exact Past.bel _ | with_reducible refine Ext.trans ?_ (Past.bel _))), World.ownsRow_made _ #[] 0 (Ext.size (by repeat (first | with_reducible exact Ext.refl _ | with_reducible assumption | with_reducible refine Ext.alloc ?_ _ | with_reducible refine Ext.drew ?_ | (with_reducible refine Ext.setAt ?_ _ _ _ ?_; rotate_left; omega) | with_reducible refine Ext.trans ?_ (by assumption) | with_reducible exact Past.bel _ | with_reducible refine Ext.trans ?_ (Past.bel _)))) (Nat.zero_le _) rfl, by omega⟩
    case round =>
      obtain ⟨j, hj, rfl, hbl, ho, hj2⟩ := hrel
      have HO := Lib.hid ho
      clear ho
      by_cases hlt : j + 1 < n
      · obtain ⟨b1, o1, rfl, hb1, q1, q2⟩ := HS.out.at (show j + 1 < n by omega)
        obtain ⟨_, _, hh, _, q3, q4⟩ := HS.out.at (show j < n by omega)
        obtain ⟨rfl, rfl⟩ := by simpa using hh
        have p1 := R.out.bo j (by omega)
        have p2 := R.out.bo (j + 1) (by omega)
        have p3 := R.out.bh j (by omega)
        have p4 := R.out.bh (j + 1) (by omega)
        have p5 := R.out.up j (by omega)
        have SK : ∀ w', Ext w w' → (w'.cell? ⟨b1, o1 + (j + 1) * 2, none⟩ = some (.int .i64 (f (j + 1))) ∧ w'.cell? ⟨b1, o1 + (j + 1) * 2 + 1, none⟩ = some (.int .i64 (o (j + 1))) ∧ w'.cell? ⟨b1, o1 + j * 2, none⟩ = some (.int .i64 (f j)) ∧ w'.cell? ⟨b1, o1 + j * 2 + 1, none⟩ = some (.int .i64 (o j))) := fun w' hq => by
          refine ⟨?_, ?_, ?_, ?_⟩ <;> (rw [hq.cell (by assumption)]; assumption)
        have SK' := Lib.hid SK
        clear SK q1 q2 q3 q4
        have e1 := IntWalk.i64_in (o (j + 1) - o j) (by omega)
        have e2 := IntWalk.i64_in (24000 * (o (j + 1) - o j)) (by omega)
        have e3 := IntWalk.i64_in (f (j + 1) - f j) (by omega)
        have x0 : (0 : Int) ≤ (j : Int) + 1 := by omega
        have x1 : (j : Int) + 1 < (n : Int) := by omega
        have x2 : (j : Int) < (n : Int) := by omega
        have x3 := IntWalk.i64_in (j : Int) (by omega)
        have x4 : (0 : Int) ≤ (j : Int) := by omega
        have c5 : ∀ W, Calls Try.prog 58 #[.int .i64 (24000 * (o (j + 1) - o j)), .int .i64 (f (j + 1) - f j)] W fun e w' => e = .returned (.int .i64 (rateFn f o j)) ∧ W = w' := fun W => l02Near_c _ _ _ (by omega) (by omega) (by omega) (by omega)
        have C5 := Lib.hid c5
        clear c5
        go_wp2_with fail
        go_region_held3 (fun w' => w'.cell? ⟨b1, o1 + (j + 1) * 2, none⟩ = some (.int .i64 (f (j + 1))) ∧ w'.cell? ⟨b1, o1 + (j + 1) * 2 + 1, none⟩ = some (.int .i64 (o (j + 1))) ∧ w'.cell? ⟨b1, o1 + j * 2, none⟩ = some (.int .i64 (f j)) ∧ w'.cell? ⟨b1, o1 + j * 2 + 1, none⟩ = some (.int .i64 (o j))) (exact SK'.out _ (by repeat (first | with_reducible exact Ext.refl _ | with_reducible assumption | with_reducible refine Ext.alloc ?_ _ | with_reducible refine Ext.drew ?_ | (with_reducible refine Ext.setAt ?_ _ _ _ ?_; rotate_left; omega) | with_reducible refine Ext.trans ?_ (by assumption) | with_reducible exact Past.bel _ | with_reducible refine Ext.trans ?_ (Past.bel _)))) (first | (go_at_call 58; ((with_reducible refine (C5.out _).mono ?_); rintro e w' ⟨rfl, rfl⟩)) | (refine app1s (w0 := w) 34 2 _ _ (by rfl) (by rfl) Try.underlying34 info_i64 _ (outs (rateFn f o) j) (rateFn f o j) _ (by rfl) (by rfl) (own_ext (outs_own HO.out) (by repeat (first | with_reducible exact Ext.refl _ | with_reducible assumption | with_reducible refine Ext.alloc ?_ _ | with_reducible refine Ext.drew ?_ | (with_reducible refine Ext.setAt ?_ _ _ _ ?_; rotate_left; omega) | with_reducible refine Ext.trans ?_ (by assumption) | with_reducible exact Past.bel _ | with_reducible refine Ext.trans ?_ (Past.bel _)))) (by simp [go_sem]) (by rw [outs_len]; omega) (by repeat (first | with_reducible exact Ext.refl _ | with_reducible assumption | with_reducible refine Ext.alloc ?_ _ | with_reducible refine Ext.drew ?_ | (with_reducible refine Ext.setAt ?_ _ _ _ ?_; rotate_left; omega) | with_reducible refine Ext.trans ?_ (by assumption) | with_reducible exact Past.bel _ | with_reducible refine Ext.trans ?_ (Past.bel _))) ?_; intro v1 w1 ho1 hx1))
        all_goals (go_wp2_with fail; exact ⟨⟨j + 1, by omega, by go_num, hx1, by rw [← outs_step]; simpa [outs_len] using ho1, by omega⟩, by simp [intOf]; omega⟩)
      · obtain ⟨b, cap, rfl⟩ := own_form HO.out
        have he : rateCode n f o = 0 := by simp [rateCode, hv]
        have hl : j = n - 1 := by omega
        subst hl
        have hr : rateRes n f o = outs (rateFn f o) (n - 1) := by rw [rateRes, if_pos hv]
        have HE := Lib.hid he
        have HR := Lib.hid hr
        clear he hr
        go_wp2_with fail
        go_ret2
        exact ⟨b, cap, ret_two (by simp [HR.out, outs_len]) (congrArg _ HE.out.symm), (by repeat (first | with_reducible exact Ext.refl _ | with_reducible assumption | with_reducible refine Ext.alloc ?_ _ | with_reducible refine Ext.drew ?_ | (with_reducible refine Ext.setAt ?_ _ _ _ ?_; rotate_left; omega) | with_reducible refine Ext.trans ?_ (by assumption) | with_reducible exact Past.bel _ | with_reducible refine Ext.trans ?_ (Past.bel _))), by rw [HR.out]; exact (by simpa [outs_len] using HO.out)⟩
  · have hf : rdV n f o = false := by simpa using hv
    go_enter Try.func30, Try.ntmps30
    go_wp2_with (first | (go_at_call 48; ((with_reducible refine (l14Ok_c _ _ _ _ _ _ hn (HS.out.ext (by repeat (first | with_reducible exact Ext.refl _ | with_reducible assumption | with_reducible refine Ext.alloc ?_ _ | with_reducible refine Ext.drew ?_ | (with_reducible refine Ext.setAt ?_ _ _ _ ?_; rotate_left; omega) | with_reducible refine Ext.trans ?_ (by assumption) | with_reducible exact Past.bel _ | with_reducible refine Ext.trans ?_ (Past.bel _))))).mono ?_); rintro e w' ⟨rfl, hx⟩; (first | (obtain ⟨wx, rfl⟩ := Past.again hx) | (obtain ⟨wx, rfl⟩ := Past.ofd hx) | (obtain ⟨wx, rfl⟩ := Past.of hx)))))
    go_ret2
    have he : rateCode n f o = 1 := by simp [rateCode, hf]
    have hr : rateRes n f o = [] := by rw [rateRes, hf]; rfl
    exact ⟨none, 0, ret_two (by rw [hr]; rfl) (congrArg _ he.symm), (by repeat (first | with_reducible exact Ext.refl _ | with_reducible assumption | with_reducible refine Ext.alloc ?_ _ | with_reducible refine Ext.drew ?_ | (with_reducible refine Ext.setAt ?_ _ _ _ ?_; rotate_left; omega) | with_reducible refine Ext.trans ?_ (by assumption) | with_reducible exact Past.bel _ | with_reducible refine Ext.trans ?_ (Past.bel _))), by rw [hr]; exact World.ownsRow_nil _ _ _ _⟩
end Go.Proofs.Ytmbpjlgeneemjaa

namespace Go.Proofs.Ytmbpjlgeneemjaa
open Go.RowKit
set_option linter.unusedVariables false
theorem app1t {P : Program} {w w0 : World} {ops : Array Oper} {o : Oper} {a : Act} {K : Act → World → Prop} {Q : Exit → Act → World → Prop} {E : Prop} (t e : TypeId) (s x : Operand)
    (hop : o.op = .call { callee := .builtin .append, args := #[s, x], argTypes := #[t, t] }) (hgd : o.guard = none)
    (ht : P.underlying t = some (.slice e)) (hinfo : (P.info? e).map (fun i => (i.zero, i.size, i.bytes)) = some (some (.int .i64 0), 1, 8))
    (v : Value) (l : List Int) (u : Int) (g : Nat) (hs : a.eval s = v) (hx : a.eval x = .slice (some ⟨g, 0, none⟩) 1 1) (hown : w.ownsRow w0.heap.size e 1 v l.length (l.map (Value.int .i64)))
    (hc : w.cell? ⟨g, 0, none⟩ = some (.int .i64 u)) (hl : l.length ≤ 1048576) (h0 : Ext w0 w)
    (hK : ∀ v' w', w'.ownsRow w0.heap.size e 1 v' (l ++ [u]).length ((l ++ [u]).map (Value.int .i64)) → Ext w0 w' → (∀ b i, b < w.heap.size → v.ownBlock ≠ some b → w'.cell? ⟨b, i, none⟩ = w.cell? ⟨b, i, none⟩) → K (a.put o.dst v') w') :
    if Region.wanted o (yielded ops a.tmps) = true then Oper.wp P o a w K Q else E := by
  obtain ⟨i, hi, hz, hsz, hb⟩ := info_parts hinfo
  refine step_append_lies w hgd s x t hop w0.heap.size e i (.int .i64 0) 1 8 ht hi hz hsz hb rfl (by decide) v l.length _ hs hown ⟨g, 0, none⟩ 1 1 [.int .i64 u] hx rfl ?_ ?_ (by decide) ?_ ?_ h0.size _ rfl ?_
  · intro j z hz'
    cases j with
    | zero =>
      simp at hz'; subst hz'
      simpa [Addr.add] using hc
    | succ j => simp at hz'
  · intro z hz'
    simp at hz'; subst hz'; rfl
  · unfold maxLen; omega
  · omega
  · intro g' cap w' h1 h2 _ _
    refine hK _ w' ?_ (h0.grown h2 fun k hk => (hown.lt k hk).1) (fun b i hb hne => h2.cell_far ⟨b, i, none⟩ hb (fun e => hne e.symm))
    have e1 : (l ++ [u]).length = l.length + 1 := by simp
    rw [e1]; simpa using h1
theorem own_base {w : World} {b0 b1 : Nat} {e : TypeId} {s : Nat} {v : Value} {n : Nat} {xs : List Value} (h : w.ownsRow b1 e s v n xs) (hb : b0 ≤ b1) : w.ownsRow b0 e s v n xs := by
  obtain ⟨h1, h2⟩ := h
  refine ⟨h1, ?_⟩
  rcases h2 with h2 | ⟨g, cap, cur, a, b, c⟩
  · exact .inl h2
  · exact .inr ⟨g, cap, cur, a, Nat.le_trans hb b, c⟩
end Go.Proofs.Ytmbpjlgeneemjaa

namespace Go.Proofs.Ytmbpjlgeneemjaa
open Go.RowKit
set_option linter.unusedVariables false
set_option linter.unusedSimpArgs false

def resFn (n : Nat) (h o : Nat → Int) (j : Nat) : Int := IntKind.i64.wrap (o j - lineAt n h o j)
def resRes (n : Nat) (h o : Nat → Int) : List Int := if resCode n h o = 0 then outs (resFn n h o) n else []
theorem resRes_len (n : Nat) (h o : Nat → Int) : (resRes n h o).length ≤ n := by
  unfold resRes; split
  · rw [outs_len]; omega
  · simp
set_option maxRecDepth 100000 in
set_option maxHeartbeats 2000000 in
theorem specResidualsOf_c (a : Option Addr) (n c : Nat) (f o : Nat → Int) (w : World) (hn : n ≤ 1048576) (hs : S2 w a n f o) :
    Calls Try.prog 28 #[.slice a n c] w fun e w' => ∃ b cap, e = .returned (.tuple #[.slice b (resRes n f o).length cap, .int .i64 (resCode n f o)]) ∧ Ext w w' ∧
      w'.ownsRow w.heap.size 2 1 (.slice b (resRes n f o).length cap) (resRes n f o).length ((resRes n f o).map (Value.int .i64)) := by
  have HS := Lib.hid hs
  clear hs
  by_cases hv : rdV n f o = true
  · have HV := Lib.hid hv
    have r := rb_of hv
    have R := Lib.hid r
    have h60 := r.n60
    clear r
    obtain ⟨i0, hi, hz0, hz1, hz2⟩ := info_parts info_i64
    obtain ⟨X, hX⟩ : ∃ X, X = sm f n := ⟨_, rfl⟩
    obtain ⟨Y, hY⟩ : ∃ Y, Y = sm o n := ⟨_, rfl⟩
    obtain ⟨XX, hXX⟩ : ∃ XX, XX = sXX f n := ⟨_, rfl⟩
    obtain ⟨XY, hXY⟩ : ∃ XY, XY = sXY f o n := ⟨_, rfl⟩
    obtain ⟨C, hC⟩ : ∃ C, C = resCode n f o := ⟨_, rfl⟩
    have hf : ∀ W, S2 W a n f o → Calls Try.prog 52 #[.slice a n c] W fun e w' => e = .returned (.agg #[.int .i64 n, .int .i64 X, .int .i64 Y, .int .i64 XX, .int .i64 XY]) ∧ Ext W w' := fun W hs => by
      rw [hX, hY, hXX, hXY]; exact l14Fit_c _ _ _ _ _ W hv hs
    have HF := Lib.hid hf
    have hcd : ∀ W, Calls Try.prog 56 #[.agg #[.int .i64 n, .int .i64 X, .int .i64 Y, .int .i64 XX, .int .i64 XY]] W fun e w' => e = .returned (.int .i64 C) ∧ Ext W w' := fun W => by
      rw [hX, hY, hXX, hXY, hC, ← resCode_f hv]; exact l14Code_c _ _ _ _ _ W
    have HCD := Lib.hid hcd
    have hat : C = 0 → ∀ j, j < n → ∀ W, Calls Try.prog 57 #[.agg #[.int .i64 n, .int .i64 X, .int .i64 Y, .int .i64 XX, .int .i64 XY], .int .i64 (f j)] W fun e w' => e = .returned (.int .i64 (lineAt n f o j)) ∧ Ext W w' := fun h0 j hj W => by
      rw [hX, hY, hXX, hXY]; exact l14At_c _ _ _ _ _ _ (by rw [resCode_f hv, ← hC]; exact h0) (R.out.bh j hj).1 (R.out.bh j hj).2 W
    have HAT := Lib.hid hat
    have HC := Lib.hid hC
    clear hf hcd hat hX hY hXX hXY hC
    by_cases hc0 : C = 0
    · have hHAT := HAT.out hc0
      have HAT' := Lib.hid hHAT
      subst hc0
      clear HAT hHAT
      go_enter Try.func28, Try.ntmps28
      go_upto_region 4 with (first | (go_at_call 48; ((with_reducible refine (l14Ok_c _ _ _ _ _ _ hn (HS.out.ext (by repeat (first | with_reducible exact Ext.refl _ | with_reducible assumption | with_reducible refine Ext.alloc ?_ _ | with_reducible refine Ext.drew ?_ | (with_reducible refine Ext.setAt ?_ _ _ _ ?_; rotate_left; omega) | with_reducible refine Ext.trans ?_ (by assumption) | with_reducible exact Past.bel _ | with_reducible refine Ext.trans ?_ (Past.bel _))))).mono ?_); rintro e w' ⟨rfl, hx⟩; (first | (obtain ⟨wx, rfl⟩ := Past.again hx) | (obtain ⟨wx, rfl⟩ := Past.ofd hx) | (obtain ⟨wx, rfl⟩ := Past.of hx)))) | (go_at_call 52; ((with_reducible refine (HF.out _ (HS.out.ext (by repeat (first | with_reducible exact Ext.refl _ | with_reducible assumption | with_reducible refine Ext.alloc ?_ _ | with_reducible refine Ext.drew ?_ | (with_reducible refine Ext.setAt ?_ _ _ _ ?_; rotate_left; omega) | with_reducible refine Ext.trans ?_ (by assumption) | with_reducible exact Past.bel _ | with_reducible refine Ext.trans ?_ (Past.bel _))))).mono ?_); rintro e w' ⟨rfl, hx⟩; (first | (obtain ⟨wx, rfl⟩ := Past.again hx) | (obtain ⟨wx, rfl⟩ := Past.ofd hx) | (obtain ⟨wx, rfl⟩ := Past.of hx)))))
      go_cut [4, 14] (fun s4 s14 wx => ∃ g : Nat, s4 = .pointer (some ⟨g, 0, none⟩) ∧ s14 = .bool false ∧ Ext w wx ∧ g < wx.heap.size ∧ wx.cell? ⟨g, 0, none⟩ = some (.int .i64 n) ∧ wx.cell? ⟨g, 1, none⟩ = some (.int .i64 X) ∧ wx.cell? ⟨g, 2, none⟩ = some (.int .i64 Y) ∧ wx.cell? ⟨g, 3, none⟩ = some (.int .i64 XX) ∧ wx.cell? ⟨g, 4, none⟩ = some (.int .i64 XY))
      case first =>
        go_wp2_with (go_at_call 56; ((with_reducible refine (HCD.out _).mono ?_); rintro e w' ⟨rfl, hx⟩; (first | (obtain ⟨wx, rfl⟩ := Past.again hx) | (obtain ⟨wx, rfl⟩ := Past.ofd hx) | (obtain ⟨wx, rfl⟩ := Past.of hx)); have hz := Past.size wx; (try simp only [World.size_alloc, World.size_drew] at hz)))
        go_meet
        exact ⟨_, rfl, by simp, (by repeat (first | with_reducible exact Ext.refl _ | with_reducible assumption | with_reducible refine Ext.alloc ?_ _ | with_reducible refine Ext.drew ?_ | (with_reducible refine Ext.setAt ?_ _ _ _ ?_; rotate_left; omega) | with_reducible refine Ext.trans ?_ (by assumption) | with_reducible exact Past.bel _ | with_reducible refine Ext.trans ?_ (Past.bel _))), by (try simp); omega, by simp [go_sem]⟩
      case rest =>
        obtain ⟨g, rfl, rfl, hx0, hg, k0, k1, k2, k3, k4⟩ := hcut
        obtain ⟨v1, rfl⟩ : ∃ v1 : World, v1 = wc := ⟨_, rfl⟩
        have hsv := HS.out.ext hx0
        have HV1 := Lib.hid hsv
        clear hsv
        have FK : ∀ w', Ext v1 w' → (w'.cell? ⟨g, 0, none⟩ = some (.int .i64 n) ∧ w'.cell? ⟨g, 1, none⟩ = some (.int .i64 X) ∧ w'.cell? ⟨g, 2, none⟩ = some (.int .i64 Y) ∧ w'.cell? ⟨g, 3, none⟩ = some (.int .i64 XX) ∧ w'.cell? ⟨g, 4, none⟩ = some (.int .i64 XY)) := fun w' hq => by
          refine ⟨?_, ?_, ?_, ?_, ?_⟩ <;> (rw [hq.cell (by assumption)]; assumption)
        have FK' := Lib.hid FK
        clear FK k0 k1 k2 k3 k4
        go_wp2_with fail
        go_loopw [5, 6] (fun v i wr => ∃ j : Nat, j ≤ n ∧ i = .int .i64 (j : Int) ∧ Ext v1 wr ∧ wr.ownsRow v1.heap.size 2 1 v j ((outs (resFn n f o) j).map (Value.int .i64))) (fun _ i _ => n - (intOf i).toNat)
        case atStart => exact ⟨0, by omega, rfl, (by repeat (first | with_reducible exact Ext.refl _ | with_reducible assumption | with_reducible refine Ext.alloc ?_ _ | with_reducible refine Ext.drew ?_ | (with_reducible refine Ext.setAt ?_ _ _ _ ?_; rotate_left; omega) | with_reducible refine Ext.trans ?_ (by assumption) | with_reducible exact Past.bel _ | with_reducible refine Ext.trans ?_ (Past.bel _))), World.ownsRow_made _ #[] 0 (Ext.size (by repeat (first | with_reducible exact Ext.refl _ | with_reducible assumption | with_reducible refine Ext.alloc ?_ _ | with_reducible refine Ext.drew ?_ | (with_reducible refine Ext.setAt ?_ _ _ _ ?_; rotate_left; omega) | with_reducible refine Ext.trans ?_ (by assumption) | with_reducible exact Past.bel _ | with_reducible refine Ext.trans ?_ (Past.bel _)))) (Nat.zero_le _) rfl⟩
        case round =>
          obtain ⟨j, hj, rfl, hbl, ho⟩ := hrel
          have HO := Lib.hid ho
          clear ho
          by_cases hlt : j < n
          · obtain ⟨b1, o1, rfl, hb1, q3, q4⟩ := HV1.out.at hlt
            have SK : ∀ w', Ext v1 w' → (w'.cell? ⟨g, 0, none⟩ = some (.int .i64 n) ∧ w'.cell? ⟨g, 1, none⟩ = some (.int .i64 X) ∧ w'.cell? ⟨g, 2, none⟩ = some (.int .i64 Y) ∧ w'.cell? ⟨g, 3, none⟩ = some (.int .i64 XX) ∧ w'.cell? ⟨g, 4, none⟩ = some (.int .i64 XY) ∧ w'.cell? ⟨b1, o1 + j * 2, none⟩ = some (.int .i64 (f j)) ∧ w'.cell? ⟨b1, o1 + j * 2 + 1, none⟩ = some (.int .i64 (o j))) := fun w' hq => by
              obtain ⟨k0, k1, k2, k3, k4⟩ := FK'.out _ hq
              refine ⟨k0, k1, k2, k3, k4, ?_, ?_⟩ <;> (rw [hq.cell (by assumption)]; assumption)
            have SK' := Lib.hid SK
            clear SK q3 q4
            have e1 : IntKind.i64.wrap (o j - lineAt n f o j) = resFn n f o j := rfl
            have x2 : (j : Int) < (n : Int) := by omega
            have x4 : (0 : Int) ≤ (j : Int) := by omega
            have c5 := HAT'.out j hlt
            have C5 := Lib.hid c5
            clear c5
            go_wp2_with fail
            go_region_held3 (fun w' => w'.cell? ⟨g, 0, none⟩ = some (.int .i64 n) ∧ w'.cell? ⟨g, 1, none⟩ = some (.int .i64 X) ∧ w'.cell? ⟨g, 2, none⟩ = some (.int .i64 Y) ∧ w'.cell? ⟨g, 3, none⟩ = some (.int .i64 XX) ∧ w'.cell? ⟨g, 4, none⟩ = some (.int .i64 XY) ∧ w'.cell? ⟨b1, o1 + j * 2, none⟩ = some (.int .i64 (f j)) ∧ w'.cell? ⟨b1, o1 + j * 2 + 1, none⟩ = some (.int .i64 (o j))) (exact SK'.out _ (by repeat (first | with_reducible exact Ext.refl _ | with_reducible assumption | with_reducible refine Ext.alloc ?_ _ | with_reducible refine Ext.drew ?_ | (with_reducible refine Ext.setAt ?_ _ _ _ ?_; rotate_left; omega) | with_reducible refine Ext.trans ?_ (by assumption) | with_reducible exact Past.bel _ | with_reducible refine Ext.trans ?_ (Past.bel _)))) (first | (go_at_call 57; ((with_reducible refine (C5.out _).mono ?_); rintro e w' ⟨rfl, hx⟩; (first | (obtain ⟨wx, rfl⟩ := Past.again hx) | (obtain ⟨wx, rfl⟩ := Past.ofd hx) | (obtain ⟨wx, rfl⟩ := Past.of hx)); have hz := Past.size wx; (try simp only [World.size_alloc, World.size_drew] at hz))) | (refine app1s (w0 := v1) 34 2 _ _ (by rfl) (by rfl) Try.underlying34 info_i64 _ (outs (resFn n f o) j) (resFn n f o j) _ (by rfl) (by rfl) (own_ext (outs_own HO.out) (by repeat (first | with_reducible exact Ext.refl _ | with_reducible assumption | with_reducible refine Ext.alloc ?_ _ | with_reducible refine Ext.drew ?_ | (with_reducible refine Ext.setAt ?_ _ _ _ ?_; rotate_left; omega) | with_reducible refine Ext.trans ?_ (by assumption) | with_reducible exact Past.bel _ | with_reducible refine Ext.trans ?_ (Past.bel _)))) (by simp [go_sem]) (by rw [outs_len]; omega) (by repeat (first | with_reducible exact Ext.refl _ | with_reducible assumption | with_reducible refine Ext.alloc ?_ _ | with_reducible refine Ext.drew ?_ | (with_reducible refine Ext.setAt ?_ _ _ _ ?_; rotate_left; omega) | with_reducible refine Ext.trans ?_ (by assumption) | with_reducible exact Past.bel _ | with_reducible refine Ext.trans ?_ (Past.bel _))) ?_; intro v2 w2 ho2 hx2))
            all_goals (go_wp2_with fail; exact ⟨⟨j + 1, by omega, by go_num, hx2, by rw [← outs_step]; simpa [outs_len] using ho2⟩, by simp [intOf]; omega⟩)
          · obtain ⟨b, cap, rfl⟩ := own_form HO.out
            have he : resCode n f o = 0 := HC.out.symm
            have hl : j = n := by omega
            subst hl
            have hr : resRes j f o = outs (resFn j f o) j := by rw [resRes, if_pos he]
            have HE := Lib.hid he
            have HR := Lib.hid hr
            clear he hr
            go_wp2_with fail
            go_ret2
            exact ⟨b, cap, ret_two (by simp [HR.out, outs_len]) (congrArg _ HE.out.symm), (by repeat (first | with_reducible exact Ext.refl _ | with_reducible assumption | with_reducible refine Ext.alloc ?_ _ | with_reducible refine Ext.drew ?_ | (with_reducible refine Ext.setAt ?_ _ _ _ ?_; rotate_left; omega) | with_reducible refine Ext.trans ?_ (by assumption) | with_reducible exact Past.bel _ | with_reducible refine Ext.trans ?_ (Past.bel _))), by rw [HR.out]; exact own_base (by simpa [outs_len] using HO.out) hx0.size⟩
    · go_enter Try.func28, Try.ntmps28
      go_wp2_with (first | (go_at_call 48; ((with_reducible refine (l14Ok_c _ _ _ _ _ _ hn (HS.out.ext (by repeat (first | with_reducible exact Ext.refl _ | with_reducible assumption | with_reducible refine Ext.alloc ?_ _ | with_reducible refine Ext.drew ?_ | (with_reducible refine Ext.setAt ?_ _ _ _ ?_; rotate_left; omega) | with_reducible refine Ext.trans ?_ (by assumption) | with_reducible exact Past.bel _ | with_reducible refine Ext.trans ?_ (Past.bel _))))).mono ?_); rintro e w' ⟨rfl, hx⟩; (first | (obtain ⟨wx, rfl⟩ := Past.again hx) | (obtain ⟨wx, rfl⟩ := Past.ofd hx) | (obtain ⟨wx, rfl⟩ := Past.of hx)))) | (go_at_call 52; ((with_reducible refine (HF.out _ (HS.out.ext (by repeat (first | with_reducible exact Ext.refl _ | with_reducible assumption | with_reducible refine Ext.alloc ?_ _ | with_reducible refine Ext.drew ?_ | (with_reducible refine Ext.setAt ?_ _ _ _ ?_; rotate_left; omega) | with_reducible refine Ext.trans ?_ (by assumption) | with_reducible exact Past.bel _ | with_reducible refine Ext.trans ?_ (Past.bel _))))).mono ?_); rintro e w' ⟨rfl, hx⟩; (first | (obtain ⟨wx, rfl⟩ := Past.again hx) | (obtain ⟨wx, rfl⟩ := Past.ofd hx) | (obtain ⟨wx, rfl⟩ := Past.of hx)))) | (go_at_call 56; ((with_reducible refine (HCD.out _).mono ?_); rintro e w' ⟨rfl, hx⟩; (first | (obtain ⟨wx, rfl⟩ := Past.again hx) | (obtain ⟨wx, rfl⟩ := Past.ofd hx) | (obtain ⟨wx, rfl⟩ := Past.of hx)))))
      go_ret2
      have h1 : resCode n f o ≠ 0 := by rw [← HC.out]; exact hc0
      have he : resCode n f o = 6 := by
        unfold resCode at h1 ⊢
        rw [if_pos hv] at h1 ⊢
        split at h1 <;> simp_all
      have hr : resRes n f o = [] := by rw [resRes, if_neg h1]
      exact ⟨none, 0, ret_two (by rw [hr]; rfl) (congrArg _ he.symm), (by repeat (first | with_reducible exact Ext.refl _ | with_reducible assumption | with_reducible refine Ext.alloc ?_ _ | with_reducible refine Ext.drew ?_ | (with_reducible refine Ext.setAt ?_ _ _ _ ?_; rotate_left; omega) | with_reducible refine Ext.trans ?_ (by assumption) | with_reducible exact Past.bel _ | with_reducible refine Ext.trans ?_ (Past.bel _))), by rw [hr]; exact World.ownsRow_nil _ _ _ _⟩
  · have hf : rdV n f o = false := by simpa using hv
    go_enter Try.func28, Try.ntmps28
    go_wp2_with (first | (go_at_call 48; ((with_reducible refine (l14Ok_c _ _ _ _ _ _ hn (HS.out.ext (by repeat (first | with_reducible exact Ext.refl _ | with_reducible assumption | with_reducible refine Ext.alloc ?_ _ | with_reducible refine Ext.drew ?_ | (with_reducible refine Ext.setAt ?_ _ _ _ ?_; rotate_left; omega) | with_reducible refine Ext.trans ?_ (by assumption) | with_reducible exact Past.bel _ | with_reducible refine Ext.trans ?_ (Past.bel _))))).mono ?_); rintro e w' ⟨rfl, hx⟩; (first | (obtain ⟨wx, rfl⟩ := Past.again hx) | (obtain ⟨wx, rfl⟩ := Past.ofd hx) | (obtain ⟨wx, rfl⟩ := Past.of hx)))))
    go_ret2
    have he : resCode n f o = 1 := by simp [resCode, hf]
    have hr : resRes n f o = [] := by rw [resRes, he]; rfl
    exact ⟨none, 0, ret_two (by rw [hr]; rfl) (congrArg _ he.symm), (by repeat (first | with_reducible exact Ext.refl _ | with_reducible assumption | with_reducible refine Ext.alloc ?_ _ | with_reducible refine Ext.drew ?_ | (with_reducible refine Ext.setAt ?_ _ _ _ ?_; rotate_left; omega) | with_reducible refine Ext.trans ?_ (by assumption) | with_reducible exact Past.bel _ | with_reducible refine Ext.trans ?_ (Past.bel _))), by rw [hr]; exact World.ownsRow_nil _ _ _ _⟩
end Go.Proofs.Ytmbpjlgeneemjaa

namespace Go.Proofs.Ytmbpjlgeneemjaa
open Go.RowKit
set_option linter.unusedVariables false
set_option linter.unusedSimpArgs false

set_option maxRecDepth 100000 in
set_option maxHeartbeats 2000000 in
theorem implResidualsOf_c (a : Option Addr) (n c : Nat) (f o : Nat → Int) (w : World) (hn : n ≤ 1048576) (hs : S2 w a n f o) :
    Calls Try.prog 27 #[.slice a n c] w fun e w' => ∃ b cap, e = .returned (.tuple #[.slice b (resRes n f o).length cap, .int .i64 (resCode n f o)]) ∧ Ext w w' ∧
      w'.ownsRow w.heap.size 2 1 (.slice b (resRes n f o).length cap) (resRes n f o).length ((resRes n f o).map (Value.int .i64)) := by
  have HS := Lib.hid hs
  clear hs
  by_cases hv : rdV n f o = true
  · have HV := Lib.hid hv
    have r := rb_of hv
    have R := Lib.hid r
    have h60 := r.n60
    clear r
    obtain ⟨i0, hi, hz0, hz1, hz2⟩ := info_parts info_i64
    obtain ⟨X, hX⟩ : ∃ X, X = sm f n := ⟨_, rfl⟩
    obtain ⟨Y, hY⟩ : ∃ Y, Y = sm o n := ⟨_, rfl⟩
    obtain ⟨XX, hXX⟩ : ∃ XX, XX = sXX f n := ⟨_, rfl⟩
    obtain ⟨XY, hXY⟩ : ∃ XY, XY = sXY f o n := ⟨_, rfl⟩
    obtain ⟨N, hN⟩ : ∃ N, N = slN n (sm f n) (sm o n) (sXX f n) (sXY f o n) := ⟨_, rfl⟩
    obtain ⟨D, hD⟩ : ∃ D, D = slD n (sm f n) (sm o n) (sXX f n) (sXY f o n) := ⟨_, rfl⟩
    have hf : ∀ W, S2 W a n f o → Calls Try.prog 47 #[.slice a n c] W fun e w' => e = .returned (.agg #[.int .i64 n, .int .i64 X, .int .i64 Y, .int .i64 XX, .int .i64 XY]) ∧ Ext W w' := fun W hs => by
      rw [hX, hY, hXX, hXY]; exact fitOf_c _ _ _ _ _ W hv hs
    have HF := Lib.hid hf
    have hcd : ∀ W, Calls Try.prog 53 #[.agg #[.int .i64 n, .int .i64 X, .int .i64 Y, .int .i64 XX, .int .i64 XY]] W fun e w' => e = .returned (.tuple #[.int .i64 N, .int .i64 D]) ∧ Ext W w' := fun W => by
      rw [hX, hY, hXX, hXY, hN, hD]; exact slopeOf_c _ _ _ _ _ (vF_fb (vF_of R.out)) W
    have HCD := Lib.hid hcd
    have hC : resCode n f o = if D = 0 then 6 else 0 := by rw [resCode, if_pos hv, hD]
    have hat : D ≠ 0 → ∀ j, j < n → ∀ W, Calls Try.prog 54 #[.agg #[.int .i64 n, .int .i64 X, .int .i64 Y, .int .i64 XX, .int .i64 XY], .int .i64 (f j)] W fun e w' => e = .returned (.int .i64 (lineAt n f o j)) ∧ Ext W w' := fun h0 j hj W => by
      rw [hX, hY, hXX, hXY]; exact offAt_c _ _ _ _ _ _ (by rw [resCode_f hv, hC, if_neg h0]) (R.out.bh j hj).1 (R.out.bh j hj).2 W
    have HAT := Lib.hid hat
    have HC := Lib.hid hC
    clear hf hcd hat hX hY hXX hXY hC hN hD
    by_cases hc0 : D = 0
    · subst hc0
      go_enter Try.func27, Try.ntmps27
      go_wp2_with (first | (go_at_call 20; ((with_reducible refine (validReadings_c _ _ _ _ _ _ hn (HS.out.ext (by repeat (first | with_reducible exact Ext.refl _ | with_reducible assumption | with_reducible refine Ext.alloc ?_ _ | with_reducible refine Ext.drew ?_ | (with_reducible refine Ext.setAt ?_ _ _ _ ?_; rotate_left; omega) | with_reducible refine Ext.trans ?_ (by assumption) | with_reducible exact Past.bel _ | with_reducible refine Ext.trans ?_ (Past.bel _))))).mono ?_); rintro e w' ⟨rfl, hx⟩; (first | (obtain ⟨wx, rfl⟩ := Past.again hx) | (obtain ⟨wx, rfl⟩ := Past.ofd hx) | (obtain ⟨wx, rfl⟩ := Past.of hx)))) | (go_at_call 47; ((with_reducible refine (HF.out _ (HS.out.ext (by repeat (first | with_reducible exact Ext.refl _ | with_reducible assumption | with_reducible refine Ext.alloc ?_ _ | with_reducible refine Ext.drew ?_ | (with_reducible refine Ext.setAt ?_ _ _ _ ?_; rotate_left; omega) | with_reducible refine Ext.trans ?_ (by assumption) | with_reducible exact Past.bel _ | with_reducible refine Ext.trans ?_ (Past.bel _))))).mono ?_); rintro e w' ⟨rfl, hx⟩; (first | (obtain ⟨wx, rfl⟩ := Past.again hx) | (obtain ⟨wx, rfl⟩ := Past.ofd hx) | (obtain ⟨wx, rfl⟩ := Past.of hx)))) | (go_at_call 53; ((with_reducible refine (HCD.out _).mono ?_); rintro e w' ⟨rfl, hx⟩; (first | (obtain ⟨wx, rfl⟩ := Past.again hx) | (obtain ⟨wx, rfl⟩ := Past.ofd hx) | (obtain ⟨wx, rfl⟩ := Past.of hx)))))
      go_ret2
      have he : resCode n f o = 6 := by rw [HC.out]; rfl
      have hr : resRes n f o = [] := by rw [resRes, he]; rfl
      exact ⟨none, 0, ret_two (by rw [hr]; rfl) (congrArg _ he.symm), (by repeat (first | with_reducible exact Ext.refl _ | with_reducible assumption | with_reducible refine Ext.alloc ?_ _ | with_reducible refine Ext.drew ?_ | (with_reducible refine Ext.setAt ?_ _ _ _ ?_; rotate_left; omega) | with_reducible refine Ext.trans ?_ (by assumption) | with_reducible exact Past.bel _ | with_reducible refine Ext.trans ?_ (Past.bel _))), by rw [hr]; exact World.ownsRow_nil _ _ _ _⟩
    · have hHAT := HAT.out hc0
      have HAT' := Lib.hid hHAT
      have he : resCode n f o = 0 := by rw [HC.out, if_neg hc0]
      have HE := Lib.hid he
      have d0 : (D == 0) = false := by simpa using hc0
      clear HAT hHAT he HC
      go_enter Try.func27, Try.ntmps27
      go_upto_region 4 with (first | (go_at_call 20; ((with_reducible refine (validReadings_c _ _ _ _ _ _ hn (HS.out.ext (by repeat (first | with_reducible exact Ext.refl _ | with_reducible assumption | with_reducible refine Ext.alloc ?_ _ | with_reducible refine Ext.drew ?_ | (with_reducible refine Ext.setAt ?_ _ _ _ ?_; rotate_left; omega) | with_reducible refine Ext.trans ?_ (by assumption) | with_reducible exact Past.bel _ | with_reducible refine Ext.trans ?_ (Past.bel _))))).mono ?_); rintro e w' ⟨rfl, hx⟩; (first | (obtain ⟨wx, rfl⟩ := Past.again hx) | (obtain ⟨wx, rfl⟩ := Past.ofd hx) | (obtain ⟨wx, rfl⟩ := Past.of hx)))) | (go_at_call 47; ((with_reducible refine (HF.out _ (HS.out.ext (by repeat (first | with_reducible exact Ext.refl _ | with_reducible assumption | with_reducible refine Ext.alloc ?_ _ | with_reducible refine Ext.drew ?_ | (with_reducible refine Ext.setAt ?_ _ _ _ ?_; rotate_left; omega) | with_reducible refine Ext.trans ?_ (by assumption) | with_reducible exact Past.bel _ | with_reducible refine Ext.trans ?_ (Past.bel _))))).mono ?_); rintro e w' ⟨rfl, hx⟩; (first | (obtain ⟨wx, rfl⟩ := Past.again hx) | (obtain ⟨wx, rfl⟩ := Past.ofd hx) | (obtain ⟨wx, rfl⟩ := Past.of hx)))))
      go_cut [4, 6] (fun s4 s6 wx => ∃ g : Nat, s4 = .pointer (some ⟨g, 0, none⟩) ∧ s6 = .int .i64 D ∧ Ext w wx ∧ g < wx.heap.size ∧ wx.cell? ⟨g, 0, none⟩ = some (.int .i64 n) ∧ wx.cell? ⟨g, 1, none⟩ = some (.int .i64 X) ∧ wx.cell? ⟨g, 2, none⟩ = some (.int .i64 Y) ∧ wx.cell? ⟨g, 3, none⟩ = some (.int .i64 XX) ∧ wx.cell? ⟨g, 4, none⟩ = some (.int .i64 XY))
      case first =>
        go_wp2_with (go_at_call 53; ((with_reducible refine (HCD.out _).mono ?_); rintro e w' ⟨rfl, hx⟩; (first | (obtain ⟨wx, rfl⟩ := Past.again hx) | (obtain ⟨wx, rfl⟩ := Past.ofd hx) | (obtain ⟨wx, rfl⟩ := Past.of hx)); have hz := Past.size wx; (try simp only [World.size_alloc, World.size_drew] at hz)))
        go_meet
        exact ⟨_, rfl, rfl, (by repeat (first | with_reducible exact Ext.refl _ | with_reducible assumption | with_reducible refine Ext.alloc ?_ _ | with_reducible refine Ext.drew ?_ | (with_reducible refine Ext.setAt ?_ _ _ _ ?_; rotate_left; omega) | with_reducible refine Ext.trans ?_ (by assumption) | with_reducible exact Past.bel _ | with_reducible refine Ext.trans ?_ (Past.bel _))), by (try simp); omega, by simp [go_sem]⟩
      case rest =>
        obtain ⟨g, rfl, rfl, hx0, hg, k0, k1, k2, k3, k4⟩ := hcut
        obtain ⟨v1, rfl⟩ : ∃ v1 : World, v1 = wc := ⟨_, rfl⟩
        have hsv := HS.out.ext hx0
        have HV1 := Lib.hid hsv
        clear hsv
        have FK : ∀ w', Ext v1 w' → (w'.cell? ⟨g, 0, none⟩ = some (.int .i64 n) ∧ w'.cell? ⟨g, 1, none⟩ = some (.int .i64 X) ∧ w'.cell? ⟨g, 2, none⟩ = some (.int .i64 Y) ∧ w'.cell? ⟨g, 3, none⟩ = some (.int .i64 XX) ∧ w'.cell? ⟨g, 4, none⟩ = some (.int .i64 XY)) := fun w' hq => by
          refine ⟨?_, ?_, ?_, ?_, ?_⟩ <;> (rw [hq.cell (by assumption)]; assumption)
        have FK' := Lib.hid FK
        clear FK k0 k1 k2 k3 k4
        go_wp2_with fail
        go_loopw [7, 24] (fun v i wr => ∃ j : Nat, j ≤ n ∧ i = .int .i64 (j : Int) ∧ Ext v1 wr ∧ wr.ownsRow v1.heap.size 2 1 v j ((outs (resFn n f o) j).map (Value.int .i64))) (fun _ i _ => n - (intOf i).toNat)
        case atStart => exact ⟨0, by omega, rfl, (by repeat (first | with_reducible exact Ext.refl _ | with_reducible assumption | with_reducible refine Ext.alloc ?_ _ | with_reducible refine Ext.drew ?_ | (with_reducible refine Ext.setAt ?_ _ _ _ ?_; rotate_left; omega) | with_reducible refine Ext.trans ?_ (by assumption) | with_reducible exact Past.bel _ | with_reducible refine Ext.trans ?_ (Past.bel _))), World.ownsRow_nil _ _ _ _⟩
        case round =>
          obtain ⟨j, hj, rfl, hbl, ho⟩ := hrel
          have HO := Lib.hid ho
          clear ho
          by_cases hlt : j < n
          · obtain ⟨b1, o1, rfl, hb1, q3, q4⟩ := (S2.ext HV1.out hbl).at hlt
            have e1 : IntKind.i64.wrap (o j - lineAt n f o j) = resFn n f o j := rfl
            have x2 : (j : Int) < (n : Int) := by omega
            have x4 : (0 : Int) ≤ (j : Int) := by omega
            have c5 := HAT'.out j hlt
            have C5 := Lib.hid c5
            clear c5
            have NE : ∀ k, u7.ownBlock = some k → k < wr.heap.size := fun k hk => (HO.out.lt k hk).2
            have SKI : ∀ w', Ext (wr.alloc (Obj.cells #[Value.int .i64 (f j), Value.int .i64 (o j)] 33)) w' → (w'.cell? ⟨g, 0, none⟩ = some (.int .i64 n) ∧ w'.cell? ⟨g, 1, none⟩ = some (.int .i64 X) ∧ w'.cell? ⟨g, 2, none⟩ = some (.int .i64 Y) ∧ w'.cell? ⟨g, 3, none⟩ = some (.int .i64 XX) ∧ w'.cell? ⟨g, 4, none⟩ = some (.int .i64 XY) ∧ w'.cell? ⟨wr.heap.size, 0, none⟩ = some (.int .i64 (f j)) ∧ w'.cell? ⟨wr.heap.size, 1, none⟩ = some (.int .i64 (o j))) := fun w' hq => by
              have hq' : Ext v1 w' := ((hbl.alloc _)).trans hq
              obtain ⟨k0, k1, k2, k3, k4⟩ := FK'.out _ hq'
              exact ⟨k0, k1, k2, k3, k4, by rw [hq.cell (by simp)]; simp [go_sem], by rw [hq.cell (by simp)]; simp [go_sem]⟩
            have SKJ : ∀ w' W, Ext (wr.alloc (Obj.cells #[Value.int .i64 (f j), Value.int .i64 (o j)] 33)) W → (∀ b i, b < W.heap.size → u7.ownBlock ≠ some b → w'.cell? ⟨b, i, none⟩ = W.cell? ⟨b, i, none⟩) → Ext v1 w' → (w'.cell? ⟨g, 0, none⟩ = some (.int .i64 n) ∧ w'.cell? ⟨g, 1, none⟩ = some (.int .i64 X) ∧ w'.cell? ⟨g, 2, none⟩ = some (.int .i64 Y) ∧ w'.cell? ⟨g, 3, none⟩ = some (.int .i64 XX) ∧ w'.cell? ⟨g, 4, none⟩ = some (.int .i64 XY) ∧ w'.cell? ⟨wr.heap.size, 0, none⟩ = some (.int .i64 (f j)) ∧ w'.cell? ⟨wr.heap.size, 1, none⟩ = some (.int .i64 (o j))) := fun w' W hq hk hq' => by
              obtain ⟨k0, k1, k2, k3, k4⟩ := FK'.out _ hq'
              obtain ⟨_, _, _, _, _, m0, m1⟩ := SKI W hq
              have hlt9 : wr.heap.size < W.heap.size := by have := hq.size; simp at this; omega
              have hne : u7.ownBlock ≠ some wr.heap.size := fun e => absurd (NE _ e) (Nat.lt_irrefl _)
              exact ⟨k0, k1, k2, k3, k4, (hk _ _ hlt9 hne).trans m0, (hk _ _ hlt9 hne).trans m1⟩
            have SKI' := Lib.hid SKI
            have SKJ' := Lib.hid SKJ
            clear SKI SKJ NE
            go_wp2_with fail
            go_region_held3 (fun w' => w'.cell? ⟨g, 0, none⟩ = some (.int .i64 n) ∧ w'.cell? ⟨g, 1, none⟩ = some (.int .i64 X) ∧ w'.cell? ⟨g, 2, none⟩ = some (.int .i64 Y) ∧ w'.cell? ⟨g, 3, none⟩ = some (.int .i64 XX) ∧ w'.cell? ⟨g, 4, none⟩ = some (.int .i64 XY) ∧ w'.cell? ⟨wr.heap.size, 0, none⟩ = some (.int .i64 (f j)) ∧ w'.cell? ⟨wr.heap.size, 1, none⟩ = some (.int .i64 (o j))) (first | (refine SKI'.out _ ?_; ((repeat (first | with_reducible exact Ext.refl _ | with_reducible assumption | with_reducible refine Ext.alloc ?_ _ | with_reducible refine Ext.drew ?_ | (with_reducible refine Ext.setAt ?_ _ _ _ ?_; rotate_left; omega) | with_reducible refine Ext.trans ?_ (by assumption) | with_reducible exact Past.bel _ | with_reducible refine Ext.trans ?_ (Past.bel _))); done)) | exact SKJ'.out _ _ (by first | exact (Past.bel _).alloc _ | exact ((Past.bel _).alloc _).drew) hk2 hx2) (first | (go_at_call 54; ((with_reducible refine (C5.out _).mono ?_); rintro e w' ⟨rfl, hx⟩; (first | (obtain ⟨wx, rfl⟩ := Past.again hx) | (obtain ⟨wx, rfl⟩ := Past.ofd hx) | (obtain ⟨wx, rfl⟩ := Past.of hx)); have hz := Past.size wx; (try simp only [World.size_alloc, World.size_drew] at hz))) | (refine app1t (w0 := v1) 34 2 _ _ (by rfl) (by rfl) Try.underlying34 info_i64 _ (outs (resFn n f o) j) (resFn n f o j) _ (by rfl) (by rfl) (own_ext (outs_own HO.out) (by repeat (first | with_reducible exact Ext.refl _ | with_reducible assumption | with_reducible refine Ext.alloc ?_ _ | with_reducible refine Ext.drew ?_ | (with_reducible refine Ext.setAt ?_ _ _ _ ?_; rotate_left; omega) | with_reducible refine Ext.trans ?_ (by assumption) | with_reducible exact Past.bel _ | with_reducible refine Ext.trans ?_ (Past.bel _)))) (by simp [go_sem]) (by rw [outs_len]; omega) (by repeat (first | with_reducible exact Ext.refl _ | with_reducible assumption | with_reducible refine Ext.alloc ?_ _ | with_reducible refine Ext.drew ?_ | (with_reducible refine Ext.setAt ?_ _ _ _ ?_; rotate_left; omega) | with_reducible refine Ext.trans ?_ (by assumption) | with_reducible exact Past.bel _ | with_reducible refine Ext.trans ?_ (Past.bel _))) ?_; intro v2 w2 ho2 hx2 hk2))
            all_goals (go_wp2_with fail; exact ⟨⟨j + 1, by omega, by go_num, hx2, by rw [← outs_step]; simpa [outs_len] using ho2⟩, by simp [intOf]; omega⟩)
          · obtain ⟨b, cap, rfl⟩ := own_form HO.out
            have hl : j = n := by omega
            subst hl
            have hr : resRes j f o = outs (resFn j f o) j := by rw [resRes, if_pos HE.out]
            have HR := Lib.hid hr
            clear hr
            go_wp2_with fail
            go_ret2
            exact ⟨b, cap, ret_two (by simp [HR.out, outs_len]) (congrArg _ HE.out.symm), (by repeat (first | with_reducible exact Ext.refl _ | with_reducible assumption | with_reducible refine Ext.alloc ?_ _ | with_reducible refine Ext.drew ?_ | (with_reducible refine Ext.setAt ?_ _ _ _ ?_; rotate_left; omega) | with_reducible refine Ext.trans ?_ (by assumption) | with_reducible exact Past.bel _ | with_reducible refine Ext.trans ?_ (Past.bel _))), by rw [HR.out]; exact own_base (by simpa [outs_len] using HO.out) hx0.size⟩
  · have hf : rdV n f o = false := by simpa using hv
    go_enter Try.func27, Try.ntmps27
    go_wp2_with (first | (go_at_call 20; ((with_reducible refine (validReadings_c _ _ _ _ _ _ hn (HS.out.ext (by repeat (first | with_reducible exact Ext.refl _ | with_reducible assumption | with_reducible refine Ext.alloc ?_ _ | with_reducible refine Ext.drew ?_ | (with_reducible refine Ext.setAt ?_ _ _ _ ?_; rotate_left; omega) | with_reducible refine Ext.trans ?_ (by assumption) | with_reducible exact Past.bel _ | with_reducible refine Ext.trans ?_ (Past.bel _))))).mono ?_); rintro e w' ⟨rfl, hx⟩; (first | (obtain ⟨wx, rfl⟩ := Past.again hx) | (obtain ⟨wx, rfl⟩ := Past.ofd hx) | (obtain ⟨wx, rfl⟩ := Past.of hx)))))
    go_ret2
    have he : resCode n f o = 1 := by simp [resCode, hf]
    have hr : resRes n f o = [] := by rw [resRes, he]; rfl
    exact ⟨none, 0, ret_two (by rw [hr]; rfl) (congrArg _ he.symm), (by repeat (first | with_reducible exact Ext.refl _ | with_reducible assumption | with_reducible refine Ext.alloc ?_ _ | with_reducible refine Ext.drew ?_ | (with_reducible refine Ext.setAt ?_ _ _ _ ?_; rotate_left; omega) | with_reducible refine Ext.trans ?_ (by assumption) | with_reducible exact Past.bel _ | with_reducible refine Ext.trans ?_ (Past.bel _))), by rw [hr]; exact World.ownsRow_nil _ _ _ _⟩
end Go.Proofs.Ytmbpjlgeneemjaa

namespace Go.Proofs.Ytmbpjlgeneemjaa
open Go.RowKit
set_option linter.unusedVariables false
set_option linter.unusedSimpArgs false

/-- A slice of bytes reads as 'f'. -/
def U8 (w : World) (a : Option Addr) (n : Nat) (f : Nat → Nat) : Prop :=
  0 < n → ∃ b off, a = some ⟨b, off, none⟩ ∧ b < w.heap.size ∧ ∀ j, j < n → w.cell? ⟨b, off + j, none⟩ = some (.int .u8 (f j : Nat))
theorem U8.ext {w w' : World} {a : Option Addr} {n : Nat} {f : Nat → Nat} (s : U8 w a n f) (e : Ext w w') : U8 w' a n f := fun hn => by
  obtain ⟨b, off, ha, hb, hc⟩ := s hn
  exact ⟨b, off, ha, Nat.lt_of_lt_of_le hb e.size, fun j hj => by rw [e.cell hb]; exact hc j hj⟩
theorem U8.at {w : World} {a : Option Addr} {n : Nat} {f : Nat → Nat} (s : U8 w a n f) {j : Nat} (hj : j < n) :
    ∃ b off, a = some ⟨b, off, none⟩ ∧ b < w.heap.size ∧ w.cell? ⟨b, off + j, none⟩ = some (.int .u8 (f j : Nat)) := by
  obtain ⟨b, off, ha, hb, hc⟩ := s (by omega)
  exact ⟨b, off, ha, hb, hc j hj⟩
theorem f6big_c (a : Option Addr) (n c : Nat) (w : World) : Calls Try.prog 9 #[.slice a n c] w fun e w' => e = .returned (.bool (decide (4096 < n))) ∧ w = w' := by
  go_enter Try.func9, Try.ntmps9
  go_wp2
  go_ret
  exact ⟨ret_bool (by simp; omega), rfl⟩
set_option maxHeartbeats 1000000 in
theorem f6roll_c (a : Option Addr) (n c : Nat) (f : Nat → Nat) (seed : Int) (w : World) (hn : n ≤ 1048576) (hs : U8 w a n f) :
    Calls Try.prog 13 #[.slice a n c, .int .u64 seed] w fun e w' => ∃ g hh, e = .returned (.pointer (some ⟨g, 0, none⟩)) ∧ Blk w' g 63 #[.slice a n c, .int .i64 0, .int .u64 hh] ∧ w.heap.size ≤ g ∧ Ext w w' := by
  have HS := Lib.hid hs
  clear hs
  go_enter Try.func13, Try.ntmps13
  go_wp2_with fail
  go_loopw [6] (fun i wr => ∃ (j : Nat) (hh : Int), j ≤ n ∧ i = .int .i64 (j : Int) ∧ Ext w wr ∧ Blk wr w.heap.size 63 #[.slice a n c, .int .i64 0, .int .u64 hh]) (fun i _ => n - (intOf i).toNat)
  case atStart => exact ⟨0, _, by omega, rfl, (by repeat (first | with_reducible exact Ext.refl _ | with_reducible assumption | with_reducible refine Ext.alloc ?_ _ | with_reducible refine Ext.drew ?_ | (with_reducible refine Ext.setAt ?_ _ _ _ ?_; rotate_left; omega) | with_reducible refine Ext.trans ?_ (by assumption) | with_reducible exact Past.bel _ | with_reducible refine Ext.trans ?_ (Past.bel _))), Blk.new _ _ _⟩
  case round =>
    obtain ⟨j, hh, hj, rfl, hbl, ho⟩ := hrel
    have HB := Lib.hid ho
    by_cases hlt : j < n
    · obtain ⟨b1, o1, rfl, hb1, q1⟩ := (HS.out.ext hbl).at hlt
      have c2 := ho.cell 2
      have f2 := ho.frozen 2
      have x0 : (0 : Int) ≤ (j : Int) := by omega
      have x1 : (j : Int) < (n : Int) := by omega
      clear ho
      go_wp2_with fail
      go_region
      all_goals (go_wp2_with fail; exact ⟨⟨j + 1, _, by omega, by go_num, (by repeat (first | with_reducible exact Ext.refl _ | with_reducible assumption | with_reducible refine Ext.alloc ?_ _ | with_reducible refine Ext.drew ?_ | (with_reducible refine Ext.setAt ?_ _ _ _ ?_; rotate_left; omega) | with_reducible refine Ext.trans ?_ (by assumption) | with_reducible exact Past.bel _ | with_reducible refine Ext.trans ?_ (Past.bel _))), HB.out.set 2 _⟩, by simp [intOf]; omega⟩)
    · go_wp2_with fail
      go_ret
      exact ⟨_, _, rfl, HB.out, Nat.le_refl _, (by repeat (first | with_reducible exact Ext.refl _ | with_reducible assumption | with_reducible refine Ext.alloc ?_ _ | with_reducible refine Ext.drew ?_ | (with_reducible refine Ext.setAt ?_ _ _ _ ?_; rotate_left; omega) | with_reducible refine Ext.trans ?_ (by assumption) | with_reducible exact Past.bel _ | with_reducible refine Ext.trans ?_ (Past.bel _)))⟩
theorem mask24 (E : Int) (h0 : 0 ≤ E) (h1 : E ≤ 18446744073709551615) : ∃ X, bits BinOp.and IntKind.u64 E 16777215 = X ∧ 0 ≤ X ∧ X ≤ 16777215 := by
  have h := bits_and_u64_nat E.toNat 16777215 (by omega) (by omega)
  rw [Int.toNat_of_nonneg h0] at h
  have := Nat.and_le_right (n := E.toNat) (m := 16777215)
  exact ⟨_, h, by omega, by omega⟩
theorem grown_drew {w w' : World} {row : Option Nat} (h : w.grownBy w' row) : w.grownBy w'.drew row := ⟨h.os, h.tape, h.output, h.size, h.block⟩
/-- what 'below' leaves of a dice -/
structure Dice (w : World) (g : Nat) (a : Option Addr) (n c : Nat) : Prop where
  blk : ∃ (i : Nat) (hh : Int), Blk w g 63 #[.slice a n c, .int .i64 i, .int .u64 hh] ∧ i ≤ n
set_option maxHeartbeats 2000000 in
theorem below_c (g : Nat) (a : Option Addr) (n c : Nat) (f : Nat → Nat) (m : Int) (w : World) (hm : 1 ≤ m) (hn : n ≤ 1048576) (hs : U8 w a n f) (hf : ∀ j, j < n → f j ≤ 255) (hd : Dice w g a n c) (hne : 0 < n → ∀ ad, a = some ad → ad.block ≠ g) :
    Calls Try.prog 14 #[.pointer (some ⟨g, 0, none⟩), .int .i64 m] w fun e w' => ∃ x : Int, e = .returned (.int .i64 x) ∧ 0 ≤ x ∧ x < m ∧ Dice w' g a n c ∧ w.grownBy w' (some g) := by
  obtain ⟨⟨i, hh, hb, hi⟩⟩ := hd
  have HB := Lib.hid hb
  have c0 := hb.cell 0
  have c1 := hb.cell 1
  have c2 := hb.cell 2
  have f1 := hb.frozen 1
  have f2 := hb.frozen 2
  clear hb
  obtain ⟨X, hX, X0, X1⟩ := mask24 (IntKind.u64.wrap (IntKind.u64.wrap (hh * 6364136223846793005) + 1442695040888963407) / 8589934592) (by rw [IntKind.wrap_u64]; omega) (by rw [IntKind.wrap_u64]; omega)
  have hw : wrap64 X = X := IntWalk.wrap64_in X (by omega)
  have k0 : ∀ u, (w.setCell ⟨g, 2, none⟩ u).cell? ⟨g, 0, none⟩ = some (.slice a n c) := fun u => by simp [go_sem, c0]
  have k1 : ∀ u, (w.setCell ⟨g, 2, none⟩ u).cell? ⟨g, 1, none⟩ = some (.int .i64 i) := fun u => by simp [go_sem, c1]
  have K0 := Lib.hid k0
  have K1 := Lib.hid k1
  clear k0 k1
  by_cases hlt : i < n
  · obtain ⟨b1, o1, rfl, hb1, q1⟩ := hs.at hlt
    have hg := hne (by omega) _ rfl
    simp only at hg
    have hfi := hf i hlt
    have k2 : ∀ u, (w.setCell ⟨g, 2, none⟩ u).cell? ⟨b1, o1 + i, none⟩ = some (.int .u8 (f i : Nat)) := fun u => by simp [go_sem, q1, hg]
    have K2 := Lib.hid k2
    clear k2
    have x0 : (0 : Int) ≤ (i : Int) := by omega
    have x1 : (i : Int) < (n : Int) := by omega
    have x2 : IntKind.i64.wrap (f i : Int) = (f i : Int) := IntWalk.i64_in _ (by omega)
    have x3 : IntKind.i64.wrap (X + (f i : Int)) = X + (f i : Int) := IntWalk.i64_in _ (by omega)
    have r0 := Int.tmod_nonneg m (show (0 : Int) ≤ X + (f i : Int) by omega)
    have r1 := Int.tmod_lt_of_pos (X + (f i : Int)) (show 0 < m by omega)
    go_enter Try.func14, Try.ntmps14
    go_wp2_with fail
    go_region_held3 (fun w' => w'.cell? ⟨g, 0, none⟩ = some (.slice (some ⟨b1, o1, none⟩) n c) ∧ w'.cell? ⟨g, 1, none⟩ = some (.int .i64 i)) (exact ⟨K0.out _, K1.out _⟩) (fail)
    go_wp2_with fail
    go_region_held3 (fun w' => w'.cell? ⟨g, 0, none⟩ = some (.slice (some ⟨b1, o1, none⟩) n c) ∧ w'.cell? ⟨g, 1, none⟩ = some (.int .i64 i) ∧ w'.cell? ⟨b1, o1 + i, none⟩ = some (.int .u8 (f i : Nat))) (exact ⟨K0.out _, K1.out _, K2.out _⟩) (fail)
    go_wp2_with fail
    go_ret
    refine ⟨(X + (f i : Int)) % m, rfl, Int.emod_nonneg _ (by omega), Int.emod_lt_of_pos _ (by omega), ⟨⟨i + 1, IntKind.u64.wrap (IntKind.u64.wrap (hh * 6364136223846793005) + 1442695040888963407), ?_, by omega⟩⟩, grown_drew (grown_drew (grown_trans (grown_set g 2 _) (grown_set g 1 _)))⟩
    exact (HB.out.set 2 (.int .u64 (IntKind.u64.wrap (IntKind.u64.wrap (hh * 6364136223846793005) + 1442695040888963407)))).set 1 (.int .i64 ((i : Int) + 1))
  · have x1 : (n : Int) ≤ (i : Int) := by omega
    have r0 := Int.tmod_nonneg m X0
    have r1 := Int.tmod_lt_of_pos X (show 0 < m by omega)
    go_enter Try.func14, Try.ntmps14
    go_wp2_with fail
    go_region_held3 (fun w' => w'.cell? ⟨g, 0, none⟩ = some (.slice a n c) ∧ w'.cell? ⟨g, 1, none⟩ = some (.int .i64 i)) (exact ⟨K0.out _, K1.out _⟩) (fail)
    go_wp2_with fail
    go_ret
    exact ⟨X % m, rfl, Int.emod_nonneg _ (by omega), Int.emod_lt_of_pos _ (by omega), ⟨⟨i, _, HB.out.set 2 _, by omega⟩⟩, grown_drew (grown_set g 2 _)⟩
end Go.Proofs.Ytmbpjlgeneemjaa

namespace Go.Proofs.Ytmbpjlgeneemjaa
open Go.RowKit
set_option linter.unusedVariables false
set_option linter.unusedSimpArgs false

/-- A source in block g: its bytes, at most K taken. -/
structure Src (w : World) (g : Nat) (a : Option Addr) (n c : Nat) (f : Nat → Nat) (K : Nat) : Prop where
  blk : ∃ (i : Nat) (hh : Int), Blk w g 78 #[.slice a n c, .int .i64 i, .int .u64 hh] ∧ i ≤ K
  byt : U8 w a n f
  far : 0 < n → ∀ ad, a = some ad → ad.block ≠ g
  low : ∀ j, j < n → f j ≤ 255
theorem mask8 (E : Int) (h0 : 0 ≤ E) (h1 : E ≤ 18446744073709551615) : ∃ X, bits BinOp.and IntKind.u64 E 255 = X ∧ 0 ≤ X ∧ X ≤ 255 := by
  have h := bits_and_u64_nat E.toNat 255 (by omega) (by omega)
  rw [Int.toNat_of_nonneg h0] at h
  have := Nat.and_le_right (n := E.toNat) (m := 255)
  exact ⟨_, h, by omega, by omega⟩
theorem U8.but {w w' : World} {a : Option Addr} {n g : Nat} {f : Nat → Nat} (s : U8 w a n f) (hg : w.grownBy w' (some g)) (hne : 0 < n → ∀ ad, a = some ad → ad.block ≠ g) : U8 w' a n f := fun hn => by
  obtain ⟨b, off, ha, hb, hc⟩ := s hn
  refine ⟨b, off, ha, Nat.lt_of_lt_of_le hb hg.size, fun j hj => ?_⟩
  rw [World.cell?_of_block (a := ⟨b, off + j, none⟩) (hg.block b hb (fun e => hne hn _ ha (by simpa using e)))]
  exact hc j hj
theorem l00From_c (a : Option Addr) (n c : Nat) (f : Nat → Nat) (w : World) (hs : U8 w a n f) (hl : ∀ j, j < n → f j ≤ 255) (hf : 0 < n → ∀ ad, a = some ad → ad.block < w.heap.size) :
    Calls Try.prog 46 #[.slice a n c] w fun e w' => e = .returned (.pointer (some ⟨w.heap.size, 0, none⟩)) ∧ Src w' w.heap.size a n c f 0 ∧ Ext w w' := by
  have HS := Lib.hid hs
  clear hs
  go_enter Try.func46, Try.ntmps46
  go_wp2
  go_ret
  exact ⟨rfl, ⟨⟨0, 0, Blk.new _ _ _, Nat.le_refl _⟩, HS.out.ext (by repeat (first | with_reducible exact Ext.refl _ | with_reducible assumption | with_reducible refine Ext.alloc ?_ _ | with_reducible refine Ext.drew ?_ | (with_reducible refine Ext.setAt ?_ _ _ _ ?_; rotate_left; omega) | with_reducible refine Ext.trans ?_ (by assumption) | with_reducible exact Past.bel _ | with_reducible refine Ext.trans ?_ (Past.bel _))), fun h0 ad ha => by have := hf h0 ad ha; omega, hl⟩, (by repeat (first | with_reducible exact Ext.refl _ | with_reducible assumption | with_reducible refine Ext.alloc ?_ _ | with_reducible refine Ext.drew ?_ | (with_reducible refine Ext.setAt ?_ _ _ _ ?_; rotate_left; omega) | with_reducible refine Ext.trans ?_ (by assumption) | with_reducible exact Past.bel _ | with_reducible refine Ext.trans ?_ (Past.bel _)))⟩
set_option maxHeartbeats 2000000 in
theorem next_c (g : Nat) (a : Option Addr) (n c : Nat) (f : Nat → Nat) (K : Nat) (w : World) (hn : n ≤ 1048576) (hK : K ≤ 1000000) (hd : Src w g a n c f K) :
    Calls Try.prog 74 #[.pointer (some ⟨g, 0, none⟩)] w fun e w' => ∃ x : Int, e = .returned (.int .i64 x) ∧ 0 ≤ x ∧ x ≤ 255 ∧ Src w' g a n c f (K + 1) ∧ w.grownBy w' (some g) := by
  obtain ⟨⟨i, hh, hb, hi⟩, hs, hne, hlo⟩ := hd
  have HB := Lib.hid hb
  have HS := Lib.hid hs
  have c0 := hb.cell 0
  have c1 := hb.cell 1
  have c2 := hb.cell 2
  have f1 := hb.frozen 1
  have f2 := hb.frozen 2
  clear hb
  have C0 := Lib.hid c0
  have C1 := Lib.hid c1
  have k0 : ∀ u v, ((w.setCell ⟨g, 1, none⟩ u).setCell ⟨g, 2, none⟩ v).cell? ⟨g, 0, none⟩ = some (.slice a n c) := fun u v => by simp [go_sem, c0]
  have k1 : ∀ u v, ((w.setCell ⟨g, 1, none⟩ u).setCell ⟨g, 2, none⟩ v).cell? ⟨g, 1, none⟩ = some u := fun u v => by simp [go_sem, c1]
  have K0 := Lib.hid k0
  have K1 := Lib.hid k1
  clear k0 k1
  have x3 : IntKind.i64.wrap ((i : Int) + 1) = (i : Int) + 1 := IntWalk.i64_in _ (by omega)
  by_cases hlt : i < n
  · obtain ⟨b1, o1, rfl, hb1, q1⟩ := hs.at hlt
    have hg := hne (by omega) _ rfl
    simp only at hg
    have hfi := hlo i hlt
    have x0 : (0 : Int) ≤ (i : Int) := by omega
    have x1 : (i : Int) < (n : Int) := by omega
    have x5 : (i : Int) + 1 ≤ (n : Int) := by omega
    have x2 : IntKind.i64.wrap (f i : Int) = (f i : Int) := IntWalk.i64_in _ (by omega)
    have HN := Lib.hid hne
    have HL := Lib.hid hlo
    clear hs hlo hne
    go_enter Try.func74, Try.ntmps74
    go_wp2_with fail
    go_region_held3 (fun w' => w'.cell? ⟨g, 0, none⟩ = some (.slice (some ⟨b1, o1, none⟩) n c) ∧ w'.cell? ⟨g, 1, none⟩ = some (.int .i64 i)) (exact ⟨C0.out, C1.out⟩) (fail)
    go_wp2_with fail
    go_region_held3 (fun w' => w'.cell? ⟨g, 0, none⟩ = some (.slice (some ⟨b1, o1, none⟩) n c) ∧ w'.cell? ⟨g, 1, none⟩ = some (.int .i64 i) ∧ w'.cell? ⟨b1, o1 + i, none⟩ = some (.int .u8 (f i : Nat))) (exact ⟨C0.out, C1.out, q1⟩) (fail)
    go_wp2_with fail
    go_region_held3 (fun w' => w'.cell? ⟨g, 0, none⟩ = some (.slice (some ⟨b1, o1, none⟩) n c) ∧ w'.cell? ⟨g, 1, none⟩ = some (.int .i64 ((i : Int) + 1))) (exact ⟨K0.out _ _, K1.out _ _⟩) (fail)
    go_wp2_with fail
    go_ret
    have hgr := grown_drew (grown_drew (grown_drew (grown_trans (grown_set (w := w) g 1 (.int .i64 ((i : Int) + 1))) (grown_set g 2 (.int .u64 (IntKind.u64.wrap (IntKind.u64.wrap (IntKind.u64.wrap (hh * 6364136223846793005) + (f i : Int)) + 1442695040888963407)))))))
    exact ⟨(f i : Int), rfl, by omega, by omega, ⟨⟨i + 1, IntKind.u64.wrap (IntKind.u64.wrap (IntKind.u64.wrap (hh * 6364136223846793005) + (f i : Int)) + 1442695040888963407), (HB.out.set 1 (.int .i64 ((i : Int) + 1))).set 2 (.int .u64 (IntKind.u64.wrap (IntKind.u64.wrap (IntKind.u64.wrap (hh * 6364136223846793005) + (f i : Int)) + 1442695040888963407))), by omega⟩, HS.out.but hgr HN.out, HN.out, HL.out⟩, hgr⟩
  · have x1 : (n : Int) ≤ (i : Int) := by omega
    have x5 : (n : Int) < (i : Int) + 1 := by omega
    obtain ⟨X, hX, X0, X1⟩ := mask8 (IntKind.u64.wrap (IntKind.u64.wrap (IntKind.u64.wrap (hh * 6364136223846793005)) + 1442695040888963407) / 1099511627776) (by rw [IntKind.wrap_u64]; omega) (by rw [IntKind.wrap_u64]; omega)
    have hw : wrap64 X = X := IntWalk.wrap64_in X (by omega)
    have HN := Lib.hid hne
    have HL := Lib.hid hlo
    clear hs hlo hne
    go_enter Try.func74, Try.ntmps74
    go_wp2_with fail
    go_region_held3 (fun w' => w'.cell? ⟨g, 0, none⟩ = some (.slice a n c) ∧ w'.cell? ⟨g, 1, none⟩ = some (.int .i64 i)) (exact ⟨C0.out, C1.out⟩) (fail)
    go_wp2_with fail
    go_region_held3 (fun w' => w'.cell? ⟨g, 0, none⟩ = some (.slice a n c) ∧ w'.cell? ⟨g, 1, none⟩ = some (.int .i64 ((i : Int) + 1))) (exact ⟨K0.out _ _, K1.out _ _⟩) (fail)
    go_wp2_with fail
    go_ret
    have hgr := grown_drew (grown_drew (grown_trans (grown_set (w := w) g 1 (.int .i64 ((i : Int) + 1))) (grown_set g 2 (.int .u64 (IntKind.u64.wrap (IntKind.u64.wrap (IntKind.u64.wrap (hh * 6364136223846793005)) + 1442695040888963407))))))
    exact ⟨X, rfl, X0, X1, ⟨⟨i + 1, IntKind.u64.wrap (IntKind.u64.wrap (IntKind.u64.wrap (hh * 6364136223846793005)) + 1442695040888963407), (HB.out.set 1 (.int .i64 ((i : Int) + 1))).set 2 (.int .u64 (IntKind.u64.wrap (IntKind.u64.wrap (IntKind.u64.wrap (hh * 6364136223846793005)) + 1442695040888963407))), by omega⟩, HS.out.but hgr HN.out, HN.out, HL.out⟩, hgr⟩
end Go.Proofs.Ytmbpjlgeneemjaa
