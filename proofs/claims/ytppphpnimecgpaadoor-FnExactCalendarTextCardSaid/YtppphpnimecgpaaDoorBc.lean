/- Years of a cycle: the reference's. Names. No program in sight. Names: the program's and the reference's. Names: the reference's. Calendars: when their months are valid. No program in sight. Months of a calendar: the reference's. Valid calendars: the reference's. Names among others: the program's. Valid calendars: the program's. Leap years: the functions as they are called. Calendars' texts: the reference's. Go's strings.Builder: writing. -/
import Derived.Test.YtppphpnimecgpaaDoorBb
import Derived.Lib.ConvBytes
import Derived.Lib.UnsafeStr
import Derived.Laws.Closers25b
import Derived.Test.YtppphpnimecgpaaDoorBa
import Derived.Lib.Strings
import Derived.Lib.Slices
import Derived.Lib.Walk
import Derived.Lib.Builder
import Derived.Lib.AppendStr
import Derived.Lib.OthersKept
import Derived.Laws.Externs
import Derived.Laws.IdiomCopy

namespace Go.Proofs.YtppphpnimecgpaaDoor
open Go.RowKit
set_option linter.unusedVariables false
set_option linter.unusedSimpArgs false

set_option maxHeartbeats 2000000 in
theorem l15Years_c (a : Option Addr) (n c : Nat) (ev rs : Nat → Int) (lf : Nat → Bool) (w : World) (hn : n ≤ 1048576) (hs : R3 w a n ev rs lf) :
    Calls Tryd.prog 65 #[.slice a n c] w fun e w' => ∃ x b, e = .returned (.tuple #[.int .i64 x, .bool b]) ∧ YrR ev rs n x b ∧ Ext w w' := by
  have HS := Lib.hid hs
  clear hs
  go_enter Tryd.func65, Tryd.ntmps65
  go_wp2_with fail
  go_loopw [4, 5] (fun y i wr => ∃ j : Nat, j ≤ n ∧ i = .int .i64 j ∧ y = .int .i64 (cyY ev j) ∧ rulTo ev rs j = true ∧ cyY ev j ≤ 2000 ∧ Ext w wr) (fun _ i _ => n - (intOf i).toNat)
  case atStart => exact ⟨0, by omega, rfl, rfl, rfl, by simp [cyY], (by repeat (first | with_reducible exact Ext.refl _ | with_reducible assumption | with_reducible refine Ext.alloc ?_ _ | with_reducible refine Ext.drew ?_ | (with_reducible refine Ext.setAt ?_ _ _ _ ?_; rotate_left; omega) | with_reducible refine Ext.trans ?_ (by assumption) | with_reducible exact Past.bel _ | with_reducible refine Ext.trans ?_ (Past.bel _)))⟩
  case round =>
    obtain ⟨j, hj, rfl, rfl, hr, h2, hbl⟩ := hrel
    have HR := Lib.hid hr
    clear hr
    by_cases hlt : j < n
    · obtain ⟨b1, o1, rfl, hb1, q1, q2, q3⟩ := (R3.ext HS.out hbl).at hlt
      by_cases t1 : inB (ev j) 1 1000 = true
      · have t1' := inB_t.1 t1
        by_cases t2 : inB (rs j) 0 (ev j - 1) = true
        · have he : ∀ i, i < j + 1 → 1 ≤ ev i ∧ ev i ≤ 1000 := fun i hi => by
            by_cases e : i = j
            · subst e; exact t1'
            · exact (rulTo_at HR.out (show i < j by omega)).1
          obtain ⟨y0, y1, g0, d0, d1, p0, p1⟩ := cyS (ev := ev) (k := j) he
          have st : cyY ev (j + 1) = cyY ev j / gcdI (cyY ev j) (ev j) * ev j := by simp only [cyY]; rw [if_pos h2]
          have hr1 : rulTo ev rs (j + 1) = true := by simp only [rulTo, HR.out, t1, t2]; rfl
          have ST := Lib.hid st
          have HR1 := Lib.hid hr1
          obtain ⟨Y, hY⟩ : ∃ Y, Y = cyY ev j := ⟨_, rfl⟩
          rw [← hY] at y0 y1 g0 d0 d1 p0 p1 h2 ⊢
          obtain ⟨G, hG⟩ : ∃ G, G = gcdI Y (ev j) := ⟨_, rfl⟩
          rw [← hG] at g0 d0 d1 p0 p1
          have w1 := IntWalk.i64_in (Y / G) (by have := d1 h2; omega)
          have w2 := IntWalk.i64_in (Y / G * ev j) (by have := p1 h2; omega)
          have u1 : Y.tdiv G = Y / G := tdiv_nn (by omega)
          have cg : ∀ W, Calls Tryd.prog 78 #[.int .i64 Y, .int .i64 (ev j)] W fun e w' => e = .returned (.int .i64 G) ∧ W = w' := fun W => by
            rw [hG]; exact l02Gcd_c _ _ _ (by omega) (by omega) (by omega) (by omega)
          have CG := Lib.hid cg
          have HY := Lib.hid hY
          have HG := Lib.hid hG
          have hz : Y / G * ev j = cyY ev (j + 1) := by rw [st, ← hY, ← hG]
          have HZ := Lib.hid hz
          clear st cg hY hG hr1 hz he
          by_cases hbig : 2000 < Y / G * ev j
          · go_wp2_with fail
            refine wp_region_past (by kernel_rfl) (by kernel_rfl) ?_
            repeat (go_big_quiet_step ((go_at_call 59; exact Calls.past_same (l00In_c _ _ _ _))))
            refine wpQuiet_nil ?_
            rintro _ ⟨wx, rfl⟩
            go_wp2_with fail
            refine wp_region_past (by kernel_rfl) (by kernel_rfl) ?_
            repeat (go_big_quiet_step ((go_at_call 78; exact Calls.past_same (CG.out _))))
            refine wpQuiet_nil ?_
            rintro _ ⟨wx, rfl⟩
            go_wp2_with fail
            go_ret2
            exact ⟨_, _, rfl, ⟨(rulB_many (k := j + 1) (by omega) (by rw [← HZ.out]; exact hbig)).symm, fun e => by cases e⟩, (by repeat (first | with_reducible exact Ext.refl _ | with_reducible assumption | with_reducible refine Ext.alloc ?_ _ | with_reducible refine Ext.drew ?_ | (with_reducible refine Ext.setAt ?_ _ _ _ ?_; rotate_left; omega) | with_reducible refine Ext.trans ?_ (by assumption) | with_reducible exact Past.bel _ | with_reducible refine Ext.trans ?_ (Past.bel _)))⟩
          · go_wp2_with fail
            refine wp_region_past (by kernel_rfl) (by kernel_rfl) ?_
            repeat (go_big_quiet_step ((go_at_call 59; exact Calls.past_same (l00In_c _ _ _ _))))
            refine wpQuiet_nil ?_
            rintro _ ⟨wx, rfl⟩
            go_wp2_with fail
            refine wp_region_past (by kernel_rfl) (by kernel_rfl) ?_
            repeat (go_big_quiet_step ((go_at_call 78; exact Calls.past_same (CG.out _))))
            refine wpQuiet_nil ?_
            rintro _ ⟨wx, rfl⟩
            go_wp2_with fail
            exact ⟨⟨j + 1, by omega, by go_num, by rw [HZ.out], HR1.out, by rw [← HZ.out]; omega, (by repeat (first | with_reducible exact Ext.refl _ | with_reducible assumption | with_reducible refine Ext.alloc ?_ _ | with_reducible refine Ext.drew ?_ | (with_reducible refine Ext.setAt ?_ _ _ _ ?_; rotate_left; omega) | with_reducible refine Ext.trans ?_ (by assumption) | with_reducible exact Past.bel _ | with_reducible refine Ext.trans ?_ (Past.bel _)))⟩, by simp [intOf]; omega⟩
        · have t3 : inB (rs j) 0 (ev j - 1) = false := by simpa using t2
          clear t2
          go_wp2_with fail
          refine wp_region_past (by kernel_rfl) (by kernel_rfl) ?_
          repeat (go_big_quiet_step ((go_at_call 59; exact Calls.past_same (l00In_c _ _ _ _))))
          refine wpQuiet_nil ?_
          rintro _ ⟨wx, rfl⟩
          go_wp2_with fail
          go_ret2
          exact ⟨_, _, rfl, ⟨(rulB_bad hlt (by simp [t3])).symm, fun e => by cases e⟩, (by repeat (first | with_reducible exact Ext.refl _ | with_reducible assumption | with_reducible refine Ext.alloc ?_ _ | with_reducible refine Ext.drew ?_ | (with_reducible refine Ext.setAt ?_ _ _ _ ?_; rotate_left; omega) | with_reducible refine Ext.trans ?_ (by assumption) | with_reducible exact Past.bel _ | with_reducible refine Ext.trans ?_ (Past.bel _)))⟩
      · have t3 : inB (ev j) 1 1000 = false := by simpa using t1
        clear t1
        go_wp2_with fail
        refine wp_region_past (by kernel_rfl) (by kernel_rfl) ?_
        repeat (go_big_quiet_step ((go_at_call 59; exact Calls.past_same (l00In_c _ _ _ _))))
        refine wpQuiet_nil ?_
        rintro _ ⟨wx, rfl⟩
        go_wp2_with fail
        go_ret2
        exact ⟨_, _, rfl, ⟨(rulB_bad hlt (by simp [t3])).symm, fun e => by cases e⟩, (by repeat (first | with_reducible exact Ext.refl _ | with_reducible assumption | with_reducible refine Ext.alloc ?_ _ | with_reducible refine Ext.drew ?_ | (with_reducible refine Ext.setAt ?_ _ _ _ ?_; rotate_left; omega) | with_reducible refine Ext.trans ?_ (by assumption) | with_reducible exact Past.bel _ | with_reducible refine Ext.trans ?_ (Past.bel _)))⟩
    · obtain rfl : j = n := by omega
      by_cases h6 : j ≤ 6
      · have x6 : (j : Int) ≤ 6 := by omega
        go_wp2_with fail
        go_ret2
        exact ⟨_, _, rfl, ⟨by simp [rulB, HR.out, h2, h6], fun _ => rfl⟩, (by repeat (first | with_reducible exact Ext.refl _ | with_reducible assumption | with_reducible refine Ext.alloc ?_ _ | with_reducible refine Ext.drew ?_ | (with_reducible refine Ext.setAt ?_ _ _ _ ?_; rotate_left; omega) | with_reducible refine Ext.trans ?_ (by assumption) | with_reducible exact Past.bel _ | with_reducible refine Ext.trans ?_ (Past.bel _)))⟩
      · have x6 : ¬ (j : Int) ≤ 6 := by omega
        go_wp2_with fail
        go_ret2
        exact ⟨_, .inl ⟨rfl, ⟨by simp [rulB, h6], fun e => by cases e⟩, (by repeat (first | with_reducible exact Ext.refl _ | with_reducible assumption | with_reducible refine Ext.alloc ?_ _ | with_reducible refine Ext.drew ?_ | (with_reducible refine Ext.setAt ?_ _ _ _ ?_; rotate_left; omega) | with_reducible refine Ext.trans ?_ (by assumption) | with_reducible exact Past.bel _ | with_reducible refine Ext.trans ?_ (Past.bel _)))⟩⟩
end Go.Proofs.YtppphpnimecgpaaDoor

namespace Go.Proofs.YtppphpnimecgpaaDoor
set_option linter.unusedVariables false
/-- byte i of a text, as a number -/
def btN (s : ByteArray) (i : Nat) : Nat := (s.data.toList.getD i 0).toNat
/-- byte c may stand at place i of a name -/
def chN (i c : Nat) : Bool := decide ((97 ≤ c ∧ c ≤ 122) ∨ (i ≠ 0 ∧ ((48 ≤ c ∧ c ≤ 57) ∨ c = 45)))
def nmTo (s : ByteArray) : Nat → Bool
  | 0 => true
  | k + 1 => nmTo s k && chN k (btN s k)
theorem nmTo_ff {s : ByteArray} {n k : Nat} (hk : k < n) (h : chN k (btN s k) = false) : nmTo s n = false := by
  induction n with
  | zero => omega
  | succ n ih =>
    by_cases e : k = n
    · subst e; simp only [nmTo, h, Bool.and_false]
    · simp only [nmTo, ih (by omega), Bool.false_and]
/-- a text is a name -/
def isNm (s : ByteArray) : Bool := decide (1 ≤ s.size) && decide (s.size ≤ 12) && nmTo s s.size
theorem isNm_0 {s : ByteArray} (h : s.size < 1) : isNm s = false := by simp [isNm]; omega
theorem isNm_12 {s : ByteArray} (h : 12 < s.size) : isNm s = false := by simp [isNm]; omega
theorem isNm_ff {s : ByteArray} {k : Nat} (hk : k < s.size) (h : chN k (btN s k) = false) : isNm s = false := by simp [isNm, nmTo_ff hk h]
theorem isNm_tt {s : ByteArray} (h1 : 1 ≤ s.size) (h2 : s.size ≤ 12) (h : nmTo s s.size = true) : isNm s = true := by simp [isNm, h, h1, h2]
def chS (c : Nat) : Bool := decide (97 ≤ c ∧ c ≤ 122)
def chD (c : Nat) : Bool := decide (48 ≤ c ∧ c ≤ 57)
theorem btN_at {s : ByteArray} {j : Nat} (h : j < s.size) : s[j].toNat = btN s j := by
  have h' : j < s.data.size := h
  unfold btN
  rw [List.getD_eq_getElem?_getD, List.getElem?_eq_getElem (by simpa using h)]
  rfl
theorem chN_S {i c : Nat} (h : chS c = true) : chN i c = true := by simp [chS] at h; simp [chN]; omega
theorem chN_D {i c : Nat} (hi : i ≠ 0) (h : chD c = true) : chN i c = true := by simp [chD] at h; simp [chN]; omega
theorem chN_m {i c : Nat} (hi : i ≠ 0) (h : c = 45) : chN i c = true := by simp [chN]; omega
theorem chN_0 {c : Nat} (h : chS c = false) : chN 0 c = false := by simp [chS] at h; simp [chN]; omega
theorem chN_f {i c : Nat} (h : chS c = false) (h2 : chD c = false) (h3 : c ≠ 45) : chN i c = false := by simp [chS] at h; simp [chD] at h2; simp [chN]; omega
end Go.Proofs.YtppphpnimecgpaaDoor

namespace Go.Proofs.YtppphpnimecgpaaDoor
open Go.RowKit
set_option linter.unusedVariables false
set_option linter.unusedSimpArgs false

open Go.Lib in
theorem ext_bytes (w : World) (e : TypeId) (s : ByteArray) : Ext w (Lib.bytesWorld w e s) :=
  below_freeze ((Below.drew (Below.refl _ w)).alloc (Nat.le_refl _) _) (p := ⟨w.heap.size, _, none⟩) (Nat.le_refl _) 1
set_option maxHeartbeats 2000000 in
theorem implIsName_c (s : ByteArray) (w : World) (hz : s.size ≤ 9223372036854775807) :
    Calls Tryd.prog 71 #[.string s] w fun e w' => e = .returned (.bool (isNm s)) ∧ Ext w w' := by
  have hz' : (s.size : Int) ≤ 9223372036854775807 := by omega
  by_cases z1 : s.size < 1
  · have y1 : (s.size : Int) < 1 := by omega
    go_enter Tryd.func71, Tryd.ntmps71
    go_wp2_with fail
    go_ret
    exact ⟨ret_bool (isNm_0 z1).symm, (by repeat (first | with_reducible exact Ext.refl _ | with_reducible assumption | with_reducible refine Ext.alloc ?_ _ | with_reducible refine Ext.drew ?_ | (with_reducible refine Ext.setAt ?_ _ _ _ ?_; rotate_left; omega) | with_reducible refine Ext.trans ?_ (by assumption) | with_reducible exact Past.bel _ | with_reducible refine Ext.trans ?_ (Past.bel _)))⟩
  · have y1 : ¬ (s.size : Int) < 1 := by omega
    by_cases z2 : 12 < s.size
    · have y2 : (12 : Int) < s.size := by omega
      go_enter Tryd.func71, Tryd.ntmps71
      go_wp2_with fail
      go_ret
      exact ⟨ret_bool (isNm_12 z2).symm, (by repeat (first | with_reducible exact Ext.refl _ | with_reducible assumption | with_reducible refine Ext.alloc ?_ _ | with_reducible refine Ext.drew ?_ | (with_reducible refine Ext.setAt ?_ _ _ _ ?_; rotate_left; omega) | with_reducible refine Ext.trans ?_ (by assumption) | with_reducible exact Past.bel _ | with_reducible refine Ext.trans ?_ (Past.bel _)))⟩
    · have y2 : ¬ (12 : Int) < s.size := by omega
      have hcv := Lib.run_convert_string_bytes (P := Tryd.prog) w 9 81 5 s (u := .string) Tryd.underlying9 Tryd.underlying81 Tryd.underlying5
      have hbw : Ext w (Lib.bytesWorld w 5 s) := ext_bytes w 5 s
      have hcl : ∀ j, j < s.size → (Lib.bytesWorld w 5 s).cell? ⟨w.heap.size, j, none⟩ = some (.int .u8 (btN s j : Nat)) := fun j hj => Lib.bytesWorld_cell w 5 s j hj
      obtain ⟨W1, hW⟩ : ∃ W1, W1 = Lib.bytesWorld w 5 s := ⟨_, rfl⟩
      rw [← hW] at hcv hbw hcl
      have HC := Lib.hid hcl
      clear hcl hW
      go_enter Tryd.func71, Tryd.ntmps71
      go_wp2_with fail
      clear hcv
      go_loop [18] (fun i => ∃ j : Nat, j ≤ s.size ∧ i = .int .i64 j ∧ nmTo s j = true) (fun i => s.size - (intOf i).toNat)
      case atStart => exact ⟨0, by omega, rfl, rfl⟩
      case round =>
        obtain ⟨j, hj, rfl, hr⟩ := hrel
        have HR := Lib.hid hr
        clear hr
        by_cases hlt : j < s.size
        · have q1 := HC.out j hlt
          obtain ⟨C, hC⟩ : ∃ C, C = btN s j := ⟨_, rfl⟩
          rw [← hC] at q1
          have HB := Lib.hid hC
          clear hC
          go_wp2_with fail
          all_goals first
            | (go_ret; exact ⟨ret_bool (isNm_ff hlt (by rw [← HB.out]; clear HC q1 hbw HB HR; grind [chN])).symm, (by repeat (first | with_reducible exact Ext.refl _ | with_reducible assumption | with_reducible refine Ext.alloc ?_ _ | with_reducible refine Ext.drew ?_ | (with_reducible refine Ext.setAt ?_ _ _ _ ?_; rotate_left; omega) | with_reducible refine Ext.trans ?_ (by assumption) | with_reducible exact Past.bel _ | with_reducible refine Ext.trans ?_ (Past.bel _)))⟩)
            | (refine ⟨⟨j + 1, by omega, by go_num, ?_⟩, by simp [intOf]; omega⟩; have h2 : chN j C = true := (by clear HC q1 hbw HB HR; grind [chN]); rw [HB.out] at h2; simp only [nmTo, HR.out, h2]; rfl)
        · obtain rfl : j = s.size := by omega
          go_wp2_with fail
          go_ret
          exact ⟨ret_bool (isNm_tt (by omega) (by omega) HR.out).symm, (by repeat (first | with_reducible exact Ext.refl _ | with_reducible assumption | with_reducible refine Ext.alloc ?_ _ | with_reducible refine Ext.drew ?_ | (with_reducible refine Ext.setAt ?_ _ _ _ ?_; rotate_left; omega) | with_reducible refine Ext.trans ?_ (by assumption) | with_reducible exact Past.bel _ | with_reducible refine Ext.trans ?_ (Past.bel _)))⟩
end Go.Proofs.YtppphpnimecgpaaDoor

namespace Go.Proofs.YtppphpnimecgpaaDoor
open Go.RowKit
set_option linter.unusedVariables false
set_option linter.unusedSimpArgs false

theorem l01Small_c (c : Nat) (w : World) : Calls Tryd.prog 79 #[.int .u8 (c : Nat)] w fun e w' => e = .returned (.bool (chS c)) ∧ w = w' := by
  go_enter Tryd.func79, Tryd.ntmps79
  go_wp2
  all_goals (go_ret; refine ⟨ret_bool ?_, rfl⟩; rw [Bool.eq_iff_iff]; simp [chS]; try omega)
theorem l01Digit_c (c : Nat) (w : World) : Calls Tryd.prog 80 #[.int .u8 (c : Nat)] w fun e w' => e = .returned (.bool (chD c)) ∧ w = w' := by
  go_enter Tryd.func80, Tryd.ntmps80
  go_wp2
  all_goals (go_ret; refine ⟨ret_bool ?_, rfl⟩; rw [Bool.eq_iff_iff]; simp [chD]; try omega)
set_option maxHeartbeats 2000000 in
theorem specIsName_c (s : ByteArray) (w : World) (hz : s.size ≤ 9223372036854775807) :
    Calls Tryd.prog 66 #[.string s] w fun e w' => e = .returned (.bool (isNm s)) ∧ w = w' := by
  have hz' : (s.size : Int) ≤ 9223372036854775807 := by omega
  by_cases z1 : s.size < 1
  · obtain rfl : s = ⟨#[]⟩ := by
      obtain ⟨⟨l⟩⟩ := s
      cases l with
      | nil => rfl
      | cons x l => simp [ByteArray.size] at z1
    go_enter Tryd.func66, Tryd.ntmps66
    go_wp2_with fail
    go_ret
    exact ⟨ret_bool (isNm_0 z1).symm, rfl⟩
  · have y0 : ¬ s.toList = [] := fun e => by have e2 := (toList_nil_iff_emptyBytes s).1 e; subst e2; exact z1 (by decide)
    have y1 : s.toList.isEmpty = false := by simpa using y0
    by_cases z2 : 12 < s.size
    · have y2 : (12 : Int) < s.size := by omega
      go_enter Tryd.func66, Tryd.ntmps66
      go_wp2_with fail
      go_ret
      exact ⟨ret_bool (isNm_12 z2).symm, rfl⟩
    · have y2 : ¬ (12 : Int) < s.size := by omega
      have y3 : (0 : Int) < s.size := by omega
      have y4 : 0 < s.size := by omega
      cases hs : chS s[0].toNat
      · have HS := Lib.hid hs
        clear hs
        go_enter Tryd.func66, Tryd.ntmps66
        go_wp2_with (go_at_call 79; ((with_reducible refine (l01Small_c _ _).mono ?_); rintro e w' ⟨rfl, rfl⟩; rw [HS.out]))
        go_ret
        exact ⟨ret_bool (isNm_ff y4 (chN_0 (by rw [← btN_at y4]; exact HS.out))).symm, rfl⟩
      · have HS := Lib.hid hs
        clear hs
        go_enter Tryd.func66, Tryd.ntmps66
        go_wp2_with (go_at_call 79; ((with_reducible refine (l01Small_c _ _).mono ?_); rintro e w' ⟨rfl, rfl⟩; rw [HS.out]))
        go_loop [3] (fun i => ∃ j : Nat, j ≤ s.size ∧ i = .int .i64 j ∧ nmTo s j = true) (fun i => s.size - (intOf i).toNat)
        case atStart => exact ⟨0, by omega, rfl, rfl⟩
        case round =>
          obtain ⟨j, hj, rfl, hr⟩ := hrel
          have HR := Lib.hid hr
          clear hr
          by_cases hlt : j < s.size
          · have HB := Lib.hid (btN_at hlt)
            by_cases h0 : j = 0
            · subst h0
              go_wp2_with (go_at_call 79; ((with_reducible refine (l01Small_c _ _).mono ?_); rintro e w' ⟨rfl, rfl⟩; rw [HS.out]))
              exact ⟨⟨1, by omega, rfl, by simp only [nmTo, HR.out]; rw [← HB.out, chN_S HS.out]; rfl⟩, by simp [intOf]; omega⟩
            · have N0 := Lib.hid h0
              clear h0
              cases a1 : chS s[j].toNat
              · cases a2 : chD s[j].toNat
                · by_cases a3 : s[j].toNat = 45
                  · have b3 : ((s[j].toNat : Int) != 45) = false := by simp; omega
                    have A1 := Lib.hid a1; have A2 := Lib.hid a2; have A3 := Lib.hid a3
                    clear a1 a2 a3
                    go_wp2_with (first | (go_at_call 79; ((with_reducible refine (l01Small_c _ _).mono ?_); rintro e w' ⟨rfl, rfl⟩; rw [A1.out])) | (go_at_call 80; ((with_reducible refine (l01Digit_c _ _).mono ?_); rintro e w' ⟨rfl, rfl⟩; rw [A2.out])))
                    exact ⟨⟨j + 1, by omega, by go_num, by simp only [nmTo, HR.out]; rw [← HB.out, chN_m N0.out A3.out]; rfl⟩, by simp [intOf]; omega⟩
                  · have b3 : ((s[j].toNat : Int) != 45) = true := by simp; omega
                    have A1 := Lib.hid a1; have A2 := Lib.hid a2; have A3 := Lib.hid a3
                    clear a1 a2 a3
                    go_wp2_with (first | (go_at_call 79; ((with_reducible refine (l01Small_c _ _).mono ?_); rintro e w' ⟨rfl, rfl⟩; rw [A1.out])) | (go_at_call 80; ((with_reducible refine (l01Digit_c _ _).mono ?_); rintro e w' ⟨rfl, rfl⟩; rw [A2.out])))
                    go_ret
                    exact ⟨ret_bool (isNm_ff hlt (by rw [← HB.out]; exact chN_f A1.out A2.out A3.out)).symm, rfl⟩
                · have A1 := Lib.hid a1; have A2 := Lib.hid a2
                  clear a1 a2
                  go_wp2_with (first | (go_at_call 79; ((with_reducible refine (l01Small_c _ _).mono ?_); rintro e w' ⟨rfl, rfl⟩; rw [A1.out])) | (go_at_call 80; ((with_reducible refine (l01Digit_c _ _).mono ?_); rintro e w' ⟨rfl, rfl⟩; rw [A2.out])))
                  exact ⟨⟨j + 1, by omega, by go_num, by simp only [nmTo, HR.out]; rw [← HB.out, chN_D N0.out A2.out]; rfl⟩, by simp [intOf]; omega⟩
              · have A1 := Lib.hid a1
                clear a1
                go_wp2_with (first | (go_at_call 79; ((with_reducible refine (l01Small_c _ _).mono ?_); rintro e w' ⟨rfl, rfl⟩; rw [A1.out])))
                exact ⟨⟨j + 1, by omega, by go_num, by simp only [nmTo, HR.out]; rw [← HB.out, chN_S A1.out]; rfl⟩, by simp [intOf]; omega⟩
          · obtain rfl : j = s.size := by omega
            go_wp2_with fail
            go_ret
            exact ⟨ret_bool (isNm_tt (by omega) (by omega) HR.out).symm, rfl⟩
end Go.Proofs.YtppphpnimecgpaaDoor

namespace Go.Proofs.YtppphpnimecgpaaDoor
set_option linter.unusedVariables false
/-- none of the first j names is the one at place k -/
def frTo (nm : Nat → ByteArray) (k : Nat) : Nat → Bool
  | 0 => true
  | j + 1 => frTo nm k j && !decide (nm j = nm k)
theorem frTo_ff {nm : Nat → ByteArray} {k n j : Nat} (hj : j < n) (h : nm j = nm k) : frTo nm k n = false := by
  induction n with
  | zero => omega
  | succ n ih =>
    by_cases e : j = n
    · subst e; simp [frTo, h]
    · simp only [frTo, ih (by omega), Bool.false_and]
theorem frTo_at {nm : Nat → ByteArray} {k n j : Nat} (h : frTo nm k n = true) (hj : j < n) : ¬ nm j = nm k := fun e => by rw [frTo_ff hj e] at h; cases h
/-- month k is valid, as the one behind the first k -/
def monA (nm : Nat → ByteArray) (dy lp : Nat → Int) (k : Nat) : Bool := isNm (nm k) && (inB (dy k) 1 60 && (inB (lp k) 1 60 && frTo nm k k))
def monTo (nm : Nat → ByteArray) (dy lp : Nat → Int) : Nat → Bool
  | 0 => true
  | k + 1 => monTo nm dy lp k && monA nm dy lp k
theorem monTo_ff {nm : Nat → ByteArray} {dy lp : Nat → Int} {n k : Nat} (hk : k < n) (h : monA nm dy lp k = false) : monTo nm dy lp n = false := by
  induction n with
  | zero => omega
  | succ n ih =>
    by_cases e : k = n
    · subst e; simp only [monTo, h, Bool.and_false]
    · simp only [monTo, ih (by omega), Bool.false_and]
theorem monTo_at {nm : Nat → ByteArray} {dy lp : Nat → Int} {n k : Nat} (h : monTo nm dy lp n = true) (hk : k < n) : monA nm dy lp k = true := by
  cases e : monA nm dy lp k
  · rw [monTo_ff hk e] at h; cases h
  · rfl
theorem monA_1 {nm : Nat → ByteArray} {dy lp : Nat → Int} {k : Nat} (h : isNm (nm k) = false) : monA nm dy lp k = false := by simp [monA, h]
theorem monA_2 {nm : Nat → ByteArray} {dy lp : Nat → Int} {k : Nat} (h : inB (dy k) 1 60 = false) : monA nm dy lp k = false := by simp [monA, h]
theorem monA_3 {nm : Nat → ByteArray} {dy lp : Nat → Int} {k : Nat} (h : inB (lp k) 1 60 = false) : monA nm dy lp k = false := by simp [monA, h]
theorem monA_4 {nm : Nat → ByteArray} {dy lp : Nat → Int} {k : Nat} (h : frTo nm k k = false) : monA nm dy lp k = false := by simp [monA, h]
theorem monA_t {nm : Nat → ByteArray} {dy lp : Nat → Int} {k : Nat} (h1 : isNm (nm k) = true) (h2 : inB (dy k) 1 60 = true) (h3 : inB (lp k) 1 60 = true) (h4 : frTo nm k k = true) : monA nm dy lp k = true := by simp [monA, h1, h2, h3, h4]
def monB (nm : Nat → ByteArray) (dy lp : Nat → Int) (n : Nat) : Bool := monTo nm dy lp n && inB (n : Int) 1 20
/-- a calendar is valid: its name, the names of its months, its numbers, its week -/
def calB (s : ByteArray) (nm : Nat → ByteArray) (c : CalN) (wk : Int) : Bool := rulB c.ev c.rs c.nr && (isNm s && (monB nm c.dy c.lp c.n && inB wk 1 12))
theorem calB_b {s : ByteArray} {nm : Nat → ByteArray} {c : CalN} {wk : Int} (h : calB s nm c wk = true) : CalB c := by
  simp only [calB, monB, rulB, Bool.and_eq_true, decide_eq_true_eq, inB_t] at h
  obtain ⟨⟨⟨h1, h2⟩, h3⟩, h4, ⟨h5, h6⟩, h7⟩ := h
  have hm : ∀ j, j < c.n → inB (c.dy j) 1 60 = true ∧ inB (c.lp j) 1 60 = true := fun j hj => by
    have := monTo_at h5 hj
    simp only [monA, Bool.and_eq_true] at this
    exact ⟨this.2.1, this.2.2.1⟩
  exact ⟨h3, by omega, by omega, fun j hj => (rulTo_at h1 hj).1, fun j hj => (rulTo_at h1 hj).2, fun j hj => inB_t.1 (hm j hj).1, fun j hj => inB_t.1 (hm j hj).2, h2⟩
section
variable {s : ByteArray} {nm : Nat → ByteArray} {c : CalN} {wk : Int}
theorem calB_1 (h : isNm s = false) : calB s nm c wk = false := by simp [calB, h]
theorem calB_2 (h : inB (c.n : Int) 1 20 = false) : calB s nm c wk = false := by simp [calB, monB, h]
theorem calB_3 (h : 6 < c.nr) : calB s nm c wk = false := by simp [calB, rulB]; omega
theorem calB_4 (h : inB wk 1 12 = false) : calB s nm c wk = false := by simp [calB, h]
theorem calB_5 {k : Nat} (hk : k < c.n) (h : monA nm c.dy c.lp k = false) : calB s nm c wk = false := by simp [calB, monB, monTo_ff hk h]
theorem calB_6 {k : Nat} (hk : k < c.nr) (h : (inB (c.ev k) 1 1000 && inB (c.rs k) 0 (c.ev k - 1)) = false) : calB s nm c wk = false := by simp only [calB, rulB_bad hk h, Bool.false_and]
theorem calB_7 (h1 : isNm s = true) (h2 : inB (c.n : Int) 1 20 = true) (h3 : c.nr ≤ 6) (h4 : inB wk 1 12 = true) (h5 : monTo nm c.dy c.lp c.n = true) (h6 : rulTo c.ev c.rs c.nr = true) : calB s nm c wk = decide (cyY c.ev c.nr ≤ 2000) := by simp [calB, monB, rulB, h1, h2, h3, h4, h5, h6]
end
end Go.Proofs.YtppphpnimecgpaaDoor

namespace Go.Proofs.YtppphpnimecgpaaDoor
open Go.RowKit
set_option linter.unusedVariables false
set_option linter.unusedSimpArgs false

theorem bs_ne {x y : ByteArray} (h : ¬ x = y) : (x.toList == y.toList) = false := by
  simp only [ByteArray.toList_eq, beq_eq_false_iff_ne, ne_eq]
  intro e
  obtain ⟨⟨a⟩⟩ := x; obtain ⟨⟨b⟩⟩ := y
  simp only at e; subst e; exact h rfl
theorem bs_eq {x y : ByteArray} (h : x = y) : (x.toList == y.toList) = true := by subst h; simp
set_option maxHeartbeats 2000000 in
theorem l15Months_c (a : Option Addr) (n c : Nat) (nm : Nat → ByteArray) (dy lp : Nat → Int) (w : World) (hn : n ≤ 1048576) (hs : S3 w a n nm dy lp) (hz : ∀ i, i < n → (nm i).size ≤ 9223372036854775807) :
    Calls Tryd.prog 67 #[.slice a n c] w fun e w' => e = .returned (.bool (monB nm dy lp n)) ∧ Ext w w' := by
  have HS := Lib.hid hs
  have HZ := Lib.hid hz
  clear hs hz
  go_enter Tryd.func67, Tryd.ntmps67
  go_wp2_with fail
  go_loopw [3] (fun i wr => ∃ j : Nat, j ≤ n ∧ i = .int .i64 j ∧ monTo nm dy lp j = true ∧ Ext w wr) (fun i _ => n - (intOf i).toNat)
  case atStart => exact ⟨0, by omega, rfl, rfl, (by repeat (first | with_reducible exact Ext.refl _ | with_reducible assumption | with_reducible refine Ext.alloc ?_ _ | with_reducible refine Ext.drew ?_ | (with_reducible refine Ext.setAt ?_ _ _ _ ?_; rotate_left; omega) | with_reducible refine Ext.trans ?_ (by assumption) | with_reducible exact Past.bel _ | with_reducible refine Ext.trans ?_ (Past.bel _)))⟩
  case round =>
    obtain ⟨j, hj, rfl, hr, hbl⟩ := hrel
    have HR := Lib.hid hr
    clear hr
    by_cases hlt : j < n
    · have hsr := S3.ext HS.out hbl
      have HSR := Lib.hid hsr
      obtain ⟨b1, o1, rfl, hb1, q1, q2, q3⟩ := hsr.at hlt
      clear hsr
      have zj := HZ.out j hlt
      cases h1 : isNm (nm j)
      · go_wp2_with (go_at_call 66; ((with_reducible refine (specIsName_c _ _ zj).mono ?_); rintro e w' ⟨rfl, rfl⟩))
        go_ret
        exact ⟨ret_bool (by unfold monB; rw [monTo_ff hlt (monA_1 h1)]; rfl), (by repeat (first | with_reducible exact Ext.refl _ | with_reducible assumption | with_reducible refine Ext.alloc ?_ _ | with_reducible refine Ext.drew ?_ | (with_reducible refine Ext.setAt ?_ _ _ _ ?_; rotate_left; omega) | with_reducible refine Ext.trans ?_ (by assumption) | with_reducible exact Past.bel _ | with_reducible refine Ext.trans ?_ (Past.bel _)))⟩
      · cases h2 : inB (dy j) 1 60
        · go_wp2_with (first | (go_at_call 66; ((with_reducible refine (specIsName_c _ _ zj).mono ?_); rintro e w' ⟨rfl, rfl⟩)) | (go_at_call 59; ((with_reducible refine (l00In_c _ _ _ _).mono ?_); rintro e w' ⟨rfl, rfl⟩)))
          go_ret
          exact ⟨ret_bool (by unfold monB; rw [monTo_ff hlt (monA_2 h2)]; rfl), (by repeat (first | with_reducible exact Ext.refl _ | with_reducible assumption | with_reducible refine Ext.alloc ?_ _ | with_reducible refine Ext.drew ?_ | (with_reducible refine Ext.setAt ?_ _ _ _ ?_; rotate_left; omega) | with_reducible refine Ext.trans ?_ (by assumption) | with_reducible exact Past.bel _ | with_reducible refine Ext.trans ?_ (Past.bel _)))⟩
        · cases h3 : inB (lp j) 1 60
          · go_wp2_with (first | (go_at_call 66; ((with_reducible refine (specIsName_c _ _ zj).mono ?_); rintro e w' ⟨rfl, rfl⟩)) | (go_at_call 59; ((with_reducible refine (l00In_c _ _ _ _).mono ?_); rintro e w' ⟨rfl, rfl⟩)))
            go_ret
            exact ⟨ret_bool (by unfold monB; rw [monTo_ff hlt (monA_3 h3)]; rfl), (by repeat (first | with_reducible exact Ext.refl _ | with_reducible assumption | with_reducible refine Ext.alloc ?_ _ | with_reducible refine Ext.drew ?_ | (with_reducible refine Ext.setAt ?_ _ _ _ ?_; rotate_left; omega) | with_reducible refine Ext.trans ?_ (by assumption) | with_reducible exact Past.bel _ | with_reducible refine Ext.trans ?_ (Past.bel _)))⟩
          · go_wp2_with (first | (go_at_call 66; ((with_reducible refine (specIsName_c _ _ zj).mono ?_); rintro e w' ⟨rfl, rfl⟩)) | (go_at_call 59; ((with_reducible refine (l00In_c _ _ _ _).mono ?_); rintro e w' ⟨rfl, rfl⟩)))
            have H1 := Lib.hid h1; have H2 := Lib.hid h2; have H3 := Lib.hid h3
            clear h1 h2 h3 q1 q2 q3
            go_loopw [4] (fun k ws => ∃ i : Nat, i ≤ j ∧ k = .int .i64 i ∧ frTo nm j i = true ∧ Ext wr ws) (fun k _ => j - (intOf k).toNat)
            case atStart => exact ⟨0, by omega, rfl, rfl, (by repeat (first | with_reducible exact Ext.refl _ | with_reducible assumption | with_reducible refine Ext.alloc ?_ _ | with_reducible refine Ext.drew ?_ | (with_reducible refine Ext.setAt ?_ _ _ _ ?_; rotate_left; omega) | with_reducible refine Ext.trans ?_ (by assumption) | with_reducible exact Past.bel _ | with_reducible refine Ext.trans ?_ (Past.bel _)))⟩
            case round =>
              obtain ⟨i, hi, rfl, hf, hbl2⟩ := hrel
              have HF := Lib.hid hf
              clear hf
              by_cases hij : i < j
              · obtain ⟨b1, o1, e1, hb1, q1, _, _⟩ := (S3.ext HSR.out hbl2).at (show i < n by omega)
                obtain ⟨b2, o2, e2, hb2, q2, _, _⟩ := (S3.ext HSR.out hbl2).at hlt
                cases e1
                cases e2
                by_cases e : nm i = nm j
                · have d1 : decide (nm i = nm j) = true := by simpa using e
                  have d2 := bs_eq e
                  have E := Lib.hid e
                  clear e
                  go_wp2_with fail
                  refine wp_region_past (by kernel_rfl) (by kernel_rfl) ?_
                  repeat (go_big_quiet_step (fail))
                  refine wpQuiet_nil ?_
                  rintro _ ⟨wx, rfl⟩
                  go_wp2_with fail
                  go_ret
                  exact ⟨ret_bool (by unfold monB; rw [monTo_ff hlt (monA_4 (frTo_ff hij E.out))]; rfl), (by repeat (first | with_reducible exact Ext.refl _ | with_reducible assumption | with_reducible refine Ext.alloc ?_ _ | with_reducible refine Ext.drew ?_ | (with_reducible refine Ext.setAt ?_ _ _ _ ?_; rotate_left; omega) | with_reducible refine Ext.trans ?_ (by assumption) | with_reducible exact Past.bel _ | with_reducible refine Ext.trans ?_ (Past.bel _)))⟩
                · have d1 : decide (nm i = nm j) = false := by simpa using e
                  have d2 := bs_ne e
                  have E := Lib.hid e
                  clear e
                  go_wp2_with fail
                  refine wp_region_past (by kernel_rfl) (by kernel_rfl) ?_
                  repeat (go_big_quiet_step (fail))
                  refine wpQuiet_nil ?_
                  rintro _ ⟨wx, rfl⟩
                  go_wp2_with fail
                  exact ⟨⟨i + 1, by omega, by go_num, by simp only [frTo, HF.out, d1]; rfl, (by repeat (first | with_reducible exact Ext.refl _ | with_reducible assumption | with_reducible refine Ext.alloc ?_ _ | with_reducible refine Ext.drew ?_ | (with_reducible refine Ext.setAt ?_ _ _ _ ?_; rotate_left; omega) | with_reducible refine Ext.trans ?_ (by assumption) | with_reducible exact Past.bel _ | with_reducible refine Ext.trans ?_ (Past.bel _)))⟩, by simp [intOf]; omega⟩
              · obtain rfl : i = j := by omega
                go_wp2_with fail
                exact ⟨⟨i + 1, by omega, by go_num, by simp only [monTo, HR.out, monA_t H1.out H2.out H3.out HF.out]; rfl, (by repeat (first | with_reducible exact Ext.refl _ | with_reducible assumption | with_reducible refine Ext.alloc ?_ _ | with_reducible refine Ext.drew ?_ | (with_reducible refine Ext.setAt ?_ _ _ _ ?_; rotate_left; omega) | with_reducible refine Ext.trans ?_ (by assumption) | with_reducible exact Past.bel _ | with_reducible refine Ext.trans ?_ (Past.bel _)))⟩, by simp [intOf]; omega⟩
    · obtain rfl : j = n := by omega
      go_wp2_with (go_at_call 59; ((with_reducible refine (l00In_c _ _ _ _).mono ?_); rintro e w' ⟨rfl, rfl⟩))
      go_ret
      exact ⟨ret_bool (by unfold monB; rw [HR.out]; rfl), (by repeat (first | with_reducible exact Ext.refl _ | with_reducible assumption | with_reducible refine Ext.alloc ?_ _ | with_reducible refine Ext.drew ?_ | (with_reducible refine Ext.setAt ?_ _ _ _ ?_; rotate_left; omega) | with_reducible refine Ext.trans ?_ (by assumption) | with_reducible exact Past.bel _ | with_reducible refine Ext.trans ?_ (Past.bel _)))⟩
end Go.Proofs.YtppphpnimecgpaaDoor

namespace Go.Proofs.YtppphpnimecgpaaDoor
open Go.RowKit
set_option linter.unusedVariables false
set_option linter.unusedSimpArgs false

set_option maxHeartbeats 2000000 in
theorem l15Ok_c (g : Nat) (s : ByteArray) (ma ra : Option Addr) (mc rc : Nat) (wk : Int) (nm : Nat → ByteArray) (c : CalN) (w : World) (hm : c.n ≤ 1048576) (hr : c.nr ≤ 1048576) (hs : s.size ≤ 9223372036854775807) (hz : ∀ i, i < c.n → (nm i).size ≤ 9223372036854775807) (h : CalP w g s ma ra mc rc wk nm c) :
    Calls Tryd.prog 48 #[.pointer (some ⟨g, 0, none⟩)] w fun e w' => e = .returned (.bool (calB s nm c wk)) ∧ Ext w w' := by
  have H := Lib.hid h
  have HZ := Lib.hid hz
  have g0 := h.lt
  have p0 := h.c0
  have p1 := h.c1
  have p2 := h.c2
  have p3 := h.c3
  have hy : ∀ W, Ext w W → Calls Tryd.prog 65 #[.slice ra c.nr rc] W fun e w' => ∃ x, e = .returned (.tuple #[.int .i64 x, .bool (rulB c.ev c.rs c.nr)]) ∧ Ext W w' := fun W hx =>
    (l15Years_c _ _ _ _ _ _ W hr (h.ext hx).mem.ru).mono fun e w' ⟨x, b, he, hb, hx⟩ => ⟨x, by rw [he, hb.ok], hx⟩
  have HY := Lib.hid hy
  clear h hz hy
  cases h1 : rulB c.ev c.rs c.nr
  · have H1 := Lib.hid h1
    rw [h1] at HY
    clear h1
    go_enter Tryd.func48, Tryd.ntmps48
    go_wp2_with fail
    refine (HY.out _ (by repeat (first | with_reducible exact Ext.refl _ | with_reducible assumption | with_reducible refine Ext.alloc ?_ _ | with_reducible refine Ext.drew ?_ | (with_reducible refine Ext.setAt ?_ _ _ _ ?_; rotate_left; omega) | with_reducible refine Ext.trans ?_ (by assumption) | with_reducible exact Past.bel _ | with_reducible refine Ext.trans ?_ (Past.bel _)))).mono ?_
    rintro e w' ⟨x, rfl, hx1⟩
    (first | (obtain ⟨wx1, rfl⟩ := Past.again hx1) | (obtain ⟨wx1, rfl⟩ := Past.of hx1))
    go_wp2_with fail
    go_ret
    exact ⟨ret_bool (by unfold calB; rw [H1.out]; rfl), (by repeat (first | with_reducible exact Ext.refl _ | with_reducible assumption | with_reducible refine Ext.alloc ?_ _ | with_reducible refine Ext.drew ?_ | (with_reducible refine Ext.setAt ?_ _ _ _ ?_; rotate_left; omega) | with_reducible refine Ext.trans ?_ (by assumption) | with_reducible exact Past.bel _ | with_reducible refine Ext.trans ?_ (Past.bel _)))⟩
  · have H1 := Lib.hid h1
    rw [h1] at HY
    clear h1
    go_enter Tryd.func48, Tryd.ntmps48
    go_wp2_with fail
    refine (HY.out _ (by repeat (first | with_reducible exact Ext.refl _ | with_reducible assumption | with_reducible refine Ext.alloc ?_ _ | with_reducible refine Ext.drew ?_ | (with_reducible refine Ext.setAt ?_ _ _ _ ?_; rotate_left; omega) | with_reducible refine Ext.trans ?_ (by assumption) | with_reducible exact Past.bel _ | with_reducible refine Ext.trans ?_ (Past.bel _)))).mono ?_
    rintro e w' ⟨x, rfl, hx1⟩
    (first | (obtain ⟨wx1, rfl⟩ := Past.again hx1) | (obtain ⟨wx1, rfl⟩ := Past.of hx1))
    cases h2 : isNm s
    · go_wp2_with (go_at_call 66; ((with_reducible refine (specIsName_c _ _ hs).mono ?_); rintro e w' ⟨rfl, rfl⟩))
      go_ret
      exact ⟨ret_bool (by unfold calB; rw [H1.out, h2]; rfl), (by repeat (first | with_reducible exact Ext.refl _ | with_reducible assumption | with_reducible refine Ext.alloc ?_ _ | with_reducible refine Ext.drew ?_ | (with_reducible refine Ext.setAt ?_ _ _ _ ?_; rotate_left; omega) | with_reducible refine Ext.trans ?_ (by assumption) | with_reducible exact Past.bel _ | with_reducible refine Ext.trans ?_ (Past.bel _)))⟩
    · cases h3 : monB nm c.dy c.lp c.n
      · go_wp2_with (first | (go_at_call 66; ((with_reducible refine (specIsName_c _ _ hs).mono ?_); rintro e w' ⟨rfl, rfl⟩)) | (go_at_call 67; ((with_reducible refine (l15Months_c _ _ _ nm c.dy c.lp _ hm (H.out.ext (by repeat (first | with_reducible exact Ext.refl _ | with_reducible assumption | with_reducible refine Ext.alloc ?_ _ | with_reducible refine Ext.drew ?_ | (with_reducible refine Ext.setAt ?_ _ _ _ ?_; rotate_left; omega) | with_reducible refine Ext.trans ?_ (by assumption) | with_reducible exact Past.bel _ | with_reducible refine Ext.trans ?_ (Past.bel _)))).mem.mo HZ.out).mono ?_); rintro e w' ⟨rfl, hx⟩; (first | (obtain ⟨wx, rfl⟩ := Past.again hx) | (obtain ⟨wx, rfl⟩ := Past.ofd hx) | (obtain ⟨wx, rfl⟩ := Past.of hx)))))
        go_ret
        exact ⟨ret_bool (by unfold calB; rw [H1.out, h2, h3]; rfl), (by repeat (first | with_reducible exact Ext.refl _ | with_reducible assumption | with_reducible refine Ext.alloc ?_ _ | with_reducible refine Ext.drew ?_ | (with_reducible refine Ext.setAt ?_ _ _ _ ?_; rotate_left; omega) | with_reducible refine Ext.trans ?_ (by assumption) | with_reducible exact Past.bel _ | with_reducible refine Ext.trans ?_ (Past.bel _)))⟩
      · go_wp2_with (first | (go_at_call 66; ((with_reducible refine (specIsName_c _ _ hs).mono ?_); rintro e w' ⟨rfl, rfl⟩)) | (go_at_call 67; ((with_reducible refine (l15Months_c _ _ _ nm c.dy c.lp _ hm (H.out.ext (by repeat (first | with_reducible exact Ext.refl _ | with_reducible assumption | with_reducible refine Ext.alloc ?_ _ | with_reducible refine Ext.drew ?_ | (with_reducible refine Ext.setAt ?_ _ _ _ ?_; rotate_left; omega) | with_reducible refine Ext.trans ?_ (by assumption) | with_reducible exact Past.bel _ | with_reducible refine Ext.trans ?_ (Past.bel _)))).mem.mo HZ.out).mono ?_); rintro e w' ⟨rfl, hx⟩; (first | (obtain ⟨wx, rfl⟩ := Past.again hx) | (obtain ⟨wx, rfl⟩ := Past.ofd hx) | (obtain ⟨wx, rfl⟩ := Past.of hx)))) | (go_at_call 59; ((with_reducible refine (l00In_c _ _ _ _).mono ?_); rintro e w' ⟨rfl, rfl⟩)))
        go_ret
        exact ⟨ret_bool (by unfold calB; rw [H1.out, h2, h3]; rfl), (by repeat (first | with_reducible exact Ext.refl _ | with_reducible assumption | with_reducible refine Ext.alloc ?_ _ | with_reducible refine Ext.drew ?_ | (with_reducible refine Ext.setAt ?_ _ _ _ ?_; rotate_left; omega) | with_reducible refine Ext.trans ?_ (by assumption) | with_reducible exact Past.bel _ | with_reducible refine Ext.trans ?_ (Past.bel _)))⟩
/-- a calendar laid into a new block -/
theorem CalP.new {w : World} (T : TypeId) (s : ByteArray) (ma ra : Option Addr) (mc rc : Nat) (wk : Int) {nm : Nat → ByteArray} {c : CalN} (h : CalM w ma ra nm c) :
    CalP (w.alloc (.cells #[.string s, .slice ma c.n mc, .slice ra c.nr rc, .int .i64 wk] T)) w.heap.size s ma ra mc rc wk nm c :=
  ⟨by simp, by simp [go_sem], by simp [go_sem], by simp [go_sem], by simp [go_sem], h.ext ((Ext.refl w).alloc _)⟩
end Go.Proofs.YtppphpnimecgpaaDoor

namespace Go.Proofs.YtppphpnimecgpaaDoor
open Go.RowKit
set_option linter.unusedVariables false
set_option linter.unusedSimpArgs false

theorem bs_dec (x y : ByteArray) : (x.toList == y.toList) = decide (x = y) := by
  by_cases e : x = y
  · rw [bs_eq e]; simp [e]
  · rw [bs_ne e]; simp [e]
theorem validPred_c (g : Nat) (x y : ByteArray) (a b : Int) (w : World) (hg : g < w.heap.size) (hc : w.cell? ⟨g, 0, none⟩ = some (.string y)) :
    Calls Tryd.prog 73 #[.agg #[.string x, .int .i64 a, .int .i64 b], .pointer (some ⟨g, 0, none⟩)] w fun e w' => e = .returned (.bool (decide (x = y))) ∧ Ext w w' := by
  go_enter Tryd.func73, Tryd.ntmps73
  go_wp2_with fail
  go_ret
  exact ⟨ret_bool (bs_dec x y), (by repeat (first | with_reducible exact Ext.refl _ | with_reducible assumption | with_reducible refine Ext.alloc ?_ _ | with_reducible refine Ext.drew ?_ | (with_reducible refine Ext.setAt ?_ _ _ _ ?_; rotate_left; omega) | with_reducible refine Ext.trans ?_ (by assumption) | with_reducible exact Past.bel _ | with_reducible refine Ext.trans ?_ (Past.bel _)))⟩
set_option maxHeartbeats 1000000 in
theorem idxFunc_c (g : Nat) (a : Option Addr) (n c : Nat) (nm : Nat → ByteArray) (dy lp : Nat → Int) (k : Nat) (w : World) (hn : n ≤ 1048576) (hs : S3 w a n nm dy lp) (hg : g < w.heap.size) (hc : w.cell? ⟨g, 0, none⟩ = some (.string (nm k))) :
    Calls Tryd.prog 81 #[.slice a n c, .func (.func 73) #[] #[.pointer (some ⟨g, 0, none⟩)]] w fun e w' => ∃ r : Int, e = .returned (.int .i64 r) ∧ decide (r ≥ 0) = !frTo nm k n ∧ Ext w w' := by
  have HS := Lib.hid hs
  have HC := Lib.hid hc
  clear hs hc
  go_enter Tryd.func81, Tryd.ntmps81
  go_wp2_with fail
  go_loopw [8] (fun i wr => ∃ j : Nat, j ≤ n ∧ i = .int .i64 j ∧ frTo nm k j = true ∧ Ext w wr) (fun i _ => n - (intOf i).toNat)
  case atStart => exact ⟨0, by omega, rfl, rfl, (by repeat (first | with_reducible exact Ext.refl _ | with_reducible assumption | with_reducible refine Ext.alloc ?_ _ | with_reducible refine Ext.drew ?_ | (with_reducible refine Ext.setAt ?_ _ _ _ ?_; rotate_left; omega) | with_reducible refine Ext.trans ?_ (by assumption) | with_reducible exact Past.bel _ | with_reducible refine Ext.trans ?_ (Past.bel _)))⟩
  case round =>
    obtain ⟨j, hj, rfl, hf, hbl⟩ := hrel
    have HF := Lib.hid hf
    clear hf
    by_cases hlt : j < n
    · obtain ⟨b1, o1, rfl, hb1, q1, q2, q3⟩ := (S3.ext HS.out hbl).at hlt
      have g1 := Nat.lt_of_lt_of_le hg hbl.size
      have c1 := Lib.hid ((hbl.cell hg).trans HC.out)
      cases hd : decide (nm j = nm k)
      · have HD := Lib.hid hd
        clear hd
        go_wp2_with fail
        refine (validPred_c g (nm j) (nm k) (dy j) (lp j) _ g1 c1.out).mono ?_
        rintro e w' ⟨rfl, hx1⟩
        rw [HD.out]
        (first | (obtain ⟨wx1, rfl⟩ := Past.again hx1) | (obtain ⟨wx1, rfl⟩ := Past.of hx1))
        go_wp2_with fail
        exact ⟨⟨j + 1, by omega, by go_num, by simp only [frTo, HF.out, HD.out]; rfl, (by repeat (first | with_reducible exact Ext.refl _ | with_reducible assumption | with_reducible refine Ext.alloc ?_ _ | with_reducible refine Ext.drew ?_ | (with_reducible refine Ext.setAt ?_ _ _ _ ?_; rotate_left; omega) | with_reducible refine Ext.trans ?_ (by assumption) | with_reducible exact Past.bel _ | with_reducible refine Ext.trans ?_ (Past.bel _)))⟩, by simp [intOf]; omega⟩
      · have HD := Lib.hid hd
        clear hd
        go_wp2_with fail
        refine (validPred_c g (nm j) (nm k) (dy j) (lp j) _ g1 c1.out).mono ?_
        rintro e w' ⟨rfl, hx1⟩
        rw [HD.out]
        (first | (obtain ⟨wx1, rfl⟩ := Past.again hx1) | (obtain ⟨wx1, rfl⟩ := Past.of hx1))
        go_wp2_with fail
        go_ret
        exact ⟨_, rfl, by rw [frTo_ff hlt (by simpa using HD.out)]; simp, (by repeat (first | with_reducible exact Ext.refl _ | with_reducible assumption | with_reducible refine Ext.alloc ?_ _ | with_reducible refine Ext.drew ?_ | (with_reducible refine Ext.setAt ?_ _ _ _ ?_; rotate_left; omega) | with_reducible refine Ext.trans ?_ (by assumption) | with_reducible exact Past.bel _ | with_reducible refine Ext.trans ?_ (Past.bel _)))⟩
    · obtain rfl : j = n := by omega
      go_wp2_with fail
      go_ret
      exact ⟨_, rfl, by rw [HF.out]; decide, (by repeat (first | with_reducible exact Ext.refl _ | with_reducible assumption | with_reducible refine Ext.alloc ?_ _ | with_reducible refine Ext.drew ?_ | (with_reducible refine Ext.setAt ?_ _ _ _ ?_; rotate_left; omega) | with_reducible refine Ext.trans ?_ (by assumption) | with_reducible exact Past.bel _ | with_reducible refine Ext.trans ?_ (Past.bel _)))⟩
theorem contFunc_c (g : Nat) (a : Option Addr) (n c : Nat) (nm : Nat → ByteArray) (dy lp : Nat → Int) (k : Nat) (w : World) (hn : n ≤ 1048576) (hs : S3 w a n nm dy lp) (hg : g < w.heap.size) (hc : w.cell? ⟨g, 0, none⟩ = some (.string (nm k))) :
    Calls Tryd.prog 72 #[.slice a n c, .func (.func 73) #[] #[.pointer (some ⟨g, 0, none⟩)]] w fun e w' => e = .returned (.bool (!frTo nm k n)) ∧ Ext w w' := by
  have HC := Lib.hid (idxFunc_c g a n c nm dy lp k w hn hs hg hc)
  clear hs hc
  go_enter Tryd.func72, Tryd.ntmps72
  go_wp2_with fail
  refine HC.out.mono ?_
  rintro e w' ⟨r, rfl, hr, hx1⟩
  (first | (obtain ⟨wx1, rfl⟩ := Past.again hx1) | (obtain ⟨wx1, rfl⟩ := Past.of hx1))
  have HR := Lib.hid hr
  clear hr
  go_wp2_with fail
  go_ret
  refine ⟨ret_bool ?_, (by repeat (first | with_reducible exact Ext.refl _ | with_reducible assumption | with_reducible refine Ext.alloc ?_ _ | with_reducible refine Ext.drew ?_ | (with_reducible refine Ext.setAt ?_ _ _ _ ?_; rotate_left; omega) | with_reducible refine Ext.trans ?_ (by assumption) | with_reducible exact Past.bel _ | with_reducible refine Ext.trans ?_ (Past.bel _)))⟩
  rw [← HR.out]
  try rfl
end Go.Proofs.YtppphpnimecgpaaDoor

namespace Go.Proofs.YtppphpnimecgpaaDoor
open Go.RowKit
set_option linter.unusedVariables false
set_option linter.unusedSimpArgs false

theorem S3.take {w : World} {a : Option Addr} {n k : Nat} {nm : Nat → ByteArray} {dy lp : Nat → Int} (s : S3 w a n nm dy lp) (hk : k ≤ n) : S3 w a k nm dy lp := fun h0 => by
  obtain ⟨b, o, ha, hb, hc⟩ := s (by omega)
  exact ⟨b, o, ha, hb, fun i hi => hc i (by omega)⟩
set_option maxHeartbeats 4000000 in
theorem validCalendar_c (s : ByteArray) (ma ra : Option Addr) (mc rc : Nat) (wk : Int) (nm : Nat → ByteArray) (c : CalN) (w : World) (hm : c.n ≤ 1048576) (hr : c.nr ≤ 1048576) (hmc : c.n ≤ mc) (hmx : mc ≤ maxLen) (hs : s.size ≤ 9223372036854775807) (hz : ∀ i, i < c.n → (nm i).size ≤ 9223372036854775807) (h : CalM w ma ra nm c) :
    Calls Tryd.prog 52 #[.agg #[.string s, .slice ma c.n mc, .slice ra c.nr rc, .int .i64 wk]] w fun e w' => e = .returned (.bool (calB s nm c wk)) ∧ Ext w w' := by
  have HP := Lib.hid (CalP.new 42 s ma ra mc rc wk h)
  have HZ := Lib.hid hz
  unfold maxLen at hmx
  clear h hz
  cases h1 : isNm s
  · go_enter Tryd.func52, Tryd.ntmps52
    go_wp2_with (first | (go_at_call 71; ((with_reducible refine (implIsName_c _ _ hs).mono ?_); rintro e w' ⟨rfl, hx⟩; (first | (obtain ⟨wx, rfl⟩ := Past.again hx) | (obtain ⟨wx, rfl⟩ := Past.ofd hx) | (obtain ⟨wx, rfl⟩ := Past.of hx)))))
    go_ret
    exact ⟨ret_bool (calB_1 h1).symm, (by repeat (first | with_reducible exact Ext.refl _ | with_reducible assumption | with_reducible refine Ext.alloc ?_ _ | with_reducible refine Ext.drew ?_ | (with_reducible refine Ext.setAt ?_ _ _ _ ?_; rotate_left; omega) | with_reducible refine Ext.trans ?_ (by assumption) | with_reducible exact Past.bel _ | with_reducible refine Ext.trans ?_ (Past.bel _)))⟩
  · cases h2 : inB (c.n : Int) 1 20
    · have h2' := inB_f.1 h2
      have H2 := Lib.hid h2
      clear h2
      by_cases x1 : (c.n : Int) < 1
      · go_enter Tryd.func52, Tryd.ntmps52
        go_wp2_with (first | (go_at_call 71; ((with_reducible refine (implIsName_c _ _ hs).mono ?_); rintro e w' ⟨rfl, hx⟩; (first | (obtain ⟨wx, rfl⟩ := Past.again hx) | (obtain ⟨wx, rfl⟩ := Past.ofd hx) | (obtain ⟨wx, rfl⟩ := Past.of hx)))))
        go_ret
        exact ⟨ret_bool (calB_2 H2.out).symm, (by repeat (first | with_reducible exact Ext.refl _ | with_reducible assumption | with_reducible refine Ext.alloc ?_ _ | with_reducible refine Ext.drew ?_ | (with_reducible refine Ext.setAt ?_ _ _ _ ?_; rotate_left; omega) | with_reducible refine Ext.trans ?_ (by assumption) | with_reducible exact Past.bel _ | with_reducible refine Ext.trans ?_ (Past.bel _)))⟩
      · have x2 : (20 : Int) < c.n := by omega
        clear h2'
        go_enter Tryd.func52, Tryd.ntmps52
        go_wp2_with (first | (go_at_call 71; ((with_reducible refine (implIsName_c _ _ hs).mono ?_); rintro e w' ⟨rfl, hx⟩; (first | (obtain ⟨wx, rfl⟩ := Past.again hx) | (obtain ⟨wx, rfl⟩ := Past.ofd hx) | (obtain ⟨wx, rfl⟩ := Past.of hx)))))
        go_ret
        exact ⟨ret_bool (calB_2 H2.out).symm, (by repeat (first | with_reducible exact Ext.refl _ | with_reducible assumption | with_reducible refine Ext.alloc ?_ _ | with_reducible refine Ext.drew ?_ | (with_reducible refine Ext.setAt ?_ _ _ _ ?_; rotate_left; omega) | with_reducible refine Ext.trans ?_ (by assumption) | with_reducible exact Past.bel _ | with_reducible refine Ext.trans ?_ (Past.bel _)))⟩
    · obtain ⟨y1, y2⟩ := inB_t.1 h2
      have H2 := Lib.hid h2
      clear h2
      have x1 : ¬ (c.n : Int) < 1 := by omega
      have x2 : ¬ (20 : Int) < c.n := by omega
      by_cases h3 : 6 < c.nr
      · have x3 : (6 : Int) < c.nr := by omega
        go_enter Tryd.func52, Tryd.ntmps52
        go_wp2_with (first | (go_at_call 71; ((with_reducible refine (implIsName_c _ _ hs).mono ?_); rintro e w' ⟨rfl, hx⟩; (first | (obtain ⟨wx, rfl⟩ := Past.again hx) | (obtain ⟨wx, rfl⟩ := Past.ofd hx) | (obtain ⟨wx, rfl⟩ := Past.of hx)))))
        go_ret
        exact ⟨ret_bool (calB_3 h3).symm, (by repeat (first | with_reducible exact Ext.refl _ | with_reducible assumption | with_reducible refine Ext.alloc ?_ _ | with_reducible refine Ext.drew ?_ | (with_reducible refine Ext.setAt ?_ _ _ _ ?_; rotate_left; omega) | with_reducible refine Ext.trans ?_ (by assumption) | with_reducible exact Past.bel _ | with_reducible refine Ext.trans ?_ (Past.bel _)))⟩
      · have x3 : ¬ (6 : Int) < c.nr := by omega
        cases h4 : inB wk 1 12
        · go_enter Tryd.func52, Tryd.ntmps52
          go_wp2_with (first | (go_at_call 71; ((with_reducible refine (implIsName_c _ _ hs).mono ?_); rintro e w' ⟨rfl, hx⟩; (first | (obtain ⟨wx, rfl⟩ := Past.again hx) | (obtain ⟨wx, rfl⟩ := Past.ofd hx) | (obtain ⟨wx, rfl⟩ := Past.of hx)))) | (go_at_call 58; ((with_reducible refine (within_c _ _ _ _).mono ?_); rintro e w' ⟨rfl, rfl⟩)))
          go_ret
          exact ⟨ret_bool (calB_4 h4).symm, (by repeat (first | with_reducible exact Ext.refl _ | with_reducible assumption | with_reducible refine Ext.alloc ?_ _ | with_reducible refine Ext.drew ?_ | (with_reducible refine Ext.setAt ?_ _ _ _ ?_; rotate_left; omega) | with_reducible refine Ext.trans ?_ (by assumption) | with_reducible exact Past.bel _ | with_reducible refine Ext.trans ?_ (Past.bel _)))⟩
        · go_enter Tryd.func52, Tryd.ntmps52
          go_wp2_with (first | (go_at_call 71; ((with_reducible refine (implIsName_c _ _ hs).mono ?_); rintro e w' ⟨rfl, hx⟩; (first | (obtain ⟨wx, rfl⟩ := Past.again hx) | (obtain ⟨wx, rfl⟩ := Past.ofd hx) | (obtain ⟨wx, rfl⟩ := Past.of hx)))) | (go_at_call 58; ((with_reducible refine (within_c _ _ _ _).mono ?_); rintro e w' ⟨rfl, rfl⟩)))
          have H1 := Lib.hid h1; have H4 := Lib.hid h4
          clear h1 h4
          go_loopw [38] (fun i wr => ∃ j : Nat, j ≤ c.n ∧ i = .int .i64 j ∧ monTo nm c.dy c.lp j = true ∧ Ext (w.alloc (.cells #[.string s, .slice ma c.n mc, .slice ra c.nr rc, .int .i64 wk] 42)) wr) (fun i _ => c.n - (intOf i).toNat)
          case atStart => exact ⟨0, by omega, rfl, rfl, (by repeat (first | with_reducible exact Ext.refl _ | with_reducible assumption | with_reducible refine Ext.alloc ?_ _ | with_reducible refine Ext.drew ?_ | (with_reducible refine Ext.setAt ?_ _ _ _ ?_; rotate_left; omega) | with_reducible refine Ext.trans ?_ (by assumption) | with_reducible exact Past.bel _ | with_reducible refine Ext.trans ?_ (Past.bel _)))⟩
          case round =>
            obtain ⟨j, hj, rfl, hmt, hbl⟩ := hrel
            have HM := Lib.hid hmt
            have hp := HP.out.ext hbl
            have HP2 := Lib.hid hp
            have g0 := hp.lt
            have p1 := hp.c1
            have p2 := hp.c2
            have hb0 : Ext w wr := Ext.trans (Ext.alloc (Ext.refl w) _) hbl
            clear hmt
            by_cases hlt : j < c.n
            · obtain ⟨b1, o1, rfl, hb1, q1, q2, q3⟩ := hp.mem.mo.at hlt
              have zj := HZ.out j hlt
              clear hp
              have x4 : (j : Int) ≤ (mc : Int) := by omega
              cases k1 : isNm (nm j)
              · go_wp2_with (first | (go_at_call 71; ((with_reducible refine (implIsName_c _ _ zj).mono ?_); rintro e w' ⟨rfl, hx⟩; (first | (obtain ⟨wx, rfl⟩ := Past.again hx) | (obtain ⟨wx, rfl⟩ := Past.ofd hx) | (obtain ⟨wx, rfl⟩ := Past.of hx)))))
                go_ret
                exact ⟨ret_bool (calB_5 hlt (monA_1 k1)).symm, (by repeat (first | with_reducible exact Ext.refl _ | with_reducible assumption | with_reducible refine Ext.alloc ?_ _ | with_reducible refine Ext.drew ?_ | (with_reducible refine Ext.setAt ?_ _ _ _ ?_; rotate_left; omega) | with_reducible refine Ext.trans ?_ (by assumption) | with_reducible exact Past.bel _ | with_reducible refine Ext.trans ?_ (Past.bel _)))⟩
              · cases k2 : inB (c.dy j) 1 60
                · go_wp2_with (first | (go_at_call 71; ((with_reducible refine (implIsName_c _ _ zj).mono ?_); rintro e w' ⟨rfl, hx⟩; (first | (obtain ⟨wx, rfl⟩ := Past.again hx) | (obtain ⟨wx, rfl⟩ := Past.ofd hx) | (obtain ⟨wx, rfl⟩ := Past.of hx)))) | (go_at_call 58; ((with_reducible refine (within_c _ _ _ _).mono ?_); rintro e w' ⟨rfl, rfl⟩)))
                  go_ret
                  exact ⟨ret_bool (calB_5 hlt (monA_2 k2)).symm, (by repeat (first | with_reducible exact Ext.refl _ | with_reducible assumption | with_reducible refine Ext.alloc ?_ _ | with_reducible refine Ext.drew ?_ | (with_reducible refine Ext.setAt ?_ _ _ _ ?_; rotate_left; omega) | with_reducible refine Ext.trans ?_ (by assumption) | with_reducible exact Past.bel _ | with_reducible refine Ext.trans ?_ (Past.bel _)))⟩
                · cases k3 : inB (c.lp j) 1 60
                  · go_wp2_with (first | (go_at_call 71; ((with_reducible refine (implIsName_c _ _ zj).mono ?_); rintro e w' ⟨rfl, hx⟩; (first | (obtain ⟨wx, rfl⟩ := Past.again hx) | (obtain ⟨wx, rfl⟩ := Past.ofd hx) | (obtain ⟨wx, rfl⟩ := Past.of hx)))) | (go_at_call 58; ((with_reducible refine (within_c _ _ _ _).mono ?_); rintro e w' ⟨rfl, rfl⟩)))
                    go_ret
                    exact ⟨ret_bool (calB_5 hlt (monA_3 k3)).symm, (by repeat (first | with_reducible exact Ext.refl _ | with_reducible assumption | with_reducible refine Ext.alloc ?_ _ | with_reducible refine Ext.drew ?_ | (with_reducible refine Ext.setAt ?_ _ _ _ ?_; rotate_left; omega) | with_reducible refine Ext.trans ?_ (by assumption) | with_reducible exact Past.bel _ | with_reducible refine Ext.trans ?_ (Past.bel _)))⟩
                  · cases k4 : frTo nm j j
                    · go_wp2_with (first | (go_at_call 71; ((with_reducible refine (implIsName_c _ _ zj).mono ?_); rintro e w' ⟨rfl, hx⟩; (first | (obtain ⟨wx, rfl⟩ := Past.again hx) | (obtain ⟨wx, rfl⟩ := Past.ofd hx) | (obtain ⟨wx, rfl⟩ := Past.of hx)))) | (go_at_call 58; ((with_reducible refine (within_c _ _ _ _).mono ?_); rintro e w' ⟨rfl, rfl⟩)))
                      refine (contFunc_c _ _ _ _ nm c.dy c.lp j _ (by omega) (S3.take (HP2.out.mem.mo.ext (by repeat (first | with_reducible exact Ext.refl _ | with_reducible assumption | with_reducible refine Ext.alloc ?_ _ | with_reducible refine Ext.drew ?_ | (with_reducible refine Ext.setAt ?_ _ _ _ ?_; rotate_left; omega) | with_reducible refine Ext.trans ?_ (by assumption) | with_reducible exact Past.bel _ | with_reducible refine Ext.trans ?_ (Past.bel _)))) (by omega)) (by simp [go_sem]) (by simp [go_sem])).mono ?_
                      rintro e w' ⟨rfl, hx1⟩
                      (first | (obtain ⟨wx1, rfl⟩ := Past.again hx1) | (obtain ⟨wx1, rfl⟩ := Past.of hx1))
                      go_wp2_with fail
                      go_ret
                      exact ⟨ret_bool (calB_5 hlt (monA_4 k4)).symm, (by repeat (first | with_reducible exact Ext.refl _ | with_reducible assumption | with_reducible refine Ext.alloc ?_ _ | with_reducible refine Ext.drew ?_ | (with_reducible refine Ext.setAt ?_ _ _ _ ?_; rotate_left; omega) | with_reducible refine Ext.trans ?_ (by assumption) | with_reducible exact Past.bel _ | with_reducible refine Ext.trans ?_ (Past.bel _)))⟩
                    · go_wp2_with (first | (go_at_call 71; ((with_reducible refine (implIsName_c _ _ zj).mono ?_); rintro e w' ⟨rfl, hx⟩; (first | (obtain ⟨wx, rfl⟩ := Past.again hx) | (obtain ⟨wx, rfl⟩ := Past.ofd hx) | (obtain ⟨wx, rfl⟩ := Past.of hx)))) | (go_at_call 58; ((with_reducible refine (within_c _ _ _ _).mono ?_); rintro e w' ⟨rfl, rfl⟩)))
                      refine (contFunc_c _ _ _ _ nm c.dy c.lp j _ (by omega) (S3.take (HP2.out.mem.mo.ext (by repeat (first | with_reducible exact Ext.refl _ | with_reducible assumption | with_reducible refine Ext.alloc ?_ _ | with_reducible refine Ext.drew ?_ | (with_reducible refine Ext.setAt ?_ _ _ _ ?_; rotate_left; omega) | with_reducible refine Ext.trans ?_ (by assumption) | with_reducible exact Past.bel _ | with_reducible refine Ext.trans ?_ (Past.bel _)))) (by omega)) (by simp [go_sem]) (by simp [go_sem])).mono ?_
                      rintro e w' ⟨rfl, hx1⟩
                      (first | (obtain ⟨wx1, rfl⟩ := Past.again hx1) | (obtain ⟨wx1, rfl⟩ := Past.of hx1))
                      have HA := Lib.hid (monA_t k1 k2 k3 k4)
                      go_wp2_with fail
                      exact ⟨⟨j + 1, by omega, by go_num, by simp only [monTo, HM.out, HA.out]; rfl, (by repeat (first | with_reducible exact Ext.refl _ | with_reducible assumption | with_reducible refine Ext.alloc ?_ _ | with_reducible refine Ext.drew ?_ | (with_reducible refine Ext.setAt ?_ _ _ _ ?_; rotate_left; omega) | with_reducible refine Ext.trans ?_ (by assumption) | with_reducible exact Past.bel _ | with_reducible refine Ext.trans ?_ (Past.bel _)))⟩, by simp [intOf]; omega⟩
            · obtain rfl : j = c.n := by omega
              clear hp
              go_wp2_with fail
              have HBL := Lib.hid hb0
              have HPB := Lib.hid (HP.out.ext hbl)
              clear hb0 HP2 p1 p2
              go_loopw [69] (fun i ws => ∃ j : Nat, j ≤ c.nr ∧ i = .int .i64 j ∧ rulTo c.ev c.rs j = true ∧ Ext wr ws) (fun i _ => c.nr - (intOf i).toNat)
              case atStart => exact ⟨0, by omega, rfl, rfl, (by repeat (first | with_reducible exact Ext.refl _ | with_reducible assumption | with_reducible refine Ext.alloc ?_ _ | with_reducible refine Ext.drew ?_ | (with_reducible refine Ext.setAt ?_ _ _ _ ?_; rotate_left; omega) | with_reducible refine Ext.trans ?_ (by assumption) | with_reducible exact Past.bel _ | with_reducible refine Ext.trans ?_ (Past.bel _)))⟩
              case round =>
                obtain ⟨j, hj2, rfl, hrt, hbl2⟩ := hrel
                have HR := Lib.hid hrt
                have hp := HPB.out.ext hbl2
                have HP2 := Lib.hid hp
                have g1 := hp.lt
                have p2 := hp.c2
                have hb0 := Ext.trans HBL.out hbl2
                clear hrt
                by_cases hlt : j < c.nr
                · obtain ⟨b1, o1, rfl, hb1, q1, q2, q3⟩ := hp.mem.ru.at hlt
                  clear hp
                  cases k1 : inB (c.ev j) 1 1000
                  · go_wp2_with (first | (go_at_call 58; ((with_reducible refine (within_c _ _ _ _).mono ?_); rintro e w' ⟨rfl, rfl⟩)))
                    go_ret
                    exact ⟨ret_bool (calB_6 hlt (by rw [k1]; rfl)).symm, (by repeat (first | with_reducible exact Ext.refl _ | with_reducible assumption | with_reducible refine Ext.alloc ?_ _ | with_reducible refine Ext.drew ?_ | (with_reducible refine Ext.setAt ?_ _ _ _ ?_; rotate_left; omega) | with_reducible refine Ext.trans ?_ (by assumption) | with_reducible exact Past.bel _ | with_reducible refine Ext.trans ?_ (Past.bel _)))⟩
                  · have k1' := inB_t.1 k1
                    cases k2 : inB (c.rs j) 0 (c.ev j - 1)
                    · go_wp2_with (first | (go_at_call 58; ((with_reducible refine (within_c _ _ _ _).mono ?_); rintro e w' ⟨rfl, rfl⟩)))
                      go_ret
                      exact ⟨ret_bool (calB_6 hlt (by rw [k1, k2]; rfl)).symm, (by repeat (first | with_reducible exact Ext.refl _ | with_reducible assumption | with_reducible refine Ext.alloc ?_ _ | with_reducible refine Ext.drew ?_ | (with_reducible refine Ext.setAt ?_ _ _ _ ?_; rotate_left; omega) | with_reducible refine Ext.trans ?_ (by assumption) | with_reducible exact Past.bel _ | with_reducible refine Ext.trans ?_ (Past.bel _)))⟩
                    · go_wp2_with (first | (go_at_call 58; ((with_reducible refine (within_c _ _ _ _).mono ?_); rintro e w' ⟨rfl, rfl⟩)))
                      exact ⟨⟨j + 1, by omega, by go_num, by simp only [rulTo, HR.out, k1, k2]; rfl, (by repeat (first | with_reducible exact Ext.refl _ | with_reducible assumption | with_reducible refine Ext.alloc ?_ _ | with_reducible refine Ext.drew ?_ | (with_reducible refine Ext.setAt ?_ _ _ _ ?_; rotate_left; omega) | with_reducible refine Ext.trans ?_ (by assumption) | with_reducible exact Past.bel _ | with_reducible refine Ext.trans ?_ (Past.bel _)))⟩, by simp [intOf]; omega⟩
                · obtain rfl : j = c.nr := by omega
                  clear hp
                  have HE := Lib.hid (fun i (hi : i < c.nr) => (rulTo_at HR.out hi).1)
                  have HV := Lib.hid (calB_7 (s := s) (nm := nm) (c := c) (wk := wk) H1.out H2.out (by omega) H4.out HM.out HR.out)
                  go_wp2_with (first | (go_at_call 74; ((with_reducible refine (cycleYears_c _ _ _ c.ev c.rs c.lf _ hr (HP2.out.mem.ru.ext (by repeat (first | with_reducible exact Ext.refl _ | with_reducible assumption | with_reducible refine Ext.alloc ?_ _ | with_reducible refine Ext.drew ?_ | (with_reducible refine Ext.setAt ?_ _ _ _ ?_; rotate_left; omega) | with_reducible refine Ext.trans ?_ (by assumption) | with_reducible exact Past.bel _ | with_reducible refine Ext.trans ?_ (Past.bel _)))) HE.out).mono ?_); rintro e w' ⟨rfl, hx⟩; (first | (obtain ⟨wx, rfl⟩ := Past.again hx) | (obtain ⟨wx, rfl⟩ := Past.ofd hx) | (obtain ⟨wx, rfl⟩ := Past.of hx)))))
                  go_ret
                  exact ⟨ret_bool HV.out.symm, (by repeat (first | with_reducible exact Ext.refl _ | with_reducible assumption | with_reducible refine Ext.alloc ?_ _ | with_reducible refine Ext.drew ?_ | (with_reducible refine Ext.setAt ?_ _ _ _ ?_; rotate_left; omega) | with_reducible refine Ext.trans ?_ (by assumption) | with_reducible exact Past.bel _ | with_reducible refine Ext.trans ?_ (Past.bel _)))⟩
end Go.Proofs.YtppphpnimecgpaaDoor

namespace Go.Proofs.YtppphpnimecgpaaDoor
open Go.RowKit
set_option linter.unusedVariables false
set_option linter.unusedSimpArgs false

/-- a calendar handed on by value -/
structure CalV (w : World) (s : ByteArray) (ma ra : Option Addr) (mc rc : Nat) (nm : Nat → ByteArray) (c : CalN) : Prop where
  nb : c.n ≤ 1048576
  rb : c.nr ≤ 1048576
  mb : c.n ≤ mc
  mx : mc ≤ maxLen
  sz : s.size ≤ 9223372036854775807
  nz : ∀ i, i < c.n → (nm i).size ≤ 9223372036854775807
  mem : CalM w ma ra nm c
theorem CalV.ext {w w' : World} {s : ByteArray} {ma ra : Option Addr} {mc rc : Nat} {nm : Nat → ByteArray} {c : CalN} (h : CalV w s ma ra mc rc nm c) (e : Ext w w') : CalV w' s ma ra mc rc nm c := { h with mem := h.mem.ext e }
/-- a calendar behind a pointer, with its bounds -/
structure CalQ (w : World) (g : Nat) (s : ByteArray) (ma ra : Option Addr) (mc rc : Nat) (wk : Int) (nm : Nat → ByteArray) (c : CalN) : Prop where
  nb : c.n ≤ 1048576
  rb : c.nr ≤ 1048576
  sz : s.size ≤ 9223372036854775807
  nz : ∀ i, i < c.n → (nm i).size ≤ 9223372036854775807
  p : CalP w g s ma ra mc rc wk nm c
theorem CalQ.ext {w w' : World} {g : Nat} {s : ByteArray} {ma ra : Option Addr} {mc rc : Nat} {wk : Int} {nm : Nat → ByteArray} {c : CalN} (h : CalQ w g s ma ra mc rc wk nm c) (e : Ext w w') : CalQ w' g s ma ra mc rc wk nm c := { h with p := h.p.ext e }
theorem CalQ.new {w : World} (T : TypeId) {s : ByteArray} {ma ra : Option Addr} {mc rc : Nat} (wk : Int) {nm : Nat → ByteArray} {c : CalN} (h : CalV w s ma ra mc rc nm c) :
    CalQ (w.alloc (.cells #[.string s, .slice ma c.n mc, .slice ra c.nr rc, .int .i64 wk] T)) w.heap.size s ma ra mc rc wk nm c :=
  ⟨h.nb, h.rb, h.sz, h.nz, CalP.new T s ma ra mc rc wk h.mem⟩
theorem validCalendar_v {s : ByteArray} {ma ra : Option Addr} {mc rc : Nat} (wk : Int) {nm : Nat → ByteArray} {c : CalN} {w : World} (h : CalV w s ma ra mc rc nm c) :
    Calls Tryd.prog 52 #[.agg #[.string s, .slice ma c.n mc, .slice ra c.nr rc, .int .i64 wk]] w fun e w' => e = .returned (.bool (calB s nm c wk)) ∧ Ext w w' :=
  validCalendar_c _ _ _ _ _ _ _ _ _ h.nb h.rb h.mb h.mx h.sz h.nz h.mem
theorem l15Ok_q {g : Nat} {s : ByteArray} {ma ra : Option Addr} {mc rc : Nat} {wk : Int} {nm : Nat → ByteArray} {c : CalN} {w : World} (h : CalQ w g s ma ra mc rc wk nm c) :
    Calls Tryd.prog 48 #[.pointer (some ⟨g, 0, none⟩)] w fun e w' => e = .returned (.bool (calB s nm c wk)) ∧ Ext w w' :=
  l15Ok_c _ _ _ _ _ _ _ _ _ _ h.nb h.rb h.sz h.nz h.p
theorem isYear_c (y : Int) (w : World) : Calls Tryd.prog 31 #[.int .i64 y] w fun e w' => e = .returned (.bool (inB y 0 9999)) ∧ w = w' := by
  go_enter Tryd.func31, Tryd.ntmps31
  go_wp2_with (go_at_call 58; ((with_reducible refine (within_c _ _ _ _).mono ?_); rintro e w' ⟨rfl, rfl⟩))
  go_ret
  exact ⟨rfl, rfl⟩
theorem l15Year_c (y : Int) (w : World) : Calls Tryd.prog 56 #[.int .i64 y] w fun e w' => e = .returned (.bool (inB y 0 9999)) ∧ w = w' := by
  go_enter Tryd.func56, Tryd.ntmps56
  go_wp2_with (go_at_call 59; ((with_reducible refine (l00In_c _ _ _ _).mono ?_); rintro e w' ⟨rfl, rfl⟩))
  go_ret
  exact ⟨rfl, rfl⟩
/-- what IsLeapYear returns -/
def leapR (s : ByteArray) (nm : Nat → ByteArray) (c : CalN) (wk y : Int) : Bool := calB s nm c wk && (inB y 0 9999 && c.leap y)
end Go.Proofs.YtppphpnimecgpaaDoor

namespace Go.Proofs.YtppphpnimecgpaaDoor
open Go.RowKit
set_option linter.unusedVariables false
set_option linter.unusedSimpArgs false

def yn (b : Bool) : List UInt8 := if b then [121, 101, 115] else [110, 111]
def hdL (s : ByteArray) (wk : Int) : List UInt8 := [99, 97, 108, 101, 110, 100, 97, 114, 32] ++ s.data.toList ++ [32] ++ Lib.itoa wk ++ [10]
def moL (nm : Nat → ByteArray) (c : CalN) (j : Nat) : List UInt8 := [109, 111, 110, 116, 104, 32] ++ (nm j).data.toList ++ [32] ++ Lib.itoa (c.dy j) ++ [32] ++ Lib.itoa (c.lp j) ++ [10]
def ruL (c : CalN) (j : Nat) : List UInt8 := [108, 101, 97, 112, 32] ++ Lib.itoa (c.ev j) ++ [32] ++ Lib.itoa (c.rs j) ++ [32] ++ yn (c.lf j) ++ [10]
/-- the lines up to month k -/
def ttM (s : ByteArray) (nm : Nat → ByteArray) (c : CalN) (wk : Int) : Nat → List UInt8
  | 0 => hdL s wk
  | k + 1 => ttM s nm c wk k ++ moL nm c k
/-- the lines up to rule k -/
def ttR (s : ByteArray) (nm : Nat → ByteArray) (c : CalN) (wk : Int) : Nat → List UInt8
  | 0 => ttM s nm c wk c.n
  | k + 1 => ttR s nm c wk k ++ ruL c k
def calL (s : ByteArray) (nm : Nat → ByteArray) (c : CalN) (wk : Int) : List UInt8 := ttR s nm c wk c.nr
/-- a calendar's text -/
def calTx (s : ByteArray) (nm : Nat → ByteArray) (c : CalN) (wk : Int) : List UInt8 := if calB s nm c wk then calL s nm c wk else []
/-- what its text leans on -/
structure TxB (s : ByteArray) (nm : Nat → ByteArray) (c : CalN) (wk : Int) : Prop where
  sz : s.size ≤ 12
  nz : ∀ j, j < c.n → (nm j).size ≤ 12
  wk : B64 wk
  dy : ∀ j, j < c.n → B64 (c.dy j)
  lp : ∀ j, j < c.n → B64 (c.lp j)
  ev : ∀ j, j < c.nr → B64 (c.ev j)
  rs : ∀ j, j < c.nr → B64 (c.rs j)
  n20 : c.n ≤ 20
  nr6 : c.nr ≤ 6
theorem isNm_le {s : ByteArray} (h : isNm s = true) : s.size ≤ 12 := by
  simp only [isNm, Bool.and_eq_true, decide_eq_true_eq] at h; exact h.1.2
theorem txB_of {s : ByteArray} {nm : Nat → ByteArray} {c : CalN} {wk : Int} (h : calB s nm c wk = true) : TxB s nm c wk := by
  have b := calB_b h
  simp only [calB, monB, rulB, Bool.and_eq_true, decide_eq_true_eq, inB_t] at h
  obtain ⟨_, h4, ⟨h5, _⟩, h7⟩ := h
  refine ⟨isNm_le h4, fun j hj => ?_, ⟨by omega, by omega⟩, fun j hj => ?_, fun j hj => ?_, fun j hj => ?_, fun j hj => ?_, b.n20, b.nr6⟩
  · have := monTo_at h5 hj
    simp only [monA, Bool.and_eq_true] at this
    exact isNm_le this.1
  · have := b.dy j hj; exact ⟨by omega, by omega⟩
  · have := b.lp j hj; exact ⟨by omega, by omega⟩
  · have := b.ev j hj; exact ⟨by omega, by omega⟩
  · have := b.rs j hj; have := b.ev j hj; exact ⟨by omega, by omega⟩
section
variable {s : ByteArray} {nm : Nat → ByteArray} {c : CalN} {wk : Int}
theorem ba_len (s : ByteArray) : s.data.toList.length = s.size := Array.length_toList
theorem hdL_len (h : TxB s nm c wk) : (hdL s wk).length ≤ 60 := by
  have h1 := itoa_len wk h.wk.lo h.wk.hi
  have h2 := h.sz
  have h3 := ba_len s
  simp only [hdL, List.length_append, List.length_cons, List.length_nil]; omega
theorem moL_len (h : TxB s nm c wk) {j : Nat} (hj : j < c.n) : (moL nm c j).length ≤ 80 := by
  have h1 := itoa_len _ (h.dy j hj).lo (h.dy j hj).hi
  have h4 := itoa_len _ (h.lp j hj).lo (h.lp j hj).hi
  have h2 := h.nz j hj
  have h3 := ba_len (nm j)
  simp only [moL, List.length_append, List.length_cons, List.length_nil]; omega
theorem yn_len (b : Bool) : (yn b).length ≤ 3 := by cases b <;> decide
theorem ruL_len (h : TxB s nm c wk) {j : Nat} (hj : j < c.nr) : (ruL c j).length ≤ 80 := by
  have h1 := itoa_len _ (h.ev j hj).lo (h.ev j hj).hi
  have h4 := itoa_len _ (h.rs j hj).lo (h.rs j hj).hi
  have h5 := yn_len (c.lf j)
  simp only [ruL, List.length_append, List.length_cons, List.length_nil]; omega
theorem ttM_len (h : TxB s nm c wk) : ∀ {j : Nat}, j ≤ c.n → (ttM s nm c wk j).length ≤ 60 + 80 * j
  | 0, _ => hdL_len h
  | j + 1, hj => by
    have h1 := ttM_len h (j := j) (by omega)
    have h2 := moL_len h (j := j) (by omega)
    rw [ttM, List.length_append]; omega
theorem ttR_len (h : TxB s nm c wk) : ∀ {j : Nat}, j ≤ c.nr → (ttR s nm c wk j).length ≤ 1660 + 80 * j
  | 0, _ => by have := ttM_len h (j := c.n) (Nat.le_refl _); have := h.n20; rw [ttR]; omega
  | j + 1, hj => by
    have h1 := ttR_len h (j := j) (by omega)
    have h2 := ruL_len h (j := j) (by omega)
    rw [ttR, List.length_append]; omega
end
theorem tx_eq {a : ByteArray} {l : List UInt8} (h : a.data.toList = l) : Value.string a = .string ⟨l.toArray⟩ := by
  congr 1; apply ByteArray.ext; rw [← h]
theorem l15Word_c (b : Bool) (w : World) : Calls Tryd.prog 68 #[.bool b] w fun e w' => e = .returned (.string ⟨(yn b).toArray⟩) ∧ Ext w w' := by
  cases b <;> (go_enter Tryd.func68, Tryd.ntmps68; go_wp2; go_ret; exact ⟨rfl, (by repeat (first | with_reducible exact Ext.refl _ | with_reducible assumption | with_reducible refine Ext.alloc ?_ _ | with_reducible refine Ext.drew ?_ | (with_reducible refine Ext.setAt ?_ _ _ _ ?_; rotate_left; omega) | with_reducible refine Ext.trans ?_ (by assumption) | with_reducible exact Past.bel _ | with_reducible refine Ext.trans ?_ (Past.bel _)))⟩)
set_option maxRecDepth 100000 in
set_option maxHeartbeats 4000000 in
theorem l15Text_c (g : Nat) (s : ByteArray) (ma ra : Option Addr) (mc rc : Nat) (wk : Int) (nm : Nat → ByteArray) (c : CalN) (w : World) (b : TxB s nm c wk) (h : CalP w g s ma ra mc rc wk nm c) :
    Calls Tryd.prog 49 #[.pointer (some ⟨g, 0, none⟩)] w fun e w' => e = .returned (.string ⟨(calL s nm c wk).toArray⟩) ∧ Ext w w' := by
  have H := Lib.hid h
  have B := Lib.hid b
  have g0 := h.lt
  have p0 := h.c0
  have p1 := h.c1
  have p2 := h.c2
  have p3 := h.c3
  have n20 := b.n20
  have nr6 := b.nr6
  have sz := b.sz
  obtain ⟨A, hA⟩ : ∃ A, A = Lib.itoa wk := ⟨_, rfl⟩
  have la : A.length ≤ 20 := by rw [hA]; exact itoa_len _ b.wk.lo b.wk.hi
  have TA := Lib.hid (fun (W : World) => (show Calls Tryd.prog 57 #[.int .i64 wk] W (fun e w' => e = .returned (.string ⟨A.toArray⟩) ∧ Ext W w') from by rw [hA]; exact l01Dec_c _ W b.wk.lo b.wk.hi))
  have HA := Lib.hid hA
  clear hA b h
  go_enter Tryd.func49, Tryd.ntmps49
  go_wp2_with fail
  refine wp_region_past (by kernel_rfl) (by kernel_rfl) ?_
  repeat (go_big_quiet_step ((go_at_call 57; with_reducible exact Calls.past (TA.out _))))
  refine wpQuiet_nil ?_
  rintro _ ⟨wx, rfl⟩
  go_wp2_with fail
  go_loopw [3, 4] (fun v3 v4 wr => ∃ (j : Nat) (L : List UInt8), j ≤ c.n ∧ v3 = .string ⟨L.toArray⟩ ∧ v4 = .int .i64 j ∧ L = ttM s nm c wk j ∧ Ext w wr) (fun _ v4 _ => c.n - (intOf v4).toNat)
  case atStart => exact ⟨0, hdL s wk, by omega, tx_eq (by simp [ByteArray.data_append, hdL, HA.out]), rfl, rfl, (by repeat (first | with_reducible exact Ext.refl _ | with_reducible assumption | with_reducible refine Ext.alloc ?_ _ | with_reducible refine Ext.drew ?_ | (with_reducible refine Ext.setAt ?_ _ _ _ ?_; rotate_left; omega) | with_reducible refine Ext.trans ?_ (by assumption) | with_reducible exact Past.bel _ | with_reducible refine Ext.trans ?_ (Past.bel _)))⟩
  case round =>
    obtain ⟨j, L, hj, rfl, rfl, hL, hx⟩ := hrel
    have hlen : L.length ≤ 4000 := by rw [hL]; have := ttM_len B.out hj; omega
    have HL := Lib.hid hL
    have hp := H.out.ext hx
    have g0' := hp.lt
    have p1' := hp.c1
    have p2' := hp.c2
    clear hL hp
    by_cases hlt : j < c.n
    · have x1 : (j : Int) < (c.n : Int) := by omega
      have x0 : (0 : Int) ≤ (j : Int) := by omega
      obtain ⟨b1, o1, e1, hb1, q1, q2, q3⟩ := (H.out.mem.mo.ext hx).at hlt
      subst e1
      have bd := B.out.dy j hlt
      have bl := B.out.lp j hlt
      obtain ⟨D, hD⟩ : ∃ D, D = Lib.itoa (c.dy j) := ⟨_, rfl⟩
      obtain ⟨E, hE⟩ : ∃ E, E = Lib.itoa (c.lp j) := ⟨_, rfl⟩
      have ld : D.length ≤ 20 := by rw [hD]; exact itoa_len _ bd.lo bd.hi
      have le : E.length ≤ 20 := by rw [hE]; exact itoa_len _ bl.lo bl.hi
      have ln := B.out.nz j hlt
      have TD := Lib.hid (fun (W : World) => (show Calls Tryd.prog 57 #[.int .i64 (c.dy j)] W (fun e w' => e = .returned (.string ⟨D.toArray⟩) ∧ Ext W w') from by rw [hD]; exact l01Dec_c _ W bd.lo bd.hi))
      have TE := Lib.hid (fun (W : World) => (show Calls Tryd.prog 57 #[.int .i64 (c.lp j)] W (fun e w' => e = .returned (.string ⟨E.toArray⟩) ∧ Ext W w') from by rw [hE]; exact l01Dec_c _ W bl.lo bl.hi))
      have HD := Lib.hid hD
      have HE := Lib.hid hE
      clear hD hE bd bl
      go_wp2_with fail
      refine wp_region_past (by kernel_rfl) (by kernel_rfl) ?_
      repeat (go_big_quiet_step (first | (go_at_call 57; with_reducible exact Calls.past (TD.out _)) | (go_at_call 57; with_reducible exact Calls.past (TE.out _))))
      refine wpQuiet_nil ?_
      rintro _ ⟨wx, rfl⟩
      go_wp2_with fail
      exact ⟨⟨j + 1, L ++ moL nm c j, by omega, tx_eq (by simp [ByteArray.data_append, moL, HD.out, HE.out]), by go_num, by rw [ttM, HL.out], (by repeat (first | with_reducible exact Ext.refl _ | with_reducible assumption | with_reducible refine Ext.alloc ?_ _ | with_reducible refine Ext.drew ?_ | (with_reducible refine Ext.setAt ?_ _ _ _ ?_; rotate_left; omega) | with_reducible refine Ext.trans ?_ (by assumption) | with_reducible exact Past.bel _ | with_reducible refine Ext.trans ?_ (Past.bel _)))⟩, by simp [intOf]; omega⟩
    · have x1 : ¬ (j : Int) < (c.n : Int) := by omega
      obtain rfl : j = c.n := by omega
      go_wp2_with fail
      go_loopw [3, 6] (fun v3 v4 wr => ∃ (j : Nat) (L : List UInt8), j ≤ c.nr ∧ v3 = .string ⟨L.toArray⟩ ∧ v4 = .int .i64 j ∧ L = ttR s nm c wk j ∧ Ext w wr) (fun _ v4 _ => c.nr - (intOf v4).toNat)
      case atStart => exact ⟨0, L, by omega, rfl, rfl, by rw [ttR]; exact HL.out, (by repeat (first | with_reducible exact Ext.refl _ | with_reducible assumption | with_reducible refine Ext.alloc ?_ _ | with_reducible refine Ext.drew ?_ | (with_reducible refine Ext.setAt ?_ _ _ _ ?_; rotate_left; omega) | with_reducible refine Ext.trans ?_ (by assumption) | with_reducible exact Past.bel _ | with_reducible refine Ext.trans ?_ (Past.bel _)))⟩
      case round =>
        clear HL hlen p1' p2' g0' hx
        obtain ⟨j, L, hj, rfl, rfl, hL, hx⟩ := hrel
        have hlen : L.length ≤ 4000 := by rw [hL]; have := ttR_len B.out hj; omega
        have HL := Lib.hid hL
        have hp := H.out.ext hx
        have g0' := hp.lt
        have p2' := hp.c2
        clear hL hp
        by_cases hlt : j < c.nr
        · have x1 : (j : Int) < (c.nr : Int) := by omega
          have x0 : (0 : Int) ≤ (j : Int) := by omega
          obtain ⟨b1, o1, e1, hb1, q1, q2, q3⟩ := (H.out.mem.ru.ext hx).at hlt
          subst e1
          have bd := B.out.ev j hlt
          have bl := B.out.rs j hlt
          obtain ⟨D, hD⟩ : ∃ D, D = Lib.itoa (c.ev j) := ⟨_, rfl⟩
          obtain ⟨E, hE⟩ : ∃ E, E = Lib.itoa (c.rs j) := ⟨_, rfl⟩
          obtain ⟨F, hF⟩ : ∃ F, F = yn (c.lf j) := ⟨_, rfl⟩
          have ld : D.length ≤ 20 := by rw [hD]; exact itoa_len _ bd.lo bd.hi
          have le : E.length ≤ 20 := by rw [hE]; exact itoa_len _ bl.lo bl.hi
          have lf : F.length ≤ 3 := by rw [hF]; exact yn_len _
          have TD := Lib.hid (fun (W : World) => (show Calls Tryd.prog 57 #[.int .i64 (c.ev j)] W (fun e w' => e = .returned (.string ⟨D.toArray⟩) ∧ Ext W w') from by rw [hD]; exact l01Dec_c _ W bd.lo bd.hi))
          have TE := Lib.hid (fun (W : World) => (show Calls Tryd.prog 57 #[.int .i64 (c.rs j)] W (fun e w' => e = .returned (.string ⟨E.toArray⟩) ∧ Ext W w') from by rw [hE]; exact l01Dec_c _ W bl.lo bl.hi))
          have TF := Lib.hid (fun (W : World) => (show Calls Tryd.prog 68 #[.bool (c.lf j)] W (fun e w' => e = .returned (.string ⟨F.toArray⟩) ∧ Ext W w') from by rw [hF]; exact l15Word_c _ W))
          have HD := Lib.hid hD
          have HE := Lib.hid hE
          have HF := Lib.hid hF
          clear hD hE bd bl hF
          go_wp2_with fail
          refine wp_region_past (by kernel_rfl) (by kernel_rfl) ?_
          repeat (go_big_quiet_step (first | (go_at_call 57; with_reducible exact Calls.past (TD.out _)) | (go_at_call 57; with_reducible exact Calls.past (TE.out _)) | (go_at_call 68; with_reducible exact Calls.past (TF.out _))))
          refine wpQuiet_nil ?_
          rintro _ ⟨wx, rfl⟩
          go_wp2_with fail
          exact ⟨⟨j + 1, L ++ ruL c j, by omega, tx_eq (by simp [ByteArray.data_append, ruL, HD.out, HE.out, HF.out]), by go_num, by rw [ttR, HL.out], (by repeat (first | with_reducible exact Ext.refl _ | with_reducible assumption | with_reducible refine Ext.alloc ?_ _ | with_reducible refine Ext.drew ?_ | (with_reducible refine Ext.setAt ?_ _ _ _ ?_; rotate_left; omega) | with_reducible refine Ext.trans ?_ (by assumption) | with_reducible exact Past.bel _ | with_reducible refine Ext.trans ?_ (Past.bel _)))⟩, by simp [intOf]; omega⟩
        · have x1 : ¬ (j : Int) < (c.nr : Int) := by omega
          obtain rfl : j = c.nr := by omega
          go_wp2_with fail
          go_ret
          exact ⟨by rw [calL, ← HL.out]; rfl, (by repeat (first | with_reducible exact Ext.refl _ | with_reducible assumption | with_reducible refine Ext.alloc ?_ _ | with_reducible refine Ext.drew ?_ | (with_reducible refine Ext.setAt ?_ _ _ _ ?_; rotate_left; omega) | with_reducible refine Ext.trans ?_ (by assumption) | with_reducible exact Past.bel _ | with_reducible refine Ext.trans ?_ (Past.bel _)))⟩
end Go.Proofs.YtppphpnimecgpaaDoor

namespace Go.Proofs.YtppphpnimecgpaaDoor
open Go.RowKit
set_option linter.unusedVariables false
set_option linter.unusedSimpArgs false

theorem sizeBuilder : (Tryd.prog.info? 83).map (·.size) = some 2 := by kernel_rfl
theorem liesBuilder : liesAt Tryd.prog Tryd.prog.depth 83 (2 / Tryd.prog.cellsOf 83) 0 83 1 = true := by kernel_rfl
set_option maxHeartbeats 1000000 in
set_option maxRecDepth 100000 in
theorem copyCheck_used (b : Nat) (w : World) (h0 : w.cell? ⟨b, 0, none⟩ = some (.pointer (some ⟨b, 0, none⟩))) :
    Calls Tryd.prog 75 #[.pointer (some ⟨b, 0, none⟩)] w fun e w' => e = .returned (.tuple #[]) ∧ w' = w := by
  obtain ⟨j, hj, _⟩ := Option.map_eq_some_iff.1 sizeBuilder
  go_enter Tryd.func75, Tryd.ntmps75
  go_wp2
  rw [Lib.run_neq_ptr_same w _ Tryd.underlying80 hj]
  go_wp2
  go_end0
  exact ⟨rfl, rfl⟩
set_option maxHeartbeats 1000000 in
set_option maxRecDepth 100000 in
theorem copyCheck_fresh (b : Nat) (w : World) (h0 : w.cell? ⟨b, 0, none⟩ = some (.pointer none)) (hsh : w.shape? b = some (83, 2)) (hfz : w.frozen? ⟨b, 0, none⟩ = false) :
    Calls Tryd.prog 75 #[.pointer (some ⟨b, 0, none⟩)] w fun e w' => e = .returned (.tuple #[]) ∧ w' = w.setCell ⟨b, 0, none⟩ (.pointer (some ⟨b, 0, none⟩)) := by
  obtain ⟨j, hj, hjs⟩ := Option.map_eq_some_iff.1 sizeBuilder
  go_enter Tryd.func75, Tryd.ntmps75
  go_wp2
  rw [Lib.run_to_unsafe w ⟨b, 0, none⟩ Tryd.underlying80 Tryd.underlying113 hj (by rw [hjs]; decide) hsh (Nat.zero_lt_succ 1)]
  simp only [Result.andThen]
  rw [Oper.upon_value]
  go_wp2
  rw [run_callFunc_extern Tryd.func83 (by kernel_rfl) (by kernel_rfl) (by kernel_rfl) (e := Extern.AbiNoEscape.same) (by kernel_rfl)]
  rw [Lib.run_noEscape]
  simp only [Result.andThen]
  rw [Oper.upon_value]
  go_wp2
  rw [Lib.run_from_unsafe w ⟨b, 0, none⟩ Tryd.underlying113 Tryd.underlying80 hj hsh liesBuilder]
  simp only [Result.andThen]
  rw [Oper.upon_value]
  go_wp2
  go_end0
  exact ⟨rfl, rfl⟩
theorem copyCheck_c (B b : Nat) (bs : List Value) (w : World) (h : Lib.IsBuilder 83 5 B b bs w) :
    Calls Tryd.prog 75 #[.pointer (some ⟨b, 0, none⟩)] w fun e w' => e = .returned (.tuple #[]) ∧ (Lib.BuilderAt 83 5 B b (.pointer (some ⟨b, 0, none⟩)) bs w' ∧ Below B w w' ∧ Lib.OthersKept 5 (some b) w w') := by
  rcases h with h | h
  · refine (copyCheck_fresh b w h.cell0 h.shape h.frozen0).mono ?_
    rintro e w' ⟨rfl, rfl⟩
    exact ⟨rfl, h.used _, (Below.refl B w).setCell (p := ⟨b, 0, none⟩) h.1 _, (Lib.OthersKept.refl _ _ w).setCell ⟨b, 0, none⟩ rfl _⟩
  · refine (copyCheck_used b w h.cell0).mono ?_
    rintro e w' ⟨rfl, rfl⟩
    exact ⟨rfl, h, Below.refl B _, Lib.OthersKept.refl _ _ _⟩
theorem ownsRow_kind {w : World} {base : Nat} {e : TypeId} {size : Nat} {v : Value} {n : Nat} {xs : List Value} (h : w.ownsRow base e size v n xs) : ∀ g, v.ownBlock = some g → ∃ c fz, w.heap[g]? = some (.cells c e fz) := fun g hg => by
  rcases h.2 with ⟨rfl, _⟩ | ⟨g', cap, cur, rfl, _, hb, _⟩
  · simp [Value.ownBlock] at hg
  · simp [Value.ownBlock] at hg
    subst hg
    exact ⟨cur, (0, 0), hb⟩
set_option maxHeartbeats 2000000 in
set_option maxRecDepth 100000 in
theorem writeString_c (B b : Nat) (bs : List Value) (s : ByteArray) (w : World) (h : Lib.IsBuilder 83 5 B b bs w) (hlen : bs.length + s.size ≤ 140737488355328) (hBw : B ≤ w.heap.size) :
    Calls Tryd.prog 53 #[.pointer (some ⟨b, 0, none⟩), .string s] w fun e w' => e = .returned (.tuple #[.int .i64 s.size, .nilIface]) ∧ (Lib.BuilderAt 83 5 B b (.pointer (some ⟨b, 0, none⟩)) (bs ++ Lib.strCells s) w' ∧ Below B w w' ∧ Lib.OthersKept 5 (some b) w w') := by
  obtain ⟨i0, hi, hz0, hz1, hz2⟩ := info_parts info_u8
  go_enter Tryd.func53, Tryd.ntmps53
  go_wp2_with (go_at_call 75; refine (copyCheck_c B b bs _ h).mono ?_)
  rintro e w1 ⟨rfl, h1, hb1, hk1⟩
  obtain ⟨hB, v, hbk, hown, hne⟩ := h1
  have c0 : w1.cell? ⟨b, 0, none⟩ = some (.pointer (some ⟨b, 0, none⟩)) := by rw [Lib.cell_of_heap hbk]; rfl
  have c1 : w1.cell? ⟨b, 1, none⟩ = some v := by rw [Lib.cell_of_heap hbk]; rfl
  go_wp2_with (at_builtin; refine Lib.wpList_append_own_string _ rfl _ _ 81 9 rfl B 5 i0 Tryd.underlying81 Tryd.underlying9 hi hz0 hz1 hz2 _ _ _ rfl hown s rfl ?c3 ?c4 ?c5 ?_)
  case c3 => unfold maxLen; omega
  case c4 => omega
  case c5 => have := hb1.size; omega
  intro v' w2 hown' hgrow _
  have hlt : b < w1.heap.size := by
    rcases Nat.lt_or_ge b w1.heap.size with h' | h'
    · exact h'
    · simp [Array.getElem?_eq_none h'] at hbk
  have hb2 : w2.heap[b]? = some (.cells #[.pointer (some ⟨b, 0, none⟩), v] 83 (0, 0)) := by
    rw [hgrow.block b hlt (fun e => hne e.symm)]
    exact hbk
  have d0 : w2.cell? ⟨b, 0, none⟩ = some (.pointer (some ⟨b, 0, none⟩)) := by rw [Lib.cell_of_heap hb2]; rfl
  have d1 : w2.cell? ⟨b, 1, none⟩ = some v := by rw [Lib.cell_of_heap hb2]; rfl
  have f1 : w2.frozen? ⟨b, 1, none⟩ = false := Lib.frozen_of_heap hb2 1
  obtain ⟨ao, n', cap, rfl⟩ : ∃ ao n' cap, v' = .slice ao n' cap := by
    rcases hown'.2 with ⟨hv, _⟩ | ⟨g, cap, cur, hv, _⟩
    · exact ⟨_, _, _, hv⟩
    · exact ⟨_, _, _, hv⟩
  go_wp2
  go_ret2
  refine ⟨rfl, ?_, ?_, (hk1.grown hgrow (ownsRow_kind hown)).setCell ⟨b, 1, none⟩ rfl _⟩
  · exact Lib.BuilderAt.put (T := 83) (e := 5) hB hb2 (bs' := bs ++ Lib.strCells s) (by simpa [Lib.strCells_length] using hown') (by decide)
  · exact (hb1.grown hgrow (by have := hb1.size; omega) (fun k hk => (hown.lt k hk).1)).setCell (p := ⟨b, 1, none⟩) hB _
end Go.Proofs.YtppphpnimecgpaaDoor
