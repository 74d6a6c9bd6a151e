/- Dates' texts. Decimal numerals read back. No program in sight. An append of one number at a step, with what it leaves, of a region that draws its order. No program in sight. What arguments of plain data hold: slices of mixed structs, slices of numbers. No program in sight. Calendars: their sizes, their copies. Calendars: copied. Calendars: copied, compared. Lists of months and rules in memory of their own; appends of whole structs. No program in sight. Months of equal length. The reference's given calendars: their months and rules. The reference's given calendars. Decimal numerals read: the program's. Greatest common divisors. Cycles of rules: the program's. Leap years: the program's. Lengths of years: the program's. Leap years: the reference's. Days of months, of years: the program's. Days before a year: the program's. Days of months, of years: the reference's. Days of years: the reference's. Rules: when their years are valid. No program in sight. Years of a cycle: the reference's. Names. No program in sight. Names: the program's and the reference's. -/
import Derived.Test.YtpohhnihgegmfaaDoorBa
import Derived.Lib.ParseIntB
import Derived.Lib.Atoi
import Derived.Lib.Strings
import Derived.Deep.RegionHeld3
import Derived.Deep.AppendLies
import Derived.Lib.AtoiErrMem
import Derived.Lib.ParseIntBTie
import Derived.Lib.ConvBytes
import Derived.Lib.UnsafeStr

namespace Go.Proofs.YtpohhnihgegmfaaDoor
open Go.RowKit
set_option linter.unusedVariables false
set_option linter.unusedSimpArgs false

theorem isYear_d (y : Int) (w : World) : Calls Tryd.prog 36 #[.int .i64 y] w fun e w' => e = .returned (.bool (inB y 0 9999)) ∧ w = w' := by
  go_enter Tryd.func36, Tryd.ntmps36
  go_wp2_with (go_at_call 43; ((with_reducible refine (within_c _ _ _ _).mono ?_); rintro e w' ⟨rfl, rfl⟩))
  go_ret
  exact ⟨rfl, rfl⟩
theorem l15Year_d (y : Int) (w : World) : Calls Tryd.prog 54 #[.int .i64 y] w fun e w' => e = .returned (.bool (inB y 0 9999)) ∧ w = w' := by
  go_enter Tryd.func54, Tryd.ntmps54
  go_wp2_with (go_at_call 37; ((with_reducible refine (l00In_c _ _ _ _).mono ?_); rintro e w' ⟨rfl, rfl⟩))
  go_ret
  exact ⟨rfl, rfl⟩
/-- a date's text -/
def dtx (y m d : Int) : List UInt8 := if inB y 0 9999 && (inB m 0 9999 && inB d 0 9999) then Lib.itoa y ++ [45] ++ Lib.itoa m ++ [45] ++ Lib.itoa d else []
theorem b_of {n : Int} (h : inB n 0 9999 = true) : B64 n := by
  obtain ⟨h0, h1⟩ := inB_t.1 h
  exact ⟨by omega, by omega⟩
set_option maxRecDepth 100000 in
set_option maxHeartbeats 2000000 in
theorem implDateText_c (a b c : Int) (w : World) (ht : Tab w) :
    Calls Tryd.prog 16 #[.agg #[.int .i64 a, .int .i64 b, .int .i64 c]] w fun e w' => e = .returned (.string ⟨(dtx a b c).toArray⟩) ∧ Ext w w' := by
  cases ha : inB a 0 9999
  · have hd := Lib.hid (show dtx a b c = [] by simp [dtx, ha])
    go_enter Tryd.func16, Tryd.ntmps16
    go_wp2_with (go_at_call 36; ((with_reducible refine (isYear_d _ _).mono ?_); rintro e w' ⟨rfl, rfl⟩))
    go_ret
    exact ⟨by rw [hd.out]; rfl, (by repeat (first | with_reducible exact Ext.refl _ | with_reducible assumption | with_reducible refine Ext.alloc ?_ _ | with_reducible refine Ext.drew ?_ | (with_reducible refine Ext.setAt ?_ _ _ _ ?_; rotate_left; omega) | with_reducible refine Ext.trans ?_ (by assumption) | with_reducible exact Past.bel _ | with_reducible refine Ext.trans ?_ (Past.bel _)))⟩
  · cases hb : inB b 0 9999
    · have hd := Lib.hid (show dtx a b c = [] by simp [dtx, hb])
      go_enter Tryd.func16, Tryd.ntmps16
      go_wp2_with (go_at_call 36; ((with_reducible refine (isYear_d _ _).mono ?_); rintro e w' ⟨rfl, rfl⟩))
      go_ret
      exact ⟨by rw [hd.out]; rfl, (by repeat (first | with_reducible exact Ext.refl _ | with_reducible assumption | with_reducible refine Ext.alloc ?_ _ | with_reducible refine Ext.drew ?_ | (with_reducible refine Ext.setAt ?_ _ _ _ ?_; rotate_left; omega) | with_reducible refine Ext.trans ?_ (by assumption) | with_reducible exact Past.bel _ | with_reducible refine Ext.trans ?_ (Past.bel _)))⟩
    · cases hc : inB c 0 9999
      · have hd := Lib.hid (show dtx a b c = [] by simp [dtx, hc])
        go_enter Tryd.func16, Tryd.ntmps16
        go_wp2_with (go_at_call 36; ((with_reducible refine (isYear_d _ _).mono ?_); rintro e w' ⟨rfl, rfl⟩))
        go_ret
        exact ⟨by rw [hd.out]; rfl, (by repeat (first | with_reducible exact Ext.refl _ | with_reducible assumption | with_reducible refine Ext.alloc ?_ _ | with_reducible refine Ext.drew ?_ | (with_reducible refine Ext.setAt ?_ _ _ _ ?_; rotate_left; omega) | with_reducible refine Ext.trans ?_ (by assumption) | with_reducible exact Past.bel _ | with_reducible refine Ext.trans ?_ (Past.bel _)))⟩
      · have pa := b_of ha
        have pb := b_of hb
        have pc := b_of hc
        obtain ⟨A, hA⟩ : ∃ A, A = Lib.itoa a := ⟨_, rfl⟩
        obtain ⟨B, hB⟩ : ∃ A, A = Lib.itoa b := ⟨_, rfl⟩
        obtain ⟨C, hC⟩ : ∃ A, A = Lib.itoa c := ⟨_, rfl⟩
        have la : A.length ≤ 20 := by rw [hA]; exact itoa_len _ pa.lo pa.hi
        have lb : B.length ≤ 20 := by rw [hB]; exact itoa_len _ pb.lo pb.hi
        have lc : C.length ≤ 20 := by rw [hC]; exact itoa_len _ pc.lo pc.hi
        have TA := Lib.hid (fun (W : World) (hq : Ext w W) => (show Calls Tryd.prog 35 #[.int .i64 a] W (fun e w' => e = .returned (.string ⟨A.toArray⟩) ∧ Ext W w') from by rw [hA]; exact decimal_c a W pa.lo pa.hi (ht.ext hq)))
        have TB := Lib.hid (fun (W : World) (hq : Ext w W) => (show Calls Tryd.prog 35 #[.int .i64 b] W (fun e w' => e = .returned (.string ⟨B.toArray⟩) ∧ Ext W w') from by rw [hB]; exact decimal_c b W pb.lo pb.hi (ht.ext hq)))
        have TC := Lib.hid (fun (W : World) (hq : Ext w W) => (show Calls Tryd.prog 35 #[.int .i64 c] W (fun e w' => e = .returned (.string ⟨C.toArray⟩) ∧ Ext W w') from by rw [hC]; exact decimal_c c W pc.lo pc.hi (ht.ext hq)))
        have hft : dtx a b c = A ++ [45] ++ B ++ [45] ++ C := by rw [hA, hB, hC, dtx, ha, hb, hc]; rfl
        have HT := Lib.hid hft
        clear hA hB hC hft
        go_enter Tryd.func16, Tryd.ntmps16
        go_wp2_with (go_at_call 36; ((with_reducible refine (isYear_d _ _).mono ?_); rintro e w' ⟨rfl, rfl⟩))
        refine wp_region_past (by kernel_rfl) (by kernel_rfl) ?_
        repeat (go_big_quiet_step (first | (go_at_call 35; exact Calls.past (TA.out _ (by repeat (first | with_reducible exact Ext.refl _ | with_reducible assumption | with_reducible refine Ext.alloc ?_ _ | with_reducible refine Ext.drew ?_ | (with_reducible refine Ext.setAt ?_ _ _ _ ?_; rotate_left; omega) | with_reducible refine Ext.trans ?_ (by assumption) | with_reducible exact Past.bel _ | with_reducible refine Ext.trans ?_ (Past.bel _))))) | (go_at_call 35; exact Calls.past (TB.out _ (by repeat (first | with_reducible exact Ext.refl _ | with_reducible assumption | with_reducible refine Ext.alloc ?_ _ | with_reducible refine Ext.drew ?_ | (with_reducible refine Ext.setAt ?_ _ _ _ ?_; rotate_left; omega) | with_reducible refine Ext.trans ?_ (by assumption) | with_reducible exact Past.bel _ | with_reducible refine Ext.trans ?_ (Past.bel _))))) | (go_at_call 35; exact Calls.past (TC.out _ (by repeat (first | with_reducible exact Ext.refl _ | with_reducible assumption | with_reducible refine Ext.alloc ?_ _ | with_reducible refine Ext.drew ?_ | (with_reducible refine Ext.setAt ?_ _ _ _ ?_; rotate_left; omega) | with_reducible refine Ext.trans ?_ (by assumption) | with_reducible exact Past.bel _ | with_reducible refine Ext.trans ?_ (Past.bel _)))))))
        refine wpQuiet_nil ?_
        rintro _ ⟨wx, rfl⟩
        go_wp2_with fail
        go_ret
        exact ⟨by rw [HT.out, ← ba_app, ← ba_app, ← ba_app, ← ba_app]; rfl, (by repeat (first | with_reducible exact Ext.refl _ | with_reducible assumption | with_reducible refine Ext.alloc ?_ _ | with_reducible refine Ext.drew ?_ | (with_reducible refine Ext.setAt ?_ _ _ _ ?_; rotate_left; omega) | with_reducible refine Ext.trans ?_ (by assumption) | with_reducible exact Past.bel _ | with_reducible refine Ext.trans ?_ (Past.bel _)))⟩
theorem l16Plain_c (a b c : Int) (w : World) :
    Calls Tryd.prog 31 #[.agg #[.int .i64 a, .int .i64 b, .int .i64 c]] w fun e w' => e = .returned (.bool (inB a 0 9999 && (inB b 0 9999 && inB c 0 9999))) ∧ Ext w w' := by
  cases ha : inB a 0 9999 <;> cases hb : inB b 0 9999 <;> cases hc : inB c 0 9999
  all_goals
    go_enter Tryd.func31, Tryd.ntmps31
    go_wp2_with (go_at_call 54; ((with_reducible refine (l15Year_d _ _).mono ?_); rintro e w' ⟨rfl, rfl⟩))
    go_ret
    exact ⟨rfl, (by repeat (first | with_reducible exact Ext.refl _ | with_reducible assumption | with_reducible refine Ext.alloc ?_ _ | with_reducible refine Ext.drew ?_ | (with_reducible refine Ext.setAt ?_ _ _ _ ?_; rotate_left; omega) | with_reducible refine Ext.trans ?_ (by assumption) | with_reducible exact Past.bel _ | with_reducible refine Ext.trans ?_ (Past.bel _)))⟩
end Go.Proofs.YtpohhnihgegmfaaDoor

namespace Go.Proofs.YtpohhnihgegmfaaDoor
set_option linter.unusedVariables false
open Lib
theorem digitVal_of {d : Nat} (h : d < 10) : digitVal (UInt8.ofNat (48 + d)) = some d := by
  have e : (UInt8.ofNat (48 + d)).toNat = 48 + d := by rw [UInt8.toNat_ofNat']; omega
  rw [digitVal, e, if_pos (by omega)]; congr 1; omega
theorem digitVal_some {b : UInt8} {d : Nat} (h : digitVal b = some d) : (48 ≤ b.toNat ∧ b.toNat ≤ 57) ∧ d = b.toNat - 48 := by
  unfold digitVal at h
  split at h
  · next h1 => exact ⟨h1, by simpa using h.symm⟩
  · cases h
theorem decFrom_snoc (b : UInt8) : ∀ (l : List UInt8) (acc : Nat), decFrom acc (l ++ [b]) = (decFrom acc l).bind fun n => (digitVal b).map fun d => n * 10 + d
  | [], acc => by simp only [List.nil_append, decFrom]; cases digitVal b <;> rfl
  | a :: t, acc => by
    simp only [List.cons_append, decFrom]
    cases h : digitVal a with
    | none => rfl
    | some d => exact decFrom_snoc b t _
theorem decFrom_digits : ∀ (u : Nat), decFrom 0 (decDigits u) = some u := fun u => by
  induction u using Nat.strongRecOn with
  | ind u ih =>
    rw [decDigits]
    split
    · next h => simp only [decFrom, digitVal_of h]; congr 1; omega
    · next h => rw [decFrom_snoc, ih (u / 10) (by omega), digitVal_of (by omega)]; simp; omega
theorem decDigits_ne (u : Nat) : decDigits u ≠ [] := by
  rw [decDigits]; split <;> simp
theorem decFrom_ge : ∀ (l : List UInt8) (acc v : Nat), decFrom acc l = some v → acc ≤ v
  | [], acc, v, h => by simp [decFrom] at h; omega
  | a :: t, acc, v, h => by
    simp only [decFrom] at h
    cases ha : digitVal a with
    | none => simp [ha] at h
    | some d => simp only [ha] at h; have := decFrom_ge t _ v h; omega
theorem decFrom_lt : ∀ (l : List UInt8) (acc v : Nat), decFrom acc l = some v → v < (acc + 1) * 10 ^ l.length
  | [], acc, v, h => by simp [decFrom] at h; simp; omega
  | a :: t, acc, v, h => by
    simp only [decFrom] at h
    cases ha : digitVal a with
    | none => simp [ha] at h
    | some d =>
      simp only [ha] at h
      have h1 := decFrom_lt t _ v h
      have h2 := digitVal_some ha
      have h3 : (acc * 10 + d + 1) * 10 ^ t.length ≤ ((acc + 1) * 10) * 10 ^ t.length := Nat.mul_le_mul_right _ (by omega)
      rw [List.length_cons, Nat.pow_succ, Nat.mul_comm (10 ^ t.length) 10, ← Nat.mul_assoc]
      omega
theorem decFrom_18 {l : List UInt8} {v : Nat} (h : decFrom 0 l = some v) (hl : l.length ≤ 18) : v < 1000000000000000000 := by
  have h1 := decFrom_lt l 0 v h
  have h2 : 10 ^ l.length ≤ 10 ^ 18 := Nat.pow_le_pow_right (by omega) hl
  have h3 : (10 : Nat) ^ 18 = 1000000000000000000 := rfl
  omega
theorem decDigits_len {u : Nat} (h : u < 1000000000000000000) : (decDigits u).length ≤ 18 ∧ 1 ≤ (decDigits u).length := by
  constructor
  · by_cases h0 : u = 0
    · subst h0; rw [decDigits_one (by decide)]; decide
    · rw [← digs_pos (by omega)]; exact digs_len 18 u (by omega)
  · have := decDigits_ne u
    exact List.length_pos_iff.2 this
theorem parseUintM_ok : ∀ (l : List UInt8) (acc v : Nat), decFrom acc l = some v → v < 1000000000000000000 → parseUintM (2 ^ 64 - 1) acc l = .ok v
  | [], acc, v, h, _ => by simp [decFrom] at h; rw [parseUintM, h]
  | a :: t, acc, v, h, hv => by
    simp only [decFrom] at h
    cases ha : digitVal a with
    | none => simp [ha] at h
    | some d =>
      simp only [ha] at h
      obtain ⟨h1, h2⟩ := digitVal_some ha
      have h3 := decFrom_ge t _ v h
      subst h2
      rw [parseUintM, if_pos h1, if_neg (by omega), if_neg (by omega)]
      exact parseUintM_ok t _ v h hv
/-- the numeral of u begins with a digit -/
theorem decDigits_head (u : Nat) : ∃ c r, decDigits u = c :: r ∧ 48 ≤ c.toNat ∧ c.toNat ≤ 57 := by
  obtain ⟨c, r, hc⟩ := List.exists_cons_of_ne_nil (decDigits_ne u)
  obtain ⟨d, hd⟩ := digit_of_decFrom _ 0 u (decFrom_digits u) 0 c (by rw [hc]; rfl)
  exact ⟨c, r, hc, (digitVal_some hd).1⟩
theorem itoa_cases (n : Int) : (n < 0 ∧ itoa n = 45 :: decDigits n.natAbs) ∨ (0 ≤ n ∧ itoa n = decDigits n.natAbs) := by
  by_cases h : n < 0
  · exact .inl ⟨h, by rw [itoa, if_pos h]⟩
  · exact .inr ⟨by omega, by rw [itoa, if_neg h]; congr 1; omega⟩
/-- small numbers -/
def Sm (n : Int) : Prop := -1000000000000000000 < n ∧ n < 1000000000000000000
theorem parse_itoa {n : Int} (h : Sm n) : parseIntB 64 (itoa n) = .ok n := by
  have hu : n.natAbs < 1000000000000000000 := by have := h.1; have := h.2; omega
  have hp := parseUintM_ok _ 0 _ (decFrom_digits n.natAbs) hu
  have hpb : parseUintB 64 (decDigits n.natAbs) = .ok n.natAbs := by rw [parseUintB, if_neg (decDigits_ne _)]; exact hp
  rcases itoa_cases n with ⟨hn, e⟩ | ⟨hn, e⟩
  · rw [e, parseIntB]
    have e1 : ((45 : UInt8).toNat = 43 ∨ (45 : UInt8).toNat = 45) := .inr rfl
    simp only [if_pos e1, hpb]
    have e2 : (45 : UInt8).toNat = 45 := rfl
    have e4 : (2 : Nat) ^ (64 - 1) = 9223372036854775808 := by decide
    simp only [e2, not_true, false_and, if_false, true_and, if_true, e4]
    rw [if_neg (by omega)]
    congr 1; omega
  · obtain ⟨c, r, hc, h1, h2⟩ := decDigits_head n.natAbs
    rw [e]
    rw [hc] at hpb ⊢
    rw [parseIntB]
    have e1 : ¬ (c.toNat = 43 ∨ c.toNat = 45) := by omega
    have e2 : ¬ c.toNat = 45 := by omega
    have e4 : (2 : Nat) ^ (64 - 1) = 9223372036854775808 := by decide
    simp only [if_neg e1, hpb]
    simp only [e2, not_false_eq_true, true_and, false_and, if_false, e4]
    rw [if_neg (by omega)]
    congr 1; omega
/-- a text without its sign -/
def mag (l : List UInt8) : List UInt8 := trimPrefix l [45]
theorem mag_itoa (n : Int) : mag (itoa n) = decDigits n.natAbs := by
  rcases itoa_cases n with ⟨hn, e⟩ | ⟨hn, e⟩
  · rw [e]; rfl
  · obtain ⟨c, r, hc, h1, h2⟩ := decDigits_head n.natAbs
    rw [e, hc]
    have : hasPrefix (c :: r) [45] = false := by
      unfold hasPrefix
      simp only [List.isPrefixOf, Bool.and_true, beq_eq_false_iff_ne]
      intro e; subst e; exact absurd h1 (by decide)
    rw [mag, trimPrefix, this]; rfl
theorem itoa_inj {m n : Int} (h : itoa m = itoa n) : m = n := by
  have h1 := congrArg mag h
  rw [mag_itoa, mag_itoa] at h1
  have h2 : m.natAbs = n.natAbs := Option.some.inj ((decFrom_digits _).symm.trans ((congrArg (decFrom 0) h1).trans (decFrom_digits _)))
  rcases itoa_cases m with ⟨a1, e1⟩ | ⟨a1, e1⟩ <;> rcases itoa_cases n with ⟨a2, e2⟩ | ⟨a2, e2⟩
  · omega
  · obtain ⟨c, r, hc, h3, h4⟩ := decDigits_head n.natAbs
    rw [e1, e2, hc] at h; injection h with h5; subst h5; exact absurd h3 (by decide)
  · obtain ⟨c, r, hc, h3, h4⟩ := decDigits_head m.natAbs
    rw [e1, e2, hc] at h; injection h with h5; subst h5; exact absurd h3 (by decide)
  · omega
/-- what reading a numeral of at most 18 digits returns -/
structure RdR (l : List UInt8) (x : Int) (b : Bool) : Prop where
  yes : b = true → itoa x = l ∧ Sm x
  no : b = false → x = 0 ∧ ∀ n, Sm n → itoa n ≠ l
theorem RdR.one {l : List UInt8} {x y : Int} {b c : Bool} (h : RdR l x b) (k : RdR l y c) : x = y ∧ b = c := by
  cases b <;> cases c
  · exact ⟨(h.no rfl).1.trans (k.no rfl).1.symm, rfl⟩
  · exact absurd (k.yes rfl).1 ((h.no rfl).2 y (k.yes rfl).2)
  · exact absurd (h.yes rfl).1 ((k.no rfl).2 x (h.yes rfl).2)
  · exact ⟨itoa_inj ((h.yes rfl).1.trans (k.yes rfl).1.symm), rfl⟩
theorem RdR.ex (l : List UInt8) : ∃ x b, RdR l x b := by
  by_cases h : ∃ n, Sm n ∧ itoa n = l
  · obtain ⟨n, h1, h2⟩ := h
    exact ⟨n, true, fun _ => ⟨h2, h1⟩, fun e => by cases e⟩
  · exact ⟨0, false, (fun e => by cases e), fun _ => ⟨rfl, fun n h1 h2 => h ⟨n, h1, h2⟩⟩⟩
theorem RdR.sm {l : List UInt8} {x : Int} {b : Bool} (h : RdR l x b) : Sm x := by
  cases b
  · rw [(h.no rfl).1]; exact ⟨by omega, by omega⟩
  · exact (h.yes rfl).2
theorem sm_mag {l : List UInt8} {n : Int} (h : Sm n) (e : itoa n = l) : mag l = decDigits n.natAbs ∧ 1 ≤ (mag l).length ∧ (mag l).length ≤ 18 := by
  have hu : n.natAbs < 1000000000000000000 := by have := h.1; have := h.2; omega
  have h1 := decDigits_len hu
  rw [← e, mag_itoa]; exact ⟨rfl, h1.2, h1.1⟩
theorem sm_of {l : List UInt8} {n : Int} (e : itoa n = l) (h : (mag l).length ≤ 18) : Sm n := by
  rw [← e, mag_itoa] at h
  have := decFrom_18 (decFrom_digits n.natAbs) h
  exact ⟨by omega, by omega⟩
end Go.Proofs.YtpohhnihgegmfaaDoor

namespace Go.Proofs.YtpohhnihgegmfaaDoor
open Go.RowKit
set_option linter.unusedVariables false
theorem app1t {P : Program} {w w0 : World} {ops : Array Oper} {o : Oper} {a : Act} {K : Act → World → Prop} {Q : Exit → Act → World → Prop} {E : Prop} (t e : TypeId) (s x : Operand)
    (hop : o.op = .call { callee := .builtin .append, args := #[s, x], argTypes := #[t, t] }) (hgd : o.guard = none)
    (ht : P.underlying t = some (.slice e)) (hinfo : (P.info? e).map (fun i => (i.zero, i.size, i.bytes)) = some (some (.int .i64 0), 1, 8))
    (v : Value) (l : List Int) (u : Int) (g : Nat) (hs : a.eval s = v) (hx : a.eval x = .slice (some ⟨g, 0, none⟩) 1 1) (hown : w.ownsRow w0.heap.size e 1 v l.length (l.map (Value.int .i64)))
    (hc : w.cell? ⟨g, 0, none⟩ = some (.int .i64 u)) (hl : l.length ≤ 1048576) (h0 : Ext w0 w)
    (hK : ∀ v' w', w'.ownsRow w0.heap.size e 1 v' (l ++ [u]).length ((l ++ [u]).map (Value.int .i64)) → Ext w0 w' → (∀ b i, b < w.heap.size → v.ownBlock ≠ some b → w'.cell? ⟨b, i, none⟩ = w.cell? ⟨b, i, none⟩) → K (a.put o.dst v') w') :
    if Region.wanted o (yielded ops a.tmps) = true then Oper.wp P o a w K Q else E := by
  obtain ⟨i, hi, hz, hsz, hb⟩ := info_parts hinfo
  refine step_append_lies w hgd s x t hop w0.heap.size e i (.int .i64 0) 1 8 ht hi hz hsz hb rfl (by decide) v l.length _ hs hown ⟨g, 0, none⟩ 1 1 [.int .i64 u] hx rfl ?_ ?_ (by decide) ?_ ?_ h0.size _ rfl ?_
  · intro j z hz'
    cases j with
    | zero =>
      simp at hz'; subst hz'
      simpa [Addr.add] using hc
    | succ j => simp at hz'
  · intro z hz'
    simp at hz'; subst hz'; rfl
  · unfold maxLen; omega
  · omega
  · intro g' cap w' h1 h2 _ _
    refine hK _ w' ?_ (h0.grown h2 fun k hk => (hown.lt k hk).1) (fun b i hb hne => h2.cell_far ⟨b, i, none⟩ hb (fun e => hne e.symm))
    have e1 : (l ++ [u]).length = l.length + 1 := by simp
    rw [e1]; simpa using h1
theorem own_base {w : World} {b0 b1 : Nat} {e : TypeId} {s : Nat} {v : Value} {n : Nat} {xs : List Value} (h : w.ownsRow b1 e s v n xs) (hb : b0 ≤ b1) : w.ownsRow b0 e s v n xs := by
  obtain ⟨h1, h2⟩ := h
  refine ⟨h1, ?_⟩
  rcases h2 with h2 | ⟨g, cap, cur, a, b, c⟩
  · exact .inl h2
  · exact .inr ⟨g, cap, cur, a, Nat.le_trans hb b, c⟩
end Go.Proofs.YtpohhnihgegmfaaDoor

namespace Go.Proofs.YtpohhnihgegmfaaDoor
open Go.ChangeShapes Go.WideShapes Go.RowKit Go.Deep
set_option linter.unusedVariables false
section
variable {H : Type} {enc : TypeId × Value → H} {P : Program} {w : World} {base : Nat} {spare : Nat → Bool} {held : Bool}
/-- a slice of structs of one cell a field, at whatever depth -/
theorem down_rows {t e : TypeId} {fs : Array Field} {fuel : Nat} {v : Value} {x : DataW H × List MemPlace} (ht : P.underlying t = some (.slice e)) (hs : P.underlying e = some (.struct fs)) (hone : oneCellFields P fs = true) (hC : P.cellsOf e = fs.size) (hpos : 0 < fs.size)
    (hf : DataW.trod enc P w base spare held fuel t [v] = some x) :
    ∃ (a : Option Addr) (n cap : Nat) (z : Nat → Nat → Value), v = .slice a n cap ∧ n ≤ cap ∧ cap ≤ maxLen ∧
      (0 < n → ∃ b off, a = some ⟨b, off, none⟩ ∧ b < w.heap.size ∧ ∀ i, i < n → ∀ j (hj : j < fs.size), w.cell? ⟨b, off + i * fs.size + j, none⟩ = some (z i j) ∧ ∃ m y, DataW.trod enc P w base spare held m fs[j].type [z i j] = some y) := by
  rcases open_slice ht hf with ⟨hcs, _⟩ | ⟨a', len', cap', m, n', D, Pl, hcs, hb, hl, hm, hmm, hx, hcell⟩
  · simp at hcs
    subst hcs
    exact ⟨none, 0, 0, fun _ _ => .bool false, rfl, Nat.le_refl _, Nat.zero_le _, fun h => absurd h (Nat.lt_irrefl 0)⟩
  · simp at hcs
    subst hcs
    have hlm : len' ≤ m := by rw [hmm]; split <;> omega
    have hel : ∀ i, i < len' → ∃ z : Nat → Value, ∀ j (hj : j < fs.size), w.cell? (a'.add (i * fs.size + j)) = some (z j) ∧ ∃ m y, DataW.trod enc P w base spare held m fs[j].type [z j] = some y := fun i hi' => by
      obtain ⟨cs', hc, ht'⟩ := hcell i (by omega)
      rw [hC] at hc
      obtain ⟨_, hcl, hat⟩ := World.cells?_some hc
      obtain ⟨k, hl', hfl⟩ := down_struct hs hone hC ht'
      refine ⟨fun j => cs'.getD j (.bool false), fun j hj => ?_⟩
      obtain ⟨v', y, hv', hy⟩ := hfl j fs[j] (Array.getElem?_eq_getElem hj)
      have e1 : cs'.getD j (.bool false) = v' := by simp [List.getD, hv']
      refine ⟨?_, k, y, by show DataW.trod enc P w base spare held k fs[j].type [cs'.getD j (.bool false)] = some y; rw [e1]; exact hy⟩
      show w.cell? (a'.add (i * fs.size + j)) = some (cs'.getD j (.bool false))
      rw [← Go.Deep.add_add, hat j hj, e1]; exact hv'
    obtain ⟨z, hz⟩ := choose_lt hel
    refine ⟨some a', len', cap', z, rfl, hl, hm, fun hn => ?_⟩
    obtain ⟨b, off, spot⟩ := a'
    have h0 := (hz 0 hn 0 hpos).1
    have hspot : spot = none := by simpa [Addr.add] using World.cell?_spot h0
    subst hspot
    refine ⟨b, off, rfl, World.block_lt_of_cell? w ⟨b, off, none⟩ (by simpa [Addr.add] using h0), fun i hi' j hj => ?_⟩
    have h1 := hz i hi' j hj
    rw [Addr.add_lit] at h1
    rw [Nat.add_assoc]; exact h1
/-- a slice of int64s -/
theorem down_i64s {t e : TypeId} {fuel : Nat} {v : Value} {x : DataW H × List MemPlace} (ht : P.underlying t = some (.slice e)) (he : P.underlying e = some (.int .i64)) (hC : P.cellsOf e = 1)
    (hf : DataW.trod enc P w base spare held fuel t [v] = some x) :
    ∃ (a : Option Addr) (n cap : Nat) (z : Nat → Int), v = .slice a n cap ∧ n ≤ cap ∧ cap ≤ maxLen ∧ S1 w a n z ∧ ∀ j, j < n → (Lit.int .i64 (z j)).wf = true := by
  rcases open_slice ht hf with ⟨hcs, _⟩ | ⟨a', len', cap', m, n', D, Pl, hcs, hb, hl, hm, hmm, hx, hcell⟩
  · simp at hcs
    subst hcs
    exact ⟨none, 0, 0, fun _ => 0, rfl, Nat.le_refl _, Nat.zero_le _, (fun h => absurd h (Nat.lt_irrefl 0)), fun j hj => absurd hj (Nat.not_lt_zero j)⟩
  · simp at hcs
    subst hcs
    have hlm : len' ≤ m := by rw [hmm]; split <;> omega
    have hel : ∀ i, i < len' → ∃ z : Int, w.cell? (a'.add i) = some (.int .i64 z) ∧ (Lit.int .i64 z).wf = true := fun i hi' => by
      obtain ⟨cs', hc, ht'⟩ := hcell i (by omega)
      rw [hC] at hc
      obtain ⟨_, hcl, hat⟩ := World.cells?_some hc
      obtain ⟨z, hz, _, hw⟩ := DataW.trod_int he ht'
      subst hz
      have := hat 0 (by omega)
      refine ⟨z, ?_, hw⟩
      have e1 : a'.add i = (a'.add (i * 1)).add 0 := by rw [Go.Deep.add_add]; simp
      rw [e1, this]; rfl
    obtain ⟨z, hz⟩ := choose_lt hel
    refine ⟨some a', len', cap', z, rfl, hl, hm, fun hn => ?_, fun j hj => (hz j hj).2⟩
    obtain ⟨b, off, spot⟩ := a'
    have h0 := (hz 0 hn).1
    have hspot : spot = none := by simpa [Addr.add] using World.cell?_spot h0
    subst hspot
    refine ⟨b, off, rfl, World.block_lt_of_cell? w ⟨b, off, none⟩ (by simpa [Addr.add] using h0), fun i hi' => ?_⟩
    have h1 := (hz i hi').1
    rw [Addr.add_lit] at h1
    exact h1
theorem arg_i64s {r : Reach} {b0 : Nat} {t e : TypeId} {v : Value} {d : DataW H} {p : List MemPlace} (ht : P.underlying t = some (.slice e)) (he : P.underlying e = some (.int .i64)) (hC : P.cellsOf e = 1)
    (hv : Value.okWide P w r b0 t v) (h : DataW.Trod enc P w base spare held t v d p) :
    ∃ (a : Option Addr) (n cap : Nat) (z : Nat → Int), v = .slice a n cap ∧ n ≤ cap ∧ cap ≤ maxLen ∧ S1 w a n z ∧ ∀ j, j < n → (Lit.int .i64 (z j)).wf = true := by
  obtain ⟨a, n, cap, rfl⟩ := okWide_slice ht hv
  obtain ⟨fuel, hf⟩ := h
  exact down_i64s ht he hC (fuel := fuel) (by simpa [Value.cells] using hf)
end
/-- A slice of structs of 'k' cells: cell j of element i is 'z i j'. -/
def SK (w : World) (a : Option Addr) (n k : Nat) (z : Nat → Nat → Value) : Prop :=
  0 < n → ∃ b off, a = some ⟨b, off, none⟩ ∧ b < w.heap.size ∧ ∀ i, i < n → ∀ j, j < k → w.cell? ⟨b, off + i * k + j, none⟩ = some (z i j)
/-- Months: a name and two numbers each. -/
def S3 (w : World) (a : Option Addr) (n : Nat) (nm : Nat → ByteArray) (dy lp : Nat → Int) : Prop :=
  0 < n → ∃ b off, a = some ⟨b, off, none⟩ ∧ b < w.heap.size ∧ ∀ i, i < n → w.cell? ⟨b, off + i * 3, none⟩ = some (.string (nm i)) ∧ w.cell? ⟨b, off + i * 3 + 1, none⟩ = some (.int .i64 (dy i)) ∧ w.cell? ⟨b, off + i * 3 + 2, none⟩ = some (.int .i64 (lp i))
/-- Rules: two numbers and a truth value each. -/
def R3 (w : World) (a : Option Addr) (n : Nat) (ev rs : Nat → Int) (lf : Nat → Bool) : Prop :=
  0 < n → ∃ b off, a = some ⟨b, off, none⟩ ∧ b < w.heap.size ∧ ∀ i, i < n → w.cell? ⟨b, off + i * 3, none⟩ = some (.int .i64 (ev i)) ∧ w.cell? ⟨b, off + i * 3 + 1, none⟩ = some (.int .i64 (rs i)) ∧ w.cell? ⟨b, off + i * 3 + 2, none⟩ = some (.bool (lf i))
theorem S3.ext {w w' : World} {a : Option Addr} {n : Nat} {nm : Nat → ByteArray} {dy lp : Nat → Int} (s : S3 w a n nm dy lp) (e : Ext w w') : S3 w' a n nm dy lp := fun hn => by
  obtain ⟨b, off, ha, hb, hc⟩ := s hn
  exact ⟨b, off, ha, Nat.lt_of_lt_of_le hb e.size, fun j hj => by rw [e.cell hb, e.cell hb, e.cell hb]; exact hc j hj⟩
theorem S3.at {w : World} {a : Option Addr} {n : Nat} {nm : Nat → ByteArray} {dy lp : Nat → Int} (s : S3 w a n nm dy lp) {j : Nat} (hj : j < n) :
    ∃ b off, a = some ⟨b, off, none⟩ ∧ b < w.heap.size ∧ w.cell? ⟨b, off + j * 3, none⟩ = some (.string (nm j)) ∧ w.cell? ⟨b, off + j * 3 + 1, none⟩ = some (.int .i64 (dy j)) ∧ w.cell? ⟨b, off + j * 3 + 2, none⟩ = some (.int .i64 (lp j)) := by
  obtain ⟨b, off, ha, hb, hc⟩ := s (by omega)
  exact ⟨b, off, ha, hb, hc j hj⟩
theorem R3.ext {w w' : World} {a : Option Addr} {n : Nat} {ev rs : Nat → Int} {lf : Nat → Bool} (s : R3 w a n ev rs lf) (e : Ext w w') : R3 w' a n ev rs lf := fun hn => by
  obtain ⟨b, off, ha, hb, hc⟩ := s hn
  exact ⟨b, off, ha, Nat.lt_of_lt_of_le hb e.size, fun j hj => by rw [e.cell hb, e.cell hb, e.cell hb]; exact hc j hj⟩
theorem R3.at {w : World} {a : Option Addr} {n : Nat} {ev rs : Nat → Int} {lf : Nat → Bool} (s : R3 w a n ev rs lf) {j : Nat} (hj : j < n) :
    ∃ b off, a = some ⟨b, off, none⟩ ∧ b < w.heap.size ∧ w.cell? ⟨b, off + j * 3, none⟩ = some (.int .i64 (ev j)) ∧ w.cell? ⟨b, off + j * 3 + 1, none⟩ = some (.int .i64 (rs j)) ∧ w.cell? ⟨b, off + j * 3 + 2, none⟩ = some (.bool (lf j)) := by
  obtain ⟨b, off, ha, hb, hc⟩ := s (by omega)
  exact ⟨b, off, ha, hb, hc j hj⟩
end Go.Proofs.YtpohhnihgegmfaaDoor

namespace Go.Proofs.YtpohhnihgegmfaaDoor
open Go.RowKit
set_option linter.unusedVariables false
set_option linter.unusedSimpArgs false

end Go.Proofs.YtpohhnihgegmfaaDoor

namespace Go.Proofs.YtpohhnihgegmfaaDoor
open Go.RowKit
set_option linter.unusedVariables false
set_option linter.unusedSimpArgs false

abbrev sS (f : Nat → ByteArray) : Nat → Value := fun j => .string (f j)
abbrev sI (f : Nat → Int) : Nat → Value := fun j => .int .i64 (f j)
abbrev sB (f : Nat → Bool) : Nat → Value := fun j => .bool (f j)
/-- the first k elements of the cells 'cur' are the triples F -/
def C3 (cur : Array Value) (k : Nat) (F G H : Nat → Value) : Prop := ∀ j, j < k → cur[j * 3]? = some (F j) ∧ cur[j * 3 + 1]? = some (G j) ∧ cur[j * 3 + 2]? = some (H j)
theorem C3.zero (cur : Array Value) (F G H : Nat → Value) : C3 cur 0 F G H := fun j hj => absurd hj (Nat.not_lt_zero j)
theorem C3.step {cur : Array Value} {k : Nat} {F G H : Nat → Value} (c : C3 cur k F G H) (hk : k * 3 + 2 < cur.size) : C3 (((cur.setIfInBounds (k * 3) (F k)).setIfInBounds (k * 3 + 1) (G k)).setIfInBounds (k * 3 + 2) (H k)) (k + 1) F G H := fun j hj => by
  rcases Nat.lt_succ_iff_lt_or_eq.1 hj with hlt | rfl
  · obtain ⟨c1, c2, c3⟩ := c j hlt
    refine ⟨?_, ?_, ?_⟩
    · rw [Array.getElem?_setIfInBounds_ne (by omega), Array.getElem?_setIfInBounds_ne (by omega), Array.getElem?_setIfInBounds_ne (by omega), c1]
    · rw [Array.getElem?_setIfInBounds_ne (by omega), Array.getElem?_setIfInBounds_ne (by omega), Array.getElem?_setIfInBounds_ne (by omega), c2]
    · rw [Array.getElem?_setIfInBounds_ne (by omega), Array.getElem?_setIfInBounds_ne (by omega), Array.getElem?_setIfInBounds_ne (by omega), c3]
  · refine ⟨?_, ?_, ?_⟩
    · rw [Array.getElem?_setIfInBounds_ne (by omega), Array.getElem?_setIfInBounds_ne (by omega), Array.getElem?_setIfInBounds_self_of_lt (by omega)]
    · rw [Array.getElem?_setIfInBounds_ne (by omega), Array.getElem?_setIfInBounds_self_of_lt (by simp; omega)]
    · rw [Array.getElem?_setIfInBounds_self_of_lt (by simp; omega)]
theorem C3.s3 {w : World} {g n : Nat} {T : TypeId} {cur : Array Value} {nm : Nat → ByteArray} {dy lp : Nat → Int} (b : Blk w g T cur) (c : C3 cur n (sS nm) (sI dy) (sI lp)) : S3 w (some ⟨g, 0, none⟩) n nm dy lp := fun _ =>
  ⟨g, 0, rfl, b.lt, fun j hj => by rw [b.cell, b.cell, b.cell]; simpa using c j hj⟩
theorem C3.r3 {w : World} {g n : Nat} {T : TypeId} {cur : Array Value} {ev rs : Nat → Int} {lf : Nat → Bool} (b : Blk w g T cur) (c : C3 cur n (sI ev) (sI rs) (sB lf)) : R3 w (some ⟨g, 0, none⟩) n ev rs lf := fun _ =>
  ⟨g, 0, rfl, b.lt, fun j hj => by rw [b.cell, b.cell, b.cell]; simpa using c j hj⟩
end Go.Proofs.YtpohhnihgegmfaaDoor

namespace Go.Proofs.YtpohhnihgegmfaaDoor
open Go.RowKit
set_option linter.unusedVariables false
set_option linter.unusedSimpArgs false

theorem S3.set {w : World} {g n : Nat} {nm : Nat → ByteArray} {dy lp : Nat → Int} (h : S3 w (some ⟨g, 0, none⟩) n nm dy lp) {b : Nat} (hb : b ≠ g) (o : Nat) (u : Value) : S3 (w.setCell ⟨b, o, none⟩ u) (some ⟨g, 0, none⟩) n nm dy lp := fun hn => by
  obtain ⟨b', off', e, hl, hc⟩ := h hn
  obtain ⟨rfl, rfl⟩ : b' = g ∧ off' = 0 := by simp at e; exact ⟨e.1.symm, e.2.symm⟩
  have hx := grown_set (w := w) b o u
  refine ⟨b', 0, rfl, by simpa using hl, fun j hj => ?_⟩
  obtain ⟨c1, c2, c3⟩ := hc j hj
  refine ⟨?_, ?_, ?_⟩ <;> (rw [World.cell?_of_block (hx.block b' hl (fun e => hb (by simpa using e.symm)))]; assumption)
theorem R3.set {w : World} {g n : Nat} {ev rs : Nat → Int} {lf : Nat → Bool} (h : R3 w (some ⟨g, 0, none⟩) n ev rs lf) {b : Nat} (hb : b ≠ g) (o : Nat) (u : Value) : R3 (w.setCell ⟨b, o, none⟩ u) (some ⟨g, 0, none⟩) n ev rs lf := fun hn => by
  obtain ⟨b', off', e, hl, hc⟩ := h hn
  obtain ⟨rfl, rfl⟩ : b' = g ∧ off' = 0 := by simp at e; exact ⟨e.1.symm, e.2.symm⟩
  have hx := grown_set (w := w) b o u
  refine ⟨b', 0, rfl, by simpa using hl, fun j hj => ?_⟩
  obtain ⟨c1, c2, c3⟩ := hc j hj
  refine ⟨?_, ?_, ?_⟩ <;> (rw [World.cell?_of_block (hx.block b' hl (fun e => hb (by simpa using e.symm)))]; assumption)
theorem own_off {w : World} {base : Nat} {e : TypeId} {size g n cap : Nat} {xs : List Value} (h : w.ownsRow base e size (.slice (some ⟨g, 0, none⟩) n cap) n xs) {b : Nat} (hb : b ≠ g) (o : Nat) (u : Value) : (w.setCell ⟨b, o, none⟩ u).ownsRow base e size (.slice (some ⟨g, 0, none⟩) n cap) n xs :=
  h.kept (grown_set b o u) (.inr (fun e => hb (by simpa [Value.ownBlock] using e.symm)))
/-- a calendar's months and rules in memory -/
structure CalM (w : World) (ma ra : Option Addr) (nm : Nat → ByteArray) (c : CalN) : Prop where
  mo : S3 w ma c.n nm c.dy c.lp
  ru : R3 w ra c.nr c.ev c.rs c.lf
theorem CalM.ext {w w' : World} {ma ra : Option Addr} {nm : Nat → ByteArray} {c : CalN} (h : CalM w ma ra nm c) (e : Ext w w') : CalM w' ma ra nm c := ⟨h.mo.ext e, h.ru.ext e⟩
end Go.Proofs.YtpohhnihgegmfaaDoor

namespace Go.Proofs.YtpohhnihgegmfaaDoor
open Go.RowKit
set_option linter.unusedVariables false
set_option linter.unusedSimpArgs false

abbrev Mo := ByteArray × Int × Int
abbrev Ru := Int × Int × Bool
/-- months, cell by cell -/
def MT (l : List Mo) : List Value := l.flatMap fun q => [.string q.1, .int .i64 q.2.1, .int .i64 q.2.2]
/-- rules, cell by cell -/
def RT (l : List Ru) : List Value := l.flatMap fun q => [.int .i64 q.1, .int .i64 q.2.1, .bool q.2.2]
theorem MT_app (l r : List Mo) : MT (l ++ r) = MT l ++ MT r := by simp [MT]
theorem RT_app (l r : List Ru) : RT (l ++ r) = RT l ++ RT r := by simp [RT]
theorem MT_len (l : List Mo) : (MT l).length = l.length * 3 := by
  induction l with
  | nil => rfl
  | cons q l ih => have e : MT (q :: l) = [.string q.1, .int .i64 q.2.1, .int .i64 q.2.2] ++ MT l := rfl
                   rw [e, List.length_append, ih]; simp; omega
theorem RT_len (l : List Ru) : (RT l).length = l.length * 3 := by
  induction l with
  | nil => rfl
  | cons q l ih => have e : RT (q :: l) = [.int .i64 q.1, .int .i64 q.2.1, .bool q.2.2] ++ RT l := rfl
                   rw [e, List.length_append, ih]; simp; omega
theorem flat3_at {α : Type} (A B C : α → Value) : ∀ (l : List α) (j : Nat) (q : α), l[j]? = some q →
    (l.flatMap fun q => [A q, B q, C q])[j * 3]? = some (A q) ∧ (l.flatMap fun q => [A q, B q, C q])[j * 3 + 1]? = some (B q) ∧ (l.flatMap fun q => [A q, B q, C q])[j * 3 + 2]? = some (C q)
  | [], j, q, h => by simp at h
  | x :: l, 0, q, h => by
    obtain rfl : x = q := by simpa using h
    exact ⟨rfl, rfl, rfl⟩
  | x :: l, j + 1, q, h => by
    have ih := flat3_at A B C l j q (by simpa using h)
    have e1 : (j + 1) * 3 = 3 + j * 3 := by omega
    rw [List.flatMap_cons, e1, Nat.add_assoc, Nat.add_assoc]
    have e : ∀ i, ([A x, B x, C x] ++ l.flatMap fun q => [A q, B q, C q])[3 + i]? = (l.flatMap fun q => [A q, B q, C q])[i]? := fun i => by
      rw [List.getElem?_append_right (by simp)]; simp
    rw [e, e, e]; exact ih
/-- the calendar that months and rules make -/
def calOf (M : List Mo) (R : List Ru) : CalN := ⟨R.length, fun i => (R.getD i (0, 0, false)).1, fun i => (R.getD i (0, 0, false)).2.1, fun i => (R.getD i (0, 0, false)).2.2, M.length, fun i => (M.getD i (⟨#[]⟩, 0, 0)).2.1, fun i => (M.getD i (⟨#[]⟩, 0, 0)).2.2⟩
def nmOf (M : List Mo) : Nat → ByteArray := fun i => (M.getD i (⟨#[]⟩, 0, 0)).1
section
variable {w w' : World} {base : Nat} {e : TypeId} {size : Nat} {v : Value} {n : Nat} {xs : List Value}
theorem own_atK {a : Option Addr} {cap : Nat} (h : w.ownsRow base e size (.slice a n cap) n xs) (hn : 0 < n) :
    ∃ g, a = some ⟨g, 0, none⟩ ∧ base ≤ g ∧ g < w.heap.size ∧ ∀ j, j < n * size → w.cell? ⟨g, j, none⟩ = xs[j]? ∧ w.frozen? ⟨g, j, none⟩ = false := by
  rcases h.2 with ⟨h1, h2⟩ | ⟨g, cap', cur, h1, hb, hg, h2, h3, h4, h5⟩
  · omega
  · simp only [Value.slice.injEq, true_and] at h1
    obtain ⟨rfl, rfl⟩ := h1
    exact ⟨g, rfl, hb, (Array.getElem?_eq_some_iff.1 hg).1, fun j hj => ⟨h.cellAt j (by omega), h.frozenAt j⟩⟩
theorem own_s3 {a : Option Addr} {cap : Nat} {M : List Mo} (h : w.ownsRow base e 3 (.slice a n cap) n (MT M)) : S3 w a n (nmOf M) (calOf M []).dy (calOf M []).lp := fun hn => by
  obtain ⟨g, rfl, _, hg, hc⟩ := own_atK h hn
  have hl : M.length = n := by have := h.1; rw [MT_len] at this; omega
  refine ⟨g, 0, rfl, hg, fun j hj => ?_⟩
  have hq : M[j]? = some (M.getD j (⟨#[]⟩, 0, 0)) := by rw [List.getD_eq_getElem?_getD, List.getElem?_eq_getElem (by omega)]; rfl
  obtain ⟨q1, q2, q3⟩ := flat3_at (fun q : Mo => Value.string q.1) (fun q => .int .i64 q.2.1) (fun q => .int .i64 q.2.2) M j _ hq
  rw [Nat.zero_add, (hc _ (by omega)).1, (hc _ (by omega)).1, (hc _ (by omega)).1]
  exact ⟨q1, q2, q3⟩
theorem own_r3 {a : Option Addr} {cap : Nat} {R : List Ru} (h : w.ownsRow base e 3 (.slice a n cap) n (RT R)) : R3 w a n (calOf [] R).ev (calOf [] R).rs (calOf [] R).lf := fun hn => by
  obtain ⟨g, rfl, _, hg, hc⟩ := own_atK h hn
  have hl : R.length = n := by have := h.1; rw [RT_len] at this; omega
  refine ⟨g, 0, rfl, hg, fun j hj => ?_⟩
  have hq : R[j]? = some (R.getD j (0, 0, false)) := by rw [List.getD_eq_getElem?_getD, List.getElem?_eq_getElem (by omega)]; rfl
  obtain ⟨q1, q2, q3⟩ := flat3_at (fun q : Ru => Value.int .i64 q.1) (fun q => .int .i64 q.2.1) (fun q => .bool q.2.2) R j _ hq
  rw [Nat.zero_add, (hc _ (by omega)).1, (hc _ (by omega)).1, (hc _ (by omega)).1]
  exact ⟨q1, q2, q3⟩
end
/-- months and rules owned: a calendar in memory -/
theorem own_calM {w : World} {b1 b2 : Nat} {e1 e2 : TypeId} {a1 a2 : Option Addr} {c1 c2 : Nat} {M : List Mo} {R : List Ru} (h1 : w.ownsRow b1 e1 3 (.slice a1 M.length c1) M.length (MT M)) (h2 : w.ownsRow b2 e2 3 (.slice a2 R.length c2) R.length (RT R)) : CalM w a1 a2 (nmOf M) (calOf M R) :=
  ⟨own_s3 h1, own_r3 h2⟩
theorem news_block {w : World} {gb : Nat} {T : TypeId} {ys : List Value} (h : Blk w gb T ys.toArray) : ∀ j u, ys[j]? = some u → w.cell? ((⟨gb, 0, none⟩ : Addr).add j) = some u := fun j u hu => by
  rw [addr_add, Nat.zero_add, h.cell]; simpa using hu
/-- 'own = append(own, q, ..)', the q's of several cells -/
theorem appG {P : Program} {w : World} {ops : Array Oper} {rest : List Oper} {o : Oper} {A : Act} {Q : Exit → Act → World → Prop} (t T : TypeId) (s x : Operand) (z : Value) (sz by8 : Nat)
    (hop : o.op = .call { callee := .builtin .append, args := #[s, x], argTypes := #[t, t] }) (hgd : o.guard = none)
    (ht : P.underlying t = some (.slice T)) (hinfo : (P.info? T).map (fun i => (i.zero, i.size, i.bytes)) = some (some z, sz, by8)) (hz : z.cells.size = sz) (hz0 : 0 < sz) (h64 : by8 ≤ 64)
    (B : Nat) (v : Value) (n : Nat) (xs : List Value) (m : Nat) (ys : List Value) (gb c : Nat) (hs : A.eval s = v) (hx : A.eval x = .slice (some ⟨gb, 0, none⟩) m c) (h : w.ownsRow B T sz v n xs)
    (hc : Blk w gb T ys.toArray) (hy : ys.length = m * sz) (ho : ∀ u ∈ ys, u.oneCell' = true) (hm : m ≤ 100) (hl : n ≤ 1048576) (h0 : B ≤ w.heap.size)
    (hK : ∀ v' w', w'.ownsRow B T sz v' (n + m) (xs ++ ys) → w.grownBy w' v.ownBlock → wpList P ops Q rest (A.put o.dst v') w') : wpList P ops Q (o :: rest) A w := by
  obtain ⟨i, hi, hz', hsz, hb⟩ := info_parts hinfo
  refine wpList_append_own (P := P) w hgd s x t hop B T i z sz by8 ht hi hz' hsz hb hz hz0 v n xs hs h ⟨gb, 0, none⟩ m c ys hx hy (news_block hc) ho (by unfold maxLen; omega) ?_ h0 ?_
  · have : (n + m) * by8 ≤ (n + m) * 64 := Nat.mul_le_mul_left _ h64
    omega
  · intro v' w' h1 h2 _
    exact hK v' w' h1 h2
/-- the same at a step of a region that draws its order -/
theorem appGs {P : Program} {w : World} {ops : Array Oper} {o : Oper} {A : Act} {K : Act → World → Prop} {Q : Exit → Act → World → Prop} {E : Prop} (t T : TypeId) (s x : Operand) (z : Value) (sz by8 : Nat)
    (hop : o.op = .call { callee := .builtin .append, args := #[s, x], argTypes := #[t, t] }) (hgd : o.guard = none)
    (ht : P.underlying t = some (.slice T)) (hinfo : (P.info? T).map (fun i => (i.zero, i.size, i.bytes)) = some (some z, sz, by8)) (hz : z.cells.size = sz) (hz0 : 0 < sz) (h64 : by8 ≤ 64)
    (B : Nat) (v : Value) (n : Nat) (xs : List Value) (m : Nat) (ys : List Value) (gb c : Nat) (hs : A.eval s = v) (hx : A.eval x = .slice (some ⟨gb, 0, none⟩) m c) (h : w.ownsRow B T sz v n xs)
    (hc : Blk w gb T ys.toArray) (hy : ys.length = m * sz) (ho : ∀ u ∈ ys, u.oneCell' = true) (hm0 : 0 < m) (hm : m ≤ 100) (hl : n ≤ 1048576) (h0 : B ≤ w.heap.size)
    (hK : ∀ v' w', w'.ownsRow B T sz v' (n + m) (xs ++ ys) → w.grownBy w' v.ownBlock → (∀ b i, b < w.heap.size → v.ownBlock ≠ some b → w'.cell? ⟨b, i, none⟩ = w.cell? ⟨b, i, none⟩) → K (A.put o.dst v') w') :
    if Region.wanted o (yielded ops A.tmps) = true then Oper.wp P o A w K Q else E := by
  obtain ⟨i, hi, hz', hsz, hb⟩ := info_parts hinfo
  refine step_append_lies w hgd s x t hop B T i z sz by8 ht hi hz' hsz hb hz hz0 v n xs hs h ⟨gb, 0, none⟩ m c ys hx hy (news_block hc) ho hm0 (by unfold maxLen; omega) ?_ h0 _ rfl ?_
  · have : (n + m) * by8 ≤ (n + m) * 64 := Nat.mul_le_mul_left _ h64
    omega
  · intro g' cap w' h1 h2 _ _
    exact hK _ w' h1 h2 (fun b i hb hne => h2.cell_far ⟨b, i, none⟩ hb (fun e => hne e.symm))
theorem info_month : (Tryd.prog.info? 68).map (fun i => (i.zero, i.size, i.bytes)) = some (some (.agg #[.string ⟨#[]⟩, .int .i64 0, .int .i64 0]), 3, 32) := by kernel_rfl
theorem info_rule : (Tryd.prog.info? 70).map (fun i => (i.zero, i.size, i.bytes)) = some (some (.agg #[.int .i64 0, .int .i64 0, .bool false]), 3, 24) := by kernel_rfl
end Go.Proofs.YtpohhnihgegmfaaDoor

namespace Go.Proofs.YtpohhnihgegmfaaDoor
open Go.RowKit
set_option linter.unusedVariables false
set_option linter.unusedSimpArgs false

/-- months m1 and so on of d days -/
def eqM (d : Int) (k : Nat) : List Mo := (List.range k).map (fun j : Nat => ((⟨(109 :: Lib.itoa ((j : Int) + 1)).toArray⟩ : ByteArray), d, d))
theorem eqM_len (d : Int) (k : Nat) : (eqM d k).length = k := by simp [eqM]
theorem eqM_zero (d : Int) : MT (eqM d 0) = [] := rfl
theorem eqM_step (d : Int) (k : Nat) : eqM d (k + 1) = eqM d k ++ [((⟨(109 :: Lib.itoa ((k : Int) + 1)).toArray⟩ : ByteArray), d, d)] := by simp [eqM, List.range_succ]
theorem itoa_small (n : Int) (h0 : 0 ≤ n) (h1 : n ≤ 1000000) : (Lib.itoa n).length ≤ 7 := by
  obtain ⟨u, rfl⟩ : ∃ u : Nat, n = (u : Int) := ⟨n.toNat, by omega⟩
  by_cases h : u = 0
  · subst h; rw [show ((0 : Nat) : Int) = 0 from rfl, itoa_zero]; decide
  · rw [itoa_pos (by omega)]
    exact digs_len 7 u (by omega)
end Go.Proofs.YtpohhnihgegmfaaDoor

namespace Go.Proofs.YtpohhnihgegmfaaDoor
open Go.RowKit
set_option linter.unusedVariables false
set_option linter.unusedSimpArgs false

def romT : List (ByteArray × Int) := [(⟨#[106, 97, 110]⟩, 31), (⟨#[102, 101, 98]⟩, 28), (⟨#[109, 97, 114]⟩, 31), (⟨#[97, 112, 114]⟩, 30), (⟨#[109, 97, 121]⟩, 31), (⟨#[106, 117, 110]⟩, 30), (⟨#[106, 117, 108]⟩, 31), (⟨#[97, 117, 103]⟩, 31), (⟨#[115, 101, 112]⟩, 30), (⟨#[111, 99, 116]⟩, 31), (⟨#[110, 111, 118]⟩, 30), (⟨#[100, 101, 99]⟩, 31)]
/-- the first k months of the roman calendars, all years alike -/
def romP (k : Nat) : List Mo := (romT.take k).map fun q => (q.1, q.2, q.2)
theorem romP_len {k : Nat} (h : k ≤ 12) : (romP k).length = k := by simp [romP, romT]; omega
/-- the months of the roman calendars -/
def romM : List Mo := (romT.take 1).map (fun q => (q.1, q.2, q.2)) ++ [(⟨#[102, 101, 98]⟩, 28, 29)] ++ (romT.drop 2).map (fun q => (q.1, q.2, q.2))
theorem rom_set : (MT (romP 12)).set 5 (.int .i64 29) = MT romM := rfl
def gregR : List Ru := [(4, 0, true), (100, 0, false), (400, 0, true)]
def julR : List Ru := [(4, 0, true)]
theorem own_lit {w : World} {base : Nat} {e : TypeId} {size n : Nat} (cur : Array Value) (xs : List Value) (hx : cur.toList = xs) (hs : xs.length = n * size) (hn : n ≤ maxLen) (hb : base ≤ w.heap.size) : (w.alloc (.cells cur e)).ownsRow base e size (.slice (some ⟨w.heap.size, 0, none⟩) n n) n xs :=
  ⟨hs, .inr ⟨w.heap.size, n, cur, rfl, hb, heap_alloc_new w _, Nat.le_refl _, hn, by rw [← hs, ← hx]; simp, by rw [← hs, ← hx]; exact List.take_of_length_le (Nat.le_refl _)⟩⟩
theorem own_made {base g : Nat} {e : TypeId} {size : Nat} (w : World) (cur : Array Value) (cap : Nat) (hg : g = w.heap.size) (hb : base ≤ w.heap.size) (hm : cap ≤ maxLen) (hs : cur.size = cap * size) :
    (w.alloc (.cells cur e)).ownsRow base e size (.slice (some ⟨g, 0, none⟩) 0 cap) 0 [] := by
  subst hg; exact World.ownsRow_made w cur cap hb hm hs
end Go.Proofs.YtpohhnihgegmfaaDoor

namespace Go.Proofs.YtpohhnihgegmfaaDoor
open Go.RowKit
set_option linter.unusedVariables false
set_option linter.unusedSimpArgs false

def egyS : ByteArray := ⟨#[101, 103, 121, 112, 116, 105, 97, 110]⟩
def fixS : ByteArray := ⟨#[102, 105, 120, 101, 100]⟩
def greS : ByteArray := ⟨#[103, 114, 101, 103, 111, 114, 105, 97, 110]⟩
def julS : ByteArray := ⟨#[106, 117, 108, 105, 97, 110]⟩
def egyM : List Mo := eqM 30 12 ++ [(⟨#[109, 49, 51]⟩, 5, 5)]
def fixM : List Mo := eqM 28 12 ++ [(⟨#[109, 49, 51]⟩, 29, 30)]
/-- a calendar with a code, in memory of its own -/
def NmR (w w' : World) (M : List Mo) (R : List Ru) (wk k : Int) (s : ByteArray) (e : Ending) : Prop :=
  ∃ a1 c1 a2 c2, e = .returned (.tuple #[.agg #[.string s, .slice a1 M.length c1, .slice a2 R.length c2, .int .i64 wk], .int .i64 k]) ∧ Ext w w' ∧ w'.ownsRow w.heap.size 68 3 (.slice a1 M.length c1) M.length (MT M) ∧ w'.ownsRow w.heap.size 70 3 (.slice a2 R.length c2) R.length (RT R) ∧ ((Value.slice a1 M.length c1).ownBlock = none ∨ (Value.slice a1 M.length c1).ownBlock ≠ (Value.slice a2 R.length c2).ownBlock) ∧ ((Value.slice a2 R.length c2).ownBlock = none ∨ (Value.slice a2 R.length c2).ownBlock ≠ (Value.slice a1 M.length c1).ownBlock)
theorem Blk.grown {w w' : World} {g : Nat} {T : TypeId} {cur : Array Value} {row : Option Nat} (h : Blk w g T cur) (hg : w.grownBy w' row) (hne : some g ≠ row) : Blk w' g T cur := (hg.block g h.lt hne).trans h
/-- the cells of a calendar's block -/
structure Cel (w : World) (g : Nat) (a b c d : Value) : Prop where
  lt : g < w.heap.size
  c0 : w.cell? ⟨g, 0, none⟩ = some a
  c1 : w.cell? ⟨g, 1, none⟩ = some b
  c2 : w.cell? ⟨g, 2, none⟩ = some c
  c3 : w.cell? ⟨g, 3, none⟩ = some d
  f0 : w.frozen? ⟨g, 0, none⟩ = false
  f1 : w.frozen? ⟨g, 1, none⟩ = false
  f2 : w.frozen? ⟨g, 2, none⟩ = false
  f3 : w.frozen? ⟨g, 3, none⟩ = false
theorem Blk.cel {w : World} {g : Nat} {T : TypeId} {a b c d : Value} (h : Blk w g T #[a, b, c, d]) : Cel w g a b c d := ⟨h.lt, h.cell 0, h.cell 1, h.cell 2, h.cell 3, h.frozen 0, h.frozen 1, h.frozen 2, h.frozen 3⟩
/-- 'append' of one month to months of its own -/
theorem app_month {w : World} {ops : Array Oper} {rest : List Oper} {o : Oper} {A : Act} {Q : Exit → Act → World → Prop} (s x : Operand)
    (hop : o.op = .call { callee := .builtin .append, args := #[s, x], argTypes := #[28, 28] }) (hgd : o.guard = none)
    (B : Nat) (v : Value) (n m : Nat) (xs : List Value) (nm : ByteArray) (d l : Int) (gb c : Nat) (hm : m = n + 1) (hs : A.eval s = v) (hx : A.eval x = .slice (some ⟨gb, 0, none⟩) 1 c) (h : w.ownsRow B 68 3 v n xs)
    (hc : Blk w gb 68 #[.string nm, .int .i64 d, .int .i64 l]) (hl : n ≤ 1048576) (h0 : B ≤ w.heap.size)
    (hK : ∀ b' c' w', w'.ownsRow B 68 3 (.slice b' m c') m (xs ++ MT [(nm, d, l)]) → w.grownBy w' v.ownBlock → wpList Tryd.prog ops Q rest (A.put o.dst (.slice b' m c')) w') : wpList Tryd.prog ops Q (o :: rest) A w := by
  subst hm
  refine appG 28 68 s x _ 3 32 hop hgd Tryd.underlying28 info_month rfl (by decide) (by decide) B v n xs 1 [.string nm, .int .i64 d, .int .i64 l] gb c hs hx h hc rfl (by intro u hu; simp at hu; rcases hu with rfl | rfl | rfl <;> rfl) (by omega) hl h0 ?_
  intro v' w' s6 s7
  obtain ⟨b', c', rfl⟩ := own_form s6
  exact hK b' c' w' s6 s7
theorem own_litg {w : World} {base g : Nat} {e : TypeId} {size n : Nat} (cur : Array Value) (xs : List Value) (hx : cur.toList = xs) (hs : xs.length = n * size) (hn : n ≤ maxLen) (hb : base ≤ w.heap.size) (hg : g = w.heap.size) : (w.alloc (.cells cur e)).ownsRow base e size (.slice (some ⟨g, 0, none⟩) n n) n xs := by
  subst hg; exact own_lit cur xs hx hs hn hb
theorem str_ne {s : ByteArray} {l : List UInt8} (h : s ≠ ⟨l.toArray⟩) : (s.toList == l) = false := by
  rw [ByteArray.toList_eq]
  refine Bool.eq_false_iff.2 fun e => h ?_
  have e' : s.data.toList = l := by simpa using e
  apply ByteArray.ext; rw [← e']
theorem own_low {w : World} {base : Nat} {e : TypeId} {size : Nat} {v : Value} {n : Nat} {xs : List Value} (h : w.ownsRow base e size v n xs) {b : Nat} (hb : b < base) (o : Nat) (u : Value) : (w.setCell ⟨b, o, none⟩ u).ownsRow base e size v n xs :=
  h.kept (grown_set b o u) (by
    cases hv : v.ownBlock with
    | none => exact .inl rfl
    | some k => refine .inr fun e => ?_; have := h.lt k hv; simp at e; omega)
theorem own_four {w : World} {base : Nat} {e : TypeId} {size : Nat} {v : Value} {n : Nat} {xs : List Value} (h : w.ownsRow base e size v n xs) {b : Nat} (hb : b < base) (u0 u1 u2 u3 : Value) : ((((w.setCell ⟨b, 0, none⟩ u0).setCell ⟨b, 1, none⟩ u1).setCell ⟨b, 2, none⟩ u2).setCell ⟨b, 3, none⟩ u3).ownsRow base e size v n xs :=
  own_low (own_low (own_low (own_low h hb _ _) hb _ _) hb _ _) hb _ _
theorem apart_none (a : Option Nat) : (a = none ∨ a ≠ none) := by cases a <;> simp
/-- the four cells of the result stored -/
theorem NmR.mk4 {w wX : World} {M : List Mo} {R : List Ru} {wk k : Int} {s : ByteArray} {a1 a2 : Option Addr} {n1 n2 c1 c2 : Nat} (hn1 : M.length = n1) (hn2 : R.length = n2) (hx : Ext w wX) (h1 : wX.ownsRow (w.heap.size + 1) 68 3 (.slice a1 n1 c1) n1 (MT M)) (h2 : wX.ownsRow (w.heap.size + 1) 70 3 (.slice a2 n2 c2) n2 (RT R))
    (hp : ((Value.slice a1 n1 c1).ownBlock = none ∨ (Value.slice a1 n1 c1).ownBlock ≠ (Value.slice a2 n2 c2).ownBlock) ∧ ((Value.slice a2 n2 c2).ownBlock = none ∨ (Value.slice a2 n2 c2).ownBlock ≠ (Value.slice a1 n1 c1).ownBlock)) (u0 u1 u2 u3 : Value) :
    NmR w ((((wX.setCell ⟨w.heap.size, 0, none⟩ u0).setCell ⟨w.heap.size, 1, none⟩ u1).setCell ⟨w.heap.size, 2, none⟩ u2).setCell ⟨w.heap.size, 3, none⟩ u3) M R wk k s (.returned (.tuple #[.agg #[.string s, .slice a1 n1 c1, .slice a2 n2 c2, .int .i64 wk], .int .i64 k])) := by
  subst hn1 hn2
  exact ⟨a1, c1, a2, c2, rfl, Ext.setAt (Ext.setAt (Ext.setAt (Ext.setAt hx _ _ _ (Nat.le_refl _)) _ _ _ (Nat.le_refl _)) _ _ _ (Nat.le_refl _)) _ _ _ (Nat.le_refl _), own_base (own_four h1 (by omega) _ _ _ _) (by omega), own_base (own_four h2 (by omega) _ _ _ _) (by omega), hp.1, hp.2⟩
end Go.Proofs.YtpohhnihgegmfaaDoor

namespace Go.Proofs.YtpohhnihgegmfaaDoor
open Go.RowKit
set_option linter.unusedVariables false
set_option linter.unusedSimpArgs false

/-- what the library's listed variables hold, whatever is made new -/
structure Gl (w : World) : Prop where
  tab : Tab w
  ml : ∃ m : Int, ∀ w', Ext w w' → w'.cell? ⟨0, 0, none⟩ = some (.int .i64 m)
  es : ∃ ev, (ev = .nilIface ∨ ∃ tp pe, ev = .iface tp pe) ∧ ∀ w', Ext w w' → w'.cell? ⟨1, 0, none⟩ = some ev
  er : ∃ ev, (ev = .nilIface ∨ ∃ tp pe, ev = .iface tp pe) ∧ ∀ w', Ext w w' → w'.cell? ⟨2, 0, none⟩ = some ev
theorem Gl.ext {w w' : World} (h : Gl w) (x : Ext w w') : Gl w' := by
  obtain ⟨m, hm⟩ := h.ml
  obtain ⟨e1, h1, k1⟩ := h.es
  obtain ⟨e2, h2, k2⟩ := h.er
  exact ⟨h.tab.ext x, ⟨m, fun w2 x2 => hm w2 (Ext.trans x x2)⟩, ⟨e1, h1, fun w2 x2 => k1 w2 (Ext.trans x x2)⟩, ⟨e2, h2, fun w2 x2 => k2 w2 (Ext.trans x x2)⟩⟩
theorem ext_bworld {w w' : World} {T : TypeId} (h : w' = w ∨ ∃ t, w' = Lib.bytesWorld w T t) : Ext w w' := by
  rcases h with rfl | ⟨t, rfl⟩
  · exact Ext.refl _
  · exact Lib.bytesWorld_below _ _ _
theorem trim_c (s : ByteArray) (w : World) : Calls Tryd.prog 33 #[.string s, .string ⟨#[45]⟩] w fun e w' => e = .returned (.string ⟨(mag s.data.toList).toArray⟩) ∧ w = w' :=
  (Tryd.strings_TrimPrefix s ⟨#[45]⟩ w).mono fun e w' ⟨h1, h2⟩ => ⟨h1, h2.symm⟩
set_option maxRecDepth 100000 in
set_option maxHeartbeats 2000000 in
theorem implReadDecimal_c (s : ByteArray) (w : World) (hs : s.size ≤ 1048576) (hg : Gl w) {x : Int} {b : Bool} (r : RdR s.data.toList x b) :
    Calls Tryd.prog 15 #[.string s] w fun e w' => e = .returned (.tuple #[.int .i64 x, .bool b]) ∧ Ext w w' := by
  have HG := Lib.hid hg
  have HR := Lib.hid r
  obtain ⟨T, hT⟩ : ∃ T, T = mag s.data.toList := ⟨_, rfl⟩
  have HM := Lib.hid (fun W => (hT ▸ trim_c s W : Calls Tryd.prog 33 #[.string s, .string ⟨#[45]⟩] W fun e w' => e = .returned (.string ⟨T.toArray⟩) ∧ W = w'))
  have HT := Lib.hid hT
  clear hT hg r
  by_cases h1 : 1 ≤ T.length ∧ T.length ≤ 18
  · have x1 : ¬ (T.length : Int) < 1 := by omega
    have x2 : ¬ (18 : Int) < (T.length : Int) := by omega
    have sz : s.size ≤ 281474976710656 := by omega
    cases hp : Lib.parseIntB 64 s.data.toList with
    | ok v =>
      have HP := Lib.hid hp
      have hv := Lib.parseIntB_bounds hp
      have e4 : (2 : Nat) ^ (64 - 1) = 9223372036854775808 := by decide
      rw [e4] at hv
      obtain ⟨A, hA⟩ : ∃ A, A = Lib.itoa v := ⟨_, rfl⟩
      have HD := Lib.hid (fun (W : World) (hq : Ext w W) => (show Calls Tryd.prog 35 #[.int .i64 v] W (fun e w' => e = .returned (.string ⟨A.toArray⟩) ∧ Ext W w') from by rw [hA]; exact decimal_c v W (by omega) (by omega) (HG.out.tab.ext hq)))
      have HA := Lib.hid hA
      by_cases hq : A = s.data.toList
      · obtain rfl : s = ⟨A.toArray⟩ := by apply ByteArray.ext; rw [hq]
        obtain rfl : b = true := by
          cases b
          · exact absurd (by rw [← HA.out]) ((HR.out.no rfl).2 v (sm_of (by rw [← hA]) (by rw [← HT.out]; exact h1.2)))
          · rfl
        obtain rfl : x = v := itoa_inj ((HR.out.yes rfl).1.trans (by rw [← HA.out]))
        clear hq hA hp
        go_enter Tryd.func15, Tryd.ntmps15
        go_wp2_with (go_at_call 33; ((with_reducible refine (HM.out _).mono ?_); rintro e w' ⟨rfl, rfl⟩))
        refine (Tryd.strconv_ParseInt_10_at64_ok _ (by omega) x HP.out _).mono ?_
        rintro e w1 ⟨rfl, hx1⟩
        have e1 := ext_bworld hx1
        clear hx1
        go_wp2_with (go_at_call 35; ((with_reducible refine (HD.out _ (by repeat (first | with_reducible exact Ext.refl _ | with_reducible assumption | with_reducible refine Ext.alloc ?_ _ | with_reducible refine Ext.drew ?_ | (with_reducible refine Ext.setAt ?_ _ _ _ ?_; rotate_left; omega) | with_reducible refine Ext.trans ?_ (by assumption) | with_reducible exact Past.bel _ | with_reducible refine Ext.trans ?_ (Past.bel _)))).mono ?_); rintro e w' ⟨rfl, hx⟩; (first | (obtain ⟨wx, rfl⟩ := Past.again hx) | (obtain ⟨wx, rfl⟩ := Past.ofd hx) | (obtain ⟨wx, rfl⟩ := Past.of hx))))
        go_ret2
        exact ⟨rfl, (by repeat (first | with_reducible exact Ext.refl _ | with_reducible assumption | with_reducible refine Ext.alloc ?_ _ | with_reducible refine Ext.drew ?_ | (with_reducible refine Ext.setAt ?_ _ _ _ ?_; rotate_left; omega) | with_reducible refine Ext.trans ?_ (by assumption) | with_reducible exact Past.bel _ | with_reducible refine Ext.trans ?_ (Past.bel _)))⟩
      · obtain rfl : b = false := by
          cases b
          · rfl
          · have h2 := (HR.out.yes rfl)
            have h3 := parse_itoa h2.2
            rw [h2.1, hp] at h3
            injection h3 with h3
            exact absurd (by rw [hA, h3, h2.1]) hq
        obtain ⟨rfl, -⟩ := HR.out.no rfl
        have hne : (A == s.toList) = false := by rw [ByteArray.toList_eq]; simpa using hq
        have HQ := Lib.hid hq
        clear hq hA hp
        go_enter Tryd.func15, Tryd.ntmps15
        go_wp2_with (go_at_call 33; ((with_reducible refine (HM.out _).mono ?_); rintro e w' ⟨rfl, rfl⟩))
        refine (Tryd.strconv_ParseInt_10_at64_ok _ (by omega) v HP.out _).mono ?_
        rintro e w1 ⟨rfl, hx1⟩
        have e1 := ext_bworld hx1
        clear hx1
        go_wp2_with (go_at_call 35; ((with_reducible refine (HD.out _ (by repeat (first | with_reducible exact Ext.refl _ | with_reducible assumption | with_reducible refine Ext.alloc ?_ _ | with_reducible refine Ext.drew ?_ | (with_reducible refine Ext.setAt ?_ _ _ _ ?_; rotate_left; omega) | with_reducible refine Ext.trans ?_ (by assumption) | with_reducible exact Past.bel _ | with_reducible refine Ext.trans ?_ (Past.bel _)))).mono ?_); rintro e w' ⟨rfl, hx⟩; (first | (obtain ⟨wx, rfl⟩ := Past.again hx) | (obtain ⟨wx, rfl⟩ := Past.ofd hx) | (obtain ⟨wx, rfl⟩ := Past.of hx))))
        go_ret2
        exact ⟨rfl, (by repeat (first | with_reducible exact Ext.refl _ | with_reducible assumption | with_reducible refine Ext.alloc ?_ _ | with_reducible refine Ext.drew ?_ | (with_reducible refine Ext.setAt ?_ _ _ _ ?_; rotate_left; omega) | with_reducible refine Ext.trans ?_ (by assumption) | with_reducible exact Past.bel _ | with_reducible refine Ext.trans ?_ (Past.bel _)))⟩
    | range =>
      obtain rfl : b = false := by
        cases b
        · rfl
        · have h2 := (HR.out.yes rfl)
          have h3 := parse_itoa h2.2
          rw [h2.1, hp] at h3
          cases h3
      obtain ⟨rfl, -⟩ := HR.out.no rfl
      obtain ⟨ev, hev, hce⟩ := HG.out.er
      have HP := Lib.hid (fun W (hq : Ext w W) => Tryd.strconv_ParseInt_10_at64_range s sz hp ev W (hce W hq) hev)
      clear hp hce hev
      go_enter Tryd.func15, Tryd.ntmps15
      go_wp2_with (go_at_call 33; ((with_reducible refine (HM.out _).mono ?_); rintro e w' ⟨rfl, rfl⟩))
      refine (HP.out _ (Ext.refl _)).mono ?_
      rintro e w1 ⟨N, rfl, -, -, e1⟩
      have e1 : Ext w w1 := e1
      go_wp2_with fail
      go_ret2
      exact ⟨rfl, e1⟩
    | _ =>
      obtain rfl : b = false := by
        cases b
        · rfl
        · have h2 := (HR.out.yes rfl)
          have h3 := parse_itoa h2.2
          rw [h2.1, hp] at h3
          cases h3
      obtain ⟨rfl, -⟩ := HR.out.no rfl
      obtain ⟨ev, hev, hce⟩ := HG.out.es
      have HP := Lib.hid (fun W (hq : Ext w W) => Tryd.strconv_ParseInt_10_at64_bad s sz _ (by intro v hv; cases hv) (by intro hv; cases hv) hp ev W (hce W hq) hev)
      clear hp hce hev
      go_enter Tryd.func15, Tryd.ntmps15
      go_wp2_with (go_at_call 33; ((with_reducible refine (HM.out _).mono ?_); rintro e w' ⟨rfl, rfl⟩))
      refine (HP.out _ (Ext.refl _)).mono ?_
      rintro e w1 ⟨N, rfl, -, -, e1⟩
      have e1 : Ext w w1 := e1
      go_wp2_with fail
      go_ret2
      exact ⟨rfl, e1⟩
  · obtain rfl : b = false := by
      cases b
      · rfl
      · have h2 := (HR.out.yes rfl)
        have h3 := sm_mag h2.2 h2.1
        rw [← HT.out] at h3
        exact absurd h3.2 h1
    obtain ⟨rfl, -⟩ := HR.out.no rfl
    by_cases h2 : T.length < 1
    · have x1 : (T.length : Int) < 1 := by omega
      clear h1 h2
      go_enter Tryd.func15, Tryd.ntmps15
      go_wp2_with (go_at_call 33; ((with_reducible refine (HM.out _).mono ?_); rintro e w' ⟨rfl, rfl⟩))
      go_ret2
      exact ⟨rfl, (by repeat (first | with_reducible exact Ext.refl _ | with_reducible assumption | with_reducible refine Ext.alloc ?_ _ | with_reducible refine Ext.drew ?_ | (with_reducible refine Ext.setAt ?_ _ _ _ ?_; rotate_left; omega) | with_reducible refine Ext.trans ?_ (by assumption) | with_reducible exact Past.bel _ | with_reducible refine Ext.trans ?_ (Past.bel _)))⟩
    · have x1 : ¬ (T.length : Int) < 1 := by omega
      have x2 : (18 : Int) < (T.length : Int) := by omega
      clear h1 h2
      go_enter Tryd.func15, Tryd.ntmps15
      go_wp2_with (go_at_call 33; ((with_reducible refine (HM.out _).mono ?_); rintro e w' ⟨rfl, rfl⟩))
      go_ret2
      exact ⟨rfl, (by repeat (first | with_reducible exact Ext.refl _ | with_reducible assumption | with_reducible refine Ext.alloc ?_ _ | with_reducible refine Ext.drew ?_ | (with_reducible refine Ext.setAt ?_ _ _ _ ?_; rotate_left; omega) | with_reducible refine Ext.trans ?_ (by assumption) | with_reducible exact Past.bel _ | with_reducible refine Ext.trans ?_ (Past.bel _)))⟩
end Go.Proofs.YtpohhnihgegmfaaDoor

namespace Go.Proofs.YtpohhnihgegmfaaDoor
open Go.RowKit
set_option linter.unusedVariables false
set_option linter.unusedSimpArgs false

theorem tmod_bd {a b : Int} (ha : 0 ≤ a) (hb : 0 < b) : a % b = a.tmod b ∧ 0 ≤ a % b ∧ a % b < b := ⟨by rw [Int.tmod_eq_emod_of_nonneg ha], Int.emod_nonneg _ (by omega), Int.emod_lt_of_pos _ hb⟩
set_option maxHeartbeats 400000 in
theorem l02Gcd_c (a b : Int) (w : World) (ha : 0 ≤ a) (hb : 0 ≤ b) (ha' : a ≤ 1000000000000) (hb' : b ≤ 1000000000000) :
    Calls Tryd.prog 81 #[.int .i64 a, .int .i64 b] w fun e w' => e = .returned (.int .i64 (gcdI a b)) ∧ w = w' := by
  go_enter Tryd.func81, Tryd.ntmps81
  go_wp2_with fail
  go_loop [0, 1] (fun x y => ∃ p q : Int, x = .int .i64 p ∧ y = .int .i64 q ∧ 0 ≤ p ∧ p ≤ 1000000000000 ∧ 0 ≤ q ∧ q ≤ 1000000000000 ∧ gcdI p q = gcdI a b) (fun _ y => (intOf y).toNat)
  case atStart => exact ⟨a, b, rfl, rfl, ha, ha', hb, hb', rfl⟩
  case round =>
    obtain ⟨p, q, rfl, rfl, p0, p1, q0, q1, hg⟩ := hrel
    have HG := Lib.hid hg
    clear hg
    by_cases h : 0 < q
    · obtain ⟨t0, t1, t2⟩ := tmod_bd p0 h
      have hs := gcdI_step p0 h
      rw [← t0] at hs
      have HSS := Lib.hid hs
      clear hs t0
      go_wp2_with fail
      exact ⟨⟨q, p % q, rfl, by go_num, by omega, by omega, by omega, by omega, HSS.out.trans HG.out⟩, by simp [intOf]; omega⟩
    · obtain rfl : q = 0 := by omega
      go_wp2_with fail
      go_ret
      exact ⟨ret_i64 (by rw [← HG.out, gcdI_zero p0]), rfl⟩
set_option maxHeartbeats 400000 in
theorem gcd_c (a b : Int) (w : World) (ha : 0 ≤ a) (hb : 0 ≤ b) (ha' : a ≤ 1000000000000) (hb' : b ≤ 1000000000000) :
    Calls Tryd.prog 68 #[.int .i64 a, .int .i64 b] w fun e w' => e = .returned (.int .i64 (gcdI a b)) ∧ Ext w w' := by
  go_enter Tryd.func68, Tryd.ntmps68
  go_wp2_with fail
  go_loopw [0, 1] (fun x y wr => ∃ p q : Int, x = .int .i64 p ∧ y = .int .i64 q ∧ 0 ≤ p ∧ p ≤ 1000000000000 ∧ 0 ≤ q ∧ q ≤ 1000000000000 ∧ Ext w wr ∧ gcdI p q = gcdI a b) (fun _ y _ => (intOf y).toNat)
  case atStart => exact ⟨a, b, rfl, rfl, ha, ha', hb, hb', (by repeat (first | with_reducible exact Ext.refl _ | with_reducible assumption | with_reducible refine Ext.alloc ?_ _ | with_reducible refine Ext.drew ?_ | (with_reducible refine Ext.setAt ?_ _ _ _ ?_; rotate_left; omega) | with_reducible refine Ext.trans ?_ (by assumption) | with_reducible exact Past.bel _ | with_reducible refine Ext.trans ?_ (Past.bel _))), rfl⟩
  case round =>
    obtain ⟨p, q, rfl, rfl, p0, p1, q0, q1, hbl, hg⟩ := hrel
    have HG := Lib.hid hg
    clear hg
    by_cases h : q = 0
    · subst h
      have x0 : ¬ p < 0 := by omega
      go_wp2_with fail
      go_ret
      exact ⟨ret_i64 (by rw [← HG.out, gcdI_zero p0]), (by repeat (first | with_reducible exact Ext.refl _ | with_reducible assumption | with_reducible refine Ext.alloc ?_ _ | with_reducible refine Ext.drew ?_ | (with_reducible refine Ext.setAt ?_ _ _ _ ?_; rotate_left; omega) | with_reducible refine Ext.trans ?_ (by assumption) | with_reducible exact Past.bel _ | with_reducible refine Ext.trans ?_ (Past.bel _)))⟩
    · have h' : 0 < q := by omega
      obtain ⟨t0, t1, t2⟩ := tmod_bd p0 h'
      have hs := gcdI_step p0 h'
      rw [← t0] at hs
      have HSS := Lib.hid hs
      have e0 : (q != 0) = true := by simpa using h
      clear hs t0 h
      go_wp2_with fail
      refine wp_region_past (by kernel_rfl) (by kernel_rfl) ?_
      repeat (go_big_quiet_step (fail))
      refine wpQuiet_nil ?_
      rintro _ ⟨wx, rfl⟩
      go_wp2_with fail
      exact ⟨⟨q, p % q, rfl, by go_num, by omega, by omega, by omega, by omega, (by repeat (first | with_reducible exact Ext.refl _ | with_reducible assumption | with_reducible refine Ext.alloc ?_ _ | with_reducible refine Ext.drew ?_ | (with_reducible refine Ext.setAt ?_ _ _ _ ?_; rotate_left; omega) | with_reducible refine Ext.trans ?_ (by assumption) | with_reducible exact Past.bel _ | with_reducible refine Ext.trans ?_ (Past.bel _))), HSS.out.trans HG.out⟩, by simp [intOf]; omega⟩
end Go.Proofs.YtpohhnihgegmfaaDoor

namespace Go.Proofs.YtpohhnihgegmfaaDoor
open Go.RowKit
set_option linter.unusedVariables false
set_option linter.unusedSimpArgs false

theorem tdiv_nn {a b : Int} (ha : 0 ≤ a) : a.tdiv b = a / b := Int.tdiv_eq_ediv_of_nonneg ha
set_option maxHeartbeats 1000000 in
theorem cycleYears_c (a : Option Addr) (n c : Nat) (ev rs : Nat → Int) (lf : Nat → Bool) (w : World) (hn : n ≤ 1048576) (hs : R3 w a n ev rs lf) (he : ∀ j, j < n → 1 ≤ ev j ∧ ev j ≤ 1000) :
    Calls Tryd.prog 46 #[.slice a n c] w fun e w' => e = .returned (.int .i64 (cyY ev n)) ∧ Ext w w' := by
  have HS := Lib.hid hs
  have HE := Lib.hid he
  clear hs he
  go_enter Tryd.func46, Tryd.ntmps46
  go_wp2_with fail
  go_loopw [3, 8] (fun y i wr => ∃ j : Nat, j ≤ n ∧ i = .int .i64 j ∧ y = .int .i64 (cyY ev j) ∧ Ext w wr) (fun _ i _ => n - (intOf i).toNat)
  case atStart => exact ⟨0, by omega, rfl, rfl, (by repeat (first | with_reducible exact Ext.refl _ | with_reducible assumption | with_reducible refine Ext.alloc ?_ _ | with_reducible refine Ext.drew ?_ | (with_reducible refine Ext.setAt ?_ _ _ _ ?_; rotate_left; omega) | with_reducible refine Ext.trans ?_ (by assumption) | with_reducible exact Past.bel _ | with_reducible refine Ext.trans ?_ (Past.bel _)))⟩
  case round =>
    obtain ⟨j, hj, rfl, rfl, hbl⟩ := hrel
    by_cases hlt : j < n
    · obtain ⟨b1, o1, rfl, hb1, q1, q2, q3⟩ := (R3.ext HS.out hbl).at hlt
      obtain ⟨y0, y1, g0, d0, d1, p0, p1⟩ := cyS (ev := ev) (k := j) fun i hi => HE.out i (by omega)
      have e1 := HE.out j hlt
      by_cases h2 : cyY ev j ≤ 2000
      · have st : cyY ev (j + 1) = cyY ev j / gcdI (cyY ev j) (ev j) * ev j := by simp only [cyY]; rw [if_pos h2]
        have ST := Lib.hid st
        obtain ⟨Y, hY⟩ : ∃ Y, Y = cyY ev j := ⟨_, rfl⟩
        rw [← hY] at y0 y1 g0 d0 d1 p0 p1 h2 ⊢
        obtain ⟨G, hG⟩ : ∃ G, G = gcdI Y (ev j) := ⟨_, rfl⟩
        rw [← hG] at g0 d0 d1 p0 p1
        have w1 := IntWalk.i64_in (Y / G) (by have := d1 h2; omega)
        have w2 := IntWalk.i64_in (Y / G * ev j) (by have := p1 h2; omega)
        have t1 : Y.tdiv G = Y / G := tdiv_nn (by omega)
        have cg : ∀ W, Calls Tryd.prog 68 #[.int .i64 Y, .int .i64 (ev j)] W fun e w' => e = .returned (.int .i64 G) ∧ Ext W w' := fun W => by
          rw [hG]; exact gcd_c _ _ _ (by omega) (by omega) (by omega) (by omega)
        have CG := Lib.hid cg
        have HY := Lib.hid hY
        have HG := Lib.hid hG
        clear st cg hY hG
        go_wp2_with fail
        refine wp_region_past (by kernel_rfl) (by kernel_rfl) ?_
        repeat (go_big_quiet_step ((go_at_call 68; exact Calls.past (CG.out _))))
        refine wpQuiet_nil ?_
        rintro _ ⟨wx, rfl⟩
        go_wp2_with fail
        exact ⟨⟨j + 1, by omega, by go_num, congrArg _ (by rw [ST.out, ← HY.out, ← HG.out]), (by repeat (first | with_reducible exact Ext.refl _ | with_reducible assumption | with_reducible refine Ext.alloc ?_ _ | with_reducible refine Ext.drew ?_ | (with_reducible refine Ext.setAt ?_ _ _ _ ?_; rotate_left; omega) | with_reducible refine Ext.trans ?_ (by assumption) | with_reducible exact Past.bel _ | with_reducible refine Ext.trans ?_ (Past.bel _)))⟩, by simp [intOf]; omega⟩
      · have st : cyY ev (j + 1) = cyY ev j := by simp only [cyY]; rw [if_neg h2]
        have ST := Lib.hid st
        clear st
        go_wp2_with fail
        exact ⟨⟨j + 1, by omega, by go_num, by rw [ST.out], (by repeat (first | with_reducible exact Ext.refl _ | with_reducible assumption | with_reducible refine Ext.alloc ?_ _ | with_reducible refine Ext.drew ?_ | (with_reducible refine Ext.setAt ?_ _ _ _ ?_; rotate_left; omega) | with_reducible refine Ext.trans ?_ (by assumption) | with_reducible exact Past.bel _ | with_reducible refine Ext.trans ?_ (Past.bel _)))⟩, by simp [intOf]; omega⟩
    · obtain rfl : j = n := by omega
      go_wp2_with fail
      go_ret
      exact ⟨rfl, (by repeat (first | with_reducible exact Ext.refl _ | with_reducible assumption | with_reducible refine Ext.alloc ?_ _ | with_reducible refine Ext.drew ?_ | (with_reducible refine Ext.setAt ?_ _ _ _ ?_; rotate_left; omega) | with_reducible refine Ext.trans ?_ (by assumption) | with_reducible exact Past.bel _ | with_reducible refine Ext.trans ?_ (Past.bel _)))⟩
end Go.Proofs.YtpohhnihgegmfaaDoor

namespace Go.Proofs.YtpohhnihgegmfaaDoor
open Go.RowKit
set_option linter.unusedVariables false
set_option linter.unusedSimpArgs false

end Go.Proofs.YtpohhnihgegmfaaDoor

namespace Go.Proofs.YtpohhnihgegmfaaDoor
open Go.RowKit
set_option linter.unusedVariables false
set_option linter.unusedSimpArgs false

end Go.Proofs.YtpohhnihgegmfaaDoor

namespace Go.Proofs.YtpohhnihgegmfaaDoor
open Go.RowKit
set_option linter.unusedVariables false
set_option linter.unusedSimpArgs false

end Go.Proofs.YtpohhnihgegmfaaDoor

namespace Go.Proofs.YtpohhnihgegmfaaDoor
open Go.RowKit
set_option linter.unusedVariables false
set_option linter.unusedSimpArgs false

end Go.Proofs.YtpohhnihgegmfaaDoor

namespace Go.Proofs.YtpohhnihgegmfaaDoor
open Go.RowKit
set_option linter.unusedVariables false
set_option linter.unusedSimpArgs false

theorem yl_if (c : CalN) (y : Int) : c.yl y = if c.leap y then sm c.lp c.n else sm c.dy c.n := by
  unfold CalN.yl CalN.mo
  cases c.leap y <;> rfl
end Go.Proofs.YtpohhnihgegmfaaDoor

namespace Go.Proofs.YtpohhnihgegmfaaDoor
open Go.RowKit
set_option linter.unusedVariables false
set_option linter.unusedSimpArgs false

/-- a calendar behind a pointer: its cells in block g -/
structure CalP (w : World) (g : Nat) (s : ByteArray) (ma ra : Option Addr) (mc rc : Nat) (wk : Int) (nm : Nat → ByteArray) (c : CalN) : Prop where
  lt : g < w.heap.size
  c0 : w.cell? ⟨g, 0, none⟩ = some (.string s)
  c1 : w.cell? ⟨g, 1, none⟩ = some (.slice ma c.n mc)
  c2 : w.cell? ⟨g, 2, none⟩ = some (.slice ra c.nr rc)
  c3 : w.cell? ⟨g, 3, none⟩ = some (.int .i64 wk)
  mem : CalM w ma ra nm c
theorem CalP.ext {w w' : World} {g : Nat} {s : ByteArray} {ma ra : Option Addr} {mc rc : Nat} {wk : Int} {nm : Nat → ByteArray} {c : CalN} (h : CalP w g s ma ra mc rc wk nm c) (e : Ext w w') : CalP w' g s ma ra mc rc wk nm c :=
  ⟨Nat.lt_of_lt_of_le h.lt e.size, (e.cell h.lt).trans h.c0, (e.cell h.lt).trans h.c1, (e.cell h.lt).trans h.c2, (e.cell h.lt).trans h.c3, h.mem.ext e⟩
end Go.Proofs.YtpohhnihgegmfaaDoor

namespace Go.Proofs.YtpohhnihgegmfaaDoor
open Go.RowKit
set_option linter.unusedVariables false
set_option linter.unusedSimpArgs false

end Go.Proofs.YtpohhnihgegmfaaDoor

namespace Go.Proofs.YtpohhnihgegmfaaDoor
set_option linter.unusedVariables false
/-- the rules are valid -/
def rulB (ev rs : Nat → Int) (n : Nat) : Bool := rulTo ev rs n && decide (cyY ev n ≤ 2000) && decide (n ≤ 6)
theorem rulB_bad {ev rs : Nat → Int} {n k : Nat} (hk : k < n) (hb : (inB (ev k) 1 1000 && inB (rs k) 0 (ev k - 1)) = false) : rulB ev rs n = false := by rw [rulB, rulTo_ff hk hb]; rfl
theorem rulB_many {ev rs : Nat → Int} {n k : Nat} (hk : k ≤ n) (h : 2000 < cyY ev k) : rulB ev rs n = false := by
  have := cyY_stuck h n hk
  simp only [rulB, show decide (cyY ev n ≤ 2000) = false by simpa using this, Bool.and_false, Bool.false_and]
/-- what l15Years returns -/
structure YrR (ev rs : Nat → Int) (n : Nat) (x : Int) (b : Bool) : Prop where
  ok : b = rulB ev rs n
  yr : b = true → x = cyY ev n
end Go.Proofs.YtpohhnihgegmfaaDoor

namespace Go.Proofs.YtpohhnihgegmfaaDoor
open Go.RowKit
set_option linter.unusedVariables false
set_option linter.unusedSimpArgs false

set_option maxHeartbeats 2000000 in
theorem l15Years_c (a : Option Addr) (n c : Nat) (ev rs : Nat → Int) (lf : Nat → Bool) (w : World) (hn : n ≤ 1048576) (hs : R3 w a n ev rs lf) :
    Calls Tryd.prog 62 #[.slice a n c] w fun e w' => ∃ x b, e = .returned (.tuple #[.int .i64 x, .bool b]) ∧ YrR ev rs n x b ∧ Ext w w' := by
  have HS := Lib.hid hs
  clear hs
  go_enter Tryd.func62, Tryd.ntmps62
  go_wp2_with fail
  go_loopw [4, 5] (fun y i wr => ∃ j : Nat, j ≤ n ∧ i = .int .i64 j ∧ y = .int .i64 (cyY ev j) ∧ rulTo ev rs j = true ∧ cyY ev j ≤ 2000 ∧ Ext w wr) (fun _ i _ => n - (intOf i).toNat)
  case atStart => exact ⟨0, by omega, rfl, rfl, rfl, by simp [cyY], (by repeat (first | with_reducible exact Ext.refl _ | with_reducible assumption | with_reducible refine Ext.alloc ?_ _ | with_reducible refine Ext.drew ?_ | (with_reducible refine Ext.setAt ?_ _ _ _ ?_; rotate_left; omega) | with_reducible refine Ext.trans ?_ (by assumption) | with_reducible exact Past.bel _ | with_reducible refine Ext.trans ?_ (Past.bel _)))⟩
  case round =>
    obtain ⟨j, hj, rfl, rfl, hr, h2, hbl⟩ := hrel
    have HR := Lib.hid hr
    clear hr
    by_cases hlt : j < n
    · obtain ⟨b1, o1, rfl, hb1, q1, q2, q3⟩ := (R3.ext HS.out hbl).at hlt
      by_cases t1 : inB (ev j) 1 1000 = true
      · have t1' := inB_t.1 t1
        by_cases t2 : inB (rs j) 0 (ev j - 1) = true
        · have he : ∀ i, i < j + 1 → 1 ≤ ev i ∧ ev i ≤ 1000 := fun i hi => by
            by_cases e : i = j
            · subst e; exact t1'
            · exact (rulTo_at HR.out (show i < j by omega)).1
          obtain ⟨y0, y1, g0, d0, d1, p0, p1⟩ := cyS (ev := ev) (k := j) he
          have st : cyY ev (j + 1) = cyY ev j / gcdI (cyY ev j) (ev j) * ev j := by simp only [cyY]; rw [if_pos h2]
          have hr1 : rulTo ev rs (j + 1) = true := by simp only [rulTo, HR.out, t1, t2]; rfl
          have ST := Lib.hid st
          have HR1 := Lib.hid hr1
          obtain ⟨Y, hY⟩ : ∃ Y, Y = cyY ev j := ⟨_, rfl⟩
          rw [← hY] at y0 y1 g0 d0 d1 p0 p1 h2 ⊢
          obtain ⟨G, hG⟩ : ∃ G, G = gcdI Y (ev j) := ⟨_, rfl⟩
          rw [← hG] at g0 d0 d1 p0 p1
          have w1 := IntWalk.i64_in (Y / G) (by have := d1 h2; omega)
          have w2 := IntWalk.i64_in (Y / G * ev j) (by have := p1 h2; omega)
          have u1 : Y.tdiv G = Y / G := tdiv_nn (by omega)
          have cg : ∀ W, Calls Tryd.prog 81 #[.int .i64 Y, .int .i64 (ev j)] W fun e w' => e = .returned (.int .i64 G) ∧ W = w' := fun W => by
            rw [hG]; exact l02Gcd_c _ _ _ (by omega) (by omega) (by omega) (by omega)
          have CG := Lib.hid cg
          have HY := Lib.hid hY
          have HG := Lib.hid hG
          have hz : Y / G * ev j = cyY ev (j + 1) := by rw [st, ← hY, ← hG]
          have HZ := Lib.hid hz
          clear st cg hY hG hr1 hz he
          by_cases hbig : 2000 < Y / G * ev j
          · go_wp2_with fail
            refine wp_region_past (by kernel_rfl) (by kernel_rfl) ?_
            repeat (go_big_quiet_step ((go_at_call 37; exact Calls.past_same (l00In_c _ _ _ _))))
            refine wpQuiet_nil ?_
            rintro _ ⟨wx, rfl⟩
            go_wp2_with fail
            refine wp_region_past (by kernel_rfl) (by kernel_rfl) ?_
            repeat (go_big_quiet_step ((go_at_call 81; exact Calls.past_same (CG.out _))))
            refine wpQuiet_nil ?_
            rintro _ ⟨wx, rfl⟩
            go_wp2_with fail
            go_ret2
            exact ⟨_, _, rfl, ⟨(rulB_many (k := j + 1) (by omega) (by rw [← HZ.out]; exact hbig)).symm, fun e => by cases e⟩, (by repeat (first | with_reducible exact Ext.refl _ | with_reducible assumption | with_reducible refine Ext.alloc ?_ _ | with_reducible refine Ext.drew ?_ | (with_reducible refine Ext.setAt ?_ _ _ _ ?_; rotate_left; omega) | with_reducible refine Ext.trans ?_ (by assumption) | with_reducible exact Past.bel _ | with_reducible refine Ext.trans ?_ (Past.bel _)))⟩
          · go_wp2_with fail
            refine wp_region_past (by kernel_rfl) (by kernel_rfl) ?_
            repeat (go_big_quiet_step ((go_at_call 37; exact Calls.past_same (l00In_c _ _ _ _))))
            refine wpQuiet_nil ?_
            rintro _ ⟨wx, rfl⟩
            go_wp2_with fail
            refine wp_region_past (by kernel_rfl) (by kernel_rfl) ?_
            repeat (go_big_quiet_step ((go_at_call 81; exact Calls.past_same (CG.out _))))
            refine wpQuiet_nil ?_
            rintro _ ⟨wx, rfl⟩
            go_wp2_with fail
            exact ⟨⟨j + 1, by omega, by go_num, by rw [HZ.out], HR1.out, by rw [← HZ.out]; omega, (by repeat (first | with_reducible exact Ext.refl _ | with_reducible assumption | with_reducible refine Ext.alloc ?_ _ | with_reducible refine Ext.drew ?_ | (with_reducible refine Ext.setAt ?_ _ _ _ ?_; rotate_left; omega) | with_reducible refine Ext.trans ?_ (by assumption) | with_reducible exact Past.bel _ | with_reducible refine Ext.trans ?_ (Past.bel _)))⟩, by simp [intOf]; omega⟩
        · have t3 : inB (rs j) 0 (ev j - 1) = false := by simpa using t2
          clear t2
          go_wp2_with fail
          refine wp_region_past (by kernel_rfl) (by kernel_rfl) ?_
          repeat (go_big_quiet_step ((go_at_call 37; exact Calls.past_same (l00In_c _ _ _ _))))
          refine wpQuiet_nil ?_
          rintro _ ⟨wx, rfl⟩
          go_wp2_with fail
          go_ret2
          exact ⟨_, _, rfl, ⟨(rulB_bad hlt (by simp [t3])).symm, fun e => by cases e⟩, (by repeat (first | with_reducible exact Ext.refl _ | with_reducible assumption | with_reducible refine Ext.alloc ?_ _ | with_reducible refine Ext.drew ?_ | (with_reducible refine Ext.setAt ?_ _ _ _ ?_; rotate_left; omega) | with_reducible refine Ext.trans ?_ (by assumption) | with_reducible exact Past.bel _ | with_reducible refine Ext.trans ?_ (Past.bel _)))⟩
      · have t3 : inB (ev j) 1 1000 = false := by simpa using t1
        clear t1
        go_wp2_with fail
        refine wp_region_past (by kernel_rfl) (by kernel_rfl) ?_
        repeat (go_big_quiet_step ((go_at_call 37; exact Calls.past_same (l00In_c _ _ _ _))))
        refine wpQuiet_nil ?_
        rintro _ ⟨wx, rfl⟩
        go_wp2_with fail
        go_ret2
        exact ⟨_, _, rfl, ⟨(rulB_bad hlt (by simp [t3])).symm, fun e => by cases e⟩, (by repeat (first | with_reducible exact Ext.refl _ | with_reducible assumption | with_reducible refine Ext.alloc ?_ _ | with_reducible refine Ext.drew ?_ | (with_reducible refine Ext.setAt ?_ _ _ _ ?_; rotate_left; omega) | with_reducible refine Ext.trans ?_ (by assumption) | with_reducible exact Past.bel _ | with_reducible refine Ext.trans ?_ (Past.bel _)))⟩
    · obtain rfl : j = n := by omega
      by_cases h6 : j ≤ 6
      · have x6 : (j : Int) ≤ 6 := by omega
        go_wp2_with fail
        go_ret2
        exact ⟨_, _, rfl, ⟨by simp [rulB, HR.out, h2, h6], fun _ => rfl⟩, (by repeat (first | with_reducible exact Ext.refl _ | with_reducible assumption | with_reducible refine Ext.alloc ?_ _ | with_reducible refine Ext.drew ?_ | (with_reducible refine Ext.setAt ?_ _ _ _ ?_; rotate_left; omega) | with_reducible refine Ext.trans ?_ (by assumption) | with_reducible exact Past.bel _ | with_reducible refine Ext.trans ?_ (Past.bel _)))⟩
      · have x6 : ¬ (j : Int) ≤ 6 := by omega
        go_wp2_with fail
        go_ret2
        exact ⟨_, .inl ⟨rfl, ⟨by simp [rulB, h6], fun e => by cases e⟩, (by repeat (first | with_reducible exact Ext.refl _ | with_reducible assumption | with_reducible refine Ext.alloc ?_ _ | with_reducible refine Ext.drew ?_ | (with_reducible refine Ext.setAt ?_ _ _ _ ?_; rotate_left; omega) | with_reducible refine Ext.trans ?_ (by assumption) | with_reducible exact Past.bel _ | with_reducible refine Ext.trans ?_ (Past.bel _)))⟩⟩
end Go.Proofs.YtpohhnihgegmfaaDoor

namespace Go.Proofs.YtpohhnihgegmfaaDoor
set_option linter.unusedVariables false
/-- byte i of a text, as a number -/
def btN (s : ByteArray) (i : Nat) : Nat := (s.data.toList.getD i 0).toNat
/-- byte c may stand at place i of a name -/
def chN (i c : Nat) : Bool := decide ((97 ≤ c ∧ c ≤ 122) ∨ (i ≠ 0 ∧ ((48 ≤ c ∧ c ≤ 57) ∨ c = 45)))
def nmTo (s : ByteArray) : Nat → Bool
  | 0 => true
  | k + 1 => nmTo s k && chN k (btN s k)
theorem nmTo_ff {s : ByteArray} {n k : Nat} (hk : k < n) (h : chN k (btN s k) = false) : nmTo s n = false := by
  induction n with
  | zero => omega
  | succ n ih =>
    by_cases e : k = n
    · subst e; simp only [nmTo, h, Bool.and_false]
    · simp only [nmTo, ih (by omega), Bool.false_and]
/-- a text is a name -/
def isNm (s : ByteArray) : Bool := decide (1 ≤ s.size) && decide (s.size ≤ 12) && nmTo s s.size
theorem isNm_0 {s : ByteArray} (h : s.size < 1) : isNm s = false := by simp [isNm]; omega
theorem isNm_12 {s : ByteArray} (h : 12 < s.size) : isNm s = false := by simp [isNm]; omega
theorem isNm_ff {s : ByteArray} {k : Nat} (hk : k < s.size) (h : chN k (btN s k) = false) : isNm s = false := by simp [isNm, nmTo_ff hk h]
theorem isNm_tt {s : ByteArray} (h1 : 1 ≤ s.size) (h2 : s.size ≤ 12) (h : nmTo s s.size = true) : isNm s = true := by simp [isNm, h, h1, h2]
def chS (c : Nat) : Bool := decide (97 ≤ c ∧ c ≤ 122)
def chD (c : Nat) : Bool := decide (48 ≤ c ∧ c ≤ 57)
theorem btN_at {s : ByteArray} {j : Nat} (h : j < s.size) : s[j].toNat = btN s j := by
  have h' : j < s.data.size := h
  unfold btN
  rw [List.getD_eq_getElem?_getD, List.getElem?_eq_getElem (by simpa using h)]
  rfl
theorem chN_S {i c : Nat} (h : chS c = true) : chN i c = true := by simp [chS] at h; simp [chN]; omega
theorem chN_D {i c : Nat} (hi : i ≠ 0) (h : chD c = true) : chN i c = true := by simp [chD] at h; simp [chN]; omega
theorem chN_m {i c : Nat} (hi : i ≠ 0) (h : c = 45) : chN i c = true := by simp [chN]; omega
theorem chN_0 {c : Nat} (h : chS c = false) : chN 0 c = false := by simp [chS] at h; simp [chN]; omega
theorem chN_f {i c : Nat} (h : chS c = false) (h2 : chD c = false) (h3 : c ≠ 45) : chN i c = false := by simp [chS] at h; simp [chD] at h2; simp [chN]; omega
end Go.Proofs.YtpohhnihgegmfaaDoor

namespace Go.Proofs.YtpohhnihgegmfaaDoor
open Go.RowKit
set_option linter.unusedVariables false
set_option linter.unusedSimpArgs false

open Go.Lib in
theorem ext_bytes (w : World) (e : TypeId) (s : ByteArray) : Ext w (Lib.bytesWorld w e s) :=
  below_freeze ((Below.drew (Below.refl _ w)).alloc (Nat.le_refl _) _) (p := ⟨w.heap.size, _, none⟩) (Nat.le_refl _) 1
set_option maxHeartbeats 2000000 in
theorem implIsName_c (s : ByteArray) (w : World) (hz : s.size ≤ 9223372036854775807) :
    Calls Tryd.prog 42 #[.string s] w fun e w' => e = .returned (.bool (isNm s)) ∧ Ext w w' := by
  have hz' : (s.size : Int) ≤ 9223372036854775807 := by omega
  by_cases z1 : s.size < 1
  · have y1 : (s.size : Int) < 1 := by omega
    go_enter Tryd.func42, Tryd.ntmps42
    go_wp2_with fail
    go_ret
    exact ⟨ret_bool (isNm_0 z1).symm, (by repeat (first | with_reducible exact Ext.refl _ | with_reducible assumption | with_reducible refine Ext.alloc ?_ _ | with_reducible refine Ext.drew ?_ | (with_reducible refine Ext.setAt ?_ _ _ _ ?_; rotate_left; omega) | with_reducible refine Ext.trans ?_ (by assumption) | with_reducible exact Past.bel _ | with_reducible refine Ext.trans ?_ (Past.bel _)))⟩
  · have y1 : ¬ (s.size : Int) < 1 := by omega
    by_cases z2 : 12 < s.size
    · have y2 : (12 : Int) < s.size := by omega
      go_enter Tryd.func42, Tryd.ntmps42
      go_wp2_with fail
      go_ret
      exact ⟨ret_bool (isNm_12 z2).symm, (by repeat (first | with_reducible exact Ext.refl _ | with_reducible assumption | with_reducible refine Ext.alloc ?_ _ | with_reducible refine Ext.drew ?_ | (with_reducible refine Ext.setAt ?_ _ _ _ ?_; rotate_left; omega) | with_reducible refine Ext.trans ?_ (by assumption) | with_reducible exact Past.bel _ | with_reducible refine Ext.trans ?_ (Past.bel _)))⟩
    · have y2 : ¬ (12 : Int) < s.size := by omega
      have hcv := Lib.run_convert_string_bytes (P := Tryd.prog) w 9 75 5 s (u := .string) Tryd.underlying9 Tryd.underlying75 Tryd.underlying5
      have hbw : Ext w (Lib.bytesWorld w 5 s) := ext_bytes w 5 s
      have hcl : ∀ j, j < s.size → (Lib.bytesWorld w 5 s).cell? ⟨w.heap.size, j, none⟩ = some (.int .u8 (btN s j : Nat)) := fun j hj => Lib.bytesWorld_cell w 5 s j hj
      obtain ⟨W1, hW⟩ : ∃ W1, W1 = Lib.bytesWorld w 5 s := ⟨_, rfl⟩
      rw [← hW] at hcv hbw hcl
      have HC := Lib.hid hcl
      clear hcl hW
      go_enter Tryd.func42, Tryd.ntmps42
      go_wp2_with fail
      clear hcv
      go_loop [18] (fun i => ∃ j : Nat, j ≤ s.size ∧ i = .int .i64 j ∧ nmTo s j = true) (fun i => s.size - (intOf i).toNat)
      case atStart => exact ⟨0, by omega, rfl, rfl⟩
      case round =>
        obtain ⟨j, hj, rfl, hr⟩ := hrel
        have HR := Lib.hid hr
        clear hr
        by_cases hlt : j < s.size
        · have q1 := HC.out j hlt
          obtain ⟨C, hC⟩ : ∃ C, C = btN s j := ⟨_, rfl⟩
          rw [← hC] at q1
          have HB := Lib.hid hC
          clear hC
          go_wp2_with fail
          all_goals first
            | (go_ret; exact ⟨ret_bool (isNm_ff hlt (by rw [← HB.out]; clear HC q1 hbw HB HR; grind [chN])).symm, (by repeat (first | with_reducible exact Ext.refl _ | with_reducible assumption | with_reducible refine Ext.alloc ?_ _ | with_reducible refine Ext.drew ?_ | (with_reducible refine Ext.setAt ?_ _ _ _ ?_; rotate_left; omega) | with_reducible refine Ext.trans ?_ (by assumption) | with_reducible exact Past.bel _ | with_reducible refine Ext.trans ?_ (Past.bel _)))⟩)
            | (refine ⟨⟨j + 1, by omega, by go_num, ?_⟩, by simp [intOf]; omega⟩; have h2 : chN j C = true := (by clear HC q1 hbw HB HR; grind [chN]); rw [HB.out] at h2; simp only [nmTo, HR.out, h2]; rfl)
        · obtain rfl : j = s.size := by omega
          go_wp2_with fail
          go_ret
          exact ⟨ret_bool (isNm_tt (by omega) (by omega) HR.out).symm, (by repeat (first | with_reducible exact Ext.refl _ | with_reducible assumption | with_reducible refine Ext.alloc ?_ _ | with_reducible refine Ext.drew ?_ | (with_reducible refine Ext.setAt ?_ _ _ _ ?_; rotate_left; omega) | with_reducible refine Ext.trans ?_ (by assumption) | with_reducible exact Past.bel _ | with_reducible refine Ext.trans ?_ (Past.bel _)))⟩
end Go.Proofs.YtpohhnihgegmfaaDoor
