/- Calendars: copied, compared. Decimal numerals, digit by digit from the last. No program in sight. Decimal numerals: the reference's. Lists of months and rules in memory of their own; appends of whole structs. No program in sight. Months of equal length. The reference's given calendars: their months and rules. The reference's given calendars. Rules: when their years are valid. No program in sight. Names. No program in sight. Calendars: when their months are valid. No program in sight. The given calendars are valid. No program in sight. Calendars that a draw makes are valid. No program in sight. Greatest common divisors. Cycles of rules: the program's. Leap years: the program's. Lengths of years: the program's. -/
import Derived.Test.YtpohhnihgegmfaaGreatDoorBa
import Derived.Lib.ItoaNum
import Derived.RowKitTokens
import Derived.Test.YtpohhnihgegmfaaGreatDoorRows
import Derived.Lib.AppendIntMem
import Derived.Laws.IdiomStrings

namespace Go.Proofs.YtpohhnihgegmfaaGreatDoor
open Go.RowKit
set_option linter.unusedVariables false
set_option linter.unusedSimpArgs false

theorem S3.set {w : World} {g n : Nat} {nm : Nat → ByteArray} {dy lp : Nat → Int} (h : S3 w (some ⟨g, 0, none⟩) n nm dy lp) {b : Nat} (hb : b ≠ g) (o : Nat) (u : Value) : S3 (w.setCell ⟨b, o, none⟩ u) (some ⟨g, 0, none⟩) n nm dy lp := fun hn => by
  obtain ⟨b', off', e, hl, hc⟩ := h hn
  obtain ⟨rfl, rfl⟩ : b' = g ∧ off' = 0 := by simp at e; exact ⟨e.1.symm, e.2.symm⟩
  have hx := grown_set (w := w) b o u
  refine ⟨b', 0, rfl, by simpa using hl, fun j hj => ?_⟩
  obtain ⟨c1, c2, c3⟩ := hc j hj
  refine ⟨?_, ?_, ?_⟩ <;> (rw [World.cell?_of_block (hx.block b' hl (fun e => hb (by simpa using e.symm)))]; assumption)
theorem R3.set {w : World} {g n : Nat} {ev rs : Nat → Int} {lf : Nat → Bool} (h : R3 w (some ⟨g, 0, none⟩) n ev rs lf) {b : Nat} (hb : b ≠ g) (o : Nat) (u : Value) : R3 (w.setCell ⟨b, o, none⟩ u) (some ⟨g, 0, none⟩) n ev rs lf := fun hn => by
  obtain ⟨b', off', e, hl, hc⟩ := h hn
  obtain ⟨rfl, rfl⟩ : b' = g ∧ off' = 0 := by simp at e; exact ⟨e.1.symm, e.2.symm⟩
  have hx := grown_set (w := w) b o u
  refine ⟨b', 0, rfl, by simpa using hl, fun j hj => ?_⟩
  obtain ⟨c1, c2, c3⟩ := hc j hj
  refine ⟨?_, ?_, ?_⟩ <;> (rw [World.cell?_of_block (hx.block b' hl (fun e => hb (by simpa using e.symm)))]; assumption)
theorem own_off {w : World} {base : Nat} {e : TypeId} {size g n cap : Nat} {xs : List Value} (h : w.ownsRow base e size (.slice (some ⟨g, 0, none⟩) n cap) n xs) {b : Nat} (hb : b ≠ g) (o : Nat) (u : Value) : (w.setCell ⟨b, o, none⟩ u).ownsRow base e size (.slice (some ⟨g, 0, none⟩) n cap) n xs :=
  h.kept (grown_set b o u) (.inr (fun e => hb (by simpa [Value.ownBlock] using e.symm)))
/-- a calendar's months and rules in memory -/
structure CalM (w : World) (ma ra : Option Addr) (nm : Nat → ByteArray) (c : CalN) : Prop where
  mo : S3 w ma c.n nm c.dy c.lp
  ru : R3 w ra c.nr c.ev c.rs c.lf
theorem CalM.ext {w w' : World} {ma ra : Option Addr} {nm : Nat → ByteArray} {c : CalN} (h : CalM w ma ra nm c) (e : Ext w w') : CalM w' ma ra nm c := ⟨h.mo.ext e, h.ru.ext e⟩
end Go.Proofs.YtpohhnihgegmfaaGreatDoor

namespace Go.Proofs.YtpohhnihgegmfaaGreatDoor
set_option linter.unusedVariables false
/-- the digits of u; none for 0 -/
def digs (u : Nat) : List UInt8 := if u = 0 then [] else Lib.decDigits u
theorem digs_zero : digs 0 = [] := rfl
theorem digs_step {u : Nat} (h : 0 < u) : digs u = digs (u / 10) ++ [UInt8.ofNat (48 + u % 10)] := by
  rw [digs, if_neg (by omega)]
  by_cases h1 : u < 10
  · have e1 : u / 10 = 0 := by omega
    have e2 : u % 10 = u := by omega
    rw [e1, e2, digs_zero, Lib.decDigits, dif_pos h1]; rfl
  · rw [digs, if_neg (by omega), Lib.decDigits, dif_neg h1]
theorem digs_pos {u : Nat} (h : 0 < u) : digs u = Lib.decDigits u := if_neg (by omega)
/-- a number with a sign -/
def sg (b : Bool) (u : Nat) : Int := if b then -(u : Int) else u
theorem itoa_neg {u : Nat} (h : 0 < u) : Lib.itoa (-(u : Int)) = 45 :: digs u := by
  rw [Lib.itoa, if_pos (by omega), digs_pos h]; congr 1; simp
theorem itoa_pos {u : Nat} (h : 0 < u) : Lib.itoa (u : Int) = digs u := by
  rw [Lib.itoa, if_neg (by omega), digs_pos h]; rfl
theorem itoa_zero : Lib.itoa 0 = [48] := by
  rw [Lib.itoa, if_neg (by omega)]; exact Lib.decDigits_one (by decide)
theorem digs_len : ∀ (k u : Nat), u < 10 ^ k → (digs u).length ≤ k
  | 0, u, h => by have : u = 0 := by simpa using h
                  subst this; simp [digs_zero]
  | k + 1, u, h => by
    by_cases h0 : u = 0
    · subst h0; simp [digs_zero]
    · rw [digs_step (by omega), List.length_append]
      have := digs_len k (u / 10) (by rw [Nat.pow_succ] at h; omega)
      simp; omega
theorem u8_dig {d : Nat} (h : d < 10) : ((UInt8.ofNat (48 + d)).toNat : Int) = 48 + d := by
  have : (UInt8.ofNat (48 + d)).toNat = 48 + d := by rw [UInt8.toNat_ofNat']; omega
  rw [this]; omega
end Go.Proofs.YtpohhnihgegmfaaGreatDoor

namespace Go.Proofs.YtpohhnihgegmfaaGreatDoor
open Go.RowKit
set_option linter.unusedVariables false
set_option linter.unusedSimpArgs false

/-- a text out of bytes -/
def tx (l : List UInt8) : Value := .string ⟨l.toArray⟩
theorem info_u8 : (Tryz.prog.info? 5).map (fun i => (i.zero, i.size, i.bytes)) = some (some (.int .u8 0), 1, 1) := by kernel_rfl
theorem addr_add (b o j : Nat) : (⟨b, o, none⟩ : Addr).add j = ⟨b, o + j, none⟩ := by unfold Addr.add; split <;> simp_all
theorem ba_app (a b : List UInt8) : (⟨a.toArray⟩ : ByteArray) ++ ⟨b.toArray⟩ = ⟨(a ++ b).toArray⟩ := by
  apply ByteArray.ext; simp [ByteArray.data_append]
/-- a literal of one cell is owned -/
theorem own_lit1 {w : World} {base : Nat} {e : TypeId} (u : Value) (hb : base ≤ w.heap.size) : (w.alloc (.cells #[u] e)).ownsRow base e 1 (.slice (some ⟨w.heap.size, 0, none⟩) 1 1) 1 [u] :=
  ⟨rfl, .inr ⟨w.heap.size, 1, #[u], rfl, hb, heap_alloc_new w _, Nat.le_refl _, by decide, rfl, rfl⟩⟩
/-- 'append(own, out...)' of bytes -/
theorem appb {P : Program} {w : World} {ops : Array Oper} {rest : List Oper} {o : Oper} {A : Act} {Q : Exit → Act → World → Prop} (t e : TypeId) (s x : Operand)
    (hop : o.op = .call { callee := .builtin .append, args := #[s, x], argTypes := #[t, t] }) (hgd : o.guard = none)
    (ht : P.underlying t = some (.slice e)) (hinfo : (P.info? e).map (fun i => (i.zero, i.size, i.bytes)) = some (some (.int .u8 0), 1, 1))
    (B : Nat) (v : Value) (n : Nat) (l : List Value) (l2 : List UInt8) (g c : Nat) (hs : A.eval s = v) (hx : A.eval x = .slice (some ⟨g, 0, none⟩) l2.length c) (hown : w.ownsRow B e 1 v n l)
    (hc : ∀ (j : Nat) (u : Value), (Lib.byteCells l2)[j]? = some u → w.cell? ⟨g, j, none⟩ = some u) (hl : n + l2.length ≤ 1048576) (h0 : B ≤ w.heap.size)
    (hK : ∀ v' w', w'.ownsRow B e 1 v' (n + l2.length) (l ++ Lib.byteCells l2) → w.grownBy w' v.ownBlock → wpList P ops Q rest (A.put o.dst v') w') : wpList P ops Q (o :: rest) A w := by
  obtain ⟨i, hi, hz', hsz, hb⟩ := info_parts hinfo
  refine wpList_append_own (P := P) w hgd s x t hop B e i _ 1 1 ht hi hz' hsz hb rfl (by decide) v n l hs hown ⟨g, 0, none⟩ l2.length c (Lib.byteCells l2) hx (by rw [Lib.byteCells_length, Nat.mul_one]) ?_ ?_ (by unfold maxLen; omega) (by omega) h0 ?_
  · intro j u hu
    have := hc j u hu
    rwa [addr_add, Nat.zero_add]
  · intro u hu
    simp only [Lib.byteCells, List.mem_map] at hu
    obtain ⟨b, _, rfl⟩ := hu; rfl
  · intro v' w' h1 h2 _
    exact hK v' w' h1 h2
theorem own_bytes {w : World} {base : Nat} {e : TypeId} {g n cap : Nat} {l : List UInt8} (h : w.ownsRow base e 1 (.slice (some ⟨g, 0, none⟩) n cap) n (Lib.byteCells l)) : ∀ (j : Nat) (u : Value), (Lib.byteCells l)[j]? = some u → w.cell? ⟨g, j, none⟩ = some u := fun j u hu => by
  have hj : j < n := by
    have h1 := (List.getElem?_eq_some_iff.1 hu).1
    have h2 := h.1
    omega
  obtain ⟨g', e', _, _, h2, _⟩ := own_at h hj
  obtain rfl : g = g' := by simpa using e'
  exact h2.trans hu
theorem byte_cons {l : List UInt8} {u : Nat} : [Value.int .u8 (48 + (u : Int) % 10)] ++ Lib.byteCells l = Lib.byteCells (UInt8.ofNat (48 + u % 10) :: l) := by
  have h := u8_dig (d := u % 10) (by omega)
  have e : Lib.byteCells (UInt8.ofNat (48 + u % 10) :: l) = .int .u8 ((UInt8.ofNat (48 + u % 10)).toNat : Int) :: Lib.byteCells l := rfl
  rw [e, h]; rfl
set_option maxRecDepth 100000 in
set_option maxHeartbeats 4000000 in
theorem l01Dec_c (n : Int) (w : World) (h0 : -9223372036854775808 ≤ n) (h1 : n ≤ 9223372036854775807) :
    Calls Tryz.prog 65 #[.int .i64 n] w fun e w' => e = .returned (tx (Lib.itoa n)) ∧ Ext w w' := by
  go_enter Tryz.func65, Tryz.ntmps65
  go_wp2_with fail
  obtain ⟨bb, N, hn, hN⟩ : ∃ (bb : Bool) (N : Nat), n = sg bb N ∧ (bb = true → 0 < N) := by
    by_cases h : n < 0
    · exact ⟨true, n.natAbs, by simp [sg]; omega, fun _ => by omega⟩
    · exact ⟨false, n.natAbs, by simp [sg]; omega, fun e => by cases e⟩
  have hNb : N < 10 ^ 19 := by
    cases bb <;> simp [sg] at hn <;> omega
  have hNB : N ≤ 9223372036854775808 := by
    cases bb <;> simp [sg] at hn <;> omega
  go_loopw [3, 4, 5] (fun v3 v4 v5 wr => ∃ (u : Nat) (l : List UInt8) (g cap : Nat), digs N = digs u ++ l ∧ u ≤ N ∧ v4 = .int .i64 (sg bb u) ∧ (v5 = undef ∨ ∃ d, v5 = .int .i64 d) ∧ v3 = .slice (some ⟨g, 0, none⟩) l.length cap ∧ wr.ownsRow w.heap.size 5 1 v3 l.length (Lib.byteCells l) ∧ Ext w wr) (fun _ v4 _ _ => (intOf v4).natAbs)
  case atStart => exact ⟨N, [], w.heap.size, 0, by simp, Nat.le_refl _, by rw [hn], .inl rfl, rfl, World.ownsRow_made _ #[] 0 (Nat.le_refl _) (Nat.zero_le _) rfl, (by repeat (first | with_reducible exact Ext.refl _ | with_reducible assumption | with_reducible refine Ext.alloc ?_ _ | with_reducible refine Ext.drew ?_ | (with_reducible refine Ext.setAt ?_ _ _ _ ?_; rotate_left; omega) | with_reducible refine Ext.trans ?_ (by assumption) | with_reducible exact Past.bel _ | with_reducible refine Ext.trans ?_ (Past.bel _)))⟩
  case round =>
    obtain ⟨u, l, g, cap, hd, hu, rfl, hv5, rfl, ho, hx⟩ := hrel
    have HO := Lib.hid ho
    clear ho
    by_cases h0 : u = 0
    · subst h0
      have b0 : sg bb 0 = 0 := by cases bb <;> rfl
      have hd0 : digs N = l := by rw [hd, digs_zero]; rfl
      have hconv := run_convert_bytes_back (P := Tryz.prog) wr 22 9 5 ⟨g, 0, none⟩ cap l Tryz.underlying22 Tryz.underlying5 Tryz.underlying9 (fun j hj => by
        rw [addr_add, Nat.zero_add]
        exact own_bytes HO.out j _ (by rw [Lib.byteCells]; simp [hj]))
      rw [b0]
      by_cases hN0 : N = 0
      · obtain rfl : l = [] := by rw [← hd0, hN0]; rfl
        have hn0 : n = 0 := by rw [hn, hN0]; cases bb <;> rfl
        go_wp2_with fail
        go_ret
        exact ⟨by rw [hn0, itoa_zero]; rfl, (by repeat (first | with_reducible exact Ext.refl _ | with_reducible assumption | with_reducible refine Ext.alloc ?_ _ | with_reducible refine Ext.drew ?_ | (with_reducible refine Ext.setAt ?_ _ _ _ ?_; rotate_left; omega) | with_reducible refine Ext.trans ?_ (by assumption) | with_reducible exact Past.bel _ | with_reducible refine Ext.trans ?_ (Past.bel _)))⟩
      · have hll : l.length ≤ 19 := by rw [← hd0]; exact digs_len 19 N hNb
        have hl0 : 0 < l.length := by rw [← hd0, digs_step (u := N) (by omega)]; simp
        have hb1 : ((l.length : Int) == 0) = false := beq_eq_false_iff_ne.2 (by omega)
        have hb2 : ¬ (l.length : Int) = 0 := by omega
        clear hd
        cases bb
        · have hn1 : ¬ n < 0 := by rw [hn]; show ¬ (N : Int) < 0; omega
          have hi : Lib.itoa n = l := by rw [hn, ← hd0]; exact itoa_pos (by omega)
          have HI := Lib.hid hi
          clear hd0 hn hi
          go_wp2_with fail
          go_ret
          exact ⟨by rw [HI.out]; rfl, hx⟩
        · have hn1 : n < 0 := by rw [hn]; simp [sg]; omega
          have hi : Lib.itoa n = 45 :: l := by rw [hn, ← hd0]; exact itoa_neg (by omega)
          have HI := Lib.hid hi
          clear hd0 hn hi
          go_wp2_with fail
          go_ret
          exact ⟨by rw [HI.out]; exact congrArg (fun x => Ending.returned (Value.string x)) (ba_app [45] l), hx⟩
    · have hll : l.length ≤ 19 := by
        have a1 := digs_len 19 N hNb
        rw [hd, List.length_append] at a1
        omega
      have hsz := hx.size
      have e0 : ((u : Int) != 0) = true := by simp; omega
      have e1 : ((-(u : Int)) != 0) = true := by simp; omega
      have hd' : digs N = digs (u / 10) ++ (UInt8.ofNat (48 + u % 10) :: l) := by rw [hd, digs_step (by omega)]; simp
      cases bb
      · have e2 : ¬ (u : Int) % 10 < 0 := by omega
        rw [show sg false u = (u : Int) from rfl]
        clear hd hn hv5
        go_wp2_with (at_builtin; refine appb 22 5 _ _ rfl rfl Tryz.underlying22 info_u8 w.heap.size _ 1 _ l g _ rfl rfl (own_lit1 _ hsz) (own_bytes (own_ext HO.out (by repeat (first | with_reducible exact Ext.refl _ | with_reducible assumption | with_reducible refine Ext.alloc ?_ _ | with_reducible refine Ext.drew ?_ | (with_reducible refine Ext.setAt ?_ _ _ _ ?_; rotate_left; omega) | with_reducible refine Ext.trans ?_ (by assumption) | with_reducible exact Past.bel _ | with_reducible refine Ext.trans ?_ (Past.bel _))))) (by omega) (by simp; omega) ?_; intro v6 w6 s6 s7)
        rw [byte_cons, Nat.add_comm] at s6
        obtain ⟨b9, c9, rfl⟩ := own_form s6
        obtain ⟨g9, rfl, _⟩ := own_at s6 (j := 0) (by omega)
        have hx6 : Ext w w6 := (show Ext w (wr.alloc _) from (by repeat (first | with_reducible exact Ext.refl _ | with_reducible assumption | with_reducible refine Ext.alloc ?_ _ | with_reducible refine Ext.drew ?_ | (with_reducible refine Ext.setAt ?_ _ _ _ ?_; rotate_left; omega) | with_reducible refine Ext.trans ?_ (by assumption) | with_reducible exact Past.bel _ | with_reducible refine Ext.trans ?_ (Past.bel _)))).grown s7 (fun q hq => by cases hq; exact hsz)
        exact ⟨⟨u / 10, UInt8.ofNat (48 + u % 10) :: l, g9, c9, hd', by omega, congrArg (Value.int .i64) (show (u : Int) / 10 = ((u / 10 : Nat) : Int) from by omega), .inr ⟨_, rfl⟩, rfl, s6, hx6⟩, by simp [intOf]; omega⟩
      · rw [show sg true u = -(u : Int) from rfl]
        clear hd hn hv5
        by_cases e3 : 0 < (u : Int) % 10
        · go_wp2_with (at_builtin; refine appb 22 5 _ _ rfl rfl Tryz.underlying22 info_u8 w.heap.size _ 1 _ l g _ rfl rfl (own_lit1 _ hsz) (own_bytes (own_ext HO.out (by repeat (first | with_reducible exact Ext.refl _ | with_reducible assumption | with_reducible refine Ext.alloc ?_ _ | with_reducible refine Ext.drew ?_ | (with_reducible refine Ext.setAt ?_ _ _ _ ?_; rotate_left; omega) | with_reducible refine Ext.trans ?_ (by assumption) | with_reducible exact Past.bel _ | with_reducible refine Ext.trans ?_ (Past.bel _))))) (by omega) (by simp; omega) ?_; intro v6 w6 s6 s7)
          rw [byte_cons, Nat.add_comm] at s6
          obtain ⟨b9, c9, rfl⟩ := own_form s6
          obtain ⟨g9, rfl, _⟩ := own_at s6 (j := 0) (by omega)
          have hx6 : Ext w w6 := (show Ext w (wr.alloc _) from (by repeat (first | with_reducible exact Ext.refl _ | with_reducible assumption | with_reducible refine Ext.alloc ?_ _ | with_reducible refine Ext.drew ?_ | (with_reducible refine Ext.setAt ?_ _ _ _ ?_; rotate_left; omega) | with_reducible refine Ext.trans ?_ (by assumption) | with_reducible exact Past.bel _ | with_reducible refine Ext.trans ?_ (Past.bel _)))).grown s7 (fun q hq => by cases hq; exact hsz)
          exact ⟨⟨u / 10, UInt8.ofNat (48 + u % 10) :: l, g9, c9, hd', by omega, congrArg (Value.int .i64) (show -((u : Int) / 10) = -((u / 10 : Nat) : Int) from by omega), .inr ⟨_, rfl⟩, rfl, s6, hx6⟩, by simp [intOf]; omega⟩
        · go_wp2_with (at_builtin; refine appb 22 5 _ _ rfl rfl Tryz.underlying22 info_u8 w.heap.size _ 1 _ l g _ rfl rfl (own_lit1 _ hsz) (own_bytes (own_ext HO.out (by repeat (first | with_reducible exact Ext.refl _ | with_reducible assumption | with_reducible refine Ext.alloc ?_ _ | with_reducible refine Ext.drew ?_ | (with_reducible refine Ext.setAt ?_ _ _ _ ?_; rotate_left; omega) | with_reducible refine Ext.trans ?_ (by assumption) | with_reducible exact Past.bel _ | with_reducible refine Ext.trans ?_ (Past.bel _))))) (by omega) (by simp; omega) ?_; intro v6 w6 s6 s7)
          have e5 : (48 : Int) + -((u : Int) % 10) = 48 + (u : Int) % 10 := by omega
          rw [e5] at s6
          rw [byte_cons, Nat.add_comm] at s6
          obtain ⟨b9, c9, rfl⟩ := own_form s6
          obtain ⟨g9, rfl, _⟩ := own_at s6 (j := 0) (by omega)
          have hx6 : Ext w w6 := (show Ext w (wr.alloc _) from (by repeat (first | with_reducible exact Ext.refl _ | with_reducible assumption | with_reducible refine Ext.alloc ?_ _ | with_reducible refine Ext.drew ?_ | (with_reducible refine Ext.setAt ?_ _ _ _ ?_; rotate_left; omega) | with_reducible refine Ext.trans ?_ (by assumption) | with_reducible exact Past.bel _ | with_reducible refine Ext.trans ?_ (Past.bel _)))).grown s7 (fun q hq => by cases hq; exact hsz)
          exact ⟨⟨u / 10, UInt8.ofNat (48 + u % 10) :: l, g9, c9, hd', by omega, congrArg (Value.int .i64) (show -((u : Int) / 10) = -((u / 10 : Nat) : Int) from by omega), .inr ⟨_, rfl⟩, rfl, s6, hx6⟩, by simp [intOf]; omega⟩
end Go.Proofs.YtpohhnihgegmfaaGreatDoor

namespace Go.Proofs.YtpohhnihgegmfaaGreatDoor
open Go.RowKit
set_option linter.unusedVariables false
set_option linter.unusedSimpArgs false

abbrev Mo := ByteArray × Int × Int
abbrev Ru := Int × Int × Bool
/-- months, cell by cell -/
def MT (l : List Mo) : List Value := l.flatMap fun q => [.string q.1, .int .i64 q.2.1, .int .i64 q.2.2]
/-- rules, cell by cell -/
def RT (l : List Ru) : List Value := l.flatMap fun q => [.int .i64 q.1, .int .i64 q.2.1, .bool q.2.2]
theorem MT_app (l r : List Mo) : MT (l ++ r) = MT l ++ MT r := by simp [MT]
theorem RT_app (l r : List Ru) : RT (l ++ r) = RT l ++ RT r := by simp [RT]
theorem MT_len (l : List Mo) : (MT l).length = l.length * 3 := by
  induction l with
  | nil => rfl
  | cons q l ih => have e : MT (q :: l) = [.string q.1, .int .i64 q.2.1, .int .i64 q.2.2] ++ MT l := rfl
                   rw [e, List.length_append, ih]; simp; omega
theorem RT_len (l : List Ru) : (RT l).length = l.length * 3 := by
  induction l with
  | nil => rfl
  | cons q l ih => have e : RT (q :: l) = [.int .i64 q.1, .int .i64 q.2.1, .bool q.2.2] ++ RT l := rfl
                   rw [e, List.length_append, ih]; simp; omega
theorem flat3_at {α : Type} (A B C : α → Value) : ∀ (l : List α) (j : Nat) (q : α), l[j]? = some q →
    (l.flatMap fun q => [A q, B q, C q])[j * 3]? = some (A q) ∧ (l.flatMap fun q => [A q, B q, C q])[j * 3 + 1]? = some (B q) ∧ (l.flatMap fun q => [A q, B q, C q])[j * 3 + 2]? = some (C q)
  | [], j, q, h => by simp at h
  | x :: l, 0, q, h => by
    obtain rfl : x = q := by simpa using h
    exact ⟨rfl, rfl, rfl⟩
  | x :: l, j + 1, q, h => by
    have ih := flat3_at A B C l j q (by simpa using h)
    have e1 : (j + 1) * 3 = 3 + j * 3 := by omega
    rw [List.flatMap_cons, e1, Nat.add_assoc, Nat.add_assoc]
    have e : ∀ i, ([A x, B x, C x] ++ l.flatMap fun q => [A q, B q, C q])[3 + i]? = (l.flatMap fun q => [A q, B q, C q])[i]? := fun i => by
      rw [List.getElem?_append_right (by simp)]; simp
    rw [e, e, e]; exact ih
/-- the calendar that months and rules make -/
def calOf (M : List Mo) (R : List Ru) : CalN := ⟨R.length, fun i => (R.getD i (0, 0, false)).1, fun i => (R.getD i (0, 0, false)).2.1, fun i => (R.getD i (0, 0, false)).2.2, M.length, fun i => (M.getD i (⟨#[]⟩, 0, 0)).2.1, fun i => (M.getD i (⟨#[]⟩, 0, 0)).2.2⟩
def nmOf (M : List Mo) : Nat → ByteArray := fun i => (M.getD i (⟨#[]⟩, 0, 0)).1
section
variable {w w' : World} {base : Nat} {e : TypeId} {size : Nat} {v : Value} {n : Nat} {xs : List Value}
theorem own_atK {a : Option Addr} {cap : Nat} (h : w.ownsRow base e size (.slice a n cap) n xs) (hn : 0 < n) :
    ∃ g, a = some ⟨g, 0, none⟩ ∧ base ≤ g ∧ g < w.heap.size ∧ ∀ j, j < n * size → w.cell? ⟨g, j, none⟩ = xs[j]? ∧ w.frozen? ⟨g, j, none⟩ = false := by
  rcases h.2 with ⟨h1, h2⟩ | ⟨g, cap', cur, h1, hb, hg, h2, h3, h4, h5⟩
  · omega
  · simp only [Value.slice.injEq, true_and] at h1
    obtain ⟨rfl, rfl⟩ := h1
    exact ⟨g, rfl, hb, (Array.getElem?_eq_some_iff.1 hg).1, fun j hj => ⟨h.cellAt j (by omega), h.frozenAt j⟩⟩
theorem own_s3 {a : Option Addr} {cap : Nat} {M : List Mo} (h : w.ownsRow base e 3 (.slice a n cap) n (MT M)) : S3 w a n (nmOf M) (calOf M []).dy (calOf M []).lp := fun hn => by
  obtain ⟨g, rfl, _, hg, hc⟩ := own_atK h hn
  have hl : M.length = n := by have := h.1; rw [MT_len] at this; omega
  refine ⟨g, 0, rfl, hg, fun j hj => ?_⟩
  have hq : M[j]? = some (M.getD j (⟨#[]⟩, 0, 0)) := by rw [List.getD_eq_getElem?_getD, List.getElem?_eq_getElem (by omega)]; rfl
  obtain ⟨q1, q2, q3⟩ := flat3_at (fun q : Mo => Value.string q.1) (fun q => .int .i64 q.2.1) (fun q => .int .i64 q.2.2) M j _ hq
  rw [Nat.zero_add, (hc _ (by omega)).1, (hc _ (by omega)).1, (hc _ (by omega)).1]
  exact ⟨q1, q2, q3⟩
theorem own_r3 {a : Option Addr} {cap : Nat} {R : List Ru} (h : w.ownsRow base e 3 (.slice a n cap) n (RT R)) : R3 w a n (calOf [] R).ev (calOf [] R).rs (calOf [] R).lf := fun hn => by
  obtain ⟨g, rfl, _, hg, hc⟩ := own_atK h hn
  have hl : R.length = n := by have := h.1; rw [RT_len] at this; omega
  refine ⟨g, 0, rfl, hg, fun j hj => ?_⟩
  have hq : R[j]? = some (R.getD j (0, 0, false)) := by rw [List.getD_eq_getElem?_getD, List.getElem?_eq_getElem (by omega)]; rfl
  obtain ⟨q1, q2, q3⟩ := flat3_at (fun q : Ru => Value.int .i64 q.1) (fun q => .int .i64 q.2.1) (fun q => .bool q.2.2) R j _ hq
  rw [Nat.zero_add, (hc _ (by omega)).1, (hc _ (by omega)).1, (hc _ (by omega)).1]
  exact ⟨q1, q2, q3⟩
end
/-- months and rules owned: a calendar in memory -/
theorem own_calM {w : World} {b1 b2 : Nat} {e1 e2 : TypeId} {a1 a2 : Option Addr} {c1 c2 : Nat} {M : List Mo} {R : List Ru} (h1 : w.ownsRow b1 e1 3 (.slice a1 M.length c1) M.length (MT M)) (h2 : w.ownsRow b2 e2 3 (.slice a2 R.length c2) R.length (RT R)) : CalM w a1 a2 (nmOf M) (calOf M R) :=
  ⟨own_s3 h1, own_r3 h2⟩
theorem news_block {w : World} {gb : Nat} {T : TypeId} {ys : List Value} (h : Blk w gb T ys.toArray) : ∀ j u, ys[j]? = some u → w.cell? ((⟨gb, 0, none⟩ : Addr).add j) = some u := fun j u hu => by
  rw [addr_add, Nat.zero_add, h.cell]; simpa using hu
/-- 'own = append(own, q, ..)', the q's of several cells -/
theorem appG {P : Program} {w : World} {ops : Array Oper} {rest : List Oper} {o : Oper} {A : Act} {Q : Exit → Act → World → Prop} (t T : TypeId) (s x : Operand) (z : Value) (sz by8 : Nat)
    (hop : o.op = .call { callee := .builtin .append, args := #[s, x], argTypes := #[t, t] }) (hgd : o.guard = none)
    (ht : P.underlying t = some (.slice T)) (hinfo : (P.info? T).map (fun i => (i.zero, i.size, i.bytes)) = some (some z, sz, by8)) (hz : z.cells.size = sz) (hz0 : 0 < sz) (h64 : by8 ≤ 64)
    (B : Nat) (v : Value) (n : Nat) (xs : List Value) (m : Nat) (ys : List Value) (gb c : Nat) (hs : A.eval s = v) (hx : A.eval x = .slice (some ⟨gb, 0, none⟩) m c) (h : w.ownsRow B T sz v n xs)
    (hc : Blk w gb T ys.toArray) (hy : ys.length = m * sz) (ho : ∀ u ∈ ys, u.oneCell' = true) (hm : m ≤ 100) (hl : n ≤ 1048576) (h0 : B ≤ w.heap.size)
    (hK : ∀ v' w', w'.ownsRow B T sz v' (n + m) (xs ++ ys) → w.grownBy w' v.ownBlock → wpList P ops Q rest (A.put o.dst v') w') : wpList P ops Q (o :: rest) A w := by
  obtain ⟨i, hi, hz', hsz, hb⟩ := info_parts hinfo
  refine wpList_append_own (P := P) w hgd s x t hop B T i z sz by8 ht hi hz' hsz hb hz hz0 v n xs hs h ⟨gb, 0, none⟩ m c ys hx hy (news_block hc) ho (by unfold maxLen; omega) ?_ h0 ?_
  · have : (n + m) * by8 ≤ (n + m) * 64 := Nat.mul_le_mul_left _ h64
    omega
  · intro v' w' h1 h2 _
    exact hK v' w' h1 h2
/-- the same at a step of a region that draws its order -/
theorem appGs {P : Program} {w : World} {ops : Array Oper} {o : Oper} {A : Act} {K : Act → World → Prop} {Q : Exit → Act → World → Prop} {E : Prop} (t T : TypeId) (s x : Operand) (z : Value) (sz by8 : Nat)
    (hop : o.op = .call { callee := .builtin .append, args := #[s, x], argTypes := #[t, t] }) (hgd : o.guard = none)
    (ht : P.underlying t = some (.slice T)) (hinfo : (P.info? T).map (fun i => (i.zero, i.size, i.bytes)) = some (some z, sz, by8)) (hz : z.cells.size = sz) (hz0 : 0 < sz) (h64 : by8 ≤ 64)
    (B : Nat) (v : Value) (n : Nat) (xs : List Value) (m : Nat) (ys : List Value) (gb c : Nat) (hs : A.eval s = v) (hx : A.eval x = .slice (some ⟨gb, 0, none⟩) m c) (h : w.ownsRow B T sz v n xs)
    (hc : Blk w gb T ys.toArray) (hy : ys.length = m * sz) (ho : ∀ u ∈ ys, u.oneCell' = true) (hm0 : 0 < m) (hm : m ≤ 100) (hl : n ≤ 1048576) (h0 : B ≤ w.heap.size)
    (hK : ∀ v' w', w'.ownsRow B T sz v' (n + m) (xs ++ ys) → w.grownBy w' v.ownBlock → (∀ b i, b < w.heap.size → v.ownBlock ≠ some b → w'.cell? ⟨b, i, none⟩ = w.cell? ⟨b, i, none⟩) → K (A.put o.dst v') w') :
    if Region.wanted o (yielded ops A.tmps) = true then Oper.wp P o A w K Q else E := by
  obtain ⟨i, hi, hz', hsz, hb⟩ := info_parts hinfo
  refine step_append_lies w hgd s x t hop B T i z sz by8 ht hi hz' hsz hb hz hz0 v n xs hs h ⟨gb, 0, none⟩ m c ys hx hy (news_block hc) ho hm0 (by unfold maxLen; omega) ?_ h0 _ rfl ?_
  · have : (n + m) * by8 ≤ (n + m) * 64 := Nat.mul_le_mul_left _ h64
    omega
  · intro g' cap w' h1 h2 _ _
    exact hK _ w' h1 h2 (fun b i hb hne => h2.cell_far ⟨b, i, none⟩ hb (fun e => hne e.symm))
theorem info_month : (Tryz.prog.info? 99).map (fun i => (i.zero, i.size, i.bytes)) = some (some (.agg #[.string ⟨#[]⟩, .int .i64 0, .int .i64 0]), 3, 32) := by kernel_rfl
theorem info_rule : (Tryz.prog.info? 101).map (fun i => (i.zero, i.size, i.bytes)) = some (some (.agg #[.int .i64 0, .int .i64 0, .bool false]), 3, 24) := by kernel_rfl
end Go.Proofs.YtpohhnihgegmfaaGreatDoor

namespace Go.Proofs.YtpohhnihgegmfaaGreatDoor
open Go.RowKit
set_option linter.unusedVariables false
set_option linter.unusedSimpArgs false

/-- months m1 and so on of d days -/
def eqM (d : Int) (k : Nat) : List Mo := (List.range k).map (fun j : Nat => ((⟨(109 :: Lib.itoa ((j : Int) + 1)).toArray⟩ : ByteArray), d, d))
theorem eqM_len (d : Int) (k : Nat) : (eqM d k).length = k := by simp [eqM]
theorem eqM_zero (d : Int) : MT (eqM d 0) = [] := rfl
theorem eqM_step (d : Int) (k : Nat) : eqM d (k + 1) = eqM d k ++ [((⟨(109 :: Lib.itoa ((k : Int) + 1)).toArray⟩ : ByteArray), d, d)] := by simp [eqM, List.range_succ]
theorem itoa_small (n : Int) (h0 : 0 ≤ n) (h1 : n ≤ 1000000) : (Lib.itoa n).length ≤ 7 := by
  obtain ⟨u, rfl⟩ : ∃ u : Nat, n = (u : Int) := ⟨n.toNat, by omega⟩
  by_cases h : u = 0
  · subst h; rw [show ((0 : Nat) : Int) = 0 from rfl, itoa_zero]; decide
  · rw [itoa_pos (by omega)]
    exact digs_len 7 u (by omega)
set_option maxRecDepth 100000 in
set_option maxHeartbeats 2000000 in
theorem l15Equal_c (m : Nat) (d : Int) (w : World) (hm : m ≤ 1000) :
    Calls Tryz.prog 88 #[.int .i64 (m : Nat), .int .i64 d] w fun e w' => ∃ b cap, e = .returned (.slice b m cap) ∧ Ext w w' ∧ w'.ownsRow w.heap.size 99 3 (.slice b m cap) m (MT (eqM d m)) := by
  go_enter Tryz.func88, Tryz.ntmps88
  go_wp2_with fail
  go_loopw [5, 6] (fun v i wr => ∃ j : Nat, j ≤ m ∧ i = .int .i64 ((j : Int) + 1) ∧ wr.ownsRow w.heap.size 99 3 v j (MT (eqM d j)) ∧ Ext w wr) (fun _ i _ => m + 1 - (intOf i).toNat)
  case atStart => exact ⟨0, by omega, rfl, (by rw [eqM_zero]; exact World.ownsRow_made _ #[] 0 (Nat.le_refl _) (Nat.zero_le _) rfl), (by repeat (first | with_reducible exact Ext.refl _ | with_reducible assumption | with_reducible refine Ext.alloc ?_ _ | with_reducible refine Ext.drew ?_ | (with_reducible refine Ext.setAt ?_ _ _ _ ?_; rotate_left; omega) | with_reducible refine Ext.trans ?_ (by assumption) | with_reducible exact Past.bel _ | with_reducible refine Ext.trans ?_ (Past.bel _)))⟩
  case round =>
    obtain ⟨j, hj, rfl, ho, hx⟩ := hrel
    have HO := Lib.hid ho
    clear ho
    have hsz := hx.size
    by_cases hlt : j < m
    · have x1 : (j : Int) + 1 ≤ (m : Int) := by omega
      obtain ⟨A, hA⟩ : ∃ A, A = Lib.itoa ((j : Int) + 1) := ⟨_, rfl⟩
      have la : A.length ≤ 7 := by rw [hA]; exact itoa_small _ (by omega) (by omega)
      have HD := Lib.hid (fun (W : World) => (show Calls Tryz.prog 65 #[.int .i64 ((j : Int) + 1)] W (fun e w' => e = .returned (.string ⟨A.toArray⟩) ∧ Ext W w') from by rw [hA]; exact l01Dec_c _ W (by omega) (by omega)))
      have HA := Lib.hid hA
      clear hA
      go_wp2_with (first | (go_at_call 65; ((with_reducible refine (HD.out _).mono ?_); rintro e w' ⟨rfl, hx⟩; (first | (obtain ⟨wx, rfl⟩ := Past.again hx) | (obtain ⟨wx, rfl⟩ := Past.ofd hx) | (obtain ⟨wx, rfl⟩ := Past.of hx)))) | (at_builtin; refine appG 24 99 _ _ _ 3 32 rfl rfl Tryz.underlying24 info_month rfl (by decide) (by decide) w.heap.size _ j (MT (eqM d j)) 1 [.string (⟨#[109]⟩ ++ ⟨A.toArray⟩), .int .i64 d, .int .i64 d] _ 1 rfl rfl (own_ext HO.out (by repeat (first | with_reducible exact Ext.refl _ | with_reducible assumption | with_reducible refine Ext.alloc ?_ _ | with_reducible refine Ext.drew ?_ | (with_reducible refine Ext.setAt ?_ _ _ _ ?_; rotate_left; omega) | with_reducible refine Ext.trans ?_ (by assumption) | with_reducible exact Past.bel _ | with_reducible refine Ext.trans ?_ (Past.bel _)))) (Blk.new _ _ _) rfl (by intro u hu; simp at hu; rcases hu with rfl | rfl <;> rfl) (by omega) (by omega) (Ext.size (by repeat (first | with_reducible exact Ext.refl _ | with_reducible assumption | with_reducible refine Ext.alloc ?_ _ | with_reducible refine Ext.drew ?_ | (with_reducible refine Ext.setAt ?_ _ _ _ ?_; rotate_left; omega) | with_reducible refine Ext.trans ?_ (by assumption) | with_reducible exact Past.bel _ | with_reducible refine Ext.trans ?_ (Past.bel _)))) ?_; intro v6 w6 s6 s7))
      have hx6 : Ext w w6 := by
        refine Ext.grown ?_ s7 (fun q hq => (HO.out.lt q hq).1)
        ((repeat (first | with_reducible exact Ext.refl _ | with_reducible assumption | with_reducible refine Ext.alloc ?_ _ | with_reducible refine Ext.drew ?_ | (with_reducible refine Ext.setAt ?_ _ _ _ ?_; rotate_left; omega) | with_reducible refine Ext.trans ?_ (by assumption) | with_reducible exact Past.bel _ | with_reducible refine Ext.trans ?_ (Past.bel _))); done)
      refine ⟨⟨j + 1, by omega, by go_num, ?_, hx6⟩, by simp [intOf]; omega⟩
      rw [eqM_step, MT_app, ← HA.out]
      exact s6
    · have x1 : ¬ (j : Int) + 1 ≤ (m : Int) := by omega
      obtain rfl : j = m := by omega
      obtain ⟨b, cap, rfl⟩ := own_form HO.out
      go_wp2_with fail
      go_ret
      exact ⟨b, cap, rfl, hx, HO.out⟩
end Go.Proofs.YtpohhnihgegmfaaGreatDoor

namespace Go.Proofs.YtpohhnihgegmfaaGreatDoor
open Go.RowKit
set_option linter.unusedVariables false
set_option linter.unusedSimpArgs false

def romT : List (ByteArray × Int) := [(⟨#[106, 97, 110]⟩, 31), (⟨#[102, 101, 98]⟩, 28), (⟨#[109, 97, 114]⟩, 31), (⟨#[97, 112, 114]⟩, 30), (⟨#[109, 97, 121]⟩, 31), (⟨#[106, 117, 110]⟩, 30), (⟨#[106, 117, 108]⟩, 31), (⟨#[97, 117, 103]⟩, 31), (⟨#[115, 101, 112]⟩, 30), (⟨#[111, 99, 116]⟩, 31), (⟨#[110, 111, 118]⟩, 30), (⟨#[100, 101, 99]⟩, 31)]
/-- the first k months of the roman calendars, all years alike -/
def romP (k : Nat) : List Mo := (romT.take k).map fun q => (q.1, q.2, q.2)
theorem romP_len {k : Nat} (h : k ≤ 12) : (romP k).length = k := by simp [romP, romT]; omega
/-- the months of the roman calendars -/
def romM : List Mo := (romT.take 1).map (fun q => (q.1, q.2, q.2)) ++ [(⟨#[102, 101, 98]⟩, 28, 29)] ++ (romT.drop 2).map (fun q => (q.1, q.2, q.2))
theorem rom_set : (MT (romP 12)).set 5 (.int .i64 29) = MT romM := rfl
def gregR : List Ru := [(4, 0, true), (100, 0, false), (400, 0, true)]
def julR : List Ru := [(4, 0, true)]
theorem own_lit {w : World} {base : Nat} {e : TypeId} {size n : Nat} (cur : Array Value) (xs : List Value) (hx : cur.toList = xs) (hs : xs.length = n * size) (hn : n ≤ maxLen) (hb : base ≤ w.heap.size) : (w.alloc (.cells cur e)).ownsRow base e size (.slice (some ⟨w.heap.size, 0, none⟩) n n) n xs :=
  ⟨hs, .inr ⟨w.heap.size, n, cur, rfl, hb, heap_alloc_new w _, Nat.le_refl _, hn, by rw [← hs, ← hx]; simp, by rw [← hs, ← hx]; exact List.take_of_length_le (Nat.le_refl _)⟩⟩
theorem own_made {base g : Nat} {e : TypeId} {size : Nat} (w : World) (cur : Array Value) (cap : Nat) (hg : g = w.heap.size) (hb : base ≤ w.heap.size) (hm : cap ≤ maxLen) (hs : cur.size = cap * size) :
    (w.alloc (.cells cur e)).ownsRow base e size (.slice (some ⟨g, 0, none⟩) 0 cap) 0 [] := by
  subst hg; exact World.ownsRow_made w cur cap hb hm hs
set_option maxHeartbeats 1000000 in
theorem l15Gregorian_c (w : World) :
    Calls Tryz.prog 89 #[] w fun e w' => ∃ b, e = .returned (.slice b 3 3) ∧ Ext w w' ∧ w'.ownsRow w.heap.size 101 3 (.slice b 3 3) 3 (RT gregR) := by
  go_enter Tryz.func89, Tryz.ntmps89
  go_wp2
  go_ret
  exact ⟨_, rfl, (by repeat (first | with_reducible exact Ext.refl _ | with_reducible assumption | with_reducible refine Ext.alloc ?_ _ | with_reducible refine Ext.drew ?_ | (with_reducible refine Ext.setAt ?_ _ _ _ ?_; rotate_left; omega) | with_reducible refine Ext.trans ?_ (by assumption) | with_reducible exact Past.bel _ | with_reducible refine Ext.trans ?_ (Past.bel _))), own_lit _ _ rfl rfl (by decide) (Nat.le_refl _)⟩
set_option maxRecDepth 100000 in
set_option maxHeartbeats 4000000 in
theorem l15Roman_c (w : World) :
    Calls Tryz.prog 90 #[] w fun e w' => ∃ b cap, e = .returned (.slice b 12 cap) ∧ Ext w w' ∧ w'.ownsRow w.heap.size 99 3 (.slice b 12 cap) 12 (MT romM) := by
  go_enter Tryz.func90, Tryz.ntmps90
  go_wp2_with fail
  go_loopw [3, 4] (fun v i wr => ∃ j : Nat, j ≤ 12 ∧ i = .int .i64 (j : Int) ∧ wr.ownsRow (w.heap.size + 1 + 1) 99 3 v j (MT (romP j)) ∧ Ext w wr ∧ (∀ k q, romT[k]? = some q → wr.cell? ⟨w.heap.size, k, none⟩ = some (.string q.1) ∧ wr.cell? ⟨w.heap.size + 1, k, none⟩ = some (.int .i64 q.2)) ∧ w.heap.size + 1 < wr.heap.size) (fun _ i _ => 12 - (intOf i).toNat)
  case atStart => 
    refine ⟨0, by omega, rfl, (by rw [show MT (romP 0) = [] from rfl]; exact own_made _ #[] 0 (by simp) (by simp) (Nat.zero_le _) rfl), (by repeat (first | with_reducible exact Ext.refl _ | with_reducible assumption | with_reducible refine Ext.alloc ?_ _ | with_reducible refine Ext.drew ?_ | (with_reducible refine Ext.setAt ?_ _ _ _ ?_; rotate_left; omega) | with_reducible refine Ext.trans ?_ (by assumption) | with_reducible exact Past.bel _ | with_reducible refine Ext.trans ?_ (Past.bel _))), fun k q hq => ?_, by simp⟩
    have hk : k < 12 := (List.getElem?_eq_some_iff.1 hq).1
    obtain rfl | rfl | rfl | rfl | rfl | rfl | rfl | rfl | rfl | rfl | rfl | rfl : k = 0 ∨ k = 1 ∨ k = 2 ∨ k = 3 ∨ k = 4 ∨ k = 5 ∨ k = 6 ∨ k = 7 ∨ k = 8 ∨ k = 9 ∨ k = 10 ∨ k = 11 := by omega
    all_goals (obtain rfl : q = _ := Option.some.inj (hq.symm.trans rfl); simp [go_sem])
  case round =>
    obtain ⟨j, hj, rfl, ho, hx, hcl, hlt2⟩ := hrel
    have HO := Lib.hid ho
    have HC := Lib.hid hcl
    clear ho hcl
    have hsz := hx.size
    by_cases hlt : j < 12
    · have x1 : (j : Int) < 12 := by omega
      have x0 : (0 : Int) ≤ (j : Int) := by omega
      obtain ⟨q, hq⟩ : ∃ q, romT[j]? = some q := ⟨romT[j]'(by simpa [romT] using hlt), List.getElem?_eq_getElem _⟩
      obtain ⟨q1, q2⟩ := HC.out j q hq
      have SK : ∀ w', Ext wr w' → w'.cell? ⟨w.heap.size, j, none⟩ = some (.string q.1) ∧ w'.cell? ⟨w.heap.size + 1, j, none⟩ = some (.int .i64 q.2) := fun w' hq => by
        rw [hq.cell (by omega), hq.cell (by omega)]; exact ⟨q1, q2⟩
      have SK' := Lib.hid SK
      have SK2 := Lib.hid (show ∀ (W' W'' : World), Ext wr W' → (∀ b i, b < W'.heap.size → u3.ownBlock ≠ some b → W''.cell? ⟨b, i, none⟩ = W'.cell? ⟨b, i, none⟩) → W''.cell? ⟨w.heap.size, j, none⟩ = some (.string q.1) ∧ W''.cell? ⟨w.heap.size + 1, j, none⟩ = some (.int .i64 q.2) from fun W' W'' h1 h2 => by
        have hz1 := h1.size
        rw [h2 _ _ (by omega) (fun e => by have := (HO.out.lt _ e).1; omega), h2 _ _ (by omega) (fun e => by have := (HO.out.lt _ e).1; omega)]
        exact SK W' h1)
      have HQ := Lib.hid hq
      clear SK q1 q2 hq
      go_wp2_with fail
      go_region_held3 (fun w' => w'.cell? ⟨w.heap.size, j, none⟩ = some (.string q.1) ∧ w'.cell? ⟨w.heap.size + 1, j, none⟩ = some (.int .i64 q.2)) (first | (refine SK'.out _ ?_; ((repeat (first | with_reducible exact Ext.refl _ | with_reducible assumption | with_reducible refine Ext.alloc ?_ _ | with_reducible refine Ext.drew ?_ | (with_reducible refine Ext.setAt ?_ _ _ _ ?_; rotate_left; omega) | with_reducible refine Ext.trans ?_ (by assumption) | with_reducible exact Past.bel _ | with_reducible refine Ext.trans ?_ (Past.bel _))); done)) | exact SK2.out _ _ (by repeat (first | with_reducible exact Ext.refl _ | with_reducible assumption | with_reducible refine Ext.alloc ?_ _ | with_reducible refine Ext.drew ?_ | (with_reducible refine Ext.setAt ?_ _ _ _ ?_; rotate_left; omega) | with_reducible refine Ext.trans ?_ (by assumption) | with_reducible exact Past.bel _ | with_reducible refine Ext.trans ?_ (Past.bel _))) s8) ((refine appGs 24 99 _ _ _ 3 32 (by rfl) (by rfl) Tryz.underlying24 info_month rfl (by decide) (by decide) (w.heap.size + 1 + 1) _ j (MT (romP j)) 1 [.string q.1, .int .i64 q.2, .int .i64 q.2] _ 1 (by rfl) (by rfl) (own_ext HO.out (by repeat (first | with_reducible exact Ext.refl _ | with_reducible assumption | with_reducible refine Ext.alloc ?_ _ | with_reducible refine Ext.drew ?_ | (with_reducible refine Ext.setAt ?_ _ _ _ ?_; rotate_left; omega) | with_reducible refine Ext.trans ?_ (by assumption) | with_reducible exact Past.bel _ | with_reducible refine Ext.trans ?_ (Past.bel _)))) (Blk.new _ _ _) rfl (by intro u hu; simp at hu; rcases hu with rfl | rfl <;> rfl) (by omega) (by omega) (by omega) (Nat.le_trans (by omega) (Ext.size (w := wr) (by repeat (first | with_reducible exact Ext.refl _ | with_reducible assumption | with_reducible refine Ext.alloc ?_ _ | with_reducible refine Ext.drew ?_ | (with_reducible refine Ext.setAt ?_ _ _ _ ?_; rotate_left; omega) | with_reducible refine Ext.trans ?_ (by assumption) | with_reducible exact Past.bel _ | with_reducible refine Ext.trans ?_ (Past.bel _))))) ?_; intro v6 w6 s6 s7 s8))
      all_goals (go_wp2_with fail)
      have e6 : Ext w w6 := by
        refine Ext.grown ?_ s7 (fun q hq => by have := (HO.out.lt q hq).1; omega)
        ((repeat (first | with_reducible exact Ext.refl _ | with_reducible assumption | with_reducible refine Ext.alloc ?_ _ | with_reducible refine Ext.drew ?_ | (with_reducible refine Ext.setAt ?_ _ _ _ ?_; rotate_left; omega) | with_reducible refine Ext.trans ?_ (by assumption) | with_reducible exact Past.bel _ | with_reducible refine Ext.trans ?_ (Past.bel _))); done)
      have z6 := s7.size
      simp only [World.size_alloc, World.size_drew] at z6
      refine ⟨⟨j + 1, by omega, by go_num, ?_, e6, fun k q' hq' => ?_, by omega⟩, by simp [intOf]; omega⟩
      · have e1 : MT (romP (j + 1)) = MT (romP j) ++ [.string q.1, .int .i64 q.2, .int .i64 q.2] := by
          rw [romP, List.take_add_one, HQ.out, List.map_append, MT_app]; rfl
        rw [e1]; exact s6
      · obtain ⟨r1, r2⟩ := HC.out k q' hq'
        have hne1 : u3.ownBlock ≠ some w.heap.size := fun e => by have := (HO.out.lt _ e).1; omega
        have hne2 : u3.ownBlock ≠ some (w.heap.size + 1) := fun e => by have := (HO.out.lt _ e).1; omega
        rw [s8 _ _ (by simp only [World.size_alloc, World.size_drew]; omega) hne1, s8 _ _ (by simp only [World.size_alloc, World.size_drew]; omega) hne2]
        have hE : ∀ W, Ext wr W → W.cell? ⟨w.heap.size, k, none⟩ = some (.string q'.1) ∧ W.cell? ⟨w.heap.size + 1, k, none⟩ = some (.int .i64 q'.2) := fun W hq => by rw [hq.cell (by omega), hq.cell (by omega)]; exact ⟨r1, r2⟩
        exact hE _ (by repeat (first | with_reducible exact Ext.refl _ | with_reducible assumption | with_reducible refine Ext.alloc ?_ _ | with_reducible refine Ext.drew ?_ | (with_reducible refine Ext.setAt ?_ _ _ _ ?_; rotate_left; omega) | with_reducible refine Ext.trans ?_ (by assumption) | with_reducible exact Past.bel _ | with_reducible refine Ext.trans ?_ (Past.bel _)))
    · have x1 : ¬ (j : Int) < 12 := by omega
      obtain rfl : j = 12 := by omega
      obtain ⟨b, cap, rfl⟩ := own_form HO.out
      obtain ⟨g, rfl, hb1, hb2, hc⟩ := own_atK HO.out (by omega)
      obtain ⟨z1, z2⟩ := hc 5 (by omega)
      have z3 : wr.cell? ⟨g, 5, none⟩ = some (.int .i64 28) := z1
      clear hc z1
      go_wp2_with fail
      go_ret
      have := own_set (j := 5) HO.out (.int .i64 29)
      rw [rom_set] at this
      refine ⟨_, cap, rfl, ?_, own_base this (by omega)⟩
      exact Ext.setAt hx _ _ _ (by omega)
end Go.Proofs.YtpohhnihgegmfaaGreatDoor

namespace Go.Proofs.YtpohhnihgegmfaaGreatDoor
open Go.RowKit
set_option linter.unusedVariables false
set_option linter.unusedSimpArgs false

def egyS : ByteArray := ⟨#[101, 103, 121, 112, 116, 105, 97, 110]⟩
def fixS : ByteArray := ⟨#[102, 105, 120, 101, 100]⟩
def greS : ByteArray := ⟨#[103, 114, 101, 103, 111, 114, 105, 97, 110]⟩
def julS : ByteArray := ⟨#[106, 117, 108, 105, 97, 110]⟩
def egyM : List Mo := eqM 30 12 ++ [(⟨#[109, 49, 51]⟩, 5, 5)]
def fixM : List Mo := eqM 28 12 ++ [(⟨#[109, 49, 51]⟩, 29, 30)]
/-- a calendar with a code, in memory of its own -/
def NmR (w w' : World) (M : List Mo) (R : List Ru) (wk k : Int) (s : ByteArray) (e : Ending) : Prop :=
  ∃ a1 c1 a2 c2, e = .returned (.tuple #[.agg #[.string s, .slice a1 M.length c1, .slice a2 R.length c2, .int .i64 wk], .int .i64 k]) ∧ Ext w w' ∧ w'.ownsRow w.heap.size 99 3 (.slice a1 M.length c1) M.length (MT M) ∧ w'.ownsRow w.heap.size 101 3 (.slice a2 R.length c2) R.length (RT R) ∧ ((Value.slice a1 M.length c1).ownBlock = none ∨ (Value.slice a1 M.length c1).ownBlock ≠ (Value.slice a2 R.length c2).ownBlock) ∧ ((Value.slice a2 R.length c2).ownBlock = none ∨ (Value.slice a2 R.length c2).ownBlock ≠ (Value.slice a1 M.length c1).ownBlock)
theorem Blk.grown {w w' : World} {g : Nat} {T : TypeId} {cur : Array Value} {row : Option Nat} (h : Blk w g T cur) (hg : w.grownBy w' row) (hne : some g ≠ row) : Blk w' g T cur := (hg.block g h.lt hne).trans h
/-- the cells of a calendar's block -/
structure Cel (w : World) (g : Nat) (a b c d : Value) : Prop where
  lt : g < w.heap.size
  c0 : w.cell? ⟨g, 0, none⟩ = some a
  c1 : w.cell? ⟨g, 1, none⟩ = some b
  c2 : w.cell? ⟨g, 2, none⟩ = some c
  c3 : w.cell? ⟨g, 3, none⟩ = some d
  f0 : w.frozen? ⟨g, 0, none⟩ = false
  f1 : w.frozen? ⟨g, 1, none⟩ = false
  f2 : w.frozen? ⟨g, 2, none⟩ = false
  f3 : w.frozen? ⟨g, 3, none⟩ = false
theorem Blk.cel {w : World} {g : Nat} {T : TypeId} {a b c d : Value} (h : Blk w g T #[a, b, c, d]) : Cel w g a b c d := ⟨h.lt, h.cell 0, h.cell 1, h.cell 2, h.cell 3, h.frozen 0, h.frozen 1, h.frozen 2, h.frozen 3⟩
/-- 'append' of one month to months of its own -/
theorem app_month {w : World} {ops : Array Oper} {rest : List Oper} {o : Oper} {A : Act} {Q : Exit → Act → World → Prop} (s x : Operand)
    (hop : o.op = .call { callee := .builtin .append, args := #[s, x], argTypes := #[24, 24] }) (hgd : o.guard = none)
    (B : Nat) (v : Value) (n m : Nat) (xs : List Value) (nm : ByteArray) (d l : Int) (gb c : Nat) (hm : m = n + 1) (hs : A.eval s = v) (hx : A.eval x = .slice (some ⟨gb, 0, none⟩) 1 c) (h : w.ownsRow B 99 3 v n xs)
    (hc : Blk w gb 99 #[.string nm, .int .i64 d, .int .i64 l]) (hl : n ≤ 1048576) (h0 : B ≤ w.heap.size)
    (hK : ∀ b' c' w', w'.ownsRow B 99 3 (.slice b' m c') m (xs ++ MT [(nm, d, l)]) → w.grownBy w' v.ownBlock → wpList Tryz.prog ops Q rest (A.put o.dst (.slice b' m c')) w') : wpList Tryz.prog ops Q (o :: rest) A w := by
  subst hm
  refine appG 24 99 s x _ 3 32 hop hgd Tryz.underlying24 info_month rfl (by decide) (by decide) B v n xs 1 [.string nm, .int .i64 d, .int .i64 l] gb c hs hx h hc rfl (by intro u hu; simp at hu; rcases hu with rfl | rfl | rfl <;> rfl) (by omega) hl h0 ?_
  intro v' w' s6 s7
  obtain ⟨b', c', rfl⟩ := own_form s6
  exact hK b' c' w' s6 s7
theorem own_litg {w : World} {base g : Nat} {e : TypeId} {size n : Nat} (cur : Array Value) (xs : List Value) (hx : cur.toList = xs) (hs : xs.length = n * size) (hn : n ≤ maxLen) (hb : base ≤ w.heap.size) (hg : g = w.heap.size) : (w.alloc (.cells cur e)).ownsRow base e size (.slice (some ⟨g, 0, none⟩) n n) n xs := by
  subst hg; exact own_lit cur xs hx hs hn hb
theorem str_ne {s : ByteArray} {l : List UInt8} (h : s ≠ ⟨l.toArray⟩) : (s.toList == l) = false := by
  rw [ByteArray.toList_eq]
  refine Bool.eq_false_iff.2 fun e => h ?_
  have e' : s.data.toList = l := by simpa using e
  apply ByteArray.ext; rw [← e']
theorem own_low {w : World} {base : Nat} {e : TypeId} {size : Nat} {v : Value} {n : Nat} {xs : List Value} (h : w.ownsRow base e size v n xs) {b : Nat} (hb : b < base) (o : Nat) (u : Value) : (w.setCell ⟨b, o, none⟩ u).ownsRow base e size v n xs :=
  h.kept (grown_set b o u) (by
    cases hv : v.ownBlock with
    | none => exact .inl rfl
    | some k => refine .inr fun e => ?_; have := h.lt k hv; simp at e; omega)
theorem own_four {w : World} {base : Nat} {e : TypeId} {size : Nat} {v : Value} {n : Nat} {xs : List Value} (h : w.ownsRow base e size v n xs) {b : Nat} (hb : b < base) (u0 u1 u2 u3 : Value) : ((((w.setCell ⟨b, 0, none⟩ u0).setCell ⟨b, 1, none⟩ u1).setCell ⟨b, 2, none⟩ u2).setCell ⟨b, 3, none⟩ u3).ownsRow base e size v n xs :=
  own_low (own_low (own_low (own_low h hb _ _) hb _ _) hb _ _) hb _ _
theorem apart_none (a : Option Nat) : (a = none ∨ a ≠ none) := by cases a <;> simp
/-- the four cells of the result stored -/
theorem NmR.mk4 {w wX : World} {M : List Mo} {R : List Ru} {wk k : Int} {s : ByteArray} {a1 a2 : Option Addr} {n1 n2 c1 c2 : Nat} (hn1 : M.length = n1) (hn2 : R.length = n2) (hx : Ext w wX) (h1 : wX.ownsRow (w.heap.size + 1) 99 3 (.slice a1 n1 c1) n1 (MT M)) (h2 : wX.ownsRow (w.heap.size + 1) 101 3 (.slice a2 n2 c2) n2 (RT R))
    (hp : ((Value.slice a1 n1 c1).ownBlock = none ∨ (Value.slice a1 n1 c1).ownBlock ≠ (Value.slice a2 n2 c2).ownBlock) ∧ ((Value.slice a2 n2 c2).ownBlock = none ∨ (Value.slice a2 n2 c2).ownBlock ≠ (Value.slice a1 n1 c1).ownBlock)) (u0 u1 u2 u3 : Value) :
    NmR w ((((wX.setCell ⟨w.heap.size, 0, none⟩ u0).setCell ⟨w.heap.size, 1, none⟩ u1).setCell ⟨w.heap.size, 2, none⟩ u2).setCell ⟨w.heap.size, 3, none⟩ u3) M R wk k s (.returned (.tuple #[.agg #[.string s, .slice a1 n1 c1, .slice a2 n2 c2, .int .i64 wk], .int .i64 k])) := by
  subst hn1 hn2
  exact ⟨a1, c1, a2, c2, rfl, Ext.setAt (Ext.setAt (Ext.setAt (Ext.setAt hx _ _ _ (Nat.le_refl _)) _ _ _ (Nat.le_refl _)) _ _ _ (Nat.le_refl _)) _ _ _ (Nat.le_refl _), own_base (own_four h1 (by omega) _ _ _ _) (by omega), own_base (own_four h2 (by omega) _ _ _ _) (by omega), hp.1, hp.2⟩
set_option maxRecDepth 100000 in
set_option maxHeartbeats 4000000 in
theorem specNamed_egy (w : World) :
    Calls Tryz.prog 61 #[.string egyS] w fun e w' => NmR w w' egyM [] 10 0 egyS e := by
  rw [egyS]
  go_enter Tryz.func61, Tryz.ntmps61
  go_wp2_with fail
  have K0 := Blk.new w #[.string ⟨#[]⟩, .slice none 0 0, .slice none 0 0, .int .i64 0] 27
  refine (l15Equal_c 12 30 _ (by omega)).mono ?_
  rintro e w1 ⟨b, cap, rfl, hx1, ho1⟩
  have z1 := hx1.size
  simp only [World.size_alloc] at ho1 z1
  have HO := Lib.hid ho1
  have K1 := Lib.hid (K0.ext hx1)
  clear ho1 K0
  go_wp2_with (at_builtin; refine app_month _ _ rfl rfl (w.heap.size + 1) _ 12 13 (MT (eqM 30 12)) ⟨#[109, 49, 51]⟩ 5 5 _ 1 rfl rfl rfl (own_ext HO.out (by repeat (first | with_reducible exact Ext.refl _ | with_reducible assumption | with_reducible refine Ext.alloc ?_ _ | with_reducible refine Ext.drew ?_ | (with_reducible refine Ext.setAt ?_ _ _ _ ?_; rotate_left; omega) | with_reducible refine Ext.trans ?_ (by assumption) | with_reducible exact Past.bel _ | with_reducible refine Ext.trans ?_ (Past.bel _)))) (Blk.new _ _ _) (by omega) (Nat.le_trans z1 (Ext.size (w := w1) (by repeat (first | with_reducible exact Ext.refl _ | with_reducible assumption | with_reducible refine Ext.alloc ?_ _ | with_reducible refine Ext.drew ?_ | (with_reducible refine Ext.setAt ?_ _ _ _ ?_; rotate_left; omega) | with_reducible refine Ext.trans ?_ (by assumption) | with_reducible exact Past.bel _ | with_reducible refine Ext.trans ?_ (Past.bel _))))) ?_; intro b6 c6 w6 s6 s7; have K6 := (Blk.grown (K1.out.ext (w' := w1.alloc _) (by repeat (first | with_reducible exact Ext.refl _ | with_reducible assumption | with_reducible refine Ext.alloc ?_ _ | with_reducible refine Ext.drew ?_ | (with_reducible refine Ext.setAt ?_ _ _ _ ?_; rotate_left; omega) | with_reducible refine Ext.trans ?_ (by assumption) | with_reducible exact Past.bel _ | with_reducible refine Ext.trans ?_ (Past.bel _)))) s7 (fun e => by have := (HO.out.lt _ e.symm).1; omega)).cel; obtain ⟨k1, k2, k3, k4, k5, k6, k7, k8, k9⟩ := K6; have S6 := Lib.hid s6; have S7 := Lib.hid s7; clear s6 s7)
  have e6 : Ext w w6 := by
    refine Ext.grown ?_ S7.out (fun q hq => by have := (HO.out.lt q hq).1; omega)
    ((repeat (first | with_reducible exact Ext.refl _ | with_reducible assumption | with_reducible refine Ext.alloc ?_ _ | with_reducible refine Ext.drew ?_ | (with_reducible refine Ext.setAt ?_ _ _ _ ?_; rotate_left; omega) | with_reducible refine Ext.trans ?_ (by assumption) | with_reducible exact Past.bel _ | with_reducible refine Ext.trans ?_ (Past.bel _))); done)
  exact bodyPost_ret (v := .tuple #[.agg #[.string ⟨#[101, 103, 121, 112, 116, 105, 97, 110]⟩, .slice b6 13 c6, .slice none 0 0, .int .i64 10], .int .i64 0]) (by simp [results, Tryz.results61, go_sem, k2, k3, k4, k5]) rfl (NmR.mk4 rfl rfl e6 (by rw [egyM, MT_app]; exact S6.out) (World.ownsRow_nil _ _ _ _) ⟨apart_none _, .inl rfl⟩ _ _ _ _)
set_option maxRecDepth 100000 in
set_option maxHeartbeats 4000000 in
theorem specNamed_fix (w : World) :
    Calls Tryz.prog 61 #[.string fixS] w fun e w' => NmR w w' fixM gregR 7 0 fixS e := by
  rw [fixS]
  go_enter Tryz.func61, Tryz.ntmps61
  go_wp2_with fail
  have K0 := Blk.new w #[.string ⟨#[]⟩, .slice none 0 0, .slice none 0 0, .int .i64 0] 27
  refine (l15Equal_c 12 28 _ (by omega)).mono ?_
  rintro e w1 ⟨b, cap, rfl, hx1, ho1⟩
  have z1 := hx1.size
  simp only [World.size_alloc] at ho1 z1
  have HO := Lib.hid ho1
  have K1 := Lib.hid (K0.ext hx1)
  clear ho1 K0
  go_wp2_with (at_builtin; refine app_month _ _ rfl rfl (w.heap.size + 1) _ 12 13 (MT (eqM 28 12)) ⟨#[109, 49, 51]⟩ 29 30 _ 1 rfl rfl rfl (own_ext HO.out (by repeat (first | with_reducible exact Ext.refl _ | with_reducible assumption | with_reducible refine Ext.alloc ?_ _ | with_reducible refine Ext.drew ?_ | (with_reducible refine Ext.setAt ?_ _ _ _ ?_; rotate_left; omega) | with_reducible refine Ext.trans ?_ (by assumption) | with_reducible exact Past.bel _ | with_reducible refine Ext.trans ?_ (Past.bel _)))) (Blk.new _ _ _) (by omega) (Nat.le_trans z1 (Ext.size (w := w1) (by repeat (first | with_reducible exact Ext.refl _ | with_reducible assumption | with_reducible refine Ext.alloc ?_ _ | with_reducible refine Ext.drew ?_ | (with_reducible refine Ext.setAt ?_ _ _ _ ?_; rotate_left; omega) | with_reducible refine Ext.trans ?_ (by assumption) | with_reducible exact Past.bel _ | with_reducible refine Ext.trans ?_ (Past.bel _))))) ?_; intro b6 c6 w6 s6 s7; have K6 := Lib.hid (Blk.grown (K1.out.ext (w' := w1.alloc _) (by repeat (first | with_reducible exact Ext.refl _ | with_reducible assumption | with_reducible refine Ext.alloc ?_ _ | with_reducible refine Ext.drew ?_ | (with_reducible refine Ext.setAt ?_ _ _ _ ?_; rotate_left; omega) | with_reducible refine Ext.trans ?_ (by assumption) | with_reducible exact Past.bel _ | with_reducible refine Ext.trans ?_ (Past.bel _)))) s7 (fun e => by have := (HO.out.lt _ e.symm).1; omega)); have S6 := Lib.hid s6; have S7 := Lib.hid s7; clear s6 s7)
  have e6 : Ext w w6 := by
    refine Ext.grown ?_ S7.out (fun q hq => by have := (HO.out.lt q hq).1; omega)
    ((repeat (first | with_reducible exact Ext.refl _ | with_reducible assumption | with_reducible refine Ext.alloc ?_ _ | with_reducible refine Ext.drew ?_ | (with_reducible refine Ext.setAt ?_ _ _ _ ?_; rotate_left; omega) | with_reducible refine Ext.trans ?_ (by assumption) | with_reducible exact Past.bel _ | with_reducible refine Ext.trans ?_ (Past.bel _))); done)
  refine (l15Gregorian_c _).mono ?_
  rintro e w7 ⟨b7, rfl, hx7, ho7⟩
  have NE := Lib.hid (own_ne2 S6.out ho7 (Nat.le_refl _))
  have z7 := e6.size
  have z8 := K6.out.lt
  have O7 := Lib.hid (own_base (b0 := w.heap.size + 1) ho7 (by omega))
  have O6 := Lib.hid (own_ext S6.out hx7)
  obtain ⟨k1, k2, k3, k4, k5, k6, k7, k8, k9⟩ := (K6.out.ext hx7).cel
  have e7 := Ext.trans e6 hx7
  clear ho7
  go_wp2_with fail
  exact bodyPost_ret (v := .tuple #[.agg #[.string ⟨#[102, 105, 120, 101, 100]⟩, .slice b6 13 c6, .slice b7 3 3, .int .i64 7], .int .i64 0]) (by simp [results, Tryz.results61, go_sem, k2, k3, k4, k5]) rfl (NmR.mk4 rfl rfl e7 (by rw [fixM, MT_app]; exact O6.out) O7.out NE.out _ _ _ _)
set_option maxRecDepth 100000 in
set_option maxHeartbeats 4000000 in
theorem specNamed_gre (w : World) :
    Calls Tryz.prog 61 #[.string greS] w fun e w' => NmR w w' romM gregR 7 0 greS e := by
  rw [greS]
  go_enter Tryz.func61, Tryz.ntmps61
  go_wp2_with fail
  have K0 := Blk.new w #[.string ⟨#[]⟩, .slice none 0 0, .slice none 0 0, .int .i64 0] 27
  refine (l15Roman_c _).mono ?_
  rintro e w1 ⟨b6, c6, rfl, hx1, ho1⟩
  have z1 := hx1.size
  simp only [World.size_alloc] at ho1 z1
  have S6 := Lib.hid ho1
  have K6 := Lib.hid (K0.ext hx1)
  have e6 : Ext w w1 := Ext.trans (by repeat (first | with_reducible exact Ext.refl _ | with_reducible assumption | with_reducible refine Ext.alloc ?_ _ | with_reducible refine Ext.drew ?_ | (with_reducible refine Ext.setAt ?_ _ _ _ ?_; rotate_left; omega) | with_reducible refine Ext.trans ?_ (by assumption) | with_reducible exact Past.bel _ | with_reducible refine Ext.trans ?_ (Past.bel _))) hx1
  clear ho1 K0
  go_wp2_with fail
  refine (l15Gregorian_c _).mono ?_
  rintro e w7 ⟨b7, rfl, hx7, ho7⟩
  have NE := Lib.hid (own_ne2 S6.out ho7 (Nat.le_refl _))
  have O7 := Lib.hid (own_base (b0 := w.heap.size + 1) ho7 (by omega))
  have O6 := Lib.hid (own_ext S6.out hx7)
  obtain ⟨k1, k2, k3, k4, k5, k6, k7, k8, k9⟩ := (K6.out.ext hx7).cel
  have e7 := Ext.trans e6 hx7
  clear ho7
  go_wp2_with fail
  exact bodyPost_ret (v := .tuple #[.agg #[.string ⟨#[103, 114, 101, 103, 111, 114, 105, 97, 110]⟩, .slice b6 12 c6, .slice b7 3 3, .int .i64 7], .int .i64 0]) (by simp [results, Tryz.results61, go_sem, k2, k3, k4, k5]) rfl (NmR.mk4 rfl rfl e7 O6.out O7.out NE.out _ _ _ _)
set_option maxRecDepth 100000 in
set_option maxHeartbeats 4000000 in
theorem specNamed_jul (w : World) :
    Calls Tryz.prog 61 #[.string julS] w fun e w' => NmR w w' romM julR 7 0 julS e := by
  rw [julS]
  go_enter Tryz.func61, Tryz.ntmps61
  go_wp2_with fail
  have K0 := Blk.new w #[.string ⟨#[]⟩, .slice none 0 0, .slice none 0 0, .int .i64 0] 27
  refine (l15Roman_c _).mono ?_
  rintro e w1 ⟨b6, c6, rfl, hx1, ho1⟩
  have z1 := hx1.size
  simp only [World.size_alloc] at ho1 z1
  have S6 := Lib.hid ho1
  have K6 := Lib.hid (K0.ext hx1)
  have e6 : Ext w w1 := Ext.trans (by repeat (first | with_reducible exact Ext.refl _ | with_reducible assumption | with_reducible refine Ext.alloc ?_ _ | with_reducible refine Ext.drew ?_ | (with_reducible refine Ext.setAt ?_ _ _ _ ?_; rotate_left; omega) | with_reducible refine Ext.trans ?_ (by assumption) | with_reducible exact Past.bel _ | with_reducible refine Ext.trans ?_ (Past.bel _))) hx1
  clear ho1 K0
  obtain ⟨k1, k2, k3, k4, k5, k6, k7, k8, k9⟩ := K6.out.cel
  go_wp2_with fail
  refine bodyPost_ret (v := .tuple #[.agg #[.string ⟨#[106, 117, 108, 105, 97, 110]⟩, .slice b6 12 c6, .slice (some ⟨w1.heap.size, 0, none⟩) 1 1, .int .i64 7], .int .i64 0]) ?_ rfl ⟨b6, c6, some ⟨w1.heap.size, 0, none⟩, 1, rfl, ?_, own_base (own_ext (own_four S6.out (by omega) _ _ _ _) (Ext.alloc (Ext.refl _) _)) (by omega), own_litg _ (RT julR) rfl rfl (by decide) (by simp; omega) (by simp), ?_, ?_⟩
  · simp [results, Tryz.results61, go_sem, k1, k2, k3, k4, k5]
  · exact Ext.alloc (Ext.setAt (Ext.setAt (Ext.setAt (Ext.setAt e6 _ _ _ (Nat.le_refl _)) _ _ _ (Nat.le_refl _)) _ _ _ (Nat.le_refl _)) _ _ _ (Nat.le_refl _)) _
  · cases hv : (Value.slice b6 12 c6).ownBlock with
    | none => exact .inl hv
    | some k => exact .inr fun e => by have := (S6.out.lt k hv).2; have e' : (Value.slice b6 12 c6).ownBlock = some w1.heap.size := e; rw [hv] at e'; simp at e'; omega
  · exact .inr fun e => by have e' : (Value.slice b6 12 c6).ownBlock = some w1.heap.size := e.symm; have := (S6.out.lt _ e').2; omega
set_option maxRecDepth 100000 in
set_option maxHeartbeats 4000000 in
theorem specNamed_no (s : ByteArray) (w : World) (h1 : s ≠ egyS) (h2 : s ≠ fixS) (h3 : s ≠ greS) (h4 : s ≠ julS) :
    Calls Tryz.prog 61 #[.string s] w fun e w' => NmR w w' [] [] 0 3 ⟨#[]⟩ e := by
  have x1 := str_ne (l := [101, 103, 121, 112, 116, 105, 97, 110]) h1
  have x2 := str_ne (l := [102, 105, 120, 101, 100]) h2
  have x3 := str_ne (l := [103, 114, 101, 103, 111, 114, 105, 97, 110]) h3
  have x4 := str_ne (l := [106, 117, 108, 105, 97, 110]) h4
  clear h1 h2 h3 h4
  go_enter Tryz.func61, Tryz.ntmps61
  go_wp2_with fail
  refine bodyPost_ret (v := .tuple #[.agg #[.string ⟨#[]⟩, .slice none 0 0, .slice none 0 0, .int .i64 0], .int .i64 3]) (by simp [results, Tryz.results61, go_sem]) rfl ⟨none, 0, none, 0, rfl, ?_, World.ownsRow_nil _ _ _ _, World.ownsRow_nil _ _ _ _, .inl rfl, .inl rfl⟩
  ((repeat (first | with_reducible exact Ext.refl _ | with_reducible assumption | with_reducible refine Ext.alloc ?_ _ | with_reducible refine Ext.drew ?_ | (with_reducible refine Ext.setAt ?_ _ _ _ ?_; rotate_left; omega) | with_reducible refine Ext.trans ?_ (by assumption) | with_reducible exact Past.bel _ | with_reducible refine Ext.trans ?_ (Past.bel _))); done)
end Go.Proofs.YtpohhnihgegmfaaGreatDoor

namespace Go.Proofs.YtpohhnihgegmfaaGreatDoor
set_option linter.unusedVariables false
/-- the rules are valid -/
def rulB (ev rs : Nat → Int) (n : Nat) : Bool := rulTo ev rs n && decide (cyY ev n ≤ 2000) && decide (n ≤ 6)
theorem rulB_bad {ev rs : Nat → Int} {n k : Nat} (hk : k < n) (hb : (inB (ev k) 1 1000 && inB (rs k) 0 (ev k - 1)) = false) : rulB ev rs n = false := by rw [rulB, rulTo_ff hk hb]; rfl
theorem rulB_many {ev rs : Nat → Int} {n k : Nat} (hk : k ≤ n) (h : 2000 < cyY ev k) : rulB ev rs n = false := by
  have := cyY_stuck h n hk
  simp only [rulB, show decide (cyY ev n ≤ 2000) = false by simpa using this, Bool.and_false, Bool.false_and]
/-- what l15Years returns -/
structure YrR (ev rs : Nat → Int) (n : Nat) (x : Int) (b : Bool) : Prop where
  ok : b = rulB ev rs n
  yr : b = true → x = cyY ev n
end Go.Proofs.YtpohhnihgegmfaaGreatDoor

namespace Go.Proofs.YtpohhnihgegmfaaGreatDoor
set_option linter.unusedVariables false
/-- byte i of a text, as a number -/
def btN (s : ByteArray) (i : Nat) : Nat := (s.data.toList.getD i 0).toNat
/-- byte c may stand at place i of a name -/
def chN (i c : Nat) : Bool := decide ((97 ≤ c ∧ c ≤ 122) ∨ (i ≠ 0 ∧ ((48 ≤ c ∧ c ≤ 57) ∨ c = 45)))
def nmTo (s : ByteArray) : Nat → Bool
  | 0 => true
  | k + 1 => nmTo s k && chN k (btN s k)
theorem nmTo_ff {s : ByteArray} {n k : Nat} (hk : k < n) (h : chN k (btN s k) = false) : nmTo s n = false := by
  induction n with
  | zero => omega
  | succ n ih =>
    by_cases e : k = n
    · subst e; simp only [nmTo, h, Bool.and_false]
    · simp only [nmTo, ih (by omega), Bool.false_and]
/-- a text is a name -/
def isNm (s : ByteArray) : Bool := decide (1 ≤ s.size) && decide (s.size ≤ 12) && nmTo s s.size
theorem isNm_0 {s : ByteArray} (h : s.size < 1) : isNm s = false := by simp [isNm]; omega
theorem isNm_12 {s : ByteArray} (h : 12 < s.size) : isNm s = false := by simp [isNm]; omega
theorem isNm_ff {s : ByteArray} {k : Nat} (hk : k < s.size) (h : chN k (btN s k) = false) : isNm s = false := by simp [isNm, nmTo_ff hk h]
theorem isNm_tt {s : ByteArray} (h1 : 1 ≤ s.size) (h2 : s.size ≤ 12) (h : nmTo s s.size = true) : isNm s = true := by simp [isNm, h, h1, h2]
def chS (c : Nat) : Bool := decide (97 ≤ c ∧ c ≤ 122)
def chD (c : Nat) : Bool := decide (48 ≤ c ∧ c ≤ 57)
theorem btN_at {s : ByteArray} {j : Nat} (h : j < s.size) : s[j].toNat = btN s j := by
  have h' : j < s.data.size := h
  unfold btN
  rw [List.getD_eq_getElem?_getD, List.getElem?_eq_getElem (by simpa using h)]
  rfl
theorem chN_S {i c : Nat} (h : chS c = true) : chN i c = true := by simp [chS] at h; simp [chN]; omega
theorem chN_D {i c : Nat} (hi : i ≠ 0) (h : chD c = true) : chN i c = true := by simp [chD] at h; simp [chN]; omega
theorem chN_m {i c : Nat} (hi : i ≠ 0) (h : c = 45) : chN i c = true := by simp [chN]; omega
theorem chN_0 {c : Nat} (h : chS c = false) : chN 0 c = false := by simp [chS] at h; simp [chN]; omega
theorem chN_f {i c : Nat} (h : chS c = false) (h2 : chD c = false) (h3 : c ≠ 45) : chN i c = false := by simp [chS] at h; simp [chD] at h2; simp [chN]; omega
end Go.Proofs.YtpohhnihgegmfaaGreatDoor

namespace Go.Proofs.YtpohhnihgegmfaaGreatDoor
set_option linter.unusedVariables false
/-- none of the first j names is the one at place k -/
def frTo (nm : Nat → ByteArray) (k : Nat) : Nat → Bool
  | 0 => true
  | j + 1 => frTo nm k j && !decide (nm j = nm k)
theorem frTo_ff {nm : Nat → ByteArray} {k n j : Nat} (hj : j < n) (h : nm j = nm k) : frTo nm k n = false := by
  induction n with
  | zero => omega
  | succ n ih =>
    by_cases e : j = n
    · subst e; simp [frTo, h]
    · simp only [frTo, ih (by omega), Bool.false_and]
theorem frTo_at {nm : Nat → ByteArray} {k n j : Nat} (h : frTo nm k n = true) (hj : j < n) : ¬ nm j = nm k := fun e => by rw [frTo_ff hj e] at h; cases h
/-- month k is valid, as the one behind the first k -/
def monA (nm : Nat → ByteArray) (dy lp : Nat → Int) (k : Nat) : Bool := isNm (nm k) && (inB (dy k) 1 60 && (inB (lp k) 1 60 && frTo nm k k))
def monTo (nm : Nat → ByteArray) (dy lp : Nat → Int) : Nat → Bool
  | 0 => true
  | k + 1 => monTo nm dy lp k && monA nm dy lp k
theorem monTo_ff {nm : Nat → ByteArray} {dy lp : Nat → Int} {n k : Nat} (hk : k < n) (h : monA nm dy lp k = false) : monTo nm dy lp n = false := by
  induction n with
  | zero => omega
  | succ n ih =>
    by_cases e : k = n
    · subst e; simp only [monTo, h, Bool.and_false]
    · simp only [monTo, ih (by omega), Bool.false_and]
theorem monTo_at {nm : Nat → ByteArray} {dy lp : Nat → Int} {n k : Nat} (h : monTo nm dy lp n = true) (hk : k < n) : monA nm dy lp k = true := by
  cases e : monA nm dy lp k
  · rw [monTo_ff hk e] at h; cases h
  · rfl
theorem monA_1 {nm : Nat → ByteArray} {dy lp : Nat → Int} {k : Nat} (h : isNm (nm k) = false) : monA nm dy lp k = false := by simp [monA, h]
theorem monA_2 {nm : Nat → ByteArray} {dy lp : Nat → Int} {k : Nat} (h : inB (dy k) 1 60 = false) : monA nm dy lp k = false := by simp [monA, h]
theorem monA_3 {nm : Nat → ByteArray} {dy lp : Nat → Int} {k : Nat} (h : inB (lp k) 1 60 = false) : monA nm dy lp k = false := by simp [monA, h]
theorem monA_4 {nm : Nat → ByteArray} {dy lp : Nat → Int} {k : Nat} (h : frTo nm k k = false) : monA nm dy lp k = false := by simp [monA, h]
theorem monA_t {nm : Nat → ByteArray} {dy lp : Nat → Int} {k : Nat} (h1 : isNm (nm k) = true) (h2 : inB (dy k) 1 60 = true) (h3 : inB (lp k) 1 60 = true) (h4 : frTo nm k k = true) : monA nm dy lp k = true := by simp [monA, h1, h2, h3, h4]
def monB (nm : Nat → ByteArray) (dy lp : Nat → Int) (n : Nat) : Bool := monTo nm dy lp n && inB (n : Int) 1 20
/-- a calendar is valid: its name, the names of its months, its numbers, its week -/
def calB (s : ByteArray) (nm : Nat → ByteArray) (c : CalN) (wk : Int) : Bool := rulB c.ev c.rs c.nr && (isNm s && (monB nm c.dy c.lp c.n && inB wk 1 12))
theorem calB_b {s : ByteArray} {nm : Nat → ByteArray} {c : CalN} {wk : Int} (h : calB s nm c wk = true) : CalB c := by
  simp only [calB, monB, rulB, Bool.and_eq_true, decide_eq_true_eq, inB_t] at h
  obtain ⟨⟨⟨h1, h2⟩, h3⟩, h4, ⟨h5, h6⟩, h7⟩ := h
  have hm : ∀ j, j < c.n → inB (c.dy j) 1 60 = true ∧ inB (c.lp j) 1 60 = true := fun j hj => by
    have := monTo_at h5 hj
    simp only [monA, Bool.and_eq_true] at this
    exact ⟨this.2.1, this.2.2.1⟩
  exact ⟨h3, by omega, by omega, fun j hj => (rulTo_at h1 hj).1, fun j hj => (rulTo_at h1 hj).2, fun j hj => inB_t.1 (hm j hj).1, fun j hj => inB_t.1 (hm j hj).2, h2⟩
section
variable {s : ByteArray} {nm : Nat → ByteArray} {c : CalN} {wk : Int}
theorem calB_1 (h : isNm s = false) : calB s nm c wk = false := by simp [calB, h]
theorem calB_2 (h : inB (c.n : Int) 1 20 = false) : calB s nm c wk = false := by simp [calB, monB, h]
theorem calB_3 (h : 6 < c.nr) : calB s nm c wk = false := by simp [calB, rulB]; omega
theorem calB_4 (h : inB wk 1 12 = false) : calB s nm c wk = false := by simp [calB, h]
theorem calB_5 {k : Nat} (hk : k < c.n) (h : monA nm c.dy c.lp k = false) : calB s nm c wk = false := by simp [calB, monB, monTo_ff hk h]
theorem calB_6 {k : Nat} (hk : k < c.nr) (h : (inB (c.ev k) 1 1000 && inB (c.rs k) 0 (c.ev k - 1)) = false) : calB s nm c wk = false := by simp only [calB, rulB_bad hk h, Bool.false_and]
theorem calB_7 (h1 : isNm s = true) (h2 : inB (c.n : Int) 1 20 = true) (h3 : c.nr ≤ 6) (h4 : inB wk 1 12 = true) (h5 : monTo nm c.dy c.lp c.n = true) (h6 : rulTo c.ev c.rs c.nr = true) : calB s nm c wk = decide (cyY c.ev c.nr ≤ 2000) := by simp [calB, monB, rulB, h1, h2, h3, h4, h5, h6]
end
end Go.Proofs.YtpohhnihgegmfaaGreatDoor

namespace Go.Proofs.YtpohhnihgegmfaaGreatDoor
set_option linter.unusedVariables false
theorem egy_ok : calB egyS (nmOf egyM) (calOf egyM []) 10 = true := by decide +kernel
theorem fix_ok : calB fixS (nmOf fixM) (calOf fixM gregR) 7 = true := by decide +kernel
theorem gre_ok : calB greS (nmOf romM) (calOf romM gregR) 7 = true := by decide +kernel
theorem jul_ok : calB julS (nmOf romM) (calOf romM julR) 7 = true := by decide +kernel
end Go.Proofs.YtpohhnihgegmfaaGreatDoor

namespace Go.Proofs.YtpohhnihgegmfaaGreatDoor
set_option linter.unusedVariables false
def ownS : ByteArray := ⟨#[111, 119, 110]⟩
def mNm (j : Nat) : ByteArray := ⟨(109 :: Lib.itoa ((j : Int) + 1)).toArray⟩
/-- months named m1 and so on, of some days -/
def MonOk (M : List Mo) : Prop := ∀ (j : Nat) (q : Mo), M[j]? = some q → q.1 = mNm j ∧ (1 ≤ q.2.1 ∧ q.2.1 ≤ 60) ∧ (1 ≤ q.2.2 ∧ q.2.2 ≤ 60)
theorem monOk_nil : MonOk [] := fun j q h => by simp at h
theorem monOk_app {M : List Mo} (h : MonOk M) {d l : Int} (hd : 1 ≤ d ∧ d ≤ 60) (hl : 1 ≤ l ∧ l ≤ 60) : MonOk (M ++ [(mNm M.length, d, l)]) := fun j q hq => by
  by_cases hj : j < M.length
  · rw [List.getElem?_append_left hj] at hq; exact h j q hq
  · rw [List.getElem?_append_right (by omega)] at hq
    have e : j - M.length = 0 := by
      have := (List.getElem?_eq_some_iff.1 hq).1; simp at this; omega
    rw [e] at hq
    obtain rfl : (mNm M.length, d, l) = q := by simpa using hq
    exact ⟨by rw [show j = M.length by omega], hd, hl⟩
theorem mNm_ok : ∀ j, j < 6 → isNm (mNm j) = true := by decide +kernel
theorem mNm_ne : ∀ j, j < 6 → ∀ k, k < 6 → j ≠ k → mNm j ≠ mNm k := by decide +kernel
theorem frTo_all {nm : Nat → ByteArray} {k : Nat} : ∀ {n : Nat}, (∀ j, j < n → nm j ≠ nm k) → frTo nm k n = true
  | 0, _ => rfl
  | n + 1, h => by
    have h1 := frTo_all (nm := nm) (k := k) (n := n) fun j hj => h j (by omega)
    have h2 := h n (by omega)
    simp [frTo, h1, h2]
theorem monTo_all {nm : Nat → ByteArray} {dy lp : Nat → Int} : ∀ {n : Nat}, (∀ j, j < n → monA nm dy lp j = true) → monTo nm dy lp n = true
  | 0, _ => rfl
  | n + 1, h => by
    have h1 := monTo_all (nm := nm) (dy := dy) (lp := lp) (n := n) fun j hj => h j (by omega)
    simp [monTo, h1, h n (by omega)]
theorem monOk_at {M : List Mo} (h : MonOk M) {j : Nat} (hj : j < M.length) : nmOf M j = mNm j ∧ (1 ≤ (calOf M []).dy j ∧ (calOf M []).dy j ≤ 60) ∧ (1 ≤ (calOf M []).lp j ∧ (calOf M []).lp j ≤ 60) := by
  have hq : M[j]? = some (M.getD j (⟨#[]⟩, 0, 0)) := by rw [List.getD_eq_getElem?_getD, List.getElem?_eq_getElem hj]; rfl
  exact h j _ hq
theorem own_ok {M : List Mo} (h : MonOk M) (h1 : 1 ≤ M.length) (h6 : M.length ≤ 6) {wk : Int} (hw : 1 ≤ wk ∧ wk ≤ 12) : calB ownS (nmOf M) (calOf M []) wk = true := by
  have hn : isNm ownS = true := by decide +kernel
  have hm : monTo (nmOf M) (calOf M []).dy (calOf M []).lp M.length = true := monTo_all fun j hj => by
    obtain ⟨e, hd, hl⟩ := monOk_at h hj
    refine monA_t (by rw [e]; exact mNm_ok j (by omega)) (inB_t.2 hd) (inB_t.2 hl) (frTo_all fun i hi => ?_)
    rw [e, (monOk_at h (show i < M.length by omega)).1]
    exact mNm_ne i (by omega) j (by omega) (by omega)
  have hr : rulB (calOf M []).ev (calOf M []).rs (calOf M []).nr = true := rfl
  have h2 : inB (((calOf M []).n : Nat) : Int) 1 20 = true := inB_t.2 ⟨by show 1 ≤ ((M.length : Nat) : Int); omega, by show ((M.length : Nat) : Int) ≤ 20; omega⟩
  have h3 : inB wk 1 12 = true := inB_t.2 hw
  have hm' : monTo (nmOf M) (calOf M []).dy (calOf M []).lp (calOf M []).n = true := hm
  rw [calB, monB, hr, hn, hm', h2, h3]; rfl
theorem monOk_sz {M : List Mo} (h : MonOk M) (h6 : M.length ≤ 6) : ∀ i, i < M.length → (nmOf M i).size ≤ 12 := fun i hi => by
  rw [(monOk_at h hi).1]
  have := mNm_ok i (by omega)
  simp only [isNm, Bool.and_eq_true, decide_eq_true_eq] at this; exact this.1.2
/-- a name that is drawn names a calendar -/
theorem names_four (j : Nat) (hj : j < 4) : calNames.getD j ⟨#[]⟩ = egyS ∨ calNames.getD j ⟨#[]⟩ = fixS ∨ calNames.getD j ⟨#[]⟩ = greS ∨ calNames.getD j ⟨#[]⟩ = julS := by
  obtain rfl | rfl | rfl | rfl : j = 0 ∨ j = 1 ∨ j = 2 ∨ j = 3 := by omega
  · exact .inl rfl
  · exact .inr (.inl rfl)
  · exact .inr (.inr (.inl rfl))
  · exact .inr (.inr (.inr rfl))
end Go.Proofs.YtpohhnihgegmfaaGreatDoor

namespace Go.Proofs.YtpohhnihgegmfaaGreatDoor
open Go.RowKit
set_option linter.unusedVariables false
set_option linter.unusedSimpArgs false

theorem tmod_bd {a b : Int} (ha : 0 ≤ a) (hb : 0 < b) : a % b = a.tmod b ∧ 0 ≤ a % b ∧ a % b < b := ⟨by rw [Int.tmod_eq_emod_of_nonneg ha], Int.emod_nonneg _ (by omega), Int.emod_lt_of_pos _ hb⟩
set_option maxHeartbeats 400000 in
theorem l02Gcd_c (a b : Int) (w : World) (ha : 0 ≤ a) (hb : 0 ≤ b) (ha' : a ≤ 1000000000000) (hb' : b ≤ 1000000000000) :
    Calls Tryz.prog 86 #[.int .i64 a, .int .i64 b] w fun e w' => e = .returned (.int .i64 (gcdI a b)) ∧ w = w' := by
  go_enter Tryz.func86, Tryz.ntmps86
  go_wp2_with fail
  go_loop [0, 1] (fun x y => ∃ p q : Int, x = .int .i64 p ∧ y = .int .i64 q ∧ 0 ≤ p ∧ p ≤ 1000000000000 ∧ 0 ≤ q ∧ q ≤ 1000000000000 ∧ gcdI p q = gcdI a b) (fun _ y => (intOf y).toNat)
  case atStart => exact ⟨a, b, rfl, rfl, ha, ha', hb, hb', rfl⟩
  case round =>
    obtain ⟨p, q, rfl, rfl, p0, p1, q0, q1, hg⟩ := hrel
    have HG := Lib.hid hg
    clear hg
    by_cases h : 0 < q
    · obtain ⟨t0, t1, t2⟩ := tmod_bd p0 h
      have hs := gcdI_step p0 h
      rw [← t0] at hs
      have HSS := Lib.hid hs
      clear hs t0
      go_wp2_with fail
      exact ⟨⟨q, p % q, rfl, by go_num, by omega, by omega, by omega, by omega, HSS.out.trans HG.out⟩, by simp [intOf]; omega⟩
    · obtain rfl : q = 0 := by omega
      go_wp2_with fail
      go_ret
      exact ⟨ret_i64 (by rw [← HG.out, gcdI_zero p0]), rfl⟩
set_option maxHeartbeats 400000 in
theorem gcd_c (a b : Int) (w : World) (ha : 0 ≤ a) (hb : 0 ≤ b) (ha' : a ≤ 1000000000000) (hb' : b ≤ 1000000000000) :
    Calls Tryz.prog 81 #[.int .i64 a, .int .i64 b] w fun e w' => e = .returned (.int .i64 (gcdI a b)) ∧ Ext w w' := by
  go_enter Tryz.func81, Tryz.ntmps81
  go_wp2_with fail
  go_loopw [0, 1] (fun x y wr => ∃ p q : Int, x = .int .i64 p ∧ y = .int .i64 q ∧ 0 ≤ p ∧ p ≤ 1000000000000 ∧ 0 ≤ q ∧ q ≤ 1000000000000 ∧ Ext w wr ∧ gcdI p q = gcdI a b) (fun _ y _ => (intOf y).toNat)
  case atStart => exact ⟨a, b, rfl, rfl, ha, ha', hb, hb', (by repeat (first | with_reducible exact Ext.refl _ | with_reducible assumption | with_reducible refine Ext.alloc ?_ _ | with_reducible refine Ext.drew ?_ | (with_reducible refine Ext.setAt ?_ _ _ _ ?_; rotate_left; omega) | with_reducible refine Ext.trans ?_ (by assumption) | with_reducible exact Past.bel _ | with_reducible refine Ext.trans ?_ (Past.bel _))), rfl⟩
  case round =>
    obtain ⟨p, q, rfl, rfl, p0, p1, q0, q1, hbl, hg⟩ := hrel
    have HG := Lib.hid hg
    clear hg
    by_cases h : q = 0
    · subst h
      have x0 : ¬ p < 0 := by omega
      go_wp2_with fail
      go_ret
      exact ⟨ret_i64 (by rw [← HG.out, gcdI_zero p0]), (by repeat (first | with_reducible exact Ext.refl _ | with_reducible assumption | with_reducible refine Ext.alloc ?_ _ | with_reducible refine Ext.drew ?_ | (with_reducible refine Ext.setAt ?_ _ _ _ ?_; rotate_left; omega) | with_reducible refine Ext.trans ?_ (by assumption) | with_reducible exact Past.bel _ | with_reducible refine Ext.trans ?_ (Past.bel _)))⟩
    · have h' : 0 < q := by omega
      obtain ⟨t0, t1, t2⟩ := tmod_bd p0 h'
      have hs := gcdI_step p0 h'
      rw [← t0] at hs
      have HSS := Lib.hid hs
      have e0 : (q != 0) = true := by simpa using h
      clear hs t0 h
      go_wp2_with fail
      refine wp_region_past (by kernel_rfl) (by kernel_rfl) ?_
      repeat (go_big_quiet_step (fail))
      refine wpQuiet_nil ?_
      rintro _ ⟨wx, rfl⟩
      go_wp2_with fail
      exact ⟨⟨q, p % q, rfl, by go_num, by omega, by omega, by omega, by omega, (by repeat (first | with_reducible exact Ext.refl _ | with_reducible assumption | with_reducible refine Ext.alloc ?_ _ | with_reducible refine Ext.drew ?_ | (with_reducible refine Ext.setAt ?_ _ _ _ ?_; rotate_left; omega) | with_reducible refine Ext.trans ?_ (by assumption) | with_reducible exact Past.bel _ | with_reducible refine Ext.trans ?_ (Past.bel _))), HSS.out.trans HG.out⟩, by simp [intOf]; omega⟩
end Go.Proofs.YtpohhnihgegmfaaGreatDoor

namespace Go.Proofs.YtpohhnihgegmfaaGreatDoor
open Go.RowKit
set_option linter.unusedVariables false
set_option linter.unusedSimpArgs false

theorem tdiv_nn {a b : Int} (ha : 0 ≤ a) : a.tdiv b = a / b := Int.tdiv_eq_ediv_of_nonneg ha
set_option maxHeartbeats 1000000 in
theorem cycleYears_c (a : Option Addr) (n c : Nat) (ev rs : Nat → Int) (lf : Nat → Bool) (w : World) (hn : n ≤ 1048576) (hs : R3 w a n ev rs lf) (he : ∀ j, j < n → 1 ≤ ev j ∧ ev j ≤ 1000) :
    Calls Tryz.prog 46 #[.slice a n c] w fun e w' => e = .returned (.int .i64 (cyY ev n)) ∧ Ext w w' := by
  have HS := Lib.hid hs
  have HE := Lib.hid he
  clear hs he
  go_enter Tryz.func46, Tryz.ntmps46
  go_wp2_with fail
  go_loopw [3, 8] (fun y i wr => ∃ j : Nat, j ≤ n ∧ i = .int .i64 j ∧ y = .int .i64 (cyY ev j) ∧ Ext w wr) (fun _ i _ => n - (intOf i).toNat)
  case atStart => exact ⟨0, by omega, rfl, rfl, (by repeat (first | with_reducible exact Ext.refl _ | with_reducible assumption | with_reducible refine Ext.alloc ?_ _ | with_reducible refine Ext.drew ?_ | (with_reducible refine Ext.setAt ?_ _ _ _ ?_; rotate_left; omega) | with_reducible refine Ext.trans ?_ (by assumption) | with_reducible exact Past.bel _ | with_reducible refine Ext.trans ?_ (Past.bel _)))⟩
  case round =>
    obtain ⟨j, hj, rfl, rfl, hbl⟩ := hrel
    by_cases hlt : j < n
    · obtain ⟨b1, o1, rfl, hb1, q1, q2, q3⟩ := (R3.ext HS.out hbl).at hlt
      obtain ⟨y0, y1, g0, d0, d1, p0, p1⟩ := cyS (ev := ev) (k := j) fun i hi => HE.out i (by omega)
      have e1 := HE.out j hlt
      by_cases h2 : cyY ev j ≤ 2000
      · have st : cyY ev (j + 1) = cyY ev j / gcdI (cyY ev j) (ev j) * ev j := by simp only [cyY]; rw [if_pos h2]
        have ST := Lib.hid st
        obtain ⟨Y, hY⟩ : ∃ Y, Y = cyY ev j := ⟨_, rfl⟩
        rw [← hY] at y0 y1 g0 d0 d1 p0 p1 h2 ⊢
        obtain ⟨G, hG⟩ : ∃ G, G = gcdI Y (ev j) := ⟨_, rfl⟩
        rw [← hG] at g0 d0 d1 p0 p1
        have w1 := IntWalk.i64_in (Y / G) (by have := d1 h2; omega)
        have w2 := IntWalk.i64_in (Y / G * ev j) (by have := p1 h2; omega)
        have t1 : Y.tdiv G = Y / G := tdiv_nn (by omega)
        have cg : ∀ W, Calls Tryz.prog 81 #[.int .i64 Y, .int .i64 (ev j)] W fun e w' => e = .returned (.int .i64 G) ∧ Ext W w' := fun W => by
          rw [hG]; exact gcd_c _ _ _ (by omega) (by omega) (by omega) (by omega)
        have CG := Lib.hid cg
        have HY := Lib.hid hY
        have HG := Lib.hid hG
        clear st cg hY hG
        go_wp2_with fail
        refine wp_region_past (by kernel_rfl) (by kernel_rfl) ?_
        repeat (go_big_quiet_step ((go_at_call 81; exact Calls.past (CG.out _))))
        refine wpQuiet_nil ?_
        rintro _ ⟨wx, rfl⟩
        go_wp2_with fail
        exact ⟨⟨j + 1, by omega, by go_num, congrArg _ (by rw [ST.out, ← HY.out, ← HG.out]), (by repeat (first | with_reducible exact Ext.refl _ | with_reducible assumption | with_reducible refine Ext.alloc ?_ _ | with_reducible refine Ext.drew ?_ | (with_reducible refine Ext.setAt ?_ _ _ _ ?_; rotate_left; omega) | with_reducible refine Ext.trans ?_ (by assumption) | with_reducible exact Past.bel _ | with_reducible refine Ext.trans ?_ (Past.bel _)))⟩, by simp [intOf]; omega⟩
      · have st : cyY ev (j + 1) = cyY ev j := by simp only [cyY]; rw [if_neg h2]
        have ST := Lib.hid st
        clear st
        go_wp2_with fail
        exact ⟨⟨j + 1, by omega, by go_num, by rw [ST.out], (by repeat (first | with_reducible exact Ext.refl _ | with_reducible assumption | with_reducible refine Ext.alloc ?_ _ | with_reducible refine Ext.drew ?_ | (with_reducible refine Ext.setAt ?_ _ _ _ ?_; rotate_left; omega) | with_reducible refine Ext.trans ?_ (by assumption) | with_reducible exact Past.bel _ | with_reducible refine Ext.trans ?_ (Past.bel _)))⟩, by simp [intOf]; omega⟩
    · obtain rfl : j = n := by omega
      go_wp2_with fail
      go_ret
      exact ⟨rfl, (by repeat (first | with_reducible exact Ext.refl _ | with_reducible assumption | with_reducible refine Ext.alloc ?_ _ | with_reducible refine Ext.drew ?_ | (with_reducible refine Ext.setAt ?_ _ _ _ ?_; rotate_left; omega) | with_reducible refine Ext.trans ?_ (by assumption) | with_reducible exact Past.bel _ | with_reducible refine Ext.trans ?_ (Past.bel _)))⟩
end Go.Proofs.YtpohhnihgegmfaaGreatDoor

namespace Go.Proofs.YtpohhnihgegmfaaGreatDoor
open Go.RowKit
set_option linter.unusedVariables false
set_option linter.unusedSimpArgs false

set_option maxHeartbeats 1000000 in
theorem isLeap_c (ra : Option Addr) (n rc : Nat) (ev rs : Nat → Int) (lf : Nat → Bool) (y : Int) (w : World) (hn : n ≤ 1048576) (hy : 0 ≤ y) (hy' : y ≤ 1000000000000) (hs : R3 w ra n ev rs lf) (he : ∀ j, j < n → 1 ≤ ev j ∧ ev j ≤ 1000) (nm : ByteArray) (a : Option Addr) (mn mc : Nat) (k : Int) :
    Calls Tryz.prog 56 #[.agg #[.string nm, .slice a mn mc, .slice ra n rc, .int .i64 k], .int .i64 y] w fun e w' => e = .returned (.bool (lpTo ev rs lf y n)) ∧ Ext w w' := by
  have HS := Lib.hid hs
  have HE := Lib.hid he
  clear hs he
  go_enter Tryz.func56, Tryz.ntmps56
  go_wp2_with fail
  go_loopw [5, 11] (fun b i wr => ∃ j : Nat, j ≤ n ∧ i = .int .i64 j ∧ b = .bool (lpTo ev rs lf y j) ∧ Ext w wr) (fun _ i _ => n - (intOf i).toNat)
  case atStart => exact ⟨0, by omega, rfl, rfl, (by repeat (first | with_reducible exact Ext.refl _ | with_reducible assumption | with_reducible refine Ext.alloc ?_ _ | with_reducible refine Ext.drew ?_ | (with_reducible refine Ext.setAt ?_ _ _ _ ?_; rotate_left; omega) | with_reducible refine Ext.trans ?_ (by assumption) | with_reducible exact Past.bel _ | with_reducible refine Ext.trans ?_ (Past.bel _)))⟩
  case round =>
    obtain ⟨j, hj, rfl, rfl, hbl⟩ := hrel
    by_cases hlt : j < n
    · obtain ⟨b1, o1, rfl, hb1, q1, q2, q3⟩ := (R3.ext HS.out hbl).at hlt
      have hev := HE.out j hlt
      obtain ⟨t0, t1, t2⟩ := tmod_bd hy (show 0 < ev j by omega)
      by_cases h : y % ev j = rs j
      · have hb0 : (y % ev j == rs j) = true := by simpa using h
        have H := Lib.hid h
        clear h t0
        go_wp2_with fail
        refine wp_region_past (by kernel_rfl) (by kernel_rfl) ?_
        repeat (go_big_quiet_step (fail))
        refine wpQuiet_nil ?_
        rintro _ ⟨wx, rfl⟩
        go_wp2_with fail
        exact ⟨⟨j + 1, by omega, by go_num, by simp [lpTo, H.out], (by repeat (first | with_reducible exact Ext.refl _ | with_reducible assumption | with_reducible refine Ext.alloc ?_ _ | with_reducible refine Ext.drew ?_ | (with_reducible refine Ext.setAt ?_ _ _ _ ?_; rotate_left; omega) | with_reducible refine Ext.trans ?_ (by assumption) | with_reducible exact Past.bel _ | with_reducible refine Ext.trans ?_ (Past.bel _)))⟩, by simp [intOf]; omega⟩
      · have hb0 : (y % ev j == rs j) = false := by simpa using h
        have H := Lib.hid h
        clear h t0
        go_wp2_with fail
        refine wp_region_past (by kernel_rfl) (by kernel_rfl) ?_
        repeat (go_big_quiet_step (fail))
        refine wpQuiet_nil ?_
        rintro _ ⟨wx, rfl⟩
        go_wp2_with fail
        exact ⟨⟨j + 1, by omega, by go_num, by simp [lpTo, H.out], (by repeat (first | with_reducible exact Ext.refl _ | with_reducible assumption | with_reducible refine Ext.alloc ?_ _ | with_reducible refine Ext.drew ?_ | (with_reducible refine Ext.setAt ?_ _ _ _ ?_; rotate_left; omega) | with_reducible refine Ext.trans ?_ (by assumption) | with_reducible exact Past.bel _ | with_reducible refine Ext.trans ?_ (Past.bel _)))⟩, by simp [intOf]; omega⟩
    · obtain rfl : j = n := by omega
      go_wp2_with fail
      go_ret
      exact ⟨rfl, (by repeat (first | with_reducible exact Ext.refl _ | with_reducible assumption | with_reducible refine Ext.alloc ?_ _ | with_reducible refine Ext.drew ?_ | (with_reducible refine Ext.setAt ?_ _ _ _ ?_; rotate_left; omega) | with_reducible refine Ext.trans ?_ (by assumption) | with_reducible exact Past.bel _ | with_reducible refine Ext.trans ?_ (Past.bel _)))⟩
end Go.Proofs.YtpohhnihgegmfaaGreatDoor

namespace Go.Proofs.YtpohhnihgegmfaaGreatDoor
open Go.RowKit
set_option linter.unusedVariables false
set_option linter.unusedSimpArgs false

set_option maxHeartbeats 1000000 in
theorem yearLengths_c (s : ByteArray) (ma ra : Option Addr) (n mc rn rc : Nat) (wk : Int) (nm : Nat → ByteArray) (dy lp : Nat → Int) (w : World) (hn : n ≤ 1048576) (hs : S3 w ma n nm dy lp) (h20 : n ≤ 20) (hb : ∀ j, j < n → (1 ≤ dy j ∧ dy j ≤ 60) ∧ 1 ≤ lp j ∧ lp j ≤ 60) :
    Calls Tryz.prog 59 #[.agg #[.string s, .slice ma n mc, .slice ra rn rc, .int .i64 wk]] w fun e w' => e = .returned (.tuple #[.int .i64 (sm dy n), .int .i64 (sm lp n)]) ∧ Ext w w' := by
  have HS := Lib.hid hs
  have HB := Lib.hid hb
  clear hs hb
  go_enter Tryz.func59, Tryz.ntmps59
  go_wp2_with fail
  go_loopw [4, 5, 11] (fun a b i wr => ∃ j : Nat, j ≤ n ∧ i = .int .i64 j ∧ a = .int .i64 (sm dy j) ∧ b = .int .i64 (sm lp j) ∧ Ext w wr) (fun _ _ i _ => n - (intOf i).toNat)
  case atStart => exact ⟨0, by omega, rfl, rfl, rfl, (by repeat (first | with_reducible exact Ext.refl _ | with_reducible assumption | with_reducible refine Ext.alloc ?_ _ | with_reducible refine Ext.drew ?_ | (with_reducible refine Ext.setAt ?_ _ _ _ ?_; rotate_left; omega) | with_reducible refine Ext.trans ?_ (by assumption) | with_reducible exact Past.bel _ | with_reducible refine Ext.trans ?_ (Past.bel _)))⟩
  case round =>
    obtain ⟨j, hj, rfl, rfl, rfl, hbl⟩ := hrel
    by_cases hlt : j < n
    · obtain ⟨b1, o1, rfl, hb1, q1, q2, q3⟩ := (S3.ext HS.out hbl).at hlt
      have h1 := sm_bd (f := dy) (A := 1) (B := 60) (k := j) fun i hi => (HB.out i (by omega)).1
      have h2 := sm_bd (f := lp) (A := 1) (B := 60) (k := j) fun i hi => (HB.out i (by omega)).2
      obtain ⟨h3, h4⟩ := HB.out j hlt
      go_wp2_with fail
      exact ⟨⟨j + 1, by omega, by go_num, rfl, rfl, (by repeat (first | with_reducible exact Ext.refl _ | with_reducible assumption | with_reducible refine Ext.alloc ?_ _ | with_reducible refine Ext.drew ?_ | (with_reducible refine Ext.setAt ?_ _ _ _ ?_; rotate_left; omega) | with_reducible refine Ext.trans ?_ (by assumption) | with_reducible exact Past.bel _ | with_reducible refine Ext.trans ?_ (Past.bel _)))⟩, by simp [intOf]; omega⟩
    · obtain rfl : j = n := by omega
      go_wp2_with fail
      go_ret2
      exact ⟨rfl, (by repeat (first | with_reducible exact Ext.refl _ | with_reducible assumption | with_reducible refine Ext.alloc ?_ _ | with_reducible refine Ext.drew ?_ | (with_reducible refine Ext.setAt ?_ _ _ _ ?_; rotate_left; omega) | with_reducible refine Ext.trans ?_ (by assumption) | with_reducible exact Past.bel _ | with_reducible refine Ext.trans ?_ (Past.bel _)))⟩
end Go.Proofs.YtpohhnihgegmfaaGreatDoor
