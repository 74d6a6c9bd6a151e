/- Calendars: copied, compared. Decimal numerals, digit by digit from the last. No program in sight. Decimal numerals: the reference's. Lists of months and rules in memory of their own; appends of whole structs. No program in sight. Months of equal length. The reference's given calendars: their months and rules. The reference's given calendars. The texts of marks. No program in sight. The texts of marks; lists of texts. Lists of texts: compared, marked; the names of calendars. -/
import Derived.Test.YtppphpnimecgpaaDoorBa
import Derived.Lib.ItoaNum
import Derived.RowKitTokens
import Derived.Test.YtppphpnimecgpaaDoorRows
import Derived.Lib.AppendIntMem
import Derived.Laws.IdiomStrings
import Derived.Laws.Concat

namespace Go.Proofs.YtppphpnimecgpaaDoor
open Go.RowKit
set_option linter.unusedVariables false
set_option linter.unusedSimpArgs false

theorem toMonthS_o (a : Option Addr) (n c : Nat) (nm : Nat → ByteArray) (dy lp : Nat → Int) (w : World) (hn : n ≤ 1048576) (hs : S3 w a n nm dy lp) :
    Calls Tryd.prog 50 #[.slice a n c] w fun e w' => ∃ g xs, e = .returned (.slice (some ⟨g, 0, none⟩) n n) ∧ Ext w w' ∧ S3 w' (some ⟨g, 0, none⟩) n nm dy lp ∧ w'.ownsRow w.heap.size 63 3 (.slice (some ⟨g, 0, none⟩) n n) n xs :=
  (toMonthS_c a n c nm dy lp w hn hs).mono fun e w' ⟨cur, he, hx, hb, hz, hc⟩ => ⟨_, cur.toList, he, hx, C3.s3 hb hc, by simpa using hz, .inr ⟨_, n, cur, rfl, Nat.le_refl _, hb, Nat.le_refl _, by unfold maxLen; omega, hz, by rw [← hz]; exact List.take_of_length_le (by simp)⟩⟩
theorem toLeapRuleS_o (a : Option Addr) (n c : Nat) (ev rs : Nat → Int) (lf : Nat → Bool) (w : World) (hn : n ≤ 1048576) (hs : R3 w a n ev rs lf) :
    Calls Tryd.prog 51 #[.slice a n c] w fun e w' => ∃ g xs, e = .returned (.slice (some ⟨g, 0, none⟩) n n) ∧ Ext w w' ∧ R3 w' (some ⟨g, 0, none⟩) n ev rs lf ∧ w'.ownsRow w.heap.size 67 3 (.slice (some ⟨g, 0, none⟩) n n) n xs :=
  (toLeapRuleS_c a n c ev rs lf w hn hs).mono fun e w' ⟨cur, he, hx, hb, hz, hc⟩ => ⟨_, cur.toList, he, hx, C3.r3 hb hc, by simpa using hz, .inr ⟨_, n, cur, rfl, Nat.le_refl _, hb, Nat.le_refl _, by unfold maxLen; omega, hz, by rw [← hz]; exact List.take_of_length_le (by simp)⟩⟩
theorem S3.set {w : World} {g n : Nat} {nm : Nat → ByteArray} {dy lp : Nat → Int} (h : S3 w (some ⟨g, 0, none⟩) n nm dy lp) {b : Nat} (hb : b ≠ g) (o : Nat) (u : Value) : S3 (w.setCell ⟨b, o, none⟩ u) (some ⟨g, 0, none⟩) n nm dy lp := fun hn => by
  obtain ⟨b', off', e, hl, hc⟩ := h hn
  obtain ⟨rfl, rfl⟩ : b' = g ∧ off' = 0 := by simp at e; exact ⟨e.1.symm, e.2.symm⟩
  have hx := grown_set (w := w) b o u
  refine ⟨b', 0, rfl, by simpa using hl, fun j hj => ?_⟩
  obtain ⟨c1, c2, c3⟩ := hc j hj
  refine ⟨?_, ?_, ?_⟩ <;> (rw [World.cell?_of_block (hx.block b' hl (fun e => hb (by simpa using e.symm)))]; assumption)
theorem R3.set {w : World} {g n : Nat} {ev rs : Nat → Int} {lf : Nat → Bool} (h : R3 w (some ⟨g, 0, none⟩) n ev rs lf) {b : Nat} (hb : b ≠ g) (o : Nat) (u : Value) : R3 (w.setCell ⟨b, o, none⟩ u) (some ⟨g, 0, none⟩) n ev rs lf := fun hn => by
  obtain ⟨b', off', e, hl, hc⟩ := h hn
  obtain ⟨rfl, rfl⟩ : b' = g ∧ off' = 0 := by simp at e; exact ⟨e.1.symm, e.2.symm⟩
  have hx := grown_set (w := w) b o u
  refine ⟨b', 0, rfl, by simpa using hl, fun j hj => ?_⟩
  obtain ⟨c1, c2, c3⟩ := hc j hj
  refine ⟨?_, ?_, ?_⟩ <;> (rw [World.cell?_of_block (hx.block b' hl (fun e => hb (by simpa using e.symm)))]; assumption)
theorem own_off {w : World} {base : Nat} {e : TypeId} {size g n cap : Nat} {xs : List Value} (h : w.ownsRow base e size (.slice (some ⟨g, 0, none⟩) n cap) n xs) {b : Nat} (hb : b ≠ g) (o : Nat) (u : Value) : (w.setCell ⟨b, o, none⟩ u).ownsRow base e size (.slice (some ⟨g, 0, none⟩) n cap) n xs :=
  h.kept (grown_set b o u) (.inr (fun e => hb (by simpa [Value.ownBlock] using e.symm)))
/-- a calendar's months and rules in memory -/
structure CalM (w : World) (ma ra : Option Addr) (nm : Nat → ByteArray) (c : CalN) : Prop where
  mo : S3 w ma c.n nm c.dy c.lp
  ru : R3 w ra c.nr c.ev c.rs c.lf
theorem CalM.ext {w w' : World} {ma ra : Option Addr} {nm : Nat → ByteArray} {c : CalN} (h : CalM w ma ra nm c) (e : Ext w w') : CalM w' ma ra nm c := ⟨h.mo.ext e, h.ru.ext e⟩
set_option maxHeartbeats 1000000 in
theorem toCalendar_c (s : ByteArray) (ma ra : Option Addr) (mc rc : Nat) (wk : Int) (nm : Nat → ByteArray) (c : CalN) (w : World) (hm : c.n ≤ 1048576) (hr : c.nr ≤ 1048576) (h : CalM w ma ra nm c) :
    Calls Tryd.prog 25 #[.agg #[.string s, .slice ma c.n mc, .slice ra c.nr rc, .int .i64 wk]] w fun e w' => ∃ g1 g2 xs ys, e = .returned (.agg #[.string s, .slice (some ⟨g1, 0, none⟩) c.n c.n, .slice (some ⟨g2, 0, none⟩) c.nr c.nr, .int .i64 wk]) ∧ Ext w w' ∧ CalM w' (some ⟨g1, 0, none⟩) (some ⟨g2, 0, none⟩) nm c ∧
      w'.ownsRow w.heap.size 63 3 (.slice (some ⟨g1, 0, none⟩) c.n c.n) c.n xs ∧ w'.ownsRow w.heap.size 67 3 (.slice (some ⟨g2, 0, none⟩) c.nr c.nr) c.nr ys ∧ g1 ≠ g2 := by
  have H := Lib.hid h
  clear h
  go_enter Tryd.func25, Tryd.ntmps25
  go_wp2_with fail
  refine (toMonthS_o _ _ _ _ _ _ _ hm (H.out.mo.ext (by repeat (first | with_reducible exact Ext.refl _ | with_reducible assumption | with_reducible refine Ext.alloc ?_ _ | with_reducible refine Ext.drew ?_ | (with_reducible refine Ext.setAt ?_ _ _ _ ?_; rotate_left; omega) | with_reducible refine Ext.trans ?_ (by assumption) | with_reducible exact Past.bel _ | with_reducible refine Ext.trans ?_ (Past.bel _))))).mono ?_
  rintro e w' ⟨g1, xs, rfl, hx1, hs1, ho1⟩
  have HS1 := Lib.hid hs1
  have HO1 := Lib.hid ho1
  clear hs1 ho1
  have z1 := hx1.size
  simp only [World.size_alloc] at z1
  have a0 : w.heap.size < w'.heap.size := by omega
  have a1 : w.heap.size + 1 < w'.heap.size := by omega
  have a2 : w.heap.size + 1 + 1 < w'.heap.size := by omega
  have c0 : w'.cell? ⟨w.heap.size, 0, none⟩ = some (.string s) := by rw [hx1.cell (by simp <;> omega)]; simp [go_sem]
  have c2 : w'.cell? ⟨w.heap.size, 2, none⟩ = some (.slice ra c.nr rc) := by rw [hx1.cell (by simp <;> omega)]; simp [go_sem]
  have c3 : w'.cell? ⟨w.heap.size, 3, none⟩ = some (.int .i64 wk) := by rw [hx1.cell (by simp <;> omega)]; simp [go_sem]
  have d0 : w'.cell? ⟨w.heap.size + 1 + 1, 0, none⟩ = some (.string s) := by rw [hx1.cell (by simp <;> omega)]; simp [go_sem]
  have d1 : w'.cell? ⟨w.heap.size + 1 + 1, 1, none⟩ = some (.slice none 0 0) := by rw [hx1.cell (by simp <;> omega)]; simp [go_sem]
  have d2 : w'.cell? ⟨w.heap.size + 1 + 1, 2, none⟩ = some (.slice none 0 0) := by rw [hx1.cell (by simp <;> omega)]; simp [go_sem]
  have d3 : w'.cell? ⟨w.heap.size + 1 + 1, 3, none⟩ = some (.int .i64 0) := by rw [hx1.cell (by simp <;> omega)]; simp [go_sem]
  have f1 : w'.frozen? ⟨w.heap.size + 1 + 1, 1, none⟩ = false := by rw [Below.frozen (p := ⟨w.heap.size + 1 + 1, 1, none⟩) hx1 (by simp <;> omega)]; simp [go_sem]
  have f2 : w'.frozen? ⟨w.heap.size + 1 + 1, 2, none⟩ = false := by rw [Below.frozen (p := ⟨w.heap.size + 1 + 1, 2, none⟩) hx1 (by simp <;> omega)]; simp [go_sem]
  have f3 : w'.frozen? ⟨w.heap.size + 1 + 1, 3, none⟩ = false := by rw [Below.frozen (p := ⟨w.heap.size + 1 + 1, 3, none⟩) hx1 (by simp <;> omega)]; simp [go_sem]
  have r0 : ∀ j, j < 4 → ∃ v, w'.cell? ⟨w.heap.size + 1, j, none⟩ = some v ∧ w'.frozen? ⟨w.heap.size + 1, j, none⟩ = false := fun j hj => by
    obtain rfl | rfl | rfl | rfl : j = 0 ∨ j = 1 ∨ j = 2 ∨ j = 3 := by omega
    all_goals (refine ⟨_, by rw [hx1.cell (by simp <;> omega)]; simp [go_sem]; rfl, ?_⟩; rw [Below.frozen (p := ⟨w.heap.size + 1, _, none⟩) hx1 (by simp <;> omega)]; simp [go_sem])
  have R0 := Lib.hid r0
  clear r0
  have hxw : Ext w w' := Ext.trans (by repeat (first | with_reducible exact Ext.refl _ | with_reducible assumption | with_reducible refine Ext.alloc ?_ _ | with_reducible refine Ext.drew ?_ | (with_reducible refine Ext.setAt ?_ _ _ _ ?_; rotate_left; omega) | with_reducible refine Ext.trans ?_ (by assumption) | with_reducible exact Past.bel _ | with_reducible refine Ext.trans ?_ (Past.bel _))) hx1
  clear hx1 z1
  go_wp2_with fail
  refine (toLeapRuleS_o _ _ _ _ _ _ _ hr (H.out.ru.ext (by repeat (first | with_reducible exact Ext.refl _ | with_reducible assumption | with_reducible refine Ext.alloc ?_ _ | with_reducible refine Ext.drew ?_ | (with_reducible refine Ext.setAt ?_ _ _ _ ?_; rotate_left; omega) | with_reducible refine Ext.trans ?_ (by assumption) | with_reducible exact Past.bel _ | with_reducible refine Ext.trans ?_ (Past.bel _))))).mono ?_
  rintro e w'' ⟨g2, ys, rfl, hx2, hs2, ho2⟩
  have HS2 := Lib.hid hs2
  have HO2 := Lib.hid ho2
  clear hs2 ho2
  have z2 := hx2.size
  simp only [World.size_setCell] at z2
  have b3 : w''.cell? ⟨w.heap.size, 3, none⟩ = some (.int .i64 wk) := by rw [hx2.cell (by simp <;> omega)]; simp [go_sem, c3]
  have b0 : w''.cell? ⟨w.heap.size + 1 + 1, 0, none⟩ = some (.string s) := by rw [hx2.cell (by simp <;> omega)]; simp [go_sem, d0]
  have b1 : w''.cell? ⟨w.heap.size + 1 + 1, 1, none⟩ = some (.slice (some ⟨g1, 0, none⟩) c.n c.n) := by rw [hx2.cell (by simp <;> omega)]; simp [go_sem, d1]
  have b2 : w''.cell? ⟨w.heap.size + 1 + 1, 2, none⟩ = some (.slice none 0 0) := by rw [hx2.cell (by simp <;> omega)]; simp [go_sem, d2]
  have b4 : w''.cell? ⟨w.heap.size + 1 + 1, 3, none⟩ = some (.int .i64 0) := by rw [hx2.cell (by simp <;> omega)]; simp [go_sem, d3]
  have h2 : w''.frozen? ⟨w.heap.size + 1 + 1, 2, none⟩ = false := by rw [Below.frozen (p := ⟨w.heap.size + 1 + 1, 2, none⟩) hx2 (by simp <;> omega)]; simp [go_sem, f2]
  have h3 : w''.frozen? ⟨w.heap.size + 1 + 1, 3, none⟩ = false := by rw [Below.frozen (p := ⟨w.heap.size + 1 + 1, 3, none⟩) hx2 (by simp <;> omega)]; simp [go_sem, f3]
  have r0 : ∀ j, j < 4 → ∃ v, w''.cell? ⟨w.heap.size + 1, j, none⟩ = some v ∧ w''.frozen? ⟨w.heap.size + 1, j, none⟩ = false := fun j hj => by
    obtain ⟨v, hv, hf⟩ := R0.out j hj
    refine ⟨v, by rw [hx2.cell (by simp <;> omega)]; simp [go_sem, hv], ?_⟩
    rw [Below.frozen (p := ⟨w.heap.size + 1, j, none⟩) hx2 (by simp <;> omega)]; simp [go_sem, hf]
  obtain ⟨v0, p0, q0⟩ := r0 0 (by omega)
  obtain ⟨v1, p1, q1⟩ := r0 1 (by omega)
  obtain ⟨v2, p2, q2⟩ := r0 2 (by omega)
  obtain ⟨v3, p3, q3⟩ := r0 3 (by omega)
  have HX2 := Lib.hid hx2
  have HXW := Lib.hid hxw
  have hg1 : g1 < w'.heap.size := (HO1.out.lt g1 rfl).2
  have hg2 := (HO2.out.lt g2 rfl).1
  simp only [World.size_setCell] at hg2
  have hg3 := (HO1.out.lt g1 rfl).1
  simp only [World.size_alloc] at hg3
  have S1' := Lib.hid ((HS1.out.set (b := w.heap.size + 1 + 1) (by omega) 1 (.slice (some ⟨g1, 0, none⟩) c.n c.n)).ext hx2)
  have O1' := Lib.hid (own_ext (own_off (b := w.heap.size + 1 + 1) HO1.out (by omega) 1 (.slice (some ⟨g1, 0, none⟩) c.n c.n)) hx2)
  have N1 : w.heap.size + 1 + 1 ≠ g1 := by omega
  have N2 : w.heap.size + 1 ≠ g1 := by omega
  have N3 : w.heap.size + 1 + 1 ≠ g2 := by omega
  have N4 : w.heap.size + 1 ≠ g2 := by omega
  have N5 : g1 ≠ g2 := by omega
  have NN := Lib.hid (And.intro N1 (And.intro N2 (And.intro N3 (And.intro N4 N5))))
  clear hx2 hxw r0 c0 c2 c3 d0 d1 d2 d3 f1 f2 f3 N1 N2 N3 N4 N5 hg3 hg1 hg2
  go_wp2_with fail
  obtain ⟨N1, N2, N3, N4, N5⟩ := NN.out
  have hxw := HXW.out
  have hx2 := HX2.out
  refine bodyPost_ret (v := .agg #[.string s, .slice (some ⟨g1, 0, none⟩) c.n c.n, .slice (some ⟨g2, 0, none⟩) c.nr c.nr, .int .i64 wk]) (by simp [results, Tryd.results25, go_sem, p0, p1, p2, p3]) rfl ⟨g1, g2, xs, ys, rfl, (by repeat (first | with_reducible exact Ext.refl _ | with_reducible assumption | with_reducible refine Ext.alloc ?_ _ | with_reducible refine Ext.drew ?_ | (with_reducible refine Ext.setAt ?_ _ _ _ ?_; rotate_left; omega) | with_reducible refine Ext.trans ?_ (by assumption) | with_reducible exact Past.bel _ | with_reducible refine Ext.trans ?_ (Past.bel _))), ⟨?_, ?_⟩, ?_, ?_, N5⟩
  · exact (((((S1'.out.set N1 _ _).set N1 _ _).set N2 _ _).set N2 _ _).set N2 _ _).set N2 _ _
  · exact (((((HS2.out.set N3 _ _).set N3 _ _).set N4 _ _).set N4 _ _).set N4 _ _).set N4 _ _
  · exact own_base (own_off (own_off (own_off (own_off (own_off (own_off O1'.out N1 _ _) N1 _ _) N2 _ _) N2 _ _) N2 _ _) N2 _ _) (by simp only [World.size_alloc]; omega)
  · exact own_base (own_off (own_off (own_off (own_off (own_off (own_off HO2.out N3 _ _) N3 _ _) N4 _ _) N4 _ _) N4 _ _) N4 _ _) (by simp only [World.size_setCell]; omega)
end Go.Proofs.YtppphpnimecgpaaDoor

namespace Go.Proofs.YtppphpnimecgpaaDoor
set_option linter.unusedVariables false
/-- the digits of u; none for 0 -/
def digs (u : Nat) : List UInt8 := if u = 0 then [] else Lib.decDigits u
theorem digs_zero : digs 0 = [] := rfl
theorem digs_step {u : Nat} (h : 0 < u) : digs u = digs (u / 10) ++ [UInt8.ofNat (48 + u % 10)] := by
  rw [digs, if_neg (by omega)]
  by_cases h1 : u < 10
  · have e1 : u / 10 = 0 := by omega
    have e2 : u % 10 = u := by omega
    rw [e1, e2, digs_zero, Lib.decDigits, dif_pos h1]; rfl
  · rw [digs, if_neg (by omega), Lib.decDigits, dif_neg h1]
theorem digs_pos {u : Nat} (h : 0 < u) : digs u = Lib.decDigits u := if_neg (by omega)
/-- a number with a sign -/
def sg (b : Bool) (u : Nat) : Int := if b then -(u : Int) else u
theorem itoa_neg {u : Nat} (h : 0 < u) : Lib.itoa (-(u : Int)) = 45 :: digs u := by
  rw [Lib.itoa, if_pos (by omega), digs_pos h]; congr 1; simp
theorem itoa_pos {u : Nat} (h : 0 < u) : Lib.itoa (u : Int) = digs u := by
  rw [Lib.itoa, if_neg (by omega), digs_pos h]; rfl
theorem itoa_zero : Lib.itoa 0 = [48] := by
  rw [Lib.itoa, if_neg (by omega)]; exact Lib.decDigits_one (by decide)
theorem digs_len : ∀ (k u : Nat), u < 10 ^ k → (digs u).length ≤ k
  | 0, u, h => by have : u = 0 := by simpa using h
                  subst this; simp [digs_zero]
  | k + 1, u, h => by
    by_cases h0 : u = 0
    · subst h0; simp [digs_zero]
    · rw [digs_step (by omega), List.length_append]
      have := digs_len k (u / 10) (by rw [Nat.pow_succ] at h; omega)
      simp; omega
theorem u8_dig {d : Nat} (h : d < 10) : ((UInt8.ofNat (48 + d)).toNat : Int) = 48 + d := by
  have : (UInt8.ofNat (48 + d)).toNat = 48 + d := by rw [UInt8.toNat_ofNat']; omega
  rw [this]; omega
end Go.Proofs.YtppphpnimecgpaaDoor

namespace Go.Proofs.YtppphpnimecgpaaDoor
open Go.RowKit
set_option linter.unusedVariables false
set_option linter.unusedSimpArgs false

/-- a text out of bytes -/
def tx (l : List UInt8) : Value := .string ⟨l.toArray⟩
theorem info_u8 : (Tryd.prog.info? 5).map (fun i => (i.zero, i.size, i.bytes)) = some (some (.int .u8 0), 1, 1) := by kernel_rfl
theorem addr_add (b o j : Nat) : (⟨b, o, none⟩ : Addr).add j = ⟨b, o + j, none⟩ := by unfold Addr.add; split <;> simp_all
theorem ba_app (a b : List UInt8) : (⟨a.toArray⟩ : ByteArray) ++ ⟨b.toArray⟩ = ⟨(a ++ b).toArray⟩ := by
  apply ByteArray.ext; simp [ByteArray.data_append]
/-- a literal of one cell is owned -/
theorem own_lit1 {w : World} {base : Nat} {e : TypeId} (u : Value) (hb : base ≤ w.heap.size) : (w.alloc (.cells #[u] e)).ownsRow base e 1 (.slice (some ⟨w.heap.size, 0, none⟩) 1 1) 1 [u] :=
  ⟨rfl, .inr ⟨w.heap.size, 1, #[u], rfl, hb, heap_alloc_new w _, Nat.le_refl _, by decide, rfl, rfl⟩⟩
/-- 'append(own, out...)' of bytes -/
theorem appb {P : Program} {w : World} {ops : Array Oper} {rest : List Oper} {o : Oper} {A : Act} {Q : Exit → Act → World → Prop} (t e : TypeId) (s x : Operand)
    (hop : o.op = .call { callee := .builtin .append, args := #[s, x], argTypes := #[t, t] }) (hgd : o.guard = none)
    (ht : P.underlying t = some (.slice e)) (hinfo : (P.info? e).map (fun i => (i.zero, i.size, i.bytes)) = some (some (.int .u8 0), 1, 1))
    (B : Nat) (v : Value) (n : Nat) (l : List Value) (l2 : List UInt8) (g c : Nat) (hs : A.eval s = v) (hx : A.eval x = .slice (some ⟨g, 0, none⟩) l2.length c) (hown : w.ownsRow B e 1 v n l)
    (hc : ∀ (j : Nat) (u : Value), (Lib.byteCells l2)[j]? = some u → w.cell? ⟨g, j, none⟩ = some u) (hl : n + l2.length ≤ 1048576) (h0 : B ≤ w.heap.size)
    (hK : ∀ v' w', w'.ownsRow B e 1 v' (n + l2.length) (l ++ Lib.byteCells l2) → w.grownBy w' v.ownBlock → wpList P ops Q rest (A.put o.dst v') w') : wpList P ops Q (o :: rest) A w := by
  obtain ⟨i, hi, hz', hsz, hb⟩ := info_parts hinfo
  refine wpList_append_own (P := P) w hgd s x t hop B e i _ 1 1 ht hi hz' hsz hb rfl (by decide) v n l hs hown ⟨g, 0, none⟩ l2.length c (Lib.byteCells l2) hx (by rw [Lib.byteCells_length, Nat.mul_one]) ?_ ?_ (by unfold maxLen; omega) (by omega) h0 ?_
  · intro j u hu
    have := hc j u hu
    rwa [addr_add, Nat.zero_add]
  · intro u hu
    simp only [Lib.byteCells, List.mem_map] at hu
    obtain ⟨b, _, rfl⟩ := hu; rfl
  · intro v' w' h1 h2 _
    exact hK v' w' h1 h2
theorem own_bytes {w : World} {base : Nat} {e : TypeId} {g n cap : Nat} {l : List UInt8} (h : w.ownsRow base e 1 (.slice (some ⟨g, 0, none⟩) n cap) n (Lib.byteCells l)) : ∀ (j : Nat) (u : Value), (Lib.byteCells l)[j]? = some u → w.cell? ⟨g, j, none⟩ = some u := fun j u hu => by
  have hj : j < n := by
    have h1 := (List.getElem?_eq_some_iff.1 hu).1
    have h2 := h.1
    omega
  obtain ⟨g', e', _, _, h2, _⟩ := own_at h hj
  obtain rfl : g = g' := by simpa using e'
  exact h2.trans hu
theorem byte_cons {l : List UInt8} {u : Nat} : [Value.int .u8 (48 + (u : Int) % 10)] ++ Lib.byteCells l = Lib.byteCells (UInt8.ofNat (48 + u % 10) :: l) := by
  have h := u8_dig (d := u % 10) (by omega)
  have e : Lib.byteCells (UInt8.ofNat (48 + u % 10) :: l) = .int .u8 ((UInt8.ofNat (48 + u % 10)).toNat : Int) :: Lib.byteCells l := rfl
  rw [e, h]; rfl
set_option maxRecDepth 100000 in
set_option maxHeartbeats 4000000 in
theorem l01Dec_c (n : Int) (w : World) (h0 : -9223372036854775808 ≤ n) (h1 : n ≤ 9223372036854775807) :
    Calls Tryd.prog 57 #[.int .i64 n] w fun e w' => e = .returned (tx (Lib.itoa n)) ∧ Ext w w' := by
  go_enter Tryd.func57, Tryd.ntmps57
  go_wp2_with fail
  obtain ⟨bb, N, hn, hN⟩ : ∃ (bb : Bool) (N : Nat), n = sg bb N ∧ (bb = true → 0 < N) := by
    by_cases h : n < 0
    · exact ⟨true, n.natAbs, by simp [sg]; omega, fun _ => by omega⟩
    · exact ⟨false, n.natAbs, by simp [sg]; omega, fun e => by cases e⟩
  have hNb : N < 10 ^ 19 := by
    cases bb <;> simp [sg] at hn <;> omega
  have hNB : N ≤ 9223372036854775808 := by
    cases bb <;> simp [sg] at hn <;> omega
  go_loopw [3, 4, 5] (fun v3 v4 v5 wr => ∃ (u : Nat) (l : List UInt8) (g cap : Nat), digs N = digs u ++ l ∧ u ≤ N ∧ v4 = .int .i64 (sg bb u) ∧ (v5 = undef ∨ ∃ d, v5 = .int .i64 d) ∧ v3 = .slice (some ⟨g, 0, none⟩) l.length cap ∧ wr.ownsRow w.heap.size 5 1 v3 l.length (Lib.byteCells l) ∧ Ext w wr) (fun _ v4 _ _ => (intOf v4).natAbs)
  case atStart => exact ⟨N, [], w.heap.size, 0, by simp, Nat.le_refl _, by rw [hn], .inl rfl, rfl, World.ownsRow_made _ #[] 0 (Nat.le_refl _) (Nat.zero_le _) rfl, (by repeat (first | with_reducible exact Ext.refl _ | with_reducible assumption | with_reducible refine Ext.alloc ?_ _ | with_reducible refine Ext.drew ?_ | (with_reducible refine Ext.setAt ?_ _ _ _ ?_; rotate_left; omega) | with_reducible refine Ext.trans ?_ (by assumption) | with_reducible exact Past.bel _ | with_reducible refine Ext.trans ?_ (Past.bel _)))⟩
  case round =>
    obtain ⟨u, l, g, cap, hd, hu, rfl, hv5, rfl, ho, hx⟩ := hrel
    have HO := Lib.hid ho
    clear ho
    by_cases h0 : u = 0
    · subst h0
      have b0 : sg bb 0 = 0 := by cases bb <;> rfl
      have hd0 : digs N = l := by rw [hd, digs_zero]; rfl
      have hconv := run_convert_bytes_back (P := Tryd.prog) wr 81 9 5 ⟨g, 0, none⟩ cap l Tryd.underlying81 Tryd.underlying5 Tryd.underlying9 (fun j hj => by
        rw [addr_add, Nat.zero_add]
        exact own_bytes HO.out j _ (by rw [Lib.byteCells]; simp [hj]))
      rw [b0]
      by_cases hN0 : N = 0
      · obtain rfl : l = [] := by rw [← hd0, hN0]; rfl
        have hn0 : n = 0 := by rw [hn, hN0]; cases bb <;> rfl
        go_wp2_with fail
        go_ret
        exact ⟨by rw [hn0, itoa_zero]; rfl, (by repeat (first | with_reducible exact Ext.refl _ | with_reducible assumption | with_reducible refine Ext.alloc ?_ _ | with_reducible refine Ext.drew ?_ | (with_reducible refine Ext.setAt ?_ _ _ _ ?_; rotate_left; omega) | with_reducible refine Ext.trans ?_ (by assumption) | with_reducible exact Past.bel _ | with_reducible refine Ext.trans ?_ (Past.bel _)))⟩
      · have hll : l.length ≤ 19 := by rw [← hd0]; exact digs_len 19 N hNb
        have hl0 : 0 < l.length := by rw [← hd0, digs_step (u := N) (by omega)]; simp
        have hb1 : ((l.length : Int) == 0) = false := beq_eq_false_iff_ne.2 (by omega)
        have hb2 : ¬ (l.length : Int) = 0 := by omega
        clear hd
        cases bb
        · have hn1 : ¬ n < 0 := by rw [hn]; show ¬ (N : Int) < 0; omega
          have hi : Lib.itoa n = l := by rw [hn, ← hd0]; exact itoa_pos (by omega)
          have HI := Lib.hid hi
          clear hd0 hn hi
          go_wp2_with fail
          go_ret
          exact ⟨by rw [HI.out]; rfl, hx⟩
        · have hn1 : n < 0 := by rw [hn]; simp [sg]; omega
          have hi : Lib.itoa n = 45 :: l := by rw [hn, ← hd0]; exact itoa_neg (by omega)
          have HI := Lib.hid hi
          clear hd0 hn hi
          go_wp2_with fail
          go_ret
          exact ⟨by rw [HI.out]; exact congrArg (fun x => Ending.returned (Value.string x)) (ba_app [45] l), hx⟩
    · have hll : l.length ≤ 19 := by
        have a1 := digs_len 19 N hNb
        rw [hd, List.length_append] at a1
        omega
      have hsz := hx.size
      have e0 : ((u : Int) != 0) = true := by simp; omega
      have e1 : ((-(u : Int)) != 0) = true := by simp; omega
      have hd' : digs N = digs (u / 10) ++ (UInt8.ofNat (48 + u % 10) :: l) := by rw [hd, digs_step (by omega)]; simp
      cases bb
      · have e2 : ¬ (u : Int) % 10 < 0 := by omega
        rw [show sg false u = (u : Int) from rfl]
        clear hd hn hv5
        go_wp2_with (at_builtin; refine appb 81 5 _ _ rfl rfl Tryd.underlying81 info_u8 w.heap.size _ 1 _ l g _ rfl rfl (own_lit1 _ hsz) (own_bytes (own_ext HO.out (by repeat (first | with_reducible exact Ext.refl _ | with_reducible assumption | with_reducible refine Ext.alloc ?_ _ | with_reducible refine Ext.drew ?_ | (with_reducible refine Ext.setAt ?_ _ _ _ ?_; rotate_left; omega) | with_reducible refine Ext.trans ?_ (by assumption) | with_reducible exact Past.bel _ | with_reducible refine Ext.trans ?_ (Past.bel _))))) (by omega) (by simp; omega) ?_; intro v6 w6 s6 s7)
        rw [byte_cons, Nat.add_comm] at s6
        obtain ⟨b9, c9, rfl⟩ := own_form s6
        obtain ⟨g9, rfl, _⟩ := own_at s6 (j := 0) (by omega)
        have hx6 : Ext w w6 := (show Ext w (wr.alloc _) from (by repeat (first | with_reducible exact Ext.refl _ | with_reducible assumption | with_reducible refine Ext.alloc ?_ _ | with_reducible refine Ext.drew ?_ | (with_reducible refine Ext.setAt ?_ _ _ _ ?_; rotate_left; omega) | with_reducible refine Ext.trans ?_ (by assumption) | with_reducible exact Past.bel _ | with_reducible refine Ext.trans ?_ (Past.bel _)))).grown s7 (fun q hq => by cases hq; exact hsz)
        exact ⟨⟨u / 10, UInt8.ofNat (48 + u % 10) :: l, g9, c9, hd', by omega, congrArg (Value.int .i64) (show (u : Int) / 10 = ((u / 10 : Nat) : Int) from by omega), .inr ⟨_, rfl⟩, rfl, s6, hx6⟩, by simp [intOf]; omega⟩
      · rw [show sg true u = -(u : Int) from rfl]
        clear hd hn hv5
        by_cases e3 : 0 < (u : Int) % 10
        · go_wp2_with (at_builtin; refine appb 81 5 _ _ rfl rfl Tryd.underlying81 info_u8 w.heap.size _ 1 _ l g _ rfl rfl (own_lit1 _ hsz) (own_bytes (own_ext HO.out (by repeat (first | with_reducible exact Ext.refl _ | with_reducible assumption | with_reducible refine Ext.alloc ?_ _ | with_reducible refine Ext.drew ?_ | (with_reducible refine Ext.setAt ?_ _ _ _ ?_; rotate_left; omega) | with_reducible refine Ext.trans ?_ (by assumption) | with_reducible exact Past.bel _ | with_reducible refine Ext.trans ?_ (Past.bel _))))) (by omega) (by simp; omega) ?_; intro v6 w6 s6 s7)
          rw [byte_cons, Nat.add_comm] at s6
          obtain ⟨b9, c9, rfl⟩ := own_form s6
          obtain ⟨g9, rfl, _⟩ := own_at s6 (j := 0) (by omega)
          have hx6 : Ext w w6 := (show Ext w (wr.alloc _) from (by repeat (first | with_reducible exact Ext.refl _ | with_reducible assumption | with_reducible refine Ext.alloc ?_ _ | with_reducible refine Ext.drew ?_ | (with_reducible refine Ext.setAt ?_ _ _ _ ?_; rotate_left; omega) | with_reducible refine Ext.trans ?_ (by assumption) | with_reducible exact Past.bel _ | with_reducible refine Ext.trans ?_ (Past.bel _)))).grown s7 (fun q hq => by cases hq; exact hsz)
          exact ⟨⟨u / 10, UInt8.ofNat (48 + u % 10) :: l, g9, c9, hd', by omega, congrArg (Value.int .i64) (show -((u : Int) / 10) = -((u / 10 : Nat) : Int) from by omega), .inr ⟨_, rfl⟩, rfl, s6, hx6⟩, by simp [intOf]; omega⟩
        · go_wp2_with (at_builtin; refine appb 81 5 _ _ rfl rfl Tryd.underlying81 info_u8 w.heap.size _ 1 _ l g _ rfl rfl (own_lit1 _ hsz) (own_bytes (own_ext HO.out (by repeat (first | with_reducible exact Ext.refl _ | with_reducible assumption | with_reducible refine Ext.alloc ?_ _ | with_reducible refine Ext.drew ?_ | (with_reducible refine Ext.setAt ?_ _ _ _ ?_; rotate_left; omega) | with_reducible refine Ext.trans ?_ (by assumption) | with_reducible exact Past.bel _ | with_reducible refine Ext.trans ?_ (Past.bel _))))) (by omega) (by simp; omega) ?_; intro v6 w6 s6 s7)
          have e5 : (48 : Int) + -((u : Int) % 10) = 48 + (u : Int) % 10 := by omega
          rw [e5] at s6
          rw [byte_cons, Nat.add_comm] at s6
          obtain ⟨b9, c9, rfl⟩ := own_form s6
          obtain ⟨g9, rfl, _⟩ := own_at s6 (j := 0) (by omega)
          have hx6 : Ext w w6 := (show Ext w (wr.alloc _) from (by repeat (first | with_reducible exact Ext.refl _ | with_reducible assumption | with_reducible refine Ext.alloc ?_ _ | with_reducible refine Ext.drew ?_ | (with_reducible refine Ext.setAt ?_ _ _ _ ?_; rotate_left; omega) | with_reducible refine Ext.trans ?_ (by assumption) | with_reducible exact Past.bel _ | with_reducible refine Ext.trans ?_ (Past.bel _)))).grown s7 (fun q hq => by cases hq; exact hsz)
          exact ⟨⟨u / 10, UInt8.ofNat (48 + u % 10) :: l, g9, c9, hd', by omega, congrArg (Value.int .i64) (show -((u : Int) / 10) = -((u / 10 : Nat) : Int) from by omega), .inr ⟨_, rfl⟩, rfl, s6, hx6⟩, by simp [intOf]; omega⟩
end Go.Proofs.YtppphpnimecgpaaDoor

namespace Go.Proofs.YtppphpnimecgpaaDoor
open Go.RowKit
set_option linter.unusedVariables false
set_option linter.unusedSimpArgs false

abbrev Mo := ByteArray × Int × Int
abbrev Ru := Int × Int × Bool
/-- months, cell by cell -/
def MT (l : List Mo) : List Value := l.flatMap fun q => [.string q.1, .int .i64 q.2.1, .int .i64 q.2.2]
/-- rules, cell by cell -/
def RT (l : List Ru) : List Value := l.flatMap fun q => [.int .i64 q.1, .int .i64 q.2.1, .bool q.2.2]
theorem MT_app (l r : List Mo) : MT (l ++ r) = MT l ++ MT r := by simp [MT]
theorem RT_app (l r : List Ru) : RT (l ++ r) = RT l ++ RT r := by simp [RT]
theorem MT_len (l : List Mo) : (MT l).length = l.length * 3 := by
  induction l with
  | nil => rfl
  | cons q l ih => have e : MT (q :: l) = [.string q.1, .int .i64 q.2.1, .int .i64 q.2.2] ++ MT l := rfl
                   rw [e, List.length_append, ih]; simp; omega
theorem RT_len (l : List Ru) : (RT l).length = l.length * 3 := by
  induction l with
  | nil => rfl
  | cons q l ih => have e : RT (q :: l) = [.int .i64 q.1, .int .i64 q.2.1, .bool q.2.2] ++ RT l := rfl
                   rw [e, List.length_append, ih]; simp; omega
theorem flat3_at {α : Type} (A B C : α → Value) : ∀ (l : List α) (j : Nat) (q : α), l[j]? = some q →
    (l.flatMap fun q => [A q, B q, C q])[j * 3]? = some (A q) ∧ (l.flatMap fun q => [A q, B q, C q])[j * 3 + 1]? = some (B q) ∧ (l.flatMap fun q => [A q, B q, C q])[j * 3 + 2]? = some (C q)
  | [], j, q, h => by simp at h
  | x :: l, 0, q, h => by
    obtain rfl : x = q := by simpa using h
    exact ⟨rfl, rfl, rfl⟩
  | x :: l, j + 1, q, h => by
    have ih := flat3_at A B C l j q (by simpa using h)
    have e1 : (j + 1) * 3 = 3 + j * 3 := by omega
    rw [List.flatMap_cons, e1, Nat.add_assoc, Nat.add_assoc]
    have e : ∀ i, ([A x, B x, C x] ++ l.flatMap fun q => [A q, B q, C q])[3 + i]? = (l.flatMap fun q => [A q, B q, C q])[i]? := fun i => by
      rw [List.getElem?_append_right (by simp)]; simp
    rw [e, e, e]; exact ih
/-- the calendar that months and rules make -/
def calOf (M : List Mo) (R : List Ru) : CalN := ⟨R.length, fun i => (R.getD i (0, 0, false)).1, fun i => (R.getD i (0, 0, false)).2.1, fun i => (R.getD i (0, 0, false)).2.2, M.length, fun i => (M.getD i (⟨#[]⟩, 0, 0)).2.1, fun i => (M.getD i (⟨#[]⟩, 0, 0)).2.2⟩
def nmOf (M : List Mo) : Nat → ByteArray := fun i => (M.getD i (⟨#[]⟩, 0, 0)).1
section
variable {w w' : World} {base : Nat} {e : TypeId} {size : Nat} {v : Value} {n : Nat} {xs : List Value}
theorem own_atK {a : Option Addr} {cap : Nat} (h : w.ownsRow base e size (.slice a n cap) n xs) (hn : 0 < n) :
    ∃ g, a = some ⟨g, 0, none⟩ ∧ base ≤ g ∧ g < w.heap.size ∧ ∀ j, j < n * size → w.cell? ⟨g, j, none⟩ = xs[j]? ∧ w.frozen? ⟨g, j, none⟩ = false := by
  rcases h.2 with ⟨h1, h2⟩ | ⟨g, cap', cur, h1, hb, hg, h2, h3, h4, h5⟩
  · omega
  · simp only [Value.slice.injEq, true_and] at h1
    obtain ⟨rfl, rfl⟩ := h1
    exact ⟨g, rfl, hb, (Array.getElem?_eq_some_iff.1 hg).1, fun j hj => ⟨h.cellAt j (by omega), h.frozenAt j⟩⟩
theorem own_s3 {a : Option Addr} {cap : Nat} {M : List Mo} (h : w.ownsRow base e 3 (.slice a n cap) n (MT M)) : S3 w a n (nmOf M) (calOf M []).dy (calOf M []).lp := fun hn => by
  obtain ⟨g, rfl, _, hg, hc⟩ := own_atK h hn
  have hl : M.length = n := by have := h.1; rw [MT_len] at this; omega
  refine ⟨g, 0, rfl, hg, fun j hj => ?_⟩
  have hq : M[j]? = some (M.getD j (⟨#[]⟩, 0, 0)) := by rw [List.getD_eq_getElem?_getD, List.getElem?_eq_getElem (by omega)]; rfl
  obtain ⟨q1, q2, q3⟩ := flat3_at (fun q : Mo => Value.string q.1) (fun q => .int .i64 q.2.1) (fun q => .int .i64 q.2.2) M j _ hq
  rw [Nat.zero_add, (hc _ (by omega)).1, (hc _ (by omega)).1, (hc _ (by omega)).1]
  exact ⟨q1, q2, q3⟩
theorem own_r3 {a : Option Addr} {cap : Nat} {R : List Ru} (h : w.ownsRow base e 3 (.slice a n cap) n (RT R)) : R3 w a n (calOf [] R).ev (calOf [] R).rs (calOf [] R).lf := fun hn => by
  obtain ⟨g, rfl, _, hg, hc⟩ := own_atK h hn
  have hl : R.length = n := by have := h.1; rw [RT_len] at this; omega
  refine ⟨g, 0, rfl, hg, fun j hj => ?_⟩
  have hq : R[j]? = some (R.getD j (0, 0, false)) := by rw [List.getD_eq_getElem?_getD, List.getElem?_eq_getElem (by omega)]; rfl
  obtain ⟨q1, q2, q3⟩ := flat3_at (fun q : Ru => Value.int .i64 q.1) (fun q => .int .i64 q.2.1) (fun q => .bool q.2.2) R j _ hq
  rw [Nat.zero_add, (hc _ (by omega)).1, (hc _ (by omega)).1, (hc _ (by omega)).1]
  exact ⟨q1, q2, q3⟩
end
/-- months and rules owned: a calendar in memory -/
theorem own_calM {w : World} {b1 b2 : Nat} {e1 e2 : TypeId} {a1 a2 : Option Addr} {c1 c2 : Nat} {M : List Mo} {R : List Ru} (h1 : w.ownsRow b1 e1 3 (.slice a1 M.length c1) M.length (MT M)) (h2 : w.ownsRow b2 e2 3 (.slice a2 R.length c2) R.length (RT R)) : CalM w a1 a2 (nmOf M) (calOf M R) :=
  ⟨own_s3 h1, own_r3 h2⟩
theorem news_block {w : World} {gb : Nat} {T : TypeId} {ys : List Value} (h : Blk w gb T ys.toArray) : ∀ j u, ys[j]? = some u → w.cell? ((⟨gb, 0, none⟩ : Addr).add j) = some u := fun j u hu => by
  rw [addr_add, Nat.zero_add, h.cell]; simpa using hu
/-- 'own = append(own, q, ..)', the q's of several cells -/
theorem appG {P : Program} {w : World} {ops : Array Oper} {rest : List Oper} {o : Oper} {A : Act} {Q : Exit → Act → World → Prop} (t T : TypeId) (s x : Operand) (z : Value) (sz by8 : Nat)
    (hop : o.op = .call { callee := .builtin .append, args := #[s, x], argTypes := #[t, t] }) (hgd : o.guard = none)
    (ht : P.underlying t = some (.slice T)) (hinfo : (P.info? T).map (fun i => (i.zero, i.size, i.bytes)) = some (some z, sz, by8)) (hz : z.cells.size = sz) (hz0 : 0 < sz) (h64 : by8 ≤ 64)
    (B : Nat) (v : Value) (n : Nat) (xs : List Value) (m : Nat) (ys : List Value) (gb c : Nat) (hs : A.eval s = v) (hx : A.eval x = .slice (some ⟨gb, 0, none⟩) m c) (h : w.ownsRow B T sz v n xs)
    (hc : Blk w gb T ys.toArray) (hy : ys.length = m * sz) (ho : ∀ u ∈ ys, u.oneCell' = true) (hm : m ≤ 100) (hl : n ≤ 1048576) (h0 : B ≤ w.heap.size)
    (hK : ∀ v' w', w'.ownsRow B T sz v' (n + m) (xs ++ ys) → w.grownBy w' v.ownBlock → wpList P ops Q rest (A.put o.dst v') w') : wpList P ops Q (o :: rest) A w := by
  obtain ⟨i, hi, hz', hsz, hb⟩ := info_parts hinfo
  refine wpList_append_own (P := P) w hgd s x t hop B T i z sz by8 ht hi hz' hsz hb hz hz0 v n xs hs h ⟨gb, 0, none⟩ m c ys hx hy (news_block hc) ho (by unfold maxLen; omega) ?_ h0 ?_
  · have : (n + m) * by8 ≤ (n + m) * 64 := Nat.mul_le_mul_left _ h64
    omega
  · intro v' w' h1 h2 _
    exact hK v' w' h1 h2
/-- the same at a step of a region that draws its order -/
theorem appGs {P : Program} {w : World} {ops : Array Oper} {o : Oper} {A : Act} {K : Act → World → Prop} {Q : Exit → Act → World → Prop} {E : Prop} (t T : TypeId) (s x : Operand) (z : Value) (sz by8 : Nat)
    (hop : o.op = .call { callee := .builtin .append, args := #[s, x], argTypes := #[t, t] }) (hgd : o.guard = none)
    (ht : P.underlying t = some (.slice T)) (hinfo : (P.info? T).map (fun i => (i.zero, i.size, i.bytes)) = some (some z, sz, by8)) (hz : z.cells.size = sz) (hz0 : 0 < sz) (h64 : by8 ≤ 64)
    (B : Nat) (v : Value) (n : Nat) (xs : List Value) (m : Nat) (ys : List Value) (gb c : Nat) (hs : A.eval s = v) (hx : A.eval x = .slice (some ⟨gb, 0, none⟩) m c) (h : w.ownsRow B T sz v n xs)
    (hc : Blk w gb T ys.toArray) (hy : ys.length = m * sz) (ho : ∀ u ∈ ys, u.oneCell' = true) (hm0 : 0 < m) (hm : m ≤ 100) (hl : n ≤ 1048576) (h0 : B ≤ w.heap.size)
    (hK : ∀ v' w', w'.ownsRow B T sz v' (n + m) (xs ++ ys) → w.grownBy w' v.ownBlock → (∀ b i, b < w.heap.size → v.ownBlock ≠ some b → w'.cell? ⟨b, i, none⟩ = w.cell? ⟨b, i, none⟩) → K (A.put o.dst v') w') :
    if Region.wanted o (yielded ops A.tmps) = true then Oper.wp P o A w K Q else E := by
  obtain ⟨i, hi, hz', hsz, hb⟩ := info_parts hinfo
  refine step_append_lies w hgd s x t hop B T i z sz by8 ht hi hz' hsz hb hz hz0 v n xs hs h ⟨gb, 0, none⟩ m c ys hx hy (news_block hc) ho hm0 (by unfold maxLen; omega) ?_ h0 _ rfl ?_
  · have : (n + m) * by8 ≤ (n + m) * 64 := Nat.mul_le_mul_left _ h64
    omega
  · intro g' cap w' h1 h2 _ _
    exact hK _ w' h1 h2 (fun b i hb hne => h2.cell_far ⟨b, i, none⟩ hb (fun e => hne e.symm))
theorem info_month : (Tryd.prog.info? 63).map (fun i => (i.zero, i.size, i.bytes)) = some (some (.agg #[.string ⟨#[]⟩, .int .i64 0, .int .i64 0]), 3, 32) := by kernel_rfl
theorem info_rule : (Tryd.prog.info? 67).map (fun i => (i.zero, i.size, i.bytes)) = some (some (.agg #[.int .i64 0, .int .i64 0, .bool false]), 3, 24) := by kernel_rfl
end Go.Proofs.YtppphpnimecgpaaDoor

namespace Go.Proofs.YtppphpnimecgpaaDoor
open Go.RowKit
set_option linter.unusedVariables false
set_option linter.unusedSimpArgs false

/-- months m1 and so on of d days -/
def eqM (d : Int) (k : Nat) : List Mo := (List.range k).map (fun j : Nat => ((⟨(109 :: Lib.itoa ((j : Int) + 1)).toArray⟩ : ByteArray), d, d))
theorem eqM_len (d : Int) (k : Nat) : (eqM d k).length = k := by simp [eqM]
theorem eqM_zero (d : Int) : MT (eqM d 0) = [] := rfl
theorem eqM_step (d : Int) (k : Nat) : eqM d (k + 1) = eqM d k ++ [((⟨(109 :: Lib.itoa ((k : Int) + 1)).toArray⟩ : ByteArray), d, d)] := by simp [eqM, List.range_succ]
theorem itoa_small (n : Int) (h0 : 0 ≤ n) (h1 : n ≤ 1000000) : (Lib.itoa n).length ≤ 7 := by
  obtain ⟨u, rfl⟩ : ∃ u : Nat, n = (u : Int) := ⟨n.toNat, by omega⟩
  by_cases h : u = 0
  · subst h; rw [show ((0 : Nat) : Int) = 0 from rfl, itoa_zero]; decide
  · rw [itoa_pos (by omega)]
    exact digs_len 7 u (by omega)
set_option maxRecDepth 100000 in
set_option maxHeartbeats 2000000 in
theorem l15Equal_c (m : Nat) (d : Int) (w : World) (hm : m ≤ 1000) :
    Calls Tryd.prog 36 #[.int .i64 (m : Nat), .int .i64 d] w fun e w' => ∃ b cap, e = .returned (.slice b m cap) ∧ Ext w w' ∧ w'.ownsRow w.heap.size 63 3 (.slice b m cap) m (MT (eqM d m)) := by
  go_enter Tryd.func36, Tryd.ntmps36
  go_wp2_with fail
  go_loopw [5, 6] (fun v i wr => ∃ j : Nat, j ≤ m ∧ i = .int .i64 ((j : Int) + 1) ∧ wr.ownsRow w.heap.size 63 3 v j (MT (eqM d j)) ∧ Ext w wr) (fun _ i _ => m + 1 - (intOf i).toNat)
  case atStart => exact ⟨0, by omega, rfl, (by rw [eqM_zero]; exact World.ownsRow_made _ #[] 0 (Nat.le_refl _) (Nat.zero_le _) rfl), (by repeat (first | with_reducible exact Ext.refl _ | with_reducible assumption | with_reducible refine Ext.alloc ?_ _ | with_reducible refine Ext.drew ?_ | (with_reducible refine Ext.setAt ?_ _ _ _ ?_; rotate_left; omega) | with_reducible refine Ext.trans ?_ (by assumption) | with_reducible exact Past.bel _ | with_reducible refine Ext.trans ?_ (Past.bel _)))⟩
  case round =>
    obtain ⟨j, hj, rfl, ho, hx⟩ := hrel
    have HO := Lib.hid ho
    clear ho
    have hsz := hx.size
    by_cases hlt : j < m
    · have x1 : (j : Int) + 1 ≤ (m : Int) := by omega
      obtain ⟨A, hA⟩ : ∃ A, A = Lib.itoa ((j : Int) + 1) := ⟨_, rfl⟩
      have la : A.length ≤ 7 := by rw [hA]; exact itoa_small _ (by omega) (by omega)
      have HD := Lib.hid (fun (W : World) => (show Calls Tryd.prog 57 #[.int .i64 ((j : Int) + 1)] W (fun e w' => e = .returned (.string ⟨A.toArray⟩) ∧ Ext W w') from by rw [hA]; exact l01Dec_c _ W (by omega) (by omega)))
      have HA := Lib.hid hA
      clear hA
      go_wp2_with (first | (go_at_call 57; ((with_reducible refine (HD.out _).mono ?_); rintro e w' ⟨rfl, hx⟩; (first | (obtain ⟨wx, rfl⟩ := Past.again hx) | (obtain ⟨wx, rfl⟩ := Past.ofd hx) | (obtain ⟨wx, rfl⟩ := Past.of hx)))) | (at_builtin; refine appG 39 63 _ _ _ 3 32 rfl rfl Tryd.underlying39 info_month rfl (by decide) (by decide) w.heap.size _ j (MT (eqM d j)) 1 [.string (⟨#[109]⟩ ++ ⟨A.toArray⟩), .int .i64 d, .int .i64 d] _ 1 rfl rfl (own_ext HO.out (by repeat (first | with_reducible exact Ext.refl _ | with_reducible assumption | with_reducible refine Ext.alloc ?_ _ | with_reducible refine Ext.drew ?_ | (with_reducible refine Ext.setAt ?_ _ _ _ ?_; rotate_left; omega) | with_reducible refine Ext.trans ?_ (by assumption) | with_reducible exact Past.bel _ | with_reducible refine Ext.trans ?_ (Past.bel _)))) (Blk.new _ _ _) rfl (by intro u hu; simp at hu; rcases hu with rfl | rfl <;> rfl) (by omega) (by omega) (Ext.size (by repeat (first | with_reducible exact Ext.refl _ | with_reducible assumption | with_reducible refine Ext.alloc ?_ _ | with_reducible refine Ext.drew ?_ | (with_reducible refine Ext.setAt ?_ _ _ _ ?_; rotate_left; omega) | with_reducible refine Ext.trans ?_ (by assumption) | with_reducible exact Past.bel _ | with_reducible refine Ext.trans ?_ (Past.bel _)))) ?_; intro v6 w6 s6 s7))
      have hx6 : Ext w w6 := by
        refine Ext.grown ?_ s7 (fun q hq => (HO.out.lt q hq).1)
        ((repeat (first | with_reducible exact Ext.refl _ | with_reducible assumption | with_reducible refine Ext.alloc ?_ _ | with_reducible refine Ext.drew ?_ | (with_reducible refine Ext.setAt ?_ _ _ _ ?_; rotate_left; omega) | with_reducible refine Ext.trans ?_ (by assumption) | with_reducible exact Past.bel _ | with_reducible refine Ext.trans ?_ (Past.bel _))); done)
      refine ⟨⟨j + 1, by omega, by go_num, ?_, hx6⟩, by simp [intOf]; omega⟩
      rw [eqM_step, MT_app, ← HA.out]
      exact s6
    · have x1 : ¬ (j : Int) + 1 ≤ (m : Int) := by omega
      obtain rfl : j = m := by omega
      obtain ⟨b, cap, rfl⟩ := own_form HO.out
      go_wp2_with fail
      go_ret
      exact ⟨b, cap, rfl, hx, HO.out⟩
end Go.Proofs.YtppphpnimecgpaaDoor

namespace Go.Proofs.YtppphpnimecgpaaDoor
open Go.RowKit
set_option linter.unusedVariables false
set_option linter.unusedSimpArgs false

def romT : List (ByteArray × Int) := [(⟨#[106, 97, 110]⟩, 31), (⟨#[102, 101, 98]⟩, 28), (⟨#[109, 97, 114]⟩, 31), (⟨#[97, 112, 114]⟩, 30), (⟨#[109, 97, 121]⟩, 31), (⟨#[106, 117, 110]⟩, 30), (⟨#[106, 117, 108]⟩, 31), (⟨#[97, 117, 103]⟩, 31), (⟨#[115, 101, 112]⟩, 30), (⟨#[111, 99, 116]⟩, 31), (⟨#[110, 111, 118]⟩, 30), (⟨#[100, 101, 99]⟩, 31)]
/-- the first k months of the roman calendars, all years alike -/
def romP (k : Nat) : List Mo := (romT.take k).map fun q => (q.1, q.2, q.2)
theorem romP_len {k : Nat} (h : k ≤ 12) : (romP k).length = k := by simp [romP, romT]; omega
/-- the months of the roman calendars -/
def romM : List Mo := (romT.take 1).map (fun q => (q.1, q.2, q.2)) ++ [(⟨#[102, 101, 98]⟩, 28, 29)] ++ (romT.drop 2).map (fun q => (q.1, q.2, q.2))
theorem rom_set : (MT (romP 12)).set 5 (.int .i64 29) = MT romM := rfl
def gregR : List Ru := [(4, 0, true), (100, 0, false), (400, 0, true)]
def julR : List Ru := [(4, 0, true)]
theorem own_lit {w : World} {base : Nat} {e : TypeId} {size n : Nat} (cur : Array Value) (xs : List Value) (hx : cur.toList = xs) (hs : xs.length = n * size) (hn : n ≤ maxLen) (hb : base ≤ w.heap.size) : (w.alloc (.cells cur e)).ownsRow base e size (.slice (some ⟨w.heap.size, 0, none⟩) n n) n xs :=
  ⟨hs, .inr ⟨w.heap.size, n, cur, rfl, hb, heap_alloc_new w _, Nat.le_refl _, hn, by rw [← hs, ← hx]; simp, by rw [← hs, ← hx]; exact List.take_of_length_le (Nat.le_refl _)⟩⟩
theorem own_made {base g : Nat} {e : TypeId} {size : Nat} (w : World) (cur : Array Value) (cap : Nat) (hg : g = w.heap.size) (hb : base ≤ w.heap.size) (hm : cap ≤ maxLen) (hs : cur.size = cap * size) :
    (w.alloc (.cells cur e)).ownsRow base e size (.slice (some ⟨g, 0, none⟩) 0 cap) 0 [] := by
  subst hg; exact World.ownsRow_made w cur cap hb hm hs
set_option maxHeartbeats 1000000 in
theorem l15Gregorian_c (w : World) :
    Calls Tryd.prog 37 #[] w fun e w' => ∃ b, e = .returned (.slice b 3 3) ∧ Ext w w' ∧ w'.ownsRow w.heap.size 67 3 (.slice b 3 3) 3 (RT gregR) := by
  go_enter Tryd.func37, Tryd.ntmps37
  go_wp2
  go_ret
  exact ⟨_, rfl, (by repeat (first | with_reducible exact Ext.refl _ | with_reducible assumption | with_reducible refine Ext.alloc ?_ _ | with_reducible refine Ext.drew ?_ | (with_reducible refine Ext.setAt ?_ _ _ _ ?_; rotate_left; omega) | with_reducible refine Ext.trans ?_ (by assumption) | with_reducible exact Past.bel _ | with_reducible refine Ext.trans ?_ (Past.bel _))), own_lit _ _ rfl rfl (by decide) (Nat.le_refl _)⟩
set_option maxRecDepth 100000 in
set_option maxHeartbeats 4000000 in
theorem l15Roman_c (w : World) :
    Calls Tryd.prog 38 #[] w fun e w' => ∃ b cap, e = .returned (.slice b 12 cap) ∧ Ext w w' ∧ w'.ownsRow w.heap.size 63 3 (.slice b 12 cap) 12 (MT romM) := by
  go_enter Tryd.func38, Tryd.ntmps38
  go_wp2_with fail
  go_loopw [3, 4] (fun v i wr => ∃ j : Nat, j ≤ 12 ∧ i = .int .i64 (j : Int) ∧ wr.ownsRow (w.heap.size + 1 + 1) 63 3 v j (MT (romP j)) ∧ Ext w wr ∧ (∀ k q, romT[k]? = some q → wr.cell? ⟨w.heap.size, k, none⟩ = some (.string q.1) ∧ wr.cell? ⟨w.heap.size + 1, k, none⟩ = some (.int .i64 q.2)) ∧ w.heap.size + 1 < wr.heap.size) (fun _ i _ => 12 - (intOf i).toNat)
  case atStart => 
    refine ⟨0, by omega, rfl, (by rw [show MT (romP 0) = [] from rfl]; exact own_made _ #[] 0 (by simp) (by simp) (Nat.zero_le _) rfl), (by repeat (first | with_reducible exact Ext.refl _ | with_reducible assumption | with_reducible refine Ext.alloc ?_ _ | with_reducible refine Ext.drew ?_ | (with_reducible refine Ext.setAt ?_ _ _ _ ?_; rotate_left; omega) | with_reducible refine Ext.trans ?_ (by assumption) | with_reducible exact Past.bel _ | with_reducible refine Ext.trans ?_ (Past.bel _))), fun k q hq => ?_, by simp⟩
    have hk : k < 12 := (List.getElem?_eq_some_iff.1 hq).1
    obtain rfl | rfl | rfl | rfl | rfl | rfl | rfl | rfl | rfl | rfl | rfl | rfl : k = 0 ∨ k = 1 ∨ k = 2 ∨ k = 3 ∨ k = 4 ∨ k = 5 ∨ k = 6 ∨ k = 7 ∨ k = 8 ∨ k = 9 ∨ k = 10 ∨ k = 11 := by omega
    all_goals (obtain rfl : q = _ := Option.some.inj (hq.symm.trans rfl); simp [go_sem])
  case round =>
    obtain ⟨j, hj, rfl, ho, hx, hcl, hlt2⟩ := hrel
    have HO := Lib.hid ho
    have HC := Lib.hid hcl
    clear ho hcl
    have hsz := hx.size
    by_cases hlt : j < 12
    · have x1 : (j : Int) < 12 := by omega
      have x0 : (0 : Int) ≤ (j : Int) := by omega
      obtain ⟨q, hq⟩ : ∃ q, romT[j]? = some q := ⟨romT[j]'(by simpa [romT] using hlt), List.getElem?_eq_getElem _⟩
      obtain ⟨q1, q2⟩ := HC.out j q hq
      have SK : ∀ w', Ext wr w' → w'.cell? ⟨w.heap.size, j, none⟩ = some (.string q.1) ∧ w'.cell? ⟨w.heap.size + 1, j, none⟩ = some (.int .i64 q.2) := fun w' hq => by
        rw [hq.cell (by omega), hq.cell (by omega)]; exact ⟨q1, q2⟩
      have SK' := Lib.hid SK
      have SK2 := Lib.hid (show ∀ (W' W'' : World), Ext wr W' → (∀ b i, b < W'.heap.size → u3.ownBlock ≠ some b → W''.cell? ⟨b, i, none⟩ = W'.cell? ⟨b, i, none⟩) → W''.cell? ⟨w.heap.size, j, none⟩ = some (.string q.1) ∧ W''.cell? ⟨w.heap.size + 1, j, none⟩ = some (.int .i64 q.2) from fun W' W'' h1 h2 => by
        have hz1 := h1.size
        rw [h2 _ _ (by omega) (fun e => by have := (HO.out.lt _ e).1; omega), h2 _ _ (by omega) (fun e => by have := (HO.out.lt _ e).1; omega)]
        exact SK W' h1)
      have HQ := Lib.hid hq
      clear SK q1 q2 hq
      go_wp2_with fail
      go_region_held3 (fun w' => w'.cell? ⟨w.heap.size, j, none⟩ = some (.string q.1) ∧ w'.cell? ⟨w.heap.size + 1, j, none⟩ = some (.int .i64 q.2)) (first | (refine SK'.out _ ?_; ((repeat (first | with_reducible exact Ext.refl _ | with_reducible assumption | with_reducible refine Ext.alloc ?_ _ | with_reducible refine Ext.drew ?_ | (with_reducible refine Ext.setAt ?_ _ _ _ ?_; rotate_left; omega) | with_reducible refine Ext.trans ?_ (by assumption) | with_reducible exact Past.bel _ | with_reducible refine Ext.trans ?_ (Past.bel _))); done)) | exact SK2.out _ _ (by repeat (first | with_reducible exact Ext.refl _ | with_reducible assumption | with_reducible refine Ext.alloc ?_ _ | with_reducible refine Ext.drew ?_ | (with_reducible refine Ext.setAt ?_ _ _ _ ?_; rotate_left; omega) | with_reducible refine Ext.trans ?_ (by assumption) | with_reducible exact Past.bel _ | with_reducible refine Ext.trans ?_ (Past.bel _))) s8) ((refine appGs 39 63 _ _ _ 3 32 (by rfl) (by rfl) Tryd.underlying39 info_month rfl (by decide) (by decide) (w.heap.size + 1 + 1) _ j (MT (romP j)) 1 [.string q.1, .int .i64 q.2, .int .i64 q.2] _ 1 (by rfl) (by rfl) (own_ext HO.out (by repeat (first | with_reducible exact Ext.refl _ | with_reducible assumption | with_reducible refine Ext.alloc ?_ _ | with_reducible refine Ext.drew ?_ | (with_reducible refine Ext.setAt ?_ _ _ _ ?_; rotate_left; omega) | with_reducible refine Ext.trans ?_ (by assumption) | with_reducible exact Past.bel _ | with_reducible refine Ext.trans ?_ (Past.bel _)))) (Blk.new _ _ _) rfl (by intro u hu; simp at hu; rcases hu with rfl | rfl <;> rfl) (by omega) (by omega) (by omega) (Nat.le_trans (by omega) (Ext.size (w := wr) (by repeat (first | with_reducible exact Ext.refl _ | with_reducible assumption | with_reducible refine Ext.alloc ?_ _ | with_reducible refine Ext.drew ?_ | (with_reducible refine Ext.setAt ?_ _ _ _ ?_; rotate_left; omega) | with_reducible refine Ext.trans ?_ (by assumption) | with_reducible exact Past.bel _ | with_reducible refine Ext.trans ?_ (Past.bel _))))) ?_; intro v6 w6 s6 s7 s8))
      all_goals (go_wp2_with fail)
      have e6 : Ext w w6 := by
        refine Ext.grown ?_ s7 (fun q hq => by have := (HO.out.lt q hq).1; omega)
        ((repeat (first | with_reducible exact Ext.refl _ | with_reducible assumption | with_reducible refine Ext.alloc ?_ _ | with_reducible refine Ext.drew ?_ | (with_reducible refine Ext.setAt ?_ _ _ _ ?_; rotate_left; omega) | with_reducible refine Ext.trans ?_ (by assumption) | with_reducible exact Past.bel _ | with_reducible refine Ext.trans ?_ (Past.bel _))); done)
      have z6 := s7.size
      simp only [World.size_alloc, World.size_drew] at z6
      refine ⟨⟨j + 1, by omega, by go_num, ?_, e6, fun k q' hq' => ?_, by omega⟩, by simp [intOf]; omega⟩
      · have e1 : MT (romP (j + 1)) = MT (romP j) ++ [.string q.1, .int .i64 q.2, .int .i64 q.2] := by
          rw [romP, List.take_add_one, HQ.out, List.map_append, MT_app]; rfl
        rw [e1]; exact s6
      · obtain ⟨r1, r2⟩ := HC.out k q' hq'
        have hne1 : u3.ownBlock ≠ some w.heap.size := fun e => by have := (HO.out.lt _ e).1; omega
        have hne2 : u3.ownBlock ≠ some (w.heap.size + 1) := fun e => by have := (HO.out.lt _ e).1; omega
        rw [s8 _ _ (by simp only [World.size_alloc, World.size_drew]; omega) hne1, s8 _ _ (by simp only [World.size_alloc, World.size_drew]; omega) hne2]
        have hE : ∀ W, Ext wr W → W.cell? ⟨w.heap.size, k, none⟩ = some (.string q'.1) ∧ W.cell? ⟨w.heap.size + 1, k, none⟩ = some (.int .i64 q'.2) := fun W hq => by rw [hq.cell (by omega), hq.cell (by omega)]; exact ⟨r1, r2⟩
        exact hE _ (by repeat (first | with_reducible exact Ext.refl _ | with_reducible assumption | with_reducible refine Ext.alloc ?_ _ | with_reducible refine Ext.drew ?_ | (with_reducible refine Ext.setAt ?_ _ _ _ ?_; rotate_left; omega) | with_reducible refine Ext.trans ?_ (by assumption) | with_reducible exact Past.bel _ | with_reducible refine Ext.trans ?_ (Past.bel _)))
    · have x1 : ¬ (j : Int) < 12 := by omega
      obtain rfl : j = 12 := by omega
      obtain ⟨b, cap, rfl⟩ := own_form HO.out
      obtain ⟨g, rfl, hb1, hb2, hc⟩ := own_atK HO.out (by omega)
      obtain ⟨z1, z2⟩ := hc 5 (by omega)
      have z3 : wr.cell? ⟨g, 5, none⟩ = some (.int .i64 28) := z1
      clear hc z1
      go_wp2_with fail
      go_ret
      have := own_set (j := 5) HO.out (.int .i64 29)
      rw [rom_set] at this
      refine ⟨_, cap, rfl, ?_, own_base this (by omega)⟩
      exact Ext.setAt hx _ _ _ (by omega)
end Go.Proofs.YtppphpnimecgpaaDoor

namespace Go.Proofs.YtppphpnimecgpaaDoor
open Go.RowKit
set_option linter.unusedVariables false
set_option linter.unusedSimpArgs false

def egyS : ByteArray := ⟨#[101, 103, 121, 112, 116, 105, 97, 110]⟩
def fixS : ByteArray := ⟨#[102, 105, 120, 101, 100]⟩
def greS : ByteArray := ⟨#[103, 114, 101, 103, 111, 114, 105, 97, 110]⟩
def julS : ByteArray := ⟨#[106, 117, 108, 105, 97, 110]⟩
def egyM : List Mo := eqM 30 12 ++ [(⟨#[109, 49, 51]⟩, 5, 5)]
def fixM : List Mo := eqM 28 12 ++ [(⟨#[109, 49, 51]⟩, 29, 30)]
/-- a calendar with a code, in memory of its own -/
def NmR (w w' : World) (M : List Mo) (R : List Ru) (wk k : Int) (s : ByteArray) (e : Ending) : Prop :=
  ∃ a1 c1 a2 c2, e = .returned (.tuple #[.agg #[.string s, .slice a1 M.length c1, .slice a2 R.length c2, .int .i64 wk], .int .i64 k]) ∧ Ext w w' ∧ w'.ownsRow w.heap.size 63 3 (.slice a1 M.length c1) M.length (MT M) ∧ w'.ownsRow w.heap.size 67 3 (.slice a2 R.length c2) R.length (RT R) ∧ ((Value.slice a1 M.length c1).ownBlock = none ∨ (Value.slice a1 M.length c1).ownBlock ≠ (Value.slice a2 R.length c2).ownBlock) ∧ ((Value.slice a2 R.length c2).ownBlock = none ∨ (Value.slice a2 R.length c2).ownBlock ≠ (Value.slice a1 M.length c1).ownBlock)
theorem Blk.grown {w w' : World} {g : Nat} {T : TypeId} {cur : Array Value} {row : Option Nat} (h : Blk w g T cur) (hg : w.grownBy w' row) (hne : some g ≠ row) : Blk w' g T cur := (hg.block g h.lt hne).trans h
/-- the cells of a calendar's block -/
structure Cel (w : World) (g : Nat) (a b c d : Value) : Prop where
  lt : g < w.heap.size
  c0 : w.cell? ⟨g, 0, none⟩ = some a
  c1 : w.cell? ⟨g, 1, none⟩ = some b
  c2 : w.cell? ⟨g, 2, none⟩ = some c
  c3 : w.cell? ⟨g, 3, none⟩ = some d
  f0 : w.frozen? ⟨g, 0, none⟩ = false
  f1 : w.frozen? ⟨g, 1, none⟩ = false
  f2 : w.frozen? ⟨g, 2, none⟩ = false
  f3 : w.frozen? ⟨g, 3, none⟩ = false
theorem Blk.cel {w : World} {g : Nat} {T : TypeId} {a b c d : Value} (h : Blk w g T #[a, b, c, d]) : Cel w g a b c d := ⟨h.lt, h.cell 0, h.cell 1, h.cell 2, h.cell 3, h.frozen 0, h.frozen 1, h.frozen 2, h.frozen 3⟩
/-- 'append' of one month to months of its own -/
theorem app_month {w : World} {ops : Array Oper} {rest : List Oper} {o : Oper} {A : Act} {Q : Exit → Act → World → Prop} (s x : Operand)
    (hop : o.op = .call { callee := .builtin .append, args := #[s, x], argTypes := #[39, 39] }) (hgd : o.guard = none)
    (B : Nat) (v : Value) (n m : Nat) (xs : List Value) (nm : ByteArray) (d l : Int) (gb c : Nat) (hm : m = n + 1) (hs : A.eval s = v) (hx : A.eval x = .slice (some ⟨gb, 0, none⟩) 1 c) (h : w.ownsRow B 63 3 v n xs)
    (hc : Blk w gb 63 #[.string nm, .int .i64 d, .int .i64 l]) (hl : n ≤ 1048576) (h0 : B ≤ w.heap.size)
    (hK : ∀ b' c' w', w'.ownsRow B 63 3 (.slice b' m c') m (xs ++ MT [(nm, d, l)]) → w.grownBy w' v.ownBlock → wpList Tryd.prog ops Q rest (A.put o.dst (.slice b' m c')) w') : wpList Tryd.prog ops Q (o :: rest) A w := by
  subst hm
  refine appG 39 63 s x _ 3 32 hop hgd Tryd.underlying39 info_month rfl (by decide) (by decide) B v n xs 1 [.string nm, .int .i64 d, .int .i64 l] gb c hs hx h hc rfl (by intro u hu; simp at hu; rcases hu with rfl | rfl | rfl <;> rfl) (by omega) hl h0 ?_
  intro v' w' s6 s7
  obtain ⟨b', c', rfl⟩ := own_form s6
  exact hK b' c' w' s6 s7
theorem own_litg {w : World} {base g : Nat} {e : TypeId} {size n : Nat} (cur : Array Value) (xs : List Value) (hx : cur.toList = xs) (hs : xs.length = n * size) (hn : n ≤ maxLen) (hb : base ≤ w.heap.size) (hg : g = w.heap.size) : (w.alloc (.cells cur e)).ownsRow base e size (.slice (some ⟨g, 0, none⟩) n n) n xs := by
  subst hg; exact own_lit cur xs hx hs hn hb
theorem str_ne {s : ByteArray} {l : List UInt8} (h : s ≠ ⟨l.toArray⟩) : (s.toList == l) = false := by
  rw [ByteArray.toList_eq]
  refine Bool.eq_false_iff.2 fun e => h ?_
  have e' : s.data.toList = l := by simpa using e
  apply ByteArray.ext; rw [← e']
theorem own_low {w : World} {base : Nat} {e : TypeId} {size : Nat} {v : Value} {n : Nat} {xs : List Value} (h : w.ownsRow base e size v n xs) {b : Nat} (hb : b < base) (o : Nat) (u : Value) : (w.setCell ⟨b, o, none⟩ u).ownsRow base e size v n xs :=
  h.kept (grown_set b o u) (by
    cases hv : v.ownBlock with
    | none => exact .inl rfl
    | some k => refine .inr fun e => ?_; have := h.lt k hv; simp at e; omega)
theorem own_four {w : World} {base : Nat} {e : TypeId} {size : Nat} {v : Value} {n : Nat} {xs : List Value} (h : w.ownsRow base e size v n xs) {b : Nat} (hb : b < base) (u0 u1 u2 u3 : Value) : ((((w.setCell ⟨b, 0, none⟩ u0).setCell ⟨b, 1, none⟩ u1).setCell ⟨b, 2, none⟩ u2).setCell ⟨b, 3, none⟩ u3).ownsRow base e size v n xs :=
  own_low (own_low (own_low (own_low h hb _ _) hb _ _) hb _ _) hb _ _
theorem apart_none (a : Option Nat) : (a = none ∨ a ≠ none) := by cases a <;> simp
/-- the four cells of the result stored -/
theorem NmR.mk4 {w wX : World} {M : List Mo} {R : List Ru} {wk k : Int} {s : ByteArray} {a1 a2 : Option Addr} {n1 n2 c1 c2 : Nat} (hn1 : M.length = n1) (hn2 : R.length = n2) (hx : Ext w wX) (h1 : wX.ownsRow (w.heap.size + 1) 63 3 (.slice a1 n1 c1) n1 (MT M)) (h2 : wX.ownsRow (w.heap.size + 1) 67 3 (.slice a2 n2 c2) n2 (RT R))
    (hp : ((Value.slice a1 n1 c1).ownBlock = none ∨ (Value.slice a1 n1 c1).ownBlock ≠ (Value.slice a2 n2 c2).ownBlock) ∧ ((Value.slice a2 n2 c2).ownBlock = none ∨ (Value.slice a2 n2 c2).ownBlock ≠ (Value.slice a1 n1 c1).ownBlock)) (u0 u1 u2 u3 : Value) :
    NmR w ((((wX.setCell ⟨w.heap.size, 0, none⟩ u0).setCell ⟨w.heap.size, 1, none⟩ u1).setCell ⟨w.heap.size, 2, none⟩ u2).setCell ⟨w.heap.size, 3, none⟩ u3) M R wk k s (.returned (.tuple #[.agg #[.string s, .slice a1 n1 c1, .slice a2 n2 c2, .int .i64 wk], .int .i64 k])) := by
  subst hn1 hn2
  exact ⟨a1, c1, a2, c2, rfl, Ext.setAt (Ext.setAt (Ext.setAt (Ext.setAt hx _ _ _ (Nat.le_refl _)) _ _ _ (Nat.le_refl _)) _ _ _ (Nat.le_refl _)) _ _ _ (Nat.le_refl _), own_base (own_four h1 (by omega) _ _ _ _) (by omega), own_base (own_four h2 (by omega) _ _ _ _) (by omega), hp.1, hp.2⟩
set_option maxRecDepth 100000 in
set_option maxHeartbeats 4000000 in
theorem specNamed_egy (w : World) :
    Calls Tryd.prog 18 #[.string egyS] w fun e w' => NmR w w' egyM [] 10 0 egyS e := by
  rw [egyS]
  go_enter Tryd.func18, Tryd.ntmps18
  go_wp2_with fail
  have K0 := Blk.new w #[.string ⟨#[]⟩, .slice none 0 0, .slice none 0 0, .int .i64 0] 42
  refine (l15Equal_c 12 30 _ (by omega)).mono ?_
  rintro e w1 ⟨b, cap, rfl, hx1, ho1⟩
  have z1 := hx1.size
  simp only [World.size_alloc] at ho1 z1
  have HO := Lib.hid ho1
  have K1 := Lib.hid (K0.ext hx1)
  clear ho1 K0
  go_wp2_with (at_builtin; refine app_month _ _ rfl rfl (w.heap.size + 1) _ 12 13 (MT (eqM 30 12)) ⟨#[109, 49, 51]⟩ 5 5 _ 1 rfl rfl rfl (own_ext HO.out (by repeat (first | with_reducible exact Ext.refl _ | with_reducible assumption | with_reducible refine Ext.alloc ?_ _ | with_reducible refine Ext.drew ?_ | (with_reducible refine Ext.setAt ?_ _ _ _ ?_; rotate_left; omega) | with_reducible refine Ext.trans ?_ (by assumption) | with_reducible exact Past.bel _ | with_reducible refine Ext.trans ?_ (Past.bel _)))) (Blk.new _ _ _) (by omega) (Nat.le_trans z1 (Ext.size (w := w1) (by repeat (first | with_reducible exact Ext.refl _ | with_reducible assumption | with_reducible refine Ext.alloc ?_ _ | with_reducible refine Ext.drew ?_ | (with_reducible refine Ext.setAt ?_ _ _ _ ?_; rotate_left; omega) | with_reducible refine Ext.trans ?_ (by assumption) | with_reducible exact Past.bel _ | with_reducible refine Ext.trans ?_ (Past.bel _))))) ?_; intro b6 c6 w6 s6 s7; have K6 := (Blk.grown (K1.out.ext (w' := w1.alloc _) (by repeat (first | with_reducible exact Ext.refl _ | with_reducible assumption | with_reducible refine Ext.alloc ?_ _ | with_reducible refine Ext.drew ?_ | (with_reducible refine Ext.setAt ?_ _ _ _ ?_; rotate_left; omega) | with_reducible refine Ext.trans ?_ (by assumption) | with_reducible exact Past.bel _ | with_reducible refine Ext.trans ?_ (Past.bel _)))) s7 (fun e => by have := (HO.out.lt _ e.symm).1; omega)).cel; obtain ⟨k1, k2, k3, k4, k5, k6, k7, k8, k9⟩ := K6; have S6 := Lib.hid s6; have S7 := Lib.hid s7; clear s6 s7)
  have e6 : Ext w w6 := by
    refine Ext.grown ?_ S7.out (fun q hq => by have := (HO.out.lt q hq).1; omega)
    ((repeat (first | with_reducible exact Ext.refl _ | with_reducible assumption | with_reducible refine Ext.alloc ?_ _ | with_reducible refine Ext.drew ?_ | (with_reducible refine Ext.setAt ?_ _ _ _ ?_; rotate_left; omega) | with_reducible refine Ext.trans ?_ (by assumption) | with_reducible exact Past.bel _ | with_reducible refine Ext.trans ?_ (Past.bel _))); done)
  exact bodyPost_ret (v := .tuple #[.agg #[.string ⟨#[101, 103, 121, 112, 116, 105, 97, 110]⟩, .slice b6 13 c6, .slice none 0 0, .int .i64 10], .int .i64 0]) (by simp [results, Tryd.results18, go_sem, k2, k3, k4, k5]) rfl (NmR.mk4 rfl rfl e6 (by rw [egyM, MT_app]; exact S6.out) (World.ownsRow_nil _ _ _ _) ⟨apart_none _, .inl rfl⟩ _ _ _ _)
set_option maxRecDepth 100000 in
set_option maxHeartbeats 4000000 in
theorem specNamed_fix (w : World) :
    Calls Tryd.prog 18 #[.string fixS] w fun e w' => NmR w w' fixM gregR 7 0 fixS e := by
  rw [fixS]
  go_enter Tryd.func18, Tryd.ntmps18
  go_wp2_with fail
  have K0 := Blk.new w #[.string ⟨#[]⟩, .slice none 0 0, .slice none 0 0, .int .i64 0] 42
  refine (l15Equal_c 12 28 _ (by omega)).mono ?_
  rintro e w1 ⟨b, cap, rfl, hx1, ho1⟩
  have z1 := hx1.size
  simp only [World.size_alloc] at ho1 z1
  have HO := Lib.hid ho1
  have K1 := Lib.hid (K0.ext hx1)
  clear ho1 K0
  go_wp2_with (at_builtin; refine app_month _ _ rfl rfl (w.heap.size + 1) _ 12 13 (MT (eqM 28 12)) ⟨#[109, 49, 51]⟩ 29 30 _ 1 rfl rfl rfl (own_ext HO.out (by repeat (first | with_reducible exact Ext.refl _ | with_reducible assumption | with_reducible refine Ext.alloc ?_ _ | with_reducible refine Ext.drew ?_ | (with_reducible refine Ext.setAt ?_ _ _ _ ?_; rotate_left; omega) | with_reducible refine Ext.trans ?_ (by assumption) | with_reducible exact Past.bel _ | with_reducible refine Ext.trans ?_ (Past.bel _)))) (Blk.new _ _ _) (by omega) (Nat.le_trans z1 (Ext.size (w := w1) (by repeat (first | with_reducible exact Ext.refl _ | with_reducible assumption | with_reducible refine Ext.alloc ?_ _ | with_reducible refine Ext.drew ?_ | (with_reducible refine Ext.setAt ?_ _ _ _ ?_; rotate_left; omega) | with_reducible refine Ext.trans ?_ (by assumption) | with_reducible exact Past.bel _ | with_reducible refine Ext.trans ?_ (Past.bel _))))) ?_; intro b6 c6 w6 s6 s7; have K6 := Lib.hid (Blk.grown (K1.out.ext (w' := w1.alloc _) (by repeat (first | with_reducible exact Ext.refl _ | with_reducible assumption | with_reducible refine Ext.alloc ?_ _ | with_reducible refine Ext.drew ?_ | (with_reducible refine Ext.setAt ?_ _ _ _ ?_; rotate_left; omega) | with_reducible refine Ext.trans ?_ (by assumption) | with_reducible exact Past.bel _ | with_reducible refine Ext.trans ?_ (Past.bel _)))) s7 (fun e => by have := (HO.out.lt _ e.symm).1; omega)); have S6 := Lib.hid s6; have S7 := Lib.hid s7; clear s6 s7)
  have e6 : Ext w w6 := by
    refine Ext.grown ?_ S7.out (fun q hq => by have := (HO.out.lt q hq).1; omega)
    ((repeat (first | with_reducible exact Ext.refl _ | with_reducible assumption | with_reducible refine Ext.alloc ?_ _ | with_reducible refine Ext.drew ?_ | (with_reducible refine Ext.setAt ?_ _ _ _ ?_; rotate_left; omega) | with_reducible refine Ext.trans ?_ (by assumption) | with_reducible exact Past.bel _ | with_reducible refine Ext.trans ?_ (Past.bel _))); done)
  refine (l15Gregorian_c _).mono ?_
  rintro e w7 ⟨b7, rfl, hx7, ho7⟩
  have NE := Lib.hid (own_ne2 S6.out ho7 (Nat.le_refl _))
  have z7 := e6.size
  have z8 := K6.out.lt
  have O7 := Lib.hid (own_base (b0 := w.heap.size + 1) ho7 (by omega))
  have O6 := Lib.hid (own_ext S6.out hx7)
  obtain ⟨k1, k2, k3, k4, k5, k6, k7, k8, k9⟩ := (K6.out.ext hx7).cel
  have e7 := Ext.trans e6 hx7
  clear ho7
  go_wp2_with fail
  exact bodyPost_ret (v := .tuple #[.agg #[.string ⟨#[102, 105, 120, 101, 100]⟩, .slice b6 13 c6, .slice b7 3 3, .int .i64 7], .int .i64 0]) (by simp [results, Tryd.results18, go_sem, k2, k3, k4, k5]) rfl (NmR.mk4 rfl rfl e7 (by rw [fixM, MT_app]; exact O6.out) O7.out NE.out _ _ _ _)
set_option maxRecDepth 100000 in
set_option maxHeartbeats 4000000 in
theorem specNamed_gre (w : World) :
    Calls Tryd.prog 18 #[.string greS] w fun e w' => NmR w w' romM gregR 7 0 greS e := by
  rw [greS]
  go_enter Tryd.func18, Tryd.ntmps18
  go_wp2_with fail
  have K0 := Blk.new w #[.string ⟨#[]⟩, .slice none 0 0, .slice none 0 0, .int .i64 0] 42
  refine (l15Roman_c _).mono ?_
  rintro e w1 ⟨b6, c6, rfl, hx1, ho1⟩
  have z1 := hx1.size
  simp only [World.size_alloc] at ho1 z1
  have S6 := Lib.hid ho1
  have K6 := Lib.hid (K0.ext hx1)
  have e6 : Ext w w1 := Ext.trans (by repeat (first | with_reducible exact Ext.refl _ | with_reducible assumption | with_reducible refine Ext.alloc ?_ _ | with_reducible refine Ext.drew ?_ | (with_reducible refine Ext.setAt ?_ _ _ _ ?_; rotate_left; omega) | with_reducible refine Ext.trans ?_ (by assumption) | with_reducible exact Past.bel _ | with_reducible refine Ext.trans ?_ (Past.bel _))) hx1
  clear ho1 K0
  go_wp2_with fail
  refine (l15Gregorian_c _).mono ?_
  rintro e w7 ⟨b7, rfl, hx7, ho7⟩
  have NE := Lib.hid (own_ne2 S6.out ho7 (Nat.le_refl _))
  have O7 := Lib.hid (own_base (b0 := w.heap.size + 1) ho7 (by omega))
  have O6 := Lib.hid (own_ext S6.out hx7)
  obtain ⟨k1, k2, k3, k4, k5, k6, k7, k8, k9⟩ := (K6.out.ext hx7).cel
  have e7 := Ext.trans e6 hx7
  clear ho7
  go_wp2_with fail
  exact bodyPost_ret (v := .tuple #[.agg #[.string ⟨#[103, 114, 101, 103, 111, 114, 105, 97, 110]⟩, .slice b6 12 c6, .slice b7 3 3, .int .i64 7], .int .i64 0]) (by simp [results, Tryd.results18, go_sem, k2, k3, k4, k5]) rfl (NmR.mk4 rfl rfl e7 O6.out O7.out NE.out _ _ _ _)
set_option maxRecDepth 100000 in
set_option maxHeartbeats 4000000 in
theorem specNamed_jul (w : World) :
    Calls Tryd.prog 18 #[.string julS] w fun e w' => NmR w w' romM julR 7 0 julS e := by
  rw [julS]
  go_enter Tryd.func18, Tryd.ntmps18
  go_wp2_with fail
  have K0 := Blk.new w #[.string ⟨#[]⟩, .slice none 0 0, .slice none 0 0, .int .i64 0] 42
  refine (l15Roman_c _).mono ?_
  rintro e w1 ⟨b6, c6, rfl, hx1, ho1⟩
  have z1 := hx1.size
  simp only [World.size_alloc] at ho1 z1
  have S6 := Lib.hid ho1
  have K6 := Lib.hid (K0.ext hx1)
  have e6 : Ext w w1 := Ext.trans (by repeat (first | with_reducible exact Ext.refl _ | with_reducible assumption | with_reducible refine Ext.alloc ?_ _ | with_reducible refine Ext.drew ?_ | (with_reducible refine Ext.setAt ?_ _ _ _ ?_; rotate_left; omega) | with_reducible refine Ext.trans ?_ (by assumption) | with_reducible exact Past.bel _ | with_reducible refine Ext.trans ?_ (Past.bel _))) hx1
  clear ho1 K0
  obtain ⟨k1, k2, k3, k4, k5, k6, k7, k8, k9⟩ := K6.out.cel
  go_wp2_with fail
  refine bodyPost_ret (v := .tuple #[.agg #[.string ⟨#[106, 117, 108, 105, 97, 110]⟩, .slice b6 12 c6, .slice (some ⟨w1.heap.size, 0, none⟩) 1 1, .int .i64 7], .int .i64 0]) ?_ rfl ⟨b6, c6, some ⟨w1.heap.size, 0, none⟩, 1, rfl, ?_, own_base (own_ext (own_four S6.out (by omega) _ _ _ _) (Ext.alloc (Ext.refl _) _)) (by omega), own_litg _ (RT julR) rfl rfl (by decide) (by simp; omega) (by simp), ?_, ?_⟩
  · simp [results, Tryd.results18, go_sem, k1, k2, k3, k4, k5]
  · exact Ext.alloc (Ext.setAt (Ext.setAt (Ext.setAt (Ext.setAt e6 _ _ _ (Nat.le_refl _)) _ _ _ (Nat.le_refl _)) _ _ _ (Nat.le_refl _)) _ _ _ (Nat.le_refl _)) _
  · cases hv : (Value.slice b6 12 c6).ownBlock with
    | none => exact .inl hv
    | some k => exact .inr fun e => by have := (S6.out.lt k hv).2; have e' : (Value.slice b6 12 c6).ownBlock = some w1.heap.size := e; rw [hv] at e'; simp at e'; omega
  · exact .inr fun e => by have e' : (Value.slice b6 12 c6).ownBlock = some w1.heap.size := e.symm; have := (S6.out.lt _ e').2; omega
set_option maxRecDepth 100000 in
set_option maxHeartbeats 4000000 in
theorem specNamed_no (s : ByteArray) (w : World) (h1 : s ≠ egyS) (h2 : s ≠ fixS) (h3 : s ≠ greS) (h4 : s ≠ julS) :
    Calls Tryd.prog 18 #[.string s] w fun e w' => NmR w w' [] [] 0 3 ⟨#[]⟩ e := by
  have x1 := str_ne (l := [101, 103, 121, 112, 116, 105, 97, 110]) h1
  have x2 := str_ne (l := [102, 105, 120, 101, 100]) h2
  have x3 := str_ne (l := [103, 114, 101, 103, 111, 114, 105, 97, 110]) h3
  have x4 := str_ne (l := [106, 117, 108, 105, 97, 110]) h4
  clear h1 h2 h3 h4
  go_enter Tryd.func18, Tryd.ntmps18
  go_wp2_with fail
  refine bodyPost_ret (v := .tuple #[.agg #[.string ⟨#[]⟩, .slice none 0 0, .slice none 0 0, .int .i64 0], .int .i64 3]) (by simp [results, Tryd.results18, go_sem]) rfl ⟨none, 0, none, 0, rfl, ?_, World.ownsRow_nil _ _ _ _, World.ownsRow_nil _ _ _ _, .inl rfl, .inl rfl⟩
  ((repeat (first | with_reducible exact Ext.refl _ | with_reducible assumption | with_reducible refine Ext.alloc ?_ _ | with_reducible refine Ext.drew ?_ | (with_reducible refine Ext.setAt ?_ _ _ _ ?_; rotate_left; omega) | with_reducible refine Ext.trans ?_ (by assumption) | with_reducible exact Past.bel _ | with_reducible refine Ext.trans ?_ (Past.bel _))); done)
end Go.Proofs.YtppphpnimecgpaaDoor

namespace Go.Proofs.YtppphpnimecgpaaDoor
set_option linter.unusedVariables false
/-- the decimal digits of k, none of 0 -/
def mdigs (k : Nat) : List UInt8 := if h : k = 0 then [] else mdigs (k / 10) ++ [UInt8.ofNat (48 + k % 10)]
  termination_by k
  decreasing_by omega
theorem mdigs_zero : mdigs 0 = [] := by rw [mdigs]; simp
theorem mdigs_step {k : Nat} (h : k ≠ 0) : mdigs k = mdigs (k / 10) ++ [UInt8.ofNat (48 + k % 10)] := by rw [mdigs]; simp [h]
theorem mdigs_len (k : Nat) (m : Nat) (h : k < 10 ^ m) : (mdigs k).length ≤ m := by
  induction m generalizing k with
  | zero => have : k = 0 := by omega
            subst this; rw [mdigs_zero]; simp
  | succ m ih =>
    by_cases e : k = 0
    · subst e; rw [mdigs_zero]; simp
    · rw [mdigs_step e, List.length_append, List.length_singleton]
      have := ih (k / 10) (by rw [Nat.pow_succ] at h; omega)
      omega
/-- the text of mark k -/
def markT (k : Nat) : ByteArray := if k = 0 then ⟨#[109, 48]⟩ else ⟨#[109]⟩ ++ ⟨(mdigs k).toArray⟩
end Go.Proofs.YtppphpnimecgpaaDoor

namespace Go.Proofs.YtppphpnimecgpaaDoor
open Go.RowKit
set_option linter.unusedVariables false
set_option linter.unusedSimpArgs false

theorem u8_mdig {k : Nat} : ((UInt8.ofNat (48 + k % 10)).toNat : Int) = 48 + ((k % 10 : Nat) : Int) := by
  have h : (48 + k % 10) % 256 = 48 + k % 10 := Nat.mod_eq_of_lt (by omega)
  rw [UInt8.toNat_ofNat', h]; omega
set_option maxHeartbeats 1000000 in
theorem markText_c (k : Nat) (w : World) (hk : k ≤ 100000000) :
    Calls Tryd.prog 63 #[.int .i64 (k : Nat)] w fun e w' => e = .returned (.string (markT k)) ∧ Ext w w' := by
  by_cases h0 : k = 0
  · subst h0
    go_enter Tryd.func63, Tryd.ntmps63
    go_wp2
    go_ret
    exact ⟨rfl, (by repeat (first | with_reducible exact Ext.refl _ | with_reducible assumption | with_reducible refine Ext.alloc ?_ _ | with_reducible refine Ext.drew ?_ | (with_reducible refine Ext.setAt ?_ _ _ _ ?_; rotate_left; omega) | with_reducible refine Ext.trans ?_ (by assumption) | with_reducible exact Past.bel _ | with_reducible refine Ext.trans ?_ (Past.bel _)))⟩
  · have hl := mdigs_len k 9 (by omega)
    have HL := Lib.hid hl
    clear hl
    have x0 : ¬ (k : Int) ≤ 0 := by omega
    go_enter Tryd.func63, Tryd.ntmps63
    go_wp2_with fail
    go_loopw [0, 3] (fun i s wr => ∃ (j : Nat) (B : ByteArray), i = .int .i64 (j : Nat) ∧ j ≤ k ∧ s = .string B ∧ Ext w wr ∧ mdigs k = mdigs j ++ B.data.toList) (fun i _ _ => (intOf i).toNat)
    case atStart => exact ⟨k, ⟨#[]⟩, rfl, by omega, rfl, (by repeat (first | with_reducible exact Ext.refl _ | with_reducible assumption | with_reducible refine Ext.alloc ?_ _ | with_reducible refine Ext.drew ?_ | (with_reducible refine Ext.setAt ?_ _ _ _ ?_; rotate_left; omega) | with_reducible refine Ext.trans ?_ (by assumption) | with_reducible exact Past.bel _ | with_reducible refine Ext.trans ?_ (Past.bel _))), by simp⟩
    case round =>
      obtain ⟨j, B, rfl, hj, rfl, hbl, hd⟩ := hrel
      by_cases hlt : 0 < j
      · have hll : B.size ≤ 9 := by
          have h1 := HL.out
          rw [hd, List.length_append] at h1
          have h2 : B.size = B.data.toList.length := Array.length_toList.symm
          omega
        have hd2 : mdigs k = mdigs (j / 10) ++ (UInt8.ofNat (48 + j % 10) :: B.data.toList) := by rw [hd, mdigs_step (by omega)]; simp
        have HD := Lib.hid hd2
        clear hd hd2
        have y0 : (0 : Int) < (j : Int) := by omega
        have hcv : Sem.run Tryd.prog (convert 81 9 (Value.slice (some ⟨wr.heap.size, 0, none⟩) 1 1)) (wr.alloc (.cells #[.int .u8 (48 + (j : Int) % 10)] 5)) = .ok (.string ⟨#[UInt8.ofNat (48 + j % 10)]⟩) (wr.alloc (.cells #[.int .u8 (48 + (j : Int) % 10)] 5)) := by
          refine run_convert_bytes_back _ _ _ 5 _ 1 [UInt8.ofNat (48 + j % 10)] (by kernel_rfl) (by kernel_rfl) (by kernel_rfl) fun i hi => ?_
          obtain rfl : i = 0 := by simpa using hi
          simp only [List.getElem_cons_zero, u8_mdig]
          simp [Addr.add, go_sem]
        go_wp2_with fail
        exact ⟨⟨j / 10, _, by go_num, by omega, rfl, (by repeat (first | with_reducible exact Ext.refl _ | with_reducible assumption | with_reducible refine Ext.alloc ?_ _ | with_reducible refine Ext.drew ?_ | (with_reducible refine Ext.setAt ?_ _ _ _ ?_; rotate_left; omega) | with_reducible refine Ext.trans ?_ (by assumption) | with_reducible exact Past.bel _ | with_reducible refine Ext.trans ?_ (Past.bel _))), by rw [HD.out]; simp [ByteArray.data_append]⟩, by simp [intOf]; omega⟩
      · obtain rfl : j = 0 := by omega
        have e1 : mdigs k = B.data.toList := by rw [hd, mdigs_zero]; rfl
        have hll : B.size ≤ 9 := by
          have h1 := HL.out
          rw [e1] at h1
          have h2 : B.size = B.data.toList.length := Array.length_toList.symm
          omega
        have E1 := Lib.hid e1
        clear hd e1
        go_wp2_with fail
        go_ret
        refine ⟨?_, (by repeat (first | with_reducible exact Ext.refl _ | with_reducible assumption | with_reducible refine Ext.alloc ?_ _ | with_reducible refine Ext.drew ?_ | (with_reducible refine Ext.setAt ?_ _ _ _ ?_; rotate_left; omega) | with_reducible refine Ext.trans ?_ (by assumption) | with_reducible exact Past.bel _ | with_reducible refine Ext.trans ?_ (Past.bel _)))⟩
        have h3 : markT k = ⟨#[109]⟩ ++ B := by
          rw [markT, if_neg h0, E1.out]
        rw [h3]; rfl
end Go.Proofs.YtppphpnimecgpaaDoor

namespace Go.Proofs.YtppphpnimecgpaaDoor
open Go.RowKit
set_option linter.unusedVariables false
set_option linter.unusedSimpArgs false

theorem grown_weak {w w' : World} {row : Option Nat} (h : w.grownBy w' none) : w.grownBy w' row := ⟨h.os, h.tape, h.output, h.size, fun k hk _ => h.block k hk (by simp)⟩
/-- A slice of texts. -/
def SS (w : World) (a : Option Addr) (n : Nat) (s : Nat → ByteArray) : Prop :=
  0 < n → ∃ b off, a = some ⟨b, off, none⟩ ∧ b < w.heap.size ∧ ∀ j, j < n → w.cell? ⟨b, off + j, none⟩ = some (.string (s j))
theorem SS.ext {w w' : World} {a : Option Addr} {n : Nat} {s : Nat → ByteArray} (h : SS w a n s) (e : Ext w w') : SS w' a n s := fun hn => by
  obtain ⟨b, off, ha, hb, hc⟩ := h hn
  exact ⟨b, off, ha, Nat.lt_of_lt_of_le hb e.size, fun j hj => by rw [e.cell hb]; exact hc j hj⟩
theorem SS.at {w : World} {a : Option Addr} {n : Nat} {s : Nat → ByteArray} (h : SS w a n s) {j : Nat} (hj : j < n) :
    ∃ b off, a = some ⟨b, off, none⟩ ∧ b < w.heap.size ∧ w.cell? ⟨b, off + j, none⟩ = some (.string (s j)) := by
  obtain ⟨b, off, ha, hb, hc⟩ := h (by omega)
  exact ⟨b, off, ha, hb, hc j hj⟩
theorem own_ss {w : World} {base : Nat} {e : TypeId} {a : Option Addr} {n cap : Nat} {l : List ByteArray} (h : w.ownsRow base e 1 (.slice a n cap) n (l.map Value.string)) : SS w a n (fun j => l.getD j ⟨#[]⟩) := fun hn => by
  obtain ⟨g, rfl, _, hg, _⟩ := own_at h hn
  have hl : l.length = n := by simpa using h.1
  refine ⟨g, 0, rfl, hg, fun j hj => ?_⟩
  rw [Nat.zero_add, h.cellAt j (by omega)]
  simp [List.getD, show j < l.length by omega]
/-- the first j places of a list, marked -/
def markedF (F : Nat → Value) (xs : List Value) : Nat → List Value
  | 0 => xs
  | j + 1 => (markedF F xs j).set j (F j)
theorem markedF_length (F : Nat → Value) (xs : List Value) (j : Nat) : (markedF F xs j).length = xs.length := by
  induction j with
  | zero => rfl
  | succ j ih => simp [markedF, ih]
theorem markedF_at (F : Nat → Value) (xs : List Value) {j i : Nat} (hi : i < j) (hx : i < xs.length) : (markedF F xs j)[i]? = some (F i) := by
  induction j with
  | zero => omega
  | succ j ih =>
    simp only [markedF]
    by_cases e : i = j
    · subst e; rw [List.getElem?_set_self (by rw [markedF_length]; exact hx)]
    · rw [List.getElem?_set_ne (by omega)]; exact ih (by omega)
def mT (k : Nat) (j : Nat) : Value := .string (markT (k + j))
theorem markText_i (k j : Nat) (w : World) (hk : k + j ≤ 100000000) :
    Calls Tryd.prog 63 #[.int .i64 ((k : Int) + (j : Int))] w fun e w' => e = .returned (.string (markT (k + j))) ∧ Ext w w' := by
  have := markText_c (k + j) w hk
  simpa using this
def calNames : List ByteArray := [⟨#[101, 103, 121, 112, 116, 105, 97, 110]⟩, ⟨#[102, 105, 120, 101, 100]⟩, ⟨#[103, 114, 101, 103, 111, 114, 105, 97, 110]⟩, ⟨#[106, 117, 108, 105, 97, 110]⟩]
end Go.Proofs.YtppphpnimecgpaaDoor
