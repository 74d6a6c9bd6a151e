/- Calendars marked. The faults of a year. Dates of numbers: the reference's. Dates of numbers: the program's. Cycles, days, weeks: the functions as they are called. Faults counted: the program. The next fault. The next fault: the program. Calendars: compared. Calendars: compared as wholes. What an argument that is a calendar holds. The law ValidCalendar's walk. Laws on one calendar and numbers: their walks. -/
import Derived.Test.YtkihjplemnndeaaBd
import Derived.Test.YtkihjplemnndeaaBb
import Derived.Test.YtkihjplemnndeaaBc
import Derived.Test.YtkihjplemnndeaaBa
import Derived.Deep.RegionHeld3

namespace Go.Proofs.Ytkihjplemnndeaa
open Go.RowKit
set_option linter.unusedVariables false
set_option linter.unusedSimpArgs false

theorem own_at3 {w : World} {base : Nat} {e : TypeId} {n : Nat} {xs : List Value} {a : Option Addr} {cap j : Nat} (h : w.ownsRow base e 3 (.slice a n cap) n xs) (hj : j < n) :
    ∃ g, a = some ⟨g, 0, none⟩ ∧ base ≤ g ∧ g < w.heap.size ∧ (w.cell? ⟨g, j * 3, none⟩ = xs[j * 3]? ∧ w.frozen? ⟨g, j * 3, none⟩ = false) ∧ (w.cell? ⟨g, j * 3 + 1, none⟩ = xs[j * 3 + 1]? ∧ w.frozen? ⟨g, j * 3 + 1, none⟩ = false) ∧ w.cell? ⟨g, j * 3 + 2, none⟩ = xs[j * 3 + 2]? ∧ w.frozen? ⟨g, j * 3 + 2, none⟩ = false := by
  rcases h.2 with ⟨h1, h2⟩ | ⟨g, cap', cur, h1, hb, hg, h2, h3, h4, h5⟩
  · omega
  · simp only [Value.slice.injEq, true_and] at h1
    obtain ⟨rfl, rfl⟩ := h1
    exact ⟨g, rfl, hb, (Array.getElem?_eq_some_iff.1 hg).1, ⟨h.cellAt _ (by omega), h.frozenAt _⟩, ⟨h.cellAt _ (by omega), h.frozenAt _⟩, h.cellAt _ (by omega), h.frozenAt _⟩
set_option maxHeartbeats 1000000 in
theorem markMonthS_c (a : Option Addr) (n c base : Nat) (k0 : Nat) (xs : List Value) (w : World) (hn : n ≤ 1048576) (h1 : k0 ≤ 4000000) (hs : w.ownsRow base 83 3 (.slice a n c) n xs) :
    Calls Try.prog 36 #[.slice a n c, .int .i64 (k0 : Nat)] w fun e w' => ∃ m : Nat, e = .returned (.int .i64 (m : Nat)) ∧ m ≤ k0 + 3 * n ∧ w.grownBy w' (Value.slice a n c).ownBlock := by
  have HS := Lib.hid hs
  have hl : xs.length = n * 3 := hs.1
  clear hs
  go_enter Try.func36, Try.ntmps36
  go_wp2_with fail
  go_loopw [1, 5] (fun q i wr => ∃ (j m : Nat) (ys : List Value), j ≤ n ∧ i = .int .i64 j ∧ m = k0 + 3 * j ∧ q = .int .i64 (m : Nat) ∧ ys.length = n * 3 ∧ wr.ownsRow base 83 3 (.slice a n c) n ys ∧ w.grownBy wr (Value.slice a n c).ownBlock) (fun _ i _ => n - (intOf i).toNat)
  case atStart => exact ⟨0, k0, xs, by omega, rfl, by omega, rfl, hl, HS.out, World.grownBy.refl _ _⟩
  case round =>
    obtain ⟨j, m, ys, hj, rfl, hm, rfl, hy, ho, hg⟩ := hrel
    have HY := Lib.hid hy
    by_cases hlt : j < n
    · obtain ⟨g, rfl, hb1, hb2, ⟨q1, q2⟩, ⟨q3, q4⟩, q5, q6⟩ := own_at3 ho hlt
      have HO := Lib.hid ho
      have HG := Lib.hid hg
      obtain ⟨v1, r1⟩ : ∃ v, wr.cell? ⟨g, j * 3, none⟩ = some v := ⟨ys[j * 3]'(by omega), by rw [q1]; exact List.getElem?_eq_getElem _⟩
      obtain ⟨v2, r2⟩ : ∃ v, wr.cell? ⟨g, j * 3 + 1, none⟩ = some v := ⟨ys[j * 3 + 1]'(by omega), by rw [q3]; exact List.getElem?_eq_getElem _⟩
      obtain ⟨v3, r3⟩ : ∃ v, wr.cell? ⟨g, j * 3 + 2, none⟩ = some v := ⟨ys[j * 3 + 2]'(by omega), by rw [q5]; exact List.getElem?_eq_getElem _⟩
      have hmb : m ≤ 8000000 := by omega
      have HMM := Lib.hid hm
      clear q1 q3 q5 ho hg hy hl hm
      go_wp2_with (go_at_call 60; ((with_reducible refine (markText_c _ _ (by omega)).mono ?_); rintro e w' ⟨rfl, hx⟩; (first | (obtain ⟨wx, rfl⟩ := Past.again hx) | (obtain ⟨wx, rfl⟩ := Past.ofd hx) | (obtain ⟨wx, rfl⟩ := Past.of hx))))
      exact ⟨⟨j + 1, m + 3, _, by omega, by go_num, (by have := HMM.out; omega), congrArg _ (by omega), by simpa using HY.out, own_set (own_set (own_set (own_ext HO.out (Past.bel wx)) _) _) _, grown_trans (grown_trans (grown_trans (grown_trans HG.out (grown_weak (ext_grown (Past.bel wx)))) (grown_set _ _ _)) (grown_set _ _ _)) (grown_set _ _ _)⟩, by simp [intOf]; omega⟩
    · obtain rfl : j = n := by omega
      have HG := Lib.hid hg
      have HMM := Lib.hid hm
      clear ho hg hm
      go_wp2_with fail
      go_ret
      exact ⟨m, rfl, by have := HMM.out; omega, HG.out⟩
set_option maxHeartbeats 1000000 in
theorem markLeapRuleS_c (a : Option Addr) (n c base : Nat) (k0 : Nat) (xs : List Value) (w : World) (hn : n ≤ 1048576) (h1 : k0 ≤ 4000000) (hs : w.ownsRow base 86 3 (.slice a n c) n xs) :
    Calls Try.prog 37 #[.slice a n c, .int .i64 (k0 : Nat)] w fun e w' => ∃ m : Nat, e = .returned (.int .i64 (m : Nat)) ∧ m ≤ k0 + 3 * n ∧ w.grownBy w' (Value.slice a n c).ownBlock := by
  have HS := Lib.hid hs
  have hl : xs.length = n * 3 := hs.1
  clear hs
  go_enter Try.func37, Try.ntmps37
  go_wp2_with fail
  go_loopw [1, 5] (fun q i wr => ∃ (j m : Nat) (ys : List Value), j ≤ n ∧ i = .int .i64 j ∧ m = k0 + 3 * j ∧ q = .int .i64 (m : Nat) ∧ ys.length = n * 3 ∧ wr.ownsRow base 86 3 (.slice a n c) n ys ∧ w.grownBy wr (Value.slice a n c).ownBlock) (fun _ i _ => n - (intOf i).toNat)
  case atStart => exact ⟨0, k0, xs, by omega, rfl, by omega, rfl, hl, HS.out, World.grownBy.refl _ _⟩
  case round =>
    obtain ⟨j, m, ys, hj, rfl, hm, rfl, hy, ho, hg⟩ := hrel
    have HY := Lib.hid hy
    by_cases hlt : j < n
    · obtain ⟨g, rfl, hb1, hb2, ⟨q1, q2⟩, ⟨q3, q4⟩, q5, q6⟩ := own_at3 ho hlt
      have HO := Lib.hid ho
      have HG := Lib.hid hg
      obtain ⟨v1, r1⟩ : ∃ v, wr.cell? ⟨g, j * 3, none⟩ = some v := ⟨ys[j * 3]'(by omega), by rw [q1]; exact List.getElem?_eq_getElem _⟩
      obtain ⟨v2, r2⟩ : ∃ v, wr.cell? ⟨g, j * 3 + 1, none⟩ = some v := ⟨ys[j * 3 + 1]'(by omega), by rw [q3]; exact List.getElem?_eq_getElem _⟩
      obtain ⟨v3, r3⟩ : ∃ v, wr.cell? ⟨g, j * 3 + 2, none⟩ = some v := ⟨ys[j * 3 + 2]'(by omega), by rw [q5]; exact List.getElem?_eq_getElem _⟩
      have hmb : m ≤ 8000000 := by omega
      have HMM := Lib.hid hm
      clear q1 q3 q5 ho hg hy hl hm
      go_wp2_with fail
      exact ⟨⟨j + 1, m + 3, _, by omega, by go_num, (by have := HMM.out; omega), congrArg _ (by omega), by simpa using HY.out, own_set (own_set (own_set HO.out _) _) _, grown_trans (grown_trans (grown_trans HG.out (grown_set _ _ _)) (grown_set _ _ _)) (grown_set _ _ _)⟩, by simp [intOf]; omega⟩
    · obtain rfl : j = n := by omega
      have HG := Lib.hid hg
      have HMM := Lib.hid hm
      clear ho hg hm
      go_wp2_with fail
      go_ret
      exact ⟨m, rfl, by have := HMM.out; omega, HG.out⟩
set_option maxHeartbeats 1000000 in
theorem markCalendar_c (s : ByteArray) (g1 g2 b1 b2 n nr : Nat) (wk : Int) (xs ys : List Value) (w : World) (hn : n ≤ 1048576) (hr : nr ≤ 1048576) (h1 : w.ownsRow b1 83 3 (.slice (some ⟨g1, 0, none⟩) n n) n xs) (h2 : w.ownsRow b2 86 3 (.slice (some ⟨g2, 0, none⟩) nr nr) nr ys) (hne : g1 ≠ g2) :
    Calls Try.prog 12 #[.agg #[.string s, .slice (some ⟨g1, 0, none⟩) n n, .slice (some ⟨g2, 0, none⟩) nr nr, .int .i64 wk], .int .i64 1] w fun e w' => ∃ m : Nat, e = .returned (.int .i64 (m : Nat)) ∧ ∃ wm, w.grownBy wm (some g1) ∧ wm.grownBy w' (some g2) := by
  have H1 := Lib.hid h1
  have H2 := Lib.hid h2
  have l1 := (h1.lt g1 rfl).2
  have l2 := (h2.lt g2 rfl).2
  clear h1 h2
  go_enter Try.func12, Try.ntmps12
  go_wp2_with fail
  refine (markMonthS_c _ _ _ _ 1 _ _ hn (by omega) (own_ext H1.out (by repeat (first | with_reducible exact Ext.refl _ | with_reducible assumption | with_reducible refine Ext.alloc ?_ _ | with_reducible refine Ext.drew ?_ | (with_reducible refine Ext.setAt ?_ _ _ _ ?_; rotate_left; omega) | with_reducible refine Ext.trans ?_ (by assumption) | with_reducible exact Past.bel _ | with_reducible refine Ext.trans ?_ (Past.bel _))))).mono ?_
  rintro e w1 ⟨m1, rfl, hm1, hg1⟩
  have hz := hg1.size
  simp only [World.size_alloc] at hz
  have HG1 := Lib.hid hg1
  have q2 : w1.cell? ⟨w.heap.size, 2, none⟩ = some (.slice (some ⟨g2, 0, none⟩) nr nr) := by
    rw [World.cell?_of_block (hg1.block w.heap.size (by simp) (by simp [Value.ownBlock]; omega))]; simp [go_sem]
  have hx : w.grownBy w1 (some g1) := grown_trans (grown_weak (ext_grown (show Ext w (w.alloc (.cells #[.string s, .slice (some ⟨g1, 0, none⟩) n n, .slice (some ⟨g2, 0, none⟩) nr nr, .int .i64 wk] 33)) from (by repeat (first | with_reducible exact Ext.refl _ | with_reducible assumption | with_reducible refine Ext.alloc ?_ _ | with_reducible refine Ext.drew ?_ | (with_reducible refine Ext.setAt ?_ _ _ _ ?_; rotate_left; omega) | with_reducible refine Ext.trans ?_ (by assumption) | with_reducible exact Past.bel _ | with_reducible refine Ext.trans ?_ (Past.bel _)))))) hg1
  have O2 := Lib.hid (H2.out.kept hx (.inr (by simp [Value.ownBlock]; omega)))
  have HX := Lib.hid hx
  clear hg1 hx
  go_wp2_with fail
  refine (markLeapRuleS_c _ _ _ _ _ _ _ hr (by omega) O2.out).mono ?_
  rintro e w2 ⟨m2, rfl, hm2, hg2⟩
  have HG2 := Lib.hid hg2
  clear hg2
  go_wp2_with fail
  go_ret
  exact ⟨_, rfl, w1, HX.out, HG2.out⟩
end Go.Proofs.Ytkihjplemnndeaa

namespace Go.Proofs.Ytkihjplemnndeaa
open Go.RowKit
set_option linter.unusedVariables false
set_option linter.unusedSimpArgs false

theorem info_fault : (Try.prog.info? 45).map (fun i => (i.zero, i.size, i.bytes)) = some (some (.agg #[.int .i64 0, .int .i64 0, .int .i64 0, .int .i64 0]), 4, 32) := by kernel_rfl
/-- faults, cell by cell -/
def QT (l : List (Int × Int × Int × Int)) : List Value := l.flatMap fun q => [.int .i64 q.1, .int .i64 q.2.1, .int .i64 q.2.2.1, .int .i64 q.2.2.2]
theorem QT_app (l r : List (Int × Int × Int × Int)) : QT (l ++ r) = QT l ++ QT r := by simp [QT]
theorem QT_len (l : List (Int × Int × Int × Int)) : (QT l).length = l.length * 4 := by
  induction l with
  | nil => rfl
  | cons q l ih => have e : QT (q :: l) = [.int .i64 q.1, .int .i64 q.2.1, .int .i64 q.2.2.1, .int .i64 q.2.2.2] ++ QT l := rfl
                   rw [e, List.length_append, ih]; simp; omega
/-- 'out = append(out, q)', q of four numbers, 'out' made by the call that began in w0 -/
theorem app4 {P : Program} {w w0 : World} {ops : Array Oper} {rest : List Oper} {o : Oper} {A : Act} {Q : Exit → Act → World → Prop} (t T : TypeId) (s x : Operand) (z : Value)
    (hop : o.op = .call { callee := .builtin .append, args := #[s, x], argTypes := #[t, t] }) (hgd : o.guard = none)
    (ht : P.underlying t = some (.slice T)) (hinfo : (P.info? T).map (fun i => (i.zero, i.size, i.bytes)) = some (some z, 4, 32)) (hz : z.cells.size = 4)
    (v : Value) (l : List (Int × Int × Int × Int)) (q : Int × Int × Int × Int) (gb : Nat) (hs : A.eval s = v) (hx : A.eval x = .slice (some ⟨gb, 0, none⟩) 1 1) (h : w.ownsRow w0.heap.size T 4 v l.length (QT l))
    (hc : Blk w gb T #[.int .i64 q.1, .int .i64 q.2.1, .int .i64 q.2.2.1, .int .i64 q.2.2.2]) (hl : l.length ≤ 1048576) (h0 : Ext w0 w)
    (hK : ∀ v' w', w'.ownsRow w0.heap.size T 4 v' (l ++ [q]).length (QT (l ++ [q])) → Ext w0 w' → wpList P ops Q rest (A.put o.dst v') w') : wpList P ops Q (o :: rest) A w := by
  obtain ⟨i, hi, hz', hsz, hb⟩ := info_parts hinfo
  refine wpList_append_own (P := P) w hgd s x t hop w0.heap.size T i z 4 32 ht hi hz' hsz hb hz (by decide) v l.length _ hs h ⟨gb, 0, none⟩ 1 1 [.int .i64 q.1, .int .i64 q.2.1, .int .i64 q.2.2.1, .int .i64 q.2.2.2] hx rfl ?_ ?_ ?_ ?_ h0.size ?_
  · exact World.news_of_block hc
  · intro u hu
    simp at hu; rcases hu with rfl | rfl | rfl | rfl <;> rfl
  · unfold maxLen; omega
  · omega
  · intro v' w' h1 h2 _
    refine hK v' w' ?_ (h0.grown h2 fun k hk => (h.lt k hk).1)
    rw [QT_app, List.length_append]
    have e1 : QT [q] = [.int .i64 q.1, .int .i64 q.2.1, .int .i64 q.2.2.1, .int .i64 q.2.2.2] := rfl
    rw [e1]; simpa using h1
section
variable {s : ByteArray} {ma ra : Option Addr} {mc rc : Nat} {nm : Nat → ByteArray} {c : CalN} {w : World}
set_option maxHeartbeats 4000000 in
theorem faultsOf_v (wk : Int) (b : CalB c) (h : CalV w s ma ra mc rc nm c) {a : Option Addr} {n : Nat} {z : Nat → Int} (hn : 1 ≤ n) (hn2 : n ≤ 260) (h0 : n % c.n = 0) (hs : S1 w a n z) {y : Nat} (hy : y ≤ 1000000000) :
    Calls Try.prog 44 #[.agg #[.string s, .slice ma c.n mc, .slice ra c.nr rc, .int .i64 wk], .slice a n n, .int .i64 (y : Nat)] w fun e w' => ∃ bb cap, e = .returned (.slice bb (flt c n z y c.n).length cap) ∧ Ext w w' ∧ w'.ownsRow w.heap.size 45 4 (.slice bb (flt c n z y c.n).length cap) (flt c n z y c.n).length (QT (flt c n z y c.n)) := by
  have H := Lib.hid h
  have HPP := Lib.hid (h.p 33 wk)
  have HS := Lib.hid hs
  have B := Lib.hid b
  have hb := h.nb
  have hn1 := b.n1
  have n20 := b.n20
  have HBG := Lib.hid (fun W (hq : Ext w W) => belongs_y (wk := wk) (a := a) (cc := n) (H.out.ext hq) b.n1 hn hn2 h0)
  obtain ⟨k1, k2, k3⟩ := row_in (y := y) (j := c.n - 1) hn h0 hn1 (by omega)
  obtain ⟨K, hK⟩ : ∃ K, K = n / c.n := ⟨_, rfl⟩
  rw [← hK] at k1 k2 k3 HBG
  have hK3 : K ≤ 260 := by rw [hK]; exact Nat.le_trans (Nat.div_le_self _ _) hn2
  obtain ⟨R, hR⟩ : ∃ R, R = y % K := ⟨_, rfl⟩
  have hR2 : (y : Int) % (K : Int) = (R : Int) := by rw [hR]; simp
  rw [← hR] at k2
  obtain ⟨T, hT⟩ : ∃ T, T = R * c.n := ⟨_, rfl⟩
  have hT2 : (R : Int) * (c.n : Int) = (T : Int) := by rw [hT]; simp
  rw [← hT] at k2
  have hK0 : ¬ K = 0 := by omega
  have hTn : T + c.n ≤ n := by omega
  have hsh : ∀ j, j < c.n → ∃ b1 o1, a = some ⟨b1, o1, none⟩ ∧ b1 < w.heap.size ∧ w.cell? ⟨b1, o1 + T + j, none⟩ = some (.int .i64 (shown c n z y j)) := fun j hj => by
    obtain ⟨b1, o1, ha, hb1, q1⟩ := S1.at hs (show T + j < n by omega)
    refine ⟨b1, o1, ha, hb1, ?_⟩
    rw [Nat.add_assoc, q1, shown, ← hK, ← hR, ← hT]
  obtain ⟨b1, o1, rfl, hb1, -⟩ := hsh 0 (by omega)
  have hsh2 : ∀ W j, Ext w W → j < c.n → W.cell? ⟨b1, o1 + T + j, none⟩ = some (.int .i64 (shown c n z y j)) := fun W j hq hj => by
    obtain ⟨b2, o2, e2, hb2, q2⟩ := hsh j hj
    obtain ⟨rfl, rfl⟩ : b1 = b2 ∧ o1 = o2 := by simpa using e2
    rw [hq.cell hb1]; exact q2
  have HSH := Lib.hid hsh2
  obtain ⟨L, hL⟩ : ∃ L, L = c.leap (y : Int) := ⟨_, rfl⟩
  have HLP := Lib.hid (fun W (hq : Ext w W) => (hL ▸ isLeap_v (wk := wk) B.out (H.out.ext hq) (show 0 ≤ (y : Int) by omega) (by omega) : Calls Try.prog 32 #[.agg #[.string s, .slice ma c.n mc, .slice ra c.nr rc, .int .i64 wk], .int .i64 (y : Nat)] W fun e w' => e = .returned (.bool L) ∧ Ext W w'))
  have HDM := Lib.hid (fun W (hq : Ext w W) (j : Nat) (hj : j < c.n) => (hL ▸ daysOfMonth_v (wk := wk) (H.out.ext hq) (y : Int) hj : Calls Try.prog 33 #[.agg #[.string s, .slice ma c.n mc, .slice ra c.nr rc, .int .i64 wk], .bool L, .int .i64 ((j : Int) + 1)] W fun e w' => e = .returned (.int .i64 (c.mo (y : Int) j)) ∧ Ext W w'))
  clear h hs b h0 k1 k2 k3 hK hR hT hL hsh hsh2
  go_enter Try.func44, Try.ntmps44
  go_wp2_with (first | (go_at_call 32; ((with_reducible refine (HLP.out _ (by repeat (first | with_reducible exact Ext.refl _ | with_reducible assumption | with_reducible refine Ext.alloc ?_ _ | with_reducible refine Ext.drew ?_ | (with_reducible refine Ext.setAt ?_ _ _ _ ?_; rotate_left; omega) | with_reducible refine Ext.trans ?_ (by assumption) | with_reducible exact Past.bel _ | with_reducible refine Ext.trans ?_ (Past.bel _)))).mono ?_); rintro e w' ⟨rfl, hx⟩; (first | (obtain ⟨wx, rfl⟩ := Past.again hx) | (obtain ⟨wx, rfl⟩ := Past.ofd hx) | (obtain ⟨wx, rfl⟩ := Past.of hx)))) | (go_at_call 64; ((with_reducible refine (HBG.out _ (by repeat (first | with_reducible exact Ext.refl _ | with_reducible assumption | with_reducible refine Ext.alloc ?_ _ | with_reducible refine Ext.drew ?_ | (with_reducible refine Ext.setAt ?_ _ _ _ ?_; rotate_left; omega) | with_reducible refine Ext.trans ?_ (by assumption) | with_reducible exact Past.bel _ | with_reducible refine Ext.trans ?_ (Past.bel _)))).mono ?_); rintro e w' ⟨rfl, hx⟩; (first | (obtain ⟨wx, rfl⟩ := Past.again hx) | (obtain ⟨wx, rfl⟩ := Past.ofd hx) | (obtain ⟨wx, rfl⟩ := Past.of hx)))))
  clear hR2 hT2 hK0
  go_loopw [7, 11] (fun v m wr => ∃ j : Nat, j ≤ c.n ∧ m = .int .i64 ((j : Int) + 1) ∧ Ext (w.alloc (.cells #[.string s, .slice ma c.n mc, .slice ra c.nr rc, .int .i64 wk] 33)) wr ∧ wr.ownsRow (w.alloc (.cells #[.string s, .slice ma c.n mc, .slice ra c.nr rc, .int .i64 wk] 33)).heap.size 45 4 v (flt c n z y j).length (QT (flt c n z y j))) (fun _ m _ => c.n + 1 - (intOf m).toNat)
  case atStart => exact ⟨0, by omega, rfl, (by repeat (first | with_reducible exact Ext.refl _ | with_reducible assumption | with_reducible refine Ext.alloc ?_ _ | with_reducible refine Ext.drew ?_ | (with_reducible refine Ext.setAt ?_ _ _ _ ?_; rotate_left; omega) | with_reducible refine Ext.trans ?_ (by assumption) | with_reducible exact Past.bel _ | with_reducible refine Ext.trans ?_ (Past.bel _))), World.ownsRow_nil _ _ _ _⟩
  case round =>
    obtain ⟨j, hj, rfl, hbl, ho⟩ := hrel
    have HO := Lib.hid ho
    have hp := HPP.out.ext hbl
    have g0 := hp.lt
    have p0 := hp.c0
    have p1 := hp.c1
    have p2 := hp.c2
    have p3 := hp.c3
    have hxw : Ext w wr := Ext.trans (by repeat (first | with_reducible exact Ext.refl _ | with_reducible assumption | with_reducible refine Ext.alloc ?_ _ | with_reducible refine Ext.drew ?_ | (with_reducible refine Ext.setAt ?_ _ _ _ ?_; rotate_left; omega) | with_reducible refine Ext.trans ?_ (by assumption) | with_reducible exact Past.bel _ | with_reducible refine Ext.trans ?_ (Past.bel _))) hbl
    have hlen := flt_len c n z y j
    have x6 : (j : Int) + 1 - 1 = (j : Int) := by omega
    clear ho hp
    by_cases hlt : j < c.n
    · have q1 := HSH.out wr j hxw hlt
      have hb2 : b1 < wr.heap.size := Nat.lt_of_lt_of_le hb1 hxw.size
      obtain ⟨v, hv⟩ : ∃ v, v = shown c n z y j := ⟨_, rfl⟩
      obtain ⟨M, hM⟩ : ∃ M, M = c.mo (y : Int) j := ⟨_, rfl⟩
      have hw : wrong c n z y j = decide (v ≠ M) := by rw [wrong, hv, hM]
      have HV := Lib.hid (And.intro hv (And.intro hM hw))
      rw [← hv] at q1
      have HD := Lib.hid (fun W (hq : Ext w W) => (hM ▸ HDM.out W hq j hlt : Calls Try.prog 33 #[.agg #[.string s, .slice ma c.n mc, .slice ra c.nr rc, .int .i64 wk], .bool L, .int .i64 ((j : Int) + 1)] W fun e w' => e = .returned (.int .i64 M) ∧ Ext W w'))
      clear hv hM hw
      by_cases hvm : v = M
      · subst hvm
        go_wp2_with (go_at_call 33; ((with_reducible refine (HD.out _ (by repeat (first | with_reducible exact Ext.refl _ | with_reducible assumption | with_reducible refine Ext.alloc ?_ _ | with_reducible refine Ext.drew ?_ | (with_reducible refine Ext.setAt ?_ _ _ _ ?_; rotate_left; omega) | with_reducible refine Ext.trans ?_ (by assumption) | with_reducible exact Past.bel _ | with_reducible refine Ext.trans ?_ (Past.bel _)))).mono ?_); rintro e w' ⟨rfl, hx⟩; (first | (obtain ⟨wx, rfl⟩ := Past.again hx) | (obtain ⟨wx, rfl⟩ := Past.ofd hx) | (obtain ⟨wx, rfl⟩ := Past.of hx))))
        have e1 : flt c n z y (j + 1) = flt c n z y j := by
          obtain ⟨hv, hM, hw⟩ := HV.out
          simp [flt, hw]
        exact ⟨⟨j + 1, by omega, by go_num, (by repeat (first | with_reducible exact Ext.refl _ | with_reducible assumption | with_reducible refine Ext.alloc ?_ _ | with_reducible refine Ext.drew ?_ | (with_reducible refine Ext.setAt ?_ _ _ _ ?_; rotate_left; omega) | with_reducible refine Ext.trans ?_ (by assumption) | with_reducible exact Past.bel _ | with_reducible refine Ext.trans ?_ (Past.bel _))), by rw [e1]; exact own_ext HO.out (by repeat (first | with_reducible exact Ext.refl _ | with_reducible assumption | with_reducible refine Ext.alloc ?_ _ | with_reducible refine Ext.drew ?_ | (with_reducible refine Ext.setAt ?_ _ _ _ ?_; rotate_left; omega) | with_reducible refine Ext.trans ?_ (by assumption) | with_reducible exact Past.bel _ | with_reducible refine Ext.trans ?_ (Past.bel _)))⟩, by simp [intOf]; omega⟩
      · have hvm2 : (v != M) = true := by simpa using hvm
        go_wp2_with (first | (go_at_call 33; ((with_reducible refine (HD.out _ (by repeat (first | with_reducible exact Ext.refl _ | with_reducible assumption | with_reducible refine Ext.alloc ?_ _ | with_reducible refine Ext.drew ?_ | (with_reducible refine Ext.setAt ?_ _ _ _ ?_; rotate_left; omega) | with_reducible refine Ext.trans ?_ (by assumption) | with_reducible exact Past.bel _ | with_reducible refine Ext.trans ?_ (Past.bel _)))).mono ?_); rintro e w' ⟨rfl, hx⟩; (first | (obtain ⟨wx, rfl⟩ := Past.again hx) | (obtain ⟨wx, rfl⟩ := Past.ofd hx) | (obtain ⟨wx, rfl⟩ := Past.of hx)))) | (at_builtin; refine app4 (w0 := (w.alloc (.cells #[.string s, .slice ma c.n mc, .slice ra c.nr rc, .int .i64 wk] 33))) 72 45 _ _ _ rfl rfl Try.underlying72 info_fault rfl _ (flt c n z y j) ((y : Int), (j : Int) + 1, v, M) _ rfl rfl (own_ext HO.out (by repeat (first | with_reducible exact Ext.refl _ | with_reducible assumption | with_reducible refine Ext.alloc ?_ _ | with_reducible refine Ext.drew ?_ | (with_reducible refine Ext.setAt ?_ _ _ _ ?_; rotate_left; omega) | with_reducible refine Ext.trans ?_ (by assumption) | with_reducible exact Past.bel _ | with_reducible refine Ext.trans ?_ (Past.bel _)))) (Blk.new _ _ _) (by omega) (by repeat (first | with_reducible exact Ext.refl _ | with_reducible assumption | with_reducible refine Ext.alloc ?_ _ | with_reducible refine Ext.drew ?_ | (with_reducible refine Ext.setAt ?_ _ _ _ ?_; rotate_left; omega) | with_reducible refine Ext.trans ?_ (by assumption) | with_reducible exact Past.bel _ | with_reducible refine Ext.trans ?_ (Past.bel _))) ?_; intro v1 w1 ho1 hx1))
        have e1 : flt c n z y (j + 1) = flt c n z y j ++ [((y : Int), (j : Int) + 1, v, M)] := by
          obtain ⟨hv, hM, hw⟩ := HV.out
          rw [flt, hw, if_pos (by simpa using hvm), ← hv, ← hM]
        exact ⟨⟨j + 1, by omega, by go_num, hx1, by rw [e1]; exact ho1⟩, by simp [intOf]; omega⟩
    · have hj2 : j = c.n := by omega
      rw [hj2] at HO
      obtain ⟨bb, cap, rfl⟩ := own_form HO.out
      have x3 : (c.n : Int) < (j : Int) + 1 := by omega
      clear hj2
      go_wp2_with fail
      go_ret
      exact ⟨bb, cap, rfl, (by repeat (first | with_reducible exact Ext.refl _ | with_reducible assumption | with_reducible refine Ext.alloc ?_ _ | with_reducible refine Ext.drew ?_ | (with_reducible refine Ext.setAt ?_ _ _ _ ?_; rotate_left; omega) | with_reducible refine Ext.trans ?_ (by assumption) | with_reducible exact Past.bel _ | with_reducible refine Ext.trans ?_ (Past.bel _))), own_base HO.out (by simp)⟩
end
end Go.Proofs.Ytkihjplemnndeaa

namespace Go.Proofs.Ytkihjplemnndeaa
open Go.RowKit
set_option linter.unusedVariables false
set_option linter.unusedSimpArgs false

section
variable {g : Nat} {s : ByteArray} {ma ra : Option Addr} {mc rc : Nat} {wk : Int} {nm : Nat → ByteArray} {c : CalN} {w : World}
end
end Go.Proofs.Ytkihjplemnndeaa

namespace Go.Proofs.Ytkihjplemnndeaa
open Go.RowKit
set_option linter.unusedVariables false
set_option linter.unusedSimpArgs false

section
variable {s : ByteArray} {ma ra : Option Addr} {mc rc : Nat} {wk : Int} {nm : Nat → ByteArray} {c : CalN} {w : World}
end
end Go.Proofs.Ytkihjplemnndeaa

namespace Go.Proofs.Ytkihjplemnndeaa
open Go.RowKit
set_option linter.unusedVariables false
set_option linter.unusedSimpArgs false

section
variable {g : Nat} {s : ByteArray} {ma ra : Option Addr} {mc rc : Nat} {wk : Int} {nm : Nat → ByteArray} {c : CalN} {w : World}
theorem cycleYears_v (b : CalB c) (h : CalV w s ma ra mc rc nm c) : Calls Try.prog 57 #[.slice ra c.nr rc] w fun e w' => e = .returned (.int .i64 c.cyc) ∧ Ext w w' :=
  cycleYears_c _ _ _ c.ev c.rs c.lf _ h.rb h.mem.ru b.ev
end
end Go.Proofs.Ytkihjplemnndeaa

namespace Go.Proofs.Ytkihjplemnndeaa
open Go.RowKit
set_option linter.unusedVariables false
set_option linter.unusedSimpArgs false

section
variable {s : ByteArray} {ma ra : Option Addr} {mc rc : Nat} {nm : Nat → ByteArray} {c : CalN} {w : World}
set_option maxHeartbeats 4000000 in
theorem faultCount_v (wk : Int) (b : CalB c) (h : CalV w s ma ra mc rc nm c) {a : Option Addr} {n : Nat} {z : Nat → Int} (hn : 1 ≤ n) (hn2 : n ≤ 260) (h0 : n % c.n = 0) (hs : S1 w a n z) :
    Calls Try.prog 42 #[.agg #[.string s, .slice ma c.n mc, .slice ra c.nr rc, .int .i64 wk], .slice a n n] w fun e w' => e = .returned (.int .i64 (cnt c n z (Nat.lcm c.cyc.toNat (n / c.n)) : Nat)) ∧ Ext w w' := by
  obtain ⟨C, hC, hC1, hC2⟩ := b.cycN
  have hn1 := b.n1
  have n20 := b.n20
  obtain ⟨k1, k2, k3⟩ := row_in (y := 0) (j := 0) hn h0 hn1 hn1
  have HBG := Lib.hid (fun W (hq : Ext w W) => belongs_y (wk := wk) (a := a) (cc := n) (h.ext hq) b.n1 hn hn2 h0)
  have HFO := Lib.hid (fun W (hq : Ext w W) y hy => faultsOf_v wk b (h.ext hq) hn hn2 h0 (hs.ext hq) (y := y) hy)
  obtain ⟨K, hK⟩ : ∃ K, K = n / c.n := ⟨_, rfl⟩
  rw [← hK] at k1 HBG ⊢
  have hK3 : K ≤ 260 := by rw [hK]; exact Nat.le_trans (Nat.div_le_self _ _) hn2
  obtain ⟨G, q, q', L, l1, l2, l3, l4, l5, l6, l7, l8, l9, l10, l11⟩ := lcm_facts hC1 hC2 k1 hK3
  have e0 : c.cyc.toNat = C := by omega
  rw [e0, ← l11]
  have HCY := Lib.hid (fun W (hq : Ext w W) => (hC ▸ cycleYears_v b (h.ext hq) : Calls Try.prog 57 #[.slice ra c.nr rc] W fun e w' => e = .returned (.int .i64 (C : Nat)) ∧ Ext W w'))
  have HG := Lib.hid (fun W => (l2 ▸ gcd_c (K : Int) (C : Int) W (by omega) (by omega) (by omega) (by omega) : Calls Try.prog 65 #[.int .i64 (K : Nat), .int .i64 (C : Nat)] W fun e w' => e = .returned (.int .i64 (G : Nat)) ∧ Ext W w'))
  have l0 : ¬ G = 0 := by omega
  have HPP := Lib.hid (h.p 33 wk)
  have B := Lib.hid b
  clear h hs b h0 k2 k3 hK hC l1 l2 l4 l6 l11 e0
  go_enter Try.func42, Try.ntmps42
  go_wp2_with fail
  refine wp_region_past (by kernel_rfl) (by kernel_rfl) ?_
  repeat (go_big_quiet_step (first | (go_at_call 64; exact Calls.past (HBG.out _ (by repeat (first | with_reducible exact Ext.refl _ | with_reducible assumption | with_reducible refine Ext.alloc ?_ _ | with_reducible refine Ext.drew ?_ | (with_reducible refine Ext.setAt ?_ _ _ _ ?_; rotate_left; omega) | with_reducible refine Ext.trans ?_ (by assumption) | with_reducible exact Past.bel _ | with_reducible refine Ext.trans ?_ (Past.bel _))))) | (go_at_call 57; exact Calls.past (HCY.out _ (by repeat (first | with_reducible exact Ext.refl _ | with_reducible assumption | with_reducible refine Ext.alloc ?_ _ | with_reducible refine Ext.drew ?_ | (with_reducible refine Ext.setAt ?_ _ _ _ ?_; rotate_left; omega) | with_reducible refine Ext.trans ?_ (by assumption) | with_reducible exact Past.bel _ | with_reducible refine Ext.trans ?_ (Past.bel _)))))))
  refine wpQuiet_nil ?_
  rintro _ ⟨wx, rfl⟩
  go_wp2_with (go_at_call 65; ((with_reducible refine (HG.out _).mono ?_); rintro e w' ⟨rfl, hx⟩; (first | (obtain ⟨wx, rfl⟩ := Past.again hx) | (obtain ⟨wx, rfl⟩ := Past.ofd hx) | (obtain ⟨wx, rfl⟩ := Past.of hx))))
  clear l5 l7 l0
  go_loopw [8, 9] (fun v m wr => ∃ j A : Nat, j ≤ L ∧ m = .int .i64 (j : Nat) ∧ A = cnt c n z j ∧ v = .int .i64 (A : Nat) ∧ Ext (w.alloc (.cells #[.string s, .slice ma c.n mc, .slice ra c.nr rc, .int .i64 wk] 33)) wr) (fun _ m _ => L - (intOf m).toNat)
  case atStart => exact ⟨0, 0, by omega, rfl, rfl, rfl, (by repeat (first | with_reducible exact Ext.refl _ | with_reducible assumption | with_reducible refine Ext.alloc ?_ _ | with_reducible refine Ext.drew ?_ | (with_reducible refine Ext.setAt ?_ _ _ _ ?_; rotate_left; omega) | with_reducible refine Ext.trans ?_ (by assumption) | with_reducible exact Past.bel _ | with_reducible refine Ext.trans ?_ (Past.bel _)))⟩
  case round =>
    obtain ⟨j, A, hj, rfl, hA, rfl, hbl⟩ := hrel
    have hp := HPP.out.ext hbl
    have g0 := hp.lt
    have p0 := hp.c0
    have p1 := hp.c1
    have p2 := hp.c2
    have p3 := hp.c3
    have hxw : Ext w wr := Ext.trans (by repeat (first | with_reducible exact Ext.refl _ | with_reducible assumption | with_reducible refine Ext.alloc ?_ _ | with_reducible refine Ext.drew ?_ | (with_reducible refine Ext.setAt ?_ _ _ _ ?_; rotate_left; omega) | with_reducible refine Ext.trans ?_ (by assumption) | with_reducible exact Past.bel _ | with_reducible refine Ext.trans ?_ (Past.bel _))) hbl
    have hA2 : A ≤ 10400000 := by
      have h1 := cnt_le c n z j
      have h2 : j * c.n ≤ 520000 * 20 := Nat.mul_le_mul (by omega) n20
      omega
    have HA := Lib.hid hA
    clear hp hA
    by_cases hlt : j < L
    · have h3 := flt_len c n z j c.n
      obtain ⟨D, hD⟩ : ∃ D, D = (flt c n z j c.n).length := ⟨_, rfl⟩
      have hf : ∀ W, Ext w W → Calls Try.prog 44 #[.agg #[.string s, .slice ma c.n mc, .slice ra c.nr rc, .int .i64 wk], .slice a n n, .int .i64 (j : Nat)] W fun e w' => ∃ bb cap, e = .returned (.slice bb D cap) ∧ Ext W w' := fun W hq => by
        refine (HFO.out W hq j (by omega)).mono ?_
        rintro e w' ⟨bb, cap, rfl, hx, -⟩
        exact ⟨bb, cap, by rw [hD], hx⟩
      have HF := Lib.hid hf
      have HD := Lib.hid hD
      rw [← hD] at h3
      clear hD hf
      go_wp2_with fail
      refine (HF.out _ hxw).mono ?_
      rintro e w' ⟨bb, cap, rfl, hx⟩
      have hb3 := Ext.trans hbl hx
      go_wp2_with fail
      exact ⟨⟨j + 1, A + D, by omega, by go_num, by have h1 := HA.out; have h2 := HD.out; simp only [cnt]; omega, by go_num, hb3⟩, by simp [intOf]; omega⟩
    · obtain rfl : j = L := by omega
      go_wp2_with fail
      go_ret
      exact ⟨by rw [HA.out]; rfl, (by repeat (first | with_reducible exact Ext.refl _ | with_reducible assumption | with_reducible refine Ext.alloc ?_ _ | with_reducible refine Ext.drew ?_ | (with_reducible refine Ext.setAt ?_ _ _ _ ?_; rotate_left; omega) | with_reducible refine Ext.trans ?_ (by assumption) | with_reducible exact Past.bel _ | with_reducible refine Ext.trans ?_ (Past.bel _)))⟩
set_option maxHeartbeats 1000000 in
theorem implFaultCount_c (wk : Int) (h : CalV w s ma ra mc rc nm c) {a : Option Addr} {n : Nat} {z : Nat → Int} (hn : n ≤ 1048576) (hs : S1 w a n z) :
    Calls Try.prog 17 #[.agg #[.string s, .slice ma c.n mc, .slice ra c.nr rc, .int .i64 wk], .slice a n n] w fun e w' => e = .returned (.tuple #[.int .i64 (fcV s nm c wk n z), .int .i64 (asC s nm c wk n z)]) ∧ Ext w w' := by
  have HAS := Lib.hid (fun W (hq : Ext w W) => askedCam_v wk (cc := n) (h.ext hq) hn (hs.ext hq))
  by_cases h1 : asC s nm c wk n z = 0
  · obtain ⟨k1, k2, k3⟩ := asC_z h1
    have kn := camV_n k2
    have HFC := Lib.hid (fun W (hq : Ext w W) => faultCount_v wk (calB_b k1) (h.ext hq) kn.1 kn.2 k3 (hs.ext hq))
    have hv : fcV s nm c wk n z = (cnt c n z (Nat.lcm c.cyc.toNat (n / c.n)) : Nat) := by rw [fcV, if_pos h1]
    rw [← hv] at HFC
    rw [h1] at HAS ⊢
    clear h hs h1 hv k3
    go_enter Try.func17, Try.ntmps17
    go_wp2_with (first | (go_at_call 41; ((with_reducible refine (HAS.out _ (by repeat (first | with_reducible exact Ext.refl _ | with_reducible assumption | with_reducible refine Ext.alloc ?_ _ | with_reducible refine Ext.drew ?_ | (with_reducible refine Ext.setAt ?_ _ _ _ ?_; rotate_left; omega) | with_reducible refine Ext.trans ?_ (by assumption) | with_reducible exact Past.bel _ | with_reducible refine Ext.trans ?_ (Past.bel _)))).mono ?_); rintro e w' ⟨rfl, hx⟩; (first | (obtain ⟨wx, rfl⟩ := Past.again hx) | (obtain ⟨wx, rfl⟩ := Past.ofd hx) | (obtain ⟨wx, rfl⟩ := Past.of hx)))) | (go_at_call 42; ((with_reducible refine (HFC.out _ (by repeat (first | with_reducible exact Ext.refl _ | with_reducible assumption | with_reducible refine Ext.alloc ?_ _ | with_reducible refine Ext.drew ?_ | (with_reducible refine Ext.setAt ?_ _ _ _ ?_; rotate_left; omega) | with_reducible refine Ext.trans ?_ (by assumption) | with_reducible exact Past.bel _ | with_reducible refine Ext.trans ?_ (Past.bel _)))).mono ?_); rintro e w' ⟨rfl, hx⟩; (first | (obtain ⟨wx, rfl⟩ := Past.again hx) | (obtain ⟨wx, rfl⟩ := Past.ofd hx) | (obtain ⟨wx, rfl⟩ := Past.of hx)))))
    go_ret2
    exact ⟨rfl, (by repeat (first | with_reducible exact Ext.refl _ | with_reducible assumption | with_reducible refine Ext.alloc ?_ _ | with_reducible refine Ext.drew ?_ | (with_reducible refine Ext.setAt ?_ _ _ _ ?_; rotate_left; omega) | with_reducible refine Ext.trans ?_ (by assumption) | with_reducible exact Past.bel _ | with_reducible refine Ext.trans ?_ (Past.bel _)))⟩
  · have hv : fcV s nm c wk n z = 0 := by rw [fcV, if_neg h1]
    rw [hv]
    obtain ⟨k, hk⟩ : ∃ k, k = asC s nm c wk n z := ⟨_, rfl⟩
    rw [← hk] at HAS h1 ⊢
    clear hk hv h hs
    go_enter Try.func17, Try.ntmps17
    go_wp2_with (go_at_call 41; ((with_reducible refine (HAS.out _ (by repeat (first | with_reducible exact Ext.refl _ | with_reducible assumption | with_reducible refine Ext.alloc ?_ _ | with_reducible refine Ext.drew ?_ | (with_reducible refine Ext.setAt ?_ _ _ _ ?_; rotate_left; omega) | with_reducible refine Ext.trans ?_ (by assumption) | with_reducible exact Past.bel _ | with_reducible refine Ext.trans ?_ (Past.bel _)))).mono ?_); rintro e w' ⟨rfl, hx⟩; (first | (obtain ⟨wx, rfl⟩ := Past.again hx) | (obtain ⟨wx, rfl⟩ := Past.ofd hx) | (obtain ⟨wx, rfl⟩ := Past.of hx))))
    go_ret2
    exact ⟨rfl, (by repeat (first | with_reducible exact Ext.refl _ | with_reducible assumption | with_reducible refine Ext.alloc ?_ _ | with_reducible refine Ext.drew ?_ | (with_reducible refine Ext.setAt ?_ _ _ _ ?_; rotate_left; omega) | with_reducible refine Ext.trans ?_ (by assumption) | with_reducible exact Past.bel _ | with_reducible refine Ext.trans ?_ (Past.bel _)))⟩
end
end Go.Proofs.Ytkihjplemnndeaa

namespace Go.Proofs.Ytkihjplemnndeaa
open Go.RowKit
set_option linter.unusedVariables false
set_option linter.unusedSimpArgs false

section
variable {s : ByteArray} {ma ra : Option Addr} {mc rc : Nat} {nm : Nat → ByteArray} {c : CalN} {w : World}
theorem own_at4 {w : World} {base : Nat} {e : TypeId} {n : Nat} {xs : List Value} {a : Option Addr} {cap : Nat} (h : w.ownsRow base e 4 (.slice a n cap) n xs) (hj : 0 < n) :
    ∃ g, a = some ⟨g, 0, none⟩ ∧ g < w.heap.size ∧ w.cell? ⟨g, 0, none⟩ = xs[0]? ∧ w.cell? ⟨g, 1, none⟩ = xs[1]? ∧ w.cell? ⟨g, 2, none⟩ = xs[2]? ∧ w.cell? ⟨g, 3, none⟩ = xs[3]? := by
  rcases h.2 with ⟨h1, h2⟩ | ⟨g, cap', cur, h1, hb, hg, h2, h3, h4, h5⟩
  · omega
  · simp only [Value.slice.injEq, true_and] at h1
    obtain ⟨rfl, rfl⟩ := h1
    exact ⟨g, rfl, (Array.getElem?_eq_some_iff.1 hg).1, h.cellAt _ (by omega), h.cellAt _ (by omega), h.cellAt _ (by omega), h.cellAt _ (by omega)⟩
theorem nfK_no {wk : Int} {n : Nat} {z : Nat → Int} {first : Int} (h : ¬ asC s nm c wk n z = 0) : nfQ s nm c wk n z first = (0, 0, 0, 0) ∧ nfK s nm c wk n z first = asC s nm c wk n z := by
  rw [nfQ, nfK, if_neg h, if_neg h]; exact ⟨rfl, rfl⟩
theorem nfK_out {wk : Int} {n : Nat} {z : Nat → Int} {first : Int} (h : asC s nm c wk n z = 0) (h2 : inB first 0 9999 = false) : nfQ s nm c wk n z first = (0, 0, 0, 0) ∧ nfK s nm c wk n z first = 2 := by
  rw [nfQ, nfK, if_pos h, if_pos h, h2]; exact ⟨rfl, rfl⟩
theorem nfK_in {wk : Int} {n : Nat} {z : Nat → Int} {F : Nat} (h : asC s nm c wk n z = 0) (h2 : inB (F : Int) 0 9999 = true) : nfQ s nm c wk n z (F : Int) = (nf c n z (10000 - F) F).1 ∧ nfK s nm c wk n z (F : Int) = (nf c n z (10000 - F) F).2 := by
  rw [nfQ, nfK, if_pos h, if_pos h, if_pos h2, if_pos h2]; exact ⟨rfl, rfl⟩
set_option maxHeartbeats 8000000 in
theorem specNextFault_c (wk : Int) (h : CalV w s ma ra mc rc nm c) {a : Option Addr} {n cc : Nat} {z : Nat → Int} (hn : n ≤ 1048576) (hs : S1 w a n z) (first : Int) {q1 q2 q3 q4 k : Int} (hq : nfQ s nm c wk n z first = (q1, q2, q3, q4)) (hk : nfK s nm c wk n z first = k) :
    Calls Try.prog 18 #[.agg #[.string s, .slice ma c.n mc, .slice ra c.nr rc, .int .i64 wk], .slice a n cc, .int .i64 first] w fun e w' => e = .returned (.tuple #[.agg #[.int .i64 q1, .int .i64 q2, .int .i64 q3, .int .i64 q4], .int .i64 k]) ∧ Ext w w' := by
  have H := Lib.hid (CalQ.new 33 wk h)
  have HS := Lib.hid hs
  have hb := h.nb
  have hw0 : Ext w (w.alloc (.cells #[.string s, .slice ma c.n mc, .slice ra c.nr rc, .int .i64 wk] 33)) := (by repeat (first | with_reducible exact Ext.refl _ | with_reducible assumption | with_reducible refine Ext.alloc ?_ _ | with_reducible refine Ext.drew ?_ | (with_reducible refine Ext.setAt ?_ _ _ _ ?_; rotate_left; omega) | with_reducible refine Ext.trans ?_ (by assumption) | with_reducible exact Past.bel _ | with_reducible refine Ext.trans ?_ (Past.bel _)))
  have HAS := Lib.hid (fun W (hx : Ext (w.alloc (.cells #[.string s, .slice ma c.n mc, .slice ra c.nr rc, .int .i64 wk] 33)) W) => l17Ask_q (cc := cc) (H.out.ext hx) hn (HS.out.ext (Ext.trans hw0 hx)))
  clear h hs hw0
  by_cases h1 : asC s nm c wk n z = 0
  · rw [h1] at HAS
    cases h2 : inB first 0 9999
    · obtain ⟨e1, e2⟩ := nfK_out h1 h2
      rw [e1] at hq; rw [e2] at hk
      simp only [Prod.mk.injEq] at hq
      obtain ⟨rfl, rfl, rfl, rfl⟩ := hq
      subst hk
      clear e1 e2 h1
      go_enter Try.func18, Try.ntmps18
      go_wp2_with (first | (go_at_call 38; ((with_reducible refine (HAS.out _ (by repeat (first | with_reducible exact Ext.refl _ | with_reducible assumption | with_reducible refine Ext.alloc ?_ _ | with_reducible refine Ext.drew ?_ | (with_reducible refine Ext.setAt ?_ _ _ _ ?_; rotate_left; omega) | with_reducible refine Ext.trans ?_ (by assumption) | with_reducible exact Past.bel _ | with_reducible refine Ext.trans ?_ (Past.bel _)))).mono ?_); rintro e w' ⟨rfl, hx⟩; (first | (obtain ⟨wx, rfl⟩ := Past.again hx) | (obtain ⟨wx, rfl⟩ := Past.ofd hx) | (obtain ⟨wx, rfl⟩ := Past.of hx)))) | (go_at_call 25; ((with_reducible refine (l15Year_c _ _).mono ?_); rintro e w' ⟨rfl, rfl⟩)))
      have hz := Past.size wx
      simp only [World.size_alloc] at hz
      exact bodyPost_ret (v := .tuple #[.agg #[.int .i64 0, .int .i64 0, .int .i64 0, .int .i64 0], .int .i64 2]) (by simp [results, Try.results18, go_sem]) rfl ⟨rfl, (by repeat (first | with_reducible exact Ext.refl _ | with_reducible assumption | with_reducible refine Ext.alloc ?_ _ | with_reducible refine Ext.drew ?_ | (with_reducible refine Ext.setAt ?_ _ _ _ ?_; rotate_left; (first | omega | with_reducible exact Past.size _ | (simp only [World.size_alloc, World.size_drew, World.size_setCell]; omega))) | with_reducible refine Ext.trans ?_ (by assumption) | with_reducible exact Past.bel _ | with_reducible refine Ext.trans ?_ (Past.bel _)))⟩
    · obtain ⟨k1, k2, k3⟩ := asC_z h1
      have B := Lib.hid (calB_b k1)
      have K3 := Lib.hid k3
      have kn := camV_n k2
      have hn1 := B.out.n1
      have h2' := inB_t.1 h2
      obtain ⟨F, rfl⟩ := Int.eq_ofNat_of_zero_le h2'.1
      obtain ⟨e1, e2⟩ := nfK_in h1 h2
      rw [hq] at e1; rw [hk] at e2
      have hnf : nf c n z (10000 - F) F = ((q1, q2, q3, q4), k) := by rw [e1, e2]
      have HNF := Lib.hid hnf
      clear hnf e1 e2 hq hk h1 k3
      go_enter Try.func18, Try.ntmps18
      go_wp2_with (first | (go_at_call 38; ((with_reducible refine (HAS.out _ (by repeat (first | with_reducible exact Ext.refl _ | with_reducible assumption | with_reducible refine Ext.alloc ?_ _ | with_reducible refine Ext.drew ?_ | (with_reducible refine Ext.setAt ?_ _ _ _ ?_; rotate_left; omega) | with_reducible refine Ext.trans ?_ (by assumption) | with_reducible exact Past.bel _ | with_reducible refine Ext.trans ?_ (Past.bel _)))).mono ?_); rintro e w' ⟨rfl, hx⟩; (first | (obtain ⟨wx, rfl⟩ := Past.again hx) | (obtain ⟨wx, rfl⟩ := Past.ofd hx) | (obtain ⟨wx, rfl⟩ := Past.of hx)))) | (go_at_call 25; ((with_reducible refine (l15Year_c _ _).mono ?_); rintro e w' ⟨rfl, rfl⟩)))
      go_loopw [9] (fun y wr => ∃ i : Nat, F ≤ i ∧ i ≤ 10000 ∧ y = .int .i64 (i : Nat) ∧ nf c n z (10000 - i) i = ((q1, q2, q3, q4), k) ∧ Ext ((w.alloc (.cells #[.string s, .slice ma c.n mc, .slice ra c.nr rc, .int .i64 wk] 33)).alloc (.cells #[.int .i64 0, .int .i64 0, .int .i64 0, .int .i64 0] 45)) wr) (fun y _ => 10000 - (intOf y).toNat)
      case atStart => exact ⟨F, by omega, by omega, rfl, HNF.out, (by repeat (first | with_reducible exact Ext.refl _ | with_reducible assumption | with_reducible refine Ext.alloc ?_ _ | with_reducible refine Ext.drew ?_ | (with_reducible refine Ext.setAt ?_ _ _ _ ?_; rotate_left; omega) | with_reducible refine Ext.trans ?_ (by assumption) | with_reducible exact Past.bel _ | with_reducible refine Ext.trans ?_ (Past.bel _)))⟩
      case round =>
        obtain ⟨i, hF, hi, rfl, hnf, hbl⟩ := hrel
        have HN := Lib.hid hnf
        have hxw : Ext w wr := Ext.trans (by repeat (first | with_reducible exact Ext.refl _ | with_reducible assumption | with_reducible refine Ext.alloc ?_ _ | with_reducible refine Ext.drew ?_ | (with_reducible refine Ext.setAt ?_ _ _ _ ?_; rotate_left; omega) | with_reducible refine Ext.trans ?_ (by assumption) | with_reducible exact Past.bel _ | with_reducible refine Ext.trans ?_ (Past.bel _))) hbl
        have hxc : Ext (w.alloc (.cells #[.string s, .slice ma c.n mc, .slice ra c.nr rc, .int .i64 wk] 33)) wr := Ext.trans (by repeat (first | with_reducible exact Ext.refl _ | with_reducible assumption | with_reducible refine Ext.alloc ?_ _ | with_reducible refine Ext.drew ?_ | (with_reducible refine Ext.setAt ?_ _ _ _ ?_; rotate_left; omega) | with_reducible refine Ext.trans ?_ (by assumption) | with_reducible exact Past.bel _ | with_reducible refine Ext.trans ?_ (Past.bel _))) hbl
        have HP := Lib.hid (H.out.ext hxc)
        have hz : w.heap.size + 2 ≤ wr.heap.size := by have := hbl.size; simp only [World.size_alloc] at this; omega
        have BK := Lib.hid (show Blk wr (w.heap.size + 1) 45 #[.int .i64 0, .int .i64 0, .int .i64 0, .int .i64 0] from by have := (Blk.new (w.alloc (.cells #[.string s, .slice ma c.n mc, .slice ra c.nr rc, .int .i64 wk] 33)) #[.int .i64 0, .int .i64 0, .int .i64 0, .int .i64 0] 45).ext hbl; simpa using this)
        clear hnf
        by_cases hlt : i ≤ 9999
        · have E3 := Lib.hid (show 10000 - i = (10000 - (i + 1)) + 1 by omega)
          have g0 := HP.out.p.lt
          have p1 := HP.out.p.c1
          have x9 : (i : Int) ≤ 9999 := by omega
          go_wp2_with fail
          go_loopw [10] (fun m ws => ∃ j : Nat, j ≤ c.n ∧ m = .int .i64 (j : Nat) ∧ flt c n z i j = [] ∧ Ext ((w.alloc (.cells #[.string s, .slice ma c.n mc, .slice ra c.nr rc, .int .i64 wk] 33)).alloc (.cells #[.int .i64 0, .int .i64 0, .int .i64 0, .int .i64 0] 45)) ws) (fun m _ => c.n - (intOf m).toNat)
          case atStart => exact ⟨0, by omega, rfl, rfl, hbl⟩
          case round =>
            clear hbl hxw hxc BK HP g0 p1 hz
            obtain ⟨j, hj, rfl, hfl, hbl⟩ := hrel
            have HFL := Lib.hid hfl
            have hxw : Ext w wr := Ext.trans (by repeat (first | with_reducible exact Ext.refl _ | with_reducible assumption | with_reducible refine Ext.alloc ?_ _ | with_reducible refine Ext.drew ?_ | (with_reducible refine Ext.setAt ?_ _ _ _ ?_; rotate_left; omega) | with_reducible refine Ext.trans ?_ (by assumption) | with_reducible exact Past.bel _ | with_reducible refine Ext.trans ?_ (Past.bel _))) hbl
            have hxc : Ext (w.alloc (.cells #[.string s, .slice ma c.n mc, .slice ra c.nr rc, .int .i64 wk] 33)) wr := Ext.trans (by repeat (first | with_reducible exact Ext.refl _ | with_reducible assumption | with_reducible refine Ext.alloc ?_ _ | with_reducible refine Ext.drew ?_ | (with_reducible refine Ext.setAt ?_ _ _ _ ?_; rotate_left; omega) | with_reducible refine Ext.trans ?_ (by assumption) | with_reducible exact Past.bel _ | with_reducible refine Ext.trans ?_ (Past.bel _))) hbl
            have HP := Lib.hid (H.out.ext hxc)
            have hz : w.heap.size + 2 ≤ wr.heap.size := by have := hbl.size; simp only [World.size_alloc] at this; omega
            have BK : Blk wr (w.heap.size + 1) 45 #[.int .i64 0, .int .i64 0, .int .i64 0, .int .i64 0] := by have := (Blk.new (w.alloc (.cells #[.string s, .slice ma c.n mc, .slice ra c.nr rc, .int .i64 wk] 33)) #[.int .i64 0, .int .i64 0, .int .i64 0, .int .i64 0] 45).ext hbl; simpa using this
            have g1 := HP.out.p.lt
            have gl : w.heap.size + 1 < wr.heap.size := by omega
            have p1 := HP.out.p.c1
            have r0 : wr.cell? ⟨w.heap.size + 1, 0, none⟩ = some (.int .i64 0) := BK.cell 0
            have r1 : wr.cell? ⟨w.heap.size + 1, 1, none⟩ = some (.int .i64 0) := BK.cell 1
            have r2 : wr.cell? ⟨w.heap.size + 1, 2, none⟩ = some (.int .i64 0) := BK.cell 2
            have r3 : wr.cell? ⟨w.heap.size + 1, 3, none⟩ = some (.int .i64 0) := BK.cell 3
            have f0 := BK.frozen 0
            have f1 := BK.frozen 1
            have f2 := BK.frozen 2
            have f3 := BK.frozen 3
            clear hfl BK
            by_cases hjn : j < c.n
            · have HM := Lib.hid (fun W (hq : Ext wr W) => l17Month_q B.out (HP.out.ext hq) (cc := cc) kn.1 kn.2 K3.out (HS.out.ext (Ext.trans hxw hq)) (y := i) (by omega) hjn)
              obtain ⟨v, hv⟩ : ∃ v, v = shown c n z i j := ⟨_, rfl⟩
              obtain ⟨M, hM⟩ : ∃ M, M = c.mo (i : Int) j := ⟨_, rfl⟩
              rw [← hv, ← hM] at HM
              cases hwr : wrong c n z i j
              · rw [hwr] at HM
                have HW := Lib.hid hwr
                clear hwr hv hM
                go_wp2_with (go_at_call 43; ((with_reducible refine (HM.out _ (by repeat (first | with_reducible exact Ext.refl _ | with_reducible assumption | with_reducible refine Ext.alloc ?_ _ | with_reducible refine Ext.drew ?_ | (with_reducible refine Ext.setAt ?_ _ _ _ ?_; rotate_left; omega) | with_reducible refine Ext.trans ?_ (by assumption) | with_reducible exact Past.bel _ | with_reducible refine Ext.trans ?_ (Past.bel _)))).mono ?_); rintro e w' ⟨rfl, hx⟩; (first | (obtain ⟨wx, rfl⟩ := Past.again hx) | (obtain ⟨wx, rfl⟩ := Past.ofd hx) | (obtain ⟨wx, rfl⟩ := Past.of hx))))
                exact ⟨⟨j + 1, by omega, by go_num, by rw [flt, HW.out, HFL.out]; rfl, (by repeat (first | with_reducible exact Ext.refl _ | with_reducible assumption | with_reducible refine Ext.alloc ?_ _ | with_reducible refine Ext.drew ?_ | (with_reducible refine Ext.setAt ?_ _ _ _ ?_; rotate_left; omega) | with_reducible refine Ext.trans ?_ (by assumption) | with_reducible exact Past.bel _ | with_reducible refine Ext.trans ?_ (Past.bel _)))⟩, by simp [intOf]; omega⟩
              · have hf1 : flt c n z i (j + 1) = [((i : Int), (j : Int) + 1, v, M)] := by rw [flt, hwr, HFL.out, ← hv, ← hM]; rfl
                obtain ⟨r', hf2⟩ := flt_pre c n z i (show j + 1 ≤ c.n by omega) hf1
                have hres : (((i : Int), (j : Int) + 1, v, M), (0 : Int)) = ((q1, q2, q3, q4), k) := by rw [← HN.out, E3.out, nf_hit hf2]
                simp only [Prod.mk.injEq] at hres
                obtain ⟨⟨rfl, rfl, rfl, rfl⟩, rfl⟩ := hres
                rw [hwr] at HM
                clear hwr hv hM hf1 hf2
                go_wp2_with (go_at_call 43; ((with_reducible refine (HM.out _ (by repeat (first | with_reducible exact Ext.refl _ | with_reducible assumption | with_reducible refine Ext.alloc ?_ _ | with_reducible refine Ext.drew ?_ | (with_reducible refine Ext.setAt ?_ _ _ _ ?_; rotate_left; omega) | with_reducible refine Ext.trans ?_ (by assumption) | with_reducible exact Past.bel _ | with_reducible refine Ext.trans ?_ (Past.bel _)))).mono ?_); rintro e w' ⟨rfl, hx⟩; (first | (obtain ⟨wx, rfl⟩ := Past.again hx) | (obtain ⟨wx, rfl⟩ := Past.ofd hx) | (obtain ⟨wx, rfl⟩ := Past.of hx))))
                have hz2 := Past.size wx
                exact bodyPost_ret (v := .tuple #[.agg #[.int .i64 (i : Nat), .int .i64 ((j : Int) + 1), .int .i64 v, .int .i64 M], .int .i64 0]) (by simp [results, Try.results18, go_sem, r0, r1, r2, r3, gl]) rfl ⟨rfl, (by repeat (first | with_reducible exact Ext.refl _ | with_reducible assumption | with_reducible refine Ext.alloc ?_ _ | with_reducible refine Ext.drew ?_ | (with_reducible refine Ext.setAt ?_ _ _ _ ?_; rotate_left; (first | omega | with_reducible exact Past.size _ | (simp only [World.size_alloc, World.size_drew, World.size_setCell]; omega))) | with_reducible refine Ext.trans ?_ (by assumption) | with_reducible exact Past.bel _ | with_reducible refine Ext.trans ?_ (Past.bel _)))⟩
            · have hj2 : j = c.n := by omega
              have HJ := Lib.hid hj2
              have x3 : (c.n : Int) ≤ (j : Int) := by omega
              clear hj2
              go_wp2_with fail
              exact ⟨⟨i + 1, by omega, by omega, by go_num, by rw [← HN.out, E3.out, nf_skip (by rw [← HJ.out]; exact HFL.out)], hbl⟩, by simp [intOf]; omega⟩
        · obtain rfl : i = 10000 := by omega
          have hres : (((0 : Int), (0 : Int), (0 : Int), (0 : Int)), (3 : Int)) = ((q1, q2, q3, q4), k) := by rw [← HN.out]; rfl
          simp only [Prod.mk.injEq] at hres
          obtain ⟨⟨rfl, rfl, rfl, rfl⟩, rfl⟩ := hres
          have r0 : wr.cell? ⟨w.heap.size + 1, 0, none⟩ = some (.int .i64 0) := BK.out.cell 0
          have r1 : wr.cell? ⟨w.heap.size + 1, 1, none⟩ = some (.int .i64 0) := BK.out.cell 1
          have r2 : wr.cell? ⟨w.heap.size + 1, 2, none⟩ = some (.int .i64 0) := BK.out.cell 2
          have r3 : wr.cell? ⟨w.heap.size + 1, 3, none⟩ = some (.int .i64 0) := BK.out.cell 3
          have f0 := BK.out.frozen 0
          have f1 := BK.out.frozen 1
          have f2 := BK.out.frozen 2
          have f3 := BK.out.frozen 3
          have gl : w.heap.size + 1 < wr.heap.size := by omega
          go_wp2_with fail
          exact bodyPost_ret (v := .tuple #[.agg #[.int .i64 0, .int .i64 0, .int .i64 0, .int .i64 0], .int .i64 3]) (by simp [results, Try.results18, go_sem, r0, r1, r2, r3, gl]) rfl ⟨rfl, (by repeat (first | with_reducible exact Ext.refl _ | with_reducible assumption | with_reducible refine Ext.alloc ?_ _ | with_reducible refine Ext.drew ?_ | (with_reducible refine Ext.setAt ?_ _ _ _ ?_; rotate_left; (first | omega | with_reducible exact Past.size _ | (simp only [World.size_alloc, World.size_drew, World.size_setCell]; omega))) | with_reducible refine Ext.trans ?_ (by assumption) | with_reducible exact Past.bel _ | with_reducible refine Ext.trans ?_ (Past.bel _)))⟩
  · obtain ⟨e1, e2⟩ := nfK_no (first := first) h1
    rw [e1] at hq; rw [e2] at hk
    simp only [Prod.mk.injEq] at hq
    obtain ⟨rfl, rfl, rfl, rfl⟩ := hq
    rw [hk] at HAS h1
    clear e1 e2 hk
    go_enter Try.func18, Try.ntmps18
    go_wp2_with (first | (go_at_call 38; ((with_reducible refine (HAS.out _ (by repeat (first | with_reducible exact Ext.refl _ | with_reducible assumption | with_reducible refine Ext.alloc ?_ _ | with_reducible refine Ext.drew ?_ | (with_reducible refine Ext.setAt ?_ _ _ _ ?_; rotate_left; omega) | with_reducible refine Ext.trans ?_ (by assumption) | with_reducible exact Past.bel _ | with_reducible refine Ext.trans ?_ (Past.bel _)))).mono ?_); rintro e w' ⟨rfl, hx⟩; (first | (obtain ⟨wx, rfl⟩ := Past.again hx) | (obtain ⟨wx, rfl⟩ := Past.ofd hx) | (obtain ⟨wx, rfl⟩ := Past.of hx)))) | (go_at_call 25; ((with_reducible refine (l15Year_c _ _).mono ?_); rintro e w' ⟨rfl, rfl⟩)))
    have hz := Past.size wx
    simp only [World.size_alloc] at hz
    exact bodyPost_ret (v := .tuple #[.agg #[.int .i64 0, .int .i64 0, .int .i64 0, .int .i64 0], .int .i64 k]) (by simp [results, Try.results18, go_sem]) rfl ⟨rfl, (by repeat (first | with_reducible exact Ext.refl _ | with_reducible assumption | with_reducible refine Ext.alloc ?_ _ | with_reducible refine Ext.drew ?_ | (with_reducible refine Ext.setAt ?_ _ _ _ ?_; rotate_left; (first | omega | with_reducible exact Past.size _ | (simp only [World.size_alloc, World.size_drew, World.size_setCell]; omega))) | with_reducible refine Ext.trans ?_ (by assumption) | with_reducible exact Past.bel _ | with_reducible refine Ext.trans ?_ (Past.bel _)))⟩
end
end Go.Proofs.Ytkihjplemnndeaa

namespace Go.Proofs.Ytkihjplemnndeaa
open Go.RowKit
set_option linter.unusedVariables false
set_option linter.unusedSimpArgs false

section
variable {s : ByteArray} {ma ra : Option Addr} {mc rc : Nat} {nm : Nat → ByteArray} {c : CalN} {w : World}
set_option maxHeartbeats 8000000 in
theorem implNextFault_c (wk : Int) (h : CalV w s ma ra mc rc nm c) {a : Option Addr} {n : Nat} {z : Nat → Int} (hn : n ≤ 1048576) (hs : S1 w a n z) (first : Int) {q1 q2 q3 q4 k : Int} (hq : nfQ s nm c wk n z first = (q1, q2, q3, q4)) (hk : nfK s nm c wk n z first = k) :
    Calls Try.prog 19 #[.agg #[.string s, .slice ma c.n mc, .slice ra c.nr rc, .int .i64 wk], .slice a n n, .int .i64 first] w fun e w' => e = .returned (.tuple #[.agg #[.int .i64 q1, .int .i64 q2, .int .i64 q3, .int .i64 q4], .int .i64 k]) ∧ Ext w w' := by
  have H := Lib.hid h
  have HPP := Lib.hid (h.p 33 wk)
  have HS := Lib.hid hs
  have hb := h.nb
  have HAS := Lib.hid (fun W (hq : Ext w W) => askedCam_v wk (cc := n) (h.ext hq) hn (hs.ext hq))
  clear h hs
  by_cases h1 : asC s nm c wk n z = 0
  · rw [h1] at HAS
    cases h2 : inB first 0 9999
    · obtain ⟨e1, e2⟩ := nfK_out h1 h2
      rw [e1] at hq; rw [e2] at hk
      simp only [Prod.mk.injEq] at hq
      obtain ⟨rfl, rfl, rfl, rfl⟩ := hq
      subst hk
      clear e1 e2 h1
      go_enter Try.func19, Try.ntmps19
      go_wp2_with (first | (go_at_call 41; ((with_reducible refine (HAS.out _ (by repeat (first | with_reducible exact Ext.refl _ | with_reducible assumption | with_reducible refine Ext.alloc ?_ _ | with_reducible refine Ext.drew ?_ | (with_reducible refine Ext.setAt ?_ _ _ _ ?_; rotate_left; omega) | with_reducible refine Ext.trans ?_ (by assumption) | with_reducible exact Past.bel _ | with_reducible refine Ext.trans ?_ (Past.bel _)))).mono ?_); rintro e w' ⟨rfl, hx⟩; (first | (obtain ⟨wx, rfl⟩ := Past.again hx) | (obtain ⟨wx, rfl⟩ := Past.ofd hx) | (obtain ⟨wx, rfl⟩ := Past.of hx)))) | (go_at_call 31; ((with_reducible refine (isYear_c _ _).mono ?_); rintro e w' ⟨rfl, rfl⟩)))
      have hz := Past.size wx
      simp only [World.size_alloc] at hz
      exact bodyPost_ret (v := .tuple #[.agg #[.int .i64 0, .int .i64 0, .int .i64 0, .int .i64 0], .int .i64 2]) (by simp [results, Try.results19, go_sem]) rfl ⟨rfl, (by repeat (first | with_reducible exact Ext.refl _ | with_reducible assumption | with_reducible refine Ext.alloc ?_ _ | with_reducible refine Ext.drew ?_ | (with_reducible refine Ext.setAt ?_ _ _ _ ?_; rotate_left; (first | omega | with_reducible exact Past.size _ | (simp only [World.size_alloc, World.size_drew, World.size_setCell]; omega))) | with_reducible refine Ext.trans ?_ (by assumption) | with_reducible exact Past.bel _ | with_reducible refine Ext.trans ?_ (Past.bel _)))⟩
    · obtain ⟨k1, k2, k3⟩ := asC_z h1
      have B := Lib.hid (calB_b k1)
      have K3 := Lib.hid k3
      have kn := camV_n k2
      have hn1 := B.out.n1
      have h2' := inB_t.1 h2
      obtain ⟨F, rfl⟩ := Int.eq_ofNat_of_zero_le h2'.1
      obtain ⟨e1, e2⟩ := nfK_in h1 h2
      rw [hq] at e1; rw [hk] at e2
      have hnf : nf c n z (10000 - F) F = ((q1, q2, q3, q4), k) := by rw [e1, e2]
      have HNF := Lib.hid hnf
      clear hnf e1 e2 hq hk h1 k3
      go_enter Try.func19, Try.ntmps19
      go_wp2_with (first | (go_at_call 41; ((with_reducible refine (HAS.out _ (by repeat (first | with_reducible exact Ext.refl _ | with_reducible assumption | with_reducible refine Ext.alloc ?_ _ | with_reducible refine Ext.drew ?_ | (with_reducible refine Ext.setAt ?_ _ _ _ ?_; rotate_left; omega) | with_reducible refine Ext.trans ?_ (by assumption) | with_reducible exact Past.bel _ | with_reducible refine Ext.trans ?_ (Past.bel _)))).mono ?_); rintro e w' ⟨rfl, hx⟩; (first | (obtain ⟨wx, rfl⟩ := Past.again hx) | (obtain ⟨wx, rfl⟩ := Past.ofd hx) | (obtain ⟨wx, rfl⟩ := Past.of hx)))) | (go_at_call 31; ((with_reducible refine (isYear_c _ _).mono ?_); rintro e w' ⟨rfl, rfl⟩)))
      go_loopw [9] (fun y wr => ∃ i : Nat, F ≤ i ∧ i ≤ 10000 ∧ y = .int .i64 (i : Nat) ∧ nf c n z (10000 - i) i = ((q1, q2, q3, q4), k) ∧ Ext ((w.alloc (.cells #[.string s, .slice ma c.n mc, .slice ra c.nr rc, .int .i64 wk] 33)).alloc (.cells #[.int .i64 0, .int .i64 0, .int .i64 0, .int .i64 0] 45)) wr) (fun y _ => 10000 - (intOf y).toNat)
      case atStart => exact ⟨F, by omega, by omega, rfl, HNF.out, (by repeat (first | with_reducible exact Ext.refl _ | with_reducible assumption | with_reducible refine Ext.alloc ?_ _ | with_reducible refine Ext.drew ?_ | (with_reducible refine Ext.setAt ?_ _ _ _ ?_; rotate_left; omega) | with_reducible refine Ext.trans ?_ (by assumption) | with_reducible exact Past.bel _ | with_reducible refine Ext.trans ?_ (Past.bel _)))⟩
      case round =>
        obtain ⟨i, hF, hi, rfl, hnf, hbl⟩ := hrel
        have HN := Lib.hid hnf
        have hxw : Ext w wr := Ext.trans (by repeat (first | with_reducible exact Ext.refl _ | with_reducible assumption | with_reducible refine Ext.alloc ?_ _ | with_reducible refine Ext.drew ?_ | (with_reducible refine Ext.setAt ?_ _ _ _ ?_; rotate_left; omega) | with_reducible refine Ext.trans ?_ (by assumption) | with_reducible exact Past.bel _ | with_reducible refine Ext.trans ?_ (Past.bel _))) hbl
        have hxc : Ext (w.alloc (.cells #[.string s, .slice ma c.n mc, .slice ra c.nr rc, .int .i64 wk] 33)) wr := Ext.trans (by repeat (first | with_reducible exact Ext.refl _ | with_reducible assumption | with_reducible refine Ext.alloc ?_ _ | with_reducible refine Ext.drew ?_ | (with_reducible refine Ext.setAt ?_ _ _ _ ?_; rotate_left; omega) | with_reducible refine Ext.trans ?_ (by assumption) | with_reducible exact Past.bel _ | with_reducible refine Ext.trans ?_ (Past.bel _))) hbl
        have hz : w.heap.size + 2 ≤ wr.heap.size := by have := hbl.size; simp only [World.size_alloc] at this; omega
        have BK := Lib.hid (show Blk wr (w.heap.size + 1) 45 #[.int .i64 0, .int .i64 0, .int .i64 0, .int .i64 0] from by have := (Blk.new (w.alloc (.cells #[.string s, .slice ma c.n mc, .slice ra c.nr rc, .int .i64 wk] 33)) #[.int .i64 0, .int .i64 0, .int .i64 0, .int .i64 0] 45).ext hbl; simpa using this)
        clear hnf
        have gl : w.heap.size + 1 < wr.heap.size := by omega
        have hp := HPP.out.ext hxc
        have g0 := hp.lt
        have p0 := hp.c0
        have p1 := hp.c1
        have p2 := hp.c2
        have p3 := hp.c3
        clear hp
        by_cases hlt : i ≤ 9999
        · have E3 := Lib.hid (show 10000 - i = (10000 - (i + 1)) + 1 by omega)
          have x9 : (i : Int) ≤ 9999 := by omega
          have n20 := B.out.n20
          obtain ⟨L, hL⟩ : ∃ L, L = flt c n z i c.n := ⟨_, rfl⟩
          have hf : ∀ W, Ext w W → Calls Try.prog 44 #[.agg #[.string s, .slice ma c.n mc, .slice ra c.nr rc, .int .i64 wk], .slice a n n, .int .i64 (i : Nat)] W fun e w' => ∃ bb cap, e = .returned (.slice bb L.length cap) ∧ Ext W w' ∧ w'.ownsRow W.heap.size 45 4 (.slice bb L.length cap) L.length (QT L) := fun W hq => by
            rw [hL]; exact faultsOf_v wk B.out (H.out.ext hq) kn.1 kn.2 K3.out (HS.out.ext hq) (y := i) (by omega)
          have HF := Lib.hid hf
          have hll : L.length ≤ 20 := by have := flt_len c n z i c.n; rw [hL]; omega
          have HL := Lib.hid hL
          clear hf hL
          go_wp2_with fail
          refine (HF.out _ hxw).mono ?_
          rintro e w' ⟨bb, cap, rfl, hx, ho⟩
          cases L with
          | nil =>
            clear ho
            have hb3 := Ext.trans hbl hx
            go_wp2_with fail
            exact ⟨⟨i + 1, by omega, by omega, by go_num, by rw [← HN.out, E3.out, nf_skip HL.out.symm], hb3⟩, by simp [intOf]; omega⟩
          | cons q r =>
            have hres : (q, (0 : Int)) = ((q1, q2, q3, q4), k) := by rw [← HN.out, E3.out, nf_hit HL.out.symm]
            simp only [Prod.mk.injEq] at hres
            obtain ⟨rfl, rfl⟩ := hres
            obtain ⟨g, rfl, hg, c0, c1, c2, c3⟩ := own_at4 ho (by simp)
            have d0 : w'.cell? ⟨g, 0, none⟩ = some (.int .i64 q1) := c0
            have d1 : w'.cell? ⟨g, 1, none⟩ = some (.int .i64 q2) := c1
            have d2 : w'.cell? ⟨g, 2, none⟩ = some (.int .i64 q3) := c2
            have d3 : w'.cell? ⟨g, 3, none⟩ = some (.int .i64 q4) := c3
            have bk := BK.out.ext hx
            have r0 : w'.cell? ⟨w.heap.size + 1, 0, none⟩ = some (.int .i64 0) := bk.cell 0
            have r1 : w'.cell? ⟨w.heap.size + 1, 1, none⟩ = some (.int .i64 0) := bk.cell 1
            have r2 : w'.cell? ⟨w.heap.size + 1, 2, none⟩ = some (.int .i64 0) := bk.cell 2
            have r3 : w'.cell? ⟨w.heap.size + 1, 3, none⟩ = some (.int .i64 0) := bk.cell 3
            have f0 := bk.frozen 0
            have f1 := bk.frozen 1
            have f2 := bk.frozen 2
            have f3 := bk.frozen 3
            have x5 : (0 : Int) < ((r.length + 1 : Nat) : Int) := by omega
            have hxw2 := Ext.trans hxw hx
            clear c0 c1 c2 c3 ho bk
            go_wp2_with fail
            exact bodyPost_ret (v := .tuple #[.agg #[.int .i64 q1, .int .i64 q2, .int .i64 q3, .int .i64 q4], .int .i64 0]) (by simp [results, Try.results19, go_sem, r0, r1, r2, r3, gl]) rfl ⟨rfl, (by repeat (first | with_reducible exact Ext.refl _ | with_reducible assumption | with_reducible refine Ext.alloc ?_ _ | with_reducible refine Ext.drew ?_ | (with_reducible refine Ext.setAt ?_ _ _ _ ?_; rotate_left; (first | omega | with_reducible exact Past.size _ | (simp only [World.size_alloc, World.size_drew, World.size_setCell]; omega))) | with_reducible refine Ext.trans ?_ (by assumption) | with_reducible exact Past.bel _ | with_reducible refine Ext.trans ?_ (Past.bel _)))⟩
        · obtain rfl : i = 10000 := by omega
          have hres : (((0 : Int), (0 : Int), (0 : Int), (0 : Int)), (3 : Int)) = ((q1, q2, q3, q4), k) := by rw [← HN.out]; rfl
          simp only [Prod.mk.injEq] at hres
          obtain ⟨⟨rfl, rfl, rfl, rfl⟩, rfl⟩ := hres
          have r0 : wr.cell? ⟨w.heap.size + 1, 0, none⟩ = some (.int .i64 0) := BK.out.cell 0
          have r1 : wr.cell? ⟨w.heap.size + 1, 1, none⟩ = some (.int .i64 0) := BK.out.cell 1
          have r2 : wr.cell? ⟨w.heap.size + 1, 2, none⟩ = some (.int .i64 0) := BK.out.cell 2
          have r3 : wr.cell? ⟨w.heap.size + 1, 3, none⟩ = some (.int .i64 0) := BK.out.cell 3
          have f0 := BK.out.frozen 0
          have f1 := BK.out.frozen 1
          have f2 := BK.out.frozen 2
          have f3 := BK.out.frozen 3
          go_wp2_with fail
          exact bodyPost_ret (v := .tuple #[.agg #[.int .i64 0, .int .i64 0, .int .i64 0, .int .i64 0], .int .i64 3]) (by simp [results, Try.results19, go_sem, r0, r1, r2, r3, gl]) rfl ⟨rfl, (by repeat (first | with_reducible exact Ext.refl _ | with_reducible assumption | with_reducible refine Ext.alloc ?_ _ | with_reducible refine Ext.drew ?_ | (with_reducible refine Ext.setAt ?_ _ _ _ ?_; rotate_left; (first | omega | with_reducible exact Past.size _ | (simp only [World.size_alloc, World.size_drew, World.size_setCell]; omega))) | with_reducible refine Ext.trans ?_ (by assumption) | with_reducible exact Past.bel _ | with_reducible refine Ext.trans ?_ (Past.bel _)))⟩
  · obtain ⟨e1, e2⟩ := nfK_no (first := first) h1
    rw [e1] at hq; rw [e2] at hk
    simp only [Prod.mk.injEq] at hq
    obtain ⟨rfl, rfl, rfl, rfl⟩ := hq
    rw [hk] at HAS h1
    clear e1 e2 hk
    go_enter Try.func19, Try.ntmps19
    go_wp2_with (first | (go_at_call 41; ((with_reducible refine (HAS.out _ (by repeat (first | with_reducible exact Ext.refl _ | with_reducible assumption | with_reducible refine Ext.alloc ?_ _ | with_reducible refine Ext.drew ?_ | (with_reducible refine Ext.setAt ?_ _ _ _ ?_; rotate_left; omega) | with_reducible refine Ext.trans ?_ (by assumption) | with_reducible exact Past.bel _ | with_reducible refine Ext.trans ?_ (Past.bel _)))).mono ?_); rintro e w' ⟨rfl, hx⟩; (first | (obtain ⟨wx, rfl⟩ := Past.again hx) | (obtain ⟨wx, rfl⟩ := Past.ofd hx) | (obtain ⟨wx, rfl⟩ := Past.of hx)))) | (go_at_call 31; ((with_reducible refine (isYear_c _ _).mono ?_); rintro e w' ⟨rfl, rfl⟩)))
    have hz := Past.size wx
    simp only [World.size_alloc] at hz
    exact bodyPost_ret (v := .tuple #[.agg #[.int .i64 0, .int .i64 0, .int .i64 0, .int .i64 0], .int .i64 k]) (by simp [results, Try.results19, go_sem]) rfl ⟨rfl, (by repeat (first | with_reducible exact Ext.refl _ | with_reducible assumption | with_reducible refine Ext.alloc ?_ _ | with_reducible refine Ext.drew ?_ | (with_reducible refine Ext.setAt ?_ _ _ _ ?_; rotate_left; (first | omega | with_reducible exact Past.size _ | (simp only [World.size_alloc, World.size_drew, World.size_setCell]; omega))) | with_reducible refine Ext.trans ?_ (by assumption) | with_reducible exact Past.bel _ | with_reducible refine Ext.trans ?_ (Past.bel _)))⟩
end
end Go.Proofs.Ytkihjplemnndeaa

namespace Go.Proofs.Ytkihjplemnndeaa
open Go.RowKit
set_option linter.unusedVariables false
set_option linter.unusedSimpArgs false

theorem eqMonth_self (s : ByteArray) (a b : Int) (w : World) :
    Calls Try.prog 58 #[.agg #[.string s, .int .i64 a, .int .i64 b], .agg #[.string s, .int .i64 a, .int .i64 b]] w fun e w' => e = .returned (.bool true) ∧ Ext w w' := by
  go_enter Try.func58, Try.ntmps58
  go_wp2
  go_ret
  exact ⟨rfl, (by repeat (first | with_reducible exact Ext.refl _ | with_reducible assumption | with_reducible refine Ext.alloc ?_ _ | with_reducible refine Ext.drew ?_ | (with_reducible refine Ext.setAt ?_ _ _ _ ?_; rotate_left; omega) | with_reducible refine Ext.trans ?_ (by assumption) | with_reducible exact Past.bel _ | with_reducible refine Ext.trans ?_ (Past.bel _)))⟩
theorem eqLeapRule_self (a b : Int) (l : Bool) (w : World) :
    Calls Try.prog 59 #[.agg #[.int .i64 a, .int .i64 b, .bool l], .agg #[.int .i64 a, .int .i64 b, .bool l]] w fun e w' => e = .returned (.bool true) ∧ Ext w w' := by
  go_enter Try.func59, Try.ntmps59
  go_wp2
  go_ret
  exact ⟨rfl, (by repeat (first | with_reducible exact Ext.refl _ | with_reducible assumption | with_reducible refine Ext.alloc ?_ _ | with_reducible refine Ext.drew ?_ | (with_reducible refine Ext.setAt ?_ _ _ _ ?_; rotate_left; omega) | with_reducible refine Ext.trans ?_ (by assumption) | with_reducible exact Past.bel _ | with_reducible refine Ext.trans ?_ (Past.bel _)))⟩
set_option maxHeartbeats 400000 in
theorem eqMonthS_self (aa ab : Option Addr) (n ca cb : Nat) (nm : Nat → ByteArray) (dy lp : Nat → Int) (w : World) (hn : n ≤ 1048576) (ha : S3 w aa n nm dy lp) (hb : S3 w ab n nm dy lp) :
    Calls Try.prog 34 #[.slice aa n ca, .slice ab n cb] w fun e w' => e = .returned (.bool true) ∧ Ext w w' := by
  have HA := Lib.hid ha
  have HB := Lib.hid hb
  clear ha hb
  go_enter Try.func34, Try.ntmps34
  go_wp2_with fail
  go_loopw [5] (fun i wr => ∃ k : Nat, k ≤ n ∧ i = .int .i64 k ∧ Ext w wr) (fun i _ => n - (intOf i).toNat)
  case atStart => exact ⟨0, by omega, rfl, Ext.refl _⟩
  case round =>
    obtain ⟨k, hk, rfl, hbl⟩ := hrel
    by_cases hlt : k < n
    · obtain ⟨b1, o1, rfl, hb1, q1, q2, q3⟩ := (S3.ext HA.out hbl).at hlt
      obtain ⟨b2, o2, rfl, hb2, q4, q5, q6⟩ := (S3.ext HB.out hbl).at hlt
      go_wp2_with fail
      refine wp_region_past (by kernel_rfl) (by kernel_rfl) ?_
      repeat (go_big_quiet_step ((go_at_call 58; exact Calls.past (eqMonth_self _ _ _ _))))
      refine wpQuiet_nil ?_
      rintro _ ⟨wx, rfl⟩
      go_wp2_with fail
      exact ⟨⟨k + 1, by omega, by go_num, (by repeat (first | with_reducible exact Ext.refl _ | with_reducible assumption | with_reducible refine Ext.alloc ?_ _ | with_reducible refine Ext.drew ?_ | (with_reducible refine Ext.setAt ?_ _ _ _ ?_; rotate_left; omega) | with_reducible refine Ext.trans ?_ (by assumption) | with_reducible exact Past.bel _ | with_reducible refine Ext.trans ?_ (Past.bel _)))⟩, by simp [intOf]; omega⟩
    · obtain rfl : k = n := by omega
      go_wp2_with fail
      go_ret
      exact ⟨rfl, hbl⟩
set_option maxHeartbeats 400000 in
theorem eqLeapRuleS_self (aa ab : Option Addr) (n ca cb : Nat) (ev rs : Nat → Int) (lf : Nat → Bool) (w : World) (hn : n ≤ 1048576) (ha : R3 w aa n ev rs lf) (hb : R3 w ab n ev rs lf) :
    Calls Try.prog 35 #[.slice aa n ca, .slice ab n cb] w fun e w' => e = .returned (.bool true) ∧ Ext w w' := by
  have HA := Lib.hid ha
  have HB := Lib.hid hb
  clear ha hb
  go_enter Try.func35, Try.ntmps35
  go_wp2_with fail
  go_loopw [5] (fun i wr => ∃ k : Nat, k ≤ n ∧ i = .int .i64 k ∧ Ext w wr) (fun i _ => n - (intOf i).toNat)
  case atStart => exact ⟨0, by omega, rfl, Ext.refl _⟩
  case round =>
    obtain ⟨k, hk, rfl, hbl⟩ := hrel
    by_cases hlt : k < n
    · obtain ⟨b1, o1, rfl, hb1, q1, q2, q3⟩ := (R3.ext HA.out hbl).at hlt
      obtain ⟨b2, o2, rfl, hb2, q4, q5, q6⟩ := (R3.ext HB.out hbl).at hlt
      go_wp2_with fail
      refine wp_region_past (by kernel_rfl) (by kernel_rfl) ?_
      repeat (go_big_quiet_step ((go_at_call 59; exact Calls.past (eqLeapRule_self _ _ _ _))))
      refine wpQuiet_nil ?_
      rintro _ ⟨wx, rfl⟩
      go_wp2_with fail
      exact ⟨⟨k + 1, by omega, by go_num, (by repeat (first | with_reducible exact Ext.refl _ | with_reducible assumption | with_reducible refine Ext.alloc ?_ _ | with_reducible refine Ext.drew ?_ | (with_reducible refine Ext.setAt ?_ _ _ _ ?_; rotate_left; omega) | with_reducible refine Ext.trans ?_ (by assumption) | with_reducible exact Past.bel _ | with_reducible refine Ext.trans ?_ (Past.bel _)))⟩, by simp [intOf]; omega⟩
    · obtain rfl : k = n := by omega
      go_wp2_with fail
      go_ret
      exact ⟨rfl, hbl⟩
end Go.Proofs.Ytkihjplemnndeaa

namespace Go.Proofs.Ytkihjplemnndeaa
open Go.RowKit
set_option linter.unusedVariables false
set_option linter.unusedSimpArgs false

set_option maxHeartbeats 400000 in
theorem eqCalendar_self (s : ByteArray) (m1 r1 m2 r2 : Option Addr) (c1 d1 c2 d2 : Nat) (wk : Int) (nm : Nat → ByteArray) (c : CalN) (w : World) (hm : c.n ≤ 1048576) (hr : c.nr ≤ 1048576) (h1 : CalM w m1 r1 nm c) (h2 : CalM w m2 r2 nm c) :
    Calls Try.prog 11 #[.agg #[.string s, .slice m1 c.n c1, .slice r1 c.nr d1, .int .i64 wk], .agg #[.string s, .slice m2 c.n c2, .slice r2 c.nr d2, .int .i64 wk]] w fun e w' => e = .returned (.bool true) ∧ Ext w w' := by
  have H1 := Lib.hid h1
  have H2 := Lib.hid h2
  clear h1 h2
  go_enter Try.func11, Try.ntmps11
  go_wp2_with fail
  refine (eqMonthS_self _ _ _ _ _ _ _ _ _ hm (H1.out.mo.ext (by repeat (first | with_reducible exact Ext.refl _ | with_reducible assumption | with_reducible refine Ext.alloc ?_ _ | with_reducible refine Ext.drew ?_ | (with_reducible refine Ext.setAt ?_ _ _ _ ?_; rotate_left; omega) | with_reducible refine Ext.trans ?_ (by assumption) | with_reducible exact Past.bel _ | with_reducible refine Ext.trans ?_ (Past.bel _)))) (H2.out.mo.ext (by repeat (first | with_reducible exact Ext.refl _ | with_reducible assumption | with_reducible refine Ext.alloc ?_ _ | with_reducible refine Ext.drew ?_ | (with_reducible refine Ext.setAt ?_ _ _ _ ?_; rotate_left; omega) | with_reducible refine Ext.trans ?_ (by assumption) | with_reducible exact Past.bel _ | with_reducible refine Ext.trans ?_ (Past.bel _))))).mono ?_
  rintro e w1 ⟨rfl, hx1⟩
  have e1 : ∀ k v, k < 4 → ((w.alloc (.cells #[.string s, .slice m1 c.n c1, .slice r1 c.nr d1, .int .i64 wk] 33)).alloc (.cells #[.string s, .slice m2 c.n c2, .slice r2 c.nr d2, .int .i64 wk] 33)).cell? ⟨w.heap.size, k, none⟩ = some v → w1.cell? ⟨w.heap.size, k, none⟩ = some v := fun k v _ h => by rw [hx1.cell (by simp <;> omega)]; exact h
  have e2 : ∀ k v, k < 4 → ((w.alloc (.cells #[.string s, .slice m1 c.n c1, .slice r1 c.nr d1, .int .i64 wk] 33)).alloc (.cells #[.string s, .slice m2 c.n c2, .slice r2 c.nr d2, .int .i64 wk] 33)).cell? ⟨w.heap.size + 1, k, none⟩ = some v → w1.cell? ⟨w.heap.size + 1, k, none⟩ = some v := fun k v _ h => by rw [hx1.cell (by simp <;> omega)]; exact h
  have a2 := e1 2 (.slice r1 c.nr d1) (by omega) (by simp [go_sem])
  have a3 := e1 3 (.int .i64 wk) (by omega) (by simp [go_sem])
  have b2 := e2 2 (.slice r2 c.nr d2) (by omega) (by simp [go_sem])
  have b3 := e2 3 (.int .i64 wk) (by omega) (by simp [go_sem])
  have z1 := hx1.size
  simp only [World.size_alloc] at z1
  have hxw : Ext w w1 := Ext.trans (by repeat (first | with_reducible exact Ext.refl _ | with_reducible assumption | with_reducible refine Ext.alloc ?_ _ | with_reducible refine Ext.drew ?_ | (with_reducible refine Ext.setAt ?_ _ _ _ ?_; rotate_left; omega) | with_reducible refine Ext.trans ?_ (by assumption) | with_reducible exact Past.bel _ | with_reducible refine Ext.trans ?_ (Past.bel _))) hx1
  clear e1 e2 hx1
  have g0 : w.heap.size < w1.heap.size := by omega
  have g1 : w.heap.size + 1 < w1.heap.size := by omega
  go_wp2_with fail
  refine (eqLeapRuleS_self _ _ _ _ _ _ _ _ _ hr (H1.out.ru.ext (by repeat (first | with_reducible exact Ext.refl _ | with_reducible assumption | with_reducible refine Ext.alloc ?_ _ | with_reducible refine Ext.drew ?_ | (with_reducible refine Ext.setAt ?_ _ _ _ ?_; rotate_left; omega) | with_reducible refine Ext.trans ?_ (by assumption) | with_reducible exact Past.bel _ | with_reducible refine Ext.trans ?_ (Past.bel _)))) (H2.out.ru.ext (by repeat (first | with_reducible exact Ext.refl _ | with_reducible assumption | with_reducible refine Ext.alloc ?_ _ | with_reducible refine Ext.drew ?_ | (with_reducible refine Ext.setAt ?_ _ _ _ ?_; rotate_left; omega) | with_reducible refine Ext.trans ?_ (by assumption) | with_reducible exact Past.bel _ | with_reducible refine Ext.trans ?_ (Past.bel _))))).mono ?_
  rintro e w2 ⟨rfl, hx2⟩
  have u3 : w2.cell? ⟨w.heap.size, 3, none⟩ = some (.int .i64 wk) := by rw [hx2.cell g0]; exact a3
  have v3 : w2.cell? ⟨w.heap.size + 1, 3, none⟩ = some (.int .i64 wk) := by rw [hx2.cell g1]; exact b3
  go_wp2_with fail
  go_ret
  exact ⟨rfl, (by repeat (first | with_reducible exact Ext.refl _ | with_reducible assumption | with_reducible refine Ext.alloc ?_ _ | with_reducible refine Ext.drew ?_ | (with_reducible refine Ext.setAt ?_ _ _ _ ?_; rotate_left; omega) | with_reducible refine Ext.trans ?_ (by assumption) | with_reducible exact Past.bel _ | with_reducible refine Ext.trans ?_ (Past.bel _)))⟩
end Go.Proofs.Ytkihjplemnndeaa

namespace Go.Proofs.Ytkihjplemnndeaa
open Go.ChangeShapes Go.WideShapes Go.RowKit Go.Deep
set_option linter.unusedVariables false

/-- what a calendar's arguments hold -/
structure CalA (w : World) (s : ByteArray) (ma ra : Option Addr) (mc rc : Nat) (nm : Nat → ByteArray) (c : CalN) : Prop where
  sz : s.size ≤ 9223372036854775807
  nz : ∀ i, i < c.n → (nm i).size ≤ 9223372036854775807
  nb : c.n ≤ maxLen
  rb : c.nr ≤ maxLen
  mem : CalM w ma ra nm c
section
variable {H : Type} {enc : TypeId × Value → H} {P : Program} {w : World} {base : Nat} {spare : Nat → Bool} {held : Bool}
theorem fld {fs : Array Field} {j : Nat} {u : TypeDesc} (h : (fs[j]?).bind (fun f => P.underlying f.type) = some u) : ∃ f, fs[j]? = some f ∧ P.underlying f.type = some u := by
  cases e : fs[j]? with
  | none => rw [e] at h; simp at h
  | some f => rw [e] at h; exact ⟨f, rfl, h⟩
theorem fldT {fs : Array Field} {j : Nat} (hj : j < fs.size) {u : TypeDesc} (h : (fs[j]?).bind (fun f => P.underlying f.type) = some u) : P.underlying fs[j].type = some u := by
  rw [Array.getElem?_eq_getElem hj] at h; exact h
theorem down_cal {t em er : TypeId} {fs fm fr : Array Field} {v : Value} {d : DataW H} {p : List MemPlace} {r : Reach} {b0 : Nat}
    (hs : P.underlying t = some (.struct fs)) (hone : oneCellFields P fs = true) (hC : P.cellsOf t = fs.size) (h4 : fs.size = 4)
    (k0 : (fs[0]?).bind (fun f => P.underlying f.type) = some .string) (k1 : (fs[1]?).bind (fun f => P.underlying f.type) = some (.slice em)) (k2 : (fs[2]?).bind (fun f => P.underlying f.type) = some (.slice er)) (k3 : (fs[3]?).bind (fun f => P.underlying f.type) = some (.int .i64))
    (hm : P.underlying em = some (.struct fm)) (honem : oneCellFields P fm = true) (hCm : P.cellsOf em = fm.size) (hm3 : fm.size = 3)
    (m0 : (fm[0]?).bind (fun f => P.underlying f.type) = some .string) (m1 : (fm[1]?).bind (fun f => P.underlying f.type) = some (.int .i64)) (m2 : (fm[2]?).bind (fun f => P.underlying f.type) = some (.int .i64))
    (hr : P.underlying er = some (.struct fr)) (honer : oneCellFields P fr = true) (hCr : P.cellsOf er = fr.size) (hr3 : fr.size = 3)
    (r0 : (fr[0]?).bind (fun f => P.underlying f.type) = some (.int .i64)) (r1 : (fr[1]?).bind (fun f => P.underlying f.type) = some (.int .i64)) (r2 : (fr[2]?).bind (fun f => P.underlying f.type) = some .bool)
    (hv : Value.okWide P w r b0 t v) (h : DataW.Trod enc P w base spare held t v d p) :
    ∃ (s : ByteArray) (ma ra : Option Addr) (mc rc : Nat) (wk : Int) (nm : Nat → ByteArray) (c : CalN), v = .agg #[.string s, .slice ma c.n mc, .slice ra c.nr rc, .int .i64 wk] ∧ (Lit.int .i64 wk).wf = true ∧ CalA w s ma ra mc rc nm c := by
  obtain ⟨cs, rfl, hsz⟩ := okWide_struct hs hv
  obtain ⟨fuel, hf⟩ := h
  obtain ⟨n, hl, hfl⟩ := down_struct hs hone hC (cs := cs.toList) (by simpa [Value.cells] using hf)
  obtain ⟨f0, e0, u0⟩ := fld k0
  obtain ⟨f1, e1, u1⟩ := fld k1
  obtain ⟨f2, e2, u2⟩ := fld k2
  obtain ⟨f3, e3, u3⟩ := fld k3
  obtain ⟨v0, y0, g0, t0⟩ := hfl 0 f0 e0
  obtain ⟨v1, y1, g1, t1⟩ := hfl 1 f1 e1
  obtain ⟨v2, y2, g2, t2⟩ := hfl 2 f2 e2
  obtain ⟨v3, y3, g3, t3⟩ := hfl 3 f3 e3
  obtain ⟨s, hs0, _, hss⟩ := DataW.trod_string u0 t0
  obtain ⟨wk, hs3, _, hwk⟩ := DataW.trod_int u3 t3
  obtain ⟨ma, n1, mc, z, hv1, nc1, mx1, hz⟩ := down_rows u1 hm honem hCm (by omega) t1
  obtain ⟨ra, n2, rc, y, hv2, nc2, mx2, hy⟩ := down_rows u2 hr honer hCr (by omega) t2
  simp only [List.cons.injEq, and_true] at hs0 hs3
  subst hs0; subst hs3; subst hv1; subst hv2
  have hcs : cs = #[.string s, .slice ma n1 mc, .slice ra n2 rc, .int .i64 wk] := by
    apply Array.toList_inj.1
    apply List.ext_getElem?
    intro j
    obtain rfl | rfl | rfl | rfl | hj : j = 0 ∨ j = 1 ∨ j = 2 ∨ j = 3 ∨ 4 ≤ j := by omega
    · rw [g0]; rfl
    · rw [g1]; rfl
    · rw [g2]; rfl
    · rw [g3]; rfl
    · rw [List.getElem?_eq_none (by omega), List.getElem?_eq_none (by simpa using hj)]
  subst hcs
  -- the months
  have hM : ∀ i, i < n1 → ∃ q : ByteArray × Int × Int, q.1.size ≤ maxLen ∧ (0 < n1 → z i 0 = .string q.1 ∧ z i 1 = .int .i64 q.2.1 ∧ z i 2 = .int .i64 q.2.2) := fun i hi => by
    obtain ⟨b, off, ha, hb, hc⟩ := hz (by omega)
    obtain ⟨_, a0, _, c0⟩ := hc i hi 0 (by omega)
    obtain ⟨_, a1, _, c1⟩ := hc i hi 1 (by omega)
    obtain ⟨_, a2, _, c2⟩ := hc i hi 2 (by omega)
    obtain ⟨s', d0, _, hs'⟩ := DataW.trod_string (fldT (by omega) m0) c0
    obtain ⟨x1, d1, _, _⟩ := DataW.trod_int (fldT (by omega) m1) c1
    obtain ⟨x2, d2, _, _⟩ := DataW.trod_int (fldT (by omega) m2) c2
    simp only [List.cons.injEq, and_true] at d0 d1 d2
    exact ⟨(s', x1, x2), hs', fun _ => ⟨d0, d1, d2⟩⟩
  have hR : ∀ i, i < n2 → ∃ q : Int × Int × Bool, (0 < n2 → y i 0 = .int .i64 q.1 ∧ y i 1 = .int .i64 q.2.1 ∧ y i 2 = .bool q.2.2) := fun i hi => by
    obtain ⟨b, off, ha, hb, hc⟩ := hy (by omega)
    obtain ⟨_, a0, _, c0⟩ := hc i hi 0 (by omega)
    obtain ⟨_, a1, _, c1⟩ := hc i hi 1 (by omega)
    obtain ⟨_, a2, _, c2⟩ := hc i hi 2 (by omega)
    obtain ⟨x0, d0, _, _⟩ := DataW.trod_int (fldT (by omega) r0) c0
    obtain ⟨x1, d1, _, _⟩ := DataW.trod_int (fldT (by omega) r1) c1
    obtain ⟨x2, d2, _⟩ := DataW.trod_bool (fldT (by omega) r2) c2
    simp only [List.cons.injEq, and_true] at d0 d1 d2
    exact ⟨(x0, x1, x2), fun _ => ⟨d0, d1, d2⟩⟩
  obtain ⟨q, hq⟩ := choose_lt hM
  obtain ⟨p, hp⟩ := choose_lt hR
  refine ⟨s, ma, ra, mc, rc, wk, fun i => (q i).1, ⟨n2, fun i => (p i).1, fun i => (p i).2.1, fun i => (p i).2.2, n1, fun i => (q i).2.1, fun i => (q i).2.2⟩, rfl, hwk, ⟨by unfold maxLen at hss; omega, fun i hi => by have := (hq i hi).1; unfold maxLen at this; exact Nat.le_trans this (by decide), by dsimp only; omega, by dsimp only; omega, ?_, ?_⟩⟩
  · intro h0
    obtain ⟨b, off, ha, hb, hc⟩ := hz h0
    refine ⟨b, off, ha, hb, fun i hi => ?_⟩
    obtain ⟨d0, d1, d2⟩ := (hq i hi).2 h0
    have e0 := (hc i hi 0 (by omega)).1
    have e1 := (hc i hi 1 (by omega)).1
    have e2 := (hc i hi 2 (by omega)).1
    rw [hm3, d0] at e0; rw [hm3, d1] at e1; rw [hm3, d2] at e2
    exact ⟨e0, e1, e2⟩
  · intro h0
    obtain ⟨b, off, ha, hb, hc⟩ := hy h0
    refine ⟨b, off, ha, hb, fun i hi => ?_⟩
    obtain ⟨d0, d1, d2⟩ := hp i hi h0
    have e0 := (hc i hi 0 (by omega)).1
    have e1 := (hc i hi 1 (by omega)).1
    have e2 := (hc i hi 2 (by omega)).1
    rw [hr3, d0] at e0; rw [hr3, d1] at e1; rw [hr3, d2] at e2
    exact ⟨e0, e1, e2⟩
end
end Go.Proofs.Ytkihjplemnndeaa

namespace Go.Proofs.Ytkihjplemnndeaa
open Go.RowKit
set_option linter.unusedVariables false
set_option linter.unusedSimpArgs false

end Go.Proofs.Ytkihjplemnndeaa

namespace Go.Proofs.Ytkihjplemnndeaa
open Go.RowKit
set_option linter.unusedVariables false
set_option linter.unusedSimpArgs false

theorem CalA.v {w W : World} {s : ByteArray} {ma ra : Option Addr} {mc rc : Nat} {nm : Nat → ByteArray} {c : CalN} (h : CalA w s ma ra mc rc nm c) (hm : c.n ≤ 1048576) (hr : c.nr ≤ 1048576) {m2 r2 : Option Addr} (k : CalM W m2 r2 nm c) : CalV W s m2 r2 c.n c.nr nm c :=
  ⟨hm, hr, Nat.le_refl _, by unfold maxLen; omega, h.sz, h.nz, k⟩
end Go.Proofs.Ytkihjplemnndeaa
