/- Lists of pairs that a draw makes beside its source. The draw of readings. The draws of the laws on readings: lists. Jumps of readings. No program in sight. Jumps of readings: the program's and the reference's. Rates between readings, residuals. No program in sight. Rates between readings: the program's and the reference's. Sums of valid readings are valid (Cauchy and Schwarz). No program in sight. Residuals of readings: the reference's. -/
import Derived.Test.YtmbpjlgeneemjaaBb
import Derived.Test.YtmbpjlgeneemjaaBa
import Derived.Deep.DeepCutAuto

namespace Go.Proofs.Ytmbpjlgeneemjaa
open Go.RowKit
set_option linter.unusedVariables false
set_option linter.unusedSimpArgs false

/-- the cells of pairs -/
def PR (l : List (Int × Int)) : List Value := l.flatMap fun p => [.int .i64 p.1, .int .i64 p.2]
theorem PR_len (l : List (Int × Int)) : (PR l).length = l.length * 2 := by
  induction l with
  | nil => rfl
  | cons p l ih =>
    have : PR (p :: l) = .int .i64 p.1 :: .int .i64 p.2 :: PR l := rfl
    rw [this]; simp only [List.length_cons, ih]; omega
theorem PR_app (l k : List (Int × Int)) : PR (l ++ k) = PR l ++ PR k := by simp [PR, List.flatMap_append]
theorem PR_at {l : List (Int × Int)} {j : Nat} (hj : j < l.length) : (PR l)[j * 2]? = some (.int .i64 (l.getD j (0, 0)).1) ∧ (PR l)[j * 2 + 1]? = some (.int .i64 (l.getD j (0, 0)).2) := by
  induction l generalizing j with
  | nil => simp at hj
  | cons p l ih =>
    have e : PR (p :: l) = .int .i64 p.1 :: .int .i64 p.2 :: PR l := rfl
    rw [e]
    cases j with
    | zero => simp
    | succ j =>
      have h1 := ih (j := j) (by simpa using hj)
      rw [show (j + 1) * 2 = j * 2 + 1 + 1 by omega, show j * 2 + 1 + 1 + 1 = (j * 2 + 1) + 1 + 1 by omega]
      simpa using h1
theorem own_s2 {w : World} {base : Nat} {e : TypeId} {a : Option Addr} {cap n : Nat} {l : List (Int × Int)} (h : w.ownsRow base e 2 (.slice a n cap) n (PR l)) (hl : n = l.length) :
    S2 w a n (fun j => (l.getD j (0, 0)).1) (fun j => (l.getD j (0, 0)).2) := fun hn => by
  obtain ⟨g, rfl, _, hg, _⟩ := own_at2 h hn
  refine ⟨g, 0, rfl, hg, fun j hj => ?_⟩
  obtain ⟨g', e', _, _, h1, h2⟩ := own_at2 h hj
  obtain rfl : g = g' := by simpa using e'
  obtain ⟨p1, p2⟩ := PR_at (l := l) (j := j) (by omega)
  simp only [Nat.zero_add]
  exact ⟨h1.1.trans p1, h2.1.trans p2⟩
theorem grown_weak {w w' : World} {row : Option Nat} (h : w.grownBy w' none) : w.grownBy w' row := ⟨h.os, h.tape, h.output, h.size, fun k hk _ => h.block k hk (by simp)⟩
theorem Src.keep {w w' : World} {g : Nat} {a : Option Addr} {n c : Nat} {f : Nat → Nat} {K B : Nat} {row : Option Nat} (h : Src w g a n c f K) (hx : w.grownBy w' row) (hr : ∀ k, row = some k → B ≤ k) (hg : g < B) (hc : 0 < n → ∀ ad, a = some ad → ad.block < B) (hB : B ≤ w.heap.size) : Src w' g a n c f K := by
  obtain ⟨⟨i, hh, hb, hi⟩, hs, hne, hlo⟩ := h
  refine ⟨⟨i, hh, (hx.block g (by omega) (fun e => by have := hr g e.symm; omega)).trans hb, hi⟩, fun hn => ?_, hne, hlo⟩
  obtain ⟨b, off, ha, hb1, hcc⟩ := hs hn
  have hbB := hc hn _ ha
  simp only at hbB
  refine ⟨b, off, ha, Nat.lt_of_lt_of_le hb1 hx.size, fun j hj => ?_⟩
  rw [World.cell?_of_block (a := ⟨b, off + j, none⟩) (hx.block b hb1 (fun e => by have := hr b e.symm; omega))]
  exact hcc j hj
/-- Where a draw stands: its list, its source, what it has kept of the world it began in. -/
structure St (w0 w : World) (g : Nat) (a : Option Addr) (n c : Nat) (f : Nat → Nat) (K : Nat) (T : TypeId) (v : Value) (l : List (Int × Int)) : Prop where
  own : w.ownsRow w0.heap.size T 2 v l.length (PR l)
  src : Src w g a n c f K
  gr : w0.grownBy w (some g)
  low : g < w0.heap.size
  cod : 0 < n → ∀ ad, a = some ad → ad.block < w0.heap.size
section
variable {w0 w w1 : World} {g : Nat} {a : Option Addr} {n c : Nat} {f : Nat → Nat} {K K' : Nat} {T : TypeId} {v : Value} {l : List (Int × Int)}
theorem St.ne (h : St w0 w g a n c f K T v l) : v.ownBlock ≠ some g := fun e => by have := (h.own.lt g e).1; have := h.low; omega
theorem St.le (h : St w0 w g a n c f K T v l) (hl : K ≤ K') : St w0 w g a n c f K' T v l := ⟨h.own, h.src.le hl, h.gr, h.low, h.cod⟩
theorem St.drawn (h : St w0 w g a n c f K T v l) (hs : Src w1 g a n c f K') (hx : w.grownBy w1 (some g)) : St w0 w1 g a n c f K' T v l :=
  ⟨h.own.kept hx (.inr h.ne), hs, grown_trans h.gr hx, h.low, h.cod⟩
theorem St.alloc (h : St w0 w g a n c f K T v l) (o : Obj) : St w0 (w.alloc o) g a n c f K T v l := by
  have e : Ext w (w.alloc o) := (by repeat (first | with_reducible exact Ext.refl _ | with_reducible assumption | with_reducible refine Ext.alloc ?_ _ | with_reducible refine Ext.drew ?_ | (with_reducible refine Ext.setAt ?_ _ _ _ ?_; rotate_left; omega) | with_reducible refine Ext.trans ?_ (by assumption) | with_reducible exact Past.bel _ | with_reducible refine Ext.trans ?_ (Past.bel _)))
  exact ⟨own_ext h.own e, h.src.keep (ext_grown e) (fun k hk => by cases hk) h.low h.cod h.gr.size, grown_trans h.gr (grown_weak (ext_grown e)), h.low, h.cod⟩
theorem St.reset (h : St w0 w g a n c f K T v l) : St w0 w g a n c f K T (.slice none 0 0) [] := ⟨World.ownsRow_nil _ _ _ _, h.src, h.gr, h.low, h.cod⟩
/-- 'out = append(out, T{x, y})' -/
theorem app2 {P : Program} {ops : Array Oper} {rest : List Oper} {o : Oper} {A : Act} {Q : Exit → Act → World → Prop} (t : TypeId) (s x : Operand) (z : Value)
    (hop : o.op = .call { callee := .builtin .append, args := #[s, x], argTypes := #[t, t] }) (hgd : o.guard = none)
    (ht : P.underlying t = some (.slice T)) (hinfo : (P.info? T).map (fun i => (i.zero, i.size, i.bytes)) = some (some z, 2, 16)) (hz : z.cells.size = 2)
    (p q : Int) (gb : Nat) (hs : A.eval s = v) (hx : A.eval x = .slice (some ⟨gb, 0, none⟩) 1 1) (h : St w0 w g a n c f K T v l)
    (hc : Blk w gb T #[.int .i64 p, .int .i64 q]) (hl : l.length ≤ 1048576)
    (hK : ∀ v' w', St w0 w' g a n c f K T v' (l ++ [(p, q)]) → wpList P ops Q rest (A.put o.dst v') w') : wpList P ops Q (o :: rest) A w := by
  obtain ⟨i, hi, hz', hsz, hb⟩ := info_parts hinfo
  refine wpList_append_own (P := P) w hgd s x t hop w0.heap.size T i z 2 16 ht hi hz' hsz hb hz (by decide) v l.length _ hs h.own ⟨gb, 0, none⟩ 1 1 [.int .i64 p, .int .i64 q] hx rfl ?_ ?_ ?_ ?_ h.gr.size ?_
  · exact World.news_of_block hc
  · intro u hu
    simp at hu; rcases hu with rfl | rfl <;> rfl
  · unfold maxLen; omega
  · omega
  · intro v' w' h1 h2 _
    have hr : ∀ k, v.ownBlock = some k → w0.heap.size ≤ k := fun k hk => (h.own.lt k hk).1
    refine hK v' w' ⟨?_, h.src.keep h2 hr h.low h.cod h.gr.size, ⟨h2.os.trans h.gr.os, h2.tape.trans h.gr.tape, h2.output.trans h.gr.output, Nat.le_trans h.gr.size h2.size, fun k hk hn => ?_⟩, h.low, h.cod⟩
    · rw [PR_app, List.length_append]; have e1 : PR [(p, q)] = [.int .i64 p, .int .i64 q] := rfl
      rw [e1]; simpa using h1
    · exact (h2.block k (Nat.lt_of_lt_of_le hk h.gr.size) (fun e => by have := hr k e.symm; omega)).trans (h.gr.block k hk hn)
theorem PR_set0 {l : List (Int × Int)} {j : Nat} (hj : j < l.length) (z : Int) : (PR l).set (j * 2) (.int .i64 z) = PR (l.set j (z, (l.getD j (0, 0)).2)) := by
  induction l generalizing j with
  | nil => simp at hj
  | cons p l ih =>
    have e : PR (p :: l) = .int .i64 p.1 :: .int .i64 p.2 :: PR l := rfl
    cases j with
    | zero => rfl
    | succ j =>
      have h1 := ih (j := j) (by simpa using hj)
      rw [e, show (j + 1) * 2 = j * 2 + 1 + 1 by omega]
      simp only [List.set_cons_succ, h1]; simp [PR]
theorem PR_set1 {l : List (Int × Int)} {j : Nat} (hj : j < l.length) (z : Int) : (PR l).set (j * 2 + 1) (.int .i64 z) = PR (l.set j ((l.getD j (0, 0)).1, z)) := by
  induction l generalizing j with
  | nil => simp at hj
  | cons p l ih =>
    have e : PR (p :: l) = .int .i64 p.1 :: .int .i64 p.2 :: PR l := rfl
    cases j with
    | zero => rfl
    | succ j =>
      have h1 := ih (j := j) (by simpa using hj)
      rw [e, show (j + 1) * 2 + 1 = (j * 2 + 1) + 1 + 1 by omega]
      simp only [List.set_cons_succ, h1]; simp [PR]
theorem St.set {gb cap m i : Nat} {u : Value} {l' : List (Int × Int)} (h : St w0 w g a n c f K T (.slice (some ⟨gb, 0, none⟩) m cap) l) (hm : m = l.length) (hp : (PR l).set i u = PR l') (hl : l'.length = l.length) :
    St w0 (w.setCell ⟨gb, i, none⟩ u) g a n c f K T (.slice (some ⟨gb, 0, none⟩) m cap) l' := by
  subst hm
  have hgb : w0.heap.size ≤ gb := (h.own.lt gb rfl).1
  have hx := grown_set (w := w) gb i u
  refine ⟨?_, h.src.keep hx (fun k hk => by cases hk; exact hgb) h.low h.cod h.gr.size, ⟨h.gr.os, h.gr.tape, h.gr.output, by simpa using h.gr.size, fun k hk hn => ?_⟩, h.low, h.cod⟩
  · rw [hl, ← hp]; exact own_set h.own u
  · exact (hx.block k (Nat.lt_of_lt_of_le hk h.gr.size) (fun e => absurd (show k = gb by simpa using e) (by omega))).trans (h.gr.block k hk hn)
end
end Go.Proofs.Ytmbpjlgeneemjaa

namespace Go.Proofs.Ytmbpjlgeneemjaa
open Go.RowKit
set_option linter.unusedVariables false
set_option linter.unusedSimpArgs false

theorem info_rd : (Try.prog.info? 33).map (fun i => (i.zero, i.size, i.bytes)) = some (some (.agg #[.int .i64 0, .int .i64 0]), 2, 16) := by kernel_rfl
set_option maxHeartbeats 4000000 in
theorem l14Draw_c (g : Nat) (a : Option Addr) (n c : Nat) (f : Nat → Nat) (K : Nat) (w : World) (hn : n ≤ 1048576) (hK : K ≤ 900000) (hd : Src w g a n c f K) (hg : g < w.heap.size) (hcd : 0 < n → ∀ ad, a = some ad → ad.block < w.heap.size) :
    Calls Try.prog 45 #[.pointer (some ⟨g, 0, none⟩)] w fun e w' => ∃ v l, e = .returned v ∧ l.length ≤ 61 ∧ St w w' g a n c f (K + 300) 33 v l := by
  have s0 : St w w g a n c f K 33 (.slice none 0 0) [] := ⟨World.ownsRow_nil _ _ _ _, hd, grown_refl _ _, hg, hcd⟩
  go_enter Try.func45, Try.ntmps45
  go_wp2_with fail
  refine (pick_c g a n c f K 20 _ hn (by omega) (s0.alloc _).src).mono ?_
  rintro e w1 ⟨x1, rfl, y1, y1', z1, hs1, hg1⟩
  have s1 : St w w1 g a n c f (K + 2) 33 (.slice (some ⟨w.heap.size, 0, none⟩) 0 0) [] := by
    refine St.drawn (w := w.alloc (.cells #[] 33)) ⟨World.ownsRow_made _ #[] 0 (Ext.size (by repeat (first | with_reducible exact Ext.refl _ | with_reducible assumption | with_reducible refine Ext.alloc ?_ _ | with_reducible refine Ext.drew ?_ | (with_reducible refine Ext.setAt ?_ _ _ _ ?_; rotate_left; omega) | with_reducible refine Ext.trans ?_ (by assumption) | with_reducible exact Past.bel _ | with_reducible refine Ext.trans ?_ (Past.bel _)))) (Nat.zero_le _) rfl, (s0.alloc _).src, (s0.alloc _).gr, hg, hcd⟩ hs1 hg1
  go_wp2_with fail
  refine (pick_c g a n c f (K + 2) 2000 _ hn (by omega) s1.src).mono ?_
  rintro e w2 ⟨x2, rfl, y2, y2', z2, hs2, hg2⟩
  have s2 := s1.drawn hs2 hg2
  go_wp2_with fail
  refine (pick_c g a n c f (K + 4) 41 _ hn (by omega) s2.src).mono ?_
  rintro e w3 ⟨x3, rfl, y3, y3', z3, hs3, hg3⟩
  have s3 := s2.drawn hs3 hg3
  go_wp2_with fail
  refine (one_c g a n c f (K + 6) 4 _ hn (by omega) s3.src).mono ?_
  rintro e w4 ⟨b4, rfl, hs4, hg4⟩
  have s4 := s3.drawn hs4 hg4
  go_wp2_with fail
  refine (pick_c g a n c f (K + 8) 12 _ hn (by omega) s4.src).mono ?_
  rintro e w5 ⟨x5, rfl, y5, y5', z5, hs5, hg5⟩
  have s5 := s4.drawn hs5 hg5
  have S5 := Lib.hid s5
  clear s0 s1 s2 s3 s4 s5 hs1 hs2 hs3 hs4 hs5 hg1 hg2 hg3 hg4 hg5
  go_wp2_with fail
  go_loopw [3, 4, 5, 8] (fun v3 v4 v5 v8 wr => ∃ (l : List (Int × Int)) (h o k : Int), v4 = .int .i64 h ∧ v5 = .int .i64 o ∧ v8 = .int .i64 k ∧ 0 ≤ k ∧ k ≤ 11 ∧ l.length + k.toNat ≤ 11 ∧ St w wr g a n c f (K + 10 + 8 * (11 - k.toNat)) 33 v3 l) (fun _ _ _ v8 _ => (intOf v8).toNat)
  case atStart => exact ⟨[], _, _, x5, rfl, rfl, rfl, by omega, by omega, by simp; omega, S5.out.le (by omega)⟩
  case round =>
    obtain ⟨l, h, o, k, rfl, rfl, rfl, k0, k1, hl, hst⟩ := hrel
    have ST := Lib.hid hst
    clear hst
    by_cases hk : 0 < k
    · go_wp2_with (at_builtin; refine app2 24 _ _ _ rfl rfl Try.underlying24 info_rd rfl h o _ rfl rfl (ST.out.alloc _) (Blk.new _ _ _) (by omega) ?_; intro v6 w6 s6)
      refine (pick_c g a n c f (K + 10 + 8 * (11 - k.toNat)) 40 _ hn (by omega) s6.src).mono ?_
      rintro e w7 ⟨x7, rfl, y7, y7', z7, hs7, hg7⟩
      have s7 := s6.drawn hs7 hg7
      cases b4
      · go_wp2_with fail
        refine (pick_c g a n c f (K + 10 + 8 * (11 - k.toNat) + 2) 61 _ hn (by omega) s7.src).mono ?_
        rintro e w8 ⟨x8, rfl, y8, y8', z8, hs8, hg8⟩
        have s8 := s7.drawn hs8 hg8
        go_wp2_with fail
        refine (one_c g a n c f (K + 10 + 8 * (11 - k.toNat) + 4) 16 _ hn (by omega) s8.src).mono ?_
        rintro e w9 ⟨b9, rfl, hs9, hg9⟩
        have s9 := s8.drawn hs9 hg9
        cases b9
        · go_wp2_with fail
          exact ⟨⟨l ++ [(h, o)], _, _, k - 1, rfl, rfl, by go_num, by omega, by omega, by simp; omega, s9.le (by omega)⟩, by simp [intOf]; omega⟩
        · go_wp2_with fail
          have sz := s9.gr.size
          obtain ⟨z, hz0, hz1⟩ : ∃ z : Nat → Int, z 0 = -900 ∧ z 1 = 900 := ⟨(fun j => if j = 0 then -900 else 900), rfl, rfl⟩
          refine (among_c g a n c f (K + 10 + 8 * (11 - k.toNat) + 4 + 2) (some ⟨w9.heap.size, 0, none⟩) 2 2 z _ hn (by omega) (s9.alloc _).src (by omega) (by omega) ?_ ?_).mono ?_
          · intro _
            refine ⟨w9.heap.size, 0, rfl, by simp, fun j hj => ?_⟩
            obtain rfl | rfl : j = 0 ∨ j = 1 := by omega
            · simp [go_sem, hz0, hz1]
            · simp [go_sem, hz0, hz1]
          · intro ad e
            cases e
            simp only; omega
          rintro e w10 ⟨jj, rfl, hj, hs10, hg10⟩
          have s10 := (s9.alloc _).drawn hs10 hg10
          go_wp2_with fail
          exact ⟨⟨l ++ [(h, o)], _, _, k - 1, rfl, rfl, by go_num, by omega, by omega, by simp; omega, s10.le (by omega)⟩, by simp [intOf]; omega⟩
      · skip
        go_wp2_with fail
        refine (one_c g a n c f (K + 10 + 8 * (11 - k.toNat) + 2) 16 _ hn (by omega) s7.src).mono ?_
        rintro e w9 ⟨b9, rfl, hs9, hg9⟩
        have s9 := s7.drawn hs9 hg9
        cases b9
        · go_wp2_with fail
          exact ⟨⟨l ++ [(h, o)], _, _, k - 1, rfl, rfl, by go_num, by omega, by omega, by simp; omega, s9.le (by omega)⟩, by simp [intOf]; omega⟩
        · go_wp2_with fail
          have sz := s9.gr.size
          obtain ⟨z, hz0, hz1⟩ : ∃ z : Nat → Int, z 0 = -900 ∧ z 1 = 900 := ⟨(fun j => if j = 0 then -900 else 900), rfl, rfl⟩
          refine (among_c g a n c f (K + 10 + 8 * (11 - k.toNat) + 2 + 2) (some ⟨w9.heap.size, 0, none⟩) 2 2 z _ hn (by omega) (s9.alloc _).src (by omega) (by omega) ?_ ?_).mono ?_
          · intro _
            refine ⟨w9.heap.size, 0, rfl, by simp, fun j hj => ?_⟩
            obtain rfl | rfl : j = 0 ∨ j = 1 := by omega
            · simp [go_sem, hz0, hz1]
            · simp [go_sem, hz0, hz1]
          · intro ad e
            cases e
            simp only; omega
          rintro e w10 ⟨jj, rfl, hj, hs10, hg10⟩
          have s10 := (s9.alloc _).drawn hs10 hg10
          go_wp2_with fail
          exact ⟨⟨l ++ [(h, o)], _, _, k - 1, rfl, rfl, by go_num, by omega, by omega, by simp; omega, s10.le (by omega)⟩, by simp [intOf]; omega⟩
    · have k00 : k = 0 := by omega
      subst k00
      have hst := ST.out.le (K' := K + 98) (by omega)
      clear ST
      obtain ⟨b, cap, rfl⟩ := own_form hst.own
      go_wp2_with fail
      refine (pick_c g a n c f (K + 98) l.length _ hn (by omega) hst.src).mono ?_
      rintro e wA ⟨xA, rfl, yA, yA', zA, hsA, hgA⟩
      have sA := hst.drawn hsA hgA
      go_wp2_with fail
      refine (pick_c g a n c f (K + 100) 30 _ hn (by omega) sA.src).mono ?_
      rintro e wB ⟨xB, rfl, yB, yB', zB, hsB, hgB⟩
      have sB := sA.drawn hsB hgB
      have szB := sB.gr.size
      clear hst sA hsA hgA hsB hgB
      by_cases d0 : xB = 0
      · subst d0
        by_cases hp : 0 < l.length
        · have q1 : (0 : Int) < (l.length : Int) := by omega
          obtain ⟨at_, rfl⟩ := Int.eq_ofNat_of_zero_le yA
          have hat : at_ < l.length := by omega
          have q2 : (0 : Int) ≤ (at_ : Int) := by omega
          have q3 : (at_ : Int) < (l.length : Int) := by omega
          go_wp2_with fail
          obtain ⟨z, hz0, hz1, hz2⟩ : ∃ z : Nat → Int, z 0 = -1 ∧ z 1 = 10000 ∧ z 2 = 10001 := ⟨(fun j => if j = 0 then -1 else if j = 1 then 10000 else 10001), rfl, rfl, rfl⟩
          refine (among_c g a n c f (K + 102) (some ⟨wB.heap.size, 0, none⟩) 3 3 z _ hn (by omega) (sB.alloc _).src (by omega) (by omega) ?_ ?_).mono ?_
          · intro _
            refine ⟨wB.heap.size, 0, rfl, by simp, fun j hj => ?_⟩
            obtain rfl | rfl | rfl : j = 0 ∨ j = 1 ∨ j = 2 := by omega
            all_goals simp [go_sem, hz0, hz1, hz2]
          · intro ad e
            cases e
            simp only; omega
          rintro e wC ⟨jC, rfl, hjC, hsC, hgC⟩
          have sC := (sB.alloc _).drawn hsC hgC
          obtain ⟨gb, rfl, _, _, ⟨r0, r1⟩, r2, r3⟩ := own_at2 sC.own hat
          obtain ⟨t0, t1⟩ := PR_at hat
          rw [t0] at r0
          rw [t1] at r2
          go_wp2_with fail
          go_ret
          have hlen : ∀ p, (l.set at_ p).length ≤ 61 := fun p => by rw [List.length_set]; omega
          first | exact ⟨_, _, rfl, hlen _, (sC.set rfl (PR_set0 hat _) (by simp)).le (by omega)⟩ | exact ⟨_, rfl, _, hlen _, (sC.set rfl (PR_set0 hat _) (by simp)).le (by omega)⟩
        · have q1 : ¬ (0 : Int) < (l.length : Int) := by omega
          go_wp2_with fail
          go_ret
          exact ⟨_, l, rfl, by omega, sB.le (by omega)⟩
      · by_cases d1 : xB = 1
        · subst d1
          by_cases hp : 0 < l.length
          · have q1 : (0 : Int) < (l.length : Int) := by omega
            obtain ⟨at_, rfl⟩ := Int.eq_ofNat_of_zero_le yA
            have hat : at_ < l.length := by omega
            have q2 : (0 : Int) ≤ (at_ : Int) := by omega
            have q3 : (at_ : Int) < (l.length : Int) := by omega
            go_wp2_with fail
            obtain ⟨z, hz0, hz1, hz2, hz3⟩ : ∃ z : Nat → Int, z 0 = -100001 ∧ z 1 = -100000 ∧ z 2 = 100000 ∧ z 3 = 100001 := ⟨(fun j => if j = 0 then -100001 else if j = 1 then -100000 else if j = 2 then 100000 else 100001), rfl, rfl, rfl, rfl⟩
            refine (among_c g a n c f (K + 102) (some ⟨wB.heap.size, 0, none⟩) 4 4 z _ hn (by omega) (sB.alloc _).src (by omega) (by omega) ?_ ?_).mono ?_
            · intro _
              refine ⟨wB.heap.size, 0, rfl, by simp, fun j hj => ?_⟩
              obtain rfl | rfl | rfl | rfl : j = 0 ∨ j = 1 ∨ j = 2 ∨ j = 3 := by omega
              all_goals simp [go_sem, hz0, hz1, hz2, hz3]
            · intro ad e
              cases e
              simp only; omega
            rintro e wC ⟨jC, rfl, hjC, hsC, hgC⟩
            have sC := (sB.alloc _).drawn hsC hgC
            obtain ⟨gb, rfl, _, _, ⟨r0, r1⟩, r2, r3⟩ := own_at2 sC.own hat
            obtain ⟨t0, t1⟩ := PR_at hat
            rw [t0] at r0
            rw [t1] at r2
            go_wp2_with fail
            go_ret
            have hlen : ∀ p, (l.set at_ p).length ≤ 61 := fun p => by rw [List.length_set]; omega
            first | exact ⟨_, _, rfl, hlen _, (sC.set rfl (PR_set1 hat _) (by simp)).le (by omega)⟩ | exact ⟨_, rfl, _, hlen _, (sC.set rfl (PR_set1 hat _) (by simp)).le (by omega)⟩
          · have q1 : ¬ (0 : Int) < (l.length : Int) := by omega
            go_wp2_with fail
            go_ret
            exact ⟨_, l, rfl, by omega, sB.le (by omega)⟩
        · by_cases d2 : xB = 2
          · subst d2
            have sR := sB.reset
            go_wp2_with fail
            go_loopw [3, 11] (fun v3 v11 wr => ∃ (l : List (Int × Int)) (k : Int), v11 = .int .i64 k ∧ 0 ≤ k ∧ k ≤ 61 ∧ (l.length : Int) = k ∧ St w wr g a n c f (K + 102 + 2 * k.toNat) 33 v3 l) (fun _ v11 _ => 61 - (intOf v11).toNat)
            case atStart => exact ⟨[], 0, rfl, by omega, by omega, rfl, sR.le (by omega)⟩
            case round =>
              obtain ⟨l, k, rfl, k0, k1, hl, hst⟩ := hrel
              go_wp2_with fail
              refine (pick_c g a n c f (K + 102 + 2 * k.toNat) 2 _ hn (by omega) hst.src).mono ?_
              rintro e wD ⟨xD, rfl, yD, yD', zD, hsD, hgD⟩
              have sD := hst.drawn hsD hgD
              have SD := Lib.hid sD
              clear hst hsD hgD sD
              have q1 := IntWalk.wrap64_in (60 + xD) (by omega)
              by_cases hk : k < 60 + xD
              · go_wp2_with (at_builtin; refine app2 24 _ _ _ rfl rfl Try.underlying24 info_rd rfl _ _ _ rfl rfl (SD.out.alloc _) (Blk.new _ _ _) (by omega) ?_; intro v6 w6 s6)
                exact ⟨⟨_, k + 1, by go_num, by omega, by omega, by simp; omega, s6.le (by omega)⟩, by simp [intOf]; omega⟩
              · go_wp2_with fail
                go_ret
                exact ⟨_, l, rfl, by omega, SD.out.le (by omega)⟩
          · by_cases d3 : xB = 3
            · subst d3
              go_wp2_with fail
              go_ret
              refine ⟨_, [(0, -100000), (10000, 100000)], rfl, by simp, ?_⟩
              have e : Ext wB (wB.alloc (.cells #[.int .i64 0, .int .i64 (-100000), .int .i64 10000, .int .i64 100000] 33)) := (by repeat (first | with_reducible exact Ext.refl _ | with_reducible assumption | with_reducible refine Ext.alloc ?_ _ | with_reducible refine Ext.drew ?_ | (with_reducible refine Ext.setAt ?_ _ _ _ ?_; rotate_left; omega) | with_reducible refine Ext.trans ?_ (by assumption) | with_reducible exact Past.bel _ | with_reducible refine Ext.trans ?_ (Past.bel _)))
              exact ⟨⟨rfl, .inr ⟨wB.heap.size, 2, _, rfl, szB, heap_alloc_new wB _, Nat.le_refl _, by decide, rfl, rfl⟩⟩, ((sB.alloc _).src).le (by omega), (sB.alloc _).gr, hg, hcd⟩
            · have e0 : (xB == 0) = false := by simpa using d0
              have e1 : (xB == 1) = false := by simpa using d1
              have e2 : (xB == 2) = false := by simpa using d2
              have e3 : (xB == 3) = false := by simpa using d3
              go_wp2_with fail
              go_ret
              exact ⟨_, l, rfl, by omega, sB.le (by omega)⟩
end Go.Proofs.Ytmbpjlgeneemjaa

namespace Go.Proofs.Ytmbpjlgeneemjaa
open Go.RowKit
set_option linter.unusedVariables false
set_option linter.unusedSimpArgs false

theorem grown_up {w W w' : World} {g : Nat} (h : W.grownBy w' (some g)) (hx : Ext w W) (hg : w.heap.size ≤ g) : Ext w w' := hx.grown h (fun k hk => by injection hk with hk; omega)
theorem U8.low' {w : World} {a : Option Addr} {n : Nat} {f : Nat → Nat} (hs : U8 w a n f) : 0 < n → ∀ ad, a = some ad → ad.block < w.heap.size := fun h0 ad e => by
  obtain ⟨b, o, e2, hb, _⟩ := hs.at h0
  have e3 : some ad = some (⟨b, o, none⟩ : Addr) := e.symm.trans e2
  rw [Option.some.inj e3]; exact hb
theorem own_cap' {w : World} {base : Nat} {e : TypeId} {size : Nat} {a : Option Addr} {n cap : Nat} {xs : List Value} (h : w.ownsRow base e size (.slice a n cap) n xs) : n ≤ cap ∧ cap ≤ maxLen := by
  rcases h.2 with ⟨h1, h2⟩ | ⟨g, cap', cur, h1, _, _, h2, h3, _⟩
  · simp only [Value.slice.injEq] at h1
    obtain ⟨_, h3, h4⟩ := h1
    subst h4; exact ⟨by omega, Nat.zero_le _⟩
  · simp only [Value.slice.injEq] at h1
    omega
theorem own_shape {w : World} {base : Nat} {e : TypeId} {size : Nat} {a : Option Addr} {n cap : Nat} {xs : List Value} (h : w.ownsRow base e size (.slice a n cap) n xs) : (a = none ∧ n = 0 ∧ cap = 0) ∨ ∃ g, a = some ⟨g, 0, none⟩ := by
  rcases h.2 with ⟨h1, h2⟩ | ⟨g, cap', cur, h1, _⟩
  · simp only [Value.slice.injEq] at h1
    exact .inl ⟨h1.1, h2, h1.2.2⟩
  · simp only [Value.slice.injEq] at h1
    exact .inr ⟨g, h1.1⟩
/-- a drawn list of readings -/
structure LiE (w w' : World) (b : Option Addr) (n cap : Nat) (h o : Nat → Int) : Prop where
  n61 : n ≤ 61
  s2 : S2 w' b n h o
  ext : Ext w w'
  far : ∀ ad, b = some ad → w.heap.size ≤ ad.block
  nc : n ≤ cap
  cm : cap ≤ maxLen
  form : (b = none ∧ n = 0 ∧ cap = 0) ∨ ∃ g, b = some ⟨g, 0, none⟩
theorem LiE.of {w w0 w' : World} {g : Nat} {a : Option Addr} {n c : Nat} {f : Nat → Nat} {K : Nat} {T : TypeId} {b : Option Addr} {m cap : Nat} {l : List (Int × Int)} (h : St w0 w' g a n c f K T (.slice b m cap) l) (hm : m = l.length) (hl : l.length ≤ 61) (hx : Ext w w0) (hg : w.heap.size ≤ g) :
    LiE w w' b m cap (fun j => (l.getD j (0, 0)).1) (fun j => (l.getD j (0, 0)).2) := by
  subst hm
  have hc := own_cap' h.own
  exact ⟨hl, own_s2 h.own rfl, grown_up h.gr hx hg, fun ad e => by subst e; have := (h.own.lt ad.block rfl).1; have := hx.size; omega, hc.1, hc.2, own_shape h.own⟩
def postL (w : World) (e : Ending) (w' : World) : Prop := ∃ b m cap h o, e = .returned (.slice b m cap) ∧ LiE w w' b m cap h o
def postL1 (w : World) (e : Ending) (w' : World) : Prop := ∃ b m cap h o x, e = .returned (.tuple #[.slice b m cap, .int .i64 x]) ∧ LiE w w' b m cap h o
theorem li_from (a : Option Addr) (n c : Nat) (f : Nat → Nat) (w : World) (hs : U8 w a n f) (hl : ∀ j, j < n → f j ≤ 255) :
    Calls Try.prog 46 #[.slice a n c] w fun e w' => e = .returned (.pointer (some ⟨w.heap.size, 0, none⟩)) ∧ Src w' w.heap.size a n c f 0 ∧ Ext w w' := l00From_c a n c f w hs hl hs.low'
theorem li_draw (a : Option Addr) (n c : Nat) (f : Nat → Nat) (w w1 : World) (hn : n ≤ 1048576) (hs : U8 w a n f) (hs1 : Src w1 w.heap.size a n c f 0) (hx : Ext w w1) :
    Calls Try.prog 45 #[.pointer (some ⟨w.heap.size, 0, none⟩)] w1 fun e w' => ∃ b m cap l, e = .returned (.slice b m cap) ∧ m = l.length ∧ l.length ≤ 61 ∧ St w1 w' w.heap.size a n c f (0 + 300) 33 (.slice b m cap) l := by
  have hg1 : w.heap.size < w1.heap.size := by obtain ⟨i, hh, hb, _⟩ := hs1.blk; exact hb.lt
  exact (l14Draw_c _ a n c f 0 w1 hn (by omega) hs1 hg1 (fun h0 ad e => by have := hs.low' h0 ad e; omega)).mono fun e w' ⟨v, l, he, hl, hst⟩ => by
    obtain ⟨b, cap, rfl⟩ := own_form hst.own
    exact ⟨b, l.length, cap, l, he, rfl, hl, hst⟩
theorem drawBestChange_c (a : Option Addr) (n c : Nat) (f : Nat → Nat) (w : World) (hn : n ≤ 1048576) (hs : U8 w a n f) (hl : ∀ j, j < n → f j ≤ 255) :
    Calls Try.prog 10 #[.slice a n c] w (postL w) := by
  go_enter Try.func10, Try.ntmps10
  go_wp2_with fail
  refine (li_from a n c f w hs hl).mono ?_
  rintro e w1 ⟨rfl, hs1, hx1⟩
  go_wp2_with fail
  refine (li_draw a n c f w w1 hn hs hs1 hx1).mono ?_
  rintro e w2 ⟨b, m, cap, l, rfl, rfl, hll, hst⟩
  have HST := Lib.hid hst
  clear hst
  go_wp2_with fail
  go_ret
  exact ⟨b, _, cap, _, _, rfl, LiE.of HST.out rfl hll hx1 (Nat.le_refl _)⟩
theorem drawFitOf_c (a : Option Addr) (n c : Nat) (f : Nat → Nat) (w : World) (hn : n ≤ 1048576) (hs : U8 w a n f) (hl : ∀ j, j < n → f j ≤ 255) :
    Calls Try.prog 16 #[.slice a n c] w (postL w) := by
  go_enter Try.func16, Try.ntmps16
  go_wp2_with fail
  refine (li_from a n c f w hs hl).mono ?_
  rintro e w1 ⟨rfl, hs1, hx1⟩
  go_wp2_with fail
  refine (li_draw a n c f w w1 hn hs hs1 hx1).mono ?_
  rintro e w2 ⟨b, m, cap, l, rfl, rfl, hll, hst⟩
  have HST := Lib.hid hst
  clear hst
  go_wp2_with fail
  go_ret
  exact ⟨b, _, cap, _, _, rfl, LiE.of HST.out rfl hll hx1 (Nat.le_refl _)⟩
theorem drawResiduals_c (a : Option Addr) (n c : Nat) (f : Nat → Nat) (w : World) (hn : n ≤ 1048576) (hs : U8 w a n f) (hl : ∀ j, j < n → f j ≤ 255) :
    Calls Try.prog 26 #[.slice a n c] w (postL w) := by
  go_enter Try.func26, Try.ntmps26
  go_wp2_with fail
  refine (li_from a n c f w hs hl).mono ?_
  rintro e w1 ⟨rfl, hs1, hx1⟩
  go_wp2_with fail
  refine (li_draw a n c f w w1 hn hs hs1 hx1).mono ?_
  rintro e w2 ⟨b, m, cap, l, rfl, rfl, hll, hst⟩
  have HST := Lib.hid hst
  clear hst
  go_wp2_with fail
  go_ret
  exact ⟨b, _, cap, _, _, rfl, LiE.of HST.out rfl hll hx1 (Nat.le_refl _)⟩
theorem drawMedian_c (a : Option Addr) (n c : Nat) (f : Nat → Nat) (w : World) (hn : n ≤ 1048576) (hs : U8 w a n f) (hl : ∀ j, j < n → f j ≤ 255) :
    Calls Try.prog 42 #[.slice a n c] w (postL w) := by
  go_enter Try.func42, Try.ntmps42
  go_wp2_with fail
  refine (li_from a n c f w hs hl).mono ?_
  rintro e w1 ⟨rfl, hs1, hx1⟩
  go_wp2_with fail
  refine (li_draw a n c f w w1 hn hs hs1 hx1).mono ?_
  rintro e w2 ⟨b, m, cap, l, rfl, rfl, hll, hst⟩
  have HST := Lib.hid hst
  clear hst
  go_wp2_with fail
  go_ret
  exact ⟨b, _, cap, _, _, rfl, LiE.of HST.out rfl hll hx1 (Nat.le_refl _)⟩
theorem s1_lit {w : World} {b n : Nat} {z : Nat → Int} (hb : b < w.heap.size) (h : ∀ j, j < n → w.cell? ⟨b, j, none⟩ = some (.int .i64 (z j))) : S1 w (some ⟨b, 0, none⟩) n z := fun _ => ⟨b, 0, rfl, hb, fun j hj => by rw [Nat.zero_add]; exact h j hj⟩
set_option maxHeartbeats 1000000 in
theorem drawJumps_c (a : Option Addr) (n c : Nat) (f : Nat → Nat) (w : World) (hn : n ≤ 1048576) (hs : U8 w a n f) (hl : ∀ j, j < n → f j ≤ 255) :
    Calls Try.prog 43 #[.slice a n c] w (postL1 w) := by
  go_enter Try.func43, Try.ntmps43
  go_wp2_with fail
  refine (li_from a n c f w hs hl).mono ?_
  rintro e w1 ⟨rfl, hs1, hx1⟩
  go_wp2_with fail
  refine (li_draw a n c f w w1 hn hs hs1 hx1).mono ?_
  rintro e w2 ⟨b, m, cap, l, rfl, rfl, hll, hst⟩
  have HST := Lib.hid hst
  clear hst
  go_wp2_with fail
  refine (one_c _ a n c f _ 10 _ hn (by omega) HST.out.src).mono ?_
  rintro e w3 ⟨bb, rfl, hs3, hg3⟩
  have S3 := Lib.hid (HST.out.drawn hs3 hg3)
  clear hs3 hg3
  have hgw : w.heap.size < w3.heap.size := by obtain ⟨i, hh, hb, _⟩ := S3.out.src.blk; exact hb.lt
  cases bb
  · go_wp2_with fail
    refine (pick_c _ a n c f _ 1000 _ hn (by omega) S3.out.src).mono ?_
    rintro e w4 ⟨x, rfl, y0, y1, y2, hs4, hg4⟩
    have S4 := Lib.hid (S3.out.drawn hs4 hg4)
    clear hs4 hg4
    go_wp2_with fail
    go_ret2
    exact ⟨b, _, cap, _, _, x, rfl, LiE.of S4.out rfl hll hx1 (Nat.le_refl _)⟩
  · go_wp2_with fail
    obtain ⟨z, zz0, zz1, zz2, zz3⟩ : ∃ z : Nat → Int, z 0 = -1 ∧ z 1 = 0 ∧ z 2 = 200000 ∧ z 3 = 200001 := ⟨(fun j => if j = 0 then -1 else if j = 1 then 0 else if j = 2 then 200000 else 200001), rfl, rfl, rfl, rfl⟩
    refine (among_c _ a n c f _ (some ⟨w3.heap.size, 0, none⟩) 4 4 z _ hn (by omega) (S3.out.alloc _).src (by omega) (by omega) (s1_lit (by simp) (fun j hj => by (obtain rfl | rfl | rfl | rfl : j = 0 ∨ j = 1 ∨ j = 2 ∨ j = 3 := by omega) <;> simp [go_sem, zz0, zz1, zz2, zz3])) (fun ad e => by cases e; dsimp only; omega)).mono ?_
    rintro e w4 ⟨j, rfl, hj, hs4, hg4⟩
    have S4 := Lib.hid ((S3.out.alloc _).drawn hs4 hg4)
    clear hs4 hg4
    go_wp2_with fail
    go_ret2
    exact ⟨b, _, cap, _, _, z j, rfl, LiE.of S4.out rfl hll hx1 (Nat.le_refl _)⟩
/-- sums of any list -/
theorem fit_blk5 {w : World} {g : Nat} {T : TypeId} {a b c d e : Value} (h : Blk w g T #[a, b, c, d, e]) : w.cell? ⟨g, 0, none⟩ = some a ∧ w.cell? ⟨g, 1, none⟩ = some b ∧ w.cell? ⟨g, 2, none⟩ = some c ∧ w.cell? ⟨g, 3, none⟩ = some d ∧ w.cell? ⟨g, 4, none⟩ = some e := by
  refine ⟨?_, ?_, ?_, ?_, ?_⟩ <;> (rw [h.cell]; rfl)
end Go.Proofs.Ytmbpjlgeneemjaa

namespace Go.Proofs.Ytmbpjlgeneemjaa
set_option linter.unusedVariables false
/-- the jumps among the first j places -/
def jmp (o : Nat → Int) (least : Int) : Nat → List Int
  | 0 => []
  | j + 1 => if least ≤ absI (o (j + 1) - o j) then jmp o least j ++ [(j : Int) + 1] else jmp o least j
theorem jmp_len (o : Nat → Int) (least : Int) (j : Nat) : (jmp o least j).length ≤ j := by
  induction j with
  | zero => simp [jmp]
  | succ j ih =>
    simp only [jmp]; split
    · rw [List.length_append, List.length_singleton]; omega
    · omega
def jmpCode (n : Nat) (f o : Nat → Int) (least : Int) : Int := if rdV n f o then (if inB least 0 200000 then 0 else 2) else 1
def jmpRes (n : Nat) (f o : Nat → Int) (least : Int) : List Int := if jmpCode n f o least = 0 then jmp o least (n - 1) else []
theorem jmpRes_len (n : Nat) (f o : Nat → Int) (least : Int) : (jmpRes n f o least).length ≤ n := by
  unfold jmpRes; split
  · have := jmp_len o least (n - 1); omega
  · simp
end Go.Proofs.Ytmbpjlgeneemjaa

namespace Go.Proofs.Ytmbpjlgeneemjaa
open Go.RowKit
set_option linter.unusedVariables false
set_option linter.unusedSimpArgs false

theorem info_i64 : (Try.prog.info? 2).map (fun i => (i.zero, i.size, i.bytes)) = some (some (.int .i64 0), 1, 8) := by kernel_rfl
theorem jmp_t {o : Nat → Int} {least : Int} {j : Nat} (h : least ≤ absI (o (j + 1) - o j)) : (jmp o least j).map (Value.int .i64) ++ [.int .i64 ((j : Int) + 1)] = (jmp o least (j + 1)).map (Value.int .i64) ∧ (jmp o least j).length + 1 = (jmp o least (j + 1)).length := by
  simp [jmp, h]
theorem jmp_f {o : Nat → Int} {least : Int} {j : Nat} (h : absI (o (j + 1) - o j) < least) : jmp o least (j + 1) = jmp o least j := by
  simp only [jmp]; rw [if_neg (Int.not_le.2 h)]
set_option maxRecDepth 100000 in
set_option maxHeartbeats 2000000 in
theorem implJumpsOf_c (a : Option Addr) (n c : Nat) (f o : Nat → Int) (least : Int) (w : World) (hn : n ≤ 1048576) (hs : S2 w a n f o) :
    Calls Try.prog 15 #[.slice a n c, .int .i64 least] w fun e w' => ∃ b cap, e = .returned (.tuple #[.slice b (jmpRes n f o least).length cap, .int .i64 (jmpCode n f o least)]) ∧ Ext w w' ∧
      w'.ownsRow w.heap.size 2 1 (.slice b (jmpRes n f o least).length cap) (jmpRes n f o least).length ((jmpRes n f o least).map (Value.int .i64)) := by
  have HS := Lib.hid hs
  clear hs
  by_cases hv : rdV n f o = true
  · have HV := Lib.hid hv
    by_cases hl : inB least 0 200000 = true
    · have HL := Lib.hid hl
      have r := rb_of hv
      have ob := offB_of r
      have h60 := ob.n60
      obtain ⟨i0, hi, hz0, hz1, hz2⟩ := info_parts info_i64
      go_enter Try.func15, Try.ntmps15
      go_wp2_with (first | (go_at_call 20; ((with_reducible refine (validReadings_c _ _ _ _ _ _ hn (HS.out.ext (by repeat (first | with_reducible exact Ext.refl _ | with_reducible assumption | with_reducible refine Ext.alloc ?_ _ | with_reducible refine Ext.drew ?_ | (with_reducible refine Ext.setAt ?_ _ _ _ ?_; rotate_left; omega) | with_reducible refine Ext.trans ?_ (by assumption) | with_reducible exact Past.bel _ | with_reducible refine Ext.trans ?_ (Past.bel _))))).mono ?_); rintro e w' ⟨rfl, hx⟩; (first | (obtain ⟨wx, rfl⟩ := Past.again hx) | (obtain ⟨wx, rfl⟩ := Past.ofd hx) | (obtain ⟨wx, rfl⟩ := Past.of hx)))) | (go_at_call 50; ((with_reducible refine (within_c _ _ _ _).mono ?_); rintro e w' ⟨rfl, rfl⟩)))
      go_loopw [6, 7] (fun v i wr => ∃ j : Nat, j ≤ n ∧ i = .int .i64 ((j : Int) + 1) ∧ Ext w wr ∧ wr.ownsRow w.heap.size 2 1 v (jmp o least j).length ((jmp o least j).map (Value.int .i64)) ∧ (0 < j → j < n)) (fun _ i _ => n + 1 - (intOf i).toNat)
      case atStart => exact ⟨0, by omega, rfl, (by repeat (first | with_reducible exact Ext.refl _ | with_reducible assumption | with_reducible refine Ext.alloc ?_ _ | with_reducible refine Ext.drew ?_ | (with_reducible refine Ext.setAt ?_ _ _ _ ?_; rotate_left; omega) | with_reducible refine Ext.trans ?_ (by assumption) | with_reducible exact Past.bel _ | with_reducible refine Ext.trans ?_ (Past.bel _))), World.ownsRow_nil _ _ _ _, by omega⟩
      case round =>
        obtain ⟨j, hj, rfl, hbl, ho, hj2⟩ := hrel
        have HO := Lib.hid ho
        by_cases hlt : j + 1 < n
        · obtain ⟨b1, o1, rfl, hb1, q1, q2⟩ := (S2.ext HS.out hbl).at (show j + 1 < n by omega)
          obtain ⟨_, _, hh, _, q3, q4⟩ := (S2.ext HS.out hbl).at (show j < n by omega)
          obtain ⟨rfl, rfl⟩ := by simpa using hh
          have p1 := ob.bo j (by omega)
          have p2 := ob.bo (j + 1) (by omega)
          clear ho
          go_wp2_with fail
          refine wp_region_past (by kernel_rfl) (by kernel_rfl) ?_
          repeat (go_big_quiet_step ((go_at_call 51; exact Calls.past_same (abs_c _ _ (by omega) (by omega)))))
          refine wpQuiet_nil ?_
          rintro _ ⟨wx, rfl⟩
          have hlen := jmp_len o least j
          go_wp2_with (at_builtin; refine app1 (w0 := w) 34 2 _ _ rfl rfl Try.underlying34 info_i64 _ (jmp o least j) ((j : Int) + 1) _ rfl rfl (own_ext HO.out (by repeat (first | with_reducible exact Ext.refl _ | with_reducible assumption | with_reducible refine Ext.alloc ?_ _ | with_reducible refine Ext.drew ?_ | (with_reducible refine Ext.setAt ?_ _ _ _ ?_; rotate_left; omega) | with_reducible refine Ext.trans ?_ (by assumption) | with_reducible exact Past.bel _ | with_reducible refine Ext.trans ?_ (Past.bel _)))) (by simp [go_sem]) (by omega) (by repeat (first | with_reducible exact Ext.refl _ | with_reducible assumption | with_reducible refine Ext.alloc ?_ _ | with_reducible refine Ext.drew ?_ | (with_reducible refine Ext.setAt ?_ _ _ _ ?_; rotate_left; omega) | with_reducible refine Ext.trans ?_ (by assumption) | with_reducible exact Past.bel _ | with_reducible refine Ext.trans ?_ (Past.bel _))) ?_; intro v1 w1 ho1 hx1)
          · have hjt := jmp_t (o := o) (least := least) (j := j) (by assumption)
            exact ⟨⟨j + 1, by omega, by go_num, hx1, by rw [← hjt.2, ← hjt.1]; simpa using ho1, by omega⟩, by simp [intOf]; omega⟩
          · have hjf := jmp_f (o := o) (least := least) (j := j) (by assumption)
            exact ⟨⟨j + 1, by omega, by go_num, (by repeat (first | with_reducible exact Ext.refl _ | with_reducible assumption | with_reducible refine Ext.alloc ?_ _ | with_reducible refine Ext.drew ?_ | (with_reducible refine Ext.setAt ?_ _ _ _ ?_; rotate_left; omega) | with_reducible refine Ext.trans ?_ (by assumption) | with_reducible exact Past.bel _ | with_reducible refine Ext.trans ?_ (Past.bel _))), by rw [hjf]; exact own_ext HO.out (by repeat (first | with_reducible exact Ext.refl _ | with_reducible assumption | with_reducible refine Ext.alloc ?_ _ | with_reducible refine Ext.drew ?_ | (with_reducible refine Ext.setAt ?_ _ _ _ ?_; rotate_left; omega) | with_reducible refine Ext.trans ?_ (by assumption) | with_reducible exact Past.bel _ | with_reducible refine Ext.trans ?_ (Past.bel _))), by omega⟩, by simp [intOf]; omega⟩
        · obtain ⟨b, cap, rfl⟩ := own_form ho
          have he : jmpCode n f o least = 0 := by simp [jmpCode, HV.out, HL.out]
          have hr : jmpRes n f o least = jmp o least j := by
            rw [jmpRes, if_pos he]; congr 1; omega
          have HE := Lib.hid he
          have HR := Lib.hid hr
          clear ho he hr
          go_wp2_with fail
          go_ret2
          exact ⟨b, cap, ret_two (by rw [HR.out]; rfl) (congrArg _ HE.out.symm), (by repeat (first | with_reducible exact Ext.refl _ | with_reducible assumption | with_reducible refine Ext.alloc ?_ _ | with_reducible refine Ext.drew ?_ | (with_reducible refine Ext.setAt ?_ _ _ _ ?_; rotate_left; omega) | with_reducible refine Ext.trans ?_ (by assumption) | with_reducible exact Past.bel _ | with_reducible refine Ext.trans ?_ (Past.bel _))), by rw [HR.out]; exact HO.out⟩
    · have hf : inB least 0 200000 = false := by simpa using hl
      go_enter Try.func15, Try.ntmps15
      go_wp2_with (first | (go_at_call 20; ((with_reducible refine (validReadings_c _ _ _ _ _ _ hn (HS.out.ext (by repeat (first | with_reducible exact Ext.refl _ | with_reducible assumption | with_reducible refine Ext.alloc ?_ _ | with_reducible refine Ext.drew ?_ | (with_reducible refine Ext.setAt ?_ _ _ _ ?_; rotate_left; omega) | with_reducible refine Ext.trans ?_ (by assumption) | with_reducible exact Past.bel _ | with_reducible refine Ext.trans ?_ (Past.bel _))))).mono ?_); rintro e w' ⟨rfl, hx⟩; (first | (obtain ⟨wx, rfl⟩ := Past.again hx) | (obtain ⟨wx, rfl⟩ := Past.ofd hx) | (obtain ⟨wx, rfl⟩ := Past.of hx)))) | (go_at_call 50; ((with_reducible refine (within_c _ _ _ _).mono ?_); rintro e w' ⟨rfl, rfl⟩)))
      go_ret2
      have he : jmpCode n f o least = 2 := by simp [jmpCode, HV.out, hf]
      have hr : jmpRes n f o least = [] := by rw [jmpRes, he]; rfl
      exact ⟨none, 0, ret_two (by rw [hr]; rfl) (congrArg _ he.symm), (by repeat (first | with_reducible exact Ext.refl _ | with_reducible assumption | with_reducible refine Ext.alloc ?_ _ | with_reducible refine Ext.drew ?_ | (with_reducible refine Ext.setAt ?_ _ _ _ ?_; rotate_left; omega) | with_reducible refine Ext.trans ?_ (by assumption) | with_reducible exact Past.bel _ | with_reducible refine Ext.trans ?_ (Past.bel _))), by rw [hr]; exact World.ownsRow_nil _ _ _ _⟩
  · have hf : rdV n f o = false := by simpa using hv
    go_enter Try.func15, Try.ntmps15
    go_wp2_with (first | (go_at_call 20; ((with_reducible refine (validReadings_c _ _ _ _ _ _ hn (HS.out.ext (by repeat (first | with_reducible exact Ext.refl _ | with_reducible assumption | with_reducible refine Ext.alloc ?_ _ | with_reducible refine Ext.drew ?_ | (with_reducible refine Ext.setAt ?_ _ _ _ ?_; rotate_left; omega) | with_reducible refine Ext.trans ?_ (by assumption) | with_reducible exact Past.bel _ | with_reducible refine Ext.trans ?_ (Past.bel _))))).mono ?_); rintro e w' ⟨rfl, hx⟩; (first | (obtain ⟨wx, rfl⟩ := Past.again hx) | (obtain ⟨wx, rfl⟩ := Past.ofd hx) | (obtain ⟨wx, rfl⟩ := Past.of hx)))))
    go_ret2
    have he : jmpCode n f o least = 1 := by simp [jmpCode, hf]
    have hr : jmpRes n f o least = [] := by rw [jmpRes, he]; rfl
    exact ⟨none, 0, ret_two (by rw [hr]; rfl) (congrArg _ he.symm), (by repeat (first | with_reducible exact Ext.refl _ | with_reducible assumption | with_reducible refine Ext.alloc ?_ _ | with_reducible refine Ext.drew ?_ | (with_reducible refine Ext.setAt ?_ _ _ _ ?_; rotate_left; omega) | with_reducible refine Ext.trans ?_ (by assumption) | with_reducible exact Past.bel _ | with_reducible refine Ext.trans ?_ (Past.bel _))), by rw [hr]; exact World.ownsRow_nil _ _ _ _⟩
set_option maxRecDepth 100000 in
set_option maxHeartbeats 2000000 in
theorem specJumpsOf_c (a : Option Addr) (n c : Nat) (f o : Nat → Int) (least : Int) (w : World) (hn : n ≤ 1048576) (hs : S2 w a n f o) :
    Calls Try.prog 44 #[.slice a n c, .int .i64 least] w fun e w' => ∃ b cap, e = .returned (.tuple #[.slice b (jmpRes n f o least).length cap, .int .i64 (jmpCode n f o least)]) ∧ Ext w w' ∧
      w'.ownsRow w.heap.size 2 1 (.slice b (jmpRes n f o least).length cap) (jmpRes n f o least).length ((jmpRes n f o least).map (Value.int .i64)) := by
  have HS := Lib.hid hs
  clear hs
  by_cases hv : rdV n f o = true
  · have HV := Lib.hid hv
    by_cases hl : inB least 0 200000 = true
    · have HL := Lib.hid hl
      have r := rb_of hv
      have ob := offB_of r
      have h60 := ob.n60
      obtain ⟨i0, hi, hz0, hz1, hz2⟩ := info_parts info_i64
      go_enter Try.func44, Try.ntmps44
      go_wp2_with (first | (go_at_call 48; ((with_reducible refine (l14Ok_c _ _ _ _ _ _ hn (HS.out.ext (by repeat (first | with_reducible exact Ext.refl _ | with_reducible assumption | with_reducible refine Ext.alloc ?_ _ | with_reducible refine Ext.drew ?_ | (with_reducible refine Ext.setAt ?_ _ _ _ ?_; rotate_left; omega) | with_reducible refine Ext.trans ?_ (by assumption) | with_reducible exact Past.bel _ | with_reducible refine Ext.trans ?_ (Past.bel _))))).mono ?_); rintro e w' ⟨rfl, hx⟩; (first | (obtain ⟨wx, rfl⟩ := Past.again hx) | (obtain ⟨wx, rfl⟩ := Past.ofd hx) | (obtain ⟨wx, rfl⟩ := Past.of hx)))) | (go_at_call 63; ((with_reducible refine (l00In_c _ _ _ _).mono ?_); rintro e w' ⟨rfl, rfl⟩)))
      go_loopw [6, 7] (fun v i wr => ∃ j : Nat, j ≤ n ∧ i = .int .i64 ((j : Int) + 1) ∧ Ext w wr ∧ wr.ownsRow w.heap.size 2 1 v (jmp o least j).length ((jmp o least j).map (Value.int .i64)) ∧ (0 < j → j < n)) (fun _ i _ => n + 1 - (intOf i).toNat)
      case atStart => exact ⟨0, by omega, rfl, (by repeat (first | with_reducible exact Ext.refl _ | with_reducible assumption | with_reducible refine Ext.alloc ?_ _ | with_reducible refine Ext.drew ?_ | (with_reducible refine Ext.setAt ?_ _ _ _ ?_; rotate_left; omega) | with_reducible refine Ext.trans ?_ (by assumption) | with_reducible exact Past.bel _ | with_reducible refine Ext.trans ?_ (Past.bel _))), World.ownsRow_made _ #[] 0 (Ext.size (by repeat (first | with_reducible exact Ext.refl _ | with_reducible assumption | with_reducible refine Ext.alloc ?_ _ | with_reducible refine Ext.drew ?_ | (with_reducible refine Ext.setAt ?_ _ _ _ ?_; rotate_left; omega) | with_reducible refine Ext.trans ?_ (by assumption) | with_reducible exact Past.bel _ | with_reducible refine Ext.trans ?_ (Past.bel _)))) (Nat.zero_le _) rfl, by omega⟩
      case round =>
        obtain ⟨j, hj, rfl, hbl, ho, hj2⟩ := hrel
        have HO := Lib.hid ho
        by_cases hlt : j + 1 < n
        · obtain ⟨b1, o1, rfl, hb1, q1, q2⟩ := (S2.ext HS.out hbl).at (show j + 1 < n by omega)
          obtain ⟨_, _, hh, _, q3, q4⟩ := (S2.ext HS.out hbl).at (show j < n by omega)
          obtain ⟨rfl, rfl⟩ := by simpa using hh
          have p1 := ob.bo j (by omega)
          have p2 := ob.bo (j + 1) (by omega)
          clear ho
          go_wp2_with fail
          refine wp_region_past (by kernel_rfl) (by kernel_rfl) ?_
          repeat (go_big_quiet_step ((go_at_call 71; exact Calls.past_same (l02Size_c _ _ (by omega) (by omega)))))
          refine wpQuiet_nil ?_
          rintro _ ⟨wx, rfl⟩
          have hlen := jmp_len o least j
          go_wp2_with (at_builtin; refine app1 (w0 := w) 34 2 _ _ rfl rfl Try.underlying34 info_i64 _ (jmp o least j) ((j : Int) + 1) _ rfl rfl (own_ext HO.out (by repeat (first | with_reducible exact Ext.refl _ | with_reducible assumption | with_reducible refine Ext.alloc ?_ _ | with_reducible refine Ext.drew ?_ | (with_reducible refine Ext.setAt ?_ _ _ _ ?_; rotate_left; omega) | with_reducible refine Ext.trans ?_ (by assumption) | with_reducible exact Past.bel _ | with_reducible refine Ext.trans ?_ (Past.bel _)))) (by simp [go_sem]) (by omega) (by repeat (first | with_reducible exact Ext.refl _ | with_reducible assumption | with_reducible refine Ext.alloc ?_ _ | with_reducible refine Ext.drew ?_ | (with_reducible refine Ext.setAt ?_ _ _ _ ?_; rotate_left; omega) | with_reducible refine Ext.trans ?_ (by assumption) | with_reducible exact Past.bel _ | with_reducible refine Ext.trans ?_ (Past.bel _))) ?_; intro v1 w1 ho1 hx1)
          · have hjt := jmp_t (o := o) (least := least) (j := j) (by assumption)
            exact ⟨⟨j + 1, by omega, by go_num, hx1, by rw [← hjt.2, ← hjt.1]; simpa using ho1, by omega⟩, by simp [intOf]; omega⟩
          · have hjf := jmp_f (o := o) (least := least) (j := j) (by assumption)
            exact ⟨⟨j + 1, by omega, by go_num, (by repeat (first | with_reducible exact Ext.refl _ | with_reducible assumption | with_reducible refine Ext.alloc ?_ _ | with_reducible refine Ext.drew ?_ | (with_reducible refine Ext.setAt ?_ _ _ _ ?_; rotate_left; omega) | with_reducible refine Ext.trans ?_ (by assumption) | with_reducible exact Past.bel _ | with_reducible refine Ext.trans ?_ (Past.bel _))), by rw [hjf]; exact own_ext HO.out (by repeat (first | with_reducible exact Ext.refl _ | with_reducible assumption | with_reducible refine Ext.alloc ?_ _ | with_reducible refine Ext.drew ?_ | (with_reducible refine Ext.setAt ?_ _ _ _ ?_; rotate_left; omega) | with_reducible refine Ext.trans ?_ (by assumption) | with_reducible exact Past.bel _ | with_reducible refine Ext.trans ?_ (Past.bel _))), by omega⟩, by simp [intOf]; omega⟩
        · obtain ⟨b, cap, rfl⟩ := own_form ho
          have he : jmpCode n f o least = 0 := by simp [jmpCode, HV.out, HL.out]
          have hr : jmpRes n f o least = jmp o least j := by
            rw [jmpRes, if_pos he]; congr 1; omega
          have HE := Lib.hid he
          have HR := Lib.hid hr
          clear ho he hr
          go_wp2_with fail
          go_ret2
          exact ⟨b, cap, ret_two (by rw [HR.out]; rfl) (congrArg _ HE.out.symm), (by repeat (first | with_reducible exact Ext.refl _ | with_reducible assumption | with_reducible refine Ext.alloc ?_ _ | with_reducible refine Ext.drew ?_ | (with_reducible refine Ext.setAt ?_ _ _ _ ?_; rotate_left; omega) | with_reducible refine Ext.trans ?_ (by assumption) | with_reducible exact Past.bel _ | with_reducible refine Ext.trans ?_ (Past.bel _))), by rw [HR.out]; exact HO.out⟩
    · have hf : inB least 0 200000 = false := by simpa using hl
      go_enter Try.func44, Try.ntmps44
      go_wp2_with (first | (go_at_call 48; ((with_reducible refine (l14Ok_c _ _ _ _ _ _ hn (HS.out.ext (by repeat (first | with_reducible exact Ext.refl _ | with_reducible assumption | with_reducible refine Ext.alloc ?_ _ | with_reducible refine Ext.drew ?_ | (with_reducible refine Ext.setAt ?_ _ _ _ ?_; rotate_left; omega) | with_reducible refine Ext.trans ?_ (by assumption) | with_reducible exact Past.bel _ | with_reducible refine Ext.trans ?_ (Past.bel _))))).mono ?_); rintro e w' ⟨rfl, hx⟩; (first | (obtain ⟨wx, rfl⟩ := Past.again hx) | (obtain ⟨wx, rfl⟩ := Past.ofd hx) | (obtain ⟨wx, rfl⟩ := Past.of hx)))) | (go_at_call 63; ((with_reducible refine (l00In_c _ _ _ _).mono ?_); rintro e w' ⟨rfl, rfl⟩)))
      go_ret2
      have he : jmpCode n f o least = 2 := by simp [jmpCode, HV.out, hf]
      have hr : jmpRes n f o least = [] := by rw [jmpRes, he]; rfl
      exact ⟨none, 0, ret_two (by rw [hr]; rfl) (congrArg _ he.symm), (by repeat (first | with_reducible exact Ext.refl _ | with_reducible assumption | with_reducible refine Ext.alloc ?_ _ | with_reducible refine Ext.drew ?_ | (with_reducible refine Ext.setAt ?_ _ _ _ ?_; rotate_left; omega) | with_reducible refine Ext.trans ?_ (by assumption) | with_reducible exact Past.bel _ | with_reducible refine Ext.trans ?_ (Past.bel _))), by rw [hr]; exact World.ownsRow_nil _ _ _ _⟩
  · have hf : rdV n f o = false := by simpa using hv
    go_enter Try.func44, Try.ntmps44
    go_wp2_with (first | (go_at_call 48; ((with_reducible refine (l14Ok_c _ _ _ _ _ _ hn (HS.out.ext (by repeat (first | with_reducible exact Ext.refl _ | with_reducible assumption | with_reducible refine Ext.alloc ?_ _ | with_reducible refine Ext.drew ?_ | (with_reducible refine Ext.setAt ?_ _ _ _ ?_; rotate_left; omega) | with_reducible refine Ext.trans ?_ (by assumption) | with_reducible exact Past.bel _ | with_reducible refine Ext.trans ?_ (Past.bel _))))).mono ?_); rintro e w' ⟨rfl, hx⟩; (first | (obtain ⟨wx, rfl⟩ := Past.again hx) | (obtain ⟨wx, rfl⟩ := Past.ofd hx) | (obtain ⟨wx, rfl⟩ := Past.of hx)))))
    go_ret2
    have he : jmpCode n f o least = 1 := by simp [jmpCode, hf]
    have hr : jmpRes n f o least = [] := by rw [jmpRes, he]; rfl
    exact ⟨none, 0, ret_two (by rw [hr]; rfl) (congrArg _ he.symm), (by repeat (first | with_reducible exact Ext.refl _ | with_reducible assumption | with_reducible refine Ext.alloc ?_ _ | with_reducible refine Ext.drew ?_ | (with_reducible refine Ext.setAt ?_ _ _ _ ?_; rotate_left; omega) | with_reducible refine Ext.trans ?_ (by assumption) | with_reducible exact Past.bel _ | with_reducible refine Ext.trans ?_ (Past.bel _))), by rw [hr]; exact World.ownsRow_nil _ _ _ _⟩
end Go.Proofs.Ytmbpjlgeneemjaa

namespace Go.Proofs.Ytmbpjlgeneemjaa
set_option linter.unusedVariables false
/-- a function's first j values -/
def outs (F : Nat → Int) : Nat → List Int
  | 0 => []
  | j + 1 => outs F j ++ [F j]
theorem outs_len (F : Nat → Int) (j : Nat) : (outs F j).length = j := by
  induction j with
  | zero => rfl
  | succ j ih => simp [outs, ih]
def rateFn (h o : Nat → Int) (j : Nat) : Int := nearD (24000 * (o (j + 1) - o j)) (h (j + 1) - h j)
def rateCode (n : Nat) (h o : Nat → Int) : Int := if rdV n h o then 0 else 1
def rateRes (n : Nat) (h o : Nat → Int) : List Int := if rdV n h o then outs (rateFn h o) (n - 1) else []
theorem rateRes_len (n : Nat) (h o : Nat → Int) : (rateRes n h o).length ≤ n := by
  unfold rateRes; split
  · rw [outs_len]; omega
  · simp
end Go.Proofs.Ytmbpjlgeneemjaa

namespace Go.Proofs.Ytmbpjlgeneemjaa
open Go.RowKit
set_option linter.unusedVariables false
set_option linter.unusedSimpArgs false

theorem outs_own {w : World} {b e : Nat} {v : Value} {F : Nat → Int} {j : Nat} (h : w.ownsRow b e 1 v j ((outs F j).map (Value.int .i64))) : w.ownsRow b e 1 v (outs F j).length ((outs F j).map (Value.int .i64)) := by rw [outs_len]; exact h
theorem outs_step (F : Nat → Int) (j : Nat) : (outs F j ++ [F j]).map (Value.int .i64) = (outs F (j + 1)).map (Value.int .i64) := by simp [outs]
set_option maxRecDepth 100000 in
set_option maxHeartbeats 2000000 in
theorem implRatesBetween_c (a : Option Addr) (n c : Nat) (f o : Nat → Int) (w : World) (hn : n ≤ 1048576) (hs : S2 w a n f o) :
    Calls Try.prog 29 #[.slice a n c] w fun e w' => ∃ b cap, e = .returned (.tuple #[.slice b (rateRes n f o).length cap, .int .i64 (rateCode n f o)]) ∧ Ext w w' ∧
      w'.ownsRow w.heap.size 2 1 (.slice b (rateRes n f o).length cap) (rateRes n f o).length ((rateRes n f o).map (Value.int .i64)) := by
  have HS := Lib.hid hs
  clear hs
  by_cases hv : rdV n f o = true
  · have HV := Lib.hid hv
    have r := rb_of hv
    have R := Lib.hid r
    have h60 := r.n60
    clear r
    obtain ⟨i0, hi, hz0, hz1, hz2⟩ := info_parts info_i64
    go_enter Try.func29, Try.ntmps29
    go_wp2_with (first | (go_at_call 20; ((with_reducible refine (validReadings_c _ _ _ _ _ _ hn (HS.out.ext (by repeat (first | with_reducible exact Ext.refl _ | with_reducible assumption | with_reducible refine Ext.alloc ?_ _ | with_reducible refine Ext.drew ?_ | (with_reducible refine Ext.setAt ?_ _ _ _ ?_; rotate_left; omega) | with_reducible refine Ext.trans ?_ (by assumption) | with_reducible exact Past.bel _ | with_reducible refine Ext.trans ?_ (Past.bel _))))).mono ?_); rintro e w' ⟨rfl, hx⟩; (first | (obtain ⟨wx, rfl⟩ := Past.again hx) | (obtain ⟨wx, rfl⟩ := Past.ofd hx) | (obtain ⟨wx, rfl⟩ := Past.of hx)))))
    go_loopw [4, 5] (fun v i wr => ∃ j : Nat, j ≤ n ∧ i = .int .i64 ((j : Int) + 1) ∧ Ext w wr ∧ wr.ownsRow w.heap.size 2 1 v j ((outs (rateFn f o) j).map (Value.int .i64)) ∧ (0 < j → j < n)) (fun _ i _ => n + 1 - (intOf i).toNat)
    case atStart => exact ⟨0, by omega, rfl, (by repeat (first | with_reducible exact Ext.refl _ | with_reducible assumption | with_reducible refine Ext.alloc ?_ _ | with_reducible refine Ext.drew ?_ | (with_reducible refine Ext.setAt ?_ _ _ _ ?_; rotate_left; omega) | with_reducible refine Ext.trans ?_ (by assumption) | with_reducible exact Past.bel _ | with_reducible refine Ext.trans ?_ (Past.bel _))), World.ownsRow_nil _ _ _ _, by omega⟩
    case round =>
      obtain ⟨j, hj, rfl, hbl, ho, hj2⟩ := hrel
      have HO := Lib.hid ho
      clear ho
      by_cases hlt : j + 1 < n
      · obtain ⟨b1, o1, rfl, hb1, q1, q2⟩ := HS.out.at (show j + 1 < n by omega)
        obtain ⟨_, _, hh, _, q3, q4⟩ := HS.out.at (show j < n by omega)
        obtain ⟨rfl, rfl⟩ := by simpa using hh
        have p1 := R.out.bo j (by omega)
        have p2 := R.out.bo (j + 1) (by omega)
        have p3 := R.out.bh j (by omega)
        have p4 := R.out.bh (j + 1) (by omega)
        have p5 := R.out.up j (by omega)
        have SK : ∀ w', Ext w w' → (w'.cell? ⟨b1, o1 + (j + 1) * 2, none⟩ = some (.int .i64 (f (j + 1))) ∧ w'.cell? ⟨b1, o1 + (j + 1) * 2 + 1, none⟩ = some (.int .i64 (o (j + 1))) ∧ w'.cell? ⟨b1, o1 + j * 2, none⟩ = some (.int .i64 (f j)) ∧ w'.cell? ⟨b1, o1 + j * 2 + 1, none⟩ = some (.int .i64 (o j))) := fun w' hq => by
          refine ⟨?_, ?_, ?_, ?_⟩ <;> (rw [hq.cell (by assumption)]; assumption)
        have SK' := Lib.hid SK
        clear SK q1 q2 q3 q4
        have e1 := IntWalk.i64_in (o (j + 1) - o j) (by omega)
        have e2 := IntWalk.i64_in (24000 * (o (j + 1) - o j)) (by omega)
        have e3 := IntWalk.i64_in (f (j + 1) - f j) (by omega)
        have x0 : (0 : Int) ≤ (j : Int) + 1 := by omega
        have x1 : (j : Int) + 1 < (n : Int) := by omega
        have x2 : (j : Int) < (n : Int) := by omega
        have x3 := IntWalk.i64_in (j : Int) (by omega)
        have x4 : (0 : Int) ≤ (j : Int) := by omega
        have c5 : ∀ W, Calls Try.prog 55 #[.int .i64 (24000 * (o (j + 1) - o j)), .int .i64 (f (j + 1) - f j)] W fun e w' => e = .returned (.int .i64 (rateFn f o j)) ∧ W = w' := fun W => nearestDiv_c _ _ _ (by omega) (by omega) (by omega) (by omega)
        have C5 := Lib.hid c5
        clear c5
        go_wp2_with fail
        go_region_held3 (fun w' => w'.cell? ⟨b1, o1 + (j + 1) * 2, none⟩ = some (.int .i64 (f (j + 1))) ∧ w'.cell? ⟨b1, o1 + (j + 1) * 2 + 1, none⟩ = some (.int .i64 (o (j + 1))) ∧ w'.cell? ⟨b1, o1 + j * 2, none⟩ = some (.int .i64 (f j)) ∧ w'.cell? ⟨b1, o1 + j * 2 + 1, none⟩ = some (.int .i64 (o j))) (exact SK'.out _ (by repeat (first | with_reducible exact Ext.refl _ | with_reducible assumption | with_reducible refine Ext.alloc ?_ _ | with_reducible refine Ext.drew ?_ | (with_reducible refine Ext.setAt ?_ _ _ _ ?_; rotate_left; omega) | with_reducible refine Ext.trans ?_ (by assumption) | with_reducible exact Past.bel _ | with_reducible refine Ext.trans ?_ (Past.bel _)))) (first | (go_at_call 55; ((with_reducible refine (C5.out _).mono ?_); rintro e w' ⟨rfl, rfl⟩)) | (refine app1s (w0 := w) 34 2 _ _ (by rfl) (by rfl) Try.underlying34 info_i64 _ (outs (rateFn f o) j) (rateFn f o j) _ (by rfl) (by rfl) (own_ext (outs_own HO.out) (by repeat (first | with_reducible exact Ext.refl _ | with_reducible assumption | with_reducible refine Ext.alloc ?_ _ | with_reducible refine Ext.drew ?_ | (with_reducible refine Ext.setAt ?_ _ _ _ ?_; rotate_left; omega) | with_reducible refine Ext.trans ?_ (by assumption) | with_reducible exact Past.bel _ | with_reducible refine Ext.trans ?_ (Past.bel _)))) (by simp [go_sem]) (by rw [outs_len]; omega) (by repeat (first | with_reducible exact Ext.refl _ | with_reducible assumption | with_reducible refine Ext.alloc ?_ _ | with_reducible refine Ext.drew ?_ | (with_reducible refine Ext.setAt ?_ _ _ _ ?_; rotate_left; omega) | with_reducible refine Ext.trans ?_ (by assumption) | with_reducible exact Past.bel _ | with_reducible refine Ext.trans ?_ (Past.bel _))) ?_; intro v1 w1 ho1 hx1))
        all_goals (go_wp2_with fail; exact ⟨⟨j + 1, by omega, by go_num, hx1, by rw [← outs_step]; simpa [outs_len] using ho1, by omega⟩, by simp [intOf]; omega⟩)
      · obtain ⟨b, cap, rfl⟩ := own_form HO.out
        have he : rateCode n f o = 0 := by simp [rateCode, hv]
        have hl : j = n - 1 := by omega
        subst hl
        have hr : rateRes n f o = outs (rateFn f o) (n - 1) := by rw [rateRes, if_pos hv]
        have HE := Lib.hid he
        have HR := Lib.hid hr
        clear he hr
        go_wp2_with fail
        go_ret2
        exact ⟨b, cap, ret_two (by simp [HR.out, outs_len]) (congrArg _ HE.out.symm), (by repeat (first | with_reducible exact Ext.refl _ | with_reducible assumption | with_reducible refine Ext.alloc ?_ _ | with_reducible refine Ext.drew ?_ | (with_reducible refine Ext.setAt ?_ _ _ _ ?_; rotate_left; omega) | with_reducible refine Ext.trans ?_ (by assumption) | with_reducible exact Past.bel _ | with_reducible refine Ext.trans ?_ (Past.bel _))), by rw [HR.out]; exact (by simpa [outs_len] using HO.out)⟩
  · have hf : rdV n f o = false := by simpa using hv
    go_enter Try.func29, Try.ntmps29
    go_wp2_with (first | (go_at_call 20; ((with_reducible refine (validReadings_c _ _ _ _ _ _ hn (HS.out.ext (by repeat (first | with_reducible exact Ext.refl _ | with_reducible assumption | with_reducible refine Ext.alloc ?_ _ | with_reducible refine Ext.drew ?_ | (with_reducible refine Ext.setAt ?_ _ _ _ ?_; rotate_left; omega) | with_reducible refine Ext.trans ?_ (by assumption) | with_reducible exact Past.bel _ | with_reducible refine Ext.trans ?_ (Past.bel _))))).mono ?_); rintro e w' ⟨rfl, hx⟩; (first | (obtain ⟨wx, rfl⟩ := Past.again hx) | (obtain ⟨wx, rfl⟩ := Past.ofd hx) | (obtain ⟨wx, rfl⟩ := Past.of hx)))))
    go_ret2
    have he : rateCode n f o = 1 := by simp [rateCode, hf]
    have hr : rateRes n f o = [] := by rw [rateRes, hf]; rfl
    exact ⟨none, 0, ret_two (by rw [hr]; rfl) (congrArg _ he.symm), (by repeat (first | with_reducible exact Ext.refl _ | with_reducible assumption | with_reducible refine Ext.alloc ?_ _ | with_reducible refine Ext.drew ?_ | (with_reducible refine Ext.setAt ?_ _ _ _ ?_; rotate_left; omega) | with_reducible refine Ext.trans ?_ (by assumption) | with_reducible exact Past.bel _ | with_reducible refine Ext.trans ?_ (Past.bel _))), by rw [hr]; exact World.ownsRow_nil _ _ _ _⟩
set_option maxRecDepth 100000 in
set_option maxHeartbeats 2000000 in
theorem specRatesBetween_c (a : Option Addr) (n c : Nat) (f o : Nat → Int) (w : World) (hn : n ≤ 1048576) (hs : S2 w a n f o) :
    Calls Try.prog 30 #[.slice a n c] w fun e w' => ∃ b cap, e = .returned (.tuple #[.slice b (rateRes n f o).length cap, .int .i64 (rateCode n f o)]) ∧ Ext w w' ∧
      w'.ownsRow w.heap.size 2 1 (.slice b (rateRes n f o).length cap) (rateRes n f o).length ((rateRes n f o).map (Value.int .i64)) := by
  have HS := Lib.hid hs
  clear hs
  by_cases hv : rdV n f o = true
  · have HV := Lib.hid hv
    have r := rb_of hv
    have R := Lib.hid r
    have h60 := r.n60
    clear r
    obtain ⟨i0, hi, hz0, hz1, hz2⟩ := info_parts info_i64
    go_enter Try.func30, Try.ntmps30
    go_wp2_with (first | (go_at_call 48; ((with_reducible refine (l14Ok_c _ _ _ _ _ _ hn (HS.out.ext (by repeat (first | with_reducible exact Ext.refl _ | with_reducible assumption | with_reducible refine Ext.alloc ?_ _ | with_reducible refine Ext.drew ?_ | (with_reducible refine Ext.setAt ?_ _ _ _ ?_; rotate_left; omega) | with_reducible refine Ext.trans ?_ (by assumption) | with_reducible exact Past.bel _ | with_reducible refine Ext.trans ?_ (Past.bel _))))).mono ?_); rintro e w' ⟨rfl, hx⟩; (first | (obtain ⟨wx, rfl⟩ := Past.again hx) | (obtain ⟨wx, rfl⟩ := Past.ofd hx) | (obtain ⟨wx, rfl⟩ := Past.of hx)))))
    go_loopw [4, 5] (fun v i wr => ∃ j : Nat, j ≤ n ∧ i = .int .i64 ((j : Int) + 1) ∧ Ext w wr ∧ wr.ownsRow w.heap.size 2 1 v j ((outs (rateFn f o) j).map (Value.int .i64)) ∧ (0 < j → j < n)) (fun _ i _ => n + 1 - (intOf i).toNat)
    case atStart => exact ⟨0, by omega, rfl, (by repeat (first | with_reducible exact Ext.refl _ | with_reducible assumption | with_reducible refine Ext.alloc ?_ _ | with_reducible refine Ext.drew ?_ | (with_reducible refine Ext.setAt ?_ _ _ _ ?_; rotate_left; omega) | with_reducible refine Ext.trans ?_ (by assumption) | with_reducible exact Past.bel _ | with_reducible refine Ext.trans ?_ (Past.bel _))), World.ownsRow_made _ #[] 0 (Ext.size (by repeat (first | with_reducible exact Ext.refl _ | with_reducible assumption | with_reducible refine Ext.alloc ?_ _ | with_reducible refine Ext.drew ?_ | (with_reducible refine Ext.setAt ?_ _ _ _ ?_; rotate_left; omega) | with_reducible refine Ext.trans ?_ (by assumption) | with_reducible exact Past.bel _ | with_reducible refine Ext.trans ?_ (Past.bel _)))) (Nat.zero_le _) rfl, by omega⟩
    case round =>
      obtain ⟨j, hj, rfl, hbl, ho, hj2⟩ := hrel
      have HO := Lib.hid ho
      clear ho
      by_cases hlt : j + 1 < n
      · obtain ⟨b1, o1, rfl, hb1, q1, q2⟩ := HS.out.at (show j + 1 < n by omega)
        obtain ⟨_, _, hh, _, q3, q4⟩ := HS.out.at (show j < n by omega)
        obtain ⟨rfl, rfl⟩ := by simpa using hh
        have p1 := R.out.bo j (by omega)
        have p2 := R.out.bo (j + 1) (by omega)
        have p3 := R.out.bh j (by omega)
        have p4 := R.out.bh (j + 1) (by omega)
        have p5 := R.out.up j (by omega)
        have SK : ∀ w', Ext w w' → (w'.cell? ⟨b1, o1 + (j + 1) * 2, none⟩ = some (.int .i64 (f (j + 1))) ∧ w'.cell? ⟨b1, o1 + (j + 1) * 2 + 1, none⟩ = some (.int .i64 (o (j + 1))) ∧ w'.cell? ⟨b1, o1 + j * 2, none⟩ = some (.int .i64 (f j)) ∧ w'.cell? ⟨b1, o1 + j * 2 + 1, none⟩ = some (.int .i64 (o j))) := fun w' hq => by
          refine ⟨?_, ?_, ?_, ?_⟩ <;> (rw [hq.cell (by assumption)]; assumption)
        have SK' := Lib.hid SK
        clear SK q1 q2 q3 q4
        have e1 := IntWalk.i64_in (o (j + 1) - o j) (by omega)
        have e2 := IntWalk.i64_in (24000 * (o (j + 1) - o j)) (by omega)
        have e3 := IntWalk.i64_in (f (j + 1) - f j) (by omega)
        have x0 : (0 : Int) ≤ (j : Int) + 1 := by omega
        have x1 : (j : Int) + 1 < (n : Int) := by omega
        have x2 : (j : Int) < (n : Int) := by omega
        have x3 := IntWalk.i64_in (j : Int) (by omega)
        have x4 : (0 : Int) ≤ (j : Int) := by omega
        have c5 : ∀ W, Calls Try.prog 58 #[.int .i64 (24000 * (o (j + 1) - o j)), .int .i64 (f (j + 1) - f j)] W fun e w' => e = .returned (.int .i64 (rateFn f o j)) ∧ W = w' := fun W => l02Near_c _ _ _ (by omega) (by omega) (by omega) (by omega)
        have C5 := Lib.hid c5
        clear c5
        go_wp2_with fail
        go_region_held3 (fun w' => w'.cell? ⟨b1, o1 + (j + 1) * 2, none⟩ = some (.int .i64 (f (j + 1))) ∧ w'.cell? ⟨b1, o1 + (j + 1) * 2 + 1, none⟩ = some (.int .i64 (o (j + 1))) ∧ w'.cell? ⟨b1, o1 + j * 2, none⟩ = some (.int .i64 (f j)) ∧ w'.cell? ⟨b1, o1 + j * 2 + 1, none⟩ = some (.int .i64 (o j))) (exact SK'.out _ (by repeat (first | with_reducible exact Ext.refl _ | with_reducible assumption | with_reducible refine Ext.alloc ?_ _ | with_reducible refine Ext.drew ?_ | (with_reducible refine Ext.setAt ?_ _ _ _ ?_; rotate_left; omega) | with_reducible refine Ext.trans ?_ (by assumption) | with_reducible exact Past.bel _ | with_reducible refine Ext.trans ?_ (Past.bel _)))) (first | (go_at_call 58; ((with_reducible refine (C5.out _).mono ?_); rintro e w' ⟨rfl, rfl⟩)) | (refine app1s (w0 := w) 34 2 _ _ (by rfl) (by rfl) Try.underlying34 info_i64 _ (outs (rateFn f o) j) (rateFn f o j) _ (by rfl) (by rfl) (own_ext (outs_own HO.out) (by repeat (first | with_reducible exact Ext.refl _ | with_reducible assumption | with_reducible refine Ext.alloc ?_ _ | with_reducible refine Ext.drew ?_ | (with_reducible refine Ext.setAt ?_ _ _ _ ?_; rotate_left; omega) | with_reducible refine Ext.trans ?_ (by assumption) | with_reducible exact Past.bel _ | with_reducible refine Ext.trans ?_ (Past.bel _)))) (by simp [go_sem]) (by rw [outs_len]; omega) (by repeat (first | with_reducible exact Ext.refl _ | with_reducible assumption | with_reducible refine Ext.alloc ?_ _ | with_reducible refine Ext.drew ?_ | (with_reducible refine Ext.setAt ?_ _ _ _ ?_; rotate_left; omega) | with_reducible refine Ext.trans ?_ (by assumption) | with_reducible exact Past.bel _ | with_reducible refine Ext.trans ?_ (Past.bel _))) ?_; intro v1 w1 ho1 hx1))
        all_goals (go_wp2_with fail; exact ⟨⟨j + 1, by omega, by go_num, hx1, by rw [← outs_step]; simpa [outs_len] using ho1, by omega⟩, by simp [intOf]; omega⟩)
      · obtain ⟨b, cap, rfl⟩ := own_form HO.out
        have he : rateCode n f o = 0 := by simp [rateCode, hv]
        have hl : j = n - 1 := by omega
        subst hl
        have hr : rateRes n f o = outs (rateFn f o) (n - 1) := by rw [rateRes, if_pos hv]
        have HE := Lib.hid he
        have HR := Lib.hid hr
        clear he hr
        go_wp2_with fail
        go_ret2
        exact ⟨b, cap, ret_two (by simp [HR.out, outs_len]) (congrArg _ HE.out.symm), (by repeat (first | with_reducible exact Ext.refl _ | with_reducible assumption | with_reducible refine Ext.alloc ?_ _ | with_reducible refine Ext.drew ?_ | (with_reducible refine Ext.setAt ?_ _ _ _ ?_; rotate_left; omega) | with_reducible refine Ext.trans ?_ (by assumption) | with_reducible exact Past.bel _ | with_reducible refine Ext.trans ?_ (Past.bel _))), by rw [HR.out]; exact (by simpa [outs_len] using HO.out)⟩
  · have hf : rdV n f o = false := by simpa using hv
    go_enter Try.func30, Try.ntmps30
    go_wp2_with (first | (go_at_call 48; ((with_reducible refine (l14Ok_c _ _ _ _ _ _ hn (HS.out.ext (by repeat (first | with_reducible exact Ext.refl _ | with_reducible assumption | with_reducible refine Ext.alloc ?_ _ | with_reducible refine Ext.drew ?_ | (with_reducible refine Ext.setAt ?_ _ _ _ ?_; rotate_left; omega) | with_reducible refine Ext.trans ?_ (by assumption) | with_reducible exact Past.bel _ | with_reducible refine Ext.trans ?_ (Past.bel _))))).mono ?_); rintro e w' ⟨rfl, hx⟩; (first | (obtain ⟨wx, rfl⟩ := Past.again hx) | (obtain ⟨wx, rfl⟩ := Past.ofd hx) | (obtain ⟨wx, rfl⟩ := Past.of hx)))))
    go_ret2
    have he : rateCode n f o = 1 := by simp [rateCode, hf]
    have hr : rateRes n f o = [] := by rw [rateRes, hf]; rfl
    exact ⟨none, 0, ret_two (by rw [hr]; rfl) (congrArg _ he.symm), (by repeat (first | with_reducible exact Ext.refl _ | with_reducible assumption | with_reducible refine Ext.alloc ?_ _ | with_reducible refine Ext.drew ?_ | (with_reducible refine Ext.setAt ?_ _ _ _ ?_; rotate_left; omega) | with_reducible refine Ext.trans ?_ (by assumption) | with_reducible exact Past.bel _ | with_reducible refine Ext.trans ?_ (Past.bel _))), by rw [hr]; exact World.ownsRow_nil _ _ _ _⟩
end Go.Proofs.Ytmbpjlgeneemjaa

namespace Go.Proofs.Ytmbpjlgeneemjaa
set_option linter.unusedVariables false
theorem sm_nn {f : Nat → Int} {k : Nat} (hf : ∀ j, j < k → 0 ≤ f j) : 0 ≤ sm f k := by
  induction k with
  | zero => simp [sm]
  | succ k ih =>
    have h1 := ih (fun j hj => hf j (by omega))
    have h2 := hf k (by omega)
    simp only [sm]; omega
theorem sm_dev (h : Nat → Int) (x : Int) (k : Nat) : sm (fun i => (h i - x) * (h i - x)) k = sXX h k - 2 * (sm h k * x) + (k : Int) * (x * x) := by
  induction k with
  | zero => simp [sm, sXX]
  | succ k ih =>
    have h1 : (h k - x) * (h k - x) = h k * h k - 2 * (h k * x) + x * x := by
      rw [Int.sub_mul, Int.mul_sub, Int.mul_sub, Int.mul_comm x (h k)]; omega
    have h2 : (sm h k + h k) * x = sm h k * x + h k * x := Int.add_mul _ _ _
    have h3 : ((k + 1 : Nat) : Int) * (x * x) = (k : Int) * (x * x) + x * x := by rw [Int.natCast_add, Int.add_mul]; simp
    have h4 : sXX h (k + 1) = sXX h k + h k * h k := rfl
    simp only [sm]
    rw [ih, h1, h2, h3, h4]
    omega
theorem sm_cs (h : Nat → Int) (k : Nat) : sm h k * sm h k ≤ (k : Int) * sXX h k := by
  induction k with
  | zero => simp [sm]
  | succ k ih =>
    have h1 := sm_dev h (h k) k
    have h2 : 0 ≤ sm (fun i => (h i - h k) * (h i - h k)) k := sm_nn fun j _ => sqr_nn _
    have h3 : (sm h k + h k) * (sm h k + h k) = sm h k * sm h k + 2 * (sm h k * h k) + h k * h k := by
      rw [Int.add_mul, Int.mul_add, Int.mul_add, Int.mul_comm (h k) (sm h k)]; omega
    have h4 : ((k + 1 : Nat) : Int) * (sXX h k + h k * h k) = (k : Int) * sXX h k + (k : Int) * (h k * h k) + sXX h k + h k * h k := by
      rw [Int.natCast_add, Int.add_mul, Int.mul_add]; simp; omega
    have h5 : sXX h (k + 1) = sXX h k + h k * h k := rfl
    simp only [sm]
    rw [h5, h3, h4]
    omega
theorem vF_of {n : Nat} {h o : Nat → Int} (r : RB n h o) : vF n (sm h n) (sm o n) (sXX h n) (sXY h o n) = true := by
  have h60 := r.n60
  have a1 := sm_bd (f := h) (A := 0) (B := 10000) (k := n) r.bh
  have a2 := sm_bd (f := o) (A := -100000) (B := 100000) (k := n) r.bo
  have a3 := sm_bd (f := fun i => h i * h i) (A := 0) (B := 100000000) (k := n) fun j hj => by
    have := r.bh j hj
    exact ⟨sqr_nn _, by have := mul_bd (A := 10000) (B := 10000) (by omega) (r.bh j hj).2 (by omega) (r.bh j hj).2; omega⟩
  have a4 := sm_bd (f := fun i => h i * o i) (A := -1000000000) (B := 1000000000) (k := n) fun j hj => by
    have b1 := r.bh j hj
    have b2 := r.bo j hj
    have := mul_bd (A := 10000) (B := 100000) (by omega) b1.2 (by omega) b2.2
    omega
  have a5 := sm_cs h n
  have e1 : sm (fun i => h i * h i) n = sXX h n := rfl
  have e2 : sm (fun i => h i * o i) n = sXY h o n := rfl
  rw [e1] at a3
  rw [e2] at a4
  simp only [vF, Bool.and_eq_true, inB_t, decide_eq_true_eq]
  refine ⟨⟨⟨⟨⟨?_, ?_⟩, ?_⟩, ?_⟩, ?_⟩, a5⟩ <;> omega
/-- the code of residuals -/
def resCode (n : Nat) (h o : Nat → Int) : Int := if rdV n h o then (if slD n (sm h n) (sm o n) (sXX h n) (sXY h o n) = 0 then 6 else 0) else 1
def lineAt (n : Nat) (h o : Nat → Int) (j : Nat) : Int := offV n (sm h n) (sm o n) (sXX h n) (sXY h o n) (h j)
theorem resCode_f {n : Nat} {h o : Nat → Int} (hv : rdV n h o = true) : codeF n (sm h n) (sm o n) (sXX h n) (sXY h o n) = resCode n h o := by
  rw [codeF, if_pos (vF_of (rb_of hv)), resCode, if_pos hv]
end Go.Proofs.Ytmbpjlgeneemjaa

namespace Go.Proofs.Ytmbpjlgeneemjaa
open Go.RowKit
set_option linter.unusedVariables false
set_option linter.unusedSimpArgs false

def resFn (n : Nat) (h o : Nat → Int) (j : Nat) : Int := IntKind.i64.wrap (o j - lineAt n h o j)
def resRes (n : Nat) (h o : Nat → Int) : List Int := if resCode n h o = 0 then outs (resFn n h o) n else []
theorem resRes_len (n : Nat) (h o : Nat → Int) : (resRes n h o).length ≤ n := by
  unfold resRes; split
  · rw [outs_len]; omega
  · simp
set_option maxRecDepth 100000 in
set_option maxHeartbeats 2000000 in
theorem specResidualsOf_c (a : Option Addr) (n c : Nat) (f o : Nat → Int) (w : World) (hn : n ≤ 1048576) (hs : S2 w a n f o) :
    Calls Try.prog 28 #[.slice a n c] w fun e w' => ∃ b cap, e = .returned (.tuple #[.slice b (resRes n f o).length cap, .int .i64 (resCode n f o)]) ∧ Ext w w' ∧
      w'.ownsRow w.heap.size 2 1 (.slice b (resRes n f o).length cap) (resRes n f o).length ((resRes n f o).map (Value.int .i64)) := by
  have HS := Lib.hid hs
  clear hs
  by_cases hv : rdV n f o = true
  · have HV := Lib.hid hv
    have r := rb_of hv
    have R := Lib.hid r
    have h60 := r.n60
    clear r
    obtain ⟨i0, hi, hz0, hz1, hz2⟩ := info_parts info_i64
    obtain ⟨X, hX⟩ : ∃ X, X = sm f n := ⟨_, rfl⟩
    obtain ⟨Y, hY⟩ : ∃ Y, Y = sm o n := ⟨_, rfl⟩
    obtain ⟨XX, hXX⟩ : ∃ XX, XX = sXX f n := ⟨_, rfl⟩
    obtain ⟨XY, hXY⟩ : ∃ XY, XY = sXY f o n := ⟨_, rfl⟩
    obtain ⟨C, hC⟩ : ∃ C, C = resCode n f o := ⟨_, rfl⟩
    have hf : ∀ W, S2 W a n f o → Calls Try.prog 52 #[.slice a n c] W fun e w' => e = .returned (.agg #[.int .i64 n, .int .i64 X, .int .i64 Y, .int .i64 XX, .int .i64 XY]) ∧ Ext W w' := fun W hs => by
      rw [hX, hY, hXX, hXY]; exact l14Fit_c _ _ _ _ _ W hv hs
    have HF := Lib.hid hf
    have hcd : ∀ W, Calls Try.prog 56 #[.agg #[.int .i64 n, .int .i64 X, .int .i64 Y, .int .i64 XX, .int .i64 XY]] W fun e w' => e = .returned (.int .i64 C) ∧ Ext W w' := fun W => by
      rw [hX, hY, hXX, hXY, hC, ← resCode_f hv]; exact l14Code_c _ _ _ _ _ W
    have HCD := Lib.hid hcd
    have hat : C = 0 → ∀ j, j < n → ∀ W, Calls Try.prog 57 #[.agg #[.int .i64 n, .int .i64 X, .int .i64 Y, .int .i64 XX, .int .i64 XY], .int .i64 (f j)] W fun e w' => e = .returned (.int .i64 (lineAt n f o j)) ∧ Ext W w' := fun h0 j hj W => by
      rw [hX, hY, hXX, hXY]; exact l14At_c _ _ _ _ _ _ (by rw [resCode_f hv, ← hC]; exact h0) (R.out.bh j hj).1 (R.out.bh j hj).2 W
    have HAT := Lib.hid hat
    have HC := Lib.hid hC
    clear hf hcd hat hX hY hXX hXY hC
    by_cases hc0 : C = 0
    · have hHAT := HAT.out hc0
      have HAT' := Lib.hid hHAT
      subst hc0
      clear HAT hHAT
      go_enter Try.func28, Try.ntmps28
      go_upto_region 4 with (first | (go_at_call 48; ((with_reducible refine (l14Ok_c _ _ _ _ _ _ hn (HS.out.ext (by repeat (first | with_reducible exact Ext.refl _ | with_reducible assumption | with_reducible refine Ext.alloc ?_ _ | with_reducible refine Ext.drew ?_ | (with_reducible refine Ext.setAt ?_ _ _ _ ?_; rotate_left; omega) | with_reducible refine Ext.trans ?_ (by assumption) | with_reducible exact Past.bel _ | with_reducible refine Ext.trans ?_ (Past.bel _))))).mono ?_); rintro e w' ⟨rfl, hx⟩; (first | (obtain ⟨wx, rfl⟩ := Past.again hx) | (obtain ⟨wx, rfl⟩ := Past.ofd hx) | (obtain ⟨wx, rfl⟩ := Past.of hx)))) | (go_at_call 52; ((with_reducible refine (HF.out _ (HS.out.ext (by repeat (first | with_reducible exact Ext.refl _ | with_reducible assumption | with_reducible refine Ext.alloc ?_ _ | with_reducible refine Ext.drew ?_ | (with_reducible refine Ext.setAt ?_ _ _ _ ?_; rotate_left; omega) | with_reducible refine Ext.trans ?_ (by assumption) | with_reducible exact Past.bel _ | with_reducible refine Ext.trans ?_ (Past.bel _))))).mono ?_); rintro e w' ⟨rfl, hx⟩; (first | (obtain ⟨wx, rfl⟩ := Past.again hx) | (obtain ⟨wx, rfl⟩ := Past.ofd hx) | (obtain ⟨wx, rfl⟩ := Past.of hx)))))
      go_cut [4, 14] (fun s4 s14 wx => ∃ g : Nat, s4 = .pointer (some ⟨g, 0, none⟩) ∧ s14 = .bool false ∧ Ext w wx ∧ g < wx.heap.size ∧ wx.cell? ⟨g, 0, none⟩ = some (.int .i64 n) ∧ wx.cell? ⟨g, 1, none⟩ = some (.int .i64 X) ∧ wx.cell? ⟨g, 2, none⟩ = some (.int .i64 Y) ∧ wx.cell? ⟨g, 3, none⟩ = some (.int .i64 XX) ∧ wx.cell? ⟨g, 4, none⟩ = some (.int .i64 XY))
      case first =>
        go_wp2_with (go_at_call 56; ((with_reducible refine (HCD.out _).mono ?_); rintro e w' ⟨rfl, hx⟩; (first | (obtain ⟨wx, rfl⟩ := Past.again hx) | (obtain ⟨wx, rfl⟩ := Past.ofd hx) | (obtain ⟨wx, rfl⟩ := Past.of hx)); have hz := Past.size wx; (try simp only [World.size_alloc, World.size_drew] at hz)))
        go_meet
        exact ⟨_, rfl, by simp, (by repeat (first | with_reducible exact Ext.refl _ | with_reducible assumption | with_reducible refine Ext.alloc ?_ _ | with_reducible refine Ext.drew ?_ | (with_reducible refine Ext.setAt ?_ _ _ _ ?_; rotate_left; omega) | with_reducible refine Ext.trans ?_ (by assumption) | with_reducible exact Past.bel _ | with_reducible refine Ext.trans ?_ (Past.bel _))), by (try simp); omega, by simp [go_sem]⟩
      case rest =>
        obtain ⟨g, rfl, rfl, hx0, hg, k0, k1, k2, k3, k4⟩ := hcut
        obtain ⟨v1, rfl⟩ : ∃ v1 : World, v1 = wc := ⟨_, rfl⟩
        have hsv := HS.out.ext hx0
        have HV1 := Lib.hid hsv
        clear hsv
        have FK : ∀ w', Ext v1 w' → (w'.cell? ⟨g, 0, none⟩ = some (.int .i64 n) ∧ w'.cell? ⟨g, 1, none⟩ = some (.int .i64 X) ∧ w'.cell? ⟨g, 2, none⟩ = some (.int .i64 Y) ∧ w'.cell? ⟨g, 3, none⟩ = some (.int .i64 XX) ∧ w'.cell? ⟨g, 4, none⟩ = some (.int .i64 XY)) := fun w' hq => by
          refine ⟨?_, ?_, ?_, ?_, ?_⟩ <;> (rw [hq.cell (by assumption)]; assumption)
        have FK' := Lib.hid FK
        clear FK k0 k1 k2 k3 k4
        go_wp2_with fail
        go_loopw [5, 6] (fun v i wr => ∃ j : Nat, j ≤ n ∧ i = .int .i64 (j : Int) ∧ Ext v1 wr ∧ wr.ownsRow v1.heap.size 2 1 v j ((outs (resFn n f o) j).map (Value.int .i64))) (fun _ i _ => n - (intOf i).toNat)
        case atStart => exact ⟨0, by omega, rfl, (by repeat (first | with_reducible exact Ext.refl _ | with_reducible assumption | with_reducible refine Ext.alloc ?_ _ | with_reducible refine Ext.drew ?_ | (with_reducible refine Ext.setAt ?_ _ _ _ ?_; rotate_left; omega) | with_reducible refine Ext.trans ?_ (by assumption) | with_reducible exact Past.bel _ | with_reducible refine Ext.trans ?_ (Past.bel _))), World.ownsRow_made _ #[] 0 (Ext.size (by repeat (first | with_reducible exact Ext.refl _ | with_reducible assumption | with_reducible refine Ext.alloc ?_ _ | with_reducible refine Ext.drew ?_ | (with_reducible refine Ext.setAt ?_ _ _ _ ?_; rotate_left; omega) | with_reducible refine Ext.trans ?_ (by assumption) | with_reducible exact Past.bel _ | with_reducible refine Ext.trans ?_ (Past.bel _)))) (Nat.zero_le _) rfl⟩
        case round =>
          obtain ⟨j, hj, rfl, hbl, ho⟩ := hrel
          have HO := Lib.hid ho
          clear ho
          by_cases hlt : j < n
          · obtain ⟨b1, o1, rfl, hb1, q3, q4⟩ := HV1.out.at hlt
            have SK : ∀ w', Ext v1 w' → (w'.cell? ⟨g, 0, none⟩ = some (.int .i64 n) ∧ w'.cell? ⟨g, 1, none⟩ = some (.int .i64 X) ∧ w'.cell? ⟨g, 2, none⟩ = some (.int .i64 Y) ∧ w'.cell? ⟨g, 3, none⟩ = some (.int .i64 XX) ∧ w'.cell? ⟨g, 4, none⟩ = some (.int .i64 XY) ∧ w'.cell? ⟨b1, o1 + j * 2, none⟩ = some (.int .i64 (f j)) ∧ w'.cell? ⟨b1, o1 + j * 2 + 1, none⟩ = some (.int .i64 (o j))) := fun w' hq => by
              obtain ⟨k0, k1, k2, k3, k4⟩ := FK'.out _ hq
              refine ⟨k0, k1, k2, k3, k4, ?_, ?_⟩ <;> (rw [hq.cell (by assumption)]; assumption)
            have SK' := Lib.hid SK
            clear SK q3 q4
            have e1 : IntKind.i64.wrap (o j - lineAt n f o j) = resFn n f o j := rfl
            have x2 : (j : Int) < (n : Int) := by omega
            have x4 : (0 : Int) ≤ (j : Int) := by omega
            have c5 := HAT'.out j hlt
            have C5 := Lib.hid c5
            clear c5
            go_wp2_with fail
            go_region_held3 (fun w' => w'.cell? ⟨g, 0, none⟩ = some (.int .i64 n) ∧ w'.cell? ⟨g, 1, none⟩ = some (.int .i64 X) ∧ w'.cell? ⟨g, 2, none⟩ = some (.int .i64 Y) ∧ w'.cell? ⟨g, 3, none⟩ = some (.int .i64 XX) ∧ w'.cell? ⟨g, 4, none⟩ = some (.int .i64 XY) ∧ w'.cell? ⟨b1, o1 + j * 2, none⟩ = some (.int .i64 (f j)) ∧ w'.cell? ⟨b1, o1 + j * 2 + 1, none⟩ = some (.int .i64 (o j))) (exact SK'.out _ (by repeat (first | with_reducible exact Ext.refl _ | with_reducible assumption | with_reducible refine Ext.alloc ?_ _ | with_reducible refine Ext.drew ?_ | (with_reducible refine Ext.setAt ?_ _ _ _ ?_; rotate_left; omega) | with_reducible refine Ext.trans ?_ (by assumption) | with_reducible exact Past.bel _ | with_reducible refine Ext.trans ?_ (Past.bel _)))) (first | (go_at_call 57; ((with_reducible refine (C5.out _).mono ?_); rintro e w' ⟨rfl, hx⟩; (first | (obtain ⟨wx, rfl⟩ := Past.again hx) | (obtain ⟨wx, rfl⟩ := Past.ofd hx) | (obtain ⟨wx, rfl⟩ := Past.of hx)); have hz := Past.size wx; (try simp only [World.size_alloc, World.size_drew] at hz))) | (refine app1s (w0 := v1) 34 2 _ _ (by rfl) (by rfl) Try.underlying34 info_i64 _ (outs (resFn n f o) j) (resFn n f o j) _ (by rfl) (by rfl) (own_ext (outs_own HO.out) (by repeat (first | with_reducible exact Ext.refl _ | with_reducible assumption | with_reducible refine Ext.alloc ?_ _ | with_reducible refine Ext.drew ?_ | (with_reducible refine Ext.setAt ?_ _ _ _ ?_; rotate_left; omega) | with_reducible refine Ext.trans ?_ (by assumption) | with_reducible exact Past.bel _ | with_reducible refine Ext.trans ?_ (Past.bel _)))) (by simp [go_sem]) (by rw [outs_len]; omega) (by repeat (first | with_reducible exact Ext.refl _ | with_reducible assumption | with_reducible refine Ext.alloc ?_ _ | with_reducible refine Ext.drew ?_ | (with_reducible refine Ext.setAt ?_ _ _ _ ?_; rotate_left; omega) | with_reducible refine Ext.trans ?_ (by assumption) | with_reducible exact Past.bel _ | with_reducible refine Ext.trans ?_ (Past.bel _))) ?_; intro v2 w2 ho2 hx2))
            all_goals (go_wp2_with fail; exact ⟨⟨j + 1, by omega, by go_num, hx2, by rw [← outs_step]; simpa [outs_len] using ho2⟩, by simp [intOf]; omega⟩)
          · obtain ⟨b, cap, rfl⟩ := own_form HO.out
            have he : resCode n f o = 0 := HC.out.symm
            have hl : j = n := by omega
            subst hl
            have hr : resRes j f o = outs (resFn j f o) j := by rw [resRes, if_pos he]
            have HE := Lib.hid he
            have HR := Lib.hid hr
            clear he hr
            go_wp2_with fail
            go_ret2
            exact ⟨b, cap, ret_two (by simp [HR.out, outs_len]) (congrArg _ HE.out.symm), (by repeat (first | with_reducible exact Ext.refl _ | with_reducible assumption | with_reducible refine Ext.alloc ?_ _ | with_reducible refine Ext.drew ?_ | (with_reducible refine Ext.setAt ?_ _ _ _ ?_; rotate_left; omega) | with_reducible refine Ext.trans ?_ (by assumption) | with_reducible exact Past.bel _ | with_reducible refine Ext.trans ?_ (Past.bel _))), by rw [HR.out]; exact own_base (by simpa [outs_len] using HO.out) hx0.size⟩
    · go_enter Try.func28, Try.ntmps28
      go_wp2_with (first | (go_at_call 48; ((with_reducible refine (l14Ok_c _ _ _ _ _ _ hn (HS.out.ext (by repeat (first | with_reducible exact Ext.refl _ | with_reducible assumption | with_reducible refine Ext.alloc ?_ _ | with_reducible refine Ext.drew ?_ | (with_reducible refine Ext.setAt ?_ _ _ _ ?_; rotate_left; omega) | with_reducible refine Ext.trans ?_ (by assumption) | with_reducible exact Past.bel _ | with_reducible refine Ext.trans ?_ (Past.bel _))))).mono ?_); rintro e w' ⟨rfl, hx⟩; (first | (obtain ⟨wx, rfl⟩ := Past.again hx) | (obtain ⟨wx, rfl⟩ := Past.ofd hx) | (obtain ⟨wx, rfl⟩ := Past.of hx)))) | (go_at_call 52; ((with_reducible refine (HF.out _ (HS.out.ext (by repeat (first | with_reducible exact Ext.refl _ | with_reducible assumption | with_reducible refine Ext.alloc ?_ _ | with_reducible refine Ext.drew ?_ | (with_reducible refine Ext.setAt ?_ _ _ _ ?_; rotate_left; omega) | with_reducible refine Ext.trans ?_ (by assumption) | with_reducible exact Past.bel _ | with_reducible refine Ext.trans ?_ (Past.bel _))))).mono ?_); rintro e w' ⟨rfl, hx⟩; (first | (obtain ⟨wx, rfl⟩ := Past.again hx) | (obtain ⟨wx, rfl⟩ := Past.ofd hx) | (obtain ⟨wx, rfl⟩ := Past.of hx)))) | (go_at_call 56; ((with_reducible refine (HCD.out _).mono ?_); rintro e w' ⟨rfl, hx⟩; (first | (obtain ⟨wx, rfl⟩ := Past.again hx) | (obtain ⟨wx, rfl⟩ := Past.ofd hx) | (obtain ⟨wx, rfl⟩ := Past.of hx)))))
      go_ret2
      have h1 : resCode n f o ≠ 0 := by rw [← HC.out]; exact hc0
      have he : resCode n f o = 6 := by
        unfold resCode at h1 ⊢
        rw [if_pos hv] at h1 ⊢
        split at h1 <;> simp_all
      have hr : resRes n f o = [] := by rw [resRes, if_neg h1]
      exact ⟨none, 0, ret_two (by rw [hr]; rfl) (congrArg _ he.symm), (by repeat (first | with_reducible exact Ext.refl _ | with_reducible assumption | with_reducible refine Ext.alloc ?_ _ | with_reducible refine Ext.drew ?_ | (with_reducible refine Ext.setAt ?_ _ _ _ ?_; rotate_left; omega) | with_reducible refine Ext.trans ?_ (by assumption) | with_reducible exact Past.bel _ | with_reducible refine Ext.trans ?_ (Past.bel _))), by rw [hr]; exact World.ownsRow_nil _ _ _ _⟩
  · have hf : rdV n f o = false := by simpa using hv
    go_enter Try.func28, Try.ntmps28
    go_wp2_with (first | (go_at_call 48; ((with_reducible refine (l14Ok_c _ _ _ _ _ _ hn (HS.out.ext (by repeat (first | with_reducible exact Ext.refl _ | with_reducible assumption | with_reducible refine Ext.alloc ?_ _ | with_reducible refine Ext.drew ?_ | (with_reducible refine Ext.setAt ?_ _ _ _ ?_; rotate_left; omega) | with_reducible refine Ext.trans ?_ (by assumption) | with_reducible exact Past.bel _ | with_reducible refine Ext.trans ?_ (Past.bel _))))).mono ?_); rintro e w' ⟨rfl, hx⟩; (first | (obtain ⟨wx, rfl⟩ := Past.again hx) | (obtain ⟨wx, rfl⟩ := Past.ofd hx) | (obtain ⟨wx, rfl⟩ := Past.of hx)))))
    go_ret2
    have he : resCode n f o = 1 := by simp [resCode, hf]
    have hr : resRes n f o = [] := by rw [resRes, he]; rfl
    exact ⟨none, 0, ret_two (by rw [hr]; rfl) (congrArg _ he.symm), (by repeat (first | with_reducible exact Ext.refl _ | with_reducible assumption | with_reducible refine Ext.alloc ?_ _ | with_reducible refine Ext.drew ?_ | (with_reducible refine Ext.setAt ?_ _ _ _ ?_; rotate_left; omega) | with_reducible refine Ext.trans ?_ (by assumption) | with_reducible exact Past.bel _ | with_reducible refine Ext.trans ?_ (Past.bel _))), by rw [hr]; exact World.ownsRow_nil _ _ _ _⟩
end Go.Proofs.Ytmbpjlgeneemjaa
