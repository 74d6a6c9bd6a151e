/- Draws: pick, one, among. Lists of pairs that a draw makes beside its source. The draw of readings. The draws of the laws on readings: lists. Sorting: the reference's sort by insertion. The best change of a mean: the program's way and the reference's way. The best change of a mean: the program's BestChange. The best change of a mean: the reference's BestChange; the law. The library's contracts at this seat, as the kit's tool has written them. -/
import Derived.Test.YtmbpjlgeneemjaaBc
import Derived.Test.YtmbpjlgeneemjaaBa
import Derived.Test.YtmbpjlgeneemjaaBb
import Derived.Shelf.Small.Bits
import Derived.Shelf.Strconv.Itoa0
import Derived.Ground.SlgnProg
import Derived.Shelf.SlicesG.SearchI
import Derived.Ground.SlgmProg
import Derived.Shelf.SortM.Plain
import Derived.Shelf.SortM.SortNone
import Derived.Test.YtmbpjlgeneemjaaProg

namespace Go.Proofs.Ytmbpjlgeneemjaa
open Go.RowKit
set_option linter.unusedVariables false
set_option linter.unusedSimpArgs false

theorem grown_refl (w : World) (row : Option Nat) : w.grownBy w row := ⟨rfl, rfl, rfl, Nat.le_refl _, fun _ _ _ => rfl⟩
theorem Src.le {w : World} {g : Nat} {a : Option Addr} {n c : Nat} {f : Nat → Nat} {K L : Nat} (h : Src w g a n c f K) (hl : K ≤ L) : Src w g a n c f L := by
  obtain ⟨⟨i, hh, hb, hi⟩, hs, hne, hlo⟩ := h
  exact ⟨⟨i, hh, hb, by omega⟩, hs, hne, hlo⟩
set_option maxHeartbeats 1000000 in
theorem pick_c (g : Nat) (a : Option Addr) (n c : Nat) (f : Nat → Nat) (K : Nat) (m : Int) (w : World) (hn : n ≤ 1048576) (hK : K ≤ 999999) (hd : Src w g a n c f K) :
    Calls Try.prog 60 #[.pointer (some ⟨g, 0, none⟩), .int .i64 m] w fun e w' => ∃ x : Int, e = .returned (.int .i64 x) ∧ 0 ≤ x ∧ (x = 0 ∨ x < m) ∧ x ≤ 65535 ∧ Src w' g a n c f (K + 2) ∧ w.grownBy w' (some g) := by
  by_cases h1 : m ≤ 1
  · go_enter Try.func60, Try.ntmps60
    go_wp2
    go_ret
    exact ⟨0, rfl, by omega, .inl rfl, by omega, hd.le (by omega), grown_refl _ _⟩
  · by_cases h2 : 200 < m
    · go_enter Try.func60, Try.ntmps60
      go_wp2_with fail
      refine (next_c g a n c f K _ hn (by omega) hd).mono ?_
      rintro e w1 ⟨x, rfl, x0, x1, hs1, hg1⟩
      have e1 := IntWalk.i64_in (x * 256) (by omega)
      go_wp2_with fail
      refine (next_c g a n c f (K + 1) _ hn (by omega) hs1).mono ?_
      rintro e w2 ⟨y, rfl, y0, y1, hs2, hg2⟩
      have e2 := IntWalk.i64_in (x * 256 + y) (by omega)
      have e3 : wrap64 (x * 256) = x * 256 := IntWalk.wrap64_in _ (by omega)
      have e4 : wrap64 (x * 256 + y) = x * 256 + y := IntWalk.wrap64_in _ (by omega)
      go_wp2_with fail
      go_ret
      refine ⟨(x * 256 + y) % m, ?_, Int.emod_nonneg _ (by omega), .inr (Int.emod_lt_of_pos _ (by omega)), ?_, hs2, grown_trans hg1 hg2⟩
      · simp [go_sem]
      · have q1 := Int.mul_ediv_add_emod (x * 256 + y) m; have q2 := Int.mul_nonneg (show 0 ≤ m by omega) (Int.ediv_nonneg (show 0 ≤ x * 256 + y by omega) (show 0 ≤ m by omega)); omega
    · go_enter Try.func60, Try.ntmps60
      go_wp2_with fail
      refine (next_c g a n c f K _ hn (by omega) hd).mono ?_
      rintro e w1 ⟨x, rfl, x0, x1, hs1, hg1⟩
      go_wp2_with fail
      go_ret
      exact ⟨x % m, by simp [go_sem], Int.emod_nonneg _ (by omega), .inr (Int.emod_lt_of_pos _ (by omega)), by have := Int.emod_lt_of_pos x (show 0 < m by omega); omega, hs1.le (by omega), hg1⟩
theorem one_c (g : Nat) (a : Option Addr) (n c : Nat) (f : Nat → Nat) (K : Nat) (m : Int) (w : World) (hn : n ≤ 1048576) (hK : K ≤ 999999) (hd : Src w g a n c f K) :
    Calls Try.prog 61 #[.pointer (some ⟨g, 0, none⟩), .int .i64 m] w fun e w' => ∃ b : Bool, e = .returned (.bool b) ∧ Src w' g a n c f (K + 2) ∧ w.grownBy w' (some g) := by
  go_enter Try.func61, Try.ntmps61
  go_wp2_with fail
  refine (pick_c g a n c f K m _ hn hK hd).mono ?_
  rintro e w1 ⟨x, rfl, x0, x1, x2, hs1, hg1⟩
  go_wp2_with fail
  go_ret
  exact ⟨_, rfl, hs1, hg1⟩
theorem among_c (g : Nat) (a : Option Addr) (n c : Nat) (f : Nat → Nat) (K : Nat) (la : Option Addr) (ln lc : Nat) (z : Nat → Int) (w : World) (hn : n ≤ 1048576) (hK : K ≤ 999999) (hd : Src w g a n c f K) (hl : 1 ≤ ln) (hl2 : ln ≤ 1048576) (hs : S1 w la ln z) (hne : ∀ ad, la = some ad → ad.block ≠ g) :
    Calls Try.prog 62 #[.pointer (some ⟨g, 0, none⟩), .slice la ln lc] w fun e w' => ∃ j : Nat, e = .returned (.int .i64 (z j)) ∧ j < ln ∧ Src w' g a n c f (K + 2) ∧ w.grownBy w' (some g) := by
  go_enter Try.func62, Try.ntmps62
  go_wp2_with fail
  refine (pick_c g a n c f K ln _ hn hK hd).mono ?_
  rintro e w1 ⟨x, rfl, x0, x1, x2, hs1, hg1⟩
  obtain ⟨j, rfl⟩ := Int.eq_ofNat_of_zero_le x0
  have hj : j < ln := by omega
  obtain ⟨b, off, rfl, hb, hc⟩ := (hs.but hg1 (fun ad e => by have := hne ad e; simpa using this)).at hj
  have y0 : (0 : Int) ≤ (j : Int) := by omega
  have y1 : (j : Int) < (ln : Int) := by omega
  go_wp2_with fail
  go_ret
  exact ⟨j, by simp [go_sem], hj, hs1, hg1⟩
end Go.Proofs.Ytmbpjlgeneemjaa

namespace Go.Proofs.Ytmbpjlgeneemjaa
open Go.RowKit
set_option linter.unusedVariables false
set_option linter.unusedSimpArgs false

/-- the cells of pairs -/
def PR (l : List (Int × Int)) : List Value := l.flatMap fun p => [.int .i64 p.1, .int .i64 p.2]
theorem PR_len (l : List (Int × Int)) : (PR l).length = l.length * 2 := by
  induction l with
  | nil => rfl
  | cons p l ih =>
    have : PR (p :: l) = .int .i64 p.1 :: .int .i64 p.2 :: PR l := rfl
    rw [this]; simp only [List.length_cons, ih]; omega
theorem PR_app (l k : List (Int × Int)) : PR (l ++ k) = PR l ++ PR k := by simp [PR, List.flatMap_append]
theorem PR_at {l : List (Int × Int)} {j : Nat} (hj : j < l.length) : (PR l)[j * 2]? = some (.int .i64 (l.getD j (0, 0)).1) ∧ (PR l)[j * 2 + 1]? = some (.int .i64 (l.getD j (0, 0)).2) := by
  induction l generalizing j with
  | nil => simp at hj
  | cons p l ih =>
    have e : PR (p :: l) = .int .i64 p.1 :: .int .i64 p.2 :: PR l := rfl
    rw [e]
    cases j with
    | zero => simp
    | succ j =>
      have h1 := ih (j := j) (by simpa using hj)
      rw [show (j + 1) * 2 = j * 2 + 1 + 1 by omega, show j * 2 + 1 + 1 + 1 = (j * 2 + 1) + 1 + 1 by omega]
      simpa using h1
theorem own_s2 {w : World} {base : Nat} {e : TypeId} {a : Option Addr} {cap n : Nat} {l : List (Int × Int)} (h : w.ownsRow base e 2 (.slice a n cap) n (PR l)) (hl : n = l.length) :
    S2 w a n (fun j => (l.getD j (0, 0)).1) (fun j => (l.getD j (0, 0)).2) := fun hn => by
  obtain ⟨g, rfl, _, hg, _⟩ := own_at2 h hn
  refine ⟨g, 0, rfl, hg, fun j hj => ?_⟩
  obtain ⟨g', e', _, _, h1, h2⟩ := own_at2 h hj
  obtain rfl : g = g' := by simpa using e'
  obtain ⟨p1, p2⟩ := PR_at (l := l) (j := j) (by omega)
  simp only [Nat.zero_add]
  exact ⟨h1.1.trans p1, h2.1.trans p2⟩
theorem grown_weak {w w' : World} {row : Option Nat} (h : w.grownBy w' none) : w.grownBy w' row := ⟨h.os, h.tape, h.output, h.size, fun k hk _ => h.block k hk (by simp)⟩
theorem Src.keep {w w' : World} {g : Nat} {a : Option Addr} {n c : Nat} {f : Nat → Nat} {K B : Nat} {row : Option Nat} (h : Src w g a n c f K) (hx : w.grownBy w' row) (hr : ∀ k, row = some k → B ≤ k) (hg : g < B) (hc : 0 < n → ∀ ad, a = some ad → ad.block < B) (hB : B ≤ w.heap.size) : Src w' g a n c f K := by
  obtain ⟨⟨i, hh, hb, hi⟩, hs, hne, hlo⟩ := h
  refine ⟨⟨i, hh, (hx.block g (by omega) (fun e => by have := hr g e.symm; omega)).trans hb, hi⟩, fun hn => ?_, hne, hlo⟩
  obtain ⟨b, off, ha, hb1, hcc⟩ := hs hn
  have hbB := hc hn _ ha
  simp only at hbB
  refine ⟨b, off, ha, Nat.lt_of_lt_of_le hb1 hx.size, fun j hj => ?_⟩
  rw [World.cell?_of_block (a := ⟨b, off + j, none⟩) (hx.block b hb1 (fun e => by have := hr b e.symm; omega))]
  exact hcc j hj
/-- Where a draw stands: its list, its source, what it has kept of the world it began in. -/
structure St (w0 w : World) (g : Nat) (a : Option Addr) (n c : Nat) (f : Nat → Nat) (K : Nat) (T : TypeId) (v : Value) (l : List (Int × Int)) : Prop where
  own : w.ownsRow w0.heap.size T 2 v l.length (PR l)
  src : Src w g a n c f K
  gr : w0.grownBy w (some g)
  low : g < w0.heap.size
  cod : 0 < n → ∀ ad, a = some ad → ad.block < w0.heap.size
section
variable {w0 w w1 : World} {g : Nat} {a : Option Addr} {n c : Nat} {f : Nat → Nat} {K K' : Nat} {T : TypeId} {v : Value} {l : List (Int × Int)}
theorem St.ne (h : St w0 w g a n c f K T v l) : v.ownBlock ≠ some g := fun e => by have := (h.own.lt g e).1; have := h.low; omega
theorem St.le (h : St w0 w g a n c f K T v l) (hl : K ≤ K') : St w0 w g a n c f K' T v l := ⟨h.own, h.src.le hl, h.gr, h.low, h.cod⟩
theorem St.drawn (h : St w0 w g a n c f K T v l) (hs : Src w1 g a n c f K') (hx : w.grownBy w1 (some g)) : St w0 w1 g a n c f K' T v l :=
  ⟨h.own.kept hx (.inr h.ne), hs, grown_trans h.gr hx, h.low, h.cod⟩
theorem St.alloc (h : St w0 w g a n c f K T v l) (o : Obj) : St w0 (w.alloc o) g a n c f K T v l := by
  have e : Ext w (w.alloc o) := (by repeat (first | with_reducible exact Ext.refl _ | with_reducible assumption | with_reducible refine Ext.alloc ?_ _ | with_reducible refine Ext.drew ?_ | (with_reducible refine Ext.setAt ?_ _ _ _ ?_; rotate_left; omega) | with_reducible refine Ext.trans ?_ (by assumption) | with_reducible exact Past.bel _ | with_reducible refine Ext.trans ?_ (Past.bel _)))
  exact ⟨own_ext h.own e, h.src.keep (ext_grown e) (fun k hk => by cases hk) h.low h.cod h.gr.size, grown_trans h.gr (grown_weak (ext_grown e)), h.low, h.cod⟩
theorem St.reset (h : St w0 w g a n c f K T v l) : St w0 w g a n c f K T (.slice none 0 0) [] := ⟨World.ownsRow_nil _ _ _ _, h.src, h.gr, h.low, h.cod⟩
/-- 'out = append(out, T{x, y})' -/
theorem app2 {P : Program} {ops : Array Oper} {rest : List Oper} {o : Oper} {A : Act} {Q : Exit → Act → World → Prop} (t : TypeId) (s x : Operand) (z : Value)
    (hop : o.op = .call { callee := .builtin .append, args := #[s, x], argTypes := #[t, t] }) (hgd : o.guard = none)
    (ht : P.underlying t = some (.slice T)) (hinfo : (P.info? T).map (fun i => (i.zero, i.size, i.bytes)) = some (some z, 2, 16)) (hz : z.cells.size = 2)
    (p q : Int) (gb : Nat) (hs : A.eval s = v) (hx : A.eval x = .slice (some ⟨gb, 0, none⟩) 1 1) (h : St w0 w g a n c f K T v l)
    (hc : Blk w gb T #[.int .i64 p, .int .i64 q]) (hl : l.length ≤ 1048576)
    (hK : ∀ v' w', St w0 w' g a n c f K T v' (l ++ [(p, q)]) → wpList P ops Q rest (A.put o.dst v') w') : wpList P ops Q (o :: rest) A w := by
  obtain ⟨i, hi, hz', hsz, hb⟩ := info_parts hinfo
  refine wpList_append_own (P := P) w hgd s x t hop w0.heap.size T i z 2 16 ht hi hz' hsz hb hz (by decide) v l.length _ hs h.own ⟨gb, 0, none⟩ 1 1 [.int .i64 p, .int .i64 q] hx rfl ?_ ?_ ?_ ?_ h.gr.size ?_
  · exact World.news_of_block hc
  · intro u hu
    simp at hu; rcases hu with rfl | rfl <;> rfl
  · unfold maxLen; omega
  · omega
  · intro v' w' h1 h2 _
    have hr : ∀ k, v.ownBlock = some k → w0.heap.size ≤ k := fun k hk => (h.own.lt k hk).1
    refine hK v' w' ⟨?_, h.src.keep h2 hr h.low h.cod h.gr.size, ⟨h2.os.trans h.gr.os, h2.tape.trans h.gr.tape, h2.output.trans h.gr.output, Nat.le_trans h.gr.size h2.size, fun k hk hn => ?_⟩, h.low, h.cod⟩
    · rw [PR_app, List.length_append]; have e1 : PR [(p, q)] = [.int .i64 p, .int .i64 q] := rfl
      rw [e1]; simpa using h1
    · exact (h2.block k (Nat.lt_of_lt_of_le hk h.gr.size) (fun e => by have := hr k e.symm; omega)).trans (h.gr.block k hk hn)
theorem PR_set0 {l : List (Int × Int)} {j : Nat} (hj : j < l.length) (z : Int) : (PR l).set (j * 2) (.int .i64 z) = PR (l.set j (z, (l.getD j (0, 0)).2)) := by
  induction l generalizing j with
  | nil => simp at hj
  | cons p l ih =>
    have e : PR (p :: l) = .int .i64 p.1 :: .int .i64 p.2 :: PR l := rfl
    cases j with
    | zero => rfl
    | succ j =>
      have h1 := ih (j := j) (by simpa using hj)
      rw [e, show (j + 1) * 2 = j * 2 + 1 + 1 by omega]
      simp only [List.set_cons_succ, h1]; simp [PR]
theorem PR_set1 {l : List (Int × Int)} {j : Nat} (hj : j < l.length) (z : Int) : (PR l).set (j * 2 + 1) (.int .i64 z) = PR (l.set j ((l.getD j (0, 0)).1, z)) := by
  induction l generalizing j with
  | nil => simp at hj
  | cons p l ih =>
    have e : PR (p :: l) = .int .i64 p.1 :: .int .i64 p.2 :: PR l := rfl
    cases j with
    | zero => rfl
    | succ j =>
      have h1 := ih (j := j) (by simpa using hj)
      rw [e, show (j + 1) * 2 + 1 = (j * 2 + 1) + 1 + 1 by omega]
      simp only [List.set_cons_succ, h1]; simp [PR]
theorem St.set {gb cap m i : Nat} {u : Value} {l' : List (Int × Int)} (h : St w0 w g a n c f K T (.slice (some ⟨gb, 0, none⟩) m cap) l) (hm : m = l.length) (hp : (PR l).set i u = PR l') (hl : l'.length = l.length) :
    St w0 (w.setCell ⟨gb, i, none⟩ u) g a n c f K T (.slice (some ⟨gb, 0, none⟩) m cap) l' := by
  subst hm
  have hgb : w0.heap.size ≤ gb := (h.own.lt gb rfl).1
  have hx := grown_set (w := w) gb i u
  refine ⟨?_, h.src.keep hx (fun k hk => by cases hk; exact hgb) h.low h.cod h.gr.size, ⟨h.gr.os, h.gr.tape, h.gr.output, by simpa using h.gr.size, fun k hk hn => ?_⟩, h.low, h.cod⟩
  · rw [hl, ← hp]; exact own_set h.own u
  · exact (hx.block k (Nat.lt_of_lt_of_le hk h.gr.size) (fun e => absurd (show k = gb by simpa using e) (by omega))).trans (h.gr.block k hk hn)
end
end Go.Proofs.Ytmbpjlgeneemjaa

namespace Go.Proofs.Ytmbpjlgeneemjaa
open Go.RowKit
set_option linter.unusedVariables false
set_option linter.unusedSimpArgs false

theorem info_rd : (Try.prog.info? 33).map (fun i => (i.zero, i.size, i.bytes)) = some (some (.agg #[.int .i64 0, .int .i64 0]), 2, 16) := by kernel_rfl
set_option maxHeartbeats 4000000 in
theorem l14Draw_c (g : Nat) (a : Option Addr) (n c : Nat) (f : Nat → Nat) (K : Nat) (w : World) (hn : n ≤ 1048576) (hK : K ≤ 900000) (hd : Src w g a n c f K) (hg : g < w.heap.size) (hcd : 0 < n → ∀ ad, a = some ad → ad.block < w.heap.size) :
    Calls Try.prog 45 #[.pointer (some ⟨g, 0, none⟩)] w fun e w' => ∃ v l, e = .returned v ∧ l.length ≤ 61 ∧ St w w' g a n c f (K + 300) 33 v l := by
  have s0 : St w w g a n c f K 33 (.slice none 0 0) [] := ⟨World.ownsRow_nil _ _ _ _, hd, grown_refl _ _, hg, hcd⟩
  go_enter Try.func45, Try.ntmps45
  go_wp2_with fail
  refine (pick_c g a n c f K 20 _ hn (by omega) (s0.alloc _).src).mono ?_
  rintro e w1 ⟨x1, rfl, y1, y1', z1, hs1, hg1⟩
  have s1 : St w w1 g a n c f (K + 2) 33 (.slice (some ⟨w.heap.size, 0, none⟩) 0 0) [] := by
    refine St.drawn (w := w.alloc (.cells #[] 33)) ⟨World.ownsRow_made _ #[] 0 (Ext.size (by repeat (first | with_reducible exact Ext.refl _ | with_reducible assumption | with_reducible refine Ext.alloc ?_ _ | with_reducible refine Ext.drew ?_ | (with_reducible refine Ext.setAt ?_ _ _ _ ?_; rotate_left; omega) | with_reducible refine Ext.trans ?_ (by assumption) | with_reducible exact Past.bel _ | with_reducible refine Ext.trans ?_ (Past.bel _)))) (Nat.zero_le _) rfl, (s0.alloc _).src, (s0.alloc _).gr, hg, hcd⟩ hs1 hg1
  go_wp2_with fail
  refine (pick_c g a n c f (K + 2) 2000 _ hn (by omega) s1.src).mono ?_
  rintro e w2 ⟨x2, rfl, y2, y2', z2, hs2, hg2⟩
  have s2 := s1.drawn hs2 hg2
  go_wp2_with fail
  refine (pick_c g a n c f (K + 4) 41 _ hn (by omega) s2.src).mono ?_
  rintro e w3 ⟨x3, rfl, y3, y3', z3, hs3, hg3⟩
  have s3 := s2.drawn hs3 hg3
  go_wp2_with fail
  refine (one_c g a n c f (K + 6) 4 _ hn (by omega) s3.src).mono ?_
  rintro e w4 ⟨b4, rfl, hs4, hg4⟩
  have s4 := s3.drawn hs4 hg4
  go_wp2_with fail
  refine (pick_c g a n c f (K + 8) 12 _ hn (by omega) s4.src).mono ?_
  rintro e w5 ⟨x5, rfl, y5, y5', z5, hs5, hg5⟩
  have s5 := s4.drawn hs5 hg5
  have S5 := Lib.hid s5
  clear s0 s1 s2 s3 s4 s5 hs1 hs2 hs3 hs4 hs5 hg1 hg2 hg3 hg4 hg5
  go_wp2_with fail
  go_loopw [3, 4, 5, 8] (fun v3 v4 v5 v8 wr => ∃ (l : List (Int × Int)) (h o k : Int), v4 = .int .i64 h ∧ v5 = .int .i64 o ∧ v8 = .int .i64 k ∧ 0 ≤ k ∧ k ≤ 11 ∧ l.length + k.toNat ≤ 11 ∧ St w wr g a n c f (K + 10 + 8 * (11 - k.toNat)) 33 v3 l) (fun _ _ _ v8 _ => (intOf v8).toNat)
  case atStart => exact ⟨[], _, _, x5, rfl, rfl, rfl, by omega, by omega, by simp; omega, S5.out.le (by omega)⟩
  case round =>
    obtain ⟨l, h, o, k, rfl, rfl, rfl, k0, k1, hl, hst⟩ := hrel
    have ST := Lib.hid hst
    clear hst
    by_cases hk : 0 < k
    · go_wp2_with (at_builtin; refine app2 24 _ _ _ rfl rfl Try.underlying24 info_rd rfl h o _ rfl rfl (ST.out.alloc _) (Blk.new _ _ _) (by omega) ?_; intro v6 w6 s6)
      refine (pick_c g a n c f (K + 10 + 8 * (11 - k.toNat)) 40 _ hn (by omega) s6.src).mono ?_
      rintro e w7 ⟨x7, rfl, y7, y7', z7, hs7, hg7⟩
      have s7 := s6.drawn hs7 hg7
      cases b4
      · go_wp2_with fail
        refine (pick_c g a n c f (K + 10 + 8 * (11 - k.toNat) + 2) 61 _ hn (by omega) s7.src).mono ?_
        rintro e w8 ⟨x8, rfl, y8, y8', z8, hs8, hg8⟩
        have s8 := s7.drawn hs8 hg8
        go_wp2_with fail
        refine (one_c g a n c f (K + 10 + 8 * (11 - k.toNat) + 4) 16 _ hn (by omega) s8.src).mono ?_
        rintro e w9 ⟨b9, rfl, hs9, hg9⟩
        have s9 := s8.drawn hs9 hg9
        cases b9
        · go_wp2_with fail
          exact ⟨⟨l ++ [(h, o)], _, _, k - 1, rfl, rfl, by go_num, by omega, by omega, by simp; omega, s9.le (by omega)⟩, by simp [intOf]; omega⟩
        · go_wp2_with fail
          have sz := s9.gr.size
          obtain ⟨z, hz0, hz1⟩ : ∃ z : Nat → Int, z 0 = -900 ∧ z 1 = 900 := ⟨(fun j => if j = 0 then -900 else 900), rfl, rfl⟩
          refine (among_c g a n c f (K + 10 + 8 * (11 - k.toNat) + 4 + 2) (some ⟨w9.heap.size, 0, none⟩) 2 2 z _ hn (by omega) (s9.alloc _).src (by omega) (by omega) ?_ ?_).mono ?_
          · intro _
            refine ⟨w9.heap.size, 0, rfl, by simp, fun j hj => ?_⟩
            obtain rfl | rfl : j = 0 ∨ j = 1 := by omega
            · simp [go_sem, hz0, hz1]
            · simp [go_sem, hz0, hz1]
          · intro ad e
            cases e
            simp only; omega
          rintro e w10 ⟨jj, rfl, hj, hs10, hg10⟩
          have s10 := (s9.alloc _).drawn hs10 hg10
          go_wp2_with fail
          exact ⟨⟨l ++ [(h, o)], _, _, k - 1, rfl, rfl, by go_num, by omega, by omega, by simp; omega, s10.le (by omega)⟩, by simp [intOf]; omega⟩
      · skip
        go_wp2_with fail
        refine (one_c g a n c f (K + 10 + 8 * (11 - k.toNat) + 2) 16 _ hn (by omega) s7.src).mono ?_
        rintro e w9 ⟨b9, rfl, hs9, hg9⟩
        have s9 := s7.drawn hs9 hg9
        cases b9
        · go_wp2_with fail
          exact ⟨⟨l ++ [(h, o)], _, _, k - 1, rfl, rfl, by go_num, by omega, by omega, by simp; omega, s9.le (by omega)⟩, by simp [intOf]; omega⟩
        · go_wp2_with fail
          have sz := s9.gr.size
          obtain ⟨z, hz0, hz1⟩ : ∃ z : Nat → Int, z 0 = -900 ∧ z 1 = 900 := ⟨(fun j => if j = 0 then -900 else 900), rfl, rfl⟩
          refine (among_c g a n c f (K + 10 + 8 * (11 - k.toNat) + 2 + 2) (some ⟨w9.heap.size, 0, none⟩) 2 2 z _ hn (by omega) (s9.alloc _).src (by omega) (by omega) ?_ ?_).mono ?_
          · intro _
            refine ⟨w9.heap.size, 0, rfl, by simp, fun j hj => ?_⟩
            obtain rfl | rfl : j = 0 ∨ j = 1 := by omega
            · simp [go_sem, hz0, hz1]
            · simp [go_sem, hz0, hz1]
          · intro ad e
            cases e
            simp only; omega
          rintro e w10 ⟨jj, rfl, hj, hs10, hg10⟩
          have s10 := (s9.alloc _).drawn hs10 hg10
          go_wp2_with fail
          exact ⟨⟨l ++ [(h, o)], _, _, k - 1, rfl, rfl, by go_num, by omega, by omega, by simp; omega, s10.le (by omega)⟩, by simp [intOf]; omega⟩
    · have k00 : k = 0 := by omega
      subst k00
      have hst := ST.out.le (K' := K + 98) (by omega)
      clear ST
      obtain ⟨b, cap, rfl⟩ := own_form hst.own
      go_wp2_with fail
      refine (pick_c g a n c f (K + 98) l.length _ hn (by omega) hst.src).mono ?_
      rintro e wA ⟨xA, rfl, yA, yA', zA, hsA, hgA⟩
      have sA := hst.drawn hsA hgA
      go_wp2_with fail
      refine (pick_c g a n c f (K + 100) 30 _ hn (by omega) sA.src).mono ?_
      rintro e wB ⟨xB, rfl, yB, yB', zB, hsB, hgB⟩
      have sB := sA.drawn hsB hgB
      have szB := sB.gr.size
      clear hst sA hsA hgA hsB hgB
      by_cases d0 : xB = 0
      · subst d0
        by_cases hp : 0 < l.length
        · have q1 : (0 : Int) < (l.length : Int) := by omega
          obtain ⟨at_, rfl⟩ := Int.eq_ofNat_of_zero_le yA
          have hat : at_ < l.length := by omega
          have q2 : (0 : Int) ≤ (at_ : Int) := by omega
          have q3 : (at_ : Int) < (l.length : Int) := by omega
          go_wp2_with fail
          obtain ⟨z, hz0, hz1, hz2⟩ : ∃ z : Nat → Int, z 0 = -1 ∧ z 1 = 10000 ∧ z 2 = 10001 := ⟨(fun j => if j = 0 then -1 else if j = 1 then 10000 else 10001), rfl, rfl, rfl⟩
          refine (among_c g a n c f (K + 102) (some ⟨wB.heap.size, 0, none⟩) 3 3 z _ hn (by omega) (sB.alloc _).src (by omega) (by omega) ?_ ?_).mono ?_
          · intro _
            refine ⟨wB.heap.size, 0, rfl, by simp, fun j hj => ?_⟩
            obtain rfl | rfl | rfl : j = 0 ∨ j = 1 ∨ j = 2 := by omega
            all_goals simp [go_sem, hz0, hz1, hz2]
          · intro ad e
            cases e
            simp only; omega
          rintro e wC ⟨jC, rfl, hjC, hsC, hgC⟩
          have sC := (sB.alloc _).drawn hsC hgC
          obtain ⟨gb, rfl, _, _, ⟨r0, r1⟩, r2, r3⟩ := own_at2 sC.own hat
          obtain ⟨t0, t1⟩ := PR_at hat
          rw [t0] at r0
          rw [t1] at r2
          go_wp2_with fail
          go_ret
          have hlen : ∀ p, (l.set at_ p).length ≤ 61 := fun p => by rw [List.length_set]; omega
          first | exact ⟨_, _, rfl, hlen _, (sC.set rfl (PR_set0 hat _) (by simp)).le (by omega)⟩ | exact ⟨_, rfl, _, hlen _, (sC.set rfl (PR_set0 hat _) (by simp)).le (by omega)⟩
        · have q1 : ¬ (0 : Int) < (l.length : Int) := by omega
          go_wp2_with fail
          go_ret
          exact ⟨_, l, rfl, by omega, sB.le (by omega)⟩
      · by_cases d1 : xB = 1
        · subst d1
          by_cases hp : 0 < l.length
          · have q1 : (0 : Int) < (l.length : Int) := by omega
            obtain ⟨at_, rfl⟩ := Int.eq_ofNat_of_zero_le yA
            have hat : at_ < l.length := by omega
            have q2 : (0 : Int) ≤ (at_ : Int) := by omega
            have q3 : (at_ : Int) < (l.length : Int) := by omega
            go_wp2_with fail
            obtain ⟨z, hz0, hz1, hz2, hz3⟩ : ∃ z : Nat → Int, z 0 = -100001 ∧ z 1 = -100000 ∧ z 2 = 100000 ∧ z 3 = 100001 := ⟨(fun j => if j = 0 then -100001 else if j = 1 then -100000 else if j = 2 then 100000 else 100001), rfl, rfl, rfl, rfl⟩
            refine (among_c g a n c f (K + 102) (some ⟨wB.heap.size, 0, none⟩) 4 4 z _ hn (by omega) (sB.alloc _).src (by omega) (by omega) ?_ ?_).mono ?_
            · intro _
              refine ⟨wB.heap.size, 0, rfl, by simp, fun j hj => ?_⟩
              obtain rfl | rfl | rfl | rfl : j = 0 ∨ j = 1 ∨ j = 2 ∨ j = 3 := by omega
              all_goals simp [go_sem, hz0, hz1, hz2, hz3]
            · intro ad e
              cases e
              simp only; omega
            rintro e wC ⟨jC, rfl, hjC, hsC, hgC⟩
            have sC := (sB.alloc _).drawn hsC hgC
            obtain ⟨gb, rfl, _, _, ⟨r0, r1⟩, r2, r3⟩ := own_at2 sC.own hat
            obtain ⟨t0, t1⟩ := PR_at hat
            rw [t0] at r0
            rw [t1] at r2
            go_wp2_with fail
            go_ret
            have hlen : ∀ p, (l.set at_ p).length ≤ 61 := fun p => by rw [List.length_set]; omega
            first | exact ⟨_, _, rfl, hlen _, (sC.set rfl (PR_set1 hat _) (by simp)).le (by omega)⟩ | exact ⟨_, rfl, _, hlen _, (sC.set rfl (PR_set1 hat _) (by simp)).le (by omega)⟩
          · have q1 : ¬ (0 : Int) < (l.length : Int) := by omega
            go_wp2_with fail
            go_ret
            exact ⟨_, l, rfl, by omega, sB.le (by omega)⟩
        · by_cases d2 : xB = 2
          · subst d2
            have sR := sB.reset
            go_wp2_with fail
            go_loopw [3, 11] (fun v3 v11 wr => ∃ (l : List (Int × Int)) (k : Int), v11 = .int .i64 k ∧ 0 ≤ k ∧ k ≤ 61 ∧ (l.length : Int) = k ∧ St w wr g a n c f (K + 102 + 2 * k.toNat) 33 v3 l) (fun _ v11 _ => 61 - (intOf v11).toNat)
            case atStart => exact ⟨[], 0, rfl, by omega, by omega, rfl, sR.le (by omega)⟩
            case round =>
              obtain ⟨l, k, rfl, k0, k1, hl, hst⟩ := hrel
              go_wp2_with fail
              refine (pick_c g a n c f (K + 102 + 2 * k.toNat) 2 _ hn (by omega) hst.src).mono ?_
              rintro e wD ⟨xD, rfl, yD, yD', zD, hsD, hgD⟩
              have sD := hst.drawn hsD hgD
              have SD := Lib.hid sD
              clear hst hsD hgD sD
              have q1 := IntWalk.wrap64_in (60 + xD) (by omega)
              by_cases hk : k < 60 + xD
              · go_wp2_with (at_builtin; refine app2 24 _ _ _ rfl rfl Try.underlying24 info_rd rfl _ _ _ rfl rfl (SD.out.alloc _) (Blk.new _ _ _) (by omega) ?_; intro v6 w6 s6)
                exact ⟨⟨_, k + 1, by go_num, by omega, by omega, by simp; omega, s6.le (by omega)⟩, by simp [intOf]; omega⟩
              · go_wp2_with fail
                go_ret
                exact ⟨_, l, rfl, by omega, SD.out.le (by omega)⟩
          · by_cases d3 : xB = 3
            · subst d3
              go_wp2_with fail
              go_ret
              refine ⟨_, [(0, -100000), (10000, 100000)], rfl, by simp, ?_⟩
              have e : Ext wB (wB.alloc (.cells #[.int .i64 0, .int .i64 (-100000), .int .i64 10000, .int .i64 100000] 33)) := (by repeat (first | with_reducible exact Ext.refl _ | with_reducible assumption | with_reducible refine Ext.alloc ?_ _ | with_reducible refine Ext.drew ?_ | (with_reducible refine Ext.setAt ?_ _ _ _ ?_; rotate_left; omega) | with_reducible refine Ext.trans ?_ (by assumption) | with_reducible exact Past.bel _ | with_reducible refine Ext.trans ?_ (Past.bel _)))
              exact ⟨⟨rfl, .inr ⟨wB.heap.size, 2, _, rfl, szB, heap_alloc_new wB _, Nat.le_refl _, by decide, rfl, rfl⟩⟩, ((sB.alloc _).src).le (by omega), (sB.alloc _).gr, hg, hcd⟩
            · have e0 : (xB == 0) = false := by simpa using d0
              have e1 : (xB == 1) = false := by simpa using d1
              have e2 : (xB == 2) = false := by simpa using d2
              have e3 : (xB == 3) = false := by simpa using d3
              go_wp2_with fail
              go_ret
              exact ⟨_, l, rfl, by omega, sB.le (by omega)⟩
end Go.Proofs.Ytmbpjlgeneemjaa

namespace Go.Proofs.Ytmbpjlgeneemjaa
open Go.RowKit
set_option linter.unusedVariables false
set_option linter.unusedSimpArgs false

theorem grown_up {w W w' : World} {g : Nat} (h : W.grownBy w' (some g)) (hx : Ext w W) (hg : w.heap.size ≤ g) : Ext w w' := hx.grown h (fun k hk => by injection hk with hk; omega)
theorem U8.low' {w : World} {a : Option Addr} {n : Nat} {f : Nat → Nat} (hs : U8 w a n f) : 0 < n → ∀ ad, a = some ad → ad.block < w.heap.size := fun h0 ad e => by
  obtain ⟨b, o, e2, hb, _⟩ := hs.at h0
  have e3 : some ad = some (⟨b, o, none⟩ : Addr) := e.symm.trans e2
  rw [Option.some.inj e3]; exact hb
theorem own_cap' {w : World} {base : Nat} {e : TypeId} {size : Nat} {a : Option Addr} {n cap : Nat} {xs : List Value} (h : w.ownsRow base e size (.slice a n cap) n xs) : n ≤ cap ∧ cap ≤ maxLen := by
  rcases h.2 with ⟨h1, h2⟩ | ⟨g, cap', cur, h1, _, _, h2, h3, _⟩
  · simp only [Value.slice.injEq] at h1
    obtain ⟨_, h3, h4⟩ := h1
    subst h4; exact ⟨by omega, Nat.zero_le _⟩
  · simp only [Value.slice.injEq] at h1
    omega
theorem own_shape {w : World} {base : Nat} {e : TypeId} {size : Nat} {a : Option Addr} {n cap : Nat} {xs : List Value} (h : w.ownsRow base e size (.slice a n cap) n xs) : (a = none ∧ n = 0 ∧ cap = 0) ∨ ∃ g, a = some ⟨g, 0, none⟩ := by
  rcases h.2 with ⟨h1, h2⟩ | ⟨g, cap', cur, h1, _⟩
  · simp only [Value.slice.injEq] at h1
    exact .inl ⟨h1.1, h2, h1.2.2⟩
  · simp only [Value.slice.injEq] at h1
    exact .inr ⟨g, h1.1⟩
/-- a drawn list of readings -/
structure LiE (w w' : World) (b : Option Addr) (n cap : Nat) (h o : Nat → Int) : Prop where
  n61 : n ≤ 61
  s2 : S2 w' b n h o
  ext : Ext w w'
  far : ∀ ad, b = some ad → w.heap.size ≤ ad.block
  nc : n ≤ cap
  cm : cap ≤ maxLen
  form : (b = none ∧ n = 0 ∧ cap = 0) ∨ ∃ g, b = some ⟨g, 0, none⟩
theorem LiE.of {w w0 w' : World} {g : Nat} {a : Option Addr} {n c : Nat} {f : Nat → Nat} {K : Nat} {T : TypeId} {b : Option Addr} {m cap : Nat} {l : List (Int × Int)} (h : St w0 w' g a n c f K T (.slice b m cap) l) (hm : m = l.length) (hl : l.length ≤ 61) (hx : Ext w w0) (hg : w.heap.size ≤ g) :
    LiE w w' b m cap (fun j => (l.getD j (0, 0)).1) (fun j => (l.getD j (0, 0)).2) := by
  subst hm
  have hc := own_cap' h.own
  exact ⟨hl, own_s2 h.own rfl, grown_up h.gr hx hg, fun ad e => by subst e; have := (h.own.lt ad.block rfl).1; have := hx.size; omega, hc.1, hc.2, own_shape h.own⟩
def postL (w : World) (e : Ending) (w' : World) : Prop := ∃ b m cap h o, e = .returned (.slice b m cap) ∧ LiE w w' b m cap h o
def postL1 (w : World) (e : Ending) (w' : World) : Prop := ∃ b m cap h o x, e = .returned (.tuple #[.slice b m cap, .int .i64 x]) ∧ LiE w w' b m cap h o
theorem li_from (a : Option Addr) (n c : Nat) (f : Nat → Nat) (w : World) (hs : U8 w a n f) (hl : ∀ j, j < n → f j ≤ 255) :
    Calls Try.prog 46 #[.slice a n c] w fun e w' => e = .returned (.pointer (some ⟨w.heap.size, 0, none⟩)) ∧ Src w' w.heap.size a n c f 0 ∧ Ext w w' := l00From_c a n c f w hs hl hs.low'
theorem li_draw (a : Option Addr) (n c : Nat) (f : Nat → Nat) (w w1 : World) (hn : n ≤ 1048576) (hs : U8 w a n f) (hs1 : Src w1 w.heap.size a n c f 0) (hx : Ext w w1) :
    Calls Try.prog 45 #[.pointer (some ⟨w.heap.size, 0, none⟩)] w1 fun e w' => ∃ b m cap l, e = .returned (.slice b m cap) ∧ m = l.length ∧ l.length ≤ 61 ∧ St w1 w' w.heap.size a n c f (0 + 300) 33 (.slice b m cap) l := by
  have hg1 : w.heap.size < w1.heap.size := by obtain ⟨i, hh, hb, _⟩ := hs1.blk; exact hb.lt
  exact (l14Draw_c _ a n c f 0 w1 hn (by omega) hs1 hg1 (fun h0 ad e => by have := hs.low' h0 ad e; omega)).mono fun e w' ⟨v, l, he, hl, hst⟩ => by
    obtain ⟨b, cap, rfl⟩ := own_form hst.own
    exact ⟨b, l.length, cap, l, he, rfl, hl, hst⟩
theorem drawBestChange_c (a : Option Addr) (n c : Nat) (f : Nat → Nat) (w : World) (hn : n ≤ 1048576) (hs : U8 w a n f) (hl : ∀ j, j < n → f j ≤ 255) :
    Calls Try.prog 10 #[.slice a n c] w (postL w) := by
  go_enter Try.func10, Try.ntmps10
  go_wp2_with fail
  refine (li_from a n c f w hs hl).mono ?_
  rintro e w1 ⟨rfl, hs1, hx1⟩
  go_wp2_with fail
  refine (li_draw a n c f w w1 hn hs hs1 hx1).mono ?_
  rintro e w2 ⟨b, m, cap, l, rfl, rfl, hll, hst⟩
  have HST := Lib.hid hst
  clear hst
  go_wp2_with fail
  go_ret
  exact ⟨b, _, cap, _, _, rfl, LiE.of HST.out rfl hll hx1 (Nat.le_refl _)⟩
theorem drawFitOf_c (a : Option Addr) (n c : Nat) (f : Nat → Nat) (w : World) (hn : n ≤ 1048576) (hs : U8 w a n f) (hl : ∀ j, j < n → f j ≤ 255) :
    Calls Try.prog 16 #[.slice a n c] w (postL w) := by
  go_enter Try.func16, Try.ntmps16
  go_wp2_with fail
  refine (li_from a n c f w hs hl).mono ?_
  rintro e w1 ⟨rfl, hs1, hx1⟩
  go_wp2_with fail
  refine (li_draw a n c f w w1 hn hs hs1 hx1).mono ?_
  rintro e w2 ⟨b, m, cap, l, rfl, rfl, hll, hst⟩
  have HST := Lib.hid hst
  clear hst
  go_wp2_with fail
  go_ret
  exact ⟨b, _, cap, _, _, rfl, LiE.of HST.out rfl hll hx1 (Nat.le_refl _)⟩
theorem drawResiduals_c (a : Option Addr) (n c : Nat) (f : Nat → Nat) (w : World) (hn : n ≤ 1048576) (hs : U8 w a n f) (hl : ∀ j, j < n → f j ≤ 255) :
    Calls Try.prog 26 #[.slice a n c] w (postL w) := by
  go_enter Try.func26, Try.ntmps26
  go_wp2_with fail
  refine (li_from a n c f w hs hl).mono ?_
  rintro e w1 ⟨rfl, hs1, hx1⟩
  go_wp2_with fail
  refine (li_draw a n c f w w1 hn hs hs1 hx1).mono ?_
  rintro e w2 ⟨b, m, cap, l, rfl, rfl, hll, hst⟩
  have HST := Lib.hid hst
  clear hst
  go_wp2_with fail
  go_ret
  exact ⟨b, _, cap, _, _, rfl, LiE.of HST.out rfl hll hx1 (Nat.le_refl _)⟩
theorem drawMedian_c (a : Option Addr) (n c : Nat) (f : Nat → Nat) (w : World) (hn : n ≤ 1048576) (hs : U8 w a n f) (hl : ∀ j, j < n → f j ≤ 255) :
    Calls Try.prog 42 #[.slice a n c] w (postL w) := by
  go_enter Try.func42, Try.ntmps42
  go_wp2_with fail
  refine (li_from a n c f w hs hl).mono ?_
  rintro e w1 ⟨rfl, hs1, hx1⟩
  go_wp2_with fail
  refine (li_draw a n c f w w1 hn hs hs1 hx1).mono ?_
  rintro e w2 ⟨b, m, cap, l, rfl, rfl, hll, hst⟩
  have HST := Lib.hid hst
  clear hst
  go_wp2_with fail
  go_ret
  exact ⟨b, _, cap, _, _, rfl, LiE.of HST.out rfl hll hx1 (Nat.le_refl _)⟩
theorem s1_lit {w : World} {b n : Nat} {z : Nat → Int} (hb : b < w.heap.size) (h : ∀ j, j < n → w.cell? ⟨b, j, none⟩ = some (.int .i64 (z j))) : S1 w (some ⟨b, 0, none⟩) n z := fun _ => ⟨b, 0, rfl, hb, fun j hj => by rw [Nat.zero_add]; exact h j hj⟩
set_option maxHeartbeats 1000000 in
theorem drawJumps_c (a : Option Addr) (n c : Nat) (f : Nat → Nat) (w : World) (hn : n ≤ 1048576) (hs : U8 w a n f) (hl : ∀ j, j < n → f j ≤ 255) :
    Calls Try.prog 43 #[.slice a n c] w (postL1 w) := by
  go_enter Try.func43, Try.ntmps43
  go_wp2_with fail
  refine (li_from a n c f w hs hl).mono ?_
  rintro e w1 ⟨rfl, hs1, hx1⟩
  go_wp2_with fail
  refine (li_draw a n c f w w1 hn hs hs1 hx1).mono ?_
  rintro e w2 ⟨b, m, cap, l, rfl, rfl, hll, hst⟩
  have HST := Lib.hid hst
  clear hst
  go_wp2_with fail
  refine (one_c _ a n c f _ 10 _ hn (by omega) HST.out.src).mono ?_
  rintro e w3 ⟨bb, rfl, hs3, hg3⟩
  have S3 := Lib.hid (HST.out.drawn hs3 hg3)
  clear hs3 hg3
  have hgw : w.heap.size < w3.heap.size := by obtain ⟨i, hh, hb, _⟩ := S3.out.src.blk; exact hb.lt
  cases bb
  · go_wp2_with fail
    refine (pick_c _ a n c f _ 1000 _ hn (by omega) S3.out.src).mono ?_
    rintro e w4 ⟨x, rfl, y0, y1, y2, hs4, hg4⟩
    have S4 := Lib.hid (S3.out.drawn hs4 hg4)
    clear hs4 hg4
    go_wp2_with fail
    go_ret2
    exact ⟨b, _, cap, _, _, x, rfl, LiE.of S4.out rfl hll hx1 (Nat.le_refl _)⟩
  · go_wp2_with fail
    obtain ⟨z, zz0, zz1, zz2, zz3⟩ : ∃ z : Nat → Int, z 0 = -1 ∧ z 1 = 0 ∧ z 2 = 200000 ∧ z 3 = 200001 := ⟨(fun j => if j = 0 then -1 else if j = 1 then 0 else if j = 2 then 200000 else 200001), rfl, rfl, rfl, rfl⟩
    refine (among_c _ a n c f _ (some ⟨w3.heap.size, 0, none⟩) 4 4 z _ hn (by omega) (S3.out.alloc _).src (by omega) (by omega) (s1_lit (by simp) (fun j hj => by (obtain rfl | rfl | rfl | rfl : j = 0 ∨ j = 1 ∨ j = 2 ∨ j = 3 := by omega) <;> simp [go_sem, zz0, zz1, zz2, zz3])) (fun ad e => by cases e; dsimp only; omega)).mono ?_
    rintro e w4 ⟨j, rfl, hj, hs4, hg4⟩
    have S4 := Lib.hid ((S3.out.alloc _).drawn hs4 hg4)
    clear hs4 hg4
    go_wp2_with fail
    go_ret2
    exact ⟨b, _, cap, _, _, z j, rfl, LiE.of S4.out rfl hll hx1 (Nat.le_refl _)⟩
/-- sums of any list -/
theorem fit_blk5 {w : World} {g : Nat} {T : TypeId} {a b c d e : Value} (h : Blk w g T #[a, b, c, d, e]) : w.cell? ⟨g, 0, none⟩ = some a ∧ w.cell? ⟨g, 1, none⟩ = some b ∧ w.cell? ⟨g, 2, none⟩ = some c ∧ w.cell? ⟨g, 3, none⟩ = some d ∧ w.cell? ⟨g, 4, none⟩ = some e := by
  refine ⟨?_, ?_, ?_, ?_, ?_⟩ <;> (rw [h.cell]; rfl)
end Go.Proofs.Ytmbpjlgeneemjaa

namespace Go.Proofs.Ytmbpjlgeneemjaa
open Go.RowKit
set_option linter.unusedVariables false
set_option linter.unusedSimpArgs false

/-- 'append(own, src...)' of integers, 'own' made from B on -/
theorem appi {P : Program} {w : World} {ops : Array Oper} {rest : List Oper} {o : Oper} {A : Act} {Q : Exit → Act → World → Prop} (t e : TypeId) (s x : Operand)
    (hop : o.op = .call { callee := .builtin .append, args := #[s, x], argTypes := #[t, t] }) (hgd : o.guard = none)
    (ht : P.underlying t = some (.slice e)) (hinfo : (P.info? e).map (fun i => (i.zero, i.size, i.bytes)) = some (some (.int .i64 0), 1, 8))
    (B : Nat) (v : Value) (l l2 : List Int) (g off m c : Nat) (hs : A.eval s = v) (hm : l2.length = m) (hx : A.eval x = .slice (some ⟨g, off, none⟩) m c) (hown : w.ownsRow B e 1 v l.length (l.map (Value.int .i64)))
    (hc : ∀ j, j < m → w.cell? ⟨g, off + j, none⟩ = some (.int .i64 (l2.getD j 0))) (hl : l.length + m ≤ 2097152) (h0 : B ≤ w.heap.size)
    (hK : ∀ v' w', w'.ownsRow B e 1 v' (l ++ l2).length ((l ++ l2).map (Value.int .i64)) → w.grownBy w' v.ownBlock → wpList P ops Q rest (A.put o.dst v') w') : wpList P ops Q (o :: rest) A w := by
  subst hm
  obtain ⟨i, hi, hz', hsz, hb⟩ := info_parts hinfo
  refine wpList_append_own (P := P) w hgd s x t hop B e i _ 1 8 ht hi hz' hsz hb rfl (by decide) v l.length _ hs hown ⟨g, off, none⟩ l2.length c (l2.map (Value.int .i64)) hx (by simp) ?_ ?_ (by unfold maxLen; omega) (by omega) h0 ?_
  · intro j u hu
    have hj : j < l2.length := by have := (List.getElem?_eq_some_iff.1 hu).1; simpa using this
    have e1 : (⟨g, off, none⟩ : Addr).add j = ⟨g, off + j, none⟩ := by unfold Addr.add; split <;> simp_all
    rw [e1, hc j hj, ← hu]
    simp [hj, List.getD]
  · intro u hu
    simp only [List.mem_map] at hu
    obtain ⟨b, _, rfl⟩ := hu; rfl
  · intro v' w' h1 h2 _
    refine hK v' w' ?_ h2
    rw [List.length_append, List.map_append]; exact h1
theorem l00Own_c (g off m c : Nat) (L : List Int) (B : Nat) (w : World) (hm : L.length = m) (hn : m ≤ 1048576) (hB : B ≤ w.heap.size) (hc : ∀ j, j < m → w.cell? ⟨g, off + j, none⟩ = some (.int .i64 (L.getD j 0))) (hg : 0 < m → g < w.heap.size) :
    Calls Try.prog 78 #[.slice (some ⟨g, off, none⟩) m c] w fun e w' => ∃ v, e = .returned v ∧ w'.ownsRow B 2 1 v L.length (L.map (Value.int .i64)) ∧ Ext w w' := by
  go_enter Try.func78, Try.ntmps78
  go_wp2_with (at_builtin; refine appi 34 2 _ _ rfl rfl Try.underlying34 info_i64 B _ [] L g off m c rfl hm rfl (World.ownsRow_made _ #[] 0 hB (Nat.zero_le _) rfl) (fun j hj => ((show Ext w (w.alloc _) from (by repeat (first | with_reducible exact Ext.refl _ | with_reducible assumption | with_reducible refine Ext.alloc ?_ _ | with_reducible refine Ext.drew ?_ | (with_reducible refine Ext.setAt ?_ _ _ _ ?_; rotate_left; omega) | with_reducible refine Ext.trans ?_ (by assumption) | with_reducible exact Past.bel _ | with_reducible refine Ext.trans ?_ (Past.bel _)))).cell (hg (by omega))).trans (hc j hj)) (by simp; omega) (by simp; omega) ?_; intro v6 w6 s6 s7)
  go_ret
  exact ⟨_, rfl, s6, (show Ext w (w.alloc _) from (by repeat (first | with_reducible exact Ext.refl _ | with_reducible assumption | with_reducible refine Ext.alloc ?_ _ | with_reducible refine Ext.drew ?_ | (with_reducible refine Ext.setAt ?_ _ _ _ ?_; rotate_left; omega) | with_reducible refine Ext.trans ?_ (by assumption) | with_reducible exact Past.bel _ | with_reducible refine Ext.trans ?_ (Past.bel _)))).grown s7 (fun q hq => by cases hq; exact Nat.le_refl _)⟩
theorem own_weaken {w : World} {B B' : Nat} {e : TypeId} {size : Nat} {v : Value} {n : Nat} {xs : List Value} (h : w.ownsRow B e size v n xs) (hB : B' ≤ B) : w.ownsRow B' e size v n xs := by
  obtain ⟨hl, h0 | ⟨g, cap, cur, hv, hb, r⟩⟩ := h
  · exact ⟨hl, .inl h0⟩
  · exact ⟨hl, .inr ⟨g, cap, cur, hv, Nat.le_trans hB hb, r⟩⟩
theorem own_gets {w : World} {base : Nat} {e : TypeId} {g n cap : Nat} {L : List Int} (h : w.ownsRow base e 1 (.slice (some ⟨g, 0, none⟩) n cap) n (L.map (Value.int .i64))) (j : Nat) (hj : j < L.length) : w.cell? ⟨g, j, none⟩ = some (.int .i64 (L.getD j 0)) := by
  have hl : L.length = n := by simpa using h.1
  obtain ⟨g', e', _, _, h2, _⟩ := own_at h (j := j) (by omega)
  obtain rfl : g = g' := by simpa using e'
  rw [h2]; simp [hj, List.getD]
set_option maxRecDepth 100000 in
set_option maxHeartbeats 8000000 in
theorem l05Sort_c (a : Option Addr) (n c : Nat) (f : Nat → Int) (w : World) (hn : n ≤ 1000000) (hs : S1 w a n f) :
    Calls Try.prog 75 #[.slice a n c] w fun e w' => ∃ b cap, e = .returned (.slice b n cap) ∧ w'.ownsRow w.heap.size 2 1 (.slice b n cap) n ((srt (outs f n)).map (Value.int .i64)) ∧ Ext w w' := by
  have HS := Lib.hid hs
  clear hs
  go_enter Try.func75, Try.ntmps75
  go_wp2_with fail
  go_loopw [3, 4, 5, 6] (fun v3 v4 v5 v6 wr => ∃ (i : Nat) (L : List Int) (g cap : Nat), i ≤ n ∧ v4 = .int .i64 i ∧ v3 = .slice (some ⟨g, 0, none⟩) i cap ∧ wr.ownsRow w.heap.size 2 1 v3 i (L.map (Value.int .i64)) ∧ L.length = i ∧ L.Pairwise (· ≤ ·) ∧ L.Perm (outs f i) ∧ Ext w wr) (fun _ v4 _ _ _ => n - (intOf v4).toNat)
  case atStart => exact ⟨0, [], w.heap.size, 0, by omega, rfl, rfl, World.ownsRow_made _ #[] 0 (Nat.le_refl _) (Nat.zero_le _) rfl, rfl, List.Pairwise.nil, List.Perm.refl _, (by repeat (first | with_reducible exact Ext.refl _ | with_reducible assumption | with_reducible refine Ext.alloc ?_ _ | with_reducible refine Ext.drew ?_ | (with_reducible refine Ext.setAt ?_ _ _ _ ?_; rotate_left; omega) | with_reducible refine Ext.trans ?_ (by assumption) | with_reducible exact Past.bel _ | with_reducible refine Ext.trans ?_ (Past.bel _)))⟩
  case round =>
    obtain ⟨i, L, g, cap, hi, rfl, rfl, ho, hll, hup, hpm, hx⟩ := hrel
    obtain ⟨wo, rfl⟩ : ∃ wo : World, wo = wr := ⟨_, rfl⟩
    have HO := Lib.hid ho
    have HU := Lib.hid hup
    have HP := Lib.hid hpm
    have x0 : (0 : Int) ≤ (i : Int) := by omega
    have HL := Lib.hid hll
    have hcp := own_cap' ho
    have hgl : g < wo.heap.size := (own_in ho rfl).2
    have hgb : w.heap.size ≤ g := (own_in ho rfl).1
    have hsz := hx.size
    clear ho hup hpm hll
    by_cases hlt : i < n
    · have x1 : (i : Int) < (n : Int) := by omega
      obtain ⟨b1, o1, rfl, hb1, q1⟩ := (HS.out.ext hx).at hlt
      obtain ⟨x, hxv⟩ : ∃ x, x = f i := ⟨_, rfl⟩
      rw [← hxv] at q1
      have HX := Lib.hid hxv
      clear hxv
      go_wp2_with fail
      go_loopw [5] (fun v5 wx => ∃ k : Nat, k ≤ i ∧ v5 = .int .i64 k ∧ (k < i → x < L.getD k 0) ∧ Ext wo wx) (fun v5 _ => (intOf v5).toNat)
      case atStart => exact ⟨i, Nat.le_refl _, rfl, fun h => absurd h (by omega), Ext.refl _⟩
      case round =>
        obtain ⟨k, hk, rfl, hgt, hxk⟩ := hrel
        have y0 : (0 : Int) ≤ (k : Int) := by omega
        have HG := Lib.hid hgt
        clear hgt
        have hglx : g < wr.heap.size := by have := hxk.size; omega
        obtain ⟨b2, o2, e2, hb2, q2⟩ := (HS.out.ext (Ext.trans hx hxk)).at hlt
        obtain ⟨rfl, rfl⟩ : b1 = b2 ∧ o1 = o2 := by simpa using e2
        rw [← HX.out] at q2
        have HOK := Lib.hid (own_ext HO.out hxk)
        have stop : (0 < k → L.getD (k - 1) 0 ≤ x) → (k = 0 → True) → True := fun _ _ => trivial
        clear e2 stop
        have z1 : (k : Int) ≤ (cap : Int) := by omega
        have z2 : (k : Int) ≤ (i : Int) := by omega
        have SK := Lib.hid (fun (w' : World) (hq : Ext wo w') => (show w'.cell? ⟨b1, o1 + i, none⟩ = some (.int .i64 x) from (hq.cell hb1).trans q1))
        have OW := Lib.hid (fun (W : World) (hq : Ext wo W) => l00Own_c g 0 k cap (L.take k) wo.heap.size W (by rw [List.length_take]; have := HL.out; omega) (by omega) (by have := hq.size; omega) (fun j hj => by
          rw [Nat.zero_add, own_gets (own_ext HO.out hq) j (by have := HL.out; omega)]
          simp [List.getD, List.getElem?_take, hj]) (fun _ => by have := hq.size; omega))
        by_cases hk0 : k = 0
        · have y5 : decide (0 < k) = false := decide_eq_false (by omega)
          have y6 : ¬ 0 < k := by omega
          have y7 : ¬ (0 : Int) < (k : Int) := by omega
          clear hk0
          go_wp2_with fail
          refine wp_region_past (by kernel_rfl) (by kernel_rfl) ?_
          repeat (go_big_quiet_step (fail))
          refine wpQuiet_nil ?_
          rintro _ ⟨wx, rfl⟩
          go_wp2_with fail
          have hxq : Ext wo wx.out := (by repeat (first | with_reducible exact Ext.refl _ | with_reducible assumption | with_reducible refine Ext.alloc ?_ _ | with_reducible refine Ext.drew ?_ | (with_reducible refine Ext.setAt ?_ _ _ _ ?_; rotate_left; omega) | with_reducible refine Ext.trans ?_ (by assumption) | with_reducible exact Past.bel _ | with_reducible refine Ext.trans ?_ (Past.bel _)))
          generalize wx.out = wq at hxq ⊢
          have q3 := SK.out wq hxq
          have hgq : g < wq.heap.size := by have := hxq.size; omega
          have hbq : b1 < wq.heap.size := by have := hxq.size; omega
          have hwq := Ext.trans hx hxq
          clear q1 q2 hxk HOK
          go_region_held3 (fun w' => w'.cell? ⟨b1, o1 + i, none⟩ = some (.int .i64 x)) (exact SK.out _ (by repeat (first | with_reducible exact Ext.refl _ | with_reducible assumption | with_reducible refine Ext.alloc ?_ _ | with_reducible refine Ext.drew ?_ | (with_reducible refine Ext.setAt ?_ _ _ _ ?_; rotate_left; omega) | with_reducible refine Ext.trans ?_ (by assumption) | with_reducible exact Past.bel _ | with_reducible refine Ext.trans ?_ (Past.bel _)))) (first | (go_at_call 78; ((with_reducible refine (OW.out _ (by repeat (first | with_reducible exact Ext.refl _ | with_reducible assumption | with_reducible refine Ext.alloc ?_ _ | with_reducible refine Ext.drew ?_ | (with_reducible refine Ext.setAt ?_ _ _ _ ?_; rotate_left; omega) | with_reducible refine Ext.trans ?_ (by assumption) | with_reducible exact Past.bel _ | with_reducible refine Ext.trans ?_ (Past.bel _)))).mono ?_); rintro e w' ⟨vo, rfl, hvo, hxo⟩; (first | (obtain ⟨wy, rfl⟩ := Past.again hxo) | (obtain ⟨wy, rfl⟩ := Past.ofd hxo) | (obtain ⟨wy, rfl⟩ := Past.of hxo)))) | (refine app1s (w0 := wo) 34 2 _ _ (by rfl) (by rfl) Try.underlying34 info_i64 _ (L.take k) x _ (by rfl) (by rfl) (own_ext hvo (by repeat (first | with_reducible exact Ext.refl _ | with_reducible assumption | with_reducible refine Ext.alloc ?_ _ | with_reducible refine Ext.drew ?_ | (with_reducible refine Ext.setAt ?_ _ _ _ ?_; rotate_left; omega) | with_reducible refine Ext.trans ?_ (by assumption) | with_reducible exact Past.bel _ | with_reducible refine Ext.trans ?_ (Past.bel _)))) (by simp [go_sem]) (by rw [List.length_take]; omega) (by repeat (first | with_reducible exact Ext.refl _ | with_reducible assumption | with_reducible refine Ext.alloc ?_ _ | with_reducible refine Ext.drew ?_ | (with_reducible refine Ext.setAt ?_ _ _ _ ?_; rotate_left; omega) | with_reducible refine Ext.trans ?_ (by assumption) | with_reducible exact Past.bel _ | with_reducible refine Ext.trans ?_ (Past.bel _))) ?_; intro v7 w7 ho7 hx7))
          all_goals
            have hll := HL.out
            have hw7 : Ext w w7 := Ext.trans hx hx7
            have hcells : ∀ j, j < i - k → w7.cell? ⟨g, k + j, none⟩ = some (.int .i64 ((L.drop k).getD j 0)) := fun j hj => by
              rw [own_gets (own_ext HO.out hx7) (k + j) (by omega)]
              simp [List.getD]
            have hpl : (L.take k ++ [x] ++ L.drop k).length = i + 1 := by have := putAt_len (l := L) (k := k) (x := x) (by omega); rw [putAt] at this; omega
            have hg7 : g < w7.heap.size := by have := hx7.size; omega
            have HC := Lib.hid hcells
            have HP7 := Lib.hid ho7
            have HPL := Lib.hid hpl
            have hup2 : (putAt L k x).Pairwise (· ≤ ·) := putAt_up HU.out (by omega) (fun h => absurd h y6) (fun h => HG.out (by omega))
            have hpm2 : (putAt L k x).Perm (outs f (i + 1)) := by
              refine (putAt_perm L k x).trans ?_
              rw [HX.out]; exact List.Perm.append_right _ HP.out
            have HU2 := Lib.hid hup2
            have HP2 := Lib.hid hpm2
            have hwz := hx.size
            clear hll hcells ho7 hpl hup2 hpm2
            by_cases hck : cap = k
            · have hki : i = k := by omega
              subst hck
              subst hki
              go_wp2_with (at_builtin; refine appi 34 2 _ _ rfl rfl Try.underlying34 info_i64 wo.heap.size _ (L.take i ++ [x]) (L.drop i) g 0 0 0 rfl (by rw [List.length_drop]; have := HL.out; omega) rfl HP7.out (fun j hj => absurd hj (by omega)) (by rw [List.length_append, List.length_take]; simp; omega) hx7.size ?_; intro v8 w8 s8 s9)
              have hx8 : Ext w w8 := hw7.grown s9 (fun q hq => by have := (HP7.out.lt q hq).1; omega)
              rw [HPL.out] at s8
              obtain ⟨b9, c9, rfl⟩ := own_form s8
              obtain ⟨g9, rfl, _⟩ := own_at s8 (j := 0) (by omega)
              exact ⟨⟨i + 1, _, g9, c9, by omega, by go_num, rfl, own_weaken s8 hwz, HPL.out, HU2.out, HP2.out, hx8⟩, by simp [intOf]; omega⟩
            · have hck2 : k < cap := by omega
              have hck3 : (k : Int) < (cap : Int) := by omega
              go_wp2_with (at_builtin; refine appi 34 2 _ _ rfl rfl Try.underlying34 info_i64 wo.heap.size _ (L.take k ++ [x]) (L.drop k) g k (i - k) (cap - k) rfl (by rw [List.length_drop]; have := HL.out; omega) rfl HP7.out HC.out (by rw [List.length_append, List.length_take]; simp; omega) hx7.size ?_; intro v8 w8 s8 s9)
              have hx8 : Ext w w8 := hw7.grown s9 (fun q hq => by have := (HP7.out.lt q hq).1; omega)
              rw [HPL.out] at s8
              obtain ⟨b9, c9, rfl⟩ := own_form s8
              obtain ⟨g9, rfl, _⟩ := own_at s8 (j := 0) (by omega)
              exact ⟨⟨i + 1, _, g9, c9, by omega, by go_num, rfl, own_weaken s8 hwz, HPL.out, HU2.out, HP2.out, hx8⟩, by simp [intOf]; omega⟩
        · have y1 : (0 : Int) < (k : Int) := by omega
          have y2 : (k : Int) - 1 = ((k - 1 : Nat) : Int) := by omega
          have r1 := own_gets HOK.out (k - 1) (by have := HL.out; omega)
          obtain ⟨y, hy⟩ : ∃ y, y = L.getD (k - 1) 0 := ⟨_, rfl⟩
          rw [← hy] at r1
          have HY := Lib.hid hy
          have y3 : ((k - 1 : Nat) : Int) < (i : Int) := by omega
          have y4 : (0 : Int) ≤ ((k - 1 : Nat) : Int) := by omega
          have y5 : decide (0 < k) = true := decide_eq_true (by omega)
          have y6 : 0 < k := by omega
          clear hy
          by_cases hxy : x < y
          · go_wp2_with fail
            refine wp_region_past (by kernel_rfl) (by kernel_rfl) ?_
            repeat (go_big_quiet_step (fail))
            refine wpQuiet_nil ?_
            rintro _ ⟨wx, rfl⟩
            go_wp2_with fail
            exact ⟨⟨k - 1, by omega, rfl, fun _ => by rw [← HY.out]; exact hxy, (by repeat (first | with_reducible exact Ext.refl _ | with_reducible assumption | with_reducible refine Ext.alloc ?_ _ | with_reducible refine Ext.drew ?_ | (with_reducible refine Ext.setAt ?_ _ _ _ ?_; rotate_left; omega) | with_reducible refine Ext.trans ?_ (by assumption) | with_reducible exact Past.bel _ | with_reducible refine Ext.trans ?_ (Past.bel _)))⟩, by simp [intOf]; omega⟩
          · go_wp2_with fail
            refine wp_region_past (by kernel_rfl) (by kernel_rfl) ?_
            repeat (go_big_quiet_step (fail))
            refine wpQuiet_nil ?_
            rintro _ ⟨wx, rfl⟩
            go_wp2_with fail
            have hxq : Ext wo wx.out := (by repeat (first | with_reducible exact Ext.refl _ | with_reducible assumption | with_reducible refine Ext.alloc ?_ _ | with_reducible refine Ext.drew ?_ | (with_reducible refine Ext.setAt ?_ _ _ _ ?_; rotate_left; omega) | with_reducible refine Ext.trans ?_ (by assumption) | with_reducible exact Past.bel _ | with_reducible refine Ext.trans ?_ (Past.bel _)))
            generalize wx.out = wq at hxq ⊢
            have q3 := SK.out wq hxq
            have hgq : g < wq.heap.size := by have := hxq.size; omega
            have hbq : b1 < wq.heap.size := by have := hxq.size; omega
            have hwq := Ext.trans hx hxq
            clear q1 q2 hxk HOK
            go_region_held3 (fun w' => w'.cell? ⟨b1, o1 + i, none⟩ = some (.int .i64 x)) (exact SK.out _ (by repeat (first | with_reducible exact Ext.refl _ | with_reducible assumption | with_reducible refine Ext.alloc ?_ _ | with_reducible refine Ext.drew ?_ | (with_reducible refine Ext.setAt ?_ _ _ _ ?_; rotate_left; omega) | with_reducible refine Ext.trans ?_ (by assumption) | with_reducible exact Past.bel _ | with_reducible refine Ext.trans ?_ (Past.bel _)))) (first | (go_at_call 78; ((with_reducible refine (OW.out _ (by repeat (first | with_reducible exact Ext.refl _ | with_reducible assumption | with_reducible refine Ext.alloc ?_ _ | with_reducible refine Ext.drew ?_ | (with_reducible refine Ext.setAt ?_ _ _ _ ?_; rotate_left; omega) | with_reducible refine Ext.trans ?_ (by assumption) | with_reducible exact Past.bel _ | with_reducible refine Ext.trans ?_ (Past.bel _)))).mono ?_); rintro e w' ⟨vo, rfl, hvo, hxo⟩; (first | (obtain ⟨wy, rfl⟩ := Past.again hxo) | (obtain ⟨wy, rfl⟩ := Past.ofd hxo) | (obtain ⟨wy, rfl⟩ := Past.of hxo)))) | (refine app1s (w0 := wo) 34 2 _ _ (by rfl) (by rfl) Try.underlying34 info_i64 _ (L.take k) x _ (by rfl) (by rfl) (own_ext hvo (by repeat (first | with_reducible exact Ext.refl _ | with_reducible assumption | with_reducible refine Ext.alloc ?_ _ | with_reducible refine Ext.drew ?_ | (with_reducible refine Ext.setAt ?_ _ _ _ ?_; rotate_left; omega) | with_reducible refine Ext.trans ?_ (by assumption) | with_reducible exact Past.bel _ | with_reducible refine Ext.trans ?_ (Past.bel _)))) (by simp [go_sem]) (by rw [List.length_take]; omega) (by repeat (first | with_reducible exact Ext.refl _ | with_reducible assumption | with_reducible refine Ext.alloc ?_ _ | with_reducible refine Ext.drew ?_ | (with_reducible refine Ext.setAt ?_ _ _ _ ?_; rotate_left; omega) | with_reducible refine Ext.trans ?_ (by assumption) | with_reducible exact Past.bel _ | with_reducible refine Ext.trans ?_ (Past.bel _))) ?_; intro v7 w7 ho7 hx7))
            all_goals
              have hll := HL.out
              have hw7 : Ext w w7 := Ext.trans hx hx7
              have hcells : ∀ j, j < i - k → w7.cell? ⟨g, k + j, none⟩ = some (.int .i64 ((L.drop k).getD j 0)) := fun j hj => by
                rw [own_gets (own_ext HO.out hx7) (k + j) (by omega)]
                simp [List.getD]
              have hpl : (L.take k ++ [x] ++ L.drop k).length = i + 1 := by have := putAt_len (l := L) (k := k) (x := x) (by omega); rw [putAt] at this; omega
              have hg7 : g < w7.heap.size := by have := hx7.size; omega
              have HC := Lib.hid hcells
              have HP7 := Lib.hid ho7
              have HPL := Lib.hid hpl
              have hup2 : (putAt L k x).Pairwise (· ≤ ·) := putAt_up HU.out (by omega) (fun _ => by rw [← HY.out]; omega) (fun h => HG.out (by omega))
              have hpm2 : (putAt L k x).Perm (outs f (i + 1)) := by
                refine (putAt_perm L k x).trans ?_
                rw [HX.out]; exact List.Perm.append_right _ HP.out
              have HU2 := Lib.hid hup2
              have HP2 := Lib.hid hpm2
              have hwz := hx.size
              clear hll hcells ho7 hpl hup2 hpm2
              by_cases hck : cap = k
              · have hki : i = k := by omega
                subst hck
                subst hki
                go_wp2_with (at_builtin; refine appi 34 2 _ _ rfl rfl Try.underlying34 info_i64 wo.heap.size _ (L.take i ++ [x]) (L.drop i) g 0 0 0 rfl (by rw [List.length_drop]; have := HL.out; omega) rfl HP7.out (fun j hj => absurd hj (by omega)) (by rw [List.length_append, List.length_take]; simp; omega) hx7.size ?_; intro v8 w8 s8 s9)
                have hx8 : Ext w w8 := hw7.grown s9 (fun q hq => by have := (HP7.out.lt q hq).1; omega)
                rw [HPL.out] at s8
                obtain ⟨b9, c9, rfl⟩ := own_form s8
                obtain ⟨g9, rfl, _⟩ := own_at s8 (j := 0) (by omega)
                exact ⟨⟨i + 1, _, g9, c9, by omega, by go_num, rfl, own_weaken s8 hwz, HPL.out, HU2.out, HP2.out, hx8⟩, by simp [intOf]; omega⟩
              · have hck2 : k < cap := by omega
                have hck3 : (k : Int) < (cap : Int) := by omega
                go_wp2_with (at_builtin; refine appi 34 2 _ _ rfl rfl Try.underlying34 info_i64 wo.heap.size _ (L.take k ++ [x]) (L.drop k) g k (i - k) (cap - k) rfl (by rw [List.length_drop]; have := HL.out; omega) rfl HP7.out HC.out (by rw [List.length_append, List.length_take]; simp; omega) hx7.size ?_; intro v8 w8 s8 s9)
                have hx8 : Ext w w8 := hw7.grown s9 (fun q hq => by have := (HP7.out.lt q hq).1; omega)
                rw [HPL.out] at s8
                obtain ⟨b9, c9, rfl⟩ := own_form s8
                obtain ⟨g9, rfl, _⟩ := own_at s8 (j := 0) (by omega)
                exact ⟨⟨i + 1, _, g9, c9, by omega, by go_num, rfl, own_weaken s8 hwz, HPL.out, HU2.out, HP2.out, hx8⟩, by simp [intOf]; omega⟩
    · have x1 : ¬ (i : Int) < (n : Int) := by omega
      obtain rfl : i = n := by omega
      go_wp2_with fail
      go_ret
      refine ⟨some ⟨g, 0, none⟩, cap, rfl, ?_, hx⟩
      have h2 := HO.out
      rw [srt_of HU.out HP.out] at h2
      exact h2
end Go.Proofs.Ytmbpjlgeneemjaa

namespace Go.Proofs.Ytmbpjlgeneemjaa
open Go.RowKit
set_option linter.unusedVariables false
set_option linter.unusedSimpArgs false

theorem sq_succ (o : Nat → Int) (k : Nat) : sq o (k + 1) = sq o k + o k * o k := rfl
set_option maxRecDepth 100000 in
set_option maxHeartbeats 1000000 in
theorem l14Spread_c (a : Option Addr) (n c : Nat) (f o : Nat → Int) (w : World) (r : OffB n o) (hs : S2 w a n f o) :
    Calls Try.prog 49 #[.slice a n c] w fun e w' => e = .returned (.int .i64 (spr n o)) ∧ Ext w w' := by
  have HS := Lib.hid hs
  have hn := r.n60
  clear hs
  go_enter Try.func49, Try.ntmps49
  go_wp2_with fail
  go_loopw [3, 4, 5] (fun s q i wr => ∃ k : Nat, k ≤ n ∧ i = .int .i64 k ∧ Ext w wr ∧ s = .int .i64 (sm o k) ∧ q = .int .i64 (sq o k)) (fun _ _ i _ => n - (intOf i).toNat)
  case atStart => exact ⟨0, by omega, rfl, Ext.refl _, rfl, rfl⟩
  case round =>
    obtain ⟨k, hk, rfl, hbl, rfl, rfl⟩ := hrel
    obtain ⟨x0, x1⟩ := r.s hk
    obtain ⟨y0, y1⟩ := r.q hk
    by_cases hlt : k < n
    · obtain ⟨b1, o1, rfl, hb1, q1, q2⟩ := (S2.ext HS.out hbl).at hlt
      obtain ⟨z0, z1⟩ := r.oo hlt
      obtain ⟨g0, g1⟩ := r.bo k hlt
      have R := Lib.hid r
      clear r
      go_wp2_with fail
      refine wp_region_past (by kernel_rfl) (by kernel_rfl) ?_
      repeat (go_big_quiet_step (fail))
      refine wpQuiet_nil ?_
      rintro _ ⟨wx, rfl⟩
      go_wp2_with fail
      exact ⟨⟨k + 1, by omega, by go_num, (by repeat (first | with_reducible exact Ext.refl _ | with_reducible assumption | with_reducible refine Ext.alloc ?_ _ | with_reducible refine Ext.drew ?_ | (with_reducible refine Ext.setAt ?_ _ _ _ ?_; rotate_left; omega) | with_reducible refine Ext.trans ?_ (by assumption) | with_reducible exact Past.bel _ | with_reducible refine Ext.trans ?_ (Past.bel _))), rfl, rfl⟩, by simp [intOf]; omega⟩
    · obtain rfl : k = n := by omega
      obtain ⟨z0, z1⟩ := r.ss (Nat.le_refl k)
      have z2 : 0 ≤ (k : Int) * sq o k ∧ (k : Int) * sq o k ≤ 36000000000000 := by have := mul_nn (a := (k : Int)) (A := 60) (by omega) (by omega) y0 y1; omega
      obtain ⟨z2, z3⟩ := z2
      have R := Lib.hid r
      clear r
      go_wp2_with fail
      go_ret
      exact ⟨rfl, (by repeat (first | with_reducible exact Ext.refl _ | with_reducible assumption | with_reducible refine Ext.alloc ?_ _ | with_reducible refine Ext.drew ?_ | (with_reducible refine Ext.setAt ?_ _ _ _ ?_; rotate_left; omega) | with_reducible refine Ext.trans ?_ (by assumption) | with_reducible exact Past.bel _ | with_reducible refine Ext.trans ?_ (Past.bel _)))⟩
end Go.Proofs.Ytmbpjlgeneemjaa

namespace Go.Proofs.Ytmbpjlgeneemjaa
open Go.RowKit
set_option linter.unusedVariables false
set_option linter.unusedSimpArgs false

theorem field_fit2 (c x y xx xy : Int) (w : World) : (Instr.field 38 (.agg #[.int .i64 c, .int .i64 x, .int .i64 y, .int .i64 xx, .int .i64 xy]) 2).run Try.prog w = .ok (.int .i64 y) w := by kernel_rfl
set_option maxRecDepth 100000 in
set_option maxHeartbeats 2000000 in
theorem implBestChange_c (a : Option Addr) (n c : Nat) (f o : Nat → Int) (w : World) (hn : n ≤ 1048576) (hs : S2 w a n f o) :
    Calls Try.prog 11 #[.slice a n c] w fun e w' => e = .returned (.tuple #[.int .i64 (bcRes n f o), .int .i64 (bcCode n f o)]) ∧ Ext w w' := by
  have HS := Lib.hid hs
  clear hs
  by_cases hv : rdV n f o = true
  · have HV := Lib.hid hv
    by_cases h2 : n < 2
    · go_enter Try.func11, Try.ntmps11
      go_wp2_with (go_at_call 20; ((with_reducible refine (validReadings_c _ _ _ _ _ _ hn (HS.out.ext (by repeat (first | with_reducible exact Ext.refl _ | with_reducible assumption | with_reducible refine Ext.alloc ?_ _ | with_reducible refine Ext.drew ?_ | (with_reducible refine Ext.setAt ?_ _ _ _ ?_; rotate_left; omega) | with_reducible refine Ext.trans ?_ (by assumption) | with_reducible exact Past.bel _ | with_reducible refine Ext.trans ?_ (Past.bel _))))).mono ?_); rintro e w' ⟨rfl, hx⟩; (first | (obtain ⟨wx, rfl⟩ := Past.again hx) | (obtain ⟨wx, rfl⟩ := Past.ofd hx) | (obtain ⟨wx, rfl⟩ := Past.of hx))))
      go_ret2
      have e1 : bcCode n f o = 6 := by simp [bcCode, HV.out, h2]
      exact ⟨by rw [bcRes, e1]; rfl, (by repeat (first | with_reducible exact Ext.refl _ | with_reducible assumption | with_reducible refine Ext.alloc ?_ _ | with_reducible refine Ext.drew ?_ | (with_reducible refine Ext.setAt ?_ _ _ _ ?_; rotate_left; omega) | with_reducible refine Ext.trans ?_ (by assumption) | with_reducible exact Past.bel _ | with_reducible refine Ext.trans ?_ (Past.bel _)))⟩
    · have ob := offB_of (rb_of hv)
      have h60 := ob.n60
      have hfl := field_fit2
      go_enter Try.func11, Try.ntmps11
      go_wp2_with (first | (go_at_call 20; ((with_reducible refine (validReadings_c _ _ _ _ _ _ hn (HS.out.ext (by repeat (first | with_reducible exact Ext.refl _ | with_reducible assumption | with_reducible refine Ext.alloc ?_ _ | with_reducible refine Ext.drew ?_ | (with_reducible refine Ext.setAt ?_ _ _ _ ?_; rotate_left; omega) | with_reducible refine Ext.trans ?_ (by assumption) | with_reducible exact Past.bel _ | with_reducible refine Ext.trans ?_ (Past.bel _))))).mono ?_); rintro e w' ⟨rfl, hx⟩; (first | (obtain ⟨wx, rfl⟩ := Past.again hx) | (obtain ⟨wx, rfl⟩ := Past.ofd hx) | (obtain ⟨wx, rfl⟩ := Past.of hx)))) | (go_at_call 47; ((with_reducible refine (fitOf_c _ _ _ _ _ _ HV.out (HS.out.ext (by repeat (first | with_reducible exact Ext.refl _ | with_reducible assumption | with_reducible refine Ext.alloc ?_ _ | with_reducible refine Ext.drew ?_ | (with_reducible refine Ext.setAt ?_ _ _ _ ?_; rotate_left; omega) | with_reducible refine Ext.trans ?_ (by assumption) | with_reducible exact Past.bel _ | with_reducible refine Ext.trans ?_ (Past.bel _))))).mono ?_); rintro e w' ⟨rfl, hx⟩; (first | (obtain ⟨wx, rfl⟩ := Past.again hx) | (obtain ⟨wx, rfl⟩ := Past.ofd hx) | (obtain ⟨wx, rfl⟩ := Past.of hx)))))
      go_loopw [6, 7, 8, 9, 10] (fun b u d s i wr => ∃ j : Nat, j + 1 ≤ n ∧ i = .int .i64 ((j : Int) + 1) ∧ Ext w wr ∧ b = .int .i64 (bc n o j).1 ∧ u = .int .i64 (bc n o j).2.1 ∧ d = .int .i64 (bc n o j).2.2 ∧ s = .int .i64 (sm o j)) (fun _ _ _ _ i _ => n - (intOf i).toNat)
      case atStart => exact ⟨0, by omega, rfl, (by repeat (first | with_reducible exact Ext.refl _ | with_reducible assumption | with_reducible refine Ext.alloc ?_ _ | with_reducible refine Ext.drew ?_ | (with_reducible refine Ext.setAt ?_ _ _ _ ?_; rotate_left; omega) | with_reducible refine Ext.trans ?_ (by assumption) | with_reducible exact Past.bel _ | with_reducible refine Ext.trans ?_ (Past.bel _))), rfl, rfl, rfl, rfl⟩
      case round =>
        obtain ⟨j, hj, rfl, hbl, rfl, rfl, rfl, rfl⟩ := hrel
        by_cases hlt : j + 1 < n
        · obtain ⟨b1, o1, rfl, hb1, q1, q2⟩ := (S2.ext HS.out hbl).at (show j < n by omega)
          obtain ⟨m1, m2, m3, m4, m5, m6, m7, m8, m9, m10, m11, m12, m13, m14, m15, m16, m17, m18, m19, m20⟩ := bw_of ob hlt
          have OB := Lib.hid ob
          clear ob
          go_wp2_with fail
          · have ht := bc_t (n := n) (o := o) (j := j) (by assumption)
            exact ⟨⟨j + 1, by omega, by go_num, (by repeat (first | with_reducible exact Ext.refl _ | with_reducible assumption | with_reducible refine Ext.alloc ?_ _ | with_reducible refine Ext.drew ?_ | (with_reducible refine Ext.setAt ?_ _ _ _ ?_; rotate_left; omega) | with_reducible refine Ext.trans ?_ (by assumption) | with_reducible exact Past.bel _ | with_reducible refine Ext.trans ?_ (Past.bel _))), by rw [ht.1], by rw [ht.2.1], by rw [ht.2.2], rfl⟩, by simp [intOf]; omega⟩
          · have ht := bc_f' (n := n) (o := o) (j := j) (by assumption)
            exact ⟨⟨j + 1, by omega, by go_num, (by repeat (first | with_reducible exact Ext.refl _ | with_reducible assumption | with_reducible refine Ext.alloc ?_ _ | with_reducible refine Ext.drew ?_ | (with_reducible refine Ext.setAt ?_ _ _ _ ?_; rotate_left; omega) | with_reducible refine Ext.trans ?_ (by assumption) | with_reducible exact Past.bel _ | with_reducible refine Ext.trans ?_ (Past.bel _))), by rw [ht], by rw [ht], by rw [ht], rfl⟩, by simp [intOf]; omega⟩
        · obtain ⟨k0, k1⟩ : (bc n o j).1 = bcRes n f o ∧ bcCode n f o = 0 := by
            have e : bcCode n f o = 0 := by simp [bcCode, HV.out, h2]
            refine ⟨?_, e⟩
            rw [bcRes, if_pos e]; congr 2; omega
          have K0 := Lib.hid k0
          have K1 := Lib.hid k1
          clear k0 k1
          go_wp2_with fail
          go_ret2
          exact ⟨ret_two (congrArg _ K0.out) (congrArg _ K1.out.symm), (by repeat (first | with_reducible exact Ext.refl _ | with_reducible assumption | with_reducible refine Ext.alloc ?_ _ | with_reducible refine Ext.drew ?_ | (with_reducible refine Ext.setAt ?_ _ _ _ ?_; rotate_left; omega) | with_reducible refine Ext.trans ?_ (by assumption) | with_reducible exact Past.bel _ | with_reducible refine Ext.trans ?_ (Past.bel _)))⟩
  · have hf : rdV n f o = false := by simpa using hv
    go_enter Try.func11, Try.ntmps11
    go_wp2_with (go_at_call 20; ((with_reducible refine (validReadings_c _ _ _ _ _ _ hn (HS.out.ext (by repeat (first | with_reducible exact Ext.refl _ | with_reducible assumption | with_reducible refine Ext.alloc ?_ _ | with_reducible refine Ext.drew ?_ | (with_reducible refine Ext.setAt ?_ _ _ _ ?_; rotate_left; omega) | with_reducible refine Ext.trans ?_ (by assumption) | with_reducible exact Past.bel _ | with_reducible refine Ext.trans ?_ (Past.bel _))))).mono ?_); rintro e w' ⟨rfl, hx⟩; (first | (obtain ⟨wx, rfl⟩ := Past.again hx) | (obtain ⟨wx, rfl⟩ := Past.ofd hx) | (obtain ⟨wx, rfl⟩ := Past.of hx))))
    go_ret2
    have e1 : bcCode n f o = 1 := by simp [bcCode, hf]
    exact ⟨by rw [bcRes, e1]; rfl, (by repeat (first | with_reducible exact Ext.refl _ | with_reducible assumption | with_reducible refine Ext.alloc ?_ _ | with_reducible refine Ext.drew ?_ | (with_reducible refine Ext.setAt ?_ _ _ _ ?_; rotate_left; omega) | with_reducible refine Ext.trans ?_ (by assumption) | with_reducible exact Past.bel _ | with_reducible refine Ext.trans ?_ (Past.bel _)))⟩
end Go.Proofs.Ytmbpjlgeneemjaa

namespace Go.Proofs.Ytmbpjlgeneemjaa
open Go.RowKit
set_option linter.unusedVariables false
set_option linter.unusedSimpArgs false

/-- the first k elements; the elements from k on -/
theorem S2.left {w : World} {b off n k : Nat} {h o : Nat → Int} (s : S2 w (some ⟨b, off, none⟩) n h o) (hk : k ≤ n) : S2 w (some ⟨b, off, none⟩) k h o := fun hp => by
  obtain ⟨b', off', e, hb, hc⟩ := s (by omega)
  exact ⟨b', off', e, hb, fun j hj => hc j (by omega)⟩
theorem S2.right {w : World} {b off n k : Nat} {h o : Nat → Int} (s : S2 w (some ⟨b, off, none⟩) n h o) (hk : k ≤ n) : S2 w (some ⟨b, off + k * 2, none⟩) (n - k) (fun i => h (i + k)) (fun i => o (i + k)) := fun hp => by
  obtain ⟨b', off', e, hb, hc⟩ := s (by omega)
  simp only [Option.some.injEq, Addr.mk.injEq, and_true] at e
  obtain ⟨rfl, rfl⟩ := e
  refine ⟨b, _, rfl, hb, fun j hj => ?_⟩
  have := hc (j + k) (by omega)
  rw [show off + k * 2 + j * 2 = off + (j + k) * 2 by omega]
  exact this
set_option maxRecDepth 100000 in
set_option maxHeartbeats 2000000 in
theorem specBestChange_c (a : Option Addr) (n c : Nat) (f o : Nat → Int) (w : World) (hn : n ≤ 1048576) (hnc : n ≤ c) (hs : S2 w a n f o) :
    Calls Try.prog 12 #[.slice a n c] w fun e w' => e = .returned (.tuple #[.int .i64 (bcRes n f o), .int .i64 (bcCode n f o)]) ∧ Ext w w' := by
  have HS := Lib.hid hs
  clear hs
  by_cases hv : rdV n f o = true
  · have HV := Lib.hid hv
    by_cases h2 : n < 2
    · go_enter Try.func12, Try.ntmps12
      go_wp2_with (go_at_call 48; ((with_reducible refine (l14Ok_c _ _ _ _ _ _ hn (HS.out.ext (by repeat (first | with_reducible exact Ext.refl _ | with_reducible assumption | with_reducible refine Ext.alloc ?_ _ | with_reducible refine Ext.drew ?_ | (with_reducible refine Ext.setAt ?_ _ _ _ ?_; rotate_left; omega) | with_reducible refine Ext.trans ?_ (by assumption) | with_reducible exact Past.bel _ | with_reducible refine Ext.trans ?_ (Past.bel _))))).mono ?_); rintro e w' ⟨rfl, hx⟩; (first | (obtain ⟨wx, rfl⟩ := Past.again hx) | (obtain ⟨wx, rfl⟩ := Past.ofd hx) | (obtain ⟨wx, rfl⟩ := Past.of hx))))
      go_ret2
      have e1 : bcCode n f o = 6 := by simp [bcCode, HV.out, h2]
      exact ⟨by rw [bcRes, e1]; rfl, (by repeat (first | with_reducible exact Ext.refl _ | with_reducible assumption | with_reducible refine Ext.alloc ?_ _ | with_reducible refine Ext.drew ?_ | (with_reducible refine Ext.setAt ?_ _ _ _ ?_; rotate_left; omega) | with_reducible refine Ext.trans ?_ (by assumption) | with_reducible exact Past.bel _ | with_reducible refine Ext.trans ?_ (Past.bel _)))⟩
    · have ob := offB_of (rb_of hv)
      have h60 := ob.n60
      go_enter Try.func12, Try.ntmps12
      go_wp2_with (first | (go_at_call 48; ((with_reducible refine (l14Ok_c _ _ _ _ _ _ hn (HS.out.ext (by repeat (first | with_reducible exact Ext.refl _ | with_reducible assumption | with_reducible refine Ext.alloc ?_ _ | with_reducible refine Ext.drew ?_ | (with_reducible refine Ext.setAt ?_ _ _ _ ?_; rotate_left; omega) | with_reducible refine Ext.trans ?_ (by assumption) | with_reducible exact Past.bel _ | with_reducible refine Ext.trans ?_ (Past.bel _))))).mono ?_); rintro e w' ⟨rfl, hx⟩; (first | (obtain ⟨wx, rfl⟩ := Past.again hx) | (obtain ⟨wx, rfl⟩ := Past.ofd hx) | (obtain ⟨wx, rfl⟩ := Past.of hx)))))
      go_loopw [4, 5, 6, 7] (fun b u d i wr => ∃ j : Nat, j + 1 ≤ n ∧ i = .int .i64 ((j : Int) + 1) ∧ Ext w wr ∧ b = .int .i64 (bc n o j).1 ∧ u = .int .i64 (bcN n o j) ∧ d = .int .i64 (bc n o j).2.2) (fun _ _ _ i _ => n - (intOf i).toNat)
      case atStart => exact ⟨0, by omega, rfl, (by repeat (first | with_reducible exact Ext.refl _ | with_reducible assumption | with_reducible refine Ext.alloc ?_ _ | with_reducible refine Ext.drew ?_ | (with_reducible refine Ext.setAt ?_ _ _ _ ?_; rotate_left; omega) | with_reducible refine Ext.trans ?_ (by assumption) | with_reducible exact Past.bel _ | with_reducible refine Ext.trans ?_ (Past.bel _))), rfl, rfl, rfl⟩
      case round =>
        obtain ⟨j, hj, rfl, hbl, rfl, rfl, rfl⟩ := hrel
        by_cases hlt : j + 1 < n
        · obtain ⟨b1, o1, rfl, hb1, q1, q2⟩ := (S2.ext HS.out hbl).at (show j < n by omega)
          obtain ⟨m1, m2, m3, m4, m5, m6, m7, m8, m9, m10, m11, m12, m13, m14⟩ := br_of ob hlt
          have sr := S2.ext HS.out hbl
          have SL := Lib.hid (sr.left (k := j + 1) (by omega))
          have SR := Lib.hid (sr.right (k := j + 1) (by omega))
          clear sr
          have OB := Lib.hid ob
          clear ob
          have hck : ¬ c = j + 1 := by omega
          go_wp2_with fail
          refine wp_region_past (by kernel_rfl) (by kernel_rfl) ?_
          repeat (go_big_quiet_step ((first | (go_at_call 49; exact Calls.past (l14Spread_c _ _ _ _ _ _ (OB.out.le (by omega)) (SL.out.ext (Past.bel _)))) | (go_at_call 49; exact Calls.past (l14Spread_c _ _ _ _ _ _ (OB.out.tail (by omega)) (SR.out.ext (Past.bel _)))))))
          refine wpQuiet_nil ?_
          rintro _ ⟨wx, rfl⟩
          by_cases h0 : j = 0
          · have hb0 : ((bc n o j).1 == 0) = true := by simpa using (bst OB.out (j := j) (by omega)).z.2 h0
            have H0 := Lib.hid h0
            clear h0
            go_wp2_with fail
            have t := r_first OB.out hlt H0.out
            exact ⟨⟨j + 1, by omega, by go_num, (by repeat (first | with_reducible exact Ext.refl _ | with_reducible assumption | with_reducible refine Ext.alloc ?_ _ | with_reducible refine Ext.drew ?_ | (with_reducible refine Ext.setAt ?_ _ _ _ ?_; rotate_left; omega) | with_reducible refine Ext.trans ?_ (by assumption) | with_reducible exact Past.bel _ | with_reducible refine Ext.trans ?_ (Past.bel _))), congrArg _ t.1.symm, congrArg _ t.2.2, congrArg _ t.2.1.symm⟩, by simp [intOf]; omega⟩
          · have hb0 : ((bc n o j).1 == 0) = false := by simpa using fun e => h0 ((bst OB.out (j := j) (by omega)).z.1 e)
            go_wp2_with fail
            · have t := r_better hlt h0 (by assumption)
              exact ⟨⟨j + 1, by omega, by go_num, (by repeat (first | with_reducible exact Ext.refl _ | with_reducible assumption | with_reducible refine Ext.alloc ?_ _ | with_reducible refine Ext.drew ?_ | (with_reducible refine Ext.setAt ?_ _ _ _ ?_; rotate_left; omega) | with_reducible refine Ext.trans ?_ (by assumption) | with_reducible exact Past.bel _ | with_reducible refine Ext.trans ?_ (Past.bel _))), congrArg _ t.1.symm, congrArg _ t.2.2, congrArg _ t.2.1.symm⟩, by simp [intOf]; omega⟩
            · have t := r_not hlt h0 (by assumption)
              exact ⟨⟨j + 1, by omega, by go_num, (by repeat (first | with_reducible exact Ext.refl _ | with_reducible assumption | with_reducible refine Ext.alloc ?_ _ | with_reducible refine Ext.drew ?_ | (with_reducible refine Ext.setAt ?_ _ _ _ ?_; rotate_left; omega) | with_reducible refine Ext.trans ?_ (by assumption) | with_reducible exact Past.bel _ | with_reducible refine Ext.trans ?_ (Past.bel _))), by rw [t.1], by rw [t.2], by rw [t.1]⟩, by simp [intOf]; omega⟩
        · obtain ⟨k0, k1⟩ : (bc n o j).1 = bcRes n f o ∧ bcCode n f o = 0 := by
            have e : bcCode n f o = 0 := by simp [bcCode, HV.out, h2]
            refine ⟨?_, e⟩
            rw [bcRes, if_pos e]; congr 2; omega
          have K0 := Lib.hid k0
          have K1 := Lib.hid k1
          clear k0 k1
          go_wp2_with fail
          go_ret2
          exact ⟨ret_two (congrArg _ K0.out) (congrArg _ K1.out.symm), (by repeat (first | with_reducible exact Ext.refl _ | with_reducible assumption | with_reducible refine Ext.alloc ?_ _ | with_reducible refine Ext.drew ?_ | (with_reducible refine Ext.setAt ?_ _ _ _ ?_; rotate_left; omega) | with_reducible refine Ext.trans ?_ (by assumption) | with_reducible exact Past.bel _ | with_reducible refine Ext.trans ?_ (Past.bel _)))⟩
  · have hf : rdV n f o = false := by simpa using hv
    go_enter Try.func12, Try.ntmps12
    go_wp2_with (go_at_call 48; ((with_reducible refine (l14Ok_c _ _ _ _ _ _ hn (HS.out.ext (by repeat (first | with_reducible exact Ext.refl _ | with_reducible assumption | with_reducible refine Ext.alloc ?_ _ | with_reducible refine Ext.drew ?_ | (with_reducible refine Ext.setAt ?_ _ _ _ ?_; rotate_left; omega) | with_reducible refine Ext.trans ?_ (by assumption) | with_reducible exact Past.bel _ | with_reducible refine Ext.trans ?_ (Past.bel _))))).mono ?_); rintro e w' ⟨rfl, hx⟩; (first | (obtain ⟨wx, rfl⟩ := Past.again hx) | (obtain ⟨wx, rfl⟩ := Past.ofd hx) | (obtain ⟨wx, rfl⟩ := Past.of hx))))
    go_ret2
    have e1 : bcCode n f o = 1 := by simp [bcCode, hf]
    exact ⟨by rw [bcRes, e1]; rfl, (by repeat (first | with_reducible exact Ext.refl _ | with_reducible assumption | with_reducible refine Ext.alloc ?_ _ | with_reducible refine Ext.drew ?_ | (with_reducible refine Ext.setAt ?_ _ _ _ ?_; rotate_left; omega) | with_reducible refine Ext.trans ?_ (by assumption) | with_reducible exact Past.bel _ | with_reducible refine Ext.trans ?_ (Past.bel _)))⟩
end Go.Proofs.Ytmbpjlgeneemjaa

namespace Go.Proofs
open Go.Shelf
def Try.lays128_ren : Go.Shelf.Ren := ⟨fun | 128 => 88 | n => n, fun | 51 => 93 | 3 => 3 | 4 => 4 | 46 => 64 | 5 => 5 | 9 => 9 | n => n, fun | n => n⟩
theorem Try.lays128 : Go.Proofs.Lays.n128 Try.prog Try.lays128_ren := {
  mixed := by kernel_rfl
  f128 := Try.func88.trans (congrArg some (by kernel_rfl))
  t3 := Try.underlying3
  a3 := Try.isAgg3
  z3 := Try.sizeOf3
  v3 := Try.zeroValue3
  t4 := Try.underlying4
  a4 := Try.isAgg4
  z4 := Try.sizeOf4
  v4 := Try.zeroValue4
  t5 := Try.underlying5
  a5 := Try.isAgg5
  z5 := Try.sizeOf5
  v5 := Try.zeroValue5
  t9 := Try.underlying9
  a9 := Try.isAgg9
  z9 := Try.sizeOf9
  v9 := Try.zeroValue9
  t46 := Try.underlying64
  a46 := Try.isAgg64
  z46 := Try.sizeOf64
  v46 := Try.zeroValue64
  t51 := Try.underlying93
  a51 := Try.isAgg93
  z51 := Try.sizeOf93
  v51 := Try.zeroValue93 }
theorem Try.bits_Len32 (x : Int) (w : World) (h0 : 0 ≤ x) (h1 : x ≤ 4294967295) :
    Calls Try.prog 88 #[.int .u32 x] w fun e w' => e = .returned (.int .i64 (Lib.bitLen x.toNat)) ∧ w' = w := Any.bits_Len32 Try.lays128 x w h0 h1
def Try.lays125_ren : Go.Shelf.Ren := ⟨fun | 125 => 77 | 128 => 88 | 129 => 89 | n => n, fun | 46 => 64 | 3 => 3 | 51 => 93 | 53 => 30 | 4 => 4 | 5 => 5 | 9 => 9 | n => n, fun | n => n⟩
theorem Try.lays125 : Go.Proofs.Lays.n125 Try.prog Try.lays125_ren := {
  mixed := by kernel_rfl
  f125 := Try.func77.trans (congrArg some (by kernel_rfl))
  f128 := Try.func88.trans (congrArg some (by kernel_rfl))
  f129 := Try.func89.trans (congrArg some (by kernel_rfl))
  t3 := Try.underlying3
  a3 := Try.isAgg3
  z3 := Try.sizeOf3
  v3 := Try.zeroValue3
  t4 := Try.underlying4
  a4 := Try.isAgg4
  z4 := Try.sizeOf4
  v4 := Try.zeroValue4
  t5 := Try.underlying5
  a5 := Try.isAgg5
  z5 := Try.sizeOf5
  v5 := Try.zeroValue5
  t9 := Try.underlying9
  a9 := Try.isAgg9
  z9 := Try.sizeOf9
  v9 := Try.zeroValue9
  t46 := Try.underlying64
  a46 := Try.isAgg64
  z46 := Try.sizeOf64
  v46 := Try.zeroValue64
  t51 := Try.underlying93
  a51 := Try.isAgg93
  z51 := Try.sizeOf93
  v51 := Try.zeroValue93
  t53 := Try.underlying30
  a53 := Try.isAgg30
  z53 := Try.sizeOf30
  v53 := Try.zeroValue30 }
theorem Try.bits_Len (x : Int) (w : World) (h0 : 0 ≤ x) (h1 : x ≤ 18446744073709551615) :
    Calls Try.prog 77 #[.int .u64 x] w fun e w' => e = .returned (.int .i64 (Lib.bitLen x.toNat)) ∧ w' = w := Any.bits_Len Try.lays125 x w h0 h1
def Try.lays129_ren : Go.Shelf.Ren := ⟨fun | 129 => 89 | n => n, fun | 53 => 30 | 3 => 3 | 4 => 4 | 46 => 64 | 5 => 5 | 9 => 9 | n => n, fun | n => n⟩
theorem Try.lays129 : Go.Proofs.Lays.n129 Try.prog Try.lays129_ren := {
  mixed := by kernel_rfl
  f129 := Try.func89.trans (congrArg some (by kernel_rfl))
  t3 := Try.underlying3
  a3 := Try.isAgg3
  z3 := Try.sizeOf3
  v3 := Try.zeroValue3
  t4 := Try.underlying4
  a4 := Try.isAgg4
  z4 := Try.sizeOf4
  v4 := Try.zeroValue4
  t5 := Try.underlying5
  a5 := Try.isAgg5
  z5 := Try.sizeOf5
  v5 := Try.zeroValue5
  t9 := Try.underlying9
  a9 := Try.isAgg9
  z9 := Try.sizeOf9
  v9 := Try.zeroValue9
  t46 := Try.underlying64
  a46 := Try.isAgg64
  z46 := Try.sizeOf64
  v46 := Try.zeroValue64
  t53 := Try.underlying30
  a53 := Try.isAgg30
  z53 := Try.sizeOf30
  v53 := Try.zeroValue30 }
theorem Try.bits_Len64 (x : Int) (w : World) (h0 : 0 ≤ x) (h1 : x ≤ 18446744073709551615) :
    Calls Try.prog 89 #[.int .u64 x] w fun e w' => e = .returned (.int .i64 (Lib.bitLen x.toNat)) ∧ w' = w := Any.bits_Len64 Try.lays129 x w h0 h1
def Try.laysSlN68_f95_ren : Go.Shelf.Ren := ⟨fun | 68 => 95 | n => n, fun | 23 => 2 | 4 => 4 | n => n, fun | n => n⟩
theorem Try.laysSlN68_f95 : Go.Proofs.SlLaysN.n68 Try.prog Try.laysSlN68_f95_ren := {
  mixed := by kernel_rfl
  f68 := ⟨Try.f95.name, by decide, Try.func95.trans (congrArg some (by kernel_rfl))⟩
  t4 := Try.underlying4
  a4 := Try.isAgg4
  z4 := Try.sizeOf4
  v4 := Try.zeroValue4
  t23 := Try.underlying2
  a23 := Try.isAgg2
  z23 := Try.sizeOf2
  v23 := Try.zeroValue2 }
open Go.RowKit Go.Lib in
theorem Try.cmp_isNaN_int2 (x : Int) (w : World) :
    Calls Try.prog 95 #[.int .i64 x] w fun e w' => e = .returned (.bool false) ∧ w' = w := AnyG.cmp_isNaN_int2 Try.laysSlN68_f95 x w
def Try.laysSlN59_f85_ren : Go.Shelf.Ren := ⟨fun | 59 => 85 | 68 => 95 | n => n, fun | 23 => 2 | 4 => 4 | n => n, fun | n => n⟩
theorem Try.laysSlN59_f85 : Go.Proofs.SlLaysN.n59 Try.prog Try.laysSlN59_f85_ren := {
  mixed := by kernel_rfl
  f59 := ⟨Try.f85.name, by decide, Try.func85.trans (congrArg some (by kernel_rfl))⟩
  f68 := ⟨Try.f95.name, by decide, Try.func95.trans (congrArg some (by kernel_rfl))⟩
  t4 := Try.underlying4
  a4 := Try.isAgg4
  z4 := Try.sizeOf4
  v4 := Try.zeroValue4
  t23 := Try.underlying2
  a23 := Try.isAgg2
  z23 := Try.sizeOf2
  v23 := Try.zeroValue2 }
open Go.RowKit Go.Lib in
theorem Try.cmp_Less_int2 (x y : Int) (w : World) :
    Calls Try.prog 85 #[.int .i64 x, .int .i64 y] w fun e w' => e = .returned (.bool (decide (x < y))) ∧ w' = w := AnyG.cmp_Less_int2 Try.laysSlN59_f85 x y w
def Try.laysSlM5_f69_ren : Go.Shelf.Ren := ⟨fun | 5 => 69 | 8 => 77 | 7 => 76 | 19 => 88 | 20 => 89 | 10 => 79 | 11 => 80 | 12 => 81 | 13 => 82 | 14 => 83 | 15 => 84 | 16 => 85 | 17 => 86 | 18 => 87 | 30 => 90 | 31 => 91 | 32 => 92 | 33 => 93 | 34 => 94 | 35 => 95 | 40 => 96 | n => n, fun | 23 => 34 | 25 => 2 | 3 => 3 | 32 => 64 | 22 => 34 | 0 => 0 | 44 => 93 | 46 => 30 | 4 => 4 | 36 => 85 | 35 => 84 | 41 => 90 | 5 => 5 | 9 => 9 | 53 => 95 | 57 => 99 | 63 => 101 | 64 => 102 | n => n, fun | n => n⟩
theorem Try.laysSlM5_f69 : Go.Proofs.SlLaysM.n5 Try.prog Try.laysSlM5_f69_ren := {
  mixed := by kernel_rfl
  f5 := ⟨Try.f69.name, by decide, Try.func69.trans (congrArg some (by kernel_rfl))⟩
  f7 := ⟨Try.f76.name, by decide, Try.func76.trans (congrArg some (by kernel_rfl))⟩
  f8 := Try.func77.trans (congrArg some (by kernel_rfl))
  f10 := ⟨Try.f79.name, by decide, Try.func79.trans (congrArg some (by kernel_rfl))⟩
  f11 := ⟨Try.f80.name, by decide, Try.func80.trans (congrArg some (by kernel_rfl))⟩
  f12 := ⟨Try.f81.name, by decide, Try.func81.trans (congrArg some (by kernel_rfl))⟩
  f13 := ⟨Try.f82.name, by decide, Try.func82.trans (congrArg some (by kernel_rfl))⟩
  f14 := ⟨Try.f83.name, by decide, Try.func83.trans (congrArg some (by kernel_rfl))⟩
  f15 := ⟨Try.f84.name, by decide, Try.func84.trans (congrArg some (by kernel_rfl))⟩
  f16 := ⟨Try.f85.name, by decide, Try.func85.trans (congrArg some (by kernel_rfl))⟩
  f17 := ⟨Try.f86.name, by decide, Try.func86.trans (congrArg some (by kernel_rfl))⟩
  f18 := ⟨Try.f87.name, by decide, Try.func87.trans (congrArg some (by kernel_rfl))⟩
  f19 := Try.func88.trans (congrArg some (by kernel_rfl))
  f20 := Try.func89.trans (congrArg some (by kernel_rfl))
  f30 := ⟨Try.f90.name, by decide, Try.func90.trans (congrArg some (by kernel_rfl))⟩
  f31 := Try.func91.trans (congrArg some (by kernel_rfl))
  f32 := Try.func92.trans (congrArg some (by kernel_rfl))
  f33 := ⟨Try.f93.name, by decide, Try.func93.trans (congrArg some (by kernel_rfl))⟩
  f34 := ⟨Try.f94.name, by decide, Try.func94.trans (congrArg some (by kernel_rfl))⟩
  f35 := ⟨Try.f95.name, by decide, Try.func95.trans (congrArg some (by kernel_rfl))⟩
  f40 := ⟨Try.f96.name, by decide, Try.func96.trans (congrArg some (by kernel_rfl))⟩
  t0 := Try.underlying0
  a0 := Try.isAgg0
  z0 := Try.sizeOf0
  v0 := Try.zeroValue0
  t3 := Try.underlying3
  a3 := Try.isAgg3
  z3 := Try.sizeOf3
  v3 := Try.zeroValue3
  t4 := Try.underlying4
  a4 := Try.isAgg4
  z4 := Try.sizeOf4
  v4 := Try.zeroValue4
  t5 := Try.underlying5
  a5 := Try.isAgg5
  z5 := Try.sizeOf5
  v5 := Try.zeroValue5
  t9 := Try.underlying9
  a9 := Try.isAgg9
  z9 := Try.sizeOf9
  v9 := Try.zeroValue9
  t22 := Try.underlying34
  a22 := Try.isAgg34
  z22 := Try.sizeOf34
  v22 := Try.zeroValue34
  t23 := Try.underlying34
  a23 := Try.isAgg34
  z23 := Try.sizeOf34
  v23 := Try.zeroValue34
  t25 := Try.underlying2
  a25 := Try.isAgg2
  z25 := Try.sizeOf2
  v25 := Try.zeroValue2
  t32 := Try.underlying64
  a32 := Try.isAgg64
  z32 := Try.sizeOf64
  v32 := Try.zeroValue64
  t35 := Try.underlying84
  a35 := Try.isAgg84
  z35 := Try.sizeOf84
  v35 := Try.zeroValue84
  t36 := Try.underlying85
  a36 := Try.isAgg85
  z36 := Try.sizeOf85
  v36 := Try.zeroValue85
  t41 := Try.underlying90
  a41 := Try.isAgg90
  z41 := Try.sizeOf90
  v41 := Try.zeroValue90
  t44 := Try.underlying93
  a44 := Try.isAgg93
  z44 := Try.sizeOf93
  v44 := Try.zeroValue93
  t46 := Try.underlying30
  a46 := Try.isAgg30
  z46 := Try.sizeOf30
  v46 := Try.zeroValue30
  t53 := Try.underlying95
  a53 := Try.isAgg95
  z53 := Try.sizeOf95
  v53 := Try.zeroValue95
  t57 := Try.underlying99
  a57 := Try.isAgg99
  z57 := Try.sizeOf99
  v57 := Try.zeroValue99
  t63 := Try.underlying101
  a63 := Try.isAgg101
  z63 := Try.sizeOf101
  v63 := Try.zeroValue101
  t64 := Try.underlying102
  a64 := Try.isAgg102
  z64 := Try.sizeOf102
  v64 := Try.zeroValue102 }
open Go.Sort Go.RowKit in
theorem Try.slices_Sort_int (blk off cap : Nat) (zs : List Int) (w : World) (hH : Holds (Value.int .i64) w blk off zs.toArray) (hblk : blk < w.heap.size) (hsz : zs.length < 4611686018427387904) :
    Calls Try.prog 69 #[.slice (some ⟨blk, off, none⟩) zs.length cap] w fun e w' =>
      e = .returned (.tuple #[]) ∧ ∃ n os, w' = grow (putRow (Value.int .i64) (Sort.ahead w n) blk off (zs.mergeSort fun x y => decide (x ≤ y)).toArray) os := AnyM.slices_Sort_int Try.laysSlM5_f69 blk off cap zs w hH hblk hsz
open Go.RowKit Go.Sort in
theorem Try.slices_Sort_int_none (p : Option Addr) (cap : Nat) (w : World) :
    Calls Try.prog 69 #[.slice p 0 cap] w fun e w' => e = .returned (.tuple #[]) ∧ w' = w := AnyM.slices_Sort_int_none Try.laysSlM5_f69 p cap w
end Go.Proofs
