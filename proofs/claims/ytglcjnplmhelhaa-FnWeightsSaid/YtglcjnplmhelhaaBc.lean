/- The draws of springs: where a draw stands. The draw of a valid spring. The draw of a spring that is seldom not valid. The draw of a position of a spring. PullAt. EnergyBetween. -/
import Derived.Test.YtglcjnplmhelhaaBb
import Derived.Deep.AppendLies

namespace Go.Proofs.Ytglcjnplmhelhaa
open Go.RowKit
set_option linter.unusedVariables false
set_option linter.unusedSimpArgs false

theorem grown_alloc {a w : World} {row : Option Nat} (h : a.grownBy w row) (o : Obj) : a.grownBy (w.alloc o) row := grown_trans h (grown_weak (ext_grown ((Ext.refl w).alloc o)))
theorem Blk.cell0 {w : World} {g : Nat} {T : TypeId} {v : Value} (h : Blk w g T #[v]) : w.cell? ⟨g, 0, none⟩ = some v := by rw [h.cell]; rfl
/-- what a cell holds, whatever it is: an equation that outlives a store -/
def cellV (w : World) (b o : Nat) : Value := (w.cell? ⟨b, o, none⟩).getD undef
theorem cellV_of {w : World} {b o : Nat} {v : Value} (h : w.cell? ⟨b, o, none⟩ = some v) : w.cell? ⟨b, o, none⟩ = some (cellV w b o) := by rw [cellV, h]; rfl
theorem cellV_set {w : World} {b o : Nat} {v : Value} (h : w.cell? ⟨b, o, none⟩ = some v) (u : Value) : (w.setCell ⟨b, o, none⟩ u).cell? ⟨b, o, none⟩ = some (cellV (w.setCell ⟨b, o, none⟩ u) b o) :=
  cellV_of (v := u) (by simp [go_sem, h])
theorem s1_of {w : World} {b n : Nat} {z : Nat → Int} (hb : b < w.heap.size) (h : ∀ j, j < n → w.cell? ⟨b, j, none⟩ = some (.int .i64 (z j))) : S1 w (some ⟨b, 0, none⟩) n z := fun _ => ⟨b, 0, rfl, hb, fun j hj => by rw [Nat.zero_add]; exact h j hj⟩
theorem own_cap {w : World} {base : Nat} {e : TypeId} {size : Nat} {a : Option Addr} {n cap : Nat} {xs : List Value} (h : w.ownsRow base e size (.slice a n cap) n xs) : n ≤ cap ∧ cap ≤ maxLen := by
  rcases h.2 with ⟨h1, h2⟩ | ⟨g, cap', cur, h1, _, _, h2, h3, _⟩
  · simp only [Value.slice.injEq] at h1
    omega
  · simp only [Value.slice.injEq] at h1
    omega
/-- a list beside a cell that holds 'u' -/
structure Sq (w0 w : World) (g : Nat) (a : Option Addr) (n c : Nat) (f : Nat → Nat) (K : Nat) (T U : TypeId) (go : Nat) (u v : Value) (l : List (Int × Int)) : Prop where
  st : St w0 w g a n c f K T v l
  cell : Blk w go U #[u]
  lo : w0.heap.size ≤ go
  ne : v.ownBlock ≠ some go
section
variable {w0 w w1 : World} {g : Nat} {a : Option Addr} {n c : Nat} {f : Nat → Nat} {K K' : Nat} {T U : TypeId} {go : Nat} {u v : Value} {l : List (Int × Int)}
theorem Sq.le (h : Sq w0 w g a n c f K T U go u v l) (hl : K ≤ K') : Sq w0 w g a n c f K' T U go u v l := ⟨h.st.le hl, h.cell, h.lo, h.ne⟩
theorem Sq.drawn (h : Sq w0 w g a n c f K T U go u v l) (hs : Src w1 g a n c f K') (hx : w.grownBy w1 (some g)) : Sq w0 w1 g a n c f K' T U go u v l :=
  ⟨h.st.drawn hs hx, (hx.block go h.cell.lt (fun e => by have e2 : go = g := by simpa using e
                                                         have := h.lo; have := h.st.low; omega)).trans h.cell, h.lo, h.ne⟩
theorem Sq.ext (h : Sq w0 w g a n c f K T U go u v l) (hx : Ext w w1) : Sq w0 w1 g a n c f K T U go u v l :=
  ⟨⟨own_ext h.st.own hx, h.st.src.keep (ext_grown hx) (fun k hk => by cases hk) h.st.low h.st.cod h.st.gr.size, grown_trans h.st.gr (grown_weak (ext_grown hx)), h.st.low, h.st.cod⟩, h.cell.ext hx, h.lo, h.ne⟩
theorem Sq.alloc (h : Sq w0 w g a n c f K T U go u v l) (o : Obj) : Sq w0 (w.alloc o) g a n c f K T U go u v l := ⟨h.st.alloc o, h.cell.ext (by repeat (first | with_reducible exact Ext.refl _ | with_reducible assumption | with_reducible refine Ext.alloc ?_ _ | with_reducible refine Ext.drew ?_ | (with_reducible refine Ext.setAt ?_ _ _ _ ?_; rotate_left; omega) | with_reducible refine Ext.trans ?_ (by assumption) | with_reducible exact Past.bel _ | with_reducible refine Ext.trans ?_ (Past.bel _))), h.lo, h.ne⟩
/-- a new cell for the list -/
theorem Sq.new (h : St w0 w g a n c f K T v l) : Sq w0 (w.alloc (.cells #[u] U)) g a n c f K T U w.heap.size u v l :=
  ⟨h.alloc _, Blk.new _ _ _, h.gr.size, fun e => by have := (h.own.lt _ e).2; omega⟩
theorem St.far (h : St w0 w g a n c f K T v l) {b i : Nat} (hb : w0.heap.size ≤ b) (hne : v.ownBlock ≠ some b) (x : Value) : St w0 (w.setCell ⟨b, i, none⟩ x) g a n c f K T v l := by
  have hx := grown_set (w := w) b i x
  refine ⟨h.own.kept hx (.inr hne), h.src.keep hx (fun k hk => by cases hk; exact hb) h.low h.cod h.gr.size, ⟨h.gr.os, h.gr.tape, h.gr.output, by simpa using h.gr.size, fun k hk hn => ?_⟩, h.low, h.cod⟩
  exact (hx.block k (Nat.lt_of_lt_of_le hk h.gr.size) (fun e => absurd (show k = b by simpa using e) (by omega))).trans (h.gr.block k hk hn)
/-- the list's value laid into the cell -/
theorem Sq.store (h : Sq w0 w g a n c f K T U go u v l) (hg : w0.heap.size ≤ go) : Sq w0 (w.setCell ⟨go, 0, none⟩ v) g a n c f K T U go v v l :=
  ⟨h.st.far hg h.ne v, by have := h.cell.set 0 v; simpa using this, h.lo, h.ne⟩
/-- another list, not of this cell's block -/
theorem Sq.reset (h : Sq w0 w g a n c f K T U go u v l) : Sq w0 w g a n c f K T U go u (.slice none 0 0) [] := ⟨h.st.reset, h.cell, h.lo, fun e => by cases e⟩
theorem Sq.set {gb cap m i : Nat} {x : Value} {l' : List (Int × Int)} (h : Sq w0 w g a n c f K T U go u (.slice (some ⟨gb, 0, none⟩) m cap) l) (hm : m = l.length) (hp : (PR l).set i x = PR l') (hl : l'.length = l.length) :
    Sq w0 (w.setCell ⟨gb, i, none⟩ x) g a n c f K T U go u (.slice (some ⟨gb, 0, none⟩) m cap) l' :=
  ⟨h.st.set hm hp hl, h.cell.other gb i x (fun e => h.ne (by rw [e]; rfl)), h.lo, h.ne⟩
/-- 'out.X = append(out.X, T{x, y})', as far as the append -/
theorem app2s {P : Program} {ops : Array Oper} {rest : List Oper} {o : Oper} {A : Act} {Q : Exit → Act → World → Prop} (t : TypeId) (s x : Operand) (z : Value)
    (hop : o.op = .call { callee := .builtin .append, args := #[s, x], argTypes := #[t, t] }) (hgd : o.guard = none)
    (ht : P.underlying t = some (.slice T)) (hinfo : (P.info? T).map (fun i => (i.zero, i.size, i.bytes)) = some (some z, 2, 16)) (hz : z.cells.size = 2)
    (p q : Int) (gb : Nat) (hs : A.eval s = v) (hx : A.eval x = .slice (some ⟨gb, 0, none⟩) 1 1) (h : Sq w0 w g a n c f K T U go u v l)
    (hc : Blk w gb T #[.int .i64 p, .int .i64 q]) (hl : l.length ≤ 1048576)
    (hK : ∀ g' cap w', Sq w0 w' g a n c f K T U go u (.slice (some ⟨g', 0, none⟩) (l.length + 1) cap) (l ++ [(p, q)]) → wpList P ops Q rest (A.put o.dst (.slice (some ⟨g', 0, none⟩) (l.length + 1) cap)) w') : wpList P ops Q (o :: rest) A w := by
  obtain ⟨i, hi, hz', hsz, hb⟩ := info_parts hinfo
  refine wpList_append_lies (P := P) w hgd s x t hop w0.heap.size T i z 2 16 ht hi hz' hsz hb hz (by decide) v l.length _ hs h.st.own ⟨gb, 0, none⟩ 1 1 [.int .i64 p, .int .i64 q] hx rfl ?_ ?_ (by decide) ?_ ?_ h.st.gr.size _ rfl ?_
  · exact World.news_of_block hc
  · intro u hu
    simp at hu; rcases hu with rfl | rfl <;> rfl
  · unfold maxLen; omega
  · omega
  · intro g' cap w' h1 h2 h3 h4
    have hr : ∀ k, v.ownBlock = some k → w0.heap.size ≤ k := fun k hk => (h.st.own.lt k hk).1
    refine hK g' cap w' ⟨⟨?_, h.st.src.keep h2 hr h.st.low h.st.cod h.st.gr.size, ⟨h2.os.trans h.st.gr.os, h2.tape.trans h.st.gr.tape, h2.output.trans h.st.gr.output, Nat.le_trans h.st.gr.size h2.size, fun k hk hn => ?_⟩, h.st.low, h.st.cod⟩, ?_, h.lo, ?_⟩
    · rw [PR_app, List.length_append]; have e1 : PR [(p, q)] = [.int .i64 p, .int .i64 q] := rfl
      rw [e1]; simpa using h1
    · exact (h2.block k (Nat.lt_of_lt_of_le hk h.st.gr.size) (fun e => by have := hr k e.symm; omega)).trans (h.st.gr.block k hk hn)
    · exact (h2.block go h.cell.lt (fun e => h.ne e.symm)).trans h.cell
    · intro e
      have e2 : g' = go := by simpa [Value.ownBlock] using e
      rcases h3 with h3 | h3
      · exact h.ne (by rw [h3, e2])
      · have := h.cell.lt; omega
end
theorem St.made {w0 w : World} {g : Nat} {a : Option Addr} {n c : Nat} {f : Nat → Nat} {K : Nat} {T : TypeId} {v : Value} {l : List (Int × Int)} (h : St w0 w g a n c f K T v l) (p q : Int) :
    St w0 (w.alloc (.cells #[.int .i64 p, .int .i64 q] T)) g a n c f K T (.slice (some ⟨w.heap.size, 0, none⟩) 1 1) [(p, q)] :=
  ⟨⟨rfl, .inr ⟨w.heap.size, 1, #[.int .i64 p, .int .i64 q], rfl, h.gr.size, heap_alloc_new w _, Nat.le_refl _, by decide, rfl, rfl⟩⟩, (h.alloc _).src, (h.alloc _).gr, h.low, h.cod⟩
/-- A drawn spring: its bends anywhere in memory of the draw's own; the source behind it. -/
structure Spr (w0 w : World) (g : Nat) (a : Option Addr) (n c : Nat) (f : Nat → Nat) (K : Nat) (a' : Option Addr) (n' : Nat) (wd pl : Nat → Int) : Prop where
  n21 : n' ≤ 21
  s2 : S2 w a' n' wd pl
  far : ∀ ad, a' = some ad → w0.heap.size ≤ ad.block
  src : Src w g a n c f K
  gr : w0.grownBy w (some g)
  low : g < w0.heap.size
  cod : 0 < n → ∀ ad, a = some ad → ad.block < w0.heap.size
section
variable {w0 w w1 : World} {g : Nat} {a : Option Addr} {n c : Nat} {f : Nat → Nat} {K K' : Nat} {a' : Option Addr} {n' : Nat} {wd pl : Nat → Int}
theorem Spr.le (h : Spr w0 w g a n c f K a' n' wd pl) (hl : K ≤ K') : Spr w0 w g a n c f K' a' n' wd pl := ⟨h.n21, h.s2, h.far, h.src.le hl, h.gr, h.low, h.cod⟩
theorem Spr.drawn (h : Spr w0 w g a n c f K a' n' wd pl) (hs : Src w1 g a n c f K') (hx : w.grownBy w1 (some g)) : Spr w0 w1 g a n c f K' a' n' wd pl :=
  ⟨h.n21, h.s2.but hx (fun ad e e2 => by have := h.far ad e; have := h.low; have e3 : ad.block = g := by simpa using e2
                                         omega), h.far, hs, grown_trans h.gr hx, h.low, h.cod⟩
theorem Spr.ext (h : Spr w0 w g a n c f K a' n' wd pl) (hx : Ext w w1) : Spr w0 w1 g a n c f K a' n' wd pl :=
  ⟨h.n21, h.s2.ext hx, h.far, h.src.keep (ext_grown hx) (fun k hk => by cases hk) h.low h.cod h.gr.size, grown_trans h.gr (grown_weak (ext_grown hx)), h.low, h.cod⟩
theorem St.spr {T : TypeId} {cap m : Nat} {b : Option Addr} {l : List (Int × Int)} (h : St w0 w g a n c f K T (.slice b m cap) l) (hm : m = l.length) (hl : l.length ≤ 21) :
    Spr w0 w g a n c f K b m (fun j => (l.getD j (0, 0)).1) (fun j => (l.getD j (0, 0)).2) := by
  subst hm
  exact ⟨hl, own_s2 h.own rfl, fun ad e => by subst e; exact (h.own.lt ad.block rfl).1, h.src, h.gr, h.low, h.cod⟩
theorem Spr.less (h : Spr w0 w g a n c f K a' n' wd pl) {m : Nat} (hm : m ≤ n') : Spr w0 w g a n c f K a' m wd pl :=
  ⟨Nat.le_trans hm h.n21, fun h0 => by obtain ⟨b, o, e, hb, hc⟩ := h.s2 (by omega); exact ⟨b, o, e, hb, fun j hj => hc j (by omega)⟩, h.far, h.src, h.gr, h.low, h.cod⟩
/-- behind the store into the result's cell -/
theorem Spr.fin {W1 : World} (hx1 : Ext w0 W1) (hz1 : W1.heap.size = w0.heap.size + 1) (hg : g < w0.heap.size) (hcd : 0 < n → ∀ ad, a = some ad → ad.block < w0.heap.size) (h : Spr W1 w g a n c f K a' n' wd pl) (x : Value) :
    Spr w0 (w.setCell ⟨w0.heap.size, 0, none⟩ x) g a n c f K a' n' wd pl := by
  have hsz := h.gr.size
  refine ⟨h.n21, h.s2.but (grown_set _ _ _) (fun ad e e2 => by have := h.far ad e; injection e2 with e2; omega), fun ad e => by have := h.far ad e; omega, h.src.keep (grown_set _ _ _) (fun k hk => by injection hk with hk; omega) hg hcd (by omega), ?_, hg, hcd⟩
  have hgr := h.gr
  refine ⟨hgr.os.trans (Below.os hx1), hgr.tape.trans (Below.tape hx1), hgr.output.trans (Below.output hx1), by simp; omega, fun k hk hn => ?_⟩
  have h1 := (grown_set (w := w) w0.heap.size 0 x).block k (by omega) (fun e => by injection e with e; omega)
  exact (h1.trans (hgr.block k (by omega) hn)).trans (hx1.block hk)
end
end Go.Proofs.Ytglcjnplmhelhaa

namespace Go.Proofs.Ytglcjnplmhelhaa
open Go.RowKit
set_option linter.unusedVariables false
set_option linter.unusedSimpArgs false

theorem info_bend : (Try.prog.info? 33).map (fun i => (i.zero, i.size, i.bytes)) = some (some (.agg #[.int .i64 0, .int .i64 0]), 2, 16) := by kernel_rfl
set_option maxHeartbeats 4000000 in
theorem l13Draw_c (g : Nat) (a : Option Addr) (n c : Nat) (f : Nat → Nat) (K : Nat) (w : World) (hn : n ≤ 1048576) (hK : K ≤ 900000) (hd : Src w g a n c f K) (hg : g < w.heap.size) (hcd : 0 < n → ∀ ad, a = some ad → ad.block < w.heap.size) :
    Calls Try.prog 72 #[.pointer (some ⟨g, 0, none⟩)] w fun e w' => ∃ gb cap l, e = .returned (.agg #[.slice (some ⟨gb, 0, none⟩) l.length cap]) ∧ 1 ≤ l.length ∧ l.length ≤ 6 ∧ St w w' g a n c f (K + 100) 33 (.slice (some ⟨gb, 0, none⟩) l.length cap) l := by
  obtain ⟨W1, hW1⟩ : ∃ W1, W1 = w.alloc (.cells #[.slice none 0 0] 26) := ⟨_, rfl⟩
  have hx1 : Ext w W1 := by rw [hW1]; exact (by repeat (first | with_reducible exact Ext.refl _ | with_reducible assumption | with_reducible refine Ext.alloc ?_ _ | with_reducible refine Ext.drew ?_ | (with_reducible refine Ext.setAt ?_ _ _ _ ?_; rotate_left; omega) | with_reducible refine Ext.trans ?_ (by assumption) | with_reducible exact Past.bel _ | with_reducible refine Ext.trans ?_ (Past.bel _)))
  have hz1 : W1.heap.size = w.heap.size + 1 := by rw [hW1]; simp
  have hr0 : Blk W1 w.heap.size 26 #[.slice none 0 0] := by rw [hW1]; exact Blk.new _ _ _
  have s0 : St W1 W1 g a n c f K 33 (.slice none 0 0) [] := ⟨World.ownsRow_nil _ _ _ _, hd.keep (ext_grown hx1) (fun k hk => by cases hk) hg hcd (Nat.le_refl _), grown_refl _ _, by omega, fun h0 ad e => by have := hcd h0 ad e; omega⟩
  go_enter Try.func72, Try.ntmps72
  go_wp2_with fail
  rw [← hW1]
  refine (pick_c g a n c f K 60 _ hn (by omega) s0.src).mono ?_
  rintro e w1 ⟨x1, rfl, y1, y1', z1, hs1, hg1⟩
  have s1 := s0.drawn hs1 hg1
  go_wp2_with fail
  refine (pick_c g a n c f (K + 2) 3000 _ hn (by omega) s1.src).mono ?_
  rintro e w2 ⟨x2, rfl, y2, y2', z2, hs2, hg2⟩
  have s2 := s1.drawn hs2 hg2
  go_wp2_with fail
  refine (one_c g a n c f (K + 4) 6 _ hn (by omega) s2.src).mono ?_
  rintro e w3 ⟨b3, rfl, hs3, hg3⟩
  have s3 := s2.drawn hs3 hg3
  have S3 := Lib.hid s3
  have hz3 := s3.gr.size
  clear s0 s1 s2 s3 hs1 hs2 hs3 hg1 hg2 hg3
  cases b3
  all_goals
    go_wp2_with fail
    have s4 := fun q => Sq.new (U := 26) (u := .slice (some ⟨w3.heap.size, 0, none⟩) 1 1) (S3.out.made x1 q)
    refine (pick_c g a n c f (K + 6) 5 _ hn (by omega) (s4 _).st.src).mono ?_
    rintro e w4 ⟨x4, rfl, y4, y4', z4, hs4, hg4⟩
    have s5 := (s4 _).drawn hs4 hg4
    simp only [World.size_alloc] at s5
    have S5 := Lib.hid s5
    clear s4 s5 hs4 hg4
    go_wp2_with fail
    go_loopw [3, 4, 6] (fun v3 v4 v6 wr => ∃ (l : List (Int × Int)) (p q k : Int) (gb cap : Nat), v3 = .int .i64 p ∧ v4 = .int .i64 q ∧ v6 = .int .i64 k ∧ 0 ≤ k ∧ k ≤ 5 ∧ 1 ≤ l.length ∧ l.length + k.toNat ≤ 6 ∧ Sq W1 wr g a n c f (K + 8 + 4 * (5 - k.toNat)) 33 26 (w3.heap.size + 1) (.slice (some ⟨gb, 0, none⟩) l.length cap) (.slice (some ⟨gb, 0, none⟩) l.length cap) l) (fun _ _ v6 _ => (intOf v6).toNat)
    case atStart => refine ⟨[(x1, _)], _, _, 1 + x4, _, _, rfl, rfl, rfl, by omega, by omega, ?_, ?_, S5.out.le ?_⟩ <;> first | omega | (simp only [List.length_singleton]; omega)
    case round =>
      obtain ⟨l, p, q, k, gb, cap, rfl, rfl, rfl, k0, k1, l0, l1, hst⟩ := hrel
      have ST := Lib.hid hst
      by_cases hk : 0 < k
      · clear hst
        go_wp2_with fail
        refine (pick_c g a n c f (K + 8 + 4 * (5 - k.toNat)) 70 _ hn (by omega) ST.out.st.src).mono ?_
        rintro e w7 ⟨x7, rfl, y7, y7', z7, hs7, hg7⟩
        have s7 := ST.out.drawn hs7 hg7
        go_wp2_with fail
        refine (pick_c g a n c f (K + 8 + 4 * (5 - k.toNat) + 2) 1200 _ hn (by omega) s7.st.src).mono ?_
        rintro e w8 ⟨x8, rfl, y8, y8', z8, hs8, hg8⟩
        have s8 := s7.drawn hs8 hg8
        have S8 := Lib.hid s8
        have q1 := s8.cell.cell0
        have q2 := s8.cell.lt
        clear s7 s8 hs7 hs8 hg7 hg8
        go_wp2_with (at_builtin; refine app2s 24 _ _ _ rfl rfl Try.underlying24 info_bend rfl _ _ _ rfl rfl (S8.out.alloc _) (Blk.new _ _ _) (by omega) ?_; intro g' cap' w9 s9; have q3 := s9.cell.frozen 0; have q4 := s9.cell.cell0; have S9 := Lib.hid s9; clear s9)
        exact ⟨⟨l ++ [(_, _)], _, _, k - 1, _, _, rfl, rfl, by go_num, by omega, by omega, by simp, by simp; omega, by have := (S9.out.store (by omega)).le (show K + 8 + 4 * (5 - k.toNat) + 4 ≤ K + 8 + 4 * (5 - (k - 1).toNat) by omega); simpa using this⟩, by simp [intOf]; omega⟩
      · have k00 : k = 0 := by omega
        subst k00
        have q1 := hst.cell.cell0
        have q2 := hst.st.gr.size
        have hB : Blk wr w.heap.size 26 #[.slice none 0 0] := (hst.st.gr.block _ (by omega) (fun e => by injection e with e; omega)).trans hr0
        have q3 := hB.frozen 0
        have q4 := hB.cell0
        clear hst
        go_wp2_with fail
        have hst := ST.out
        have q5 : w.heap.size + 1 ≤ gb := by have := (hst.st.own.lt gb rfl).1; omega
        refine bodyPost_ret (v := .agg #[.slice (some ⟨gb, 0, none⟩) l.length cap]) (by simp [results, Try.results72, go_sem, q4]) rfl ⟨gb, cap, l, rfl, l0, by omega, St.le ⟨?_, ?_, ?_, hg, hcd⟩ (show K + 8 + 4 * 5 ≤ K + 100 by omega)⟩
        · exact own_base (hst.st.own.kept (grown_set _ _ _) (.inr (fun e => by injection e with e; dsimp only at e; omega))) (by omega)
        · exact (hst.le (by omega)).st.src.keep (grown_set _ _ _) (fun k hk => by injection hk with hk; omega) hg hcd (by omega)
        · have hgr := hst.st.gr
          refine ⟨hgr.os.trans (Below.os hx1), hgr.tape.trans (Below.tape hx1), hgr.output.trans (Below.output hx1), by simp; omega, fun k hk hn => ?_⟩
          have h1 := (grown_set (w := wr) w.heap.size 0 (.slice (some ⟨gb, 0, none⟩) l.length cap)).block k (by omega) (fun e => by injection e with e; omega)
          exact (h1.trans (hgr.block k (by omega) hn)).trans (hx1.block hk)
end Go.Proofs.Ytglcjnplmhelhaa

namespace Go.Proofs.Ytglcjnplmhelhaa
open Go.RowKit
set_option linter.unusedVariables false
set_option linter.unusedSimpArgs false

set_option maxHeartbeats 4000000 in
theorem l13Bent_c (g : Nat) (a : Option Addr) (n c : Nat) (f : Nat → Nat) (K : Nat) (w : World) (hn : n ≤ 1048576) (hK : K ≤ 800000) (hd : Src w g a n c f K) (hg : g < w.heap.size) (hcd : 0 < n → ∀ ad, a = some ad → ad.block < w.heap.size) :
    Calls Try.prog 45 #[.pointer (some ⟨g, 0, none⟩)] w fun e w' => ∃ a' n' c' wd pl, e = .returned (.agg #[.slice a' n' c']) ∧ Spr w w' g a n c f (K + 300) a' n' wd pl := by
  obtain ⟨W1, hW1⟩ : ∃ W1, W1 = w.alloc (.cells #[.slice none 0 0] 26) := ⟨_, rfl⟩
  have hx1 : Ext w W1 := by rw [hW1]; exact (by repeat (first | with_reducible exact Ext.refl _ | with_reducible assumption | with_reducible refine Ext.alloc ?_ _ | with_reducible refine Ext.drew ?_ | (with_reducible refine Ext.setAt ?_ _ _ _ ?_; rotate_left; omega) | with_reducible refine Ext.trans ?_ (by assumption) | with_reducible exact Past.bel _ | with_reducible refine Ext.trans ?_ (Past.bel _)))
  have hz1 : W1.heap.size = w.heap.size + 1 := by rw [hW1]; simp
  have hr0 : Blk W1 w.heap.size 26 #[.slice none 0 0] := by rw [hW1]; exact Blk.new _ _ _
  have hB : ∀ w', W1.grownBy w' (some g) → w'.cell? ⟨w.heap.size, 0, none⟩ = some (.slice none 0 0) ∧ w'.frozen? ⟨w.heap.size, 0, none⟩ = false := fun w' hq => by
    have hB : Blk w' w.heap.size 26 #[.slice none 0 0] := (hq.block _ (by omega) (fun e => by injection e with e; omega)).trans hr0
    exact ⟨hB.cell0, hB.frozen 0⟩
  have HB := Lib.hid hB
  clear hB
  have s0 : Src W1 g a n c f K := hd.keep (ext_grown hx1) (fun k hk => by cases hk) hg hcd (Nat.le_refl _)
  go_enter Try.func45, Try.ntmps45
  go_wp2_with fail
  rw [← hW1]
  refine (l13Draw_c g a n c f K _ hn (by omega) s0 (by omega) (fun h0 ad e => by have := hcd h0 ad e; omega)).mono ?_
  rintro e w1 ⟨gb, cap, l, rfl, l0, l1, s1⟩
  have s2 := Sq.new (U := 26) (u := .slice (some ⟨gb, 0, none⟩) l.length cap) s1
  have hz2 := s1.gr.size
  have hb := s1.own.lt gb rfl
  go_wp2_with fail
  refine (pick_c g a n c f (K + 100) l.length _ hn (by omega) s2.st.src).mono ?_
  rintro e w2 ⟨x2, rfl, y2, y2', z2, hs2, hg2⟩
  have s3 := s2.drawn hs2 hg2
  obtain ⟨at_, rfl⟩ := Int.eq_ofNat_of_zero_le y2
  have hat : at_ < l.length := by omega
  have q2 : (0 : Int) ≤ (at_ : Int) := by omega
  have q3 : (at_ : Int) < (l.length : Int) := by omega
  go_wp2_with fail
  refine (pick_c g a n c f (K + 102) 40 _ hn (by omega) s3.st.src).mono ?_
  rintro e w3 ⟨x3, rfl, y3, y3', z3, hs3, hg3⟩
  have s4 := s3.drawn hs3 hg3
  have hz4 := s4.st.gr.size
  have hz5 := s4.cell.lt
  have S4 := Lib.hid s4
  have nb1 : ¬ gb = w1.heap.size := by omega
  have nb2 : ¬ gb = w.heap.size := by omega
  have nb3 : ¬ w1.heap.size = w.heap.size := by omega
  have nb4 : ¬ w.heap.size = w1.heap.size := by omega
  have nb5 : ¬ w1.heap.size = gb := by omega
  have nb6 : ¬ w.heap.size = gb := by omega
  have kb1 := s4.cell.cell0
  have kb2 := s4.cell.frozen 0
  obtain ⟨kb3, kb4⟩ := HB.out w3 s4.st.gr
  obtain ⟨_, e0_, _, _, ⟨_, r1⟩, _, r3⟩ := own_at2 s4.st.own hat
  obtain rfl := by simpa using e0_
  have RF := Lib.hid (And.intro r1 r3)
  clear r1 r3 e0_
  have cp1 : 1 ≤ cap := by have := (own_cap s4.st.own).1; omega
  have cp2 : (1 : Int) ≤ (cap : Int) := by omega
  clear s0 s1 s2 s3 s4 hs2 hs3 hg2 hg3 hb
  by_cases d0 : x3 = 0
  · subst d0
    obtain ⟨z, zz0, zz1, zz2⟩ : ∃ z : Nat → Int, z 0 = -1 ∧ z 1 = 2000 ∧ z 2 = 2001 := ⟨(fun j => if j = 0 then -1 else if j = 1 then 2000 else 2001), rfl, rfl, rfl⟩
    have hk : ∀ w', w3.grownBy w' (some g) → w'.cell? ⟨w1.heap.size, 0, none⟩ = some (.slice (some ⟨gb, 0, none⟩) l.length cap) ∧ w'.frozen? ⟨w1.heap.size, 0, none⟩ = false ∧ w'.frozen? ⟨gb, at_ * 2, none⟩ = false ∧ w'.cell? ⟨gb, at_ * 2, none⟩ = some (cellV w' gb (at_ * 2)) := fun w' hq => by
      have hcl : Blk w' w1.heap.size 26 #[.slice (some ⟨gb, 0, none⟩) l.length cap] := (hq.block _ hz5 (fun e => by injection e with e; omega)).trans S4.out.cell
      have hon : w'.ownsRow W1.heap.size 33 2 (.slice (some ⟨gb, 0, none⟩) l.length cap) l.length (PR l) := S4.out.st.own.kept hq (.inr (fun e => by injection e with e; dsimp only at e; omega))
      obtain ⟨_, e1, _, _, ⟨h3, h4⟩, _, _⟩ := own_at2 hon hat
      obtain rfl := by simpa using e1
      exact ⟨hcl.cell0, hcl.frozen 0, h4, cellV_of (h3.trans (PR_at hat).1)⟩
    have HK := Lib.hid hk
    have HK2 := Lib.hid (fun (w' : World) (u : Value) (hq : w3.grownBy w' (some g)) => (show (w'.setCell ⟨gb, at_ * 2, none⟩ u).cell? ⟨w1.heap.size, 0, none⟩ = some (.slice (some ⟨gb, 0, none⟩) l.length cap) ∧ (w'.setCell ⟨gb, at_ * 2, none⟩ u).frozen? ⟨w1.heap.size, 0, none⟩ = false ∧ (w'.setCell ⟨gb, at_ * 2, none⟩ u).frozen? ⟨gb, at_ * 2, none⟩ = false ∧ (w'.setCell ⟨gb, at_ * 2, none⟩ u).cell? ⟨gb, at_ * 2, none⟩ = some (cellV (w'.setCell ⟨gb, at_ * 2, none⟩ u) gb (at_ * 2)) from by obtain ⟨h1, h2, h3, h4⟩ := hk w' hq; exact ⟨by simp [go_sem, h1, nb1], by simp [go_sem, h2], by simp [go_sem, h3], cellV_set h4 u⟩))
    clear hk
    go_wp2_with fail
    go_region_held3 (fun w' => w'.cell? ⟨w1.heap.size, 0, none⟩ = some (.slice (some ⟨gb, 0, none⟩) l.length cap) ∧ w'.frozen? ⟨w1.heap.size, 0, none⟩ = false ∧ w'.frozen? ⟨gb, at_ * 2, none⟩ = false ∧ w'.cell? ⟨gb, at_ * 2, none⟩ = some (cellV w' gb (at_ * 2))) (first | exact HK2.out _ _ (by repeat (first | with_reducible exact grown_refl _ _ | with_reducible assumption | with_reducible refine grown_alloc ?_ _ | with_reducible refine grown_drew ?_ | with_reducible refine grown_trans ?_ (by assumption))) | exact HK.out _ (by repeat (first | with_reducible exact grown_refl _ _ | with_reducible assumption | with_reducible refine grown_alloc ?_ _ | with_reducible refine grown_drew ?_ | with_reducible refine grown_trans ?_ (by assumption))))
      ((go_at_call 55; ((with_reducible refine (among_c g a n c f (K + 104) (some ⟨w3.heap.size, 0, none⟩) 3 3 z _ hn (by omega) (S4.out.ext (by repeat (first | with_reducible exact Ext.refl _ | with_reducible assumption | with_reducible refine Ext.alloc ?_ _ | with_reducible refine Ext.drew ?_ | (with_reducible refine Ext.setAt ?_ _ _ _ ?_; rotate_left; omega) | with_reducible refine Ext.trans ?_ (by assumption) | with_reducible exact Past.bel _ | with_reducible refine Ext.trans ?_ (Past.bel _)))).st.src (by omega) (by omega) (s1_of (by simp) (fun j hj => by (obtain rfl | rfl | rfl : j = 0 ∨ j = 1 ∨ j = 2 := by omega) <;> simp [go_sem, zz0, zz1, zz2])) (fun ad e => by cases e; dsimp only; omega)).mono ?_); rintro e wC ⟨jC, rfl, hjC, hsC, hgC⟩)))
    all_goals
      have sC := S4.out.drawn hsC (by repeat (first | with_reducible exact grown_refl _ _ | with_reducible assumption | with_reducible refine grown_alloc ?_ _ | with_reducible refine grown_drew ?_ | with_reducible refine grown_trans ?_ (by assumption)))
      have kc1 := sC.cell.cell0
      have kc2 := sC.cell.frozen 0
      obtain ⟨kc3, kc4⟩ := HB.out wC sC.st.gr
      have SC := Lib.hid (sC.set rfl (PR_set0 hat (z jC)) (by simp))
      clear sC hsC hgC
      go_wp2_with fail
      refine bodyPost_ret (v := .agg #[.slice (some ⟨gb, 0, none⟩) l.length cap]) (by simp [results, Try.results45, go_sem, kc3, nb1, nb2, nb3]) rfl ⟨_, _, _, _, _, rfl, Spr.fin hx1 hz1 hg hcd ((St.spr SC.out.st (by simp) (by simp; omega)).le (by omega)) _⟩
  · by_cases d1 : x3 = 1
    · subst d1
      obtain ⟨z, zz0, zz1, zz2, zz3⟩ : ∃ z : Nat → Int, z 0 = -1 ∧ z 1 = 1000000 ∧ z 2 = 1000001 ∧ z 3 = 0 := ⟨(fun j => if j = 0 then -1 else if j = 1 then 1000000 else if j = 2 then 1000001 else 0), rfl, rfl, rfl, rfl⟩
      have hk : ∀ w', w3.grownBy w' (some g) → w'.cell? ⟨w1.heap.size, 0, none⟩ = some (.slice (some ⟨gb, 0, none⟩) l.length cap) ∧ w'.frozen? ⟨w1.heap.size, 0, none⟩ = false ∧ w'.frozen? ⟨gb, at_ * 2 + 1, none⟩ = false ∧ w'.cell? ⟨gb, at_ * 2 + 1, none⟩ = some (cellV w' gb (at_ * 2 + 1)) := fun w' hq => by
        have hcl : Blk w' w1.heap.size 26 #[.slice (some ⟨gb, 0, none⟩) l.length cap] := (hq.block _ hz5 (fun e => by injection e with e; omega)).trans S4.out.cell
        have hon : w'.ownsRow W1.heap.size 33 2 (.slice (some ⟨gb, 0, none⟩) l.length cap) l.length (PR l) := S4.out.st.own.kept hq (.inr (fun e => by injection e with e; dsimp only at e; omega))
        obtain ⟨_, e1, _, _, _, h3, h4⟩ := own_at2 hon hat
        obtain rfl := by simpa using e1
        exact ⟨hcl.cell0, hcl.frozen 0, h4, cellV_of (h3.trans (PR_at hat).2)⟩
      have HK := Lib.hid hk
      have HK2 := Lib.hid (fun (w' : World) (u : Value) (hq : w3.grownBy w' (some g)) => (show (w'.setCell ⟨gb, at_ * 2 + 1, none⟩ u).cell? ⟨w1.heap.size, 0, none⟩ = some (.slice (some ⟨gb, 0, none⟩) l.length cap) ∧ (w'.setCell ⟨gb, at_ * 2 + 1, none⟩ u).frozen? ⟨w1.heap.size, 0, none⟩ = false ∧ (w'.setCell ⟨gb, at_ * 2 + 1, none⟩ u).frozen? ⟨gb, at_ * 2 + 1, none⟩ = false ∧ (w'.setCell ⟨gb, at_ * 2 + 1, none⟩ u).cell? ⟨gb, at_ * 2 + 1, none⟩ = some (cellV (w'.setCell ⟨gb, at_ * 2 + 1, none⟩ u) gb (at_ * 2 + 1)) from by obtain ⟨h1, h2, h3, h4⟩ := hk w' hq; exact ⟨by simp [go_sem, h1, nb1], by simp [go_sem, h2], by simp [go_sem, h3], cellV_set h4 u⟩))
      clear hk
      go_wp2_with fail
      go_region_held3 (fun w' => w'.cell? ⟨w1.heap.size, 0, none⟩ = some (.slice (some ⟨gb, 0, none⟩) l.length cap) ∧ w'.frozen? ⟨w1.heap.size, 0, none⟩ = false ∧ w'.frozen? ⟨gb, at_ * 2 + 1, none⟩ = false ∧ w'.cell? ⟨gb, at_ * 2 + 1, none⟩ = some (cellV w' gb (at_ * 2 + 1))) (first | exact HK2.out _ _ (by repeat (first | with_reducible exact grown_refl _ _ | with_reducible assumption | with_reducible refine grown_alloc ?_ _ | with_reducible refine grown_drew ?_ | with_reducible refine grown_trans ?_ (by assumption))) | exact HK.out _ (by repeat (first | with_reducible exact grown_refl _ _ | with_reducible assumption | with_reducible refine grown_alloc ?_ _ | with_reducible refine grown_drew ?_ | with_reducible refine grown_trans ?_ (by assumption))))
        ((go_at_call 55; ((with_reducible refine (among_c g a n c f (K + 104) (some ⟨w3.heap.size, 0, none⟩) 4 4 z _ hn (by omega) (S4.out.ext (by repeat (first | with_reducible exact Ext.refl _ | with_reducible assumption | with_reducible refine Ext.alloc ?_ _ | with_reducible refine Ext.drew ?_ | (with_reducible refine Ext.setAt ?_ _ _ _ ?_; rotate_left; omega) | with_reducible refine Ext.trans ?_ (by assumption) | with_reducible exact Past.bel _ | with_reducible refine Ext.trans ?_ (Past.bel _)))).st.src (by omega) (by omega) (s1_of (by simp) (fun j hj => by (obtain rfl | rfl | rfl | rfl : j = 0 ∨ j = 1 ∨ j = 2 ∨ j = 3 := by omega) <;> simp [go_sem, zz0, zz1, zz2, zz3])) (fun ad e => by cases e; dsimp only; omega)).mono ?_); rintro e wC ⟨jC, rfl, hjC, hsC, hgC⟩)))
      all_goals
        have sC := S4.out.drawn hsC (by repeat (first | with_reducible exact grown_refl _ _ | with_reducible assumption | with_reducible refine grown_alloc ?_ _ | with_reducible refine grown_drew ?_ | with_reducible refine grown_trans ?_ (by assumption)))
        have kc1 := sC.cell.cell0
        have kc2 := sC.cell.frozen 0
        obtain ⟨kc3, kc4⟩ := HB.out wC sC.st.gr
        have SC := Lib.hid (sC.set rfl (PR_set1 hat (z jC)) (by simp))
        clear sC hsC hgC
        go_wp2_with fail
        refine bodyPost_ret (v := .agg #[.slice (some ⟨gb, 0, none⟩) l.length cap]) (by simp [results, Try.results45, go_sem, kc3, nb1, nb2, nb3]) rfl ⟨_, _, _, _, _, rfl, Spr.fin hx1 hz1 hg hcd ((St.spr SC.out.st (by simp) (by simp; omega)).le (by omega)) _⟩
    · by_cases d2 : x3 = 2
      · subst d2
        go_wp2_with fail
        refine bodyPost_ret (v := .agg #[.slice (some ⟨gb, 0, none⟩) 1 cap]) (by simp [results, Try.results45, go_sem, kb3, nb1, nb2, nb3]) rfl ⟨_, 1, _, _, _, rfl, Spr.fin hx1 hz1 hg hcd (((St.spr (S4.out.st.far S4.out.lo S4.out.ne _) rfl (by omega)).less l0).le (show K + 102 + 2 ≤ K + 300 by omega)) _⟩
      · by_cases d3 : x3 = 3
        · subst d3
          have sR := S4.out.reset
          have SR := Lib.hid (sR.store sR.lo)
          clear sR
          go_wp2_with fail
          go_loopw [5] (fun v5 wr => ∃ (l : List (Int × Int)) (k : Int) (v : Value), v5 = .int .i64 k ∧ 0 ≤ k ∧ k ≤ 21 ∧ (l.length : Int) = k ∧ Sq W1 wr g a n c f (K + 104 + 2 * k.toNat) 33 26 w1.heap.size v v l) (fun v5 _ => 21 - (intOf v5).toNat)
          case atStart => exact ⟨[], 0, _, rfl, by omega, by omega, rfl, SR.out.le (by omega)⟩
          case round =>
            obtain ⟨l, k, v, rfl, k0, k1, hl, hst⟩ := hrel
            go_wp2_with fail
            refine (pick_c g a n c f (K + 104 + 2 * k.toNat) 2 _ hn (by omega) hst.st.src).mono ?_
            rintro e wD ⟨xD, rfl, yD, yD', zD, hsD, hgD⟩
            have sD := hst.drawn hsD hgD
            have SD := Lib.hid sD
            have kd1 := sD.cell.cell0
            have kd2 := sD.cell.lt
            have kd3 := sD.cell.frozen 0
            have kd4 := sD.st.gr.size
            obtain ⟨kd5, kd6⟩ := HB.out wD sD.st.gr
            clear hst hsD hgD sD
            have q1 := IntWalk.wrap64_in (20 + xD) (by omega)
            by_cases hk : k < 20 + xD
            · go_wp2_with (at_builtin; refine app2s 24 _ _ _ rfl rfl Try.underlying24 info_bend rfl _ _ _ rfl rfl (SD.out.alloc _) (Blk.new _ _ _) (by omega) ?_; intro g' cap' w9 s9; have q3 := s9.cell.frozen 0; have q4 := s9.cell.cell0; have S9 := Lib.hid s9; clear s9)
              exact ⟨⟨l ++ [(_, _)], k + 1, _, by go_num, by omega, by omega, by simp; omega, by have := (S9.out.store S9.out.lo).le (show K + 104 + 2 * k.toNat + 2 ≤ K + 104 + 2 * (k + 1).toNat by omega); simpa using this⟩, by simp [intOf]; omega⟩
            · obtain ⟨b, cap3, rfl⟩ := own_form SD.out.st.own
              go_wp2_with fail
              refine bodyPost_ret (v := .agg #[.slice b l.length cap3]) (by simp [results, Try.results45, go_sem, kd5]) rfl ⟨_, _, _, _, _, rfl, Spr.fin hx1 hz1 hg hcd ((SD.out.st.spr rfl (by omega)).le (by omega)) _⟩
        · have e0 : (x3 == 0) = false := by simpa using d0
          have e1 : (x3 == 1) = false := by simpa using d1
          have e2 : (x3 == 2) = false := by simpa using d2
          have e3 : (x3 == 3) = false := by simpa using d3
          go_wp2_with fail
          refine bodyPost_ret (v := .agg #[.slice (some ⟨gb, 0, none⟩) l.length cap]) (by simp [results, Try.results45, go_sem, kb3]) rfl ⟨_, _, _, _, _, rfl, Spr.fin hx1 hz1 hg hcd ((S4.out.st.spr rfl (by omega)).le (by omega)) _⟩
end Go.Proofs.Ytglcjnplmhelhaa

namespace Go.Proofs.Ytglcjnplmhelhaa
open Go.RowKit
set_option linter.unusedVariables false
set_option linter.unusedSimpArgs false

theorem S2.grow {w w' : World} {a : Option Addr} {n g : Nat} {h o : Nat → Int} (s : S2 w a n h o) (hg : w.grownBy w' (some g)) (hne : ∀ ad, a = some ad → ad.block ≠ g) : S2 w' a n h o := s.but hg (fun ad e e2 => hne ad e (by injection e2))
theorem pick_at {x : Int} {n : Nat} (hn : 1 ≤ n) (h0 : 0 ≤ x) (h1 : x = 0 ∨ x < (n : Int)) : ∃ j : Nat, x = (j : Int) ∧ j < n ∧ (j : Int) < (n : Int) ∧ (0 : Int) ≤ (j : Int) := by
  obtain ⟨j, rfl⟩ := Int.eq_ofNat_of_zero_le h0
  exact ⟨j, rfl, by omega, by omega, by omega⟩
theorem Spr.ne {w0 w : World} {g : Nat} {a : Option Addr} {n c : Nat} {f : Nat → Nat} {K : Nat} {a' : Option Addr} {n' : Nat} {wd pl : Nat → Int} (h : Spr w0 w g a n c f K a' n' wd pl) : ∀ ad, a' = some ad → ad.block ≠ g := fun ad e => by have := h.far ad e; have := h.low; omega
set_option maxHeartbeats 4000000 in
theorem l13DrawAt_c (g : Nat) (a : Option Addr) (n c : Nat) (f : Nat → Nat) (K : Nat) (w0 w : World) (a' : Option Addr) (n' c' : Nat) (wd pl : Nat → Int) (hn : n ≤ 1048576) (hK : K ≤ 900000) (h : Spr w0 w g a n c f K a' n' wd pl) :
    Calls Try.prog 46 #[.pointer (some ⟨g, 0, none⟩), .agg #[.slice a' n' c']] w fun e w' => ∃ x : Int, e = .returned (.int .i64 x) ∧ Spr w0 w' g a n c f (K + 10) a' n' wd pl ∧ w.grownBy w' (some g) := by
  have hn' : n' ≤ 1048576 := by have := h.n21; omega
  have H := Lib.hid h
  have hne := Lib.hid h.ne
  have hgw : g < w.heap.size := by have := h.low; have := h.gr.size; omega
  have hk : ∀ w', (w.alloc (.cells #[.slice a' n' c'] 26)).grownBy w' (some g) → w'.cell? ⟨w.heap.size, 0, none⟩ = some (.slice a' n' c') := fun w' hq => by
    have hB : Blk w' w.heap.size 26 #[.slice a' n' c'] := (hq.block _ (by simp) (fun e => by injection e with e; omega)).trans (Blk.new _ _ _)
    exact hB.cell0
  have HK := Lib.hid hk
  clear hk h
  cases h1 : spV n' wd pl
  · go_enter Try.func46, Try.ntmps46
    go_wp2_with (go_at_call 49; ((with_reducible refine (l13Ok_c hn' (H.out.s2.ext (by repeat (first | with_reducible exact Ext.refl _ | with_reducible assumption | with_reducible refine Ext.alloc ?_ _ | with_reducible refine Ext.drew ?_ | (with_reducible refine Ext.setAt ?_ _ _ _ ?_; rotate_left; omega) | with_reducible refine Ext.trans ?_ (by assumption) | with_reducible exact Past.bel _ | with_reducible refine Ext.trans ?_ (Past.bel _))))).mono ?_); rintro e w' ⟨rfl, hx⟩; (first | (obtain ⟨wx, rfl⟩ := Past.again hx) | (obtain ⟨wx, rfl⟩ := Past.ofd hx) | (obtain ⟨wx, rfl⟩ := Past.of hx))))
    refine (pick_c g a n c f K 300 _ hn (by omega) (H.out.ext (by repeat (first | with_reducible exact Ext.refl _ | with_reducible assumption | with_reducible refine Ext.alloc ?_ _ | with_reducible refine Ext.drew ?_ | (with_reducible refine Ext.setAt ?_ _ _ _ ?_; rotate_left; omega) | with_reducible refine Ext.trans ?_ (by assumption) | with_reducible exact Past.bel _ | with_reducible refine Ext.trans ?_ (Past.bel _)))).src).mono ?_
    rintro e w1 ⟨x1, rfl, y1, y1', z1, hs1, hg1⟩
    have s1 := (H.out.ext (w1 := _) (by repeat (first | with_reducible exact Ext.refl _ | with_reducible assumption | with_reducible refine Ext.alloc ?_ _ | with_reducible refine Ext.drew ?_ | (with_reducible refine Ext.setAt ?_ _ _ _ ?_; rotate_left; omega) | with_reducible refine Ext.trans ?_ (by assumption) | with_reducible exact Past.bel _ | with_reducible refine Ext.trans ?_ (Past.bel _)))).drawn hs1 hg1
    have hw1 : w.grownBy w1 (some g) := grown_trans (grown_weak (ext_grown (by repeat (first | with_reducible exact Ext.refl _ | with_reducible assumption | with_reducible refine Ext.alloc ?_ _ | with_reducible refine Ext.drew ?_ | (with_reducible refine Ext.setAt ?_ _ _ _ ?_; rotate_left; omega) | with_reducible refine Ext.trans ?_ (by assumption) | with_reducible exact Past.bel _ | with_reducible refine Ext.trans ?_ (Past.bel _))))) hg1
    go_wp2_with fail
    go_ret
    exact ⟨_, rfl, s1.le (by omega), hw1⟩
  · have B := Lib.hid (spV_b h1)
    have hn1 : 1 ≤ n' := by have := B.out.n2; omega
    go_enter Try.func46, Try.ntmps46
    go_wp2_with (go_at_call 49; ((with_reducible refine (l13Ok_c hn' (H.out.s2.ext (by repeat (first | with_reducible exact Ext.refl _ | with_reducible assumption | with_reducible refine Ext.alloc ?_ _ | with_reducible refine Ext.drew ?_ | (with_reducible refine Ext.setAt ?_ _ _ _ ?_; rotate_left; omega) | with_reducible refine Ext.trans ?_ (by assumption) | with_reducible exact Past.bel _ | with_reducible refine Ext.trans ?_ (Past.bel _))))).mono ?_); rintro e w' ⟨rfl, hx⟩; (first | (obtain ⟨wx, rfl⟩ := Past.again hx) | (obtain ⟨wx, rfl⟩ := Past.ofd hx) | (obtain ⟨wx, rfl⟩ := Past.of hx))))
    refine (one_c g a n c f K 16 _ hn (by omega) (H.out.ext (by repeat (first | with_reducible exact Ext.refl _ | with_reducible assumption | with_reducible refine Ext.alloc ?_ _ | with_reducible refine Ext.drew ?_ | (with_reducible refine Ext.setAt ?_ _ _ _ ?_; rotate_left; omega) | with_reducible refine Ext.trans ?_ (by assumption) | with_reducible exact Past.bel _ | with_reducible refine Ext.trans ?_ (Past.bel _)))).src).mono ?_
    rintro e w1 ⟨b1, rfl, hs1, hg1⟩
    have s1 := (H.out.ext (w1 := _) (by repeat (first | with_reducible exact Ext.refl _ | with_reducible assumption | with_reducible refine Ext.alloc ?_ _ | with_reducible refine Ext.drew ?_ | (with_reducible refine Ext.setAt ?_ _ _ _ ?_; rotate_left; omega) | with_reducible refine Ext.trans ?_ (by assumption) | with_reducible exact Past.bel _ | with_reducible refine Ext.trans ?_ (Past.bel _)))).drawn hs1 hg1
    have SP1 := Lib.hid s1
    have hw1 : (w.alloc (.cells #[.slice a' n' c'] 26)).grownBy w1 (some g) := grown_trans (grown_weak (ext_grown (by repeat (first | with_reducible exact Ext.refl _ | with_reducible assumption | with_reducible refine Ext.alloc ?_ _ | with_reducible refine Ext.drew ?_ | (with_reducible refine Ext.setAt ?_ _ _ _ ?_; rotate_left; omega) | with_reducible refine Ext.trans ?_ (by assumption) | with_reducible exact Past.bel _ | with_reducible refine Ext.trans ?_ (Past.bel _))))) hg1
    have hww := grown_trans (grown_weak (ext_grown (show Ext w (w.alloc (.cells #[.slice a' n' c'] 26)) from (by repeat (first | with_reducible exact Ext.refl _ | with_reducible assumption | with_reducible refine Ext.alloc ?_ _ | with_reducible refine Ext.drew ?_ | (with_reducible refine Ext.setAt ?_ _ _ _ ?_; rotate_left; omega) | with_reducible refine Ext.trans ?_ (by assumption) | with_reducible exact Past.bel _ | with_reducible refine Ext.trans ?_ (Past.bel _)))))) hw1
    clear s1 hs1 hg1
    cases b1
    · go_wp2_with fail
      refine (one_c g a n c f (K + 2) 4 _ hn (by omega) SP1.out.src).mono ?_
      rintro e w2 ⟨b2, rfl, hs2, hg2⟩
      have SP := Lib.hid (SP1.out.drawn hs2 hg2)
      have hw2 := grown_trans hw1 hg2
      have hww2 := Lib.hid (grown_trans hww hg2)
      have p0 := HK.out w2 hw2
      have HK2 := Lib.hid (fun (w' : World) (hq : w2.grownBy w' (some g)) => HK.out w' (grown_trans hw2 hq))
      clear hs2 hg2 SP1 hw1 hw2 hww
      cases b2
      · go_wp2_with fail
        go_region_held3 (fun w' => w'.cell? ⟨w.heap.size, 0, none⟩ = some (.slice a' n' c')) (exact HK2.out _ (by repeat (first | with_reducible exact grown_refl _ _ | with_reducible assumption | with_reducible refine grown_alloc ?_ _ | with_reducible refine grown_drew ?_ | with_reducible refine grown_trans ?_ (by assumption))))
          (first | (go_at_call 68; ((with_reducible refine (l13First_c hn1 (SP.out.s2.grow (by repeat (first | with_reducible exact grown_refl _ _ | with_reducible assumption | with_reducible refine grown_alloc ?_ _ | with_reducible refine grown_drew ?_ | with_reducible refine grown_trans ?_ (by assumption))) hne.out)).mono ?_); rintro e wF ⟨rfl, hxF⟩; have hgF := grown_weak (row := some g) (ext_grown hxF))) | (go_at_call 69; ((with_reducible refine (l13Last_c hn1 hn' (SP.out.s2.grow (by repeat (first | with_reducible exact grown_refl _ _ | with_reducible assumption | with_reducible refine grown_alloc ?_ _ | with_reducible refine grown_drew ?_ | with_reducible refine grown_trans ?_ (by assumption))) hne.out)).mono ?_); rintro e wL ⟨rfl, hxL⟩; have hgL := grown_weak (row := some g) (ext_grown hxL))) | (go_at_call 54; ((with_reducible refine (pick_c g a n c f (K + 4) _ _ hn (by omega) (SP.out.ext (by repeat (first | with_reducible exact Ext.refl _ | with_reducible assumption | with_reducible refine Ext.alloc ?_ _ | with_reducible refine Ext.drew ?_ | (with_reducible refine Ext.setAt ?_ _ _ _ ?_; rotate_left; omega) | with_reducible refine Ext.trans ?_ (by assumption) | with_reducible exact Past.bel _ | with_reducible refine Ext.trans ?_ (Past.bel _)))).src).mono ?_); rintro e wC ⟨x, rfl, x0, x0', x1, hsC, hgC⟩)))
        all_goals
          have sE := SP.out.drawn hsC (by repeat (first | with_reducible exact grown_refl _ _ | with_reducible assumption | with_reducible refine grown_alloc ?_ _ | with_reducible refine grown_drew ?_ | with_reducible refine grown_trans ?_ (by assumption)))
          go_wp2_with fail
          go_ret
          first | exact ⟨_, rfl, sE.le (by omega), grown_trans hww2.out (by repeat (first | with_reducible exact grown_refl _ _ | with_reducible assumption | with_reducible refine grown_alloc ?_ _ | with_reducible refine grown_drew ?_ | with_reducible refine grown_trans ?_ (by assumption)))⟩ | exact ⟨_, rfl, (sE.ext (by repeat (first | with_reducible exact Ext.refl _ | with_reducible assumption | with_reducible refine Ext.alloc ?_ _ | with_reducible refine Ext.drew ?_ | (with_reducible refine Ext.setAt ?_ _ _ _ ?_; rotate_left; omega) | with_reducible refine Ext.trans ?_ (by assumption) | with_reducible exact Past.bel _ | with_reducible refine Ext.trans ?_ (Past.bel _)))).le (by omega), grown_trans hww2.out (by repeat (first | with_reducible exact grown_refl _ _ | with_reducible assumption | with_reducible refine grown_alloc ?_ _ | with_reducible refine grown_drew ?_ | with_reducible refine grown_trans ?_ (by assumption)))⟩
      · obtain ⟨b1, o1, e1, hb1, _⟩ := SP.out.s2.at (show 0 < n' by omega)
        subst e1
        have HK3 := Lib.hid (fun (w' : World) (hq : w2.grownBy w' (some g)) => (show w'.cell? ⟨w.heap.size, 0, none⟩ = some (.slice (some ⟨b1, o1, none⟩) n' c') ∧ ∀ j : Nat, j < n' → w'.cell? ⟨b1, o1 + j * 2, none⟩ = some (.int .i64 (wd j)) from ⟨HK2.out w' hq, fun j hj => by
          obtain ⟨b2, o2, e2, hb2, r1, r2⟩ := (SP.out.s2.grow hq hne.out).at hj
          obtain ⟨rfl, rfl⟩ : b1 = b2 ∧ o1 = o2 := by simpa using e2
          exact r1⟩))
        go_wp2_with fail
        go_region_held3 (fun w' => w'.cell? ⟨w.heap.size, 0, none⟩ = some (.slice (some ⟨b1, o1, none⟩) n' c') ∧ ∀ j : Nat, j < n' → w'.cell? ⟨b1, o1 + j * 2, none⟩ = some (.int .i64 (wd j))) (exact HK3.out _ (by repeat (first | with_reducible exact grown_refl _ _ | with_reducible assumption | with_reducible refine grown_alloc ?_ _ | with_reducible refine grown_drew ?_ | with_reducible refine grown_trans ?_ (by assumption))))
          ((go_at_call 54; ((with_reducible refine (pick_c g a n c f (K + 4) _ _ hn (by omega) (SP.out.ext (by repeat (first | with_reducible exact Ext.refl _ | with_reducible assumption | with_reducible refine Ext.alloc ?_ _ | with_reducible refine Ext.drew ?_ | (with_reducible refine Ext.setAt ?_ _ _ _ ?_; rotate_left; omega) | with_reducible refine Ext.trans ?_ (by assumption) | with_reducible exact Past.bel _ | with_reducible refine Ext.trans ?_ (Past.bel _)))).src).mono ?_); rintro e wC ⟨x, rfl, x0, x0', x1, hsC, hgC⟩; obtain ⟨jj, rfl, hjj, hj2, hj3⟩ := pick_at hn1 x0 x0')))
        all_goals
          have sE := SP.out.drawn hsC (by repeat (first | with_reducible exact grown_refl _ _ | with_reducible assumption | with_reducible refine grown_alloc ?_ _ | with_reducible refine grown_drew ?_ | with_reducible refine grown_trans ?_ (by assumption)))
          go_wp2_with fail
          go_ret
          exact ⟨_, rfl, sE.le (by omega), grown_trans hww2.out (by repeat (first | with_reducible exact grown_refl _ _ | with_reducible assumption | with_reducible refine grown_alloc ?_ _ | with_reducible refine grown_drew ?_ | with_reducible refine grown_trans ?_ (by assumption)))⟩
    · go_wp2_with fail
      refine (pick_c g a n c f (K + 2) 300 _ hn (by omega) SP1.out.src).mono ?_
      rintro e w2 ⟨x1, rfl, y1, y1', z1, hs2, hg2⟩
      have s2 := SP1.out.drawn hs2 hg2
      go_wp2_with fail
      go_ret
      exact ⟨_, rfl, s2.le (by omega), grown_trans hww hg2⟩
end Go.Proofs.Ytglcjnplmhelhaa

namespace Go.Proofs.Ytglcjnplmhelhaa
open Go.RowKit
set_option linter.unusedVariables false
set_option linter.unusedSimpArgs false

/-- what PullAt returns -/
def paV (n : Nat) (wd pl : Nat → Int) (t : Int) : Int := if spV n wd pl && inS n wd t then pullF wd pl t else 0
def paC (n : Nat) (wd pl : Nat → Int) (t : Int) : Int := if spV n wd pl then (if inS n wd t then 0 else 2) else 1
section
variable {a : Option Addr} {n c : Nat} {wd pl : Nat → Int} {w : World}
set_option maxHeartbeats 1000000 in
theorem implPullAt_c (hn : n ≤ 1048576) (hs : S2 w a n wd pl) (t : Int) :
    Calls Try.prog 11 #[.agg #[.slice a n c], .int .i64 t] w fun e w' => e = .returned (.tuple #[.int .i64 (paV n wd pl t), .int .i64 (paC n wd pl t)]) ∧ Ext w w' := by
  have HS := Lib.hid hs
  clear hs
  cases h1 : spV n wd pl
  · go_enter Try.func11, Try.ntmps11
    go_wp2_with (go_at_call 13; ((with_reducible refine (validSpring_c hn (HS.out.ext (by repeat (first | with_reducible exact Ext.refl _ | with_reducible assumption | with_reducible refine Ext.alloc ?_ _ | with_reducible refine Ext.drew ?_ | (with_reducible refine Ext.setAt ?_ _ _ _ ?_; rotate_left; omega) | with_reducible refine Ext.trans ?_ (by assumption) | with_reducible exact Past.bel _ | with_reducible refine Ext.trans ?_ (Past.bel _))))).mono ?_); rintro e w' ⟨rfl, hx⟩; (first | (obtain ⟨wx, rfl⟩ := Past.again hx) | (obtain ⟨wx, rfl⟩ := Past.ofd hx) | (obtain ⟨wx, rfl⟩ := Past.of hx))))
    go_ret2
    exact ⟨by simp [paV, paC, h1], (by repeat (first | with_reducible exact Ext.refl _ | with_reducible assumption | with_reducible refine Ext.alloc ?_ _ | with_reducible refine Ext.drew ?_ | (with_reducible refine Ext.setAt ?_ _ _ _ ?_; rotate_left; omega) | with_reducible refine Ext.trans ?_ (by assumption) | with_reducible exact Past.bel _ | with_reducible refine Ext.trans ?_ (Past.bel _)))⟩
  · have B := Lib.hid (spV_b h1)
    have hn1 : 1 ≤ n := by have := B.out.n2; omega
    cases h2 : inS n wd t
    · go_enter Try.func11, Try.ntmps11
      go_wp2_with (first | (go_at_call 13; ((with_reducible refine (validSpring_c hn (HS.out.ext (by repeat (first | with_reducible exact Ext.refl _ | with_reducible assumption | with_reducible refine Ext.alloc ?_ _ | with_reducible refine Ext.drew ?_ | (with_reducible refine Ext.setAt ?_ _ _ _ ?_; rotate_left; omega) | with_reducible refine Ext.trans ?_ (by assumption) | with_reducible exact Past.bel _ | with_reducible refine Ext.trans ?_ (Past.bel _))))).mono ?_); rintro e w' ⟨rfl, hx⟩; (first | (obtain ⟨wx, rfl⟩ := Past.again hx) | (obtain ⟨wx, rfl⟩ := Past.ofd hx) | (obtain ⟨wx, rfl⟩ := Past.of hx)))) | (go_at_call 47; ((with_reducible refine (isPosition_c hn1 hn (HS.out.ext (by repeat (first | with_reducible exact Ext.refl _ | with_reducible assumption | with_reducible refine Ext.alloc ?_ _ | with_reducible refine Ext.drew ?_ | (with_reducible refine Ext.setAt ?_ _ _ _ ?_; rotate_left; omega) | with_reducible refine Ext.trans ?_ (by assumption) | with_reducible exact Past.bel _ | with_reducible refine Ext.trans ?_ (Past.bel _)))) _).mono ?_); rintro e w' ⟨rfl, hx⟩; (first | (obtain ⟨wx, rfl⟩ := Past.again hx) | (obtain ⟨wx, rfl⟩ := Past.ofd hx) | (obtain ⟨wx, rfl⟩ := Past.of hx)))))
      go_ret2
      exact ⟨by simp [paV, paC, h1, h2], (by repeat (first | with_reducible exact Ext.refl _ | with_reducible assumption | with_reducible refine Ext.alloc ?_ _ | with_reducible refine Ext.drew ?_ | (with_reducible refine Ext.setAt ?_ _ _ _ ?_; rotate_left; omega) | with_reducible refine Ext.trans ?_ (by assumption) | with_reducible exact Past.bel _ | with_reducible refine Ext.trans ?_ (Past.bel _)))⟩
    · have H2 := Lib.hid h2
      go_enter Try.func11, Try.ntmps11
      go_wp2_with (first | (go_at_call 13; ((with_reducible refine (validSpring_c hn (HS.out.ext (by repeat (first | with_reducible exact Ext.refl _ | with_reducible assumption | with_reducible refine Ext.alloc ?_ _ | with_reducible refine Ext.drew ?_ | (with_reducible refine Ext.setAt ?_ _ _ _ ?_; rotate_left; omega) | with_reducible refine Ext.trans ?_ (by assumption) | with_reducible exact Past.bel _ | with_reducible refine Ext.trans ?_ (Past.bel _))))).mono ?_); rintro e w' ⟨rfl, hx⟩; (first | (obtain ⟨wx, rfl⟩ := Past.again hx) | (obtain ⟨wx, rfl⟩ := Past.ofd hx) | (obtain ⟨wx, rfl⟩ := Past.of hx)))) | (go_at_call 47; ((with_reducible refine (isPosition_c hn1 hn (HS.out.ext (by repeat (first | with_reducible exact Ext.refl _ | with_reducible assumption | with_reducible refine Ext.alloc ?_ _ | with_reducible refine Ext.drew ?_ | (with_reducible refine Ext.setAt ?_ _ _ _ ?_; rotate_left; omega) | with_reducible refine Ext.trans ?_ (by assumption) | with_reducible exact Past.bel _ | with_reducible refine Ext.trans ?_ (Past.bel _)))) _).mono ?_); rintro e w' ⟨rfl, hx⟩; (first | (obtain ⟨wx, rfl⟩ := Past.again hx) | (obtain ⟨wx, rfl⟩ := Past.ofd hx) | (obtain ⟨wx, rfl⟩ := Past.of hx)))) | (go_at_call 48; ((with_reducible refine (pullAt_c B.out (HS.out.ext (by repeat (first | with_reducible exact Ext.refl _ | with_reducible assumption | with_reducible refine Ext.alloc ?_ _ | with_reducible refine Ext.drew ?_ | (with_reducible refine Ext.setAt ?_ _ _ _ ?_; rotate_left; omega) | with_reducible refine Ext.trans ?_ (by assumption) | with_reducible exact Past.bel _ | with_reducible refine Ext.trans ?_ (Past.bel _)))) H2.out).mono ?_); rintro e w' ⟨rfl, hx⟩; (first | (obtain ⟨wx, rfl⟩ := Past.again hx) | (obtain ⟨wx, rfl⟩ := Past.ofd hx) | (obtain ⟨wx, rfl⟩ := Past.of hx)))))
      go_ret2
      exact ⟨by simp [paV, paC, h1, h2], (by repeat (first | with_reducible exact Ext.refl _ | with_reducible assumption | with_reducible refine Ext.alloc ?_ _ | with_reducible refine Ext.drew ?_ | (with_reducible refine Ext.setAt ?_ _ _ _ ?_; rotate_left; omega) | with_reducible refine Ext.trans ?_ (by assumption) | with_reducible exact Past.bel _ | with_reducible refine Ext.trans ?_ (Past.bel _)))⟩
set_option maxHeartbeats 1000000 in
theorem specPullAt_c (hn : n ≤ 1048576) (hs : S2 w a n wd pl) (t : Int) :
    Calls Try.prog 12 #[.agg #[.slice a n c], .int .i64 t] w fun e w' => e = .returned (.tuple #[.int .i64 (paV n wd pl t), .int .i64 (paC n wd pl t)]) ∧ Ext w w' := by
  have HS := Lib.hid hs
  clear hs
  cases h1 : spV n wd pl
  · go_enter Try.func12, Try.ntmps12
    go_wp2_with (go_at_call 49; ((with_reducible refine (l13Ok_c hn (HS.out.ext (by repeat (first | with_reducible exact Ext.refl _ | with_reducible assumption | with_reducible refine Ext.alloc ?_ _ | with_reducible refine Ext.drew ?_ | (with_reducible refine Ext.setAt ?_ _ _ _ ?_; rotate_left; omega) | with_reducible refine Ext.trans ?_ (by assumption) | with_reducible exact Past.bel _ | with_reducible refine Ext.trans ?_ (Past.bel _))))).mono ?_); rintro e w' ⟨rfl, hx⟩; (first | (obtain ⟨wx, rfl⟩ := Past.again hx) | (obtain ⟨wx, rfl⟩ := Past.ofd hx) | (obtain ⟨wx, rfl⟩ := Past.of hx))))
    go_ret2
    exact ⟨by simp [paV, paC, h1], (by repeat (first | with_reducible exact Ext.refl _ | with_reducible assumption | with_reducible refine Ext.alloc ?_ _ | with_reducible refine Ext.drew ?_ | (with_reducible refine Ext.setAt ?_ _ _ _ ?_; rotate_left; omega) | with_reducible refine Ext.trans ?_ (by assumption) | with_reducible exact Past.bel _ | with_reducible refine Ext.trans ?_ (Past.bel _)))⟩
  · have B := Lib.hid (spV_b h1)
    have hn1 : 1 ≤ n := by have := B.out.n2; omega
    cases h2 : inS n wd t
    · go_enter Try.func12, Try.ntmps12
      go_wp2_with (first | (go_at_call 49; ((with_reducible refine (l13Ok_c hn (HS.out.ext (by repeat (first | with_reducible exact Ext.refl _ | with_reducible assumption | with_reducible refine Ext.alloc ?_ _ | with_reducible refine Ext.drew ?_ | (with_reducible refine Ext.setAt ?_ _ _ _ ?_; rotate_left; omega) | with_reducible refine Ext.trans ?_ (by assumption) | with_reducible exact Past.bel _ | with_reducible refine Ext.trans ?_ (Past.bel _))))).mono ?_); rintro e w' ⟨rfl, hx⟩; (first | (obtain ⟨wx, rfl⟩ := Past.again hx) | (obtain ⟨wx, rfl⟩ := Past.ofd hx) | (obtain ⟨wx, rfl⟩ := Past.of hx)))) | (go_at_call 50; ((with_reducible refine (l13In_c hn1 hn (HS.out.ext (by repeat (first | with_reducible exact Ext.refl _ | with_reducible assumption | with_reducible refine Ext.alloc ?_ _ | with_reducible refine Ext.drew ?_ | (with_reducible refine Ext.setAt ?_ _ _ _ ?_; rotate_left; omega) | with_reducible refine Ext.trans ?_ (by assumption) | with_reducible exact Past.bel _ | with_reducible refine Ext.trans ?_ (Past.bel _)))) _).mono ?_); rintro e w' ⟨rfl, hx⟩; (first | (obtain ⟨wx, rfl⟩ := Past.again hx) | (obtain ⟨wx, rfl⟩ := Past.ofd hx) | (obtain ⟨wx, rfl⟩ := Past.of hx)))))
      go_ret2
      exact ⟨by simp [paV, paC, h1, h2], (by repeat (first | with_reducible exact Ext.refl _ | with_reducible assumption | with_reducible refine Ext.alloc ?_ _ | with_reducible refine Ext.drew ?_ | (with_reducible refine Ext.setAt ?_ _ _ _ ?_; rotate_left; omega) | with_reducible refine Ext.trans ?_ (by assumption) | with_reducible exact Past.bel _ | with_reducible refine Ext.trans ?_ (Past.bel _)))⟩
    · have H2 := Lib.hid h2
      go_enter Try.func12, Try.ntmps12
      go_wp2_with (first | (go_at_call 49; ((with_reducible refine (l13Ok_c hn (HS.out.ext (by repeat (first | with_reducible exact Ext.refl _ | with_reducible assumption | with_reducible refine Ext.alloc ?_ _ | with_reducible refine Ext.drew ?_ | (with_reducible refine Ext.setAt ?_ _ _ _ ?_; rotate_left; omega) | with_reducible refine Ext.trans ?_ (by assumption) | with_reducible exact Past.bel _ | with_reducible refine Ext.trans ?_ (Past.bel _))))).mono ?_); rintro e w' ⟨rfl, hx⟩; (first | (obtain ⟨wx, rfl⟩ := Past.again hx) | (obtain ⟨wx, rfl⟩ := Past.ofd hx) | (obtain ⟨wx, rfl⟩ := Past.of hx)))) | (go_at_call 50; ((with_reducible refine (l13In_c hn1 hn (HS.out.ext (by repeat (first | with_reducible exact Ext.refl _ | with_reducible assumption | with_reducible refine Ext.alloc ?_ _ | with_reducible refine Ext.drew ?_ | (with_reducible refine Ext.setAt ?_ _ _ _ ?_; rotate_left; omega) | with_reducible refine Ext.trans ?_ (by assumption) | with_reducible exact Past.bel _ | with_reducible refine Ext.trans ?_ (Past.bel _)))) _).mono ?_); rintro e w' ⟨rfl, hx⟩; (first | (obtain ⟨wx, rfl⟩ := Past.again hx) | (obtain ⟨wx, rfl⟩ := Past.ofd hx) | (obtain ⟨wx, rfl⟩ := Past.of hx)))) | (go_at_call 51; ((with_reducible refine (l13At_c B.out (HS.out.ext (by repeat (first | with_reducible exact Ext.refl _ | with_reducible assumption | with_reducible refine Ext.alloc ?_ _ | with_reducible refine Ext.drew ?_ | (with_reducible refine Ext.setAt ?_ _ _ _ ?_; rotate_left; omega) | with_reducible refine Ext.trans ?_ (by assumption) | with_reducible exact Past.bel _ | with_reducible refine Ext.trans ?_ (Past.bel _)))) H2.out).mono ?_); rintro e w' ⟨rfl, hx⟩; (first | (obtain ⟨wx, rfl⟩ := Past.again hx) | (obtain ⟨wx, rfl⟩ := Past.ofd hx) | (obtain ⟨wx, rfl⟩ := Past.of hx)))))
      go_ret2
      exact ⟨by simp [paV, paC, h1, h2], (by repeat (first | with_reducible exact Ext.refl _ | with_reducible assumption | with_reducible refine Ext.alloc ?_ _ | with_reducible refine Ext.drew ?_ | (with_reducible refine Ext.setAt ?_ _ _ _ ?_; rotate_left; omega) | with_reducible refine Ext.trans ?_ (by assumption) | with_reducible exact Past.bel _ | with_reducible refine Ext.trans ?_ (Past.bel _)))⟩
end
end Go.Proofs.Ytglcjnplmhelhaa

namespace Go.Proofs.Ytglcjnplmhelhaa
open Go.RowKit
set_option linter.unusedVariables false
set_option linter.unusedSimpArgs false

/-- what EnergyBetween returns -/
def ebB (n : Nat) (wd : Nat → Int) (f t : Int) : Bool := inS n wd f && (inS n wd t && decide (f ≤ t))
def ebV (n : Nat) (wd pl : Nat → Int) (f t : Int) : Int := if spV n wd pl && ebB n wd f t then eng wd pl f (t - f).toNat else 0
def ebC (n : Nat) (wd pl : Nat → Int) (f t : Int) : Int := if spV n wd pl then (if ebB n wd f t then 0 else 2) else 1
theorem eng_le {n : Nat} {wd pl : Nat → Int} (b : SpB n wd pl) {f : Int} (hf : inS n wd f = true) {k : Nat} (hk : inS n wd (f + k) = true) : ∀ j : Nat, j ≤ k → 0 ≤ eng wd pl f j ∧ eng wd pl f j ≤ 2000000 * j := by
  intro j
  induction j with
  | zero => intro _; simp [eng]
  | succ j ih =>
    intro hj
    have h1 := ih (by omega)
    have hin : ∀ i : Nat, i ≤ k → inS n wd (f + i) = true := fun i hi => by
      have h2 := inB_t.1 hf
      have h3 := inB_t.1 hk
      exact inB_t.2 ⟨by omega, by omega⟩
    have h4 := b.pull (hin j (by omega))
    have h5 := b.pull (hin (j + 1) hj)
    have e : f + ((j + 1 : Nat) : Int) = f + (j : Int) + 1 := by omega
    rw [e] at h5
    simp only [eng]
    omega
section
variable {a : Option Addr} {n c : Nat} {wd pl : Nat → Int} {w : World}
set_option maxHeartbeats 4000000 in
theorem implEnergy_c (hn : n ≤ 1048576) (hs : S2 w a n wd pl) (f t : Int) :
    Calls Try.prog 22 #[.agg #[.slice a n c], .int .i64 f, .int .i64 t] w fun e w' => e = .returned (.tuple #[.int .i64 (ebV n wd pl f t), .int .i64 (ebC n wd pl f t)]) ∧ Ext w w' := by
  have HS := Lib.hid hs
  clear hs
  cases h1 : spV n wd pl
  · go_enter Try.func22, Try.ntmps22
    go_wp2_with (go_at_call 13; ((with_reducible refine (validSpring_c hn (HS.out.ext (by repeat (first | with_reducible exact Ext.refl _ | with_reducible assumption | with_reducible refine Ext.alloc ?_ _ | with_reducible refine Ext.drew ?_ | (with_reducible refine Ext.setAt ?_ _ _ _ ?_; rotate_left; omega) | with_reducible refine Ext.trans ?_ (by assumption) | with_reducible exact Past.bel _ | with_reducible refine Ext.trans ?_ (Past.bel _))))).mono ?_); rintro e w' ⟨rfl, hx⟩; (first | (obtain ⟨wx, rfl⟩ := Past.again hx) | (obtain ⟨wx, rfl⟩ := Past.ofd hx) | (obtain ⟨wx, rfl⟩ := Past.of hx))))
    go_ret2
    exact ⟨by simp [ebV, ebC, h1], (by repeat (first | with_reducible exact Ext.refl _ | with_reducible assumption | with_reducible refine Ext.alloc ?_ _ | with_reducible refine Ext.drew ?_ | (with_reducible refine Ext.setAt ?_ _ _ _ ?_; rotate_left; omega) | with_reducible refine Ext.trans ?_ (by assumption) | with_reducible exact Past.bel _ | with_reducible refine Ext.trans ?_ (Past.bel _)))⟩
  · have B := Lib.hid (spV_b h1)
    have hn1 : 1 ≤ n := by have := B.out.n2; omega
    cases h2 : inS n wd f
    · go_enter Try.func22, Try.ntmps22
      go_wp2_with (first | (go_at_call 13; ((with_reducible refine (validSpring_c hn (HS.out.ext (by repeat (first | with_reducible exact Ext.refl _ | with_reducible assumption | with_reducible refine Ext.alloc ?_ _ | with_reducible refine Ext.drew ?_ | (with_reducible refine Ext.setAt ?_ _ _ _ ?_; rotate_left; omega) | with_reducible refine Ext.trans ?_ (by assumption) | with_reducible exact Past.bel _ | with_reducible refine Ext.trans ?_ (Past.bel _))))).mono ?_); rintro e w' ⟨rfl, hx⟩; (first | (obtain ⟨wx, rfl⟩ := Past.again hx) | (obtain ⟨wx, rfl⟩ := Past.ofd hx) | (obtain ⟨wx, rfl⟩ := Past.of hx)))) | (go_at_call 47; ((with_reducible refine (isPosition_c hn1 hn (HS.out.ext (by repeat (first | with_reducible exact Ext.refl _ | with_reducible assumption | with_reducible refine Ext.alloc ?_ _ | with_reducible refine Ext.drew ?_ | (with_reducible refine Ext.setAt ?_ _ _ _ ?_; rotate_left; omega) | with_reducible refine Ext.trans ?_ (by assumption) | with_reducible exact Past.bel _ | with_reducible refine Ext.trans ?_ (Past.bel _)))) _).mono ?_); rintro e w' ⟨rfl, hx⟩; (first | (obtain ⟨wx, rfl⟩ := Past.again hx) | (obtain ⟨wx, rfl⟩ := Past.ofd hx) | (obtain ⟨wx, rfl⟩ := Past.of hx)))))
      go_ret2
      exact ⟨by simp [ebV, ebC, ebB, h1, h2], (by repeat (first | with_reducible exact Ext.refl _ | with_reducible assumption | with_reducible refine Ext.alloc ?_ _ | with_reducible refine Ext.drew ?_ | (with_reducible refine Ext.setAt ?_ _ _ _ ?_; rotate_left; omega) | with_reducible refine Ext.trans ?_ (by assumption) | with_reducible exact Past.bel _ | with_reducible refine Ext.trans ?_ (Past.bel _)))⟩
    · cases h3 : inS n wd t
      · go_enter Try.func22, Try.ntmps22
        go_wp2_with (first | (go_at_call 13; ((with_reducible refine (validSpring_c hn (HS.out.ext (by repeat (first | with_reducible exact Ext.refl _ | with_reducible assumption | with_reducible refine Ext.alloc ?_ _ | with_reducible refine Ext.drew ?_ | (with_reducible refine Ext.setAt ?_ _ _ _ ?_; rotate_left; omega) | with_reducible refine Ext.trans ?_ (by assumption) | with_reducible exact Past.bel _ | with_reducible refine Ext.trans ?_ (Past.bel _))))).mono ?_); rintro e w' ⟨rfl, hx⟩; (first | (obtain ⟨wx, rfl⟩ := Past.again hx) | (obtain ⟨wx, rfl⟩ := Past.ofd hx) | (obtain ⟨wx, rfl⟩ := Past.of hx)))) | (go_at_call 47; ((with_reducible refine (isPosition_c hn1 hn (HS.out.ext (by repeat (first | with_reducible exact Ext.refl _ | with_reducible assumption | with_reducible refine Ext.alloc ?_ _ | with_reducible refine Ext.drew ?_ | (with_reducible refine Ext.setAt ?_ _ _ _ ?_; rotate_left; omega) | with_reducible refine Ext.trans ?_ (by assumption) | with_reducible exact Past.bel _ | with_reducible refine Ext.trans ?_ (Past.bel _)))) _).mono ?_); rintro e w' ⟨rfl, hx⟩; (first | (obtain ⟨wx, rfl⟩ := Past.again hx) | (obtain ⟨wx, rfl⟩ := Past.ofd hx) | (obtain ⟨wx, rfl⟩ := Past.of hx)))))
        go_ret2
        exact ⟨by simp [ebV, ebC, ebB, h1, h2, h3], (by repeat (first | with_reducible exact Ext.refl _ | with_reducible assumption | with_reducible refine Ext.alloc ?_ _ | with_reducible refine Ext.drew ?_ | (with_reducible refine Ext.setAt ?_ _ _ _ ?_; rotate_left; omega) | with_reducible refine Ext.trans ?_ (by assumption) | with_reducible exact Past.bel _ | with_reducible refine Ext.trans ?_ (Past.bel _)))⟩
      · by_cases h4 : f ≤ t
        · obtain ⟨k, hk⟩ : ∃ k : Nat, t = f + (k : Int) := ⟨(t - f).toNat, by omega⟩
          subst hk
          have hf := B.out.inS h2
          have ht := B.out.inS h3
          have hle := Lib.hid (eng_le B.out h2 h3)
          have hin := Lib.hid (fun (i : Nat) (hi : i ≤ k) => show inS n wd (f + (i : Int)) = true from by
            have h5 := inB_t.1 h2
            have h6 := inB_t.1 h3
            exact inB_t.2 ⟨by omega, by omega⟩)
          have hv : ebV n wd pl f (f + (k : Int)) = eng wd pl f k := by
            have e : (f + (k : Int) - f).toNat = k := by omega
            rw [ebV, ebB, h1, h2, h3, decide_eq_true h4, e]; rfl
          have hc : ebC n wd pl f (f + (k : Int)) = 0 := by rw [ebC, ebB, h1, h2, h3, decide_eq_true h4]; rfl
          rw [hv, hc]
          clear hv hc
          go_enter Try.func22, Try.ntmps22
          go_wp2_with (first | (go_at_call 13; ((with_reducible refine (validSpring_c hn (HS.out.ext (by repeat (first | with_reducible exact Ext.refl _ | with_reducible assumption | with_reducible refine Ext.alloc ?_ _ | with_reducible refine Ext.drew ?_ | (with_reducible refine Ext.setAt ?_ _ _ _ ?_; rotate_left; omega) | with_reducible refine Ext.trans ?_ (by assumption) | with_reducible exact Past.bel _ | with_reducible refine Ext.trans ?_ (Past.bel _))))).mono ?_); rintro e w' ⟨rfl, hx⟩; (first | (obtain ⟨wx, rfl⟩ := Past.again hx) | (obtain ⟨wx, rfl⟩ := Past.ofd hx) | (obtain ⟨wx, rfl⟩ := Past.of hx)))) | (go_at_call 47; ((with_reducible refine (isPosition_c hn1 hn (HS.out.ext (by repeat (first | with_reducible exact Ext.refl _ | with_reducible assumption | with_reducible refine Ext.alloc ?_ _ | with_reducible refine Ext.drew ?_ | (with_reducible refine Ext.setAt ?_ _ _ _ ?_; rotate_left; omega) | with_reducible refine Ext.trans ?_ (by assumption) | with_reducible exact Past.bel _ | with_reducible refine Ext.trans ?_ (Past.bel _)))) _).mono ?_); rintro e w' ⟨rfl, hx⟩; (first | (obtain ⟨wx, rfl⟩ := Past.again hx) | (obtain ⟨wx, rfl⟩ := Past.ofd hx) | (obtain ⟨wx, rfl⟩ := Past.of hx)))))
          clear h2 h3
          go_loopw [8, 9] (fun q i wr => ∃ (j : Nat) (T : Int), j ≤ k ∧ T = f + (j : Int) ∧ i = .int .i64 T ∧ q = .int .i64 (eng wd pl f j) ∧ Ext (w.alloc (.cells #[.slice a n c] 26)) wr) (fun _ i _ => (f + k - intOf i).toNat)
          case atStart => exact ⟨0, f, by omega, by simp, rfl, rfl, (by repeat (first | with_reducible exact Ext.refl _ | with_reducible assumption | with_reducible refine Ext.alloc ?_ _ | with_reducible refine Ext.drew ?_ | (with_reducible refine Ext.setAt ?_ _ _ _ ?_; rotate_left; omega) | with_reducible refine Ext.trans ?_ (by assumption) | with_reducible exact Past.bel _ | with_reducible refine Ext.trans ?_ (Past.bel _)))⟩
          case round =>
            obtain ⟨j, T, hj, hT, rfl, rfl, hbl⟩ := hrel
            have HT := Lib.hid hT
            have hz := hbl.size
            simp only [World.size_alloc] at hz
            have hg : w.heap.size < wr.heap.size := by omega
            have p0 : wr.cell? ⟨w.heap.size, 0, none⟩ = some (.slice a n c) := by rw [hbl.cell (by simp)]; simp [go_sem]
            have hxw : Ext w wr := Ext.trans (by repeat (first | with_reducible exact Ext.refl _ | with_reducible assumption | with_reducible refine Ext.alloc ?_ _ | with_reducible refine Ext.drew ?_ | (with_reducible refine Ext.setAt ?_ _ _ _ ?_; rotate_left; omega) | with_reducible refine Ext.trans ?_ (by assumption) | with_reducible exact Past.bel _ | with_reducible refine Ext.trans ?_ (Past.bel _))) hbl
            by_cases hlt : j < k
            · obtain ⟨y1, y2⟩ := hle.out j (by omega)
              have i1 := hin.out j (by omega)
              have i2 := hin.out (j + 1) (by omega)
              have e1 : f + ((j + 1 : Nat) : Int) = f + (j : Int) + 1 := by omega
              rw [e1, ← hT] at i2
              rw [← hT] at i1
              have I1 := Lib.hid i1
              have I2 := Lib.hid i2
              obtain ⟨P1, hP1⟩ : ∃ P, P = pullF wd pl T := ⟨_, rfl⟩
              obtain ⟨P2, hP2⟩ : ∃ P, P = pullF wd pl (T + 1) := ⟨_, rfl⟩
              have b1 := B.out.pull i1
              have b2 := B.out.pull i2
              have hPP : ∀ x, x = T ∨ x = T + 1 → ∀ W, Ext w W → Calls Try.prog 48 #[.agg #[.slice a n c], .int .i64 x] W fun e w' => e = .returned (.int .i64 (if x = T then P1 else P2)) ∧ Ext W w' := fun x hx W hq => by
                rcases hx with rfl | rfl
                · rw [if_pos rfl, hP1]; exact pullAt_c B.out (HS.out.ext hq) I1.out
                · rw [if_neg (by omega), hP2]; exact pullAt_c B.out (HS.out.ext hq) I2.out
              have HPP := Lib.hid hPP
              have w1 : (if T = T then P1 else P2) = P1 := if_pos rfl
              have w2 : (if T + 1 = T then P1 else P2) = P2 := if_neg (by omega)
              clear hPP
              rw [← hP1] at b1
              rw [← hP2] at b2
              have HE := Lib.hid (show eng wd pl f (j + 1) = eng wd pl f j + (P1 + P2) by rw [hP1, hP2, hT]; rfl)
              obtain ⟨E, hE⟩ : ∃ E, E = eng wd pl f j := ⟨_, rfl⟩
              rw [← hE] at y1 y2 HE ⊢
              have y3 : E ≤ 4000000000 := by omega
              have y4 : 0 ≤ T := by omega
              have y5 : T < f + (k : Int) := by omega
              have y6 : T ≤ 2000 := by omega
              clear i1 i2 hP1 hP2 hE e1 hT
              go_wp2_with fail
              refine wp_region_past (by kernel_rfl) (by kernel_rfl) ?_
              repeat (go_big_quiet_step ((go_at_call 48; exact Calls.past (HPP.out _ (by first | exact Or.inl rfl | exact Or.inr rfl) _ (by repeat (first | with_reducible exact Ext.refl _ | with_reducible assumption | with_reducible refine Ext.alloc ?_ _ | with_reducible refine Ext.drew ?_ | (with_reducible refine Ext.setAt ?_ _ _ _ ?_; rotate_left; omega) | with_reducible refine Ext.trans ?_ (by assumption) | with_reducible exact Past.bel _ | with_reducible refine Ext.trans ?_ (Past.bel _)))))))
              refine wpQuiet_nil ?_
              rintro _ ⟨wx, rfl⟩
              go_wp2_with fail
              exact ⟨⟨j + 1, T + 1, by omega, (by have := HT.out; omega), rfl, congrArg (Value.int IntKind.i64) HE.out.symm, (by repeat (first | with_reducible exact Ext.refl _ | with_reducible assumption | with_reducible refine Ext.alloc ?_ _ | with_reducible refine Ext.drew ?_ | (with_reducible refine Ext.setAt ?_ _ _ _ ?_; rotate_left; omega) | with_reducible refine Ext.trans ?_ (by assumption) | with_reducible exact Past.bel _ | with_reducible refine Ext.trans ?_ (Past.bel _)))⟩, by have := HT.out; simp [intOf]; omega⟩
            · obtain rfl : j = k := by omega
              have y5 : f + (j : Int) ≤ T := by omega
              clear hT
              go_wp2_with fail
              go_ret2
              exact ⟨rfl, (by repeat (first | with_reducible exact Ext.refl _ | with_reducible assumption | with_reducible refine Ext.alloc ?_ _ | with_reducible refine Ext.drew ?_ | (with_reducible refine Ext.setAt ?_ _ _ _ ?_; rotate_left; omega) | with_reducible refine Ext.trans ?_ (by assumption) | with_reducible exact Past.bel _ | with_reducible refine Ext.trans ?_ (Past.bel _)))⟩
        · have h5 : t < f := by omega
          go_enter Try.func22, Try.ntmps22
          go_wp2_with (first | (go_at_call 13; ((with_reducible refine (validSpring_c hn (HS.out.ext (by repeat (first | with_reducible exact Ext.refl _ | with_reducible assumption | with_reducible refine Ext.alloc ?_ _ | with_reducible refine Ext.drew ?_ | (with_reducible refine Ext.setAt ?_ _ _ _ ?_; rotate_left; omega) | with_reducible refine Ext.trans ?_ (by assumption) | with_reducible exact Past.bel _ | with_reducible refine Ext.trans ?_ (Past.bel _))))).mono ?_); rintro e w' ⟨rfl, hx⟩; (first | (obtain ⟨wx, rfl⟩ := Past.again hx) | (obtain ⟨wx, rfl⟩ := Past.ofd hx) | (obtain ⟨wx, rfl⟩ := Past.of hx)))) | (go_at_call 47; ((with_reducible refine (isPosition_c hn1 hn (HS.out.ext (by repeat (first | with_reducible exact Ext.refl _ | with_reducible assumption | with_reducible refine Ext.alloc ?_ _ | with_reducible refine Ext.drew ?_ | (with_reducible refine Ext.setAt ?_ _ _ _ ?_; rotate_left; omega) | with_reducible refine Ext.trans ?_ (by assumption) | with_reducible exact Past.bel _ | with_reducible refine Ext.trans ?_ (Past.bel _)))) _).mono ?_); rintro e w' ⟨rfl, hx⟩; (first | (obtain ⟨wx, rfl⟩ := Past.again hx) | (obtain ⟨wx, rfl⟩ := Past.ofd hx) | (obtain ⟨wx, rfl⟩ := Past.of hx)))))
          go_ret2
          exact ⟨by rw [ebV, ebC, ebB, h1, h2, h3, decide_eq_false (show ¬ f ≤ t by omega)]; rfl, (by repeat (first | with_reducible exact Ext.refl _ | with_reducible assumption | with_reducible refine Ext.alloc ?_ _ | with_reducible refine Ext.drew ?_ | (with_reducible refine Ext.setAt ?_ _ _ _ ?_; rotate_left; omega) | with_reducible refine Ext.trans ?_ (by assumption) | with_reducible exact Past.bel _ | with_reducible refine Ext.trans ?_ (Past.bel _)))⟩
set_option maxHeartbeats 4000000 in
theorem specEnergy_c (hn : n ≤ 1048576) (hs : S2 w a n wd pl) (f t : Int) :
    Calls Try.prog 23 #[.agg #[.slice a n c], .int .i64 f, .int .i64 t] w fun e w' => e = .returned (.tuple #[.int .i64 (ebV n wd pl f t), .int .i64 (ebC n wd pl f t)]) ∧ Ext w w' := by
  have HS := Lib.hid hs
  clear hs
  cases h1 : spV n wd pl
  · go_enter Try.func23, Try.ntmps23
    go_wp2_with (go_at_call 49; ((with_reducible refine (l13Ok_c hn (HS.out.ext (by repeat (first | with_reducible exact Ext.refl _ | with_reducible assumption | with_reducible refine Ext.alloc ?_ _ | with_reducible refine Ext.drew ?_ | (with_reducible refine Ext.setAt ?_ _ _ _ ?_; rotate_left; omega) | with_reducible refine Ext.trans ?_ (by assumption) | with_reducible exact Past.bel _ | with_reducible refine Ext.trans ?_ (Past.bel _))))).mono ?_); rintro e w' ⟨rfl, hx⟩; (first | (obtain ⟨wx, rfl⟩ := Past.again hx) | (obtain ⟨wx, rfl⟩ := Past.ofd hx) | (obtain ⟨wx, rfl⟩ := Past.of hx))))
    go_ret2
    exact ⟨by simp [ebV, ebC, h1], (by repeat (first | with_reducible exact Ext.refl _ | with_reducible assumption | with_reducible refine Ext.alloc ?_ _ | with_reducible refine Ext.drew ?_ | (with_reducible refine Ext.setAt ?_ _ _ _ ?_; rotate_left; omega) | with_reducible refine Ext.trans ?_ (by assumption) | with_reducible exact Past.bel _ | with_reducible refine Ext.trans ?_ (Past.bel _)))⟩
  · have B := Lib.hid (spV_b h1)
    have hn1 : 1 ≤ n := by have := B.out.n2; omega
    cases h2 : inS n wd f
    · go_enter Try.func23, Try.ntmps23
      go_wp2_with (first | (go_at_call 49; ((with_reducible refine (l13Ok_c hn (HS.out.ext (by repeat (first | with_reducible exact Ext.refl _ | with_reducible assumption | with_reducible refine Ext.alloc ?_ _ | with_reducible refine Ext.drew ?_ | (with_reducible refine Ext.setAt ?_ _ _ _ ?_; rotate_left; omega) | with_reducible refine Ext.trans ?_ (by assumption) | with_reducible exact Past.bel _ | with_reducible refine Ext.trans ?_ (Past.bel _))))).mono ?_); rintro e w' ⟨rfl, hx⟩; (first | (obtain ⟨wx, rfl⟩ := Past.again hx) | (obtain ⟨wx, rfl⟩ := Past.ofd hx) | (obtain ⟨wx, rfl⟩ := Past.of hx)))) | (go_at_call 50; ((with_reducible refine (l13In_c hn1 hn (HS.out.ext (by repeat (first | with_reducible exact Ext.refl _ | with_reducible assumption | with_reducible refine Ext.alloc ?_ _ | with_reducible refine Ext.drew ?_ | (with_reducible refine Ext.setAt ?_ _ _ _ ?_; rotate_left; omega) | with_reducible refine Ext.trans ?_ (by assumption) | with_reducible exact Past.bel _ | with_reducible refine Ext.trans ?_ (Past.bel _)))) _).mono ?_); rintro e w' ⟨rfl, hx⟩; (first | (obtain ⟨wx, rfl⟩ := Past.again hx) | (obtain ⟨wx, rfl⟩ := Past.ofd hx) | (obtain ⟨wx, rfl⟩ := Past.of hx)))))
      go_ret2
      exact ⟨by simp [ebV, ebC, ebB, h1, h2], (by repeat (first | with_reducible exact Ext.refl _ | with_reducible assumption | with_reducible refine Ext.alloc ?_ _ | with_reducible refine Ext.drew ?_ | (with_reducible refine Ext.setAt ?_ _ _ _ ?_; rotate_left; omega) | with_reducible refine Ext.trans ?_ (by assumption) | with_reducible exact Past.bel _ | with_reducible refine Ext.trans ?_ (Past.bel _)))⟩
    · cases h3 : inS n wd t
      · go_enter Try.func23, Try.ntmps23
        go_wp2_with (first | (go_at_call 49; ((with_reducible refine (l13Ok_c hn (HS.out.ext (by repeat (first | with_reducible exact Ext.refl _ | with_reducible assumption | with_reducible refine Ext.alloc ?_ _ | with_reducible refine Ext.drew ?_ | (with_reducible refine Ext.setAt ?_ _ _ _ ?_; rotate_left; omega) | with_reducible refine Ext.trans ?_ (by assumption) | with_reducible exact Past.bel _ | with_reducible refine Ext.trans ?_ (Past.bel _))))).mono ?_); rintro e w' ⟨rfl, hx⟩; (first | (obtain ⟨wx, rfl⟩ := Past.again hx) | (obtain ⟨wx, rfl⟩ := Past.ofd hx) | (obtain ⟨wx, rfl⟩ := Past.of hx)))) | (go_at_call 50; ((with_reducible refine (l13In_c hn1 hn (HS.out.ext (by repeat (first | with_reducible exact Ext.refl _ | with_reducible assumption | with_reducible refine Ext.alloc ?_ _ | with_reducible refine Ext.drew ?_ | (with_reducible refine Ext.setAt ?_ _ _ _ ?_; rotate_left; omega) | with_reducible refine Ext.trans ?_ (by assumption) | with_reducible exact Past.bel _ | with_reducible refine Ext.trans ?_ (Past.bel _)))) _).mono ?_); rintro e w' ⟨rfl, hx⟩; (first | (obtain ⟨wx, rfl⟩ := Past.again hx) | (obtain ⟨wx, rfl⟩ := Past.ofd hx) | (obtain ⟨wx, rfl⟩ := Past.of hx)))))
        go_ret2
        exact ⟨by simp [ebV, ebC, ebB, h1, h2, h3], (by repeat (first | with_reducible exact Ext.refl _ | with_reducible assumption | with_reducible refine Ext.alloc ?_ _ | with_reducible refine Ext.drew ?_ | (with_reducible refine Ext.setAt ?_ _ _ _ ?_; rotate_left; omega) | with_reducible refine Ext.trans ?_ (by assumption) | with_reducible exact Past.bel _ | with_reducible refine Ext.trans ?_ (Past.bel _)))⟩
      · by_cases h4 : f ≤ t
        · obtain ⟨k, hk⟩ : ∃ k : Nat, t = f + (k : Int) := ⟨(t - f).toNat, by omega⟩
          subst hk
          have hf := B.out.inS h2
          have ht := B.out.inS h3
          have hle := Lib.hid (eng_le B.out h2 h3)
          have hin := Lib.hid (fun (i : Nat) (hi : i ≤ k) => show inS n wd (f + (i : Int)) = true from by
            have h5 := inB_t.1 h2
            have h6 := inB_t.1 h3
            exact inB_t.2 ⟨by omega, by omega⟩)
          have hv : ebV n wd pl f (f + (k : Int)) = eng wd pl f k := by
            have e : (f + (k : Int) - f).toNat = k := by omega
            rw [ebV, ebB, h1, h2, h3, decide_eq_true h4, e]; rfl
          have hc : ebC n wd pl f (f + (k : Int)) = 0 := by rw [ebC, ebB, h1, h2, h3, decide_eq_true h4]; rfl
          rw [hv, hc]
          clear hv hc
          go_enter Try.func23, Try.ntmps23
          go_wp2_with (first | (go_at_call 49; ((with_reducible refine (l13Ok_c hn (HS.out.ext (by repeat (first | with_reducible exact Ext.refl _ | with_reducible assumption | with_reducible refine Ext.alloc ?_ _ | with_reducible refine Ext.drew ?_ | (with_reducible refine Ext.setAt ?_ _ _ _ ?_; rotate_left; omega) | with_reducible refine Ext.trans ?_ (by assumption) | with_reducible exact Past.bel _ | with_reducible refine Ext.trans ?_ (Past.bel _))))).mono ?_); rintro e w' ⟨rfl, hx⟩; (first | (obtain ⟨wx, rfl⟩ := Past.again hx) | (obtain ⟨wx, rfl⟩ := Past.ofd hx) | (obtain ⟨wx, rfl⟩ := Past.of hx)))) | (go_at_call 50; ((with_reducible refine (l13In_c hn1 hn (HS.out.ext (by repeat (first | with_reducible exact Ext.refl _ | with_reducible assumption | with_reducible refine Ext.alloc ?_ _ | with_reducible refine Ext.drew ?_ | (with_reducible refine Ext.setAt ?_ _ _ _ ?_; rotate_left; omega) | with_reducible refine Ext.trans ?_ (by assumption) | with_reducible exact Past.bel _ | with_reducible refine Ext.trans ?_ (Past.bel _)))) _).mono ?_); rintro e w' ⟨rfl, hx⟩; (first | (obtain ⟨wx, rfl⟩ := Past.again hx) | (obtain ⟨wx, rfl⟩ := Past.ofd hx) | (obtain ⟨wx, rfl⟩ := Past.of hx)))))
          clear h2 h3
          go_loopw [8, 9] (fun q i wr => ∃ (j : Nat) (T : Int), j ≤ k ∧ T = f + (j : Int) ∧ i = .int .i64 T ∧ q = .int .i64 (eng wd pl f j) ∧ Ext (w.alloc (.cells #[.slice a n c] 26)) wr) (fun _ i _ => (f + k - intOf i).toNat)
          case atStart => exact ⟨0, f, by omega, by simp, rfl, rfl, (by repeat (first | with_reducible exact Ext.refl _ | with_reducible assumption | with_reducible refine Ext.alloc ?_ _ | with_reducible refine Ext.drew ?_ | (with_reducible refine Ext.setAt ?_ _ _ _ ?_; rotate_left; omega) | with_reducible refine Ext.trans ?_ (by assumption) | with_reducible exact Past.bel _ | with_reducible refine Ext.trans ?_ (Past.bel _)))⟩
          case round =>
            obtain ⟨j, T, hj, hT, rfl, rfl, hbl⟩ := hrel
            have HT := Lib.hid hT
            have hz := hbl.size
            simp only [World.size_alloc] at hz
            have hg : w.heap.size < wr.heap.size := by omega
            have p0 : wr.cell? ⟨w.heap.size, 0, none⟩ = some (.slice a n c) := by rw [hbl.cell (by simp)]; simp [go_sem]
            have hxw : Ext w wr := Ext.trans (by repeat (first | with_reducible exact Ext.refl _ | with_reducible assumption | with_reducible refine Ext.alloc ?_ _ | with_reducible refine Ext.drew ?_ | (with_reducible refine Ext.setAt ?_ _ _ _ ?_; rotate_left; omega) | with_reducible refine Ext.trans ?_ (by assumption) | with_reducible exact Past.bel _ | with_reducible refine Ext.trans ?_ (Past.bel _))) hbl
            by_cases hlt : j < k
            · obtain ⟨y1, y2⟩ := hle.out j (by omega)
              have i1 := hin.out j (by omega)
              have i2 := hin.out (j + 1) (by omega)
              have e1 : f + ((j + 1 : Nat) : Int) = f + (j : Int) + 1 := by omega
              rw [e1, ← hT] at i2
              rw [← hT] at i1
              have I1 := Lib.hid i1
              have I2 := Lib.hid i2
              obtain ⟨P1, hP1⟩ : ∃ P, P = pullF wd pl T := ⟨_, rfl⟩
              obtain ⟨P2, hP2⟩ : ∃ P, P = pullF wd pl (T + 1) := ⟨_, rfl⟩
              have b1 := B.out.pull i1
              have b2 := B.out.pull i2
              have hPP : ∀ x, x = T ∨ x = T + 1 → ∀ W, Ext w W → Calls Try.prog 51 #[.agg #[.slice a n c], .int .i64 x] W fun e w' => e = .returned (.int .i64 (if x = T then P1 else P2)) ∧ Ext W w' := fun x hx W hq => by
                rcases hx with rfl | rfl
                · rw [if_pos rfl, hP1]; exact l13At_c B.out (HS.out.ext hq) I1.out
                · rw [if_neg (by omega), hP2]; exact l13At_c B.out (HS.out.ext hq) I2.out
              have HPP := Lib.hid hPP
              have w1 : (if T = T then P1 else P2) = P1 := if_pos rfl
              have w2 : (if T + 1 = T then P1 else P2) = P2 := if_neg (by omega)
              clear hPP
              rw [← hP1] at b1
              rw [← hP2] at b2
              have HE := Lib.hid (show eng wd pl f (j + 1) = eng wd pl f j + (P1 + P2) by rw [hP1, hP2, hT]; rfl)
              obtain ⟨E, hE⟩ : ∃ E, E = eng wd pl f j := ⟨_, rfl⟩
              rw [← hE] at y1 y2 HE ⊢
              have y3 : E ≤ 4000000000 := by omega
              have y4 : 0 ≤ T := by omega
              have y5 : T < f + (k : Int) := by omega
              have y6 : T ≤ 2000 := by omega
              clear i1 i2 hP1 hP2 hE e1 hT
              go_wp2_with fail
              refine wp_region_past (by kernel_rfl) (by kernel_rfl) ?_
              repeat (go_big_quiet_step ((go_at_call 51; exact Calls.past (HPP.out _ (by first | exact Or.inl rfl | exact Or.inr rfl) _ (by repeat (first | with_reducible exact Ext.refl _ | with_reducible assumption | with_reducible refine Ext.alloc ?_ _ | with_reducible refine Ext.drew ?_ | (with_reducible refine Ext.setAt ?_ _ _ _ ?_; rotate_left; omega) | with_reducible refine Ext.trans ?_ (by assumption) | with_reducible exact Past.bel _ | with_reducible refine Ext.trans ?_ (Past.bel _)))))))
              refine wpQuiet_nil ?_
              rintro _ ⟨wx, rfl⟩
              go_wp2_with fail
              exact ⟨⟨j + 1, T + 1, by omega, (by have := HT.out; omega), rfl, congrArg (Value.int IntKind.i64) HE.out.symm, (by repeat (first | with_reducible exact Ext.refl _ | with_reducible assumption | with_reducible refine Ext.alloc ?_ _ | with_reducible refine Ext.drew ?_ | (with_reducible refine Ext.setAt ?_ _ _ _ ?_; rotate_left; omega) | with_reducible refine Ext.trans ?_ (by assumption) | with_reducible exact Past.bel _ | with_reducible refine Ext.trans ?_ (Past.bel _)))⟩, by have := HT.out; simp [intOf]; omega⟩
            · obtain rfl : j = k := by omega
              have y5 : f + (j : Int) ≤ T := by omega
              clear hT
              go_wp2_with fail
              go_ret2
              exact ⟨rfl, (by repeat (first | with_reducible exact Ext.refl _ | with_reducible assumption | with_reducible refine Ext.alloc ?_ _ | with_reducible refine Ext.drew ?_ | (with_reducible refine Ext.setAt ?_ _ _ _ ?_; rotate_left; omega) | with_reducible refine Ext.trans ?_ (by assumption) | with_reducible exact Past.bel _ | with_reducible refine Ext.trans ?_ (Past.bel _)))⟩
        · have h5 : t < f := by omega
          go_enter Try.func23, Try.ntmps23
          go_wp2_with (first | (go_at_call 49; ((with_reducible refine (l13Ok_c hn (HS.out.ext (by repeat (first | with_reducible exact Ext.refl _ | with_reducible assumption | with_reducible refine Ext.alloc ?_ _ | with_reducible refine Ext.drew ?_ | (with_reducible refine Ext.setAt ?_ _ _ _ ?_; rotate_left; omega) | with_reducible refine Ext.trans ?_ (by assumption) | with_reducible exact Past.bel _ | with_reducible refine Ext.trans ?_ (Past.bel _))))).mono ?_); rintro e w' ⟨rfl, hx⟩; (first | (obtain ⟨wx, rfl⟩ := Past.again hx) | (obtain ⟨wx, rfl⟩ := Past.ofd hx) | (obtain ⟨wx, rfl⟩ := Past.of hx)))) | (go_at_call 50; ((with_reducible refine (l13In_c hn1 hn (HS.out.ext (by repeat (first | with_reducible exact Ext.refl _ | with_reducible assumption | with_reducible refine Ext.alloc ?_ _ | with_reducible refine Ext.drew ?_ | (with_reducible refine Ext.setAt ?_ _ _ _ ?_; rotate_left; omega) | with_reducible refine Ext.trans ?_ (by assumption) | with_reducible exact Past.bel _ | with_reducible refine Ext.trans ?_ (Past.bel _)))) _).mono ?_); rintro e w' ⟨rfl, hx⟩; (first | (obtain ⟨wx, rfl⟩ := Past.again hx) | (obtain ⟨wx, rfl⟩ := Past.ofd hx) | (obtain ⟨wx, rfl⟩ := Past.of hx)))))
          go_ret2
          exact ⟨by rw [ebV, ebC, ebB, h1, h2, h3, decide_eq_false (show ¬ f ≤ t by omega)]; rfl, (by repeat (first | with_reducible exact Ext.refl _ | with_reducible assumption | with_reducible refine Ext.alloc ?_ _ | with_reducible refine Ext.drew ?_ | (with_reducible refine Ext.setAt ?_ _ _ _ ?_; rotate_left; omega) | with_reducible refine Ext.trans ?_ (by assumption) | with_reducible exact Past.bel _ | with_reducible refine Ext.trans ?_ (Past.bel _)))⟩
end
end Go.Proofs.Ytglcjnplmhelhaa
