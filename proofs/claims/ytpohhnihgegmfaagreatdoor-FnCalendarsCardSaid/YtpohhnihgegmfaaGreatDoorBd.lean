/- The draw of a calendar: one that is given. Calendars: what is asked of years, months and days. No program in sight. The draw of a day; calendars for laws. Calendars and days that laws draw. Days of months: the functions as they are called. Days of years: the functions as they are called. -/
import Derived.Test.YtpohhnihgegmfaaGreatDoorBa
import Derived.Test.YtpohhnihgegmfaaGreatDoorBb
import Derived.Test.YtpohhnihgegmfaaGreatDoorBc

namespace Go.Proofs.YtpohhnihgegmfaaGreatDoor
open Go.RowKit
set_option linter.unusedVariables false
set_option linter.unusedSimpArgs false

/-- a drawn calendar, valid, in memory of its own; the source behind it -/
def postCal (w0 : World) (g : Nat) (a : Option Addr) (n c : Nat) (f : Nat → Nat) (K : Nat) (e : Ending) (w' : World) : Prop :=
  ∃ (M : List Mo) (R : List Ru) (nm : ByteArray) (wk : Int) (a1 : Option Addr) (c1 : Nat) (a2 : Option Addr) (c2 : Nat), e = .returned (.agg #[.string nm, .slice a1 M.length c1, .slice a2 R.length c2, .int .i64 wk]) ∧ Rs w0 w' g a n c f K ∧
    w'.ownsRow w0.heap.size 99 3 (.slice a1 M.length c1) M.length (MT M) ∧ w'.ownsRow w0.heap.size 101 3 (.slice a2 R.length c2) R.length (RT R) ∧ calB nm (nmOf M) (calOf M R) wk = true
theorem specNamed_any {s : ByteArray} (h : s = egyS ∨ s = fixS ∨ s = greS ∨ s = julS) : ∃ (M : List Mo) (R : List Ru) (wk : Int), calB s (nmOf M) (calOf M R) wk = true ∧ ∀ w, Calls Tryz.prog 61 #[.string s] w fun e w' => NmR w w' M R wk 0 s e := by
  rcases h with rfl | rfl | rfl | rfl
  · exact ⟨_, _, _, egy_ok, specNamed_egy⟩
  · exact ⟨_, _, _, fix_ok, specNamed_fix⟩
  · exact ⟨_, _, _, gre_ok, specNamed_gre⟩
  · exact ⟨_, _, _, jul_ok, specNamed_jul⟩
theorem Rs.four {w0 w : World} {g : Nat} {a : Option Addr} {n c : Nat} {f : Nat → Nat} {K : Nat} (h : Rs w0 w g a n c f K) {b : Nat} (hb : w0.heap.size ≤ b) (u0 u1 u2 u3 : Value) : Rs w0 ((((w.setCell ⟨b, 0, none⟩ u0).setCell ⟨b, 1, none⟩ u1).setCell ⟨b, 2, none⟩ u2).setCell ⟨b, 3, none⟩ u3) g a n c f K :=
  (((h.put hb _ _).put hb _ _).put hb _ _).put hb _ _
theorem Rs.start {w : World} {g : Nat} {a : Option Addr} {n c : Nat} {f : Nat → Nat} {K : Nat} (hd : Src w g a n c f K) (hg : g < w.heap.size) (hcd : 0 < n → ∀ ad, a = some ad → ad.block < w.heap.size) : Rs w w g a n c f K := ⟨hd, grown_refl _ _, hg, hcd⟩
/-- where a draw of a calendar of its own stands: the result's cell, the calendar's cell, its months -/
structure Cs (w0 w : World) (g : Nat) (a : Option Addr) (n c : Nat) (f : Nat → Nat) (K gr gc : Nat) (M : List Mo) (vm vr : Value) (wk : Int) : Prop where
  rs : Rs w0 w g a n c f K
  res : Blk w gr 27 #[.string ⟨#[]⟩, .slice none 0 0, .slice none 0 0, .int .i64 0]
  cal : Blk w gc 27 #[.string ownS, vm, vr, .int .i64 wk]
  om : w.ownsRow (gc + 1) 99 3 vm M.length (MT M)
  lo1 : w0.heap.size ≤ gr
  lo2 : gr < gc
section
variable {w0 w w1 : World} {g : Nat} {a : Option Addr} {n c : Nat} {f : Nat → Nat} {K K' gr gc : Nat} {M : List Mo} {vm vr : Value} {wk : Int}
theorem Cs.le (h : Cs w0 w g a n c f K gr gc M vm vr wk) (hl : K ≤ K') : Cs w0 w g a n c f K' gr gc M vm vr wk := { h with rs := h.rs.le hl }
theorem Cs.drawn (h : Cs w0 w g a n c f K gr gc M vm vr wk) (hs : Src w1 g a n c f K') (hx : w.grownBy w1 (some g)) : Cs w0 w1 g a n c f K' gr gc M vm vr wk :=
  have h1 := h.lo1
  have h2 := h.lo2
  have h3 := h.rs.low
  ⟨h.rs.drawn hs hx, h.res.grown hx (fun e => by injection e with e; omega), h.cal.grown hx (fun e => by injection e with e; omega), h.om.kept hx (.inr fun e => by have := (h.om.lt g e).1; omega), h1, h2⟩
theorem Cs.ext (h : Cs w0 w g a n c f K gr gc M vm vr wk) (hx : Ext w w1) : Cs w0 w1 g a n c f K gr gc M vm vr wk :=
  ⟨h.rs.ext hx, h.res.ext hx, h.cal.ext hx, own_ext h.om hx, h.lo1, h.lo2⟩
/-- a store into a block beside -/
theorem Cs.far (h : Cs w0 w g a n c f K gr gc M vm vr wk) {b : Nat} (hb : gc < b) (hv : vm.ownBlock ≠ some b) (i : Nat) (x : Value) : Cs w0 (w.setCell ⟨b, i, none⟩ x) g a n c f K gr gc M vm vr wk :=
  have h1 := h.lo1
  have h2 := h.lo2
  ⟨h.rs.put (by omega) _ _, h.res.other _ _ _ (by omega), h.cal.other _ _ _ (by omega), h.om.kept (grown_set b i x) (.inr hv), h1, h2⟩
theorem Rs.app (h : Rs w0 w g a n c f K) {row : Option Nat} (hx : w.grownBy w1 row) (hr : ∀ k, row = some k → w0.heap.size ≤ k) : Rs w0 w1 g a n c f K :=
  ⟨h.src.keep hx hr h.low h.cod h.gr.size, ⟨hx.os.trans h.gr.os, hx.tape.trans h.gr.tape, hx.output.trans h.gr.output, Nat.le_trans h.gr.size hx.size, fun k hk hn => (hx.block k (Nat.lt_of_lt_of_le hk h.gr.size) (fun e => by have := hr k e.symm; omega)).trans (h.gr.block k hk hn)⟩, h.low, h.cod⟩
/-- a month appended, as far as the append; then the store -/
theorem Cs.push (h : Cs w0 w g a n c f K gr gc M vm vr wk) {v' : Value} {q : Mo} (ho : w1.ownsRow (gc + 1) 99 3 v' (M.length + 1) (MT M ++ MT [q])) (hx : w.grownBy w1 vm.ownBlock) :
    Cs w0 (w1.setCell ⟨gc, 1, none⟩ v') g a n c f K gr gc (M ++ [q]) v' vr wk := by
  have h1 := h.lo1
  have h2 := h.lo2
  have hr : ∀ k, vm.ownBlock = some k → gc + 1 ≤ k := fun k hk => (h.om.lt k hk).1
  refine ⟨(h.rs.app hx (fun k hk => by have := hr k hk; omega)).put (by omega) _ _, (h.res.grown hx (fun e => by have := hr _ e.symm; omega)).other _ _ _ (by omega), (h.cal.grown hx (fun e => by have := hr _ e.symm; omega)).set 1 v', own_low ?_ (by omega) _ _, h1, h2⟩
  rw [MT_app, List.length_append]; exact ho
end
/-- .. and its rules -/
structure Cr (w0 w : World) (g : Nat) (a : Option Addr) (n c : Nat) (f : Nat → Nat) (K gr gc B2 : Nat) (M : List Mo) (R : List Ru) (vm vr : Value) (wk : Int) : Prop where
  cs : Cs w0 w g a n c f K gr gc M vm vr wk
  or : w.ownsRow B2 101 3 vr R.length (RT R)
  lt : ∀ k, vm.ownBlock = some k → k < B2
  lb : gc < B2
section
variable {w0 w w1 : World} {g : Nat} {a : Option Addr} {n c : Nat} {f : Nat → Nat} {K K' gr gc B2 : Nat} {M : List Mo} {R : List Ru} {vm vr : Value} {wk : Int}
theorem Cr.le (h : Cr w0 w g a n c f K gr gc B2 M R vm vr wk) (hl : K ≤ K') : Cr w0 w g a n c f K' gr gc B2 M R vm vr wk := { h with cs := h.cs.le hl }
theorem Cr.drawn (h : Cr w0 w g a n c f K gr gc B2 M R vm vr wk) (hs : Src w1 g a n c f K') (hx : w.grownBy w1 (some g)) : Cr w0 w1 g a n c f K' gr gc B2 M R vm vr wk :=
  have h1 := h.cs.lo1
  have h2 := h.cs.lo2
  have h3 := h.cs.rs.low
  have h4 := h.lb
  ⟨h.cs.drawn hs hx, h.or.kept hx (.inr fun e => by have := (h.or.lt g e).1; omega), h.lt, h.lb⟩
theorem Cr.ext (h : Cr w0 w g a n c f K gr gc B2 M R vm vr wk) (hx : Ext w w1) : Cr w0 w1 g a n c f K gr gc B2 M R vm vr wk := ⟨h.cs.ext hx, own_ext h.or hx, h.lt, h.lb⟩
theorem Cr.far (h : Cr w0 w g a n c f K gr gc B2 M R vm vr wk) {b : Nat} (hb : gc < b) (hv : vm.ownBlock ≠ some b) (hv2 : vr.ownBlock ≠ some b) (i : Nat) (x : Value) : Cr w0 (w.setCell ⟨b, i, none⟩ x) g a n c f K gr gc B2 M R vm vr wk :=
  ⟨h.cs.far hb hv i x, h.or.kept (grown_set b i x) (.inr hv2), h.lt, h.lb⟩
theorem Cr.push (h : Cr w0 w g a n c f K gr gc B2 M R vm vr wk) {v' : Value} {q : Ru} (ho : w1.ownsRow B2 101 3 v' (R.length + 1) (RT R ++ RT [q])) (hx : w.grownBy w1 vr.ownBlock) :
    Cr w0 (w1.setCell ⟨gc, 2, none⟩ v') g a n c f K gr gc B2 M (R ++ [q]) vm v' wk := by
  have h1 := h.cs.lo1
  have h2 := h.cs.lo2
  have h4 := h.lb
  have hr : ∀ k, vr.ownBlock = some k → B2 ≤ k := fun k hk => (h.or.lt k hk).1
  have hom : w1.ownsRow (gc + 1) 99 3 vm M.length (MT M) := h.cs.om.kept hx (by
    cases hv : vm.ownBlock with
    | none => exact .inl rfl
    | some k => exact .inr fun e => by have := hr _ e.symm; have := h.lt k hv; omega)
  refine ⟨⟨(h.cs.rs.app hx (fun k hk => by have := hr k hk; omega)).put (by omega) _ _, (h.cs.res.grown hx (fun e => by have := hr _ e.symm; omega)).other _ _ _ (by omega), (h.cs.cal.grown hx (fun e => by have := hr _ e.symm; omega)).set 2 v', own_low hom (by omega) _ _, h1, h2⟩, own_low ?_ (by omega) _ _, h.lt, h4⟩
  rw [RT_app, List.length_append]; exact ho
end
theorem s1_list {w : World} {g : Nat} {T : TypeId} (l : List Int) (h : Blk w g T (l.map (Value.int .i64)).toArray) : S1 w (some ⟨g, 0, none⟩) l.length (fun j => l.getD j 0) := fun _ =>
  ⟨g, 0, rfl, h.lt, fun j hj => by rw [Nat.zero_add, h.cell]; simp [hj]⟩
/-- 'append' of one rule to rules of its own -/
theorem app_rule {w : World} {ops : Array Oper} {rest : List Oper} {o : Oper} {A : Act} {Q : Exit → Act → World → Prop} (s x : Operand)
    (hop : o.op = .call { callee := .builtin .append, args := #[s, x], argTypes := #[25, 25] }) (hgd : o.guard = none)
    (B : Nat) (v : Value) (n m : Nat) (xs : List Value) (d l : Int) (b : Bool) (gb c : Nat) (hm : m = n + 1) (hs : A.eval s = v) (hx : A.eval x = .slice (some ⟨gb, 0, none⟩) 1 c) (h : w.ownsRow B 101 3 v n xs)
    (hc : Blk w gb 101 #[.int .i64 d, .int .i64 l, .bool b]) (hl : n ≤ 1048576) (h0 : B ≤ w.heap.size)
    (hK : ∀ b' c' w', w'.ownsRow B 101 3 (.slice b' m c') m (xs ++ RT [(d, l, b)]) → w.grownBy w' v.ownBlock → wpList Tryz.prog ops Q rest (A.put o.dst (.slice b' m c')) w') : wpList Tryz.prog ops Q (o :: rest) A w := by
  subst hm
  refine appG 25 101 s x _ 3 24 hop hgd Tryz.underlying25 info_rule rfl (by decide) (by decide) B v n xs 1 [.int .i64 d, .int .i64 l, .bool b] gb c hs hx h hc rfl (by intro u hu; simp at hu; rcases hu with rfl | rfl | rfl <;> rfl) (by omega) hl h0 ?_
  intro v' w' s6 s7
  obtain ⟨b', c', rfl⟩ := own_form s6
  exact hK b' c' w' s6 s7
theorem own_cap3 {w : World} {base : Nat} {e : TypeId} {size : Nat} {a : Option Addr} {n cap : Nat} {xs : List Value} (h : w.ownsRow base e size (.slice a n cap) n xs) : n ≤ cap ∧ cap ≤ maxLen := by
  rcases h.2 with ⟨h1, h2⟩ | ⟨g, cap', cur, h1, _, _, h2, h3, _⟩
  · simp only [Value.slice.injEq] at h1
    obtain ⟨_, h3, h4⟩ := h1
    subst h4; exact ⟨by omega, Nat.zero_le _⟩
  · simp only [Value.slice.injEq] at h1
    omega
set_option maxRecDepth 100000 in
set_option maxHeartbeats 4000000 in
theorem l15Draw_c (g : Nat) (a : Option Addr) (n c : Nat) (f : Nat → Nat) (K : Nat) (w : World) (hn : n ≤ 1048576) (hK : K ≤ 100) (hd : Src w g a n c f K) (hg : g < w.heap.size) (hcd : 0 < n → ∀ ad, a = some ad → ad.block < w.heap.size) :
    Calls Tryz.prog 29 #[.pointer (some ⟨g, 0, none⟩)] w (postCal w g a n c f (K + 200)) := by
  have RS0 := Rs.start hd hg hcd
  go_enter Tryz.func29, Tryz.ntmps29
  go_wp2_with fail
  have RS1 := RS0.ext (w1 := w.alloc (.cells #[.string ⟨#[]⟩, .slice none 0 0, .slice none 0 0, .int .i64 0] 27)) (by repeat (first | with_reducible exact Ext.refl _ | with_reducible assumption | with_reducible refine Ext.alloc ?_ _ | with_reducible refine Ext.drew ?_ | (with_reducible refine Ext.setAt ?_ _ _ _ ?_; rotate_left; omega) | with_reducible refine Ext.trans ?_ (by assumption) | with_reducible exact Past.bel _ | with_reducible refine Ext.trans ?_ (Past.bel _)))
  have KB := Blk.new w #[.string ⟨#[]⟩, .slice none 0 0, .slice none 0 0, .int .i64 0] 27
  refine (one_c g a n c f K 2 _ hn (by omega) RS1.src).mono ?_
  rintro e w1 ⟨b, rfl, hs1, hg1⟩
  have RS2 := Lib.hid (RS1.drawn hs1 hg1)
  have KB1 := Lib.hid (KB.grown hg1 (fun e => by injection e with e; omega))
  have z1 := hg1.size
  simp only [World.size_alloc] at z1
  clear RS0 RS1 KB hs1 hg1
  cases b
  · go_wp2_with fail
    refine (pick_c g a n c f (K + 2) 12 _ hn (by omega) RS2.out.src).mono ?_
    rintro e w2 ⟨x, rfl, x0, x0', x1, hs2, hg2⟩
    have RS3 := (RS2.out.drawn hs2 hg2).ext (w1 := w2.alloc (.cells #[.string ownS, .slice none 0 0, .slice none 0 0, .int .i64 (1 + x)] 27)) (by repeat (first | with_reducible exact Ext.refl _ | with_reducible assumption | with_reducible refine Ext.alloc ?_ _ | with_reducible refine Ext.drew ?_ | (with_reducible refine Ext.setAt ?_ _ _ _ ?_; rotate_left; omega) | with_reducible refine Ext.trans ?_ (by assumption) | with_reducible exact Past.bel _ | with_reducible refine Ext.trans ?_ (Past.bel _)))
    have KB3 := (KB1.out.grown hg2 (fun e => by injection e with e; omega)).ext (w' := w2.alloc (.cells #[.string ownS, .slice none 0 0, .slice none 0 0, .int .i64 (1 + x)] 27)) (by repeat (first | with_reducible exact Ext.refl _ | with_reducible assumption | with_reducible refine Ext.alloc ?_ _ | with_reducible refine Ext.drew ?_ | (with_reducible refine Ext.setAt ?_ _ _ _ ?_; rotate_left; omega) | with_reducible refine Ext.trans ?_ (by assumption) | with_reducible exact Past.bel _ | with_reducible refine Ext.trans ?_ (Past.bel _)))
    have KC3 := Blk.new w2 #[.string ownS, .slice none 0 0, .slice none 0 0, .int .i64 (1 + x)] 27
    have z2 := hg2.size
    have e3 := IntWalk.i64_in (1 + x) (by omega)
    have C3 : Cs w (w2.alloc (.cells #[.string ownS, .slice none 0 0, .slice none 0 0, .int .i64 (1 + x)] 27)) g a n c f (K + 4) w.heap.size w2.heap.size [] (.slice none 0 0) (.slice none 0 0) (1 + x) := ⟨RS3, KB3, KC3, World.ownsRow_nil _ _ _ _, Nat.le_refl _, by omega⟩
    have HC3 := Lib.hid C3
    clear RS3 KB3 KC3 hs2 hg2 C3
    go_wp2_with fail
    refine (pick_c g a n c f (K + 4) 6 _ hn (by omega) HC3.out.rs.src).mono ?_
    rintro e w3 ⟨x2, rfl, y0, y0', y1, hs3, hg3⟩
    have HC4 := Lib.hid (HC3.out.drawn hs3 hg3)
    have e4 := IntWalk.i64_in (1 + x2) (by omega)
    obtain ⟨mm, hmm, m1, m6⟩ : ∃ mm : Nat, 1 + x2 = (mm : Int) ∧ 1 ≤ mm ∧ mm ≤ 6 := ⟨(1 + x2).toNat, by omega, by omega, by omega⟩
    clear hs3 hg3 HC3 RS2 KB1
    go_wp2_with fail
    clear hmm
    go_loopw [7] (fun i wr => ∃ (j : Nat) (M : List Mo) (v : Value), i = .int .i64 ((j : Int) + 1) ∧ j ≤ mm ∧ M.length = j ∧ MonOk M ∧ Cs w wr g a n c f (K + 6 + 6 * j) w.heap.size w2.heap.size M v (.slice none 0 0) (1 + x)) (fun i _ => mm + 1 - (intOf i).toNat)
    case atStart => exact ⟨0, [], .slice none 0 0, rfl, by omega, rfl, monOk_nil, HC4.out⟩
    case round =>
      clear HC4
      obtain ⟨j, M, v, rfl, hj, rfl, hok, hc⟩ := hrel
      have HC := Lib.hid hc
      have HOK := Lib.hid hok
      clear hc hok
      by_cases hlt : M.length < mm
      · have b1 : (M.length : Int) + 1 ≤ (mm : Int) := by omega
        obtain ⟨A, hA⟩ : ∃ A, A = Lib.itoa ((M.length : Int) + 1) := ⟨_, rfl⟩
        have la : A.length ≤ 7 := by rw [hA]; exact itoa_small _ (by omega) (by omega)
        have HD := Lib.hid (fun (W : World) => (show Calls Tryz.prog 65 #[.int .i64 ((M.length : Int) + 1)] W (fun e w' => e = .returned (.string ⟨A.toArray⟩) ∧ Ext W w') from by rw [hA]; exact l01Dec_c _ W (by omega) (by omega)))
        have HA := Lib.hid hA
        clear hA
        go_wp2_with fail
        refine (HD.out _).mono ?_
        rintro e w4 ⟨rfl, hx4⟩
        have C4 := HC.out.ext hx4
        go_wp2_with fail
        refine (pick_c g a n c f (K + 6 + 6 * M.length) 40 _ hn (by omega) C4.rs.src).mono ?_
        rintro e w5 ⟨d, rfl, d0, d0', d1, hs5, hg5⟩
        have C5 := Lib.hid (C4.drawn hs5 hg5)
        have e5 := IntWalk.i64_in (1 + d) (by omega)
        clear hs5 hg5 C4 hx4
        go_wp2_with fail
        have hm5 := (show w2.heap.size < w5.heap.size from C5.out.cal.lt)
        have hz5 := C5.out.rs.gr.size
        have hg5 := C5.out.rs.low
        have C6 := C5.out.ext (w1 := w5.alloc (.cells #[(.string (⟨#[109]⟩ ++ ⟨A.toArray⟩)), .int .i64 (1 + d), .int .i64 (1 + d)] 99)) (by repeat (first | with_reducible exact Ext.refl _ | with_reducible assumption | with_reducible refine Ext.alloc ?_ _ | with_reducible refine Ext.drew ?_ | (with_reducible refine Ext.setAt ?_ _ _ _ ?_; rotate_left; omega) | with_reducible refine Ext.trans ?_ (by assumption) | with_reducible exact Past.bel _ | with_reducible refine Ext.trans ?_ (Past.bel _)))
        have B6 := Blk.new w5 #[(.string (⟨#[109]⟩ ++ ⟨A.toArray⟩)), .int .i64 (1 + d), .int .i64 (1 + d)] 99
        refine (one_c g a n c f (K + 6 + 6 * M.length + 2) 3 _ hn (by omega) C6.rs.src).mono ?_
        rintro e w6 ⟨bb, rfl, hs6, hg6⟩
        have C7 := Lib.hid (C6.drawn hs6 hg6)
        have B7 := Lib.hid (B6.grown hg6 (fun e => by injection e with e; omega))
        have z6 := hg6.size
        simp only [World.size_alloc] at z6
        clear C6 B6 hs6 hg6
        cases bb
        · go_upto_region 13 with fail
          obtain ⟨k1, k2, k3, k4, k5, k6, k7, k8, k9⟩ := C7.out.cal.cel
          have q0 := B7.out.cell 0
          have q1 := B7.out.cell 1
          have q2 := B7.out.cell 2
          have q3 := B7.out.lt
          have q4 : w6.cell? ⟨w5.heap.size, 0, none⟩ = some (.string (⟨#[109]⟩ ++ ⟨A.toArray⟩)) := q0
          have q5 : w6.cell? ⟨w5.heap.size, 1, none⟩ = some (.int .i64 (1 + d)) := q1
          have q6 : w6.cell? ⟨w5.heap.size, 2, none⟩ = some (.int .i64 (1 + d)) := q2
          clear q0 q1 q2
          go_wp2_with (at_builtin; refine app_month _ _ rfl rfl (w2.heap.size + 1) _ M.length (M.length + 1) (MT M) (⟨#[109]⟩ ++ ⟨A.toArray⟩) (1 + d) (1 + d) _ 1 rfl rfl rfl (own_ext C7.out.om (by repeat (first | with_reducible exact Ext.refl _ | with_reducible assumption | with_reducible refine Ext.alloc ?_ _ | with_reducible refine Ext.drew ?_ | (with_reducible refine Ext.setAt ?_ _ _ _ ?_; rotate_left; omega) | with_reducible refine Ext.trans ?_ (by assumption) | with_reducible exact Past.bel _ | with_reducible refine Ext.trans ?_ (Past.bel _)))) (Blk.new _ _ _) (by omega) (Nat.le_trans (show w2.heap.size + 1 ≤ w6.heap.size from k1) (Ext.size (w := w6) (by repeat (first | with_reducible exact Ext.refl _ | with_reducible assumption | with_reducible refine Ext.alloc ?_ _ | with_reducible refine Ext.drew ?_ | (with_reducible refine Ext.setAt ?_ _ _ _ ?_; rotate_left; omega) | with_reducible refine Ext.trans ?_ (by assumption) | with_reducible exact Past.bel _ | with_reducible refine Ext.trans ?_ (Past.bel _))))) ?_; intro b6 c6 w8 s6 s7; have C8 := (C7.out.ext (w1 := w6.alloc _) (by repeat (first | with_reducible exact Ext.refl _ | with_reducible assumption | with_reducible refine Ext.alloc ?_ _ | with_reducible refine Ext.drew ?_ | (with_reducible refine Ext.setAt ?_ _ _ _ ?_; rotate_left; omega) | with_reducible refine Ext.trans ?_ (by assumption) | with_reducible exact Past.bel _ | with_reducible refine Ext.trans ?_ (Past.bel _)))).push s6 s7; have K8 := (((C7.out.ext (w1 := w6.alloc _) (by repeat (first | with_reducible exact Ext.refl _ | with_reducible assumption | with_reducible refine Ext.alloc ?_ _ | with_reducible refine Ext.drew ?_ | (with_reducible refine Ext.setAt ?_ _ _ _ ?_; rotate_left; omega) | with_reducible refine Ext.trans ?_ (by assumption) | with_reducible exact Past.bel _ | with_reducible refine Ext.trans ?_ (Past.bel _)))).cal).grown s7 (fun e => by have := (C7.out.om.lt _ e.symm).1; omega)).cel; clear k1 k2 k3 k4 k5 k6 k7 k8 k9; obtain ⟨k1, k2, k3, k4, k5, k6, k7, k8, k9⟩ := K8; have S8 := Lib.hid C8; clear s6 s7 C8)
          refine ⟨⟨M.length + 1, M ++ [(mNm M.length, 1 + d, 1 + d)], .slice b6 (M.length + 1) c6, by go_num, by omega, by simp, monOk_app HOK.out ⟨by omega, by omega⟩ ⟨by omega, by omega⟩, ?_⟩, by simp [intOf]; omega⟩
          have e9 : (⟨#[109]⟩ ++ ⟨A.toArray⟩ : ByteArray) = mNm M.length := by rw [HA.out, mNm]; exact ba_app [109] _
          rw [← e9]
          exact S8.out.le (by omega)
        · go_wp2_with fail
          refine (pick_c g a n c f (K + 6 + 6 * M.length + 4) 40 _ hn (by omega) C7.out.rs.src).mono ?_
          rintro e w7 ⟨d2, rfl, u0, u0', u1, hs7, hg7⟩
          have C9 := Lib.hid (C7.out.drawn hs7 hg7)
          have B9 := Lib.hid (B7.out.grown hg7 (fun e => by injection e with e; omega))
          have e6 := IntWalk.i64_in (1 + d2) (by omega)
          have z7 := hg7.size
          have f2 := B9.out.frozen 2
          have q2 : w7.cell? ⟨w5.heap.size, 2, none⟩ = some (.int .i64 (1 + d)) := B9.out.cell 2
          have q3 := B9.out.lt
          clear hs7 hg7
          go_upto_region 13 with fail
          have C10 := C9.out.far (b := w5.heap.size) hm5 (fun e => by have := (C5.out.om.lt _ e).2; omega) 2 (.int .i64 (1 + d2))
          have B10 : Blk (w7.setCell ⟨w5.heap.size, 2, none⟩ (.int .i64 (1 + d2))) w5.heap.size 99 #[(.string (⟨#[109]⟩ ++ ⟨A.toArray⟩)), .int .i64 (1 + d), .int .i64 (1 + d2)] := B9.out.set 2 _
          generalize hX : w7.setCell ⟨w5.heap.size, 2, none⟩ (.int .i64 (1 + d2)) = X at C10 B10 ⊢
          have C11 := Lib.hid C10
          have B11 := Lib.hid B10
          clear C10 B10 q2 q3 f2 hX
          obtain ⟨k1, k2, k3, k4, k5, k6, k7, k8, k9⟩ := C11.out.cal.cel
          have q0 := B11.out.cell 0
          have q1 := B11.out.cell 1
          have q2 := B11.out.cell 2
          have q3 := B11.out.lt
          have q4 : X.cell? ⟨w5.heap.size, 0, none⟩ = some (.string (⟨#[109]⟩ ++ ⟨A.toArray⟩)) := q0
          have q5 : X.cell? ⟨w5.heap.size, 1, none⟩ = some (.int .i64 (1 + d)) := q1
          have q6 : X.cell? ⟨w5.heap.size, 2, none⟩ = some (.int .i64 (1 + d2)) := q2
          clear q0 q1 q2
          go_wp2_with (at_builtin; refine app_month _ _ rfl rfl (w2.heap.size + 1) _ M.length (M.length + 1) (MT M) (⟨#[109]⟩ ++ ⟨A.toArray⟩) (1 + d) (1 + d2) _ 1 rfl rfl rfl (own_ext C11.out.om (by repeat (first | with_reducible exact Ext.refl _ | with_reducible assumption | with_reducible refine Ext.alloc ?_ _ | with_reducible refine Ext.drew ?_ | (with_reducible refine Ext.setAt ?_ _ _ _ ?_; rotate_left; omega) | with_reducible refine Ext.trans ?_ (by assumption) | with_reducible exact Past.bel _ | with_reducible refine Ext.trans ?_ (Past.bel _)))) (Blk.new _ _ _) (by omega) (Nat.le_trans (show w2.heap.size + 1 ≤ X.heap.size from k1) (Ext.size (w := X) (by repeat (first | with_reducible exact Ext.refl _ | with_reducible assumption | with_reducible refine Ext.alloc ?_ _ | with_reducible refine Ext.drew ?_ | (with_reducible refine Ext.setAt ?_ _ _ _ ?_; rotate_left; omega) | with_reducible refine Ext.trans ?_ (by assumption) | with_reducible exact Past.bel _ | with_reducible refine Ext.trans ?_ (Past.bel _))))) ?_; intro b6 c6 w8 s6 s7; have C8 := (C11.out.ext (w1 := X.alloc _) (by repeat (first | with_reducible exact Ext.refl _ | with_reducible assumption | with_reducible refine Ext.alloc ?_ _ | with_reducible refine Ext.drew ?_ | (with_reducible refine Ext.setAt ?_ _ _ _ ?_; rotate_left; omega) | with_reducible refine Ext.trans ?_ (by assumption) | with_reducible exact Past.bel _ | with_reducible refine Ext.trans ?_ (Past.bel _)))).push s6 s7; have K8 := (((C11.out.ext (w1 := X.alloc _) (by repeat (first | with_reducible exact Ext.refl _ | with_reducible assumption | with_reducible refine Ext.alloc ?_ _ | with_reducible refine Ext.drew ?_ | (with_reducible refine Ext.setAt ?_ _ _ _ ?_; rotate_left; omega) | with_reducible refine Ext.trans ?_ (by assumption) | with_reducible exact Past.bel _ | with_reducible refine Ext.trans ?_ (Past.bel _)))).cal).grown s7 (fun e => by have := (C11.out.om.lt _ e.symm).1; omega)).cel; clear k1 k2 k3 k4 k5 k6 k7 k8 k9; obtain ⟨k1, k2, k3, k4, k5, k6, k7, k8, k9⟩ := K8; have S8 := Lib.hid C8; clear s6 s7 C8)
          refine ⟨⟨M.length + 1, M ++ [(mNm M.length, 1 + d, 1 + d2)], .slice b6 (M.length + 1) c6, by go_num, by omega, by simp, monOk_app HOK.out ⟨by omega, by omega⟩ ⟨by omega, by omega⟩, ?_⟩, by simp [intOf]; omega⟩
          have e9 : (⟨#[109]⟩ ++ ⟨A.toArray⟩ : ByteArray) = mNm M.length := by rw [HA.out, mNm]; exact ba_app [109] _
          rw [← e9]
          exact S8.out.le (by omega)
      · have b1 : ¬ (M.length : Int) + 1 ≤ (mm : Int) := by omega
        obtain rfl : mm = M.length := by omega
        obtain ⟨bm, cm, rfl⟩ := own_form HC.out.om
        go_wp2_with fail
        refine (pick_c g a n c f (K + 6 + 6 * M.length) 4 _ hn (by omega) HC.out.rs.src).mono ?_
        rintro e w4 ⟨x4, rfl, z0, z0', z1', hs4, hg4⟩
        have C4 := HC.out.drawn hs4 hg4
        obtain ⟨r0, hr0, hr3⟩ : ∃ r0 : Nat, x4 = (r0 : Int) ∧ r0 ≤ 3 := ⟨x4.toNat, by omega, by omega⟩
        subst hr0
        have CR := Lib.hid (show Cr w w4 g a n c f (K + 50) w.heap.size w2.heap.size w4.heap.size M [] (.slice bm M.length cm) (.slice none 0 0) (1 + x) from ⟨C4.le (by omega), World.ownsRow_nil _ _ _ _, fun k hk => (C4.om.lt k hk).2, C4.cal.lt⟩)
        clear hs4 hg4 C4 HC
        go_wp2_with fail
        go_loopw [9] (fun i wr => ∃ (q : Nat) (R : List Ru) (v : Value), i = .int .i64 (q : Int) ∧ R.length + q ≤ 3 ∧ Cr w wr g a n c f (K + 50 + 6 * R.length) w.heap.size w2.heap.size w4.heap.size M R (.slice bm M.length cm) v (1 + x) ∧ w4.heap.size ≤ wr.heap.size) (fun i _ => (intOf i).toNat)
        case atStart => exact ⟨r0, [], .slice none 0 0, rfl, by simpa using hr3, CR.out, Nat.le_refl _⟩
        case round =>
          clear CR
          obtain ⟨q, R, v, rfl, hq, hc, w4le⟩ := hrel
          have HR := Lib.hid hc
          clear hc
          by_cases hlt : 0 < q
          · have b2 : (0 : Int) < (q : Int) := by omega
            have b4 := HR.out.cs.cal.lt
            have b5 := HR.out.cs.rs.low
            have b6 := HR.out.cs.rs.gr.size
            go_wp2_with fail
            have C5 := HR.out.ext (w1 := wr.alloc (.cells #[.int .i64 1, .int .i64 2, .int .i64 3, .int .i64 4, .int .i64 5, .int .i64 8, .int .i64 33, .int .i64 100] 2)) (by repeat (first | with_reducible exact Ext.refl _ | with_reducible assumption | with_reducible refine Ext.alloc ?_ _ | with_reducible refine Ext.drew ?_ | (with_reducible refine Ext.setAt ?_ _ _ _ ?_; rotate_left; omega) | with_reducible refine Ext.trans ?_ (by assumption) | with_reducible exact Past.bel _ | with_reducible refine Ext.trans ?_ (Past.bel _)))
            refine (among_c g a n c f (K + 50 + 6 * R.length) (some ⟨wr.heap.size, 0, none⟩) 8 8 (fun j => [1, 2, 3, 4, 5, 8, 33, 100].getD j 0) _ hn (by omega) C5.cs.rs.src (by omega) (by omega) (s1_list (T := 2) [1, 2, 3, 4, 5, 8, 33, 100] (Blk.new _ _ _)) (fun ad e => by injection e with e; subst e; dsimp only; omega)).mono ?_
            rintro e w5 ⟨j5, rfl, hj5, hs5, hg5⟩
            obtain ⟨ev, hev⟩ : ∃ ev : Int, ev = [1, 2, 3, 4, 5, 8, 33, 100].getD j5 0 := ⟨_, rfl⟩
            have C6 := (C5.drawn hs5 hg5).ext (w1 := w5.alloc (.cells #[.int .i64 ev, .int .i64 0, .bool false] 101)) (by repeat (first | with_reducible exact Ext.refl _ | with_reducible assumption | with_reducible refine Ext.alloc ?_ _ | with_reducible refine Ext.drew ?_ | (with_reducible refine Ext.setAt ?_ _ _ _ ?_; rotate_left; omega) | with_reducible refine Ext.trans ?_ (by assumption) | with_reducible exact Past.bel _ | with_reducible refine Ext.trans ?_ (Past.bel _)))
            have B6 := Blk.new w5 #[.int .i64 ev, .int .i64 0, .bool false] 101
            have z5 := hg5.size
            simp only [World.size_alloc] at z5
            dsimp only
            rw [← hev]
            clear hev hs5 hg5 C5
            go_wp2_with fail
            refine (pick_c g a n c f (K + 50 + 6 * R.length + 2) ev _ hn (by omega) C6.cs.rs.src).mono ?_
            rintro e w6 ⟨rs, rfl, u0, u0', u1, hs6, hg6⟩
            have C7 := (C6.drawn hs6 hg6)
            have B7 := B6.grown hg6 (fun e => by injection e with e; omega)
            have l7 := B7.lt
            have f7 := B7.frozen 1
            have q7 : w6.cell? ⟨w5.heap.size, 1, none⟩ = some (.int .i64 0) := B7.cell 1
            have nv : v.ownBlock ≠ some w5.heap.size := fun e => by have := (HR.out.or.lt _ e).2; omega
            have nm : (Value.slice bm M.length cm).ownBlock ≠ some w5.heap.size := fun e => by have := (HR.out.cs.om.lt _ e).2; omega
            have C8 := Lib.hid (C7.far (b := w5.heap.size) (by omega) nm nv 1 (.int .i64 rs))
            have B8 := Lib.hid (show Blk (w6.setCell ⟨w5.heap.size, 1, none⟩ (.int .i64 rs)) w5.heap.size 101 #[.int .i64 ev, .int .i64 rs, .bool false] from B7.set 1 _)
            clear C6 C7 B6 B7 hs6 hg6
            go_wp2_with fail
            generalize hX : w6.setCell ⟨w5.heap.size, 1, none⟩ (.int .i64 rs) = X at C8 B8 ⊢
            clear hX f7 q7 l7
            refine (one_c g a n c f (K + 50 + 6 * R.length + 4) 3 _ hn (by omega) C8.out.cs.rs.src).mono ?_
            rintro e w7 ⟨bb, rfl, hs7, hg7⟩
            have C9 := (C8.out.drawn hs7 hg7)
            have B9 := B8.out.grown hg7 (fun e => by injection e with e; omega)
            have l7 := B9.lt
            have f7 := B9.frozen 2
            have q7 : w7.cell? ⟨w5.heap.size, 2, none⟩ = some (.bool false) := B9.cell 2
            have C10 := (C9.far (b := w5.heap.size) (by omega) nm nv 2 (.bool (!bb)))
            have B10 := (show Blk (w7.setCell ⟨w5.heap.size, 2, none⟩ (.bool (!bb))) w5.heap.size 101 #[.int .i64 ev, .int .i64 rs, .bool (!bb)] from B9.set 2 _)
            clear C8 C9 B8 B9 hs7 hg7
            go_upto_region 20 with fail
            generalize hY : w7.setCell ⟨w5.heap.size, 2, none⟩ (.bool (!bb)) = Y at C10 B10 ⊢
            have C11 := Lib.hid C10
            obtain ⟨k1, k2, k3, k4, k5, k6, k7, k8, k9⟩ := C10.cs.cal.cel
            have q3 := B10.lt
            have q4 : Y.cell? ⟨w5.heap.size, 0, none⟩ = some (.int .i64 ev) := B10.cell 0
            have q5 : Y.cell? ⟨w5.heap.size, 1, none⟩ = some (.int .i64 rs) := B10.cell 1
            have q6 : Y.cell? ⟨w5.heap.size, 2, none⟩ = some (.bool (!bb)) := B10.cell 2
            have zY : w4.heap.size ≤ Y.heap.size := by
              omega
            clear C10 B10 hY f7 q7 l7
            go_wp2_with (at_builtin; refine app_rule _ _ rfl rfl w4.heap.size _ R.length (R.length + 1) (RT R) ev rs (!bb) _ 1 rfl rfl rfl (own_ext C11.out.or (by repeat (first | with_reducible exact Ext.refl _ | with_reducible assumption | with_reducible refine Ext.alloc ?_ _ | with_reducible refine Ext.drew ?_ | (with_reducible refine Ext.setAt ?_ _ _ _ ?_; rotate_left; omega) | with_reducible refine Ext.trans ?_ (by assumption) | with_reducible exact Past.bel _ | with_reducible refine Ext.trans ?_ (Past.bel _)))) (Blk.new _ _ _) (by omega) (Nat.le_trans zY (Ext.size (w := Y) (by repeat (first | with_reducible exact Ext.refl _ | with_reducible assumption | with_reducible refine Ext.alloc ?_ _ | with_reducible refine Ext.drew ?_ | (with_reducible refine Ext.setAt ?_ _ _ _ ?_; rotate_left; omega) | with_reducible refine Ext.trans ?_ (by assumption) | with_reducible exact Past.bel _ | with_reducible refine Ext.trans ?_ (Past.bel _))))) ?_; intro b6 c6 w8 s6 s7; have z8 := s7.size; simp only [World.size_alloc] at z8; have C8 := (C11.out.ext (w1 := Y.alloc _) (by repeat (first | with_reducible exact Ext.refl _ | with_reducible assumption | with_reducible refine Ext.alloc ?_ _ | with_reducible refine Ext.drew ?_ | (with_reducible refine Ext.setAt ?_ _ _ _ ?_; rotate_left; omega) | with_reducible refine Ext.trans ?_ (by assumption) | with_reducible exact Past.bel _ | with_reducible refine Ext.trans ?_ (Past.bel _)))).push s6 s7; have K8 := ((C11.out.ext (w1 := Y.alloc _) (by repeat (first | with_reducible exact Ext.refl _ | with_reducible assumption | with_reducible refine Ext.alloc ?_ _ | with_reducible refine Ext.drew ?_ | (with_reducible refine Ext.setAt ?_ _ _ _ ?_; rotate_left; omega) | with_reducible refine Ext.trans ?_ (by assumption) | with_reducible exact Past.bel _ | with_reducible refine Ext.trans ?_ (Past.bel _)))).cs.cal.grown s7 (fun e => by have := (C11.out.or.lt _ e.symm).1; have := C11.out.lb; omega)).cel; clear k1 k2 k3 k4 k5 k6 k7 k8 k9; obtain ⟨k1, k2, k3, k4, k5, k6, k7, k8, k9⟩ := K8; have S8 := Lib.hid C8; clear s6 s7 C8)
            refine ⟨⟨q - 1, R ++ [(ev, rs, !bb)], .slice b6 (R.length + 1) c6, by go_num, by simp; omega, S8.out.le (by simp; omega), by simp; omega⟩, by simp [intOf]; omega⟩
          · have b2 : ¬ (0 : Int) < (q : Int) := by omega
            obtain ⟨br, cr, rfl⟩ := own_form HR.out.or
            have hR3 : R.length ≤ 3 := by omega
            have cap1 := own_cap3 HR.out.cs.om
            obtain ⟨k1, k2, k3, k4, k5, k6, k7, k8, k9⟩ := HR.out.cs.cal.cel
            obtain ⟨r1, r2, r3, r4, r5, r6, r7, r8, r9⟩ := HR.out.cs.res.cel
            have n1 := HR.out.cs.lo2
            have n2 : ¬ w.heap.size = w2.heap.size := by omega
            have n3 : ¬ w2.heap.size = w.heap.size := by omega
            have CQ : CalQ wr w2.heap.size ownS (bm) br cm cr (1 + x) (nmOf M) (calOf M R) := ⟨by show M.length ≤ _; omega, by show R.length ≤ _; omega, by decide, fun i hi => Nat.le_trans (monOk_sz HOK.out (by omega) i hi) (by omega), ⟨k1, k2, k3, k4, k5, own_calM HR.out.cs.om HR.out.or⟩⟩
            cases hv : calB ownS (nmOf M) (calOf M R) (1 + x)
            · have HV := Lib.hid (hv ▸ l15Ok_q CQ : Calls Tryz.prog 44 #[.pointer (some ⟨w2.heap.size, 0, none⟩)] wr fun e w' => e = .returned (.bool false) ∧ Ext wr w')
              clear CQ k1 k2 k3 k4 k5 k6 k7 k8 k9 r1 r2 r3 r4 r5 r6 r7 r8 r9
              go_wp2_with fail
              refine HV.out.mono ?_
              rintro e w5 ⟨rfl, hx5⟩
              have C5 := HR.out.ext hx5
              obtain ⟨k1, k2, k3, k4, k5, k6, k7, k8, k9⟩ := C5.cs.cal.cel
              obtain ⟨r1, r2, r3, r4, r5, r6, r7, r8, r9⟩ := C5.cs.res.cel
              have HC5 := Lib.hid C5
              clear C5 hx5
              go_wp2_with fail
              have h1 := HC5.out.cs.om
              have OK0 := Lib.hid (own_ok HOK.out (by omega) (by omega) (wk := 1 + x) ⟨by omega, by omega⟩)
              refine bodyPost_ret (v := .agg #[.string ownS, .slice bm M.length cm, .slice (some ⟨w5.heap.size, 0, none⟩) 0 0, .int .i64 (1 + x)]) (by simp [results, Tryz.results29, go_sem, r1, r2, r3, r4, r5, n2, n3]) rfl ⟨M, [], ownS, 1 + x, bm, cm, some ⟨w5.heap.size, 0, none⟩, 0, rfl, ?_, ?_, ?_, OK0.out⟩
              · exact (((HC5.out.cs.rs.put (b := w2.heap.size) (by have := HC5.out.cs.lo1; omega) _ _).four HC5.out.cs.lo1 _ _ _ _).ext ((Ext.refl _).alloc _)).le (by omega)
              · exact own_base (own_ext (own_four (own_low h1 (by omega) _ _) (by omega) _ _ _ _) ((Ext.refl _).alloc _)) (by omega)
              · exact own_made _ _ _ (by simp) (by have := HC5.out.cs.rs.gr.size; simp; omega) (Nat.zero_le _) rfl
            · have HV := Lib.hid (hv ▸ l15Ok_q CQ : Calls Tryz.prog 44 #[.pointer (some ⟨w2.heap.size, 0, none⟩)] wr fun e w' => e = .returned (.bool true) ∧ Ext wr w')
              clear CQ k1 k2 k3 k4 k5 k6 k7 k8 k9 r1 r2 r3 r4 r5 r6 r7 r8 r9
              go_wp2_with fail
              refine HV.out.mono ?_
              rintro e w5 ⟨rfl, hx5⟩
              have C5 := HR.out.ext hx5
              obtain ⟨k1, k2, k3, k4, k5, k6, k7, k8, k9⟩ := C5.cs.cal.cel
              obtain ⟨r1, r2, r3, r4, r5, r6, r7, r8, r9⟩ := C5.cs.res.cel
              have HC5 := Lib.hid C5
              clear C5 hx5
              go_wp2_with fail
              have HV2 := Lib.hid hv
              refine bodyPost_ret (v := .agg #[.string ownS, .slice bm M.length cm, .slice br R.length cr, .int .i64 (1 + x)]) (by simp [results, Tryz.results29, go_sem, r1, r2, r3, r4, r5]) rfl ⟨M, R, ownS, 1 + x, bm, cm, br, cr, rfl, ?_, ?_, ?_, HV2.out⟩
              · exact (HC5.out.cs.rs.four HC5.out.cs.lo1 _ _ _ _).le (by omega)
              · exact own_base (own_four HC5.out.cs.om (by omega) _ _ _ _) (by omega)
              · exact own_base (own_four HC5.out.or (by have := HC5.out.lb; omega) _ _ _ _) (by have := HC5.out.lb; omega)
  · go_wp2_with fail
    refine (specCalendarNames_c _).mono ?_
    rintro e w2 ⟨gn, rfl, hx2, on2⟩
    have RS3 := RS2.out.ext hx2
    have gnlt := (on2.lt gn rfl).1
    go_wp2_with fail
    refine (text_c g a n c f (K + 2) (some ⟨gn, 0, none⟩) 4 4 (fun j => calNames.getD j ⟨#[]⟩) _ hn (by omega) RS3.src (by omega) (by omega) (own_ss on2) (fun ad e => by injection e with e; subst e; dsimp only; omega)).mono ?_
    rintro e w3 ⟨j, rfl, hj, hs3, hg3⟩
    have RS4 := RS3.drawn hs3 hg3
    have KB3 := (KB1.out.ext hx2).grown hg3 (fun e => by injection e with e; omega)
    obtain ⟨M, R, wk, hok, hcall⟩ := specNamed_any (names_four j hj)
    obtain ⟨nm, hnm⟩ : ∃ nm, nm = calNames.getD j ⟨#[]⟩ := ⟨_, rfl⟩
    rw [← hnm] at hok hcall
    have z3 := hg3.size
    have z2 := hx2.size
    clear on2 hs3 hg3 hx2
    dsimp only
    rw [← hnm]
    clear hnm
    go_wp2_with fail
    refine (hcall _).mono ?_
    rintro e w4 ⟨a1, c1, a2, c2, rfl, hx4, om4, or4, -, -⟩
    have RS5 := Lib.hid (RS4.ext hx4)
    have OM := Lib.hid om4
    have OR := Lib.hid or4
    have HOK := Lib.hid hok
    have KB4 := KB3.ext hx4
    have lt4 := KB4.lt
    obtain ⟨k1, k2, k3, k4, k5, k6, k7, k8, k9⟩ := KB4.cel
    clear om4 or4 RS4 KB3 KB4 hcall hx4 RS3 hok
    go_wp2_with fail
    refine bodyPost_ret (v := .agg #[.string nm, .slice a1 M.length c1, .slice a2 R.length c2, .int .i64 wk]) (by simp [results, Tryz.results29, go_sem, k1, k2, k3, k4, k5]) rfl ⟨M, R, nm, wk, a1, c1, a2, c2, rfl, ?_, ?_, ?_, HOK.out⟩
    · exact ((RS5.out.four (Nat.le_refl _) _ _ _ _).ext ((Ext.refl _).alloc _)).le (by omega)
    · exact own_base (own_ext (own_four OM.out (by omega) _ _ _ _) ((Ext.refl _).alloc _)) (by omega)
    · exact own_base (own_ext (own_four OR.out (by omega) _ _ _ _) ((Ext.refl _).alloc _)) (by omega)
end Go.Proofs.YtpohhnihgegmfaaGreatDoor

namespace Go.Proofs.YtpohhnihgegmfaaGreatDoor
set_option linter.unusedVariables false
/-- codes and values -/
def ymC (s : ByteArray) (nm : Nat → ByteArray) (c : CalN) (wk y m : Int) : Int := if calB s nm c wk then (if inB y 0 9999 && inB m 1 (c.n : Int) then 0 else 2) else 1
def ymV (s : ByteArray) (nm : Nat → ByteArray) (c : CalN) (wk y m : Int) : Int := if ymC s nm c wk y m = 0 then c.mo y (m - 1).toNat else 0
def yrC (s : ByteArray) (nm : Nat → ByteArray) (c : CalN) (wk y : Int) : Int := if calB s nm c wk then (if inB y 0 9999 then 0 else 2) else 1
def yrV (s : ByteArray) (nm : Nat → ByteArray) (c : CalN) (wk y : Int) : Int := if yrC s nm c wk y = 0 then c.yl y else 0
/-- a date is a day of a valid calendar -/
def dtB (c : CalN) (y m d : Int) : Bool := inB y 0 9999 && (inB m 1 (c.n : Int) && inB d 1 (c.mo y (m - 1).toNat))
def vdR (s : ByteArray) (nm : Nat → ByteArray) (c : CalN) (wk y m d : Int) : Bool := calB s nm c wk && dtB c y m d
theorem mon_nat {n : Nat} {m : Int} (h : inB m 1 (n : Int) = true) : ∃ j : Nat, m = (j : Int) + 1 ∧ j < n := by
  have := inB_t.1 h
  exact ⟨(m - 1).toNat, by omega, by omega⟩
theorem succ_pred (j : Nat) : ((j : Int) + 1 - 1).toNat = j := by omega
end Go.Proofs.YtpohhnihgegmfaaGreatDoor

namespace Go.Proofs.YtpohhnihgegmfaaGreatDoor
open Go.RowKit
set_option linter.unusedVariables false
set_option linter.unusedSimpArgs false

/-- a drawn calendar behind a pointer, beside its source -/
structure Cv (w : World) (g gc B : Nat) (M : List Mo) (R : List Ru) (nm : ByteArray) (wk : Int) (a1 : Option Addr) (c1 : Nat) (a2 : Option Addr) (c2 : Nat) : Prop where
  cal : Blk w gc 27 #[.string nm, .slice a1 M.length c1, .slice a2 R.length c2, .int .i64 wk]
  om : w.ownsRow B 99 3 (.slice a1 M.length c1) M.length (MT M)
  or : w.ownsRow B 101 3 (.slice a2 R.length c2) R.length (RT R)
  ng : gc ≠ g
  lb : g < B
section
variable {w w1 : World} {g gc B : Nat} {M : List Mo} {R : List Ru} {nm : ByteArray} {wk : Int} {a1 : Option Addr} {c1 : Nat} {a2 : Option Addr} {c2 : Nat}
theorem Cv.drawn (h : Cv w g gc B M R nm wk a1 c1 a2 c2) (hx : w.grownBy w1 (some g)) : Cv w1 g gc B M R nm wk a1 c1 a2 c2 :=
  have h4 := h.lb
  ⟨h.cal.grown hx (fun e => by injection e with e; exact h.ng e), h.om.kept hx (.inr fun e => by have := (h.om.lt g e).1; omega), h.or.kept hx (.inr fun e => by have := (h.or.lt g e).1; omega), h.ng, h4⟩
theorem Cv.ext (h : Cv w g gc B M R nm wk a1 c1 a2 c2) (hx : Ext w w1) : Cv w1 g gc B M R nm wk a1 c1 a2 c2 := ⟨h.cal.ext hx, own_ext h.om hx, own_ext h.or hx, h.ng, h.lb⟩
theorem Cv.far (h : Cv w g gc B M R nm wk a1 c1 a2 c2) {b : Nat} (hb : gc ≠ b) (h1 : (Value.slice a1 M.length c1).ownBlock ≠ some b) (h2 : (Value.slice a2 R.length c2).ownBlock ≠ some b) (i : Nat) (x : Value) : Cv (w.setCell ⟨b, i, none⟩ x) g gc B M R nm wk a1 c1 a2 c2 :=
  ⟨h.cal.other _ _ _ hb, h.om.kept (grown_set b i x) (.inr h1), h.or.kept (grown_set b i x) (.inr h2), h.ng, h.lb⟩
theorem Cv.p (h : Cv w g gc B M R nm wk a1 c1 a2 c2) : CalP w gc nm a1 a2 c1 c2 wk (nmOf M) (calOf M R) :=
  ⟨h.cal.lt, h.cal.cell 0, h.cal.cell 1, h.cal.cell 2, h.cal.cell 3, own_calM h.om h.or⟩
end
theorem isNm_sz {s : ByteArray} (h : isNm s = true) : s.size ≤ 12 := by
  simp only [isNm, Bool.and_eq_true, decide_eq_true_eq] at h; exact h.1.2
theorem calB_sz {s : ByteArray} {nm : Nat → ByteArray} {c : CalN} {wk : Int} (h : calB s nm c wk = true) : s.size ≤ 12 ∧ (∀ i, i < c.n → (nm i).size ≤ 12) ∧ 1 ≤ wk ∧ wk ≤ 12 := by
  simp only [calB, monB, rulB, Bool.and_eq_true, decide_eq_true_eq, inB_t] at h
  obtain ⟨_, h4, ⟨h5, _⟩, h7⟩ := h
  refine ⟨isNm_sz h4, fun j hj => ?_, h7⟩
  have := monTo_at h5 hj
  simp only [monA, Bool.and_eq_true] at this
  exact isNm_sz this.1
/-- a drawn calendar handed on by value -/
theorem calV_of {w : World} {B : Nat} {M : List Mo} {R : List Ru} {nm : ByteArray} {wk : Int} {a1 : Option Addr} {c1 : Nat} {a2 : Option Addr} {c2 : Nat} (hok : calB nm (nmOf M) (calOf M R) wk = true)
    (om : w.ownsRow B 99 3 (.slice a1 M.length c1) M.length (MT M)) (or : w.ownsRow B 101 3 (.slice a2 R.length c2) R.length (RT R)) : CalV w nm a1 a2 c1 c2 (nmOf M) (calOf M R) := by
  have b := calB_b hok
  have z := calB_sz hok
  have hcap := own_cap3 om
  have n20 := b.n20
  have nr6 := b.nr6
  exact ⟨by omega, by omega, hcap.1, hcap.2, by omega, fun i hi => Nat.le_trans (z.2.1 i hi) (by omega), own_calM om or⟩
theorem two_cells' (w : World) (T U : TypeId) (a b : Array Value) : Blk ((w.alloc (.cells a T)).alloc (.cells b U)) (w.heap.size + 1) U b := by have := Blk.new (w.alloc (.cells a T)) b U; rwa [World.size_alloc] at this
def yrs : List Int := [0, 1900, 2000, 2023, 2024, 2100, 9999, 4, 33]
theorem yrs_in : ∀ j, j < 9 → 0 ≤ yrs.getD j 0 ∧ yrs.getD j 0 ≤ 9999 := by decide
set_option maxRecDepth 100000 in
set_option maxHeartbeats 8000000 in
theorem l16Draw_c (g gc B : Nat) (a : Option Addr) (n c : Nat) (f : Nat → Nat) (K : Nat) (M : List Mo) (R : List Ru) (nm : ByteArray) (wk : Int) (a1 : Option Addr) (c1 : Nat) (a2 : Option Addr) (c2 : Nat) (w : World) (hn : n ≤ 1048576) (hK : K ≤ 1000)
    (hd : Src w g a n c f K) (hg : g < w.heap.size) (hcd : 0 < n → ∀ ad, a = some ad → ad.block < w.heap.size) (hv : Cv w g gc B M R nm wk a1 c1 a2 c2) (hok : calB nm (nmOf M) (calOf M R) wk = true) :
    Calls Tryz.prog 30 #[.pointer (some ⟨g, 0, none⟩), .pointer (some ⟨gc, 0, none⟩)] w fun e w' => ∃ y m d : Int, e = .returned (.agg #[.int .i64 y, .int .i64 m, .int .i64 d]) ∧ dtB (calOf M R) y m d = true ∧ w.grownBy w' (some g) := by
  have RS0 := Rs.start hd hg hcd
  have b := calB_b hok
  have n20 : M.length ≤ 20 := b.n20
  have n1 : 1 ≤ M.length := b.n1
  go_enter Tryz.func30, Tryz.ntmps30
  go_wp2_with fail
  have RS1 := (RS0.ext (w1 := w.alloc (.cells #[.int .i64 0, .int .i64 0, .int .i64 0] 29)) (by repeat (first | with_reducible exact Ext.refl _ | with_reducible assumption | with_reducible refine Ext.alloc ?_ _ | with_reducible refine Ext.drew ?_ | (with_reducible refine Ext.setAt ?_ _ _ _ ?_; rotate_left; omega) | with_reducible refine Ext.trans ?_ (by assumption) | with_reducible exact Past.bel _ | with_reducible refine Ext.trans ?_ (Past.bel _)))).ext (w1 := (w.alloc (.cells #[.int .i64 0, .int .i64 0, .int .i64 0] 29)).alloc (.cells #[.int .i64 0, .int .i64 1900, .int .i64 2000, .int .i64 2023, .int .i64 2024, .int .i64 2100, .int .i64 9999, .int .i64 4, .int .i64 33] 2)) (by repeat (first | with_reducible exact Ext.refl _ | with_reducible assumption | with_reducible refine Ext.alloc ?_ _ | with_reducible refine Ext.drew ?_ | (with_reducible refine Ext.setAt ?_ _ _ _ ?_; rotate_left; omega) | with_reducible refine Ext.trans ?_ (by assumption) | with_reducible exact Past.bel _ | with_reducible refine Ext.trans ?_ (Past.bel _)))
  have CV1 := hv.ext (w1 := (w.alloc (.cells #[.int .i64 0, .int .i64 0, .int .i64 0] 29)).alloc (.cells #[.int .i64 0, .int .i64 1900, .int .i64 2000, .int .i64 2023, .int .i64 2024, .int .i64 2100, .int .i64 9999, .int .i64 4, .int .i64 33] 2)) (by repeat (first | with_reducible exact Ext.refl _ | with_reducible assumption | with_reducible refine Ext.alloc ?_ _ | with_reducible refine Ext.drew ?_ | (with_reducible refine Ext.setAt ?_ _ _ _ ?_; rotate_left; omega) | with_reducible refine Ext.trans ?_ (by assumption) | with_reducible exact Past.bel _ | with_reducible refine Ext.trans ?_ (Past.bel _)))
  have D0 := (Blk.new w #[.int .i64 0, .int .i64 0, .int .i64 0] 29).ext (w' := (w.alloc (.cells #[.int .i64 0, .int .i64 0, .int .i64 0] 29)).alloc (.cells #[.int .i64 0, .int .i64 1900, .int .i64 2000, .int .i64 2023, .int .i64 2024, .int .i64 2100, .int .i64 9999, .int .i64 4, .int .i64 33] 2)) (by repeat (first | with_reducible exact Ext.refl _ | with_reducible assumption | with_reducible refine Ext.alloc ?_ _ | with_reducible refine Ext.drew ?_ | (with_reducible refine Ext.setAt ?_ _ _ _ ?_; rotate_left; omega) | with_reducible refine Ext.trans ?_ (by assumption) | with_reducible exact Past.bel _ | with_reducible refine Ext.trans ?_ (Past.bel _)))
  have LB := (two_cells' w 29 2 #[.int .i64 0, .int .i64 0, .int .i64 0] #[.int .i64 0, .int .i64 1900, .int .i64 2000, .int .i64 2023, .int .i64 2024, .int .i64 2100, .int .i64 9999, .int .i64 4, .int .i64 33])
  refine (among_c g a n c f K (some ⟨w.heap.size + 1, 0, none⟩) 9 9 (fun j => yrs.getD j 0) _ hn (by omega) RS1.src (by omega) (by omega) (s1_list (T := 2) yrs LB) (fun ad e => by injection e with e; subst e; dsimp only; omega)).mono ?_
  rintro e w1 ⟨j, rfl, hj, hs1, hg1⟩
  obtain ⟨y, hy⟩ : ∃ y : Int, y = yrs.getD j 0 := ⟨_, rfl⟩
  have hyb := yrs_in j hj
  rw [← hy] at hyb
  have z1 := hg1.size
  simp only [World.size_alloc] at z1
  have hgcw : gc ≠ w1.heap.size := by have := hv.cal.lt; omega
  have hBw : (Value.slice a1 M.length c1).ownBlock ≠ some w1.heap.size := fun e => by have := (hv.om.lt _ e).2; omega
  have hBw2 : (Value.slice a2 R.length c2).ownBlock ≠ some w1.heap.size := fun e => by have := (hv.or.lt _ e).2; omega
  have RS2 := (RS1.drawn hs1 hg1).ext (w1 := w1.alloc (.cells #[.int .i64 y, .int .i64 0, .int .i64 0] 29)) (by repeat (first | with_reducible exact Ext.refl _ | with_reducible assumption | with_reducible refine Ext.alloc ?_ _ | with_reducible refine Ext.drew ?_ | (with_reducible refine Ext.setAt ?_ _ _ _ ?_; rotate_left; omega) | with_reducible refine Ext.trans ?_ (by assumption) | with_reducible exact Past.bel _ | with_reducible refine Ext.trans ?_ (Past.bel _)))
  have CV2 := (CV1.drawn hg1).ext (w1 := w1.alloc (.cells #[.int .i64 y, .int .i64 0, .int .i64 0] 29)) (by repeat (first | with_reducible exact Ext.refl _ | with_reducible assumption | with_reducible refine Ext.alloc ?_ _ | with_reducible refine Ext.drew ?_ | (with_reducible refine Ext.setAt ?_ _ _ _ ?_; rotate_left; omega) | with_reducible refine Ext.trans ?_ (by assumption) | with_reducible exact Past.bel _ | with_reducible refine Ext.trans ?_ (Past.bel _)))
  have D2 := (D0.grown hg1 (fun e => by injection e with e; omega)).ext (w' := w1.alloc (.cells #[.int .i64 y, .int .i64 0, .int .i64 0] 29)) (by repeat (first | with_reducible exact Ext.refl _ | with_reducible assumption | with_reducible refine Ext.alloc ?_ _ | with_reducible refine Ext.drew ?_ | (with_reducible refine Ext.setAt ?_ _ _ _ ?_; rotate_left; omega) | with_reducible refine Ext.trans ?_ (by assumption) | with_reducible exact Past.bel _ | with_reducible refine Ext.trans ?_ (Past.bel _)))
  have E2 := Blk.new w1 #[.int .i64 y, .int .i64 0, .int .i64 0] 29
  have p2 := CV2.p
  have g0 := p2.lt
  have p1 := p2.c1
  dsimp only
  rw [← hy]
  clear RS0 RS1 CV1 D0 LB hs1 hg1 hd hv hy p2
  have hl : (0 : Int) ≤ (M.length : Int) := by omega
  go_wp2_with fail
  have hl2 : (calOf M R).n = M.length := rfl
  refine (pick_c g a n c f (K + 2) ((calOf M R).n : Int) _ hn (by omega) RS2.src).mono ?_
  rintro e w2 ⟨x, rfl, x0, x0', x1, hs2, hg2⟩
  obtain ⟨k, rfl⟩ := Int.eq_ofNat_of_zero_le x0
  have hk : k < M.length := by omega
  have e3 := IntWalk.i64_in (1 + (k : Int)) (by omega)
  have x7 : 1 + (k : Int) - 1 = (k : Int) := by omega
  have RS3 := RS2.drawn hs2 hg2
  have CV3 := CV2.drawn hg2
  have hgw := RS2.low
  have D3 := D2.grown hg2 (fun e => by injection e with e; omega)
  have E3 := E2.grown hg2 (fun e => by injection e with e; omega)
  have z2 := hg2.size
  simp only [World.size_alloc] at z2
  have RS4 := RS3.put (b := w1.heap.size) (by omega) 1 (.int .i64 (1 + (k : Int)))
  have D4 := D3.other w1.heap.size 1 (.int .i64 (1 + (k : Int))) (by omega)
  have E4 : Blk (w2.setCell ⟨w1.heap.size, 1, none⟩ (.int .i64 (1 + (k : Int)))) w1.heap.size 29 #[.int .i64 y, .int .i64 (1 + (k : Int)), .int .i64 0] := E3.set 1 _
  have CV4 : Cv (w2.setCell ⟨w1.heap.size, 1, none⟩ (.int .i64 (1 + (k : Int)))) g gc B M R nm wk a1 c1 a2 c2 := CV3.far hgcw hBw hBw2 _ _
  have q0 : w2.cell? ⟨w1.heap.size, 0, none⟩ = some (.int .i64 y) := E3.cell 0
  have q1 : w2.cell? ⟨w1.heap.size, 1, none⟩ = some (.int .i64 0) := E3.cell 1
  have f1 := E3.frozen 1
  have l1 := E3.lt
  clear RS2 RS3 CV2 CV3 D2 D3 E2 E3 hs2 hg2 g0 p1
  go_wp2_with fail
  generalize hX : w2.setCell ⟨w1.heap.size, 1, none⟩ (.int .i64 (1 + (k : Int))) = X at RS4 D4 E4 CV4 ⊢
  clear hX q0 q1 f1 l1
  refine (l15Days_c gc nm a1 a2 c1 c2 wk (nmOf M) (calOf M R) y k X b CV4.p hyb.1 (by omega) hk).mono ?_
  rintro e w3 ⟨rfl, hx3⟩
  obtain ⟨mo, hmo⟩ : ∃ mo, mo = (calOf M R).mo y k := ⟨_, rfl⟩
  have hmb := b.mo y hk
  rw [← hmo] at hmb
  rw [← hmo]
  have HMO := Lib.hid hmo
  clear hmo x7 hl2
  have RS5 := RS4.ext hx3
  have D5 := D4.ext hx3
  have E5 := E4.ext hx3
  clear RS4 D4 E4 CV4 hx3
  go_wp2_with fail
  refine (pick_c g a n c f (K + 2 + 2) mo _ hn (by omega) RS5.src).mono ?_
  rintro e w4 ⟨d, rfl, d0, d0', d1', hs4, hg4⟩
  have e4 := IntWalk.i64_in (1 + d) (by omega)
  have RS6 := RS5.drawn hs4 hg4
  have D6 := D5.grown hg4 (fun e => by injection e with e; omega)
  have E6 := E5.grown hg4 (fun e => by injection e with e; omega)
  have RS7 := RS6.put (b := w1.heap.size) (by omega) 2 (.int .i64 (1 + d))
  have D7 := D6.other w1.heap.size 2 (.int .i64 (1 + d)) (by omega)
  have E7 : Blk (w4.setCell ⟨w1.heap.size, 2, none⟩ (.int .i64 (1 + d))) w1.heap.size 29 #[.int .i64 y, .int .i64 (1 + (k : Int)), .int .i64 (1 + d)] := E6.set 2 _
  have q2 : w4.cell? ⟨w1.heap.size, 2, none⟩ = some (.int .i64 0) := E6.cell 2
  have f2 := E6.frozen 2
  have l2 := E6.lt
  clear RS5 RS6 D5 D6 E5 E6 hs4 hg4
  go_wp2_with fail
  generalize hX : w4.setCell ⟨w1.heap.size, 2, none⟩ (.int .i64 (1 + d)) = X at RS7 D7 E7 ⊢
  clear hX q2 f2 l2
  refine (one_c g a n c f (K + 2 + 2 + 2) 3 _ hn (by omega) RS7.src).mono ?_
  rintro e w5 ⟨bb, rfl, hs5, hg5⟩
  have RS8 := Lib.hid (RS7.drawn hs5 hg5)
  have D8 := D7.grown hg5 (fun e => by injection e with e; omega)
  have E8 := E7.grown hg5 (fun e => by injection e with e; omega)
  have n3 : ¬ w.heap.size = w1.heap.size := by omega
  have n4 : ¬ w1.heap.size = w.heap.size := by omega
  have l8 := E8.lt
  have q0 : w5.cell? ⟨w1.heap.size, 0, none⟩ = some (.int .i64 y) := E8.cell 0
  have q1 : w5.cell? ⟨w1.heap.size, 1, none⟩ = some (.int .i64 (1 + (k : Int))) := E8.cell 1
  have q2 : w5.cell? ⟨w1.heap.size, 2, none⟩ = some (.int .i64 (1 + d)) := E8.cell 2
  have f2 := E8.frozen 2
  have d1 := D8.lt
  have d2 : w5.cell? ⟨w.heap.size, 0, none⟩ = some (.int .i64 0) := D8.cell 0
  have d3 : w5.cell? ⟨w.heap.size, 1, none⟩ = some (.int .i64 0) := D8.cell 1
  have d4 : w5.cell? ⟨w.heap.size, 2, none⟩ = some (.int .i64 0) := D8.cell 2
  have d5 := D8.frozen 0
  have d6 := D8.frozen 1
  have d7 := D8.frozen 2
  clear RS7 D7 E7 D8 E8 hs5 hg5
  cases bb
  · skip
    go_wp2_with fail
    refine bodyPost_ret (v := .agg #[.int .i64 y, .int .i64 (1 + (k : Int)), .int .i64 (1 + d)]) (by simp [results, Tryz.results30, go_sem, d1, d2, d3, d4, q0, q1, q2, n3, n4]) rfl ⟨y, 1 + (k : Int), 1 + d, rfl, ?_, ?_⟩
    · rw [dtB, inB_t.2 ⟨hyb.1, hyb.2⟩, inB_t.2 ⟨by omega, by have h9 : ((calOf M R).n : Int) = (M.length : Int) := rfl; omega⟩, show (1 + (k : Int) - 1).toNat = k by omega, inB_t.2 ⟨by omega, by rw [← HMO.out]; omega⟩]; rfl
    · exact (((RS8.out.put (b := w.heap.size) (by omega) _ _).put (b := w.heap.size) (by omega) _ _).put (b := w.heap.size) (by omega) _ _).gr
  · skip
    go_wp2_with fail
    refine bodyPost_ret (v := .agg #[.int .i64 y, .int .i64 (1 + (k : Int)), .int .i64 (mo)]) (by simp [results, Tryz.results30, go_sem, d1, d2, d3, d4, q0, q1, q2, n3, n4]) rfl ⟨y, 1 + (k : Int), mo, rfl, ?_, ?_⟩
    · rw [dtB, inB_t.2 ⟨hyb.1, hyb.2⟩, inB_t.2 ⟨by omega, by have h9 : ((calOf M R).n : Int) = (M.length : Int) := rfl; omega⟩, show (1 + (k : Int) - 1).toNat = k by omega, inB_t.2 ⟨by omega, by rw [← HMO.out]; omega⟩]; rfl
    · exact ((((RS8.out.put (b := w1.heap.size) (by omega) _ _).put (b := w.heap.size) (by omega) _ _).put (b := w.heap.size) (by omega) _ _).put (b := w.heap.size) (by omega) _ _).gr
end Go.Proofs.YtpohhnihgegmfaaGreatDoor

namespace Go.Proofs.YtpohhnihgegmfaaGreatDoor
open Go.RowKit
set_option linter.unusedVariables false
set_option linter.unusedSimpArgs false

def postC (w : World) (e : Ending) (w' : World) : Prop :=
  ∃ (M : List Mo) (R : List Ru) (nm : ByteArray) (wk : Int) (a1 : Option Addr) (c1 : Nat) (a2 : Option Addr) (c2 : Nat), e = .returned (.agg #[.string nm, .slice a1 M.length c1, .slice a2 R.length c2, .int .i64 wk]) ∧ Ext w w' ∧
    w'.ownsRow w.heap.size 99 3 (.slice a1 M.length c1) M.length (MT M) ∧ w'.ownsRow w.heap.size 101 3 (.slice a2 R.length c2) R.length (RT R) ∧ calB nm (nmOf M) (calOf M R) wk = true
set_option maxRecDepth 100000 in
set_option maxHeartbeats 4000000 in
theorem a2Calendar_c (a : Option Addr) (n c : Nat) (f : Nat → Nat) (w : World) (hn : n ≤ 1048576) (hs : U8 w a n f) (hl : ∀ j, j < n → f j ≤ 255) :
    Calls Tryz.prog 17 #[.slice a n c] w (postC w) := by
  have x0 : Ext w (w.alloc (.cells #[.string ⟨#[]⟩, .slice none 0 0, .slice none 0 0, .int .i64 0] 27)) := (by repeat (first | with_reducible exact Ext.refl _ | with_reducible assumption | with_reducible refine Ext.alloc ?_ _ | with_reducible refine Ext.drew ?_ | (with_reducible refine Ext.setAt ?_ _ _ _ ?_; rotate_left; omega) | with_reducible refine Ext.trans ?_ (by assumption) | with_reducible exact Past.bel _ | with_reducible refine Ext.trans ?_ (Past.bel _)))
  have KB := Blk.new w #[.string ⟨#[]⟩, .slice none 0 0, .slice none 0 0, .int .i64 0] 27
  have hs0 := hs.ext x0
  go_enter Tryz.func17, Tryz.ntmps17
  go_wp2_with fail
  refine (l00From_c a n c f _ hs0 hl hs0.low').mono ?_
  rintro e w1 ⟨rfl, hd, hx1⟩
  have hgs : (w.alloc (.cells #[.string ⟨#[]⟩, .slice none 0 0, .slice none 0 0, .int .i64 0] 27)).heap.size < w1.heap.size := by obtain ⟨i, hh, hb, _⟩ := hd.blk; exact hb.lt
  have hcd : 0 < n → ∀ ad, a = some ad → ad.block < w1.heap.size := fun h0 ad e => by have := hs0.low' h0 ad e; have := hx1.size; omega
  have K1 := KB.ext hx1
  have e1 := Ext.trans x0 hx1
  simp only [World.size_alloc] at hd hgs
  clear KB hs0 hx1 hs
  go_wp2_with fail
  refine (l15Draw_c (w.heap.size + 1) a n c f 0 w1 hn (by omega) hd hgs hcd).mono ?_
  rintro e w2 ⟨M, R, nm, wk, a1, c1, a2, c2, rfl, rs, om, or, hok⟩
  have K2 := K1.grown rs.gr (fun e => by injection e with e; omega)
  have e2 : Ext w w2 := rs.toExt e1 (by omega)
  obtain ⟨k1, k2, k3, k4, k5, k6, k7, k8, k9⟩ := K2.cel
  have OM := Lib.hid om
  have OR := Lib.hid or
  have HOK := Lib.hid hok
  clear K1 K2 rs om or hok hd
  go_wp2_with fail
  refine bodyPost_ret (v := .agg #[.string nm, .slice a1 M.length c1, .slice a2 R.length c2, .int .i64 wk]) (by simp [results, Tryz.results17, go_sem, k2, k3, k4, k5]) rfl ⟨M, R, nm, wk, a1, c1, a2, c2, rfl, ?_, ?_, ?_, HOK.out⟩
  · exact Ext.setAt (Ext.setAt (Ext.setAt (Ext.setAt e2 _ _ _ (Nat.le_refl _)) _ _ _ (Nat.le_refl _)) _ _ _ (Nat.le_refl _)) _ _ _ (Nat.le_refl _)
  · exact own_base (own_four OM.out (by omega) _ _ _ _) (by omega)
  · exact own_base (own_four OR.out (by omega) _ _ _ _) (by omega)
def postD (w : World) (e : Ending) (w' : World) : Prop :=
  ∃ (M : List Mo) (R : List Ru) (nm : ByteArray) (wk : Int) (a1 : Option Addr) (c1 : Nat) (a2 : Option Addr) (c2 : Nat) (y m d : Int), e = .returned (.tuple #[.agg #[.string nm, .slice a1 M.length c1, .slice a2 R.length c2, .int .i64 wk], .agg #[.int .i64 y, .int .i64 m, .int .i64 d]]) ∧ Ext w w' ∧
    w'.ownsRow w.heap.size 99 3 (.slice a1 M.length c1) M.length (MT M) ∧ w'.ownsRow w.heap.size 101 3 (.slice a2 R.length c2) R.length (RT R) ∧ calB nm (nmOf M) (calOf M R) wk = true ∧ dtB (calOf M R) y m d = true
/-- what a cell holds, whatever it is -/
def cellV (w : World) (b o : Nat) : Value := (w.cell? ⟨b, o, none⟩).getD undef
theorem cellV_blk {w : World} {b : Nat} {T : TypeId} {cur : Array Value} (h : Blk w b T cur) {o : Nat} (ho : o < cur.size) : w.cell? ⟨b, o, none⟩ = some (cellV w b o) ∧ w.frozen? ⟨b, o, none⟩ = false := by
  have e : w.cell? ⟨b, o, none⟩ = some cur[o] := by rw [h.cell]; exact Array.getElem?_eq_getElem ho
  exact ⟨by rw [cellV, e]; rfl, h.frozen o⟩
/-- what the last region of A2Day keeps -/
structure Ra (w0 w : World) (g t2 t3 t5 B : Nat) (M : List Mo) (R : List Ru) (nm : ByteArray) (wk : Int) (a1 : Option Addr) (c1 : Nat) (a2 : Option Addr) (c2 : Nat) : Prop where
  cv : Cv w g t5 B M R nm wk a1 c1 a2 c2
  b2 : ∃ cur, cur.size = 4 ∧ Blk w t2 27 cur
  b3 : ∃ cur, cur.size = 3 ∧ Blk w t3 29 cur
  ex : Ext w0 w
  n2 : t2 ≠ g
  n3 : t3 ≠ g
  n23 : t2 ≠ t3
  lg : w0.heap.size ≤ g
  l2 : w0.heap.size ≤ t2
  l3 : w0.heap.size ≤ t3
  m2 : t2 < B ∧ t5 ≠ t2
  m3 : t3 < B ∧ t5 ≠ t3
section
variable {w0 w w1 : World} {g t2 t3 t5 B : Nat} {M : List Mo} {R : List Ru} {nm : ByteArray} {wk : Int} {a1 : Option Addr} {c1 : Nat} {a2 : Option Addr} {c2 : Nat}
theorem Ra.drawn (h : Ra w0 w g t2 t3 t5 B M R nm wk a1 c1 a2 c2) (hx : w.grownBy w1 (some g)) : Ra w0 w1 g t2 t3 t5 B M R nm wk a1 c1 a2 c2 := by
  obtain ⟨u, hu, hb2⟩ := h.b2
  obtain ⟨v, hv, hb3⟩ := h.b3
  exact { h with cv := h.cv.drawn hx, b2 := ⟨u, hu, hb2.grown hx (fun e => h.n2 (by injection e))⟩, b3 := ⟨v, hv, hb3.grown hx (fun e => h.n3 (by injection e))⟩, ex := h.ex.grown hx (fun k hk => by injection hk with hk; have := h.lg; omega) }
theorem Ra.ext (h : Ra w0 w g t2 t3 t5 B M R nm wk a1 c1 a2 c2) (hx : Ext w w1) : Ra w0 w1 g t2 t3 t5 B M R nm wk a1 c1 a2 c2 := by
  obtain ⟨u, hu, hb2⟩ := h.b2
  obtain ⟨v, hv, hb3⟩ := h.b3
  exact { h with cv := h.cv.ext hx, b2 := ⟨u, hu, hb2.ext hx⟩, b3 := ⟨v, hv, hb3.ext hx⟩, ex := Ext.trans h.ex hx }
theorem Ra.drew (h : Ra w0 w g t2 t3 t5 B M R nm wk a1 c1 a2 c2) : Ra w0 w.drew g t2 t3 t5 B M R nm wk a1 c1 a2 c2 := h.ext ((Ext.refl _).drew)
theorem Ra.set2 (h : Ra w0 w g t2 t3 t5 B M R nm wk a1 c1 a2 c2) (i : Nat) (x : Value) : Ra w0 (w.setCell ⟨t2, i, none⟩ x) g t2 t3 t5 B M R nm wk a1 c1 a2 c2 := by
  obtain ⟨u, hu, hb2⟩ := h.b2
  obtain ⟨v, hv, hb3⟩ := h.b3
  exact { h with cv := ⟨h.cv.cal.other _ _ _ h.m2.2, own_low h.cv.om h.m2.1 _ _, own_low h.cv.or h.m2.1 _ _, h.cv.ng, h.cv.lb⟩, b2 := ⟨_, by simpa using hu, hb2.set i x⟩, b3 := ⟨v, hv, hb3.other _ _ _ (fun e => h.n23 e.symm)⟩, ex := Ext.setAt h.ex _ _ _ h.l2 }
theorem Ra.set3 (h : Ra w0 w g t2 t3 t5 B M R nm wk a1 c1 a2 c2) (i : Nat) (x : Value) : Ra w0 (w.setCell ⟨t3, i, none⟩ x) g t2 t3 t5 B M R nm wk a1 c1 a2 c2 := by
  obtain ⟨u, hu, hb2⟩ := h.b2
  obtain ⟨v, hv, hb3⟩ := h.b3
  exact { h with cv := ⟨h.cv.cal.other _ _ _ h.m3.2, own_low h.cv.om h.m3.1 _ _, own_low h.cv.or h.m3.1 _ _, h.cv.ng, h.cv.lb⟩, b2 := ⟨u, hu, hb2.other _ _ _ h.n23⟩, b3 := ⟨_, by simpa using hv, hb3.set i x⟩, ex := Ext.setAt h.ex _ _ _ h.l3 }
end
set_option maxRecDepth 100000 in
set_option maxHeartbeats 4000000 in
theorem a2Day_c (a : Option Addr) (n c : Nat) (f : Nat → Nat) (w : World) (hn : n ≤ 1048576) (hs : U8 w a n f) (hl : ∀ j, j < n → f j ≤ 255) :
    Calls Tryz.prog 6 #[.slice a n c] w (postD w) := by
  obtain ⟨W1, hW1⟩ : ∃ W1, W1 = (w.alloc (.cells #[.string ⟨#[]⟩, .slice none 0 0, .slice none 0 0, .int .i64 0] 27)).alloc (.cells #[.int .i64 0, .int .i64 0, .int .i64 0] 29) := ⟨_, rfl⟩
  have x0 : Ext w W1 := by rw [hW1]; exact (by repeat (first | with_reducible exact Ext.refl _ | with_reducible assumption | with_reducible refine Ext.alloc ?_ _ | with_reducible refine Ext.drew ?_ | (with_reducible refine Ext.setAt ?_ _ _ _ ?_; rotate_left; omega) | with_reducible refine Ext.trans ?_ (by assumption) | with_reducible exact Past.bel _ | with_reducible refine Ext.trans ?_ (Past.bel _)))
  have KB : Blk W1 w.heap.size 27 #[.string ⟨#[]⟩, .slice none 0 0, .slice none 0 0, .int .i64 0] := by rw [hW1]; exact (Blk.new _ _ _).ext (by repeat (first | with_reducible exact Ext.refl _ | with_reducible assumption | with_reducible refine Ext.alloc ?_ _ | with_reducible refine Ext.drew ?_ | (with_reducible refine Ext.setAt ?_ _ _ _ ?_; rotate_left; omega) | with_reducible refine Ext.trans ?_ (by assumption) | with_reducible exact Past.bel _ | with_reducible refine Ext.trans ?_ (Past.bel _)))
  have DB : Blk W1 (w.heap.size + 1) 29 #[.int .i64 0, .int .i64 0, .int .i64 0] := by rw [hW1]; exact two_cells' _ _ _ _ _
  have hz1 : W1.heap.size = w.heap.size + 1 + 1 := by rw [hW1]; simp
  have hs0 := hs.ext x0
  go_enter Tryz.func6, Tryz.ntmps6
  go_wp2_with fail
  rw [← hW1]
  clear hW1
  refine (l00From_c a n c f _ hs0 hl hs0.low').mono ?_
  rintro e w1 ⟨rfl, hd, hx1⟩
  have hgs : W1.heap.size < w1.heap.size := by obtain ⟨i, hh, hb, _⟩ := hd.blk; exact hb.lt
  have hcd : 0 < n → ∀ ad, a = some ad → ad.block < w1.heap.size := fun h0 ad e => by have := hs0.low' h0 ad e; have := hx1.size; omega
  have K1 := KB.ext hx1
  have D1 := DB.ext hx1
  have e1 := Ext.trans x0 hx1
  rw [hz1] at hd hgs
  clear KB DB hs0 hx1 hs x0
  go_wp2_with fail
  refine (l15Draw_c (w.heap.size + 1 + 1) a n c f 0 w1 hn (by omega) hd hgs hcd).mono ?_
  rintro e w2 ⟨M, R, nm, wk, a1, c1, a2, c2, rfl, rs, om, or, hok⟩
  have K2 := (K1.grown rs.gr (fun e => by injection e with e; omega)).ext (w' := w2.alloc (.cells #[.string nm, .slice a1 M.length c1, .slice a2 R.length c2, .int .i64 wk] 27)) (by repeat (first | with_reducible exact Ext.refl _ | with_reducible assumption | with_reducible refine Ext.alloc ?_ _ | with_reducible refine Ext.drew ?_ | (with_reducible refine Ext.setAt ?_ _ _ _ ?_; rotate_left; omega) | with_reducible refine Ext.trans ?_ (by assumption) | with_reducible exact Past.bel _ | with_reducible refine Ext.trans ?_ (Past.bel _)))
  have D2 := (D1.grown rs.gr (fun e => by injection e with e; omega)).ext (w' := w2.alloc (.cells #[.string nm, .slice a1 M.length c1, .slice a2 R.length c2, .int .i64 wk] 27)) (by repeat (first | with_reducible exact Ext.refl _ | with_reducible assumption | with_reducible refine Ext.alloc ?_ _ | with_reducible refine Ext.drew ?_ | (with_reducible refine Ext.setAt ?_ _ _ _ ?_; rotate_left; omega) | with_reducible refine Ext.trans ?_ (by assumption) | with_reducible exact Past.bel _ | with_reducible refine Ext.trans ?_ (Past.bel _)))
  have C2 := Blk.new w2 #[.string nm, .slice a1 M.length c1, .slice a2 R.length c2, .int .i64 wk] 27
  have z2 := rs.gr.size
  have e2 : Ext w (w2.alloc (.cells #[.string nm, .slice a1 M.length c1, .slice a2 R.length c2, .int .i64 wk] 27)) := Ext.alloc (rs.toExt e1 (by omega)) _
  have RS := Lib.hid (rs.ext (w1 := w2.alloc (.cells #[.string nm, .slice a1 M.length c1, .slice a2 R.length c2, .int .i64 wk] 27)) (by repeat (first | with_reducible exact Ext.refl _ | with_reducible assumption | with_reducible refine Ext.alloc ?_ _ | with_reducible refine Ext.drew ?_ | (with_reducible refine Ext.setAt ?_ _ _ _ ?_; rotate_left; omega) | with_reducible refine Ext.trans ?_ (by assumption) | with_reducible exact Past.bel _ | with_reducible refine Ext.trans ?_ (Past.bel _))))
  have OM := Lib.hid (own_ext (w' := w2.alloc (.cells #[.string nm, .slice a1 M.length c1, .slice a2 R.length c2, .int .i64 wk] 27)) om (by repeat (first | with_reducible exact Ext.refl _ | with_reducible assumption | with_reducible refine Ext.alloc ?_ _ | with_reducible refine Ext.drew ?_ | (with_reducible refine Ext.setAt ?_ _ _ _ ?_; rotate_left; omega) | with_reducible refine Ext.trans ?_ (by assumption) | with_reducible exact Past.bel _ | with_reducible refine Ext.trans ?_ (Past.bel _))))
  have OR := Lib.hid (own_ext (w' := w2.alloc (.cells #[.string nm, .slice a1 M.length c1, .slice a2 R.length c2, .int .i64 wk] 27)) or (by repeat (first | with_reducible exact Ext.refl _ | with_reducible assumption | with_reducible refine Ext.alloc ?_ _ | with_reducible refine Ext.drew ?_ | (with_reducible refine Ext.setAt ?_ _ _ _ ?_; rotate_left; omega) | with_reducible refine Ext.trans ?_ (by assumption) | with_reducible exact Past.bel _ | with_reducible refine Ext.trans ?_ (Past.bel _))))
  have HOK := Lib.hid hok
  have RA0 := Lib.hid (show Ra w (w2.alloc (.cells #[.string nm, .slice a1 M.length c1, .slice a2 R.length c2, .int .i64 wk] 27)) (w.heap.size + 1 + 1) w.heap.size (w.heap.size + 1) w2.heap.size w1.heap.size M R nm wk a1 c1 a2 c2 from
    { cv := ⟨C2, OM.out, OR.out, by omega, by omega⟩, b2 := ⟨_, (by rfl), K2⟩, b3 := ⟨_, (by rfl), D2⟩, ex := e2, n2 := by omega, n3 := by omega, n23 := by omega, lg := by omega, l2 := by omega, l3 := by omega, m2 := by omega, m3 := by omega })
  have RS3 := Lib.hid (show ∀ w', Ra w w' (w.heap.size + 1 + 1) w.heap.size (w.heap.size + 1) w2.heap.size w1.heap.size M R nm wk a1 c1 a2 c2 → ((w'.cell? ⟨w2.heap.size, 0, none⟩ = some (.string nm) ∧ w'.cell? ⟨w2.heap.size, 1, none⟩ = some (.slice a1 M.length c1) ∧ w'.cell? ⟨w2.heap.size, 2, none⟩ = some (.slice a2 R.length c2) ∧ w'.cell? ⟨w2.heap.size, 3, none⟩ = some (.int .i64 wk)) ∧
      ((w'.cell? ⟨w.heap.size, 0, none⟩ = some (cellV w' w.heap.size 0) ∧ w'.frozen? ⟨w.heap.size, 0, none⟩ = false) ∧ (w'.cell? ⟨w.heap.size, 1, none⟩ = some (cellV w' w.heap.size 1) ∧ w'.frozen? ⟨w.heap.size, 1, none⟩ = false) ∧ (w'.cell? ⟨w.heap.size, 2, none⟩ = some (cellV w' w.heap.size 2) ∧ w'.frozen? ⟨w.heap.size, 2, none⟩ = false) ∧ (w'.cell? ⟨w.heap.size, 3, none⟩ = some (cellV w' w.heap.size 3) ∧ w'.frozen? ⟨w.heap.size, 3, none⟩ = false)) ∧
      ((w'.cell? ⟨w.heap.size + 1, 0, none⟩ = some (cellV w' (w.heap.size + 1) 0) ∧ w'.frozen? ⟨w.heap.size + 1, 0, none⟩ = false) ∧ (w'.cell? ⟨w.heap.size + 1, 1, none⟩ = some (cellV w' (w.heap.size + 1) 1) ∧ w'.frozen? ⟨w.heap.size + 1, 1, none⟩ = false) ∧ (w'.cell? ⟨w.heap.size + 1, 2, none⟩ = some (cellV w' (w.heap.size + 1) 2) ∧ w'.frozen? ⟨w.heap.size + 1, 2, none⟩ = false))) from fun w' h => by
    obtain ⟨u, hu, hb2⟩ := h.b2
    obtain ⟨v, hv, hb3⟩ := h.b3
    have k := h.cv.cal
    exact ⟨⟨k.cell 0, k.cell 1, k.cell 2, k.cell 3⟩, ⟨cellV_blk hb2 (by omega), cellV_blk hb2 (by omega), cellV_blk hb2 (by omega), cellV_blk hb2 (by omega)⟩, cellV_blk hb3 (by omega), cellV_blk hb3 (by omega), cellV_blk hb3 (by omega)⟩)
  have n1 : ¬ w2.heap.size = w.heap.size := by omega
  have n2 : ¬ w2.heap.size = w.heap.size + 1 := by omega
  clear K1 K2 D1 D2 C2 rs om or hok hd e1 e2
  go_wp2_with fail
  go_region_held3 (fun w' => ((w'.cell? ⟨w2.heap.size, 0, none⟩ = some (.string nm) ∧ w'.cell? ⟨w2.heap.size, 1, none⟩ = some (.slice a1 M.length c1) ∧ w'.cell? ⟨w2.heap.size, 2, none⟩ = some (.slice a2 R.length c2) ∧ w'.cell? ⟨w2.heap.size, 3, none⟩ = some (.int .i64 wk)) ∧
      ((w'.cell? ⟨w.heap.size, 0, none⟩ = some (cellV w' w.heap.size 0) ∧ w'.frozen? ⟨w.heap.size, 0, none⟩ = false) ∧ (w'.cell? ⟨w.heap.size, 1, none⟩ = some (cellV w' w.heap.size 1) ∧ w'.frozen? ⟨w.heap.size, 1, none⟩ = false) ∧ (w'.cell? ⟨w.heap.size, 2, none⟩ = some (cellV w' w.heap.size 2) ∧ w'.frozen? ⟨w.heap.size, 2, none⟩ = false) ∧ (w'.cell? ⟨w.heap.size, 3, none⟩ = some (cellV w' w.heap.size 3) ∧ w'.frozen? ⟨w.heap.size, 3, none⟩ = false)) ∧
      ((w'.cell? ⟨w.heap.size + 1, 0, none⟩ = some (cellV w' (w.heap.size + 1) 0) ∧ w'.frozen? ⟨w.heap.size + 1, 0, none⟩ = false) ∧ (w'.cell? ⟨w.heap.size + 1, 1, none⟩ = some (cellV w' (w.heap.size + 1) 1) ∧ w'.frozen? ⟨w.heap.size + 1, 1, none⟩ = false) ∧ (w'.cell? ⟨w.heap.size + 1, 2, none⟩ = some (cellV w' (w.heap.size + 1) 2) ∧ w'.frozen? ⟨w.heap.size + 1, 2, none⟩ = false))))
    (exact RS3.out _ (by repeat (first | with_reducible exact RA0.out | with_reducible exact RC.out | with_reducible refine Ra.drew ?_ | with_reducible refine Ra.set2 ?_ _ _ | with_reducible refine Ra.set3 ?_ _ _)))
    ((go_at_call 30; ((with_reducible refine (l16Draw_c (w.heap.size + 1 + 1) w2.heap.size w1.heap.size a n c f _ M R nm wk a1 c1 a2 c2 _ hn (by omega) (RS.out.ext (by repeat (first | with_reducible exact Ext.refl _ | with_reducible assumption | with_reducible refine Ext.alloc ?_ _ | with_reducible refine Ext.drew ?_ | (with_reducible refine Ext.setAt ?_ _ _ _ ?_; rotate_left; omega) | with_reducible refine Ext.trans ?_ (by assumption) | with_reducible exact Past.bel _ | with_reducible refine Ext.trans ?_ (Past.bel _)))).src (Nat.lt_of_lt_of_le hgs (Nat.le_trans z2 (Ext.size (w := w2) (by repeat (first | with_reducible exact Ext.refl _ | with_reducible assumption | with_reducible refine Ext.alloc ?_ _ | with_reducible refine Ext.drew ?_ | (with_reducible refine Ext.setAt ?_ _ _ _ ?_; rotate_left; omega) | with_reducible refine Ext.trans ?_ (by assumption) | with_reducible exact Past.bel _ | with_reducible refine Ext.trans ?_ (Past.bel _)))))) (fun h0 ad e => Nat.lt_of_lt_of_le (hcd h0 ad e) (Nat.le_trans z2 (Ext.size (w := w2) (by repeat (first | with_reducible exact Ext.refl _ | with_reducible assumption | with_reducible refine Ext.alloc ?_ _ | with_reducible refine Ext.drew ?_ | (with_reducible refine Ext.setAt ?_ _ _ _ ?_; rotate_left; omega) | with_reducible refine Ext.trans ?_ (by assumption) | with_reducible exact Past.bel _ | with_reducible refine Ext.trans ?_ (Past.bel _)))))) (RA0.out.ext (by repeat (first | with_reducible exact Ext.refl _ | with_reducible assumption | with_reducible refine Ext.alloc ?_ _ | with_reducible refine Ext.drew ?_ | (with_reducible refine Ext.setAt ?_ _ _ _ ?_; rotate_left; omega) | with_reducible refine Ext.trans ?_ (by assumption) | with_reducible exact Past.bel _ | with_reducible refine Ext.trans ?_ (Past.bel _)))).cv HOK.out).mono ?_); rintro e wC ⟨y, m, d, rfl, hdt, hxC⟩; have RC := Lib.hid ((RA0.out.ext (by repeat (first | with_reducible exact Ext.refl _ | with_reducible assumption | with_reducible refine Ext.alloc ?_ _ | with_reducible refine Ext.drew ?_ | (with_reducible refine Ext.setAt ?_ _ _ _ ?_; rotate_left; omega) | with_reducible refine Ext.trans ?_ (by assumption) | with_reducible exact Past.bel _ | with_reducible refine Ext.trans ?_ (Past.bel _)))).drawn hxC); have HDT := Lib.hid hdt; clear hdt hxC)))
  all_goals
    have RF := Lib.hid (((((((RC.out.set2 0 (.string nm)).set2 1 (.slice a1 M.length c1)).set2 2 (.slice a2 R.length c2)).set2 3 (.int .i64 wk)).set3 0 (.int .i64 y)).set3 1 (.int .i64 m)).set3 2 (.int .i64 d))
    obtain ⟨-, ⟨⟨p0, -⟩, ⟨p1, -⟩, ⟨p2, -⟩, p3, -⟩, ⟨q0, -⟩, ⟨q1, -⟩, q2, -⟩ := RS3.out wC RC.out
    go_wp2_with fail
    exact bodyPost_ret (v := .tuple #[.agg #[.string nm, .slice a1 M.length c1, .slice a2 R.length c2, .int .i64 wk], .agg #[.int .i64 y, .int .i64 m, .int .i64 d]]) (by simp [results, Tryz.results6, go_sem, p0, p1, p2, p3, q0, q1, q2]) rfl ⟨M, R, nm, wk, a1, c1, a2, c2, y, m, d, rfl, RF.out.ex, own_base RF.out.cv.om (by omega), own_base RF.out.cv.or (by omega), HOK.out, HDT.out⟩
end Go.Proofs.YtpohhnihgegmfaaGreatDoor

namespace Go.Proofs.YtpohhnihgegmfaaGreatDoor
open Go.RowKit
set_option linter.unusedVariables false
set_option linter.unusedSimpArgs false

theorem daysOfMonth_v {s : ByteArray} {ma ra : Option Addr} {mc rc : Nat} {wk : Int} {nm : Nat → ByteArray} {c : CalN} {w : World} (h : CalV w s ma ra mc rc nm c) (y : Int) {j : Nat} (hj : j < c.n) :
    Calls Tryz.prog 58 #[.agg #[.string s, .slice ma c.n mc, .slice ra c.nr rc, .int .i64 wk], .bool (c.leap y), .int .i64 ((j : Int) + 1)] w fun e w' => e = .returned (.int .i64 (c.mo y j)) ∧ Ext w w' :=
  daysOfMonth_c _ _ _ _ _ _ _ _ _ _ _ _ _ _ h.nb h.mem.mo hj
theorem l15Days_q {g : Nat} {s : ByteArray} {ma ra : Option Addr} {mc rc : Nat} {wk : Int} {nm : Nat → ByteArray} {c : CalN} {w : World} (b : CalB c) (h : CalQ w g s ma ra mc rc wk nm c) {y : Int} (hy : 0 ≤ y) (hy' : y ≤ 1000000000000) {j : Nat} (hj : j < c.n) :
    Calls Tryz.prog 67 #[.pointer (some ⟨g, 0, none⟩), .int .i64 y, .int .i64 (j : Nat)] w fun e w' => e = .returned (.int .i64 (c.mo y j)) ∧ Ext w w' :=
  l15Days_c _ _ _ _ _ _ _ nm c _ _ _ b h.p hy hy' hj
set_option maxHeartbeats 1000000 in
theorem implDaysInMonth_c {s : ByteArray} {ma ra : Option Addr} {mc rc : Nat} (wk : Int) {nm : Nat → ByteArray} {c : CalN} (y m : Int) {w : World} (h : CalV w s ma ra mc rc nm c) :
    Calls Tryz.prog 26 #[.agg #[.string s, .slice ma c.n mc, .slice ra c.nr rc, .int .i64 wk], .int .i64 y, .int .i64 m] w fun e w' => e = .returned (.tuple #[.int .i64 (ymV s nm c wk y m), .int .i64 (ymC s nm c wk y m)]) ∧ Ext w w' := by
  have H := Lib.hid h
  clear h
  cases h1 : calB s nm c wk
  · go_enter Tryz.func26, Tryz.ntmps26
    go_wp2_with (go_at_call 31; ((with_reducible refine (validCalendar_v wk (H.out.ext (by repeat (first | with_reducible exact Ext.refl _ | with_reducible assumption | with_reducible refine Ext.alloc ?_ _ | with_reducible refine Ext.drew ?_ | (with_reducible refine Ext.setAt ?_ _ _ _ ?_; rotate_left; omega) | with_reducible refine Ext.trans ?_ (by assumption) | with_reducible exact Past.bel _ | with_reducible refine Ext.trans ?_ (Past.bel _))))).mono ?_); rintro e w' ⟨rfl, hx⟩; (first | (obtain ⟨wx, rfl⟩ := Past.again hx) | (obtain ⟨wx, rfl⟩ := Past.ofd hx) | (obtain ⟨wx, rfl⟩ := Past.of hx))))
    go_ret2
    exact ⟨by simp [ymV, ymC, h1], (by repeat (first | with_reducible exact Ext.refl _ | with_reducible assumption | with_reducible refine Ext.alloc ?_ _ | with_reducible refine Ext.drew ?_ | (with_reducible refine Ext.setAt ?_ _ _ _ ?_; rotate_left; omega) | with_reducible refine Ext.trans ?_ (by assumption) | with_reducible exact Past.bel _ | with_reducible refine Ext.trans ?_ (Past.bel _)))⟩
  · have b := calB_b h1
    have B := Lib.hid b
    clear b
    cases h2 : inB y 0 9999
    · go_enter Tryz.func26, Tryz.ntmps26
      go_wp2_with (first | (go_at_call 31; ((with_reducible refine (validCalendar_v wk (H.out.ext (by repeat (first | with_reducible exact Ext.refl _ | with_reducible assumption | with_reducible refine Ext.alloc ?_ _ | with_reducible refine Ext.drew ?_ | (with_reducible refine Ext.setAt ?_ _ _ _ ?_; rotate_left; omega) | with_reducible refine Ext.trans ?_ (by assumption) | with_reducible exact Past.bel _ | with_reducible refine Ext.trans ?_ (Past.bel _))))).mono ?_); rintro e w' ⟨rfl, hx⟩; (first | (obtain ⟨wx, rfl⟩ := Past.again hx) | (obtain ⟨wx, rfl⟩ := Past.ofd hx) | (obtain ⟨wx, rfl⟩ := Past.of hx)))) | (go_at_call 39; ((with_reducible refine (isYear_c _ _).mono ?_); rintro e w' ⟨rfl, rfl⟩)))
      go_ret2
      exact ⟨by simp [ymV, ymC, h1, h2], (by repeat (first | with_reducible exact Ext.refl _ | with_reducible assumption | with_reducible refine Ext.alloc ?_ _ | with_reducible refine Ext.drew ?_ | (with_reducible refine Ext.setAt ?_ _ _ _ ?_; rotate_left; omega) | with_reducible refine Ext.trans ?_ (by assumption) | with_reducible exact Past.bel _ | with_reducible refine Ext.trans ?_ (Past.bel _)))⟩
    · have h2' := inB_t.1 h2
      cases h3 : inB m 1 (c.n : Int)
      · go_enter Tryz.func26, Tryz.ntmps26
        go_wp2_with (first | (go_at_call 31; ((with_reducible refine (validCalendar_v wk (H.out.ext (by repeat (first | with_reducible exact Ext.refl _ | with_reducible assumption | with_reducible refine Ext.alloc ?_ _ | with_reducible refine Ext.drew ?_ | (with_reducible refine Ext.setAt ?_ _ _ _ ?_; rotate_left; omega) | with_reducible refine Ext.trans ?_ (by assumption) | with_reducible exact Past.bel _ | with_reducible refine Ext.trans ?_ (Past.bel _))))).mono ?_); rintro e w' ⟨rfl, hx⟩; (first | (obtain ⟨wx, rfl⟩ := Past.again hx) | (obtain ⟨wx, rfl⟩ := Past.ofd hx) | (obtain ⟨wx, rfl⟩ := Past.of hx)))) | (go_at_call 39; ((with_reducible refine (isYear_c _ _).mono ?_); rintro e w' ⟨rfl, rfl⟩)) | (go_at_call 57; ((with_reducible refine (isMonth_c _ _ _ _ _ _ _ _ _ _).mono ?_); rintro e w' ⟨rfl, hx⟩; (first | (obtain ⟨wx, rfl⟩ := Past.again hx) | (obtain ⟨wx, rfl⟩ := Past.ofd hx) | (obtain ⟨wx, rfl⟩ := Past.of hx)))))
        go_ret2
        exact ⟨by simp [ymV, ymC, h1, h2, h3], (by repeat (first | with_reducible exact Ext.refl _ | with_reducible assumption | with_reducible refine Ext.alloc ?_ _ | with_reducible refine Ext.drew ?_ | (with_reducible refine Ext.setAt ?_ _ _ _ ?_; rotate_left; omega) | with_reducible refine Ext.trans ?_ (by assumption) | with_reducible exact Past.bel _ | with_reducible refine Ext.trans ?_ (Past.bel _)))⟩
      · obtain ⟨j, rfl, hj⟩ := mon_nat h3
        go_enter Tryz.func26, Tryz.ntmps26
        go_wp2_with (first | (go_at_call 31; ((with_reducible refine (validCalendar_v wk (H.out.ext (by repeat (first | with_reducible exact Ext.refl _ | with_reducible assumption | with_reducible refine Ext.alloc ?_ _ | with_reducible refine Ext.drew ?_ | (with_reducible refine Ext.setAt ?_ _ _ _ ?_; rotate_left; omega) | with_reducible refine Ext.trans ?_ (by assumption) | with_reducible exact Past.bel _ | with_reducible refine Ext.trans ?_ (Past.bel _))))).mono ?_); rintro e w' ⟨rfl, hx⟩; (first | (obtain ⟨wx, rfl⟩ := Past.again hx) | (obtain ⟨wx, rfl⟩ := Past.ofd hx) | (obtain ⟨wx, rfl⟩ := Past.of hx)))) | (go_at_call 39; ((with_reducible refine (isYear_c _ _).mono ?_); rintro e w' ⟨rfl, rfl⟩)) | (go_at_call 57; ((with_reducible refine (isMonth_c _ _ _ _ _ _ _ _ _ _).mono ?_); rintro e w' ⟨rfl, hx⟩; (first | (obtain ⟨wx, rfl⟩ := Past.again hx) | (obtain ⟨wx, rfl⟩ := Past.ofd hx) | (obtain ⟨wx, rfl⟩ := Past.of hx)))))
        refine wp_region_past (by kernel_rfl) (by kernel_rfl) ?_
        repeat (go_big_quiet_step (first | (go_at_call 56; exact Calls.past (isLeap_v B.out (H.out.ext (by repeat (first | with_reducible exact Ext.refl _ | with_reducible assumption | with_reducible refine Ext.alloc ?_ _ | with_reducible refine Ext.drew ?_ | (with_reducible refine Ext.setAt ?_ _ _ _ ?_; rotate_left; omega) | with_reducible refine Ext.trans ?_ (by assumption) | with_reducible exact Past.bel _ | with_reducible refine Ext.trans ?_ (Past.bel _)))) h2'.1 (by omega))) | (go_at_call 58; exact Calls.past (daysOfMonth_v (H.out.ext (by repeat (first | with_reducible exact Ext.refl _ | with_reducible assumption | with_reducible refine Ext.alloc ?_ _ | with_reducible refine Ext.drew ?_ | (with_reducible refine Ext.setAt ?_ _ _ _ ?_; rotate_left; omega) | with_reducible refine Ext.trans ?_ (by assumption) | with_reducible exact Past.bel _ | with_reducible refine Ext.trans ?_ (Past.bel _)))) y hj))))
        refine wpQuiet_nil ?_
        rintro _ ⟨wx, rfl⟩
        go_wp2_with fail
        go_ret2
        exact ⟨by simp [ymV, ymC, h1, h2, h3, succ_pred], (by repeat (first | with_reducible exact Ext.refl _ | with_reducible assumption | with_reducible refine Ext.alloc ?_ _ | with_reducible refine Ext.drew ?_ | (with_reducible refine Ext.setAt ?_ _ _ _ ?_; rotate_left; omega) | with_reducible refine Ext.trans ?_ (by assumption) | with_reducible exact Past.bel _ | with_reducible refine Ext.trans ?_ (Past.bel _)))⟩
end Go.Proofs.YtpohhnihgegmfaaGreatDoor

namespace Go.Proofs.YtpohhnihgegmfaaGreatDoor
open Go.RowKit
set_option linter.unusedVariables false
set_option linter.unusedSimpArgs false

theorem yearLengths_v {s : ByteArray} {ma ra : Option Addr} {mc rc : Nat} {wk : Int} {nm : Nat → ByteArray} {c : CalN} {w : World} (b : CalB c) (h : CalV w s ma ra mc rc nm c) :
    Calls Tryz.prog 59 #[.agg #[.string s, .slice ma c.n mc, .slice ra c.nr rc, .int .i64 wk]] w fun e w' => e = .returned (.tuple #[.int .i64 (sm c.dy c.n), .int .i64 (sm c.lp c.n)]) ∧ Ext w w' :=
  yearLengths_c _ _ _ _ _ _ _ _ nm _ _ _ h.nb h.mem.mo b.n20 (fun j hj => ⟨b.dy j hj, b.lp j hj⟩)
theorem yl_t {c : CalN} {y : Int} (h : c.leap y = true) : c.yl y = sm c.lp c.n := by rw [yl_if, h]; rfl
theorem yl_f {c : CalN} {y : Int} (h : c.leap y = false) : c.yl y = sm c.dy c.n := by rw [yl_if, h]; rfl
set_option maxHeartbeats 1000000 in
theorem implDaysInYear_c {s : ByteArray} {ma ra : Option Addr} {mc rc : Nat} (wk : Int) {nm : Nat → ByteArray} {c : CalN} (y : Int) {w : World} (h : CalV w s ma ra mc rc nm c) :
    Calls Tryz.prog 27 #[.agg #[.string s, .slice ma c.n mc, .slice ra c.nr rc, .int .i64 wk], .int .i64 y] w fun e w' => e = .returned (.tuple #[.int .i64 (yrV s nm c wk y), .int .i64 (yrC s nm c wk y)]) ∧ Ext w w' := by
  have H := Lib.hid h
  clear h
  cases h1 : calB s nm c wk
  · go_enter Tryz.func27, Tryz.ntmps27
    go_wp2_with (go_at_call 31; ((with_reducible refine (validCalendar_v wk (H.out.ext (by repeat (first | with_reducible exact Ext.refl _ | with_reducible assumption | with_reducible refine Ext.alloc ?_ _ | with_reducible refine Ext.drew ?_ | (with_reducible refine Ext.setAt ?_ _ _ _ ?_; rotate_left; omega) | with_reducible refine Ext.trans ?_ (by assumption) | with_reducible exact Past.bel _ | with_reducible refine Ext.trans ?_ (Past.bel _))))).mono ?_); rintro e w' ⟨rfl, hx⟩; (first | (obtain ⟨wx, rfl⟩ := Past.again hx) | (obtain ⟨wx, rfl⟩ := Past.ofd hx) | (obtain ⟨wx, rfl⟩ := Past.of hx))))
    go_ret2
    exact ⟨by simp [yrV, yrC, h1], (by repeat (first | with_reducible exact Ext.refl _ | with_reducible assumption | with_reducible refine Ext.alloc ?_ _ | with_reducible refine Ext.drew ?_ | (with_reducible refine Ext.setAt ?_ _ _ _ ?_; rotate_left; omega) | with_reducible refine Ext.trans ?_ (by assumption) | with_reducible exact Past.bel _ | with_reducible refine Ext.trans ?_ (Past.bel _)))⟩
  · have b := calB_b h1
    have B := Lib.hid b
    clear b
    cases h2 : inB y 0 9999
    · go_enter Tryz.func27, Tryz.ntmps27
      go_wp2_with (first | (go_at_call 31; ((with_reducible refine (validCalendar_v wk (H.out.ext (by repeat (first | with_reducible exact Ext.refl _ | with_reducible assumption | with_reducible refine Ext.alloc ?_ _ | with_reducible refine Ext.drew ?_ | (with_reducible refine Ext.setAt ?_ _ _ _ ?_; rotate_left; omega) | with_reducible refine Ext.trans ?_ (by assumption) | with_reducible exact Past.bel _ | with_reducible refine Ext.trans ?_ (Past.bel _))))).mono ?_); rintro e w' ⟨rfl, hx⟩; (first | (obtain ⟨wx, rfl⟩ := Past.again hx) | (obtain ⟨wx, rfl⟩ := Past.ofd hx) | (obtain ⟨wx, rfl⟩ := Past.of hx)))) | (go_at_call 39; ((with_reducible refine (isYear_c _ _).mono ?_); rintro e w' ⟨rfl, rfl⟩)))
      go_ret2
      exact ⟨by simp [yrV, yrC, h1, h2], (by repeat (first | with_reducible exact Ext.refl _ | with_reducible assumption | with_reducible refine Ext.alloc ?_ _ | with_reducible refine Ext.drew ?_ | (with_reducible refine Ext.setAt ?_ _ _ _ ?_; rotate_left; omega) | with_reducible refine Ext.trans ?_ (by assumption) | with_reducible exact Past.bel _ | with_reducible refine Ext.trans ?_ (Past.bel _)))⟩
    · have h2' := inB_t.1 h2
      cases h3 : c.leap y
      · go_enter Tryz.func27, Tryz.ntmps27
        go_wp2_with (first | (go_at_call 31; ((with_reducible refine (validCalendar_v wk (H.out.ext (by repeat (first | with_reducible exact Ext.refl _ | with_reducible assumption | with_reducible refine Ext.alloc ?_ _ | with_reducible refine Ext.drew ?_ | (with_reducible refine Ext.setAt ?_ _ _ _ ?_; rotate_left; omega) | with_reducible refine Ext.trans ?_ (by assumption) | with_reducible exact Past.bel _ | with_reducible refine Ext.trans ?_ (Past.bel _))))).mono ?_); rintro e w' ⟨rfl, hx⟩; (first | (obtain ⟨wx, rfl⟩ := Past.again hx) | (obtain ⟨wx, rfl⟩ := Past.ofd hx) | (obtain ⟨wx, rfl⟩ := Past.of hx)))) | (go_at_call 39; ((with_reducible refine (isYear_c _ _).mono ?_); rintro e w' ⟨rfl, rfl⟩)) | (go_at_call 59; ((with_reducible refine (yearLengths_v B.out (H.out.ext (by repeat (first | with_reducible exact Ext.refl _ | with_reducible assumption | with_reducible refine Ext.alloc ?_ _ | with_reducible refine Ext.drew ?_ | (with_reducible refine Ext.setAt ?_ _ _ _ ?_; rotate_left; omega) | with_reducible refine Ext.trans ?_ (by assumption) | with_reducible exact Past.bel _ | with_reducible refine Ext.trans ?_ (Past.bel _))))).mono ?_); rintro e w' ⟨rfl, hx⟩; (first | (obtain ⟨wx, rfl⟩ := Past.again hx) | (obtain ⟨wx, rfl⟩ := Past.ofd hx) | (obtain ⟨wx, rfl⟩ := Past.of hx)))) | (go_at_call 56; ((with_reducible refine (isLeap_v B.out (H.out.ext (by repeat (first | with_reducible exact Ext.refl _ | with_reducible assumption | with_reducible refine Ext.alloc ?_ _ | with_reducible refine Ext.drew ?_ | (with_reducible refine Ext.setAt ?_ _ _ _ ?_; rotate_left; omega) | with_reducible refine Ext.trans ?_ (by assumption) | with_reducible exact Past.bel _ | with_reducible refine Ext.trans ?_ (Past.bel _)))) h2'.1 (by omega)).mono ?_); rintro e w' ⟨rfl, hx⟩; (first | (obtain ⟨wx, rfl⟩ := Past.again hx) | (obtain ⟨wx, rfl⟩ := Past.ofd hx) | (obtain ⟨wx, rfl⟩ := Past.of hx)))))
        go_ret2
        exact ⟨by simp [yrV, yrC, h1, h2, yl_f h3], (by repeat (first | with_reducible exact Ext.refl _ | with_reducible assumption | with_reducible refine Ext.alloc ?_ _ | with_reducible refine Ext.drew ?_ | (with_reducible refine Ext.setAt ?_ _ _ _ ?_; rotate_left; omega) | with_reducible refine Ext.trans ?_ (by assumption) | with_reducible exact Past.bel _ | with_reducible refine Ext.trans ?_ (Past.bel _)))⟩
      · go_enter Tryz.func27, Tryz.ntmps27
        go_wp2_with (first | (go_at_call 31; ((with_reducible refine (validCalendar_v wk (H.out.ext (by repeat (first | with_reducible exact Ext.refl _ | with_reducible assumption | with_reducible refine Ext.alloc ?_ _ | with_reducible refine Ext.drew ?_ | (with_reducible refine Ext.setAt ?_ _ _ _ ?_; rotate_left; omega) | with_reducible refine Ext.trans ?_ (by assumption) | with_reducible exact Past.bel _ | with_reducible refine Ext.trans ?_ (Past.bel _))))).mono ?_); rintro e w' ⟨rfl, hx⟩; (first | (obtain ⟨wx, rfl⟩ := Past.again hx) | (obtain ⟨wx, rfl⟩ := Past.ofd hx) | (obtain ⟨wx, rfl⟩ := Past.of hx)))) | (go_at_call 39; ((with_reducible refine (isYear_c _ _).mono ?_); rintro e w' ⟨rfl, rfl⟩)) | (go_at_call 59; ((with_reducible refine (yearLengths_v B.out (H.out.ext (by repeat (first | with_reducible exact Ext.refl _ | with_reducible assumption | with_reducible refine Ext.alloc ?_ _ | with_reducible refine Ext.drew ?_ | (with_reducible refine Ext.setAt ?_ _ _ _ ?_; rotate_left; omega) | with_reducible refine Ext.trans ?_ (by assumption) | with_reducible exact Past.bel _ | with_reducible refine Ext.trans ?_ (Past.bel _))))).mono ?_); rintro e w' ⟨rfl, hx⟩; (first | (obtain ⟨wx, rfl⟩ := Past.again hx) | (obtain ⟨wx, rfl⟩ := Past.ofd hx) | (obtain ⟨wx, rfl⟩ := Past.of hx)))) | (go_at_call 56; ((with_reducible refine (isLeap_v B.out (H.out.ext (by repeat (first | with_reducible exact Ext.refl _ | with_reducible assumption | with_reducible refine Ext.alloc ?_ _ | with_reducible refine Ext.drew ?_ | (with_reducible refine Ext.setAt ?_ _ _ _ ?_; rotate_left; omega) | with_reducible refine Ext.trans ?_ (by assumption) | with_reducible exact Past.bel _ | with_reducible refine Ext.trans ?_ (Past.bel _)))) h2'.1 (by omega)).mono ?_); rintro e w' ⟨rfl, hx⟩; (first | (obtain ⟨wx, rfl⟩ := Past.again hx) | (obtain ⟨wx, rfl⟩ := Past.ofd hx) | (obtain ⟨wx, rfl⟩ := Past.of hx)))))
        go_ret2
        exact ⟨by simp [yrV, yrC, h1, h2, yl_t h3], (by repeat (first | with_reducible exact Ext.refl _ | with_reducible assumption | with_reducible refine Ext.alloc ?_ _ | with_reducible refine Ext.drew ?_ | (with_reducible refine Ext.setAt ?_ _ _ _ ?_; rotate_left; omega) | with_reducible refine Ext.trans ?_ (by assumption) | with_reducible exact Past.bel _ | with_reducible refine Ext.trans ?_ (Past.bel _)))⟩
end Go.Proofs.YtpohhnihgegmfaaGreatDoor
