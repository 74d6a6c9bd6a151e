/- Small general laws for the walks of this seat: worlds that only grow, regions that draw their order, slices of plain structs. No program in sight. -/
import Derived.WalkKit
import Derived.WalkSpells
import Derived.WalkLawsBesides
import Derived.Deep.QuietTactic
import Derived.BigQuiet
import Derived.Lib.Hide
namespace Go.Proofs.Ytaamnmpbkdinpaa
open Go.RowKit
set_option linter.unusedVariables false

/-- The world w' has all blocks of w as they were, and perhaps more. -/
def Ext (w w' : World) : Prop := Below w.heap.size w w'
theorem Ext.refl (w : World) : Ext w w := Below.refl _ w
theorem Ext.size {w w' : World} (h : Ext w w') : w.heap.size ≤ w'.heap.size := Below.size h
theorem Ext.trans {a b c : World} (h : Ext a b) (k : Ext b c) : Ext a c := Below.trans h (Below.mono k h.size)
theorem Ext.drew {a w : World} (h : Ext a w) : Ext a w.drew := Below.drew h
theorem Ext.alloc {a w : World} (h : Ext a w) (o : Obj) : Ext a (w.alloc o) := Below.alloc h h.size o
theorem Ext.setCell {a w : World} (h : Ext a w) {p : Addr} (hp : a.heap.size ≤ p.block) (u : Value) : Ext a (w.setCell p u) := Below.setCell h hp u
theorem Ext.setAt {a w : World} (h : Ext a w) (b o : Nat) (u : Value) (hb : a.heap.size ≤ b) : Ext a (w.setCell ⟨b, o, none⟩ u) := h.setCell hb u
theorem Ext.cell {w w' : World} (h : Ext w w') {b o : Nat} (hb : b < w.heap.size) : w'.cell? ⟨b, o, none⟩ = w.cell? ⟨b, o, none⟩ := Below.cell (p := ⟨b, o, none⟩) h hb
theorem Ext.block {w w' : World} (h : Ext w w') {b : Nat} (hb : b < w.heap.size) : w'.heap[b]? = w.heap[b]? := Below.block h b hb
theorem Ext.grown {a w w' : World} {row : Option Nat} (h : Ext a w) (hg : w.grownBy w' row) (hr : ∀ k, row = some k → a.heap.size ≤ k) : Ext a w' := Below.grown h hg h.size hr

/-- A world that has grown out of w: what a callee leaves of which only this is known. -/
structure Past (w : World) where
  out : World
  bel : Ext w out
instance {w : World} : Nonempty (Past w) := ⟨⟨w, Ext.refl w⟩⟩
@[go_sem] theorem Past.cell {w : World} (x : Past w) (b o : Nat) (h : b < w.heap.size) : x.out.cell? ⟨b, o, none⟩ = w.cell? ⟨b, o, none⟩ := x.bel.cell h
@[go_sem] theorem Past.frozen {w : World} (x : Past w) (b o : Nat) (h : b < w.heap.size) : x.out.frozen? ⟨b, o, none⟩ = w.frozen? ⟨b, o, none⟩ := Below.frozen (p := ⟨b, o, none⟩) x.bel h
theorem Past.size {w : World} (x : Past w) : w.heap.size ≤ x.out.heap.size := x.bel.size
@[go_sem] theorem Past.lt {w : World} (x : Past w) (b : Nat) (h : b < w.heap.size) : b < x.out.heap.size := Nat.lt_of_lt_of_le h x.bel.size
@[go_sem] theorem Past.le {w : World} (x : Past w) (b : Nat) (h : b ≤ w.heap.size) : b ≤ x.out.heap.size := Nat.le_trans h x.bel.size
theorem Past.of {w w' : World} (h : Ext w w') : ∃ x : Past w, w' = x.out := ⟨⟨w', h⟩, rfl⟩
theorem Past.ofd {w w' : World} (h : Ext w.drew w') : ∃ x : Past w, w' = x.out := ⟨⟨w', Ext.trans ((Ext.refl w).drew) h⟩, rfl⟩
theorem Past.again {w w' : World} {x : Past w} (h : Ext x.out w') : ∃ y : Past w, w' = y.out := ⟨⟨w', x.bel.trans h⟩, rfl⟩

/-- A region that draws its order, whose operations read and whose calls only make new memory: one walk in the order of the text. -/
theorem wp_region_past {P : Program} {id : Nat} {Q : Exit → Act → World → Prop} {a : Act} {w : World} {l : List Oper} (hm : P.follows .mixedOrders = true) (hB : Region.lexB .any l.toArray = true)
    (h : wpQuiet P l.toArray (fun w' => ∃ x : Past w, w' = x.out) (fun a' => ∀ w', (∃ x : Past w, w' = x.out) → Q .normal a' w') l a) : (Code.region id l.toArray true).wp P Q a w :=
  wp_region_quiet (C := fun w' => ∃ x : Past w, w' = x.out) hm hB ⟨⟨_, (Ext.refl w).drew⟩, rfl⟩ (by simpa using h)
theorem Calls.past {P : Program} {f : FuncId} {args : Array Value} {w : World} {x : Past w} {v : Value}
    (h : Calls P f args x.out fun e w' => e = .returned v ∧ Ext x.out w') : Calls P f args x.out fun e w'' => e = .returned v ∧ ∃ y : Past w, w'' = y.out :=
  h.mono fun _ w' ⟨he, m⟩ => ⟨he, ⟨w', x.bel.trans m⟩, rfl⟩
theorem Calls.past_same {P : Program} {f : FuncId} {args : Array Value} {w : World} {x : Past w} {v : Value}
    (h : Calls P f args x.out fun e w' => e = .returned v ∧ x.out = w') : Calls P f args x.out fun e w'' => e = .returned v ∧ ∃ y : Past w, w'' = y.out :=
  h.mono fun _ w' ⟨he, m⟩ => ⟨he, x, m.symm⟩

theorem ret_bool {a b : Bool} (h : a = b) : Ending.returned (.bool a) = .returned (.bool b) := by rw [h]
theorem ret_i64 {a b : Int} (h : a = b) : Ending.returned (.int .i64 a) = .returned (.int .i64 b) := by rw [h]
theorem ret_two {v v' u u' : Value} (h : v = v') (h' : u = u') : Ending.returned (.tuple #[v, u]) = .returned (.tuple #[v', u']) := by rw [h, h']

/-- A slice (of address 'a', with n elements of two integers each) reads as 'h', 'o' in the world w. -/
def S2 (w : World) (a : Option Addr) (n : Nat) (h o : Nat → Int) : Prop :=
  0 < n → ∃ b off, a = some ⟨b, off, none⟩ ∧ b < w.heap.size ∧ ∀ j, j < n → w.cell? ⟨b, off + j * 2, none⟩ = some (.int .i64 (h j)) ∧ w.cell? ⟨b, off + j * 2 + 1, none⟩ = some (.int .i64 (o j))
theorem S2.ext {w w' : World} {a : Option Addr} {n : Nat} {h o : Nat → Int} (s : S2 w a n h o) (e : Ext w w') : S2 w' a n h o := fun hn => by
  obtain ⟨b, off, ha, hb, hc⟩ := s hn
  exact ⟨b, off, ha, Nat.lt_of_lt_of_le hb e.size, fun j hj => by rw [e.cell hb, e.cell hb]; exact hc j hj⟩
/-- At a place j below n. -/
theorem S2.at {w : World} {a : Option Addr} {n : Nat} {h o : Nat → Int} (s : S2 w a n h o) {j : Nat} (hj : j < n) :
    ∃ b off, a = some ⟨b, off, none⟩ ∧ b < w.heap.size ∧ w.cell? ⟨b, off + j * 2, none⟩ = some (.int .i64 (h j)) ∧ w.cell? ⟨b, off + j * 2 + 1, none⟩ = some (.int .i64 (o j)) := by
  obtain ⟨b, off, ha, hb, hc⟩ := s (by omega)
  exact ⟨b, off, ha, hb, hc j hj⟩

/-- A slice (of address 'a', with n elements) of integers reads as 'f' in the world w. -/
def S1 (w : World) (a : Option Addr) (n : Nat) (f : Nat → Int) : Prop :=
  0 < n → ∃ b off, a = some ⟨b, off, none⟩ ∧ b < w.heap.size ∧ ∀ j, j < n → w.cell? ⟨b, off + j, none⟩ = some (.int .i64 (f j))
theorem S1.ext {w w' : World} {a : Option Addr} {n : Nat} {f : Nat → Int} (s : S1 w a n f) (e : Ext w w') : S1 w' a n f := fun hn => by
  obtain ⟨b, off, ha, hb, hc⟩ := s hn
  exact ⟨b, off, ha, Nat.lt_of_lt_of_le hb e.size, fun j hj => by rw [e.cell hb]; exact hc j hj⟩
theorem S1.at {w : World} {a : Option Addr} {n : Nat} {f : Nat → Int} (s : S1 w a n f) {j : Nat} (hj : j < n) :
    ∃ b off, a = some ⟨b, off, none⟩ ∧ b < w.heap.size ∧ w.cell? ⟨b, off + j, none⟩ = some (.int .i64 (f j)) := by
  obtain ⟨b, off, ha, hb, hc⟩ := s (by omega)
  exact ⟨b, off, ha, hb, hc j hj⟩

/-- Block g of the world w holds the cells 'cur', none of them frozen. -/
def Blk (w : World) (g : Nat) (T : TypeId) (cur : Array Value) : Prop := w.heap[g]? = some (.cells cur T (0, 0))
theorem Blk.lt {w : World} {g : Nat} {T : TypeId} {cur : Array Value} (h : Blk w g T cur) : g < w.heap.size := (Array.getElem?_eq_some_iff.1 h).1
theorem Blk.ext {w w' : World} {g : Nat} {T : TypeId} {cur : Array Value} (h : Blk w g T cur) (e : Ext w w') : Blk w' g T cur := (e.block h.lt).trans h
theorem Blk.cell {w : World} {g : Nat} {T : TypeId} {cur : Array Value} (h : Blk w g T cur) (j : Nat) : w.cell? ⟨g, j, none⟩ = cur[j]? := cell_of_row w g j cur T (0, 0) h
theorem Blk.frozen {w : World} {g : Nat} {T : TypeId} {cur : Array Value} (h : Blk w g T cur) (j : Nat) : w.frozen? ⟨g, j, none⟩ = false := frozen_of_row w g j cur T h
theorem Blk.set {w : World} {g : Nat} {T : TypeId} {cur : Array Value} (h : Blk w g T cur) (j : Nat) (u : Value) : Blk (w.setCell ⟨g, j, none⟩ u) g T (cur.setIfInBounds j u) := heap_setCell_same w g j cur T u h
theorem Blk.other {w : World} {g : Nat} {T : TypeId} {cur : Array Value} (h : Blk w g T cur) (b j : Nat) (u : Value) (hne : g ≠ b) : Blk (w.setCell ⟨b, j, none⟩ u) g T cur :=
  (Below.heap_setCell w ⟨b, j, none⟩ u g hne).trans h
theorem Blk.new (w : World) (cur : Array Value) (T : TypeId) : Blk (w.alloc (.cells cur T)) w.heap.size T cur := heap_alloc_new w _

/-- The first k elements of the cells 'cur' are the pairs 'h', 'o'. -/
def C2 (cur : Array Value) (k : Nat) (h o : Nat → Int) : Prop := ∀ j, j < k → cur[j * 2]? = some (.int .i64 (h j)) ∧ cur[j * 2 + 1]? = some (.int .i64 (o j))
theorem C2.zero (cur : Array Value) (h o : Nat → Int) : C2 cur 0 h o := fun j hj => absurd hj (Nat.not_lt_zero j)
theorem C2.step {cur : Array Value} {k : Nat} {h o : Nat → Int} (c : C2 cur k h o) (hk : k * 2 + 1 < cur.size) : C2 ((cur.setIfInBounds (k * 2) (.int .i64 (h k))).setIfInBounds (k * 2 + 1) (.int .i64 (o k))) (k + 1) h o := fun j hj => by
  rcases Nat.lt_succ_iff_lt_or_eq.1 hj with hlt | rfl
  · obtain ⟨c1, c2⟩ := c j hlt
    constructor
    · rw [Array.getElem?_setIfInBounds_ne (by omega), Array.getElem?_setIfInBounds_ne (by omega), c1]
    · rw [Array.getElem?_setIfInBounds_ne (by omega), Array.getElem?_setIfInBounds_ne (by omega), c2]
  · constructor
    · rw [Array.getElem?_setIfInBounds_ne (by omega), Array.getElem?_setIfInBounds_self_of_lt (by omega)]
    · rw [Array.getElem?_setIfInBounds_self_of_lt (by simp; omega)]
theorem C2.s2 {w : World} {g n : Nat} {T : TypeId} {cur : Array Value} {h o : Nat → Int} (b : Blk w g T cur) (c : C2 cur n h o) : S2 w (some ⟨g, 0, none⟩) n h o := fun _ =>
  ⟨g, 0, rfl, b.lt, fun j hj => by rw [b.cell, b.cell]; simpa using c j hj⟩
/-- The first k of the cells 'cur' are the integers f. -/
def C1 (cur : Array Value) (k : Nat) (f : Nat → Int) : Prop := ∀ j, j < k → cur[j]? = some (.int .i64 (f j))
theorem C1.zero (cur : Array Value) (f : Nat → Int) : C1 cur 0 f := fun j hj => absurd hj (Nat.not_lt_zero j)
theorem C1.step {cur : Array Value} {k : Nat} {f : Nat → Int} (c : C1 cur k f) (hk : k < cur.size) : C1 (cur.setIfInBounds k (.int .i64 (f k))) (k + 1) f := fun j hj => by
  rcases Nat.lt_succ_iff_lt_or_eq.1 hj with hlt | rfl
  · rw [Array.getElem?_setIfInBounds_ne (by omega), c j hlt]
  · rw [Array.getElem?_setIfInBounds_self_of_lt hk]
theorem C1.s1 {w : World} {g n : Nat} {T : TypeId} {cur : Array Value} {f : Nat → Int} (b : Blk w g T cur) (c : C1 cur n f) : S1 w (some ⟨g, 0, none⟩) n f := fun _ =>
  ⟨g, 0, rfl, b.lt, fun j hj => by rw [b.cell]; simpa using c j hj⟩

/-- The cells of a new slice, behind a name. -/
def Mk (z : Array Value) (n : Nat) : Array Value := madeCells z n
theorem Mk.size (z : Array Value) (n : Nat) : (Mk z n).size = n := size_madeCells z n
/-- 'make([]T, n)' -/
theorem make_run {P : Program} (t e : TypeId) (z : Value) (sz bytes : Nat) (ht : P.underlying t = some (.slice e)) (hinfo : (P.info? e).map (fun i => (i.zero, i.size, i.bytes)) = some (some z, sz, bytes))
    (n : Nat) (hb : bytes * n ≤ 281474976710656) (h63 : n ≤ 9223372036854775807) (w : World) :
    (Instr.makeSlice t (.int .i64 (n : Int)) (.int .i64 (n : Int))).run P w = .ok (.slice (some ⟨w.heap.size, 0, none⟩) n n) (w.alloc (.cells (Mk z.cells (n * sz)) e)) := by
  obtain ⟨i, hi, hz, hs, hby⟩ := info_parts hinfo
  subst hs hby
  have hb' : (i.bytes : Int) * (n : Int) ≤ 281474976710656 := by
    have h : ((i.bytes * n : Nat) : Int) ≤ 281474976710656 := by omega
    rwa [Int.natCast_mul] at h
  have := run_make (P := P) w t e i z ht hi hz .i64 .i64 n n (by omega) (Int.le_refl _) hb' (by omega)
  simpa [Mk] using this

end Go.Proofs.Ytaamnmpbkdinpaa
