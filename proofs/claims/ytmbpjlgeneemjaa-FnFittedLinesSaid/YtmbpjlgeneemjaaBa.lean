/- Two closed facts on the loaded program that each row's frame uses. Small general laws for the walks of this seat: worlds that only grow, regions that draw their order, slices of plain structs. No program in sight. What arguments of plain data hold: from the form's reading down to the cells. No program in sight. Slices that a call makes and writes: what is kept, what is read, what is marked. No program in sight. An append of one number at a step of a region that draws its order. No program in sight. An append of one number at a step, with what it leaves, of a region that draws its order. No program in sight. Plain arithmetic for the laws on readings and fits. No program in sight. Values that the functions on fits hand back. What the functions on single fits return: each walked once. What the functions on fits return, further. -/
import Derived.Test.YtmbpjlgeneemjaaRows
import Derived.KernelRfl
import Derived.WalkKit
import Derived.WalkSpells
import Derived.WalkLawsBesides
import Derived.Deep.QuietTactic
import Derived.BigQuiet
import Derived.Lib.Hide
import Derived.ProofKit
import Derived.Deep.Fields
import Derived.Deep.Slices
import Derived.Deep.RegionHeld3
import Derived.Deep.AppendLies
import Derived.Test.YtmbpjlgeneemjaaProg

namespace Go.Proofs.Ytmbpjlgeneemjaa
theorem own : ownKnob Try.prog.godebug = none := by kernel_rfl
theorem laidOut : laidOutB Try.prog = true := by kernel_rfl
end Go.Proofs.Ytmbpjlgeneemjaa

namespace Go.Proofs.Ytmbpjlgeneemjaa
open Go.RowKit
set_option linter.unusedVariables false

/-- The world w' has all blocks of w as they were, and perhaps more. -/
def Ext (w w' : World) : Prop := Below w.heap.size w w'
theorem Ext.refl (w : World) : Ext w w := Below.refl _ w
theorem Ext.size {w w' : World} (h : Ext w w') : w.heap.size ≤ w'.heap.size := Below.size h
theorem Ext.trans {a b c : World} (h : Ext a b) (k : Ext b c) : Ext a c := Below.trans h (Below.mono k h.size)
theorem Ext.drew {a w : World} (h : Ext a w) : Ext a w.drew := Below.drew h
theorem Ext.alloc {a w : World} (h : Ext a w) (o : Obj) : Ext a (w.alloc o) := Below.alloc h h.size o
theorem Ext.setCell {a w : World} (h : Ext a w) {p : Addr} (hp : a.heap.size ≤ p.block) (u : Value) : Ext a (w.setCell p u) := Below.setCell h hp u
theorem Ext.setAt {a w : World} (h : Ext a w) (b o : Nat) (u : Value) (hb : a.heap.size ≤ b) : Ext a (w.setCell ⟨b, o, none⟩ u) := h.setCell hb u
theorem Ext.cell {w w' : World} (h : Ext w w') {b o : Nat} (hb : b < w.heap.size) : w'.cell? ⟨b, o, none⟩ = w.cell? ⟨b, o, none⟩ := Below.cell (p := ⟨b, o, none⟩) h hb
theorem Ext.block {w w' : World} (h : Ext w w') {b : Nat} (hb : b < w.heap.size) : w'.heap[b]? = w.heap[b]? := Below.block h b hb
theorem Ext.grown {a w w' : World} {row : Option Nat} (h : Ext a w) (hg : w.grownBy w' row) (hr : ∀ k, row = some k → a.heap.size ≤ k) : Ext a w' := Below.grown h hg h.size hr

/-- A world that has grown out of w: what a callee leaves of which only this is known. -/
structure Past (w : World) where
  out : World
  bel : Ext w out
instance {w : World} : Nonempty (Past w) := ⟨⟨w, Ext.refl w⟩⟩
@[go_sem] theorem Past.cell {w : World} (x : Past w) (b o : Nat) (h : b < w.heap.size) : x.out.cell? ⟨b, o, none⟩ = w.cell? ⟨b, o, none⟩ := x.bel.cell h
@[go_sem] theorem Past.frozen {w : World} (x : Past w) (b o : Nat) (h : b < w.heap.size) : x.out.frozen? ⟨b, o, none⟩ = w.frozen? ⟨b, o, none⟩ := Below.frozen (p := ⟨b, o, none⟩) x.bel h
theorem Past.size {w : World} (x : Past w) : w.heap.size ≤ x.out.heap.size := x.bel.size
@[go_sem] theorem Past.lt {w : World} (x : Past w) (b : Nat) (h : b < w.heap.size) : b < x.out.heap.size := Nat.lt_of_lt_of_le h x.bel.size
@[go_sem] theorem Past.le {w : World} (x : Past w) (b : Nat) (h : b ≤ w.heap.size) : b ≤ x.out.heap.size := Nat.le_trans h x.bel.size
theorem Past.of {w w' : World} (h : Ext w w') : ∃ x : Past w, w' = x.out := ⟨⟨w', h⟩, rfl⟩
theorem Past.ofd {w w' : World} (h : Ext w.drew w') : ∃ x : Past w, w' = x.out := ⟨⟨w', Ext.trans ((Ext.refl w).drew) h⟩, rfl⟩
theorem Past.again {w w' : World} {x : Past w} (h : Ext x.out w') : ∃ y : Past w, w' = y.out := ⟨⟨w', x.bel.trans h⟩, rfl⟩

/-- A region that draws its order, whose operations read and whose calls only make new memory: one walk in the order of the text. -/
theorem wp_region_past {P : Program} {id : Nat} {Q : Exit → Act → World → Prop} {a : Act} {w : World} {l : List Oper} (hm : P.follows .mixedOrders = true) (hB : Region.lexB .any l.toArray = true)
    (h : wpQuiet P l.toArray (fun w' => ∃ x : Past w, w' = x.out) (fun a' => ∀ w', (∃ x : Past w, w' = x.out) → Q .normal a' w') l a) : (Code.region id l.toArray true).wp P Q a w :=
  wp_region_quiet (C := fun w' => ∃ x : Past w, w' = x.out) hm hB ⟨⟨_, (Ext.refl w).drew⟩, rfl⟩ (by simpa using h)
theorem Calls.past {P : Program} {f : FuncId} {args : Array Value} {w : World} {x : Past w} {v : Value}
    (h : Calls P f args x.out fun e w' => e = .returned v ∧ Ext x.out w') : Calls P f args x.out fun e w'' => e = .returned v ∧ ∃ y : Past w, w'' = y.out :=
  h.mono fun _ w' ⟨he, m⟩ => ⟨he, ⟨w', x.bel.trans m⟩, rfl⟩
theorem Calls.past_same {P : Program} {f : FuncId} {args : Array Value} {w : World} {x : Past w} {v : Value}
    (h : Calls P f args x.out fun e w' => e = .returned v ∧ x.out = w') : Calls P f args x.out fun e w'' => e = .returned v ∧ ∃ y : Past w, w'' = y.out :=
  h.mono fun _ w' ⟨he, m⟩ => ⟨he, x, m.symm⟩

theorem ret_bool {a b : Bool} (h : a = b) : Ending.returned (.bool a) = .returned (.bool b) := by rw [h]
theorem ret_i64 {a b : Int} (h : a = b) : Ending.returned (.int .i64 a) = .returned (.int .i64 b) := by rw [h]
theorem ret_two {v v' u u' : Value} (h : v = v') (h' : u = u') : Ending.returned (.tuple #[v, u]) = .returned (.tuple #[v', u']) := by rw [h, h']

/-- A slice (of address 'a', with n elements of two integers each) reads as 'h', 'o' in the world w. -/
def S2 (w : World) (a : Option Addr) (n : Nat) (h o : Nat → Int) : Prop :=
  0 < n → ∃ b off, a = some ⟨b, off, none⟩ ∧ b < w.heap.size ∧ ∀ j, j < n → w.cell? ⟨b, off + j * 2, none⟩ = some (.int .i64 (h j)) ∧ w.cell? ⟨b, off + j * 2 + 1, none⟩ = some (.int .i64 (o j))
theorem S2.ext {w w' : World} {a : Option Addr} {n : Nat} {h o : Nat → Int} (s : S2 w a n h o) (e : Ext w w') : S2 w' a n h o := fun hn => by
  obtain ⟨b, off, ha, hb, hc⟩ := s hn
  exact ⟨b, off, ha, Nat.lt_of_lt_of_le hb e.size, fun j hj => by rw [e.cell hb, e.cell hb]; exact hc j hj⟩
/-- At a place j below n. -/
theorem S2.at {w : World} {a : Option Addr} {n : Nat} {h o : Nat → Int} (s : S2 w a n h o) {j : Nat} (hj : j < n) :
    ∃ b off, a = some ⟨b, off, none⟩ ∧ b < w.heap.size ∧ w.cell? ⟨b, off + j * 2, none⟩ = some (.int .i64 (h j)) ∧ w.cell? ⟨b, off + j * 2 + 1, none⟩ = some (.int .i64 (o j)) := by
  obtain ⟨b, off, ha, hb, hc⟩ := s (by omega)
  exact ⟨b, off, ha, hb, hc j hj⟩

/-- A slice (of address 'a', with n elements) of integers reads as 'f' in the world w. -/
def S1 (w : World) (a : Option Addr) (n : Nat) (f : Nat → Int) : Prop :=
  0 < n → ∃ b off, a = some ⟨b, off, none⟩ ∧ b < w.heap.size ∧ ∀ j, j < n → w.cell? ⟨b, off + j, none⟩ = some (.int .i64 (f j))
theorem S1.ext {w w' : World} {a : Option Addr} {n : Nat} {f : Nat → Int} (s : S1 w a n f) (e : Ext w w') : S1 w' a n f := fun hn => by
  obtain ⟨b, off, ha, hb, hc⟩ := s hn
  exact ⟨b, off, ha, Nat.lt_of_lt_of_le hb e.size, fun j hj => by rw [e.cell hb]; exact hc j hj⟩
theorem S1.at {w : World} {a : Option Addr} {n : Nat} {f : Nat → Int} (s : S1 w a n f) {j : Nat} (hj : j < n) :
    ∃ b off, a = some ⟨b, off, none⟩ ∧ b < w.heap.size ∧ w.cell? ⟨b, off + j, none⟩ = some (.int .i64 (f j)) := by
  obtain ⟨b, off, ha, hb, hc⟩ := s (by omega)
  exact ⟨b, off, ha, hb, hc j hj⟩

/-- Block g of the world w holds the cells 'cur', none of them frozen. -/
def Blk (w : World) (g : Nat) (T : TypeId) (cur : Array Value) : Prop := w.heap[g]? = some (.cells cur T (0, 0))
theorem Blk.lt {w : World} {g : Nat} {T : TypeId} {cur : Array Value} (h : Blk w g T cur) : g < w.heap.size := (Array.getElem?_eq_some_iff.1 h).1
theorem Blk.ext {w w' : World} {g : Nat} {T : TypeId} {cur : Array Value} (h : Blk w g T cur) (e : Ext w w') : Blk w' g T cur := (e.block h.lt).trans h
theorem Blk.cell {w : World} {g : Nat} {T : TypeId} {cur : Array Value} (h : Blk w g T cur) (j : Nat) : w.cell? ⟨g, j, none⟩ = cur[j]? := cell_of_row w g j cur T (0, 0) h
theorem Blk.frozen {w : World} {g : Nat} {T : TypeId} {cur : Array Value} (h : Blk w g T cur) (j : Nat) : w.frozen? ⟨g, j, none⟩ = false := frozen_of_row w g j cur T h
theorem Blk.set {w : World} {g : Nat} {T : TypeId} {cur : Array Value} (h : Blk w g T cur) (j : Nat) (u : Value) : Blk (w.setCell ⟨g, j, none⟩ u) g T (cur.setIfInBounds j u) := heap_setCell_same w g j cur T u h
theorem Blk.other {w : World} {g : Nat} {T : TypeId} {cur : Array Value} (h : Blk w g T cur) (b j : Nat) (u : Value) (hne : g ≠ b) : Blk (w.setCell ⟨b, j, none⟩ u) g T cur :=
  (Below.heap_setCell w ⟨b, j, none⟩ u g hne).trans h
theorem Blk.new (w : World) (cur : Array Value) (T : TypeId) : Blk (w.alloc (.cells cur T)) w.heap.size T cur := heap_alloc_new w _

/-- The first k elements of the cells 'cur' are the pairs 'h', 'o'. -/
def C2 (cur : Array Value) (k : Nat) (h o : Nat → Int) : Prop := ∀ j, j < k → cur[j * 2]? = some (.int .i64 (h j)) ∧ cur[j * 2 + 1]? = some (.int .i64 (o j))
theorem C2.zero (cur : Array Value) (h o : Nat → Int) : C2 cur 0 h o := fun j hj => absurd hj (Nat.not_lt_zero j)
theorem C2.step {cur : Array Value} {k : Nat} {h o : Nat → Int} (c : C2 cur k h o) (hk : k * 2 + 1 < cur.size) : C2 ((cur.setIfInBounds (k * 2) (.int .i64 (h k))).setIfInBounds (k * 2 + 1) (.int .i64 (o k))) (k + 1) h o := fun j hj => by
  rcases Nat.lt_succ_iff_lt_or_eq.1 hj with hlt | rfl
  · obtain ⟨c1, c2⟩ := c j hlt
    constructor
    · rw [Array.getElem?_setIfInBounds_ne (by omega), Array.getElem?_setIfInBounds_ne (by omega), c1]
    · rw [Array.getElem?_setIfInBounds_ne (by omega), Array.getElem?_setIfInBounds_ne (by omega), c2]
  · constructor
    · rw [Array.getElem?_setIfInBounds_ne (by omega), Array.getElem?_setIfInBounds_self_of_lt (by omega)]
    · rw [Array.getElem?_setIfInBounds_self_of_lt (by simp; omega)]
theorem C2.s2 {w : World} {g n : Nat} {T : TypeId} {cur : Array Value} {h o : Nat → Int} (b : Blk w g T cur) (c : C2 cur n h o) : S2 w (some ⟨g, 0, none⟩) n h o := fun _ =>
  ⟨g, 0, rfl, b.lt, fun j hj => by rw [b.cell, b.cell]; simpa using c j hj⟩
/-- The first k of the cells 'cur' are the integers f. -/
def C1 (cur : Array Value) (k : Nat) (f : Nat → Int) : Prop := ∀ j, j < k → cur[j]? = some (.int .i64 (f j))
theorem C1.zero (cur : Array Value) (f : Nat → Int) : C1 cur 0 f := fun j hj => absurd hj (Nat.not_lt_zero j)
theorem C1.step {cur : Array Value} {k : Nat} {f : Nat → Int} (c : C1 cur k f) (hk : k < cur.size) : C1 (cur.setIfInBounds k (.int .i64 (f k))) (k + 1) f := fun j hj => by
  rcases Nat.lt_succ_iff_lt_or_eq.1 hj with hlt | rfl
  · rw [Array.getElem?_setIfInBounds_ne (by omega), c j hlt]
  · rw [Array.getElem?_setIfInBounds_self_of_lt hk]
theorem C1.s1 {w : World} {g n : Nat} {T : TypeId} {cur : Array Value} {f : Nat → Int} (b : Blk w g T cur) (c : C1 cur n f) : S1 w (some ⟨g, 0, none⟩) n f := fun _ =>
  ⟨g, 0, rfl, b.lt, fun j hj => by rw [b.cell]; simpa using c j hj⟩

/-- The cells of a new slice, behind a name. -/
def Mk (z : Array Value) (n : Nat) : Array Value := madeCells z n
theorem Mk.size (z : Array Value) (n : Nat) : (Mk z n).size = n := size_madeCells z n
/-- 'make([]T, n)' -/
theorem make_run {P : Program} (t e : TypeId) (z : Value) (sz bytes : Nat) (ht : P.underlying t = some (.slice e)) (hinfo : (P.info? e).map (fun i => (i.zero, i.size, i.bytes)) = some (some z, sz, bytes))
    (n : Nat) (hb : bytes * n ≤ 281474976710656) (h63 : n ≤ 9223372036854775807) (w : World) :
    (Instr.makeSlice t (.int .i64 (n : Int)) (.int .i64 (n : Int))).run P w = .ok (.slice (some ⟨w.heap.size, 0, none⟩) n n) (w.alloc (.cells (Mk z.cells (n * sz)) e)) := by
  obtain ⟨i, hi, hz, hs, hby⟩ := info_parts hinfo
  subst hs hby
  have hb' : (i.bytes : Int) * (n : Int) ≤ 281474976710656 := by
    have h : ((i.bytes * n : Nat) : Int) ≤ 281474976710656 := by omega
    rwa [Int.natCast_mul] at h
  have := run_make (P := P) w t e i z ht hi hz .i64 .i64 n n (by omega) (Int.le_refl _) hb' (by omega)
  simpa [Mk] using this

end Go.Proofs.Ytmbpjlgeneemjaa

namespace Go.Proofs.Ytmbpjlgeneemjaa
open Go.ChangeShapes Go.WideShapes Go.RowKit Go.Deep
set_option linter.unusedVariables false

/-- every field is an int64 -/
def allI64 (P : Program) (fs : Array Field) : Bool := fs.toList.all fun f => match P.underlying f.type with
  | some (.int .i64) => true
  | _ => false
theorem allI64_at {P : Program} {fs : Array Field} (h : allI64 P fs = true) {j : Nat} {f : Field} (hj : fs[j]? = some f) : P.underlying f.type = some (.int .i64) := by
  have h1 := List.all_eq_true.1 h f (by rw [Array.mem_toList_iff]; exact Array.mem_of_getElem? hj)
  revert h1
  split
  · intro _; assumption
  · intro h2; cases h2
section
variable {H : Type} {enc : TypeId × Value → H} {P : Program} {w : World} {base : Nat} {spare : Nat → Bool} {held : Bool}
/-- a struct's fields, each with its reading -/
theorem down_struct {t : TypeId} {fs : Array Field} {fuel : Nat} {cs : List Value} {x : DataW H × List MemPlace} (hs : P.underlying t = some (.struct fs)) (hone : oneCellFields P fs = true) (hC : P.cellsOf t = fs.size)
    (h : DataW.trod enc P w base spare held fuel t cs = some x) :
    ∃ n, cs.length = fs.size ∧ ∀ (j : Nat) (f : Field), fs[j]? = some f → ∃ v y, cs[j]? = some v ∧ DataW.trod enc P w base spare held n f.type [v] = some y := by
  obtain ⟨xs, n, _, _, hl, hxl, hf⟩ := DataW.trod_struct hs h
  refine ⟨n, hl.trans hC, fun j f hj => ?_⟩
  obtain ⟨ho, hc⟩ := hone_of hone j f hj
  have hjl : j < fs.size := (Array.getElem?_eq_some_iff.1 hj).1
  have hjc : j < cs.length := by omega
  have h1 := hf j f hj
  rw [ho, hc, List.drop_eq_getElem_cons hjc, List.getElem?_eq_getElem (show j < xs.length by omega)] at h1
  exact ⟨cs[j], xs[j]'(by omega), List.getElem?_eq_getElem hjc, h1⟩
/-- a struct whose fields are all int64 -/
theorem down_ints {t : TypeId} {fs : Array Field} {fuel : Nat} {cs : List Value} {x : DataW H × List MemPlace} (hs : P.underlying t = some (.struct fs)) (hone : oneCellFields P fs = true) (hC : P.cellsOf t = fs.size) (hi : allI64 P fs = true)
    (h : DataW.trod enc P w base spare held fuel t cs = some x) :
    ∃ z : Nat → Int, cs = (List.range fs.size).map (fun j => Value.int .i64 (z j)) ∧ ∀ j, j < fs.size → (Lit.int .i64 (z j)).wf = true := by
  obtain ⟨n, hl, hf⟩ := down_struct hs hone hC h
  have hz : ∀ j, j < fs.size → ∃ z : Int, cs[j]? = some (.int .i64 z) ∧ (Lit.int .i64 z).wf = true := fun j hj => by
    obtain ⟨v, y, hv, hy⟩ := hf j fs[j] (Array.getElem?_eq_getElem hj)
    obtain ⟨z, hz, _, hw⟩ := DataW.trod_int (allI64_at hi (Array.getElem?_eq_getElem hj)) hy
    simp only [List.cons.injEq, and_true] at hz
    exact ⟨z, by rw [hv, hz], hw⟩
  obtain ⟨z, hz⟩ := choose_lt hz
  refine ⟨z, List.ext_getElem? fun j => ?_, fun j hj => (hz j hj).2⟩
  by_cases hj : j < fs.size
  · rw [(hz j hj).1]; simp [hj]
  · rw [List.getElem?_eq_none (by omega), List.getElem?_eq_none (by simp; omega)]
theorem down_agg {r : Reach} {b0 : Nat} {t : TypeId} {fs : Array Field} {v : Value} {d : DataW H} {p : List MemPlace} (hs : P.underlying t = some (.struct fs)) (hone : oneCellFields P fs = true) (hC : P.cellsOf t = fs.size) (hi : allI64 P fs = true)
    (hv : Value.okWide P w r b0 t v) (h : DataW.Trod enc P w base spare held t v d p) :
    ∃ z : Nat → Int, v = .agg ((List.range fs.size).map (fun j => Value.int .i64 (z j))).toArray ∧ ∀ j, j < fs.size → (Lit.int .i64 (z j)).wf = true := by
  obtain ⟨cs, rfl, hsz⟩ := okWide_struct hs hv
  obtain ⟨fuel, hf⟩ := h
  obtain ⟨z, hz, hw⟩ := down_ints hs hone hC hi hf
  refine ⟨z, ?_, hw⟩
  congr 1
  apply Array.toList_inj.1
  simpa [Value.cells] using hz
/-- a slice of such structs: nil, or the cells of its elements -/
theorem down_slice {t e : TypeId} {fs : Array Field} {v : Value} {d : DataW H} {p : List MemPlace} {r : Reach} {b0 : Nat} (ht : P.underlying t = some (.slice e)) (hs : P.underlying e = some (.struct fs)) (hone : oneCellFields P fs = true) (hC : P.cellsOf e = fs.size) (hi : allI64 P fs = true) (hpos : 0 < fs.size)
    (hv : Value.okWide P w r b0 t v) (h : DataW.Trod enc P w base spare held t v d p) (hlt : ∀ x ∈ p, x.block < w.heap.size) :
    ∃ (a : Option Addr) (n cap : Nat) (z : Nat → Nat → Int), v = .slice a n cap ∧ n ≤ cap ∧ cap ≤ maxLen ∧
      (0 < n → ∃ b off, a = some ⟨b, off, none⟩ ∧ b < w.heap.size ∧ ∀ i, i < n → ∀ j, j < fs.size → w.cell? ⟨b, off + i * fs.size + j, none⟩ = some (.int .i64 (z i j)) ∧ (Lit.int .i64 (z i j)).wf = true) := by
  obtain ⟨a, n, cap, rfl⟩ := okWide_slice ht hv
  obtain ⟨fuel, hf⟩ := h
  rcases open_slice ht hf with ⟨hcs, _⟩ | ⟨a', len', cap', m, n', D, Pl, hcs, hb, hl, hm, hmm, hx, hcell⟩
  · simp [Value.cells] at hcs
    obtain ⟨rfl, rfl, rfl⟩ := hcs
    exact ⟨none, 0, 0, fun _ _ => 0, rfl, Nat.le_refl _, Nat.zero_le _, fun h => absurd h (Nat.lt_irrefl 0)⟩
  · simp [Value.cells] at hcs
    obtain ⟨rfl, rfl, rfl⟩ := hcs
    have hlm : n ≤ m := by rw [hmm]; split <;> omega
    have hel : ∀ i, i < n → ∃ z : Nat → Int, ∀ j, j < fs.size → w.cell? (a'.add (i * fs.size + j)) = some (.int .i64 (z j)) ∧ (Lit.int .i64 (z j)).wf = true := fun i hi' => by
      obtain ⟨cs', hc, ht'⟩ := hcell i (by omega)
      rw [hC] at hc
      obtain ⟨_, hcl, hat⟩ := World.cells?_some hc
      obtain ⟨z, hz, hw⟩ := down_ints hs hone hC hi ht'
      refine ⟨z, fun j hj => ⟨?_, hw j hj⟩⟩
      rw [← Go.Deep.add_add, hat j hj, hz]; simp [hj]
    obtain ⟨z, hz⟩ := choose_lt hel
    refine ⟨some a', n, cap, z, rfl, hl, hm, fun hn => ?_⟩
    obtain ⟨b, off, spot⟩ := a'
    have h0 := (hz 0 hn 0 hpos).1
    have hspot : spot = none := by simpa [Addr.add] using World.cell?_spot h0
    subst hspot
    refine ⟨b, off, rfl, World.block_lt_of_cell? w ⟨b, off, none⟩ (by simpa [Addr.add] using h0), fun i hi' j hj => ?_⟩
    have h1 := hz i hi' j hj
    rw [Addr.add_lit] at h1
    rw [Nat.add_assoc]; exact h1
end
/-- an int64 fits its kind: its bounds -/
theorem wf_bd {n : Int} (h : (Lit.int .i64 n).wf = true) : -9223372036854775808 ≤ n ∧ n ≤ 9223372036854775807 := by
  simpa [Lit.wf, IntKind.min, IntKind.max, IntKind.signed, IntKind.bits] using h
/-- a slice of pairs of integers, from its cells -/
theorem s2_of {w : World} {a : Option Addr} {n : Nat} {z : Nat → Nat → Int}
    (h : 0 < n → ∃ b off, a = some ⟨b, off, none⟩ ∧ b < w.heap.size ∧ ∀ i, i < n → ∀ j, j < 2 → w.cell? ⟨b, off + i * 2 + j, none⟩ = some (.int .i64 (z i j)) ∧ (Lit.int .i64 (z i j)).wf = true) :
    S2 w a n (fun i => z i 0) (fun i => z i 1) := fun hn => by
  obtain ⟨b, off, ha, hb, hc⟩ := h hn
  exact ⟨b, off, ha, hb, fun i hi => ⟨(hc i hi 0 (by omega)).1, (hc i hi 1 (by omega)).1⟩⟩
end Go.Proofs.Ytmbpjlgeneemjaa

namespace Go.Proofs.Ytmbpjlgeneemjaa
open Go.RowKit
set_option linter.unusedVariables false

theorem ext_grown {w w' : World} (h : Ext w w') : w.grownBy w' none :=
  ⟨Below.os h, Below.tape h, Below.output h, h.size, fun k hk _ => h.block hk⟩
theorem grown_ext {w w' : World} (h : w.grownBy w' none) : Ext w w' :=
  ⟨h.os, h.tape, h.output, h.size, fun k hk => h.block k hk (by simp)⟩
theorem grown_trans {a b c : World} {row : Option Nat} (h : a.grownBy b row) (k : b.grownBy c row) : a.grownBy c row :=
  ⟨k.os.trans h.os, k.tape.trans h.tape, k.output.trans h.output, Nat.le_trans h.size k.size, fun i hi hn => (k.block i (Nat.lt_of_lt_of_le hi h.size) hn).trans (h.block i hi hn)⟩
section
variable {w w' : World} {base : Nat} {e : TypeId} {size : Nat} {v : Value} {n : Nat} {xs : List Value}
theorem own_ext (h : w.ownsRow base e size v n xs) (x : Ext w w') : w'.ownsRow base e size v n xs := h.kept (ext_grown x) (by cases hv : v.ownBlock <;> simp)
/-- what is owned lies from its base on, and below the heap's end -/
theorem own_in {a : Option Addr} {cap : Nat} (h : w.ownsRow base e size (.slice a n cap) n xs) {ad : Addr} (ha : a = some ad) : base ≤ ad.block ∧ ad.block < w.heap.size :=
  h.lt ad.block (by subst ha; rfl)
theorem own_at {a : Option Addr} {cap j : Nat} (h : w.ownsRow base e 1 (.slice a n cap) n xs) (hj : j < n) :
    ∃ g, a = some ⟨g, 0, none⟩ ∧ base ≤ g ∧ g < w.heap.size ∧ w.cell? ⟨g, j, none⟩ = xs[j]? ∧ w.frozen? ⟨g, j, none⟩ = false := by
  rcases h.2 with ⟨h1, h2⟩ | ⟨g, cap', cur, h1, hb, hg, h2, h3, h4, h5⟩
  · omega
  · simp only [Value.slice.injEq, true_and] at h1
    obtain ⟨rfl, rfl⟩ := h1
    exact ⟨g, rfl, hb, (Array.getElem?_eq_some_iff.1 hg).1, h.cellAt j (by omega), h.frozenAt j⟩
theorem own_at2 {a : Option Addr} {cap j : Nat} (h : w.ownsRow base e 2 (.slice a n cap) n xs) (hj : j < n) :
    ∃ g, a = some ⟨g, 0, none⟩ ∧ base ≤ g ∧ g < w.heap.size ∧ (w.cell? ⟨g, j * 2, none⟩ = xs[j * 2]? ∧ w.frozen? ⟨g, j * 2, none⟩ = false) ∧ w.cell? ⟨g, j * 2 + 1, none⟩ = xs[j * 2 + 1]? ∧ w.frozen? ⟨g, j * 2 + 1, none⟩ = false := by
  rcases h.2 with ⟨h1, h2⟩ | ⟨g, cap', cur, h1, hb, hg, h2, h3, h4, h5⟩
  · omega
  · simp only [Value.slice.injEq, true_and] at h1
    obtain ⟨rfl, rfl⟩ := h1
    exact ⟨g, rfl, hb, (Array.getElem?_eq_some_iff.1 hg).1, ⟨h.cellAt _ (by omega), h.frozenAt _⟩, h.cellAt _ (by omega), h.frozenAt _⟩
theorem own_set {g cap j : Nat} (h : w.ownsRow base e size (.slice (some ⟨g, 0, none⟩) n cap) n xs) (u : Value) : (w.setCell ⟨g, j, none⟩ u).ownsRow base e size (.slice (some ⟨g, 0, none⟩) n cap) n (xs.set j u) := (h.stored j u).1
theorem grown_set (g j : Nat) (u : Value) : w.grownBy (w.setCell ⟨g, j, none⟩ u) (some g) :=
  ⟨rfl, rfl, rfl, by simp, fun k _ hk => heap_setCell_other w ⟨g, j, none⟩ k u (fun e => hk (by simp [e]))⟩
theorem own_s1 {a : Option Addr} {cap : Nat} {l : List Int} (h : w.ownsRow base e 1 (.slice a n cap) n (l.map (Value.int .i64))) : S1 w a n (fun j => l.getD j 0) := fun hn => by
  obtain ⟨g, rfl, _, hg, _⟩ := own_at h hn
  have hl : l.length = n := by simpa using h.1
  refine ⟨g, 0, rfl, hg, fun j hj => ?_⟩
  rw [Nat.zero_add, h.cellAt j (by omega)]
  simp [List.getD, show j < l.length by omega]
theorem own_len {l : List Int} (h : w.ownsRow base e 1 v n (l.map (Value.int .i64))) : n = l.length := by simpa using h.1.symm
end
/-- a slice of integers that reads the same behind a change of another block -/
theorem S1.but {w w' : World} {a : Option Addr} {n : Nat} {f : Nat → Int} {row : Option Nat} (s : S1 w a n f) (hg : w.grownBy w' row) (hne : ∀ ad, a = some ad → some ad.block ≠ row) : S1 w' a n f := fun hn => by
  obtain ⟨b, off, ha, hb, hc⟩ := s hn
  refine ⟨b, off, ha, Nat.lt_of_lt_of_le hb hg.size, fun j hj => ?_⟩
  rw [World.cell?_of_block (a := ⟨b, off + j, none⟩) (hg.block b hb (hne _ ha))]
  exact hc j hj
theorem S2.but {w w' : World} {a : Option Addr} {n : Nat} {h o : Nat → Int} {row : Option Nat} (s : S2 w a n h o) (hg : w.grownBy w' row) (hne : ∀ ad, a = some ad → some ad.block ≠ row) : S2 w' a n h o := fun hn => by
  obtain ⟨b, off, ha, hb, hc⟩ := s hn
  refine ⟨b, off, ha, Nat.lt_of_lt_of_le hb hg.size, fun j hj => ?_⟩
  rw [World.cell?_of_block (a := ⟨b, off + j * 2, none⟩) (hg.block b hb (hne _ ha)), World.cell?_of_block (a := ⟨b, off + j * 2 + 1, none⟩) (hg.block b hb (hne _ ha))]
  exact hc j hj
/-- owned rows of two calls, the second begun when the first had ended, lie in different blocks -/
theorem own_ne2 {w1 w2 : World} {b1 b2 : Nat} {e1 e2 : TypeId} {s1 s2 : Nat} {v1 v2 : Value} {n1 n2 : Nat} {xs1 xs2 : List Value} (h1 : w1.ownsRow b1 e1 s1 v1 n1 xs1) (h2 : w2.ownsRow b2 e2 s2 v2 n2 xs2) (hb : w1.heap.size ≤ b2) :
    (v1.ownBlock = none ∨ v1.ownBlock ≠ v2.ownBlock) ∧ (v2.ownBlock = none ∨ v2.ownBlock ≠ v1.ownBlock) := by
  have hne : ∀ k, v1.ownBlock = some k → v2.ownBlock = some k → False := fun k hk hk2 => by
    have := (h1.lt k hk).2; have := (h2.lt k hk2).1; omega
  constructor
  · cases h : v1.ownBlock with
    | none => exact .inl rfl
    | some k => exact .inr fun e => hne k h e.symm
  · cases h : v2.ownBlock with
    | none => exact .inl rfl
    | some k => exact .inr fun e => hne k e.symm h
/-- the numbers k, k + 1 .. over the first j places of a list -/
def marked (k : Int) (xs : List Value) : Nat → List Value
  | 0 => xs
  | j + 1 => (marked k xs j).set j (.int .i64 (k + j))
theorem marked_length (k : Int) (xs : List Value) (j : Nat) : (marked k xs j).length = xs.length := by
  induction j with
  | zero => rfl
  | succ j ih => simp [marked, ih]
theorem marked_at (k : Int) (xs : List Value) {j i : Nat} (hi : i < j) (hx : i < xs.length) : (marked k xs j)[i]? = some (.int .i64 (k + i)) := by
  induction j with
  | zero => omega
  | succ j ih =>
    simp only [marked]
    by_cases e : i = j
    · subst e; rw [List.getElem?_set_self (by rw [marked_length]; exact hx)]
    · rw [List.getElem?_set_ne (by omega)]; exact ih (by omega)
/-- the numbers k, k + 1 .. -/
def ups (k : Int) (n : Nat) : List Value := (List.range n).map fun j => Value.int .i64 (k + (j : Nat))
theorem marked_all (k : Int) (xs : List Value) : marked k xs xs.length = ups k xs.length := by
  apply List.ext_getElem?
  intro i
  by_cases hi : i < xs.length
  · rw [marked_at k xs hi hi]; simp [ups, hi]
  · rw [List.getElem?_eq_none (by rw [marked_length]; omega), List.getElem?_eq_none (by simp [ups]; omega)]
theorem ups_at (k : Int) {n i : Nat} (hi : i < n) : (ups k n)[i]? = some (.int .i64 (k + i)) := by simp [ups, hi]
theorem own_form {w : World} {base : Nat} {e : TypeId} {size : Nat} {v : Value} {n : Nat} {xs : List Value} (h : w.ownsRow base e size v n xs) : ∃ b cap, v = .slice b n cap := by
  rcases h.2 with ⟨h1, h2⟩ | ⟨g, cap', cur, h1, _⟩
  · subst h2; exact ⟨none, 0, h1⟩
  · exact ⟨_, _, h1⟩
/-- 'out = append(out, u)', 'out' made by the call that began in w0 -/
theorem app1 {P : Program} {w w0 : World} {ops : Array Oper} {rest : List Oper} {o : Oper} {a : Act} {Q : Exit → Act → World → Prop} (t e : TypeId) (s x : Operand)
    (hop : o.op = .call { callee := .builtin .append, args := #[s, x], argTypes := #[t, t] }) (hgd : o.guard = none)
    (ht : P.underlying t = some (.slice e)) (hinfo : (P.info? e).map (fun i => (i.zero, i.size, i.bytes)) = some (some (.int .i64 0), 1, 8))
    (v : Value) (l : List Int) (u : Int) (g : Nat) (hs : a.eval s = v) (hx : a.eval x = .slice (some ⟨g, 0, none⟩) 1 1) (hown : w.ownsRow w0.heap.size e 1 v l.length (l.map (Value.int .i64)))
    (hc : w.cell? ⟨g, 0, none⟩ = some (.int .i64 u)) (hl : l.length ≤ 1048576) (h0 : Ext w0 w)
    (hK : ∀ v' w', w'.ownsRow w0.heap.size e 1 v' (l ++ [u]).length ((l ++ [u]).map (Value.int .i64)) → Ext w0 w' → wpList P ops Q rest (a.put o.dst v') w') : wpList P ops Q (o :: rest) a w := by
  obtain ⟨i, hi, hz, hsz, hb⟩ := info_parts hinfo
  refine wpList_append_own (P := P) w hgd s x t hop w0.heap.size e i (.int .i64 0) 1 8 ht hi hz hsz hb rfl (by decide) v l.length _ hs hown ⟨g, 0, none⟩ 1 1 [.int .i64 u] hx rfl ?_ ?_ ?_ ?_ h0.size ?_
  · intro j z hz'
    cases j with
    | zero =>
      simp at hz'; subst hz'
      simpa [Addr.add] using hc
    | succ j => simp at hz'
  · intro z hz'
    simp at hz'; subst hz'; rfl
  · unfold maxLen; omega
  · omega
  · intro v' w' h1 h2 _
    refine hK v' w' (by simpa using h1) (h0.grown h2 fun k hk => (hown.lt k hk).1)
end Go.Proofs.Ytmbpjlgeneemjaa

namespace Go.Proofs.Ytmbpjlgeneemjaa
open Go.RowKit
set_option linter.unusedVariables false
theorem app1s {P : Program} {w w0 : World} {ops : Array Oper} {o : Oper} {a : Act} {K : Act → World → Prop} {Q : Exit → Act → World → Prop} {E : Prop} (t e : TypeId) (s x : Operand)
    (hop : o.op = .call { callee := .builtin .append, args := #[s, x], argTypes := #[t, t] }) (hgd : o.guard = none)
    (ht : P.underlying t = some (.slice e)) (hinfo : (P.info? e).map (fun i => (i.zero, i.size, i.bytes)) = some (some (.int .i64 0), 1, 8))
    (v : Value) (l : List Int) (u : Int) (g : Nat) (hs : a.eval s = v) (hx : a.eval x = .slice (some ⟨g, 0, none⟩) 1 1) (hown : w.ownsRow w0.heap.size e 1 v l.length (l.map (Value.int .i64)))
    (hc : w.cell? ⟨g, 0, none⟩ = some (.int .i64 u)) (hl : l.length ≤ 1048576) (h0 : Ext w0 w)
    (hK : ∀ v' w', w'.ownsRow w0.heap.size e 1 v' (l ++ [u]).length ((l ++ [u]).map (Value.int .i64)) → Ext w0 w' → K (a.put o.dst v') w') :
    if Region.wanted o (yielded ops a.tmps) = true then Oper.wp P o a w K Q else E := by
  obtain ⟨i, hi, hz, hsz, hb⟩ := info_parts hinfo
  refine step_append_lies w hgd s x t hop w0.heap.size e i (.int .i64 0) 1 8 ht hi hz hsz hb rfl (by decide) v l.length _ hs hown ⟨g, 0, none⟩ 1 1 [.int .i64 u] hx rfl ?_ ?_ (by decide) ?_ ?_ h0.size _ rfl ?_
  · intro j z hz'
    cases j with
    | zero =>
      simp at hz'; subst hz'
      simpa [Addr.add] using hc
    | succ j => simp at hz'
  · intro z hz'
    simp at hz'; subst hz'; rfl
  · unfold maxLen; omega
  · omega
  · intro g' cap w' h1 h2 _ _
    refine hK _ w' ?_ (h0.grown h2 fun k hk => (hown.lt k hk).1)
    have e1 : (l ++ [u]).length = l.length + 1 := by simp
    rw [e1]; simpa using h1
end Go.Proofs.Ytmbpjlgeneemjaa

namespace Go.Proofs.Ytmbpjlgeneemjaa
open Go.RowKit
set_option linter.unusedVariables false
theorem app1t {P : Program} {w w0 : World} {ops : Array Oper} {o : Oper} {a : Act} {K : Act → World → Prop} {Q : Exit → Act → World → Prop} {E : Prop} (t e : TypeId) (s x : Operand)
    (hop : o.op = .call { callee := .builtin .append, args := #[s, x], argTypes := #[t, t] }) (hgd : o.guard = none)
    (ht : P.underlying t = some (.slice e)) (hinfo : (P.info? e).map (fun i => (i.zero, i.size, i.bytes)) = some (some (.int .i64 0), 1, 8))
    (v : Value) (l : List Int) (u : Int) (g : Nat) (hs : a.eval s = v) (hx : a.eval x = .slice (some ⟨g, 0, none⟩) 1 1) (hown : w.ownsRow w0.heap.size e 1 v l.length (l.map (Value.int .i64)))
    (hc : w.cell? ⟨g, 0, none⟩ = some (.int .i64 u)) (hl : l.length ≤ 1048576) (h0 : Ext w0 w)
    (hK : ∀ v' w', w'.ownsRow w0.heap.size e 1 v' (l ++ [u]).length ((l ++ [u]).map (Value.int .i64)) → Ext w0 w' → (∀ b i, b < w.heap.size → v.ownBlock ≠ some b → w'.cell? ⟨b, i, none⟩ = w.cell? ⟨b, i, none⟩) → K (a.put o.dst v') w') :
    if Region.wanted o (yielded ops a.tmps) = true then Oper.wp P o a w K Q else E := by
  obtain ⟨i, hi, hz, hsz, hb⟩ := info_parts hinfo
  refine step_append_lies w hgd s x t hop w0.heap.size e i (.int .i64 0) 1 8 ht hi hz hsz hb rfl (by decide) v l.length _ hs hown ⟨g, 0, none⟩ 1 1 [.int .i64 u] hx rfl ?_ ?_ (by decide) ?_ ?_ h0.size _ rfl ?_
  · intro j z hz'
    cases j with
    | zero =>
      simp at hz'; subst hz'
      simpa [Addr.add] using hc
    | succ j => simp at hz'
  · intro z hz'
    simp at hz'; subst hz'; rfl
  · unfold maxLen; omega
  · omega
  · intro g' cap w' h1 h2 _ _
    refine hK _ w' ?_ (h0.grown h2 fun k hk => (hown.lt k hk).1) (fun b i hb hne => h2.cell_far ⟨b, i, none⟩ hb (fun e => hne e.symm))
    have e1 : (l ++ [u]).length = l.length + 1 := by simp
    rw [e1]; simpa using h1
theorem own_base {w : World} {b0 b1 : Nat} {e : TypeId} {s : Nat} {v : Value} {n : Nat} {xs : List Value} (h : w.ownsRow b1 e s v n xs) (hb : b0 ≤ b1) : w.ownsRow b0 e s v n xs := by
  obtain ⟨h1, h2⟩ := h
  refine ⟨h1, ?_⟩
  rcases h2 with h2 | ⟨g, cap, cur, a, b, c⟩
  · exact .inl h2
  · exact .inr ⟨g, cap, cur, a, Nat.le_trans hb b, c⟩
end Go.Proofs.Ytmbpjlgeneemjaa

namespace Go.Proofs.Ytmbpjlgeneemjaa
set_option linter.unusedVariables false

/-- n lies from l to h -/
def inB (n l h : Int) : Bool := decide (l ≤ n) && decide (n ≤ h)
theorem inB_t {n l h : Int} : inB n l h = true ↔ l ≤ n ∧ n ≤ h := by simp [inB]
theorem inB_f {n l h : Int} : inB n l h = false ↔ ¬ (l ≤ n ∧ n ≤ h) := by rw [← inB_t]; simp

theorem mul_bd {a b A B : Int} (ha : -A ≤ a) (ha' : a ≤ A) (hb : -B ≤ b) (hb' : b ≤ B) : -(A * B) ≤ a * b ∧ a * b ≤ A * B := by
  have h1 : 0 ≤ (A - a) * (B - b) := Int.mul_nonneg (by omega) (by omega)
  have h2 : 0 ≤ (A + a) * (B + b) := Int.mul_nonneg (by omega) (by omega)
  have h3 : 0 ≤ (A - a) * (B + b) := Int.mul_nonneg (by omega) (by omega)
  have h4 : 0 ≤ (A + a) * (B - b) := Int.mul_nonneg (by omega) (by omega)
  simp only [Int.sub_mul, Int.mul_sub, Int.add_mul, Int.mul_add] at h1 h2 h3 h4
  omega
theorem mul_nn {a b A B : Int} (ha : 0 ≤ a) (ha' : a ≤ A) (hb : 0 ≤ b) (hb' : b ≤ B) : 0 ≤ a * b ∧ a * b ≤ A * B :=
  ⟨Int.mul_nonneg ha hb, (mul_bd (by omega) ha' (by omega) hb').2⟩

/-- Go's quotient, cut towards nought, and the floor -/
theorem tdiv_floor {n d : Int} (hd : 0 < d) : n.tdiv d = if n.tmod d < 0 then n / d + 1 else n / d := by
  have h1 := Int.mul_tdiv_add_tmod n d
  have h2 := Int.mul_ediv_add_emod n d
  have h3 := Int.emod_nonneg n (show d ≠ 0 by omega)
  have h4 := Int.emod_lt_of_pos n hd
  have h5 : -d < n.tmod d ∧ n.tmod d < d := ⟨Int.lt_tmod_of_pos n hd, Int.tmod_lt_of_pos n hd⟩
  split
  · rename_i h
    have e : d * (n.tdiv d - (n / d + 1)) = n % d - n.tmod d - d := by rw [Int.mul_sub, Int.mul_add]; omega
    have lo : d * (n.tdiv d - (n / d + 1)) < d * 1 := by rw [e]; omega
    have hi : d * (-1) < d * (n.tdiv d - (n / d + 1)) := by rw [e]; omega
    have := Int.lt_of_mul_lt_mul_left lo (by omega)
    have := Int.lt_of_mul_lt_mul_left hi (by omega)
    omega
  · rename_i h
    have e : d * (n.tdiv d - n / d) = n % d - n.tmod d := by rw [Int.mul_sub]; omega
    have lo : d * (n.tdiv d - n / d) < d * 1 := by rw [e]; omega
    have hi : d * (-1) < d * (n.tdiv d - n / d) := by rw [e]; omega
    have := Int.lt_of_mul_lt_mul_left lo (by omega)
    have := Int.lt_of_mul_lt_mul_left hi (by omega)
    omega
/-- the nearest integer, halves up -/
def nearD (n d : Int) : Int := (2 * n + d) / (2 * d)
theorem nearD_eq {n d : Int} (hd : 0 < d) : nearD n d = if d - n % d ≤ n % d then n / d + 1 else n / d := by
  unfold nearD
  have h2 := Int.mul_ediv_add_emod n d
  have h3 := Int.emod_nonneg n (show d ≠ 0 by omega)
  have h4 := Int.emod_lt_of_pos n hd
  split
  · rename_i h
    have e : 2 * n + d = (2 * (n % d) - d) + (2 * d) * (n / d + 1) := by rw [Int.mul_add, Int.mul_assoc]; omega
    rw [e, Int.add_mul_ediv_left _ _ (by omega), Int.ediv_eq_zero_of_lt (by omega) (by omega)]; omega
  · rename_i h
    have e : 2 * n + d = (2 * (n % d) + d) + (2 * d) * (n / d) := by rw [Int.mul_assoc]; omega
    rw [e, Int.add_mul_ediv_left _ _ (by omega), Int.ediv_eq_zero_of_lt (by omega) (by omega)]; omega
/-- bounds on a floor -/
theorem ediv_bd {n d N : Int} (hd : 0 < d) (h0 : -N ≤ n) (h1 : n ≤ N) (hN : 0 ≤ N) : -N ≤ n / d ∧ n / d ≤ N := by
  constructor
  · apply Int.le_ediv_of_mul_le hd
    have := Int.mul_le_mul_of_nonneg_left (show (1:Int) ≤ d by omega) hN
    rw [Int.neg_mul]; omega
  · by_cases hn : 0 ≤ n
    · have := Int.ediv_le_self d hn; omega
    · have := Int.ediv_neg_of_neg_of_pos (show n < 0 by omega) hd; omega
theorem ediv_mul_bd {n d : Int} (hd : 0 < d) : n - d < n / d * d ∧ n / d * d ≤ n := by
  have h2 := Int.mul_ediv_add_emod n d
  have h3 := Int.emod_nonneg n (show d ≠ 0 by omega)
  have h4 := Int.emod_lt_of_pos n hd
  rw [Int.mul_comm] at h2
  omega

/-- sums that are valid -/
def vF (c x y xx xy : Int) : Bool := inB c 0 60 && inB x 0 (c * 10000) && inB y (-c * 100000) (c * 100000) && inB xx 0 (c * 10000 * 10000) && inB xy (-c * 10000 * 100000) (c * 10000 * 100000) && decide (x * x ≤ c * xx)

/-- the slope's terms -/
def slN (c x y xx xy : Int) : Int := c * xy - x * y
def slD (c x y xx xy : Int) : Int := c * xx - x * x
/-- what valid sums bound -/
structure FB (c x y xx xy : Int) : Prop where
  c0 : 0 ≤ c
  c1 : c ≤ 60
  x0 : 0 ≤ x
  x1 : x ≤ 600000
  y0 : -6000000 ≤ y
  y1 : y ≤ 6000000
  xx0 : 0 ≤ xx
  xx1 : xx ≤ 6000000000
  xy0 : -60000000000 ≤ xy
  xy1 : xy ≤ 60000000000
  d0 : x * x ≤ c * xx
theorem vF_fb {c x y xx xy : Int} (h : vF c x y xx xy = true) : FB c x y xx xy := by
  simp only [vF, Bool.and_eq_true, inB_t, decide_eq_true_eq] at h
  obtain ⟨⟨⟨⟨⟨⟨h1, h2⟩, h3, h4⟩, h5, h6⟩, h7, h8⟩, h9, h10⟩, h11⟩ := h
  constructor <;> first | assumption | omega
theorem FB.cxy {c x y xx xy : Int} (f : FB c x y xx xy) : -3600000000000 ≤ c * xy ∧ c * xy ≤ 3600000000000 := by
  have := mul_bd (A := 60) (B := 60000000000) (by have := f.c0; omega) f.c1 (by have := f.xy0; omega) f.xy1; omega
theorem FB.xy {c x y xx xy : Int} (f : FB c x y xx xy) : -3600000000000 ≤ x * y ∧ x * y ≤ 3600000000000 := by
  have := mul_bd (A := 600000) (B := 6000000) (by have := f.x0; omega) f.x1 (by have := f.y0; omega) f.y1; omega
theorem FB.cxx {c x y xx xy : Int} (f : FB c x y xx xy) : 0 ≤ c * xx ∧ c * xx ≤ 360000000000 := by
  have := mul_nn f.c0 f.c1 f.xx0 f.xx1; omega
theorem FB.xx {c x y xx xy : Int} (f : FB c x y xx xy) : 0 ≤ x * x ∧ x * x ≤ 360000000000 := by
  have := mul_nn f.x0 f.x1 f.x0 f.x1; omega
theorem FB.n {c x y xx xy : Int} (f : FB c x y xx xy) : -7200000000000 ≤ slN c x y xx xy ∧ slN c x y xx xy ≤ 7200000000000 := by
  have := f.cxy; have := f.xy; unfold slN; omega
theorem FB.d {c x y xx xy : Int} (f : FB c x y xx xy) : 0 ≤ slD c x y xx xy ∧ slD c x y xx xy ≤ 360000000000 := by
  have := f.cxx; have := f.xx; have := f.d0; unfold slD; omega

/-- the code of a fit: 1 not valid, 6 without a line, 0 -/
def codeF (c x y xx xy : Int) : Int := if vF c x y xx xy then (if slD c x y xx xy = 0 then 6 else 0) else 1
/-- the slope of the fitted line, by day -/
def rateF (c x y xx xy : Int) : Int := if codeF c x y xx xy = 0 then nearD (24000 * slN c x y xx xy) (slD c x y xx xy) else 0
theorem codeF_v {c x y xx xy : Int} (h : codeF c x y xx xy = 0) : vF c x y xx xy = true := by
  unfold codeF at h; split at h
  · assumption
  · omega
theorem codeF_fb {c x y xx xy : Int} (h : codeF c x y xx xy = 0) : FB c x y xx xy := vF_fb (codeF_v h)
theorem codeF_d {c x y xx xy : Int} (h : codeF c x y xx xy = 0) : 0 < slD c x y xx xy := by
  have f := (codeF_fb h).d
  unfold codeF at h; rw [if_pos (codeF_v h)] at h; split at h <;> omega

/-- the value of the fitted line at an hour -/
def offV (c x y xx xy hr : Int) : Int := nearD (y * slD c x y xx xy + slN c x y xx xy * (hr * c - x)) (c * slD c x y xx xy)
/-- the bounds on the way to it -/
structure OB (c x y n d hr : Int) : Prop where
  hc0 : 0 ≤ hr * c
  hc1 : hr * c ≤ 600000
  yd0 : -2160000000000000000 ≤ y * d
  yd1 : y * d ≤ 2160000000000000000
  no0 : -4320000000000000000 ≤ n * (hr * c - x)
  no1 : n * (hr * c - x) ≤ 4320000000000000000
  cd0 : 0 < c * d
  cd1 : c * d ≤ 21600000000000
theorem ob_of {c x y xx xy hr : Int} (h : codeF c x y xx xy = 0) (h0 : 0 ≤ hr) (h1 : hr ≤ 10000) : OB c x y (slN c x y xx xy) (slD c x y xx xy) hr := by
  have f := codeF_fb h
  have dd := codeF_d h
  have n := f.n
  have d := f.d
  generalize slN c x y xx xy = N at *
  have hcp : 0 < c := by
    rcases Int.lt_or_le 0 c with h | h
    · exact h
    · have hc : c = 0 := by have := f.c0; omega
      subst hc
      have := f.d0
      unfold slD at dd; have h5 : 0 ≤ x * x := Int.mul_nonneg f.x0 f.x0; omega
  generalize slD c x y xx xy = D at *
  have a := mul_nn h0 h1 f.c0 f.c1
  have b := mul_bd (a := y) (b := D) (A := 6000000) (B := 360000000000) (by have := f.y0; omega) f.y1 (by omega) d.2
  have e := mul_bd (a := N) (b := hr * c - x) (A := 7200000000000) (B := 600000) (by omega) n.2 (by have := f.x1; omega) (by have := f.x0; omega)
  have g := mul_nn (a := c) (b := D) (A := 60) (B := 360000000000) f.c0 f.c1 d.1 d.2
  have g' : 0 < c * D := Int.mul_pos hcp dd
  constructor <;> omega
/-- the reference's way to the same value -/
structure OB' (c x y n d hr : Int) : Prop where
  w0 : -7200000000000 ≤ n / d
  w1 : n / d ≤ 7200000000000
  wd0 : -7560000000000 ≤ n / d * d
  wd1 : n / d * d ≤ 7200000000000
  ch0 : 0 ≤ c * hr
  ch1 : c * hr ≤ 600000
  wo0 : -4320000000000000000 ≤ n / d * (c * hr - x)
  wo1 : n / d * (c * hr - x) ≤ 4320000000000000000
  t0 : -6800000000000000000 ≤ (y + n / d * (c * hr - x)) * d
  t1 : (y + n / d * (c * hr - x)) * d ≤ 6800000000000000000
  r0 : -220000000000000000 ≤ (n - n / d * d) * (c * hr - x)
  r1 : (n - n / d * d) * (c * hr - x) ≤ 220000000000000000
  e : (y + n / d * (c * hr - x)) * d + (n - n / d * d) * (c * hr - x) = y * d + n * (hr * c - x)
theorem ob'_of {c x y xx xy hr : Int} (h : codeF c x y xx xy = 0) (h0 : 0 ≤ hr) (h1 : hr ≤ 10000) : OB' c x y (slN c x y xx xy) (slD c x y xx xy) hr := by
  have f := codeF_fb h
  have dd := codeF_d h
  have n := f.n
  have d := f.d
  generalize slN c x y xx xy = N at *
  generalize slD c x y xx xy = D at *
  have a := mul_nn (a := c) (b := hr) f.c0 f.c1 h0 h1
  obtain ⟨q0, q1⟩ := ediv_bd (n := N) (N := 7200000000000) dd (by omega) n.2 (by omega)
  obtain ⟨m0, m1⟩ := ediv_mul_bd (n := N) dd
  have ho0 : -600000 ≤ c * hr - x := by have := f.x1; omega
  have ho1 : c * hr - x ≤ 600000 := by have := f.x0; omega
  have hcomm : hr * c = c * hr := Int.mul_comm _ _
  have e1 : (y + N / D * (c * hr - x)) * D = y * D + N / D * D * (c * hr - x) := by
    rw [Int.add_mul, Int.mul_assoc, Int.mul_comm (c * hr - x) D, ← Int.mul_assoc]
  have e2 : (N - N / D * D) * (c * hr - x) = N * (c * hr - x) - N / D * D * (c * hr - x) := Int.sub_mul _ _ _
  rw [← hcomm] at a ho0 ho1 e1 e2
  have b := mul_bd (a := y) (b := D) (A := 6000000) (B := 360000000000) (by have := f.y0; omega) f.y1 (by omega) d.2
  have g := mul_bd (a := N / D) (b := hr * c - x) (A := 7200000000000) (B := 600000) (by omega) q1 ho0 ho1
  have k := mul_bd (a := N / D * D) (b := hr * c - x) (A := 7560000000000) (B := 600000) (by omega) (by omega) ho0 ho1
  have r := mul_bd (a := N - N / D * D) (b := hr * c - x) (A := 360000000000) (B := 600000) (by omega) (by omega) ho0 ho1
  constructor <;> first | (rw [hcomm] at *; omega) | omega
theorem inB_mid {h : Int} : inB h 0 10000 = true ↔ 0 ≤ h ∧ h ≤ 10000 := inB_t
/-- value and code of a fitted line at an hour -/
def offCode (c x y xx xy hr : Int) : Int := if codeF c x y xx xy = 0 then (if inB hr 0 10000 then 0 else 2) else codeF c x y xx xy
def offRes (c x y xx xy hr : Int) : Int := if offCode c x y xx xy hr = 0 then offV c x y xx xy hr else 0

/-- the code of a sum of two fits -/
def addCode (c x y xx xy c' x' y' xx' xy' : Int) : Int := if vF c x y xx xy && vF c' x' y' xx' xy' then (if 60 < c + c' then 5 else 0) else 1

/-- two pairs are alike -/
def eq2 (a b c d : Int) : Bool := a == c && b == d
/-- the first k pairs are alike -/
def eqTo (h o h' o' : Nat → Int) : Nat → Bool
  | 0 => true
  | k + 1 => eqTo h o h' o' k && eq2 (h k) (o k) (h' k) (o' k)
theorem eqTo_ff {h o h' o' : Nat → Int} {k n : Nat} (hk : k < n) (hh : eq2 (h k) (o k) (h' k) (o' k) = false) : eqTo h o h' o' n = false := by
  induction n with
  | zero => omega
  | succ n ih =>
    by_cases e : k = n
    · subst e; simp only [eqTo, hh, Bool.and_false]
    · simp only [eqTo, ih (by omega), Bool.false_and]
theorem eqTo_self {h o : Nat → Int} {n : Nat} : eqTo h o h o n = true := by
  induction n with
  | zero => rfl
  | succ n ih => simp [eqTo, eq2, ih]

end Go.Proofs.Ytmbpjlgeneemjaa

namespace Go.Proofs.Ytmbpjlgeneemjaa
set_option linter.unusedVariables false
/-- a fit as a value -/
def fitV (c x y xx xy : Int) : Value := .agg #[.int .i64 c, .int .i64 x, .int .i64 y, .int .i64 xx, .int .i64 xy]
def addV (c x y xx xy c' x' y' xx' xy' : Int) : Value := if addCode c x y xx xy c' x' y' xx' xy' = 0 then .agg #[.int .i64 (c + c'), .int .i64 (x + x'), .int .i64 (y + y'), .int .i64 (xx + xx'), .int .i64 (xy + xy')] else .agg #[.int .i64 0, .int .i64 0, .int .i64 0, .int .i64 0, .int .i64 0]
end Go.Proofs.Ytmbpjlgeneemjaa

namespace Go.Proofs.Ytmbpjlgeneemjaa
open Go.RowKit
set_option linter.unusedVariables false
set_option linter.unusedSimpArgs false

theorem within_c (n l h : Int) (w : World) :
    Calls Try.prog 50 #[.int .i64 n, .int .i64 l, .int .i64 h] w fun e w' => e = .returned (.bool (inB n l h)) ∧ w = w' := by
  go_enter Try.func50, Try.ntmps50
  go_wp2
  all_goals (go_ret; refine ⟨ret_bool ?_, rfl⟩; rw [Bool.eq_iff_iff]; simp [inB]; try omega)
theorem l00In_c (n l h : Int) (w : World) :
    Calls Try.prog 63 #[.int .i64 n, .int .i64 l, .int .i64 h] w fun e w' => e = .returned (.bool (inB n l h)) ∧ w = w' := by
  go_enter Try.func63, Try.ntmps63
  go_wp2
  all_goals (go_ret; refine ⟨ret_bool ?_, rfl⟩; rw [Bool.eq_iff_iff]; simp [inB]; try omega)

theorem floor_ret {n d q : Int} (hd : 0 < d) (h : q = n / d) : Ending.returned (.int .i64 q) = .returned (.int .i64 (n / d)) := by rw [h]
set_option maxHeartbeats 400000 in
theorem floorDiv_c (n d : Int) (w : World) (hd : 0 < d) (h0 : -9223372036854775807 ≤ n) (h1 : n ≤ 9223372036854775807) :
    Calls Try.prog 72 #[.int .i64 n, .int .i64 d] w fun e w' => e = .returned (.int .i64 (n / d)) ∧ w = w' := by
  have ht := Lib.hid (tdiv_floor (n := n) hd)
  have hb := ediv_bd hd (show -9223372036854775807 ≤ n by omega) h1 (by omega)
  have hd1 : 1 ≤ d := by omega
  have hz : (d == 0) = false := by simp; omega
  by_cases hm : n.tmod d < 0
  · have e : n.tdiv d = n / d + 1 := by rw [ht.out, if_pos hm]
    have hq : -9223372036854775807 ≤ n.tdiv d - 1 := by omega
    have hq' : n.tdiv d ≤ 9223372036854775807 := by
      have := Int.ediv_neg_of_neg_of_pos (show n < 0 by
        rcases Int.lt_or_le n 0 with h | h
        · exact h
        · have := Int.tmod_nonneg d h; omega) hd
      omega
    have E := Lib.hid e
    clear e
    go_enter Try.func72, Try.ntmps72
    go_wp2
    go_ret
    exact ⟨floor_ret hd (by have := E.out; omega), rfl⟩
  · have e : n.tdiv d = n / d := by rw [ht.out, if_neg hm]
    have E := Lib.hid e
    clear e
    go_enter Try.func72, Try.ntmps72
    go_wp2
    go_ret
    exact ⟨floor_ret hd (by have := E.out; omega), rfl⟩
set_option maxHeartbeats 400000 in
theorem l02Down_c (n d : Int) (w : World) (hd : 0 < d) (h0 : -9223372036854775807 ≤ n) (h1 : n ≤ 9223372036854775807) :
    Calls Try.prog 73 #[.int .i64 n, .int .i64 d] w fun e w' => e = .returned (.int .i64 (n / d)) ∧ w = w' := by
  have ht := Lib.hid (tdiv_floor (n := n) hd)
  have hb := ediv_bd hd (show -9223372036854775807 ≤ n by omega) h1 (by omega)
  have hd1 : 1 ≤ d := by omega
  have hz : (d == 0) = false := by simp; omega
  by_cases hm : n.tmod d < 0
  · have e : n.tdiv d = n / d + 1 := by rw [ht.out, if_pos hm]
    have hq : -9223372036854775807 ≤ n.tdiv d - 1 := by omega
    have hq' : n.tdiv d ≤ 9223372036854775807 := by
      have := Int.ediv_neg_of_neg_of_pos (show n < 0 by
        rcases Int.lt_or_le n 0 with h | h
        · exact h
        · have := Int.tmod_nonneg d h; omega) hd
      omega
    have E := Lib.hid e
    clear e
    go_enter Try.func73, Try.ntmps73
    go_wp2
    go_ret
    exact ⟨floor_ret hd (by have := E.out; omega), rfl⟩
  · have e : n.tdiv d = n / d := by rw [ht.out, if_neg hm]
    have E := Lib.hid e
    clear e
    go_enter Try.func73, Try.ntmps73
    go_wp2
    go_ret
    exact ⟨floor_ret hd (by have := E.out; omega), rfl⟩

theorem near_ret {n d q : Int} (hd : 0 < d) (h : q = if d - (n - n / d * d) ≤ n - n / d * d then n / d + 1 else n / d) : Ending.returned (.int .i64 q) = .returned (.int .i64 (nearD n d)) := by
  have e : n % d = n - n / d * d := by have := Int.mul_ediv_add_emod n d; rw [Int.mul_comm] at this; omega
  rw [h, nearD_eq hd, e]
set_option maxHeartbeats 400000 in
theorem nearestDiv_c (n d : Int) (w : World) (hd : 0 < d) (hd1 : d ≤ 1000000000000000000) (h0 : -8000000000000000000 ≤ n) (h1 : n ≤ 8000000000000000000) :
    Calls Try.prog 55 #[.int .i64 n, .int .i64 d] w fun e w' => e = .returned (.int .i64 (nearD n d)) ∧ w = w' := by
  obtain ⟨b0, b1⟩ := ediv_mul_bd (n := n) hd
  obtain ⟨q0, q1⟩ := ediv_bd (N := 8000000000000000000) hd h0 h1 (by omega)
  go_enter Try.func55, Try.ntmps55
  go_wp2_with (go_at_call 72; ((with_reducible refine (floorDiv_c _ _ _ (by omega) (by omega) (by omega)).mono ?_); rintro e w' ⟨rfl, rfl⟩))
  all_goals (go_ret; exact ⟨near_ret hd (by split <;> omega), rfl⟩)
set_option maxHeartbeats 400000 in
theorem l14Near_c (n d : Int) (w : World) (hd : 0 < d) (hd1 : d ≤ 1000000000000000000) (h0 : -8000000000000000000 ≤ n) (h1 : n ≤ 8000000000000000000) :
    Calls Try.prog 65 #[.int .i64 n, .int .i64 d] w fun e w' => e = .returned (.int .i64 (nearD n d)) ∧ w = w' := by
  obtain ⟨b0, b1⟩ := ediv_mul_bd (n := n) hd
  obtain ⟨q0, q1⟩ := ediv_bd (N := 8000000000000000000) hd h0 h1 (by omega)
  go_enter Try.func65, Try.ntmps65
  go_wp2_with (go_at_call 73; ((with_reducible refine (l02Down_c _ _ _ (by omega) (by omega) (by omega)).mono ?_); rintro e w' ⟨rfl, rfl⟩))
  all_goals (go_ret; exact ⟨near_ret hd (by split <;> omega), rfl⟩)

theorem vF_last {c x y xx xy : Int} (hc0 : 0 ≤ c) (hc1 : c ≤ 60) (h5 : (!inB c 0 60) = false) (h4 : inB x 0 (c * 10000) = true) (h3 : inB y (-c * 100000) (c * 100000) = true) (h2 : inB xx 0 (c * 10000 * 10000) = true)
    (h1 : inB xy (-c * 10000 * 100000) (c * 10000 * 100000) = true) : decide (wrap64 (x * x) ≤ wrap64 (c * xx)) = vF c x y xx xy := by
  have hx := inB_t.1 h4
  have hxx := inB_t.1 h2
  have p1 := mul_nn (A := 600000) (B := 600000) hx.1 (by omega) hx.1 (by omega)
  have p2 := mul_nn (A := 60) (B := 6000000000) hc0 (by omega) hxx.1 (by omega)
  rw [IntWalk.wrap64_in _ (by omega), IntWalk.wrap64_in _ (by omega)]
  simp_all [vF]
set_option maxHeartbeats 400000 in
theorem validFit_c (c x y xx xy : Int) (w : World) :
    Calls Try.prog 23 #[.agg #[.int .i64 c, .int .i64 x, .int .i64 y, .int .i64 xx, .int .i64 xy]] w fun e w' => e = .returned (.bool (vF c x y xx xy)) ∧ Ext w w' := by
  by_cases hc : 0 ≤ c ∧ c ≤ 60
  · obtain ⟨hc0, hc1⟩ := hc
    go_enter Try.func23, Try.ntmps23
    go_wp2_with (go_at_call 50; ((with_reducible refine (within_c _ _ _ _).mono ?_); rintro e w' ⟨rfl, rfl⟩))
    all_goals (go_ret; refine ⟨ret_bool ?_, (by repeat (first | with_reducible exact Ext.refl _ | with_reducible assumption | with_reducible refine Ext.alloc ?_ _ | with_reducible refine Ext.drew ?_ | (with_reducible refine Ext.setAt ?_ _ _ _ ?_; rotate_left; omega) | with_reducible refine Ext.trans ?_ (by assumption) | with_reducible exact Past.bel _ | with_reducible refine Ext.trans ?_ (Past.bel _)))⟩)
    all_goals first | (simp_all [vF]; done) | (rename_i h5 h4 h3 h2 h1; exact vF_last hc0 hc1 h5 h4 h3 h2 h1)
  · have hc' : inB c 0 60 = false := inB_f.2 hc
    go_enter Try.func23, Try.ntmps23
    go_wp2_with (go_at_call 50; ((with_reducible refine (within_c _ _ _ _).mono ?_); rintro e w' ⟨rfl, rfl⟩))
    all_goals (go_ret; refine ⟨ret_bool ?_, (by repeat (first | with_reducible exact Ext.refl _ | with_reducible assumption | with_reducible refine Ext.alloc ?_ _ | with_reducible refine Ext.drew ?_ | (with_reducible refine Ext.setAt ?_ _ _ _ ?_; rotate_left; omega) | with_reducible refine Ext.trans ?_ (by assumption) | with_reducible exact Past.bel _ | with_reducible refine Ext.trans ?_ (Past.bel _)))⟩)
    all_goals simp [vF, hc']
theorem vF_last' {c x y xx xy : Int} (hc0 : 0 ≤ c) (hc1 : c ≤ 60) (h5 : inB c 0 60 = true) (h4 : inB x 0 (c * 10000) = true) (h3 : (!inB y (-c * 100000) (c * 100000)) = false) (h2 : inB xx 0 (c * 10000 * 10000) = true)
    (h1 : inB xy (-(c * 10000 * 100000)) (c * 10000 * 100000) = true) : decide (wrap64 (x * x) ≤ wrap64 (c * xx)) = vF c x y xx xy :=
  vF_last hc0 hc1 (by simpa using h5) h4 (by simpa using h3) h2 (by simpa [Int.neg_mul] using h1)
set_option maxHeartbeats 400000 in
theorem l14FitOk_c (c x y xx xy : Int) (w : World) :
    Calls Try.prog 66 #[.agg #[.int .i64 c, .int .i64 x, .int .i64 y, .int .i64 xx, .int .i64 xy]] w fun e w' => e = .returned (.bool (vF c x y xx xy)) ∧ Ext w w' := by
  by_cases hc : 0 ≤ c ∧ c ≤ 60
  · obtain ⟨hc0, hc1⟩ := hc
    go_enter Try.func66, Try.ntmps66
    go_wp2_with (go_at_call 63; ((with_reducible refine (l00In_c _ _ _ _).mono ?_); rintro e w' ⟨rfl, rfl⟩))
    all_goals (go_ret; refine ⟨ret_bool ?_, (by repeat (first | with_reducible exact Ext.refl _ | with_reducible assumption | with_reducible refine Ext.alloc ?_ _ | with_reducible refine Ext.drew ?_ | (with_reducible refine Ext.setAt ?_ _ _ _ ?_; rotate_left; omega) | with_reducible refine Ext.trans ?_ (by assumption) | with_reducible exact Past.bel _ | with_reducible refine Ext.trans ?_ (Past.bel _)))⟩)
    all_goals first | (simp_all [vF, Int.neg_mul]; done) | (rename_i h5 h4 h3 h2 h1; exact vF_last' hc0 hc1 h5 h4 h3 h2 h1)
  · have hc' : inB c 0 60 = false := inB_f.2 hc
    go_enter Try.func66, Try.ntmps66
    go_wp2_with (go_at_call 63; ((with_reducible refine (l00In_c _ _ _ _).mono ?_); rintro e w' ⟨rfl, rfl⟩))
    all_goals (go_ret; refine ⟨ret_bool ?_, (by repeat (first | with_reducible exact Ext.refl _ | with_reducible assumption | with_reducible refine Ext.alloc ?_ _ | with_reducible refine Ext.drew ?_ | (with_reducible refine Ext.setAt ?_ _ _ _ ?_; rotate_left; omega) | with_reducible refine Ext.trans ?_ (by assumption) | with_reducible exact Past.bel _ | with_reducible refine Ext.trans ?_ (Past.bel _)))⟩)
    all_goals simp [vF, hc']
theorem specValidFit_c (c x y xx xy : Int) (w : World) :
    Calls Try.prog 36 #[.agg #[.int .i64 c, .int .i64 x, .int .i64 y, .int .i64 xx, .int .i64 xy]] w fun e w' => e = .returned (.bool (vF c x y xx xy)) ∧ Ext w w' := by
  go_enter Try.func36, Try.ntmps36
  go_wp2_with (go_at_call 66; ((with_reducible refine (l14FitOk_c _ _ _ _ _ _).mono ?_); rintro e w' ⟨rfl, hx⟩; (first | (obtain ⟨wx, rfl⟩ := Past.again hx) | (obtain ⟨wx, rfl⟩ := Past.ofd hx) | (obtain ⟨wx, rfl⟩ := Past.of hx))))
  go_ret
  exact ⟨rfl, (by repeat (first | with_reducible exact Ext.refl _ | with_reducible assumption | with_reducible refine Ext.alloc ?_ _ | with_reducible refine Ext.drew ?_ | (with_reducible refine Ext.setAt ?_ _ _ _ ?_; rotate_left; omega) | with_reducible refine Ext.trans ?_ (by assumption) | with_reducible exact Past.bel _ | with_reducible refine Ext.trans ?_ (Past.bel _)))⟩
set_option maxHeartbeats 400000 in
theorem slopeOf_c (c x y xx xy : Int) (f : FB c x y xx xy) (w : World) :
    Calls Try.prog 53 #[.agg #[.int .i64 c, .int .i64 x, .int .i64 y, .int .i64 xx, .int .i64 xy]] w fun e w' => e = .returned (.tuple #[.int .i64 (slN c x y xx xy), .int .i64 (slD c x y xx xy)]) ∧ Ext w w' := by
  obtain ⟨a0, a1⟩ := f.cxy
  obtain ⟨b0, b1⟩ := f.xy
  obtain ⟨c0, c1⟩ := f.cxx
  obtain ⟨d0, d1⟩ := f.xx
  clear f
  go_enter Try.func53, Try.ntmps53
  go_wp2_with fail
  refine wp_region_past (by kernel_rfl) (by kernel_rfl) ?_
  repeat (go_big_quiet_step (fail))
  refine wpQuiet_nil ?_
  rintro _ ⟨wx, rfl⟩
  go_wp2_with fail
  go_ret2
  exact ⟨rfl, (by repeat (first | with_reducible exact Ext.refl _ | with_reducible assumption | with_reducible refine Ext.alloc ?_ _ | with_reducible refine Ext.drew ?_ | (with_reducible refine Ext.setAt ?_ _ _ _ ?_; rotate_left; omega) | with_reducible refine Ext.trans ?_ (by assumption) | with_reducible exact Past.bel _ | with_reducible refine Ext.trans ?_ (Past.bel _)))⟩
set_option maxHeartbeats 400000 in
theorem l14Slope_c (c x y xx xy : Int) (f : FB c x y xx xy) (w : World) :
    Calls Try.prog 64 #[.agg #[.int .i64 c, .int .i64 x, .int .i64 y, .int .i64 xx, .int .i64 xy]] w fun e w' => e = .returned (.tuple #[.int .i64 (slN c x y xx xy), .int .i64 (slD c x y xx xy)]) ∧ Ext w w' := by
  obtain ⟨a0, a1⟩ := f.cxy
  obtain ⟨b0, b1⟩ := f.xy
  obtain ⟨c0, c1⟩ := f.cxx
  obtain ⟨d0, d1⟩ := f.xx
  clear f
  go_enter Try.func64, Try.ntmps64
  go_wp2_with fail
  refine wp_region_past (by kernel_rfl) (by kernel_rfl) ?_
  repeat (go_big_quiet_step (fail))
  refine wpQuiet_nil ?_
  rintro _ ⟨wx, rfl⟩
  go_wp2_with fail
  go_ret2
  exact ⟨rfl, (by repeat (first | with_reducible exact Ext.refl _ | with_reducible assumption | with_reducible refine Ext.alloc ?_ _ | with_reducible refine Ext.drew ?_ | (with_reducible refine Ext.setAt ?_ _ _ _ ?_; rotate_left; omega) | with_reducible refine Ext.trans ?_ (by assumption) | with_reducible exact Past.bel _ | with_reducible refine Ext.trans ?_ (Past.bel _)))⟩
set_option maxHeartbeats 400000 in
theorem l14Code_c (c x y xx xy : Int) (w : World) :
    Calls Try.prog 56 #[.agg #[.int .i64 c, .int .i64 x, .int .i64 y, .int .i64 xx, .int .i64 xy]] w fun e w' => e = .returned (.int .i64 (codeF c x y xx xy)) ∧ Ext w w' := by
  by_cases hv : vF c x y xx xy = true
  · have f := vF_fb hv
    go_enter Try.func56, Try.ntmps56
    go_wp2_with (first | (go_at_call 66; ((with_reducible refine (l14FitOk_c _ _ _ _ _ _).mono ?_); rintro e w' ⟨rfl, hx⟩; (first | (obtain ⟨wx, rfl⟩ := Past.again hx) | (obtain ⟨wx, rfl⟩ := Past.ofd hx) | (obtain ⟨wx, rfl⟩ := Past.of hx)))) | (go_at_call 64; ((with_reducible refine (l14Slope_c _ _ _ _ _ f _).mono ?_); rintro e w' ⟨rfl, hx⟩; (first | (obtain ⟨wx, rfl⟩ := Past.again hx) | (obtain ⟨wx, rfl⟩ := Past.ofd hx) | (obtain ⟨wx, rfl⟩ := Past.of hx)))))
    all_goals (go_ret; refine ⟨ret_i64 ?_, (by repeat (first | with_reducible exact Ext.refl _ | with_reducible assumption | with_reducible refine Ext.alloc ?_ _ | with_reducible refine Ext.drew ?_ | (with_reducible refine Ext.setAt ?_ _ _ _ ?_; rotate_left; omega) | with_reducible refine Ext.trans ?_ (by assumption) | with_reducible exact Past.bel _ | with_reducible refine Ext.trans ?_ (Past.bel _)))⟩)
    all_goals simp_all [codeF]
  · have hv' : vF c x y xx xy = false := by simpa using hv
    go_enter Try.func56, Try.ntmps56
    go_wp2_with (go_at_call 66; ((with_reducible refine (l14FitOk_c _ _ _ _ _ _).mono ?_); rintro e w' ⟨rfl, hx⟩; (first | (obtain ⟨wx, rfl⟩ := Past.again hx) | (obtain ⟨wx, rfl⟩ := Past.ofd hx) | (obtain ⟨wx, rfl⟩ := Past.of hx))))
    all_goals (go_ret; refine ⟨ret_i64 ?_, (by repeat (first | with_reducible exact Ext.refl _ | with_reducible assumption | with_reducible refine Ext.alloc ?_ _ | with_reducible refine Ext.drew ?_ | (with_reducible refine Ext.setAt ?_ _ _ _ ?_; rotate_left; omega) | with_reducible refine Ext.trans ?_ (by assumption) | with_reducible exact Past.bel _ | with_reducible refine Ext.trans ?_ (Past.bel _)))⟩)
    all_goals simp_all [codeF]
set_option maxHeartbeats 400000 in
theorem dailyRate_c (c x y xx xy : Int) (w : World) :
    Calls Try.prog 25 #[.agg #[.int .i64 c, .int .i64 x, .int .i64 y, .int .i64 xx, .int .i64 xy]] w fun e w' => e = .returned (.tuple #[.int .i64 (rateF c x y xx xy), .int .i64 (codeF c x y xx xy)]) ∧ Ext w w' := by
  by_cases hv : vF c x y xx xy = true
  · have f := vF_fb hv
    obtain ⟨n0, n1⟩ := f.n
    obtain ⟨d0, d1⟩ := f.d
    go_enter Try.func25, Try.ntmps25
    go_wp2_with (first | (go_at_call 23; ((with_reducible refine (validFit_c _ _ _ _ _ _).mono ?_); rintro e w' ⟨rfl, hx⟩; (first | (obtain ⟨wx, rfl⟩ := Past.again hx) | (obtain ⟨wx, rfl⟩ := Past.ofd hx) | (obtain ⟨wx, rfl⟩ := Past.of hx)))) | (go_at_call 53; ((with_reducible refine (slopeOf_c _ _ _ _ _ f _).mono ?_); rintro e w' ⟨rfl, hx⟩; (first | (obtain ⟨wx, rfl⟩ := Past.again hx) | (obtain ⟨wx, rfl⟩ := Past.ofd hx) | (obtain ⟨wx, rfl⟩ := Past.of hx)))) | (go_at_call 55; ((with_reducible refine (nearestDiv_c _ _ _ (by simp_all; omega) (by omega) (by omega) (by omega)).mono ?_); rintro e w' ⟨rfl, rfl⟩)))
    all_goals (go_ret2; refine ⟨ret_two (congrArg (Value.int .i64) ?_) (congrArg (Value.int .i64) ?_), (by repeat (first | with_reducible exact Ext.refl _ | with_reducible assumption | with_reducible refine Ext.alloc ?_ _ | with_reducible refine Ext.drew ?_ | (with_reducible refine Ext.setAt ?_ _ _ _ ?_; rotate_left; omega) | with_reducible refine Ext.trans ?_ (by assumption) | with_reducible exact Past.bel _ | with_reducible refine Ext.trans ?_ (Past.bel _)))⟩)
    all_goals simp_all [codeF, rateF]
  · have hv' : vF c x y xx xy = false := by simpa using hv
    go_enter Try.func25, Try.ntmps25
    go_wp2_with (go_at_call 23; ((with_reducible refine (validFit_c _ _ _ _ _ _).mono ?_); rintro e w' ⟨rfl, hx⟩; (first | (obtain ⟨wx, rfl⟩ := Past.again hx) | (obtain ⟨wx, rfl⟩ := Past.ofd hx) | (obtain ⟨wx, rfl⟩ := Past.of hx))))
    all_goals (go_ret2; refine ⟨ret_two (congrArg (Value.int .i64) ?_) (congrArg (Value.int .i64) ?_), (by repeat (first | with_reducible exact Ext.refl _ | with_reducible assumption | with_reducible refine Ext.alloc ?_ _ | with_reducible refine Ext.drew ?_ | (with_reducible refine Ext.setAt ?_ _ _ _ ?_; rotate_left; omega) | with_reducible refine Ext.trans ?_ (by assumption) | with_reducible exact Past.bel _ | with_reducible refine Ext.trans ?_ (Past.bel _)))⟩)
    all_goals simp_all [codeF, rateF]
set_option maxHeartbeats 400000 in
theorem specDailyRate_c (c x y xx xy : Int) (w : World) :
    Calls Try.prog 35 #[.agg #[.int .i64 c, .int .i64 x, .int .i64 y, .int .i64 xx, .int .i64 xy]] w fun e w' => e = .returned (.tuple #[.int .i64 (rateF c x y xx xy), .int .i64 (codeF c x y xx xy)]) ∧ Ext w w' := by
  by_cases hv : codeF c x y xx xy = 0
  · have f := codeF_fb hv
    obtain ⟨n0, n1⟩ := f.n
    obtain ⟨d0, d1⟩ := f.d
    have dd := codeF_d hv
    go_enter Try.func35, Try.ntmps35
    go_wp2_with (first | (go_at_call 56; ((with_reducible refine (l14Code_c _ _ _ _ _ _).mono ?_); rintro e w' ⟨rfl, hx⟩; (first | (obtain ⟨wx, rfl⟩ := Past.again hx) | (obtain ⟨wx, rfl⟩ := Past.ofd hx) | (obtain ⟨wx, rfl⟩ := Past.of hx)))) | (go_at_call 64; ((with_reducible refine (l14Slope_c _ _ _ _ _ f _).mono ?_); rintro e w' ⟨rfl, hx⟩; (first | (obtain ⟨wx, rfl⟩ := Past.again hx) | (obtain ⟨wx, rfl⟩ := Past.ofd hx) | (obtain ⟨wx, rfl⟩ := Past.of hx)))) | (go_at_call 65; ((with_reducible refine (l14Near_c _ _ _ dd (by omega) (by omega) (by omega)).mono ?_); rintro e w' ⟨rfl, rfl⟩)))
    all_goals (go_ret2; refine ⟨ret_two (congrArg (Value.int .i64) ?_) (congrArg (Value.int .i64) ?_), (by repeat (first | with_reducible exact Ext.refl _ | with_reducible assumption | with_reducible refine Ext.alloc ?_ _ | with_reducible refine Ext.drew ?_ | (with_reducible refine Ext.setAt ?_ _ _ _ ?_; rotate_left; omega) | with_reducible refine Ext.trans ?_ (by assumption) | with_reducible exact Past.bel _ | with_reducible refine Ext.trans ?_ (Past.bel _)))⟩)
    all_goals simp_all [rateF]
  · go_enter Try.func35, Try.ntmps35
    go_wp2_with (go_at_call 56; ((with_reducible refine (l14Code_c _ _ _ _ _ _).mono ?_); rintro e w' ⟨rfl, hx⟩; (first | (obtain ⟨wx, rfl⟩ := Past.again hx) | (obtain ⟨wx, rfl⟩ := Past.ofd hx) | (obtain ⟨wx, rfl⟩ := Past.of hx))))
    all_goals (go_ret2; refine ⟨ret_two (congrArg (Value.int .i64) ?_) (congrArg (Value.int .i64) ?_), (by repeat (first | with_reducible exact Ext.refl _ | with_reducible assumption | with_reducible refine Ext.alloc ?_ _ | with_reducible refine Ext.drew ?_ | (with_reducible refine Ext.setAt ?_ _ _ _ ?_; rotate_left; omega) | with_reducible refine Ext.trans ?_ (by assumption) | with_reducible exact Past.bel _ | with_reducible refine Ext.trans ?_ (Past.bel _)))⟩)
    all_goals simp_all [rateF]
set_option maxHeartbeats 400000 in
theorem offAt_c (c x y xx xy hr : Int) (hv : codeF c x y xx xy = 0) (h0 : 0 ≤ hr) (h1 : hr ≤ 10000) (w : World) :
    Calls Try.prog 54 #[.agg #[.int .i64 c, .int .i64 x, .int .i64 y, .int .i64 xx, .int .i64 xy], .int .i64 hr] w fun e w' => e = .returned (.int .i64 (offV c x y xx xy hr)) ∧ Ext w w' := by
  have f := codeF_fb hv
  obtain ⟨b0, b1, b2, b3, b4, b5, b6, b7⟩ := ob_of hv h0 h1
  have hx0 := f.x0
  have hx1 := f.x1
  have HV := Lib.hid hv
  clear hv
  go_enter Try.func54, Try.ntmps54
  go_wp2_with (first | (go_at_call 53; ((with_reducible refine (slopeOf_c _ _ _ _ _ f _).mono ?_); rintro e w' ⟨rfl, hx⟩; (first | (obtain ⟨wx, rfl⟩ := Past.again hx) | (obtain ⟨wx, rfl⟩ := Past.ofd hx) | (obtain ⟨wx, rfl⟩ := Past.of hx)))) | (go_at_call 55; ((with_reducible refine (nearestDiv_c _ _ _ b6 (by omega) (by omega) (by omega)).mono ?_); rintro e w' ⟨rfl, rfl⟩)))
  go_ret
  exact ⟨rfl, (by repeat (first | with_reducible exact Ext.refl _ | with_reducible assumption | with_reducible refine Ext.alloc ?_ _ | with_reducible refine Ext.drew ?_ | (with_reducible refine Ext.setAt ?_ _ _ _ ?_; rotate_left; omega) | with_reducible refine Ext.trans ?_ (by assumption) | with_reducible exact Past.bel _ | with_reducible refine Ext.trans ?_ (Past.bel _)))⟩
set_option maxHeartbeats 400000 in
theorem l14At_c (c x y xx xy hr : Int) (hv : codeF c x y xx xy = 0) (h0 : 0 ≤ hr) (h1 : hr ≤ 10000) (w : World) :
    Calls Try.prog 57 #[.agg #[.int .i64 c, .int .i64 x, .int .i64 y, .int .i64 xx, .int .i64 xy], .int .i64 hr] w fun e w' => e = .returned (.int .i64 (offV c x y xx xy hr)) ∧ Ext w w' := by
  have f := codeF_fb hv
  obtain ⟨b0, b1, b2, b3, b4, b5, b6, b7⟩ := ob_of hv h0 h1
  obtain ⟨c0, c1, c2, c3, c4, c5, c6, c7, c8, c9, c10, c11, ce⟩ := ob'_of hv h0 h1
  have hx0 := f.x0
  have hx1 := f.x1
  have hy0 := f.y0
  have hy1 := f.y1
  obtain ⟨n0, n1⟩ := f.n
  have dd := codeF_d hv
  have HV := Lib.hid hv
  have CE := Lib.hid ce
  clear hv ce
  go_enter Try.func57, Try.ntmps57
  go_wp2_with (first | (go_at_call 64; ((with_reducible refine (l14Slope_c _ _ _ _ _ f _).mono ?_); rintro e w' ⟨rfl, hx⟩; (first | (obtain ⟨wx, rfl⟩ := Past.again hx) | (obtain ⟨wx, rfl⟩ := Past.ofd hx) | (obtain ⟨wx, rfl⟩ := Past.of hx)))) | (go_at_call 73; ((with_reducible refine (l02Down_c _ _ _ dd (by omega) (by omega)).mono ?_); rintro e w' ⟨rfl, rfl⟩)) | (go_at_call 65; ((with_reducible refine (l14Near_c _ _ _ b6 (by omega) (by omega) (by omega)).mono ?_); rintro e w' ⟨rfl, rfl⟩)))
  go_ret
  exact ⟨ret_i64 (by rw [CE.out]; rfl), (by repeat (first | with_reducible exact Ext.refl _ | with_reducible assumption | with_reducible refine Ext.alloc ?_ _ | with_reducible refine Ext.drew ?_ | (with_reducible refine Ext.setAt ?_ _ _ _ ?_; rotate_left; omega) | with_reducible refine Ext.trans ?_ (by assumption) | with_reducible exact Past.bel _ | with_reducible refine Ext.trans ?_ (Past.bel _)))⟩
set_option maxHeartbeats 400000 in
theorem implOffAt_c (c x y xx xy hr : Int) (w : World) :
    Calls Try.prog 24 #[.agg #[.int .i64 c, .int .i64 x, .int .i64 y, .int .i64 xx, .int .i64 xy], .int .i64 hr] w fun e w' => e = .returned (.tuple #[.int .i64 (offRes c x y xx xy hr), .int .i64 (offCode c x y xx xy hr)]) ∧ Ext w w' := by
  by_cases hv : vF c x y xx xy = true
  · have f := vF_fb hv
    by_cases hd : slD c x y xx xy = 0
    · have hd' : (slD c x y xx xy == 0) = true := by simpa using hd
      clear hd
      go_enter Try.func24, Try.ntmps24
      go_wp2_with (first | (go_at_call 23; ((with_reducible refine (validFit_c _ _ _ _ _ _).mono ?_); rintro e w' ⟨rfl, hx⟩; (first | (obtain ⟨wx, rfl⟩ := Past.again hx) | (obtain ⟨wx, rfl⟩ := Past.ofd hx) | (obtain ⟨wx, rfl⟩ := Past.of hx)))) | (go_at_call 53; ((with_reducible refine (slopeOf_c _ _ _ _ _ f _).mono ?_); rintro e w' ⟨rfl, hx⟩; (first | (obtain ⟨wx, rfl⟩ := Past.again hx) | (obtain ⟨wx, rfl⟩ := Past.ofd hx) | (obtain ⟨wx, rfl⟩ := Past.of hx)))))
      all_goals (go_ret2; refine ⟨ret_two (congrArg (Value.int .i64) ?_) (congrArg (Value.int .i64) ?_), (by repeat (first | with_reducible exact Ext.refl _ | with_reducible assumption | with_reducible refine Ext.alloc ?_ _ | with_reducible refine Ext.drew ?_ | (with_reducible refine Ext.setAt ?_ _ _ _ ?_; rotate_left; omega) | with_reducible refine Ext.trans ?_ (by assumption) | with_reducible exact Past.bel _ | with_reducible refine Ext.trans ?_ (Past.bel _)))⟩)
      all_goals simp_all [codeF, offCode, offRes]
    · have hd' : (slD c x y xx xy == 0) = false := by simpa using hd
      have hcode : codeF c x y xx xy = 0 := by simp [codeF, hv, hd]
      have HC := Lib.hid hcode
      clear hd hcode
      by_cases hh : inB hr 0 10000 = true
      · obtain ⟨h0, h1⟩ := inB_t.1 hh
        go_enter Try.func24, Try.ntmps24
        go_wp2_with (first | (go_at_call 23; ((with_reducible refine (validFit_c _ _ _ _ _ _).mono ?_); rintro e w' ⟨rfl, hx⟩; (first | (obtain ⟨wx, rfl⟩ := Past.again hx) | (obtain ⟨wx, rfl⟩ := Past.ofd hx) | (obtain ⟨wx, rfl⟩ := Past.of hx)))) | (go_at_call 53; ((with_reducible refine (slopeOf_c _ _ _ _ _ f _).mono ?_); rintro e w' ⟨rfl, hx⟩; (first | (obtain ⟨wx, rfl⟩ := Past.again hx) | (obtain ⟨wx, rfl⟩ := Past.ofd hx) | (obtain ⟨wx, rfl⟩ := Past.of hx)))) | (go_at_call 50; ((with_reducible refine (within_c _ _ _ _).mono ?_); rintro e w' ⟨rfl, rfl⟩)) | (go_at_call 54; ((with_reducible refine (offAt_c _ _ _ _ _ _ HC.out h0 h1 _).mono ?_); rintro e w' ⟨rfl, hx⟩; (first | (obtain ⟨wx, rfl⟩ := Past.again hx) | (obtain ⟨wx, rfl⟩ := Past.ofd hx) | (obtain ⟨wx, rfl⟩ := Past.of hx)))))
        all_goals (go_ret2; refine ⟨ret_two (congrArg (Value.int .i64) ?_) (congrArg (Value.int .i64) ?_), (by repeat (first | with_reducible exact Ext.refl _ | with_reducible assumption | with_reducible refine Ext.alloc ?_ _ | with_reducible refine Ext.drew ?_ | (with_reducible refine Ext.setAt ?_ _ _ _ ?_; rotate_left; omega) | with_reducible refine Ext.trans ?_ (by assumption) | with_reducible exact Past.bel _ | with_reducible refine Ext.trans ?_ (Past.bel _)))⟩)
        all_goals simp [offCode, offRes, HC.out, hh]
      · have hh' : inB hr 0 10000 = false := by simpa using hh
        go_enter Try.func24, Try.ntmps24
        go_wp2_with (first | (go_at_call 23; ((with_reducible refine (validFit_c _ _ _ _ _ _).mono ?_); rintro e w' ⟨rfl, hx⟩; (first | (obtain ⟨wx, rfl⟩ := Past.again hx) | (obtain ⟨wx, rfl⟩ := Past.ofd hx) | (obtain ⟨wx, rfl⟩ := Past.of hx)))) | (go_at_call 53; ((with_reducible refine (slopeOf_c _ _ _ _ _ f _).mono ?_); rintro e w' ⟨rfl, hx⟩; (first | (obtain ⟨wx, rfl⟩ := Past.again hx) | (obtain ⟨wx, rfl⟩ := Past.ofd hx) | (obtain ⟨wx, rfl⟩ := Past.of hx)))) | (go_at_call 50; ((with_reducible refine (within_c _ _ _ _).mono ?_); rintro e w' ⟨rfl, rfl⟩)))
        all_goals (go_ret2; refine ⟨ret_two (congrArg (Value.int .i64) ?_) (congrArg (Value.int .i64) ?_), (by repeat (first | with_reducible exact Ext.refl _ | with_reducible assumption | with_reducible refine Ext.alloc ?_ _ | with_reducible refine Ext.drew ?_ | (with_reducible refine Ext.setAt ?_ _ _ _ ?_; rotate_left; omega) | with_reducible refine Ext.trans ?_ (by assumption) | with_reducible exact Past.bel _ | with_reducible refine Ext.trans ?_ (Past.bel _)))⟩)
        all_goals simp [offCode, offRes, HC.out, hh']
  · have hv' : vF c x y xx xy = false := by simpa using hv
    go_enter Try.func24, Try.ntmps24
    go_wp2_with (go_at_call 23; ((with_reducible refine (validFit_c _ _ _ _ _ _).mono ?_); rintro e w' ⟨rfl, hx⟩; (first | (obtain ⟨wx, rfl⟩ := Past.again hx) | (obtain ⟨wx, rfl⟩ := Past.ofd hx) | (obtain ⟨wx, rfl⟩ := Past.of hx))))
    all_goals (go_ret2; refine ⟨ret_two (congrArg (Value.int .i64) ?_) (congrArg (Value.int .i64) ?_), (by repeat (first | with_reducible exact Ext.refl _ | with_reducible assumption | with_reducible refine Ext.alloc ?_ _ | with_reducible refine Ext.drew ?_ | (with_reducible refine Ext.setAt ?_ _ _ _ ?_; rotate_left; omega) | with_reducible refine Ext.trans ?_ (by assumption) | with_reducible exact Past.bel _ | with_reducible refine Ext.trans ?_ (Past.bel _)))⟩)
    all_goals simp_all [codeF, offCode, offRes]
end Go.Proofs.Ytmbpjlgeneemjaa

namespace Go.Proofs.Ytmbpjlgeneemjaa
open Go.RowKit
set_option linter.unusedVariables false
set_option linter.unusedSimpArgs false

set_option maxHeartbeats 400000 in
theorem specOffAt_c (c x y xx xy hr : Int) (w : World) :
    Calls Try.prog 34 #[.agg #[.int .i64 c, .int .i64 x, .int .i64 y, .int .i64 xx, .int .i64 xy], .int .i64 hr] w fun e w' => e = .returned (.tuple #[.int .i64 (offRes c x y xx xy hr), .int .i64 (offCode c x y xx xy hr)]) ∧ Ext w w' := by
  by_cases hv : codeF c x y xx xy = 0
  · have hv' : (codeF c x y xx xy != 0) = false := by simpa using hv
    have HC := Lib.hid hv
    clear hv
    by_cases hh : inB hr 0 10000 = true
    · obtain ⟨h0, h1⟩ := inB_t.1 hh
      go_enter Try.func34, Try.ntmps34
      go_wp2_with (first | (go_at_call 56; ((with_reducible refine (l14Code_c _ _ _ _ _ _).mono ?_); rintro e w' ⟨rfl, hx⟩; (first | (obtain ⟨wx, rfl⟩ := Past.again hx) | (obtain ⟨wx, rfl⟩ := Past.ofd hx) | (obtain ⟨wx, rfl⟩ := Past.of hx)))) | (go_at_call 63; ((with_reducible refine (l00In_c _ _ _ _).mono ?_); rintro e w' ⟨rfl, rfl⟩)) | (go_at_call 57; ((with_reducible refine (l14At_c _ _ _ _ _ _ HC.out h0 h1 _).mono ?_); rintro e w' ⟨rfl, hx⟩; (first | (obtain ⟨wx, rfl⟩ := Past.again hx) | (obtain ⟨wx, rfl⟩ := Past.ofd hx) | (obtain ⟨wx, rfl⟩ := Past.of hx)))))
      all_goals (go_ret2; refine ⟨ret_two (congrArg (Value.int .i64) ?_) (congrArg (Value.int .i64) ?_), (by repeat (first | with_reducible exact Ext.refl _ | with_reducible assumption | with_reducible refine Ext.alloc ?_ _ | with_reducible refine Ext.drew ?_ | (with_reducible refine Ext.setAt ?_ _ _ _ ?_; rotate_left; omega) | with_reducible refine Ext.trans ?_ (by assumption) | with_reducible exact Past.bel _ | with_reducible refine Ext.trans ?_ (Past.bel _)))⟩)
      all_goals simp [offCode, offRes, HC.out, hh]
    · have hh' : inB hr 0 10000 = false := by simpa using hh
      go_enter Try.func34, Try.ntmps34
      go_wp2_with (first | (go_at_call 56; ((with_reducible refine (l14Code_c _ _ _ _ _ _).mono ?_); rintro e w' ⟨rfl, hx⟩; (first | (obtain ⟨wx, rfl⟩ := Past.again hx) | (obtain ⟨wx, rfl⟩ := Past.ofd hx) | (obtain ⟨wx, rfl⟩ := Past.of hx)))) | (go_at_call 63; ((with_reducible refine (l00In_c _ _ _ _).mono ?_); rintro e w' ⟨rfl, rfl⟩)))
      all_goals (go_ret2; refine ⟨ret_two (congrArg (Value.int .i64) ?_) (congrArg (Value.int .i64) ?_), (by repeat (first | with_reducible exact Ext.refl _ | with_reducible assumption | with_reducible refine Ext.alloc ?_ _ | with_reducible refine Ext.drew ?_ | (with_reducible refine Ext.setAt ?_ _ _ _ ?_; rotate_left; omega) | with_reducible refine Ext.trans ?_ (by assumption) | with_reducible exact Past.bel _ | with_reducible refine Ext.trans ?_ (Past.bel _)))⟩)
      all_goals simp [offCode, offRes, HC.out, hh']
  · have hv' : (codeF c x y xx xy != 0) = true := by simpa using hv
    go_enter Try.func34, Try.ntmps34
    go_wp2_with (go_at_call 56; ((with_reducible refine (l14Code_c _ _ _ _ _ _).mono ?_); rintro e w' ⟨rfl, hx⟩; (first | (obtain ⟨wx, rfl⟩ := Past.again hx) | (obtain ⟨wx, rfl⟩ := Past.ofd hx) | (obtain ⟨wx, rfl⟩ := Past.of hx))))
    all_goals (go_ret2; refine ⟨ret_two (congrArg (Value.int .i64) ?_) (congrArg (Value.int .i64) ?_), (by repeat (first | with_reducible exact Ext.refl _ | with_reducible assumption | with_reducible refine Ext.alloc ?_ _ | with_reducible refine Ext.drew ?_ | (with_reducible refine Ext.setAt ?_ _ _ _ ?_; rotate_left; omega) | with_reducible refine Ext.trans ?_ (by assumption) | with_reducible exact Past.bel _ | with_reducible refine Ext.trans ?_ (Past.bel _)))⟩)
    all_goals simp_all [offCode, offRes]
def addNone : Value := .agg #[.int .i64 0, .int .i64 0, .int .i64 0, .int .i64 0, .int .i64 0]
theorem add_ret {c x y xx xy c' x' y' xx' xy' k : Int} {v : Value} (h : k = addCode c x y xx xy c' x' y' xx' xy') (hv : v = addV c x y xx xy c' x' y' xx' xy') :
    Ending.returned (.tuple #[v, .int .i64 k]) = .returned (.tuple #[addV c x y xx xy c' x' y' xx' xy', .int .i64 (addCode c x y xx xy c' x' y' xx' xy')]) := by rw [h, hv]
theorem add_wraps {c x y xx xy c' x' y' xx' xy' : Int} (f : FB c x y xx xy) (f' : FB c' x' y' xx' xy') :
    Value.agg #[.int .i64 (c + c'), .int .i64 (wrap64 (x + x')), .int .i64 (wrap64 (y + y')), .int .i64 (wrap64 (xx + xx')), .int .i64 (wrap64 (xy + xy'))] = .agg #[.int .i64 (c + c'), .int .i64 (x + x'), .int .i64 (y + y'), .int .i64 (xx + xx'), .int .i64 (xy + xy')] := by
  obtain ⟨a0, a1, a2, a3, a4, a5, a6, a7, a8, a9, a10⟩ := f
  obtain ⟨b0, b1, b2, b3, b4, b5, b6, b7, b8, b9, b10⟩ := f'
  rw [IntWalk.wrap64_in (x + x') (by omega), IntWalk.wrap64_in (y + y') (by omega), IntWalk.wrap64_in (xx + xx') (by omega), IntWalk.wrap64_in (xy + xy') (by omega)]
set_option maxHeartbeats 800000 in
theorem addFits_c (c x y xx xy c' x' y' xx' xy' : Int) (w : World) :
    Calls Try.prog 22 #[.agg #[.int .i64 c, .int .i64 x, .int .i64 y, .int .i64 xx, .int .i64 xy], .agg #[.int .i64 c', .int .i64 x', .int .i64 y', .int .i64 xx', .int .i64 xy']] w
      fun e w' => e = .returned (.tuple #[addV c x y xx xy c' x' y' xx' xy', .int .i64 (addCode c x y xx xy c' x' y' xx' xy')]) ∧ Ext w w' := by
  by_cases hv : vF c x y xx xy = true
  · have f := vF_fb hv
    by_cases hv' : vF c' x' y' xx' xy' = true
    · have f' := vF_fb hv'
      have a0 := f.c0
      have a1 := f.c1
      have b0 := f'.c0
      have b1 := f'.c1
      by_cases h60 : 60 < c + c'
      · go_enter Try.func22, Try.ntmps22
        go_wp2_with (go_at_call 23; ((with_reducible refine (validFit_c _ _ _ _ _ _).mono ?_); rintro e w' ⟨rfl, hx⟩; (first | (obtain ⟨wx, rfl⟩ := Past.again hx) | (obtain ⟨wx, rfl⟩ := Past.ofd hx) | (obtain ⟨wx, rfl⟩ := Past.of hx))))
        have he : addCode c x y xx xy c' x' y' xx' xy' = 5 := by simp [addCode, hv, hv', h60]
        exact bodyPost_ret (v := .tuple #[addNone, .int .i64 5]) (by simp [results, Try.results22, go_sem, addNone]) rfl ⟨add_ret he.symm (by rw [addV, he]; rfl), (by repeat (first | with_reducible exact Ext.refl _ | with_reducible assumption | with_reducible refine Ext.alloc ?_ _ | with_reducible refine Ext.drew ?_ | (with_reducible refine Ext.setAt ?_ _ _ _ ?_; rotate_left; omega) | with_reducible refine Ext.trans ?_ (by assumption) | with_reducible exact Past.bel _ | with_reducible refine Ext.trans ?_ (Past.bel _)))⟩
      · go_enter Try.func22, Try.ntmps22
        go_wp2_with (go_at_call 23; ((with_reducible refine (validFit_c _ _ _ _ _ _).mono ?_); rintro e w' ⟨rfl, hx⟩; (first | (obtain ⟨wx, rfl⟩ := Past.again hx) | (obtain ⟨wx, rfl⟩ := Past.ofd hx) | (obtain ⟨wx, rfl⟩ := Past.of hx))))
        have he : addCode c x y xx xy c' x' y' xx' xy' = 0 := by simp [addCode, hv, hv', h60]
        exact bodyPost_ret (v := .tuple #[.agg #[.int .i64 (c + c'), .int .i64 (wrap64 (x + x')), .int .i64 (wrap64 (y + y')), .int .i64 (wrap64 (xx + xx')), .int .i64 (wrap64 (xy + xy'))], .int .i64 0]) (by simp [results, Try.results22, go_sem]) rfl ⟨add_ret he.symm (by rw [addV, he]; exact add_wraps f f'), (by repeat (first | with_reducible exact Ext.refl _ | with_reducible assumption | with_reducible refine Ext.alloc ?_ _ | with_reducible refine Ext.drew ?_ | (with_reducible refine Ext.setAt ?_ _ _ _ ?_; rotate_left; omega) | with_reducible refine Ext.trans ?_ (by assumption) | with_reducible exact Past.bel _ | with_reducible refine Ext.trans ?_ (Past.bel _)))⟩
    · have hf' : vF c' x' y' xx' xy' = false := by simpa using hv'
      go_enter Try.func22, Try.ntmps22
      go_wp2_with (go_at_call 23; ((with_reducible refine (validFit_c _ _ _ _ _ _).mono ?_); rintro e w' ⟨rfl, hx⟩; (first | (obtain ⟨wx, rfl⟩ := Past.again hx) | (obtain ⟨wx, rfl⟩ := Past.ofd hx) | (obtain ⟨wx, rfl⟩ := Past.of hx))))
      have he : addCode c x y xx xy c' x' y' xx' xy' = 1 := by simp [addCode, hv, hv']
      exact bodyPost_ret (v := .tuple #[addNone, .int .i64 1]) (by simp [results, Try.results22, go_sem, addNone]) rfl ⟨add_ret he.symm (by rw [addV, he]; rfl), (by repeat (first | with_reducible exact Ext.refl _ | with_reducible assumption | with_reducible refine Ext.alloc ?_ _ | with_reducible refine Ext.drew ?_ | (with_reducible refine Ext.setAt ?_ _ _ _ ?_; rotate_left; omega) | with_reducible refine Ext.trans ?_ (by assumption) | with_reducible exact Past.bel _ | with_reducible refine Ext.trans ?_ (Past.bel _)))⟩
  · have hf : vF c x y xx xy = false := by simpa using hv
    go_enter Try.func22, Try.ntmps22
    go_wp2_with (go_at_call 23; ((with_reducible refine (validFit_c _ _ _ _ _ _).mono ?_); rintro e w' ⟨rfl, hx⟩; (first | (obtain ⟨wx, rfl⟩ := Past.again hx) | (obtain ⟨wx, rfl⟩ := Past.ofd hx) | (obtain ⟨wx, rfl⟩ := Past.of hx))))
    have he : addCode c x y xx xy c' x' y' xx' xy' = 1 := by simp [addCode, hv]
    exact bodyPost_ret (v := .tuple #[addNone, .int .i64 1]) (by simp [results, Try.results22, go_sem, addNone]) rfl ⟨add_ret he.symm (by rw [addV, he]; rfl), (by repeat (first | with_reducible exact Ext.refl _ | with_reducible assumption | with_reducible refine Ext.alloc ?_ _ | with_reducible refine Ext.drew ?_ | (with_reducible refine Ext.setAt ?_ _ _ _ ?_; rotate_left; omega) | with_reducible refine Ext.trans ?_ (by assumption) | with_reducible exact Past.bel _ | with_reducible refine Ext.trans ?_ (Past.bel _)))⟩
end Go.Proofs.Ytmbpjlgeneemjaa
