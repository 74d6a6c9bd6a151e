/- Two closed facts on the loaded program that each row's frame uses. Small general laws for the walks of this seat: worlds that only grow, regions that draw their order, slices of plain structs. No program in sight. What arguments of plain data hold: from the form's reading down to the cells. No program in sight. Slices that a call makes and writes: what is kept, what is read, what is marked. No program in sight. An append of one number at a step of a region that draws its order. No program in sight. Decimal numerals, digit by digit from the last. No program in sight. Decimal numerals: the reference's. The library's contracts at this seat, as the kit's tool has written them. Decimal numerals: the program's. -/
import Derived.Test.YtppphpnimecgpaaDoorRows
import Derived.KernelRfl
import Derived.WalkKit
import Derived.WalkSpells
import Derived.WalkLawsBesides
import Derived.Deep.QuietTactic
import Derived.BigQuiet
import Derived.Lib.Hide
import Derived.ProofKit
import Derived.Deep.Fields
import Derived.Deep.Slices
import Derived.Deep.RegionHeld3
import Derived.Deep.AppendLies
import Derived.Lib.ItoaNum
import Derived.RowKitTokens
import Derived.Lib.AppendIntMem
import Derived.Laws.IdiomStrings
import Derived.Shelf.Strings.Builder1
import Derived.Shelf.Strings.Builder2
import Derived.Shelf.Strings.OnBuilder
import Derived.Shelf.Strings.BuilderF
import Derived.Shelf.Strings.Builder2Cap
import Derived.Shelf.Strconv.Itoa0
import Derived.Shelf.Strconv.Itoa1
import Derived.Shelf.LaysM
import Derived.Shelf.Strconv.Itoa2
import Derived.Shelf.Strconv.Itoa3
import Derived.Shelf.Strconv.Itoa4
import Derived.Test.YtppphpnimecgpaaDoorProg

namespace Go.Proofs.YtppphpnimecgpaaDoor
theorem own : ownKnob Tryd.prog.godebug = none := by kernel_rfl
theorem laidOut : laidOutB Tryd.prog = true := by kernel_rfl
end Go.Proofs.YtppphpnimecgpaaDoor

namespace Go.Proofs.YtppphpnimecgpaaDoor
open Go.RowKit
set_option linter.unusedVariables false

/-- The world w' has all blocks of w as they were, and perhaps more. -/
def Ext (w w' : World) : Prop := Below w.heap.size w w'
theorem Ext.refl (w : World) : Ext w w := Below.refl _ w
theorem Ext.size {w w' : World} (h : Ext w w') : w.heap.size ≤ w'.heap.size := Below.size h
theorem Ext.trans {a b c : World} (h : Ext a b) (k : Ext b c) : Ext a c := Below.trans h (Below.mono k h.size)
theorem Ext.drew {a w : World} (h : Ext a w) : Ext a w.drew := Below.drew h
theorem Ext.alloc {a w : World} (h : Ext a w) (o : Obj) : Ext a (w.alloc o) := Below.alloc h h.size o
theorem Ext.setCell {a w : World} (h : Ext a w) {p : Addr} (hp : a.heap.size ≤ p.block) (u : Value) : Ext a (w.setCell p u) := Below.setCell h hp u
theorem Ext.setAt {a w : World} (h : Ext a w) (b o : Nat) (u : Value) (hb : a.heap.size ≤ b) : Ext a (w.setCell ⟨b, o, none⟩ u) := h.setCell hb u
theorem Ext.cell {w w' : World} (h : Ext w w') {b o : Nat} (hb : b < w.heap.size) : w'.cell? ⟨b, o, none⟩ = w.cell? ⟨b, o, none⟩ := Below.cell (p := ⟨b, o, none⟩) h hb
theorem Ext.block {w w' : World} (h : Ext w w') {b : Nat} (hb : b < w.heap.size) : w'.heap[b]? = w.heap[b]? := Below.block h b hb
theorem Ext.grown {a w w' : World} {row : Option Nat} (h : Ext a w) (hg : w.grownBy w' row) (hr : ∀ k, row = some k → a.heap.size ≤ k) : Ext a w' := Below.grown h hg h.size hr

/-- A world that has grown out of w: what a callee leaves of which only this is known. -/
structure Past (w : World) where
  out : World
  bel : Ext w out
instance {w : World} : Nonempty (Past w) := ⟨⟨w, Ext.refl w⟩⟩
@[go_sem] theorem Past.cell {w : World} (x : Past w) (b o : Nat) (h : b < w.heap.size) : x.out.cell? ⟨b, o, none⟩ = w.cell? ⟨b, o, none⟩ := x.bel.cell h
@[go_sem] theorem Past.frozen {w : World} (x : Past w) (b o : Nat) (h : b < w.heap.size) : x.out.frozen? ⟨b, o, none⟩ = w.frozen? ⟨b, o, none⟩ := Below.frozen (p := ⟨b, o, none⟩) x.bel h
theorem Past.size {w : World} (x : Past w) : w.heap.size ≤ x.out.heap.size := x.bel.size
@[go_sem] theorem Past.lt {w : World} (x : Past w) (b : Nat) (h : b < w.heap.size) : b < x.out.heap.size := Nat.lt_of_lt_of_le h x.bel.size
@[go_sem] theorem Past.le {w : World} (x : Past w) (b : Nat) (h : b ≤ w.heap.size) : b ≤ x.out.heap.size := Nat.le_trans h x.bel.size
theorem Past.of {w w' : World} (h : Ext w w') : ∃ x : Past w, w' = x.out := ⟨⟨w', h⟩, rfl⟩
theorem Past.ofd {w w' : World} (h : Ext w.drew w') : ∃ x : Past w, w' = x.out := ⟨⟨w', Ext.trans ((Ext.refl w).drew) h⟩, rfl⟩
theorem Past.again {w w' : World} {x : Past w} (h : Ext x.out w') : ∃ y : Past w, w' = y.out := ⟨⟨w', x.bel.trans h⟩, rfl⟩

/-- A region that draws its order, whose operations read and whose calls only make new memory: one walk in the order of the text. -/
theorem wp_region_past {P : Program} {id : Nat} {Q : Exit → Act → World → Prop} {a : Act} {w : World} {l : List Oper} (hm : P.follows .mixedOrders = true) (hB : Region.lexB .any l.toArray = true)
    (h : wpQuiet P l.toArray (fun w' => ∃ x : Past w, w' = x.out) (fun a' => ∀ w', (∃ x : Past w, w' = x.out) → Q .normal a' w') l a) : (Code.region id l.toArray true).wp P Q a w :=
  wp_region_quiet (C := fun w' => ∃ x : Past w, w' = x.out) hm hB ⟨⟨_, (Ext.refl w).drew⟩, rfl⟩ (by simpa using h)
theorem Calls.past {P : Program} {f : FuncId} {args : Array Value} {w : World} {x : Past w} {v : Value}
    (h : Calls P f args x.out fun e w' => e = .returned v ∧ Ext x.out w') : Calls P f args x.out fun e w'' => e = .returned v ∧ ∃ y : Past w, w'' = y.out :=
  h.mono fun _ w' ⟨he, m⟩ => ⟨he, ⟨w', x.bel.trans m⟩, rfl⟩
theorem Calls.past_same {P : Program} {f : FuncId} {args : Array Value} {w : World} {x : Past w} {v : Value}
    (h : Calls P f args x.out fun e w' => e = .returned v ∧ x.out = w') : Calls P f args x.out fun e w'' => e = .returned v ∧ ∃ y : Past w, w'' = y.out :=
  h.mono fun _ w' ⟨he, m⟩ => ⟨he, x, m.symm⟩

theorem ret_bool {a b : Bool} (h : a = b) : Ending.returned (.bool a) = .returned (.bool b) := by rw [h]
theorem ret_i64 {a b : Int} (h : a = b) : Ending.returned (.int .i64 a) = .returned (.int .i64 b) := by rw [h]
theorem ret_two {v v' u u' : Value} (h : v = v') (h' : u = u') : Ending.returned (.tuple #[v, u]) = .returned (.tuple #[v', u']) := by rw [h, h']

/-- A slice (of address 'a', with n elements of two integers each) reads as 'h', 'o' in the world w. -/
def S2 (w : World) (a : Option Addr) (n : Nat) (h o : Nat → Int) : Prop :=
  0 < n → ∃ b off, a = some ⟨b, off, none⟩ ∧ b < w.heap.size ∧ ∀ j, j < n → w.cell? ⟨b, off + j * 2, none⟩ = some (.int .i64 (h j)) ∧ w.cell? ⟨b, off + j * 2 + 1, none⟩ = some (.int .i64 (o j))
theorem S2.ext {w w' : World} {a : Option Addr} {n : Nat} {h o : Nat → Int} (s : S2 w a n h o) (e : Ext w w') : S2 w' a n h o := fun hn => by
  obtain ⟨b, off, ha, hb, hc⟩ := s hn
  exact ⟨b, off, ha, Nat.lt_of_lt_of_le hb e.size, fun j hj => by rw [e.cell hb, e.cell hb]; exact hc j hj⟩
/-- At a place j below n. -/
theorem S2.at {w : World} {a : Option Addr} {n : Nat} {h o : Nat → Int} (s : S2 w a n h o) {j : Nat} (hj : j < n) :
    ∃ b off, a = some ⟨b, off, none⟩ ∧ b < w.heap.size ∧ w.cell? ⟨b, off + j * 2, none⟩ = some (.int .i64 (h j)) ∧ w.cell? ⟨b, off + j * 2 + 1, none⟩ = some (.int .i64 (o j)) := by
  obtain ⟨b, off, ha, hb, hc⟩ := s (by omega)
  exact ⟨b, off, ha, hb, hc j hj⟩

/-- A slice (of address 'a', with n elements) of integers reads as 'f' in the world w. -/
def S1 (w : World) (a : Option Addr) (n : Nat) (f : Nat → Int) : Prop :=
  0 < n → ∃ b off, a = some ⟨b, off, none⟩ ∧ b < w.heap.size ∧ ∀ j, j < n → w.cell? ⟨b, off + j, none⟩ = some (.int .i64 (f j))
theorem S1.ext {w w' : World} {a : Option Addr} {n : Nat} {f : Nat → Int} (s : S1 w a n f) (e : Ext w w') : S1 w' a n f := fun hn => by
  obtain ⟨b, off, ha, hb, hc⟩ := s hn
  exact ⟨b, off, ha, Nat.lt_of_lt_of_le hb e.size, fun j hj => by rw [e.cell hb]; exact hc j hj⟩
theorem S1.at {w : World} {a : Option Addr} {n : Nat} {f : Nat → Int} (s : S1 w a n f) {j : Nat} (hj : j < n) :
    ∃ b off, a = some ⟨b, off, none⟩ ∧ b < w.heap.size ∧ w.cell? ⟨b, off + j, none⟩ = some (.int .i64 (f j)) := by
  obtain ⟨b, off, ha, hb, hc⟩ := s (by omega)
  exact ⟨b, off, ha, hb, hc j hj⟩

/-- Block g of the world w holds the cells 'cur', none of them frozen. -/
def Blk (w : World) (g : Nat) (T : TypeId) (cur : Array Value) : Prop := w.heap[g]? = some (.cells cur T (0, 0))
theorem Blk.lt {w : World} {g : Nat} {T : TypeId} {cur : Array Value} (h : Blk w g T cur) : g < w.heap.size := (Array.getElem?_eq_some_iff.1 h).1
theorem Blk.ext {w w' : World} {g : Nat} {T : TypeId} {cur : Array Value} (h : Blk w g T cur) (e : Ext w w') : Blk w' g T cur := (e.block h.lt).trans h
theorem Blk.cell {w : World} {g : Nat} {T : TypeId} {cur : Array Value} (h : Blk w g T cur) (j : Nat) : w.cell? ⟨g, j, none⟩ = cur[j]? := cell_of_row w g j cur T (0, 0) h
theorem Blk.frozen {w : World} {g : Nat} {T : TypeId} {cur : Array Value} (h : Blk w g T cur) (j : Nat) : w.frozen? ⟨g, j, none⟩ = false := frozen_of_row w g j cur T h
theorem Blk.set {w : World} {g : Nat} {T : TypeId} {cur : Array Value} (h : Blk w g T cur) (j : Nat) (u : Value) : Blk (w.setCell ⟨g, j, none⟩ u) g T (cur.setIfInBounds j u) := heap_setCell_same w g j cur T u h
theorem Blk.other {w : World} {g : Nat} {T : TypeId} {cur : Array Value} (h : Blk w g T cur) (b j : Nat) (u : Value) (hne : g ≠ b) : Blk (w.setCell ⟨b, j, none⟩ u) g T cur :=
  (Below.heap_setCell w ⟨b, j, none⟩ u g hne).trans h
theorem Blk.new (w : World) (cur : Array Value) (T : TypeId) : Blk (w.alloc (.cells cur T)) w.heap.size T cur := heap_alloc_new w _

/-- The first k elements of the cells 'cur' are the pairs 'h', 'o'. -/
def C2 (cur : Array Value) (k : Nat) (h o : Nat → Int) : Prop := ∀ j, j < k → cur[j * 2]? = some (.int .i64 (h j)) ∧ cur[j * 2 + 1]? = some (.int .i64 (o j))
theorem C2.zero (cur : Array Value) (h o : Nat → Int) : C2 cur 0 h o := fun j hj => absurd hj (Nat.not_lt_zero j)
theorem C2.step {cur : Array Value} {k : Nat} {h o : Nat → Int} (c : C2 cur k h o) (hk : k * 2 + 1 < cur.size) : C2 ((cur.setIfInBounds (k * 2) (.int .i64 (h k))).setIfInBounds (k * 2 + 1) (.int .i64 (o k))) (k + 1) h o := fun j hj => by
  rcases Nat.lt_succ_iff_lt_or_eq.1 hj with hlt | rfl
  · obtain ⟨c1, c2⟩ := c j hlt
    constructor
    · rw [Array.getElem?_setIfInBounds_ne (by omega), Array.getElem?_setIfInBounds_ne (by omega), c1]
    · rw [Array.getElem?_setIfInBounds_ne (by omega), Array.getElem?_setIfInBounds_ne (by omega), c2]
  · constructor
    · rw [Array.getElem?_setIfInBounds_ne (by omega), Array.getElem?_setIfInBounds_self_of_lt (by omega)]
    · rw [Array.getElem?_setIfInBounds_self_of_lt (by simp; omega)]
theorem C2.s2 {w : World} {g n : Nat} {T : TypeId} {cur : Array Value} {h o : Nat → Int} (b : Blk w g T cur) (c : C2 cur n h o) : S2 w (some ⟨g, 0, none⟩) n h o := fun _ =>
  ⟨g, 0, rfl, b.lt, fun j hj => by rw [b.cell, b.cell]; simpa using c j hj⟩
/-- The first k of the cells 'cur' are the integers f. -/
def C1 (cur : Array Value) (k : Nat) (f : Nat → Int) : Prop := ∀ j, j < k → cur[j]? = some (.int .i64 (f j))
theorem C1.zero (cur : Array Value) (f : Nat → Int) : C1 cur 0 f := fun j hj => absurd hj (Nat.not_lt_zero j)
theorem C1.step {cur : Array Value} {k : Nat} {f : Nat → Int} (c : C1 cur k f) (hk : k < cur.size) : C1 (cur.setIfInBounds k (.int .i64 (f k))) (k + 1) f := fun j hj => by
  rcases Nat.lt_succ_iff_lt_or_eq.1 hj with hlt | rfl
  · rw [Array.getElem?_setIfInBounds_ne (by omega), c j hlt]
  · rw [Array.getElem?_setIfInBounds_self_of_lt hk]
theorem C1.s1 {w : World} {g n : Nat} {T : TypeId} {cur : Array Value} {f : Nat → Int} (b : Blk w g T cur) (c : C1 cur n f) : S1 w (some ⟨g, 0, none⟩) n f := fun _ =>
  ⟨g, 0, rfl, b.lt, fun j hj => by rw [b.cell]; simpa using c j hj⟩

/-- The cells of a new slice, behind a name. -/
def Mk (z : Array Value) (n : Nat) : Array Value := madeCells z n
theorem Mk.size (z : Array Value) (n : Nat) : (Mk z n).size = n := size_madeCells z n
/-- 'make([]T, n)' -/
theorem make_run {P : Program} (t e : TypeId) (z : Value) (sz bytes : Nat) (ht : P.underlying t = some (.slice e)) (hinfo : (P.info? e).map (fun i => (i.zero, i.size, i.bytes)) = some (some z, sz, bytes))
    (n : Nat) (hb : bytes * n ≤ 281474976710656) (h63 : n ≤ 9223372036854775807) (w : World) :
    (Instr.makeSlice t (.int .i64 (n : Int)) (.int .i64 (n : Int))).run P w = .ok (.slice (some ⟨w.heap.size, 0, none⟩) n n) (w.alloc (.cells (Mk z.cells (n * sz)) e)) := by
  obtain ⟨i, hi, hz, hs, hby⟩ := info_parts hinfo
  subst hs hby
  have hb' : (i.bytes : Int) * (n : Int) ≤ 281474976710656 := by
    have h : ((i.bytes * n : Nat) : Int) ≤ 281474976710656 := by omega
    rwa [Int.natCast_mul] at h
  have := run_make (P := P) w t e i z ht hi hz .i64 .i64 n n (by omega) (Int.le_refl _) hb' (by omega)
  simpa [Mk] using this

end Go.Proofs.YtppphpnimecgpaaDoor

namespace Go.Proofs.YtppphpnimecgpaaDoor
open Go.ChangeShapes Go.WideShapes Go.RowKit Go.Deep
set_option linter.unusedVariables false

/-- every field is an int64 -/
def allI64 (P : Program) (fs : Array Field) : Bool := fs.toList.all fun f => match P.underlying f.type with
  | some (.int .i64) => true
  | _ => false
theorem allI64_at {P : Program} {fs : Array Field} (h : allI64 P fs = true) {j : Nat} {f : Field} (hj : fs[j]? = some f) : P.underlying f.type = some (.int .i64) := by
  have h1 := List.all_eq_true.1 h f (by rw [Array.mem_toList_iff]; exact Array.mem_of_getElem? hj)
  revert h1
  split
  · intro _; assumption
  · intro h2; cases h2
section
variable {H : Type} {enc : TypeId × Value → H} {P : Program} {w : World} {base : Nat} {spare : Nat → Bool} {held : Bool}
/-- a struct's fields, each with its reading -/
theorem down_struct {t : TypeId} {fs : Array Field} {fuel : Nat} {cs : List Value} {x : DataW H × List MemPlace} (hs : P.underlying t = some (.struct fs)) (hone : oneCellFields P fs = true) (hC : P.cellsOf t = fs.size)
    (h : DataW.trod enc P w base spare held fuel t cs = some x) :
    ∃ n, cs.length = fs.size ∧ ∀ (j : Nat) (f : Field), fs[j]? = some f → ∃ v y, cs[j]? = some v ∧ DataW.trod enc P w base spare held n f.type [v] = some y := by
  obtain ⟨xs, n, _, _, hl, hxl, hf⟩ := DataW.trod_struct hs h
  refine ⟨n, hl.trans hC, fun j f hj => ?_⟩
  obtain ⟨ho, hc⟩ := hone_of hone j f hj
  have hjl : j < fs.size := (Array.getElem?_eq_some_iff.1 hj).1
  have hjc : j < cs.length := by omega
  have h1 := hf j f hj
  rw [ho, hc, List.drop_eq_getElem_cons hjc, List.getElem?_eq_getElem (show j < xs.length by omega)] at h1
  exact ⟨cs[j], xs[j]'(by omega), List.getElem?_eq_getElem hjc, h1⟩
/-- a struct whose fields are all int64 -/
theorem down_ints {t : TypeId} {fs : Array Field} {fuel : Nat} {cs : List Value} {x : DataW H × List MemPlace} (hs : P.underlying t = some (.struct fs)) (hone : oneCellFields P fs = true) (hC : P.cellsOf t = fs.size) (hi : allI64 P fs = true)
    (h : DataW.trod enc P w base spare held fuel t cs = some x) :
    ∃ z : Nat → Int, cs = (List.range fs.size).map (fun j => Value.int .i64 (z j)) ∧ ∀ j, j < fs.size → (Lit.int .i64 (z j)).wf = true := by
  obtain ⟨n, hl, hf⟩ := down_struct hs hone hC h
  have hz : ∀ j, j < fs.size → ∃ z : Int, cs[j]? = some (.int .i64 z) ∧ (Lit.int .i64 z).wf = true := fun j hj => by
    obtain ⟨v, y, hv, hy⟩ := hf j fs[j] (Array.getElem?_eq_getElem hj)
    obtain ⟨z, hz, _, hw⟩ := DataW.trod_int (allI64_at hi (Array.getElem?_eq_getElem hj)) hy
    simp only [List.cons.injEq, and_true] at hz
    exact ⟨z, by rw [hv, hz], hw⟩
  obtain ⟨z, hz⟩ := choose_lt hz
  refine ⟨z, List.ext_getElem? fun j => ?_, fun j hj => (hz j hj).2⟩
  by_cases hj : j < fs.size
  · rw [(hz j hj).1]; simp [hj]
  · rw [List.getElem?_eq_none (by omega), List.getElem?_eq_none (by simp; omega)]
theorem down_agg {r : Reach} {b0 : Nat} {t : TypeId} {fs : Array Field} {v : Value} {d : DataW H} {p : List MemPlace} (hs : P.underlying t = some (.struct fs)) (hone : oneCellFields P fs = true) (hC : P.cellsOf t = fs.size) (hi : allI64 P fs = true)
    (hv : Value.okWide P w r b0 t v) (h : DataW.Trod enc P w base spare held t v d p) :
    ∃ z : Nat → Int, v = .agg ((List.range fs.size).map (fun j => Value.int .i64 (z j))).toArray ∧ ∀ j, j < fs.size → (Lit.int .i64 (z j)).wf = true := by
  obtain ⟨cs, rfl, hsz⟩ := okWide_struct hs hv
  obtain ⟨fuel, hf⟩ := h
  obtain ⟨z, hz, hw⟩ := down_ints hs hone hC hi hf
  refine ⟨z, ?_, hw⟩
  congr 1
  apply Array.toList_inj.1
  simpa [Value.cells] using hz
/-- a slice of such structs: nil, or the cells of its elements -/
theorem down_slice {t e : TypeId} {fs : Array Field} {v : Value} {d : DataW H} {p : List MemPlace} {r : Reach} {b0 : Nat} (ht : P.underlying t = some (.slice e)) (hs : P.underlying e = some (.struct fs)) (hone : oneCellFields P fs = true) (hC : P.cellsOf e = fs.size) (hi : allI64 P fs = true) (hpos : 0 < fs.size)
    (hv : Value.okWide P w r b0 t v) (h : DataW.Trod enc P w base spare held t v d p) (hlt : ∀ x ∈ p, x.block < w.heap.size) :
    ∃ (a : Option Addr) (n cap : Nat) (z : Nat → Nat → Int), v = .slice a n cap ∧ n ≤ cap ∧ cap ≤ maxLen ∧
      (0 < n → ∃ b off, a = some ⟨b, off, none⟩ ∧ b < w.heap.size ∧ ∀ i, i < n → ∀ j, j < fs.size → w.cell? ⟨b, off + i * fs.size + j, none⟩ = some (.int .i64 (z i j)) ∧ (Lit.int .i64 (z i j)).wf = true) := by
  obtain ⟨a, n, cap, rfl⟩ := okWide_slice ht hv
  obtain ⟨fuel, hf⟩ := h
  rcases open_slice ht hf with ⟨hcs, _⟩ | ⟨a', len', cap', m, n', D, Pl, hcs, hb, hl, hm, hmm, hx, hcell⟩
  · simp [Value.cells] at hcs
    obtain ⟨rfl, rfl, rfl⟩ := hcs
    exact ⟨none, 0, 0, fun _ _ => 0, rfl, Nat.le_refl _, Nat.zero_le _, fun h => absurd h (Nat.lt_irrefl 0)⟩
  · simp [Value.cells] at hcs
    obtain ⟨rfl, rfl, rfl⟩ := hcs
    have hlm : n ≤ m := by rw [hmm]; split <;> omega
    have hel : ∀ i, i < n → ∃ z : Nat → Int, ∀ j, j < fs.size → w.cell? (a'.add (i * fs.size + j)) = some (.int .i64 (z j)) ∧ (Lit.int .i64 (z j)).wf = true := fun i hi' => by
      obtain ⟨cs', hc, ht'⟩ := hcell i (by omega)
      rw [hC] at hc
      obtain ⟨_, hcl, hat⟩ := World.cells?_some hc
      obtain ⟨z, hz, hw⟩ := down_ints hs hone hC hi ht'
      refine ⟨z, fun j hj => ⟨?_, hw j hj⟩⟩
      rw [← Go.Deep.add_add, hat j hj, hz]; simp [hj]
    obtain ⟨z, hz⟩ := choose_lt hel
    refine ⟨some a', n, cap, z, rfl, hl, hm, fun hn => ?_⟩
    obtain ⟨b, off, spot⟩ := a'
    have h0 := (hz 0 hn 0 hpos).1
    have hspot : spot = none := by simpa [Addr.add] using World.cell?_spot h0
    subst hspot
    refine ⟨b, off, rfl, World.block_lt_of_cell? w ⟨b, off, none⟩ (by simpa [Addr.add] using h0), fun i hi' j hj => ?_⟩
    have h1 := hz i hi' j hj
    rw [Addr.add_lit] at h1
    rw [Nat.add_assoc]; exact h1
end
/-- an int64 fits its kind: its bounds -/
theorem wf_bd {n : Int} (h : (Lit.int .i64 n).wf = true) : -9223372036854775808 ≤ n ∧ n ≤ 9223372036854775807 := by
  simpa [Lit.wf, IntKind.min, IntKind.max, IntKind.signed, IntKind.bits] using h
/-- a slice of pairs of integers, from its cells -/
theorem s2_of {w : World} {a : Option Addr} {n : Nat} {z : Nat → Nat → Int}
    (h : 0 < n → ∃ b off, a = some ⟨b, off, none⟩ ∧ b < w.heap.size ∧ ∀ i, i < n → ∀ j, j < 2 → w.cell? ⟨b, off + i * 2 + j, none⟩ = some (.int .i64 (z i j)) ∧ (Lit.int .i64 (z i j)).wf = true) :
    S2 w a n (fun i => z i 0) (fun i => z i 1) := fun hn => by
  obtain ⟨b, off, ha, hb, hc⟩ := h hn
  exact ⟨b, off, ha, hb, fun i hi => ⟨(hc i hi 0 (by omega)).1, (hc i hi 1 (by omega)).1⟩⟩
end Go.Proofs.YtppphpnimecgpaaDoor

namespace Go.Proofs.YtppphpnimecgpaaDoor
open Go.RowKit
set_option linter.unusedVariables false

theorem ext_grown {w w' : World} (h : Ext w w') : w.grownBy w' none :=
  ⟨Below.os h, Below.tape h, Below.output h, h.size, fun k hk _ => h.block hk⟩
theorem grown_ext {w w' : World} (h : w.grownBy w' none) : Ext w w' :=
  ⟨h.os, h.tape, h.output, h.size, fun k hk => h.block k hk (by simp)⟩
theorem grown_trans {a b c : World} {row : Option Nat} (h : a.grownBy b row) (k : b.grownBy c row) : a.grownBy c row :=
  ⟨k.os.trans h.os, k.tape.trans h.tape, k.output.trans h.output, Nat.le_trans h.size k.size, fun i hi hn => (k.block i (Nat.lt_of_lt_of_le hi h.size) hn).trans (h.block i hi hn)⟩
section
variable {w w' : World} {base : Nat} {e : TypeId} {size : Nat} {v : Value} {n : Nat} {xs : List Value}
theorem own_ext (h : w.ownsRow base e size v n xs) (x : Ext w w') : w'.ownsRow base e size v n xs := h.kept (ext_grown x) (by cases hv : v.ownBlock <;> simp)
/-- what is owned lies from its base on, and below the heap's end -/
theorem own_in {a : Option Addr} {cap : Nat} (h : w.ownsRow base e size (.slice a n cap) n xs) {ad : Addr} (ha : a = some ad) : base ≤ ad.block ∧ ad.block < w.heap.size :=
  h.lt ad.block (by subst ha; rfl)
theorem own_at {a : Option Addr} {cap j : Nat} (h : w.ownsRow base e 1 (.slice a n cap) n xs) (hj : j < n) :
    ∃ g, a = some ⟨g, 0, none⟩ ∧ base ≤ g ∧ g < w.heap.size ∧ w.cell? ⟨g, j, none⟩ = xs[j]? ∧ w.frozen? ⟨g, j, none⟩ = false := by
  rcases h.2 with ⟨h1, h2⟩ | ⟨g, cap', cur, h1, hb, hg, h2, h3, h4, h5⟩
  · omega
  · simp only [Value.slice.injEq, true_and] at h1
    obtain ⟨rfl, rfl⟩ := h1
    exact ⟨g, rfl, hb, (Array.getElem?_eq_some_iff.1 hg).1, h.cellAt j (by omega), h.frozenAt j⟩
theorem own_at2 {a : Option Addr} {cap j : Nat} (h : w.ownsRow base e 2 (.slice a n cap) n xs) (hj : j < n) :
    ∃ g, a = some ⟨g, 0, none⟩ ∧ base ≤ g ∧ g < w.heap.size ∧ (w.cell? ⟨g, j * 2, none⟩ = xs[j * 2]? ∧ w.frozen? ⟨g, j * 2, none⟩ = false) ∧ w.cell? ⟨g, j * 2 + 1, none⟩ = xs[j * 2 + 1]? ∧ w.frozen? ⟨g, j * 2 + 1, none⟩ = false := by
  rcases h.2 with ⟨h1, h2⟩ | ⟨g, cap', cur, h1, hb, hg, h2, h3, h4, h5⟩
  · omega
  · simp only [Value.slice.injEq, true_and] at h1
    obtain ⟨rfl, rfl⟩ := h1
    exact ⟨g, rfl, hb, (Array.getElem?_eq_some_iff.1 hg).1, ⟨h.cellAt _ (by omega), h.frozenAt _⟩, h.cellAt _ (by omega), h.frozenAt _⟩
theorem own_set {g cap j : Nat} (h : w.ownsRow base e size (.slice (some ⟨g, 0, none⟩) n cap) n xs) (u : Value) : (w.setCell ⟨g, j, none⟩ u).ownsRow base e size (.slice (some ⟨g, 0, none⟩) n cap) n (xs.set j u) := (h.stored j u).1
theorem grown_set (g j : Nat) (u : Value) : w.grownBy (w.setCell ⟨g, j, none⟩ u) (some g) :=
  ⟨rfl, rfl, rfl, by simp, fun k _ hk => heap_setCell_other w ⟨g, j, none⟩ k u (fun e => hk (by simp [e]))⟩
theorem own_s1 {a : Option Addr} {cap : Nat} {l : List Int} (h : w.ownsRow base e 1 (.slice a n cap) n (l.map (Value.int .i64))) : S1 w a n (fun j => l.getD j 0) := fun hn => by
  obtain ⟨g, rfl, _, hg, _⟩ := own_at h hn
  have hl : l.length = n := by simpa using h.1
  refine ⟨g, 0, rfl, hg, fun j hj => ?_⟩
  rw [Nat.zero_add, h.cellAt j (by omega)]
  simp [List.getD, show j < l.length by omega]
theorem own_len {l : List Int} (h : w.ownsRow base e 1 v n (l.map (Value.int .i64))) : n = l.length := by simpa using h.1.symm
end
/-- a slice of integers that reads the same behind a change of another block -/
theorem S1.but {w w' : World} {a : Option Addr} {n : Nat} {f : Nat → Int} {row : Option Nat} (s : S1 w a n f) (hg : w.grownBy w' row) (hne : ∀ ad, a = some ad → some ad.block ≠ row) : S1 w' a n f := fun hn => by
  obtain ⟨b, off, ha, hb, hc⟩ := s hn
  refine ⟨b, off, ha, Nat.lt_of_lt_of_le hb hg.size, fun j hj => ?_⟩
  rw [World.cell?_of_block (a := ⟨b, off + j, none⟩) (hg.block b hb (hne _ ha))]
  exact hc j hj
theorem S2.but {w w' : World} {a : Option Addr} {n : Nat} {h o : Nat → Int} {row : Option Nat} (s : S2 w a n h o) (hg : w.grownBy w' row) (hne : ∀ ad, a = some ad → some ad.block ≠ row) : S2 w' a n h o := fun hn => by
  obtain ⟨b, off, ha, hb, hc⟩ := s hn
  refine ⟨b, off, ha, Nat.lt_of_lt_of_le hb hg.size, fun j hj => ?_⟩
  rw [World.cell?_of_block (a := ⟨b, off + j * 2, none⟩) (hg.block b hb (hne _ ha)), World.cell?_of_block (a := ⟨b, off + j * 2 + 1, none⟩) (hg.block b hb (hne _ ha))]
  exact hc j hj
/-- owned rows of two calls, the second begun when the first had ended, lie in different blocks -/
theorem own_ne2 {w1 w2 : World} {b1 b2 : Nat} {e1 e2 : TypeId} {s1 s2 : Nat} {v1 v2 : Value} {n1 n2 : Nat} {xs1 xs2 : List Value} (h1 : w1.ownsRow b1 e1 s1 v1 n1 xs1) (h2 : w2.ownsRow b2 e2 s2 v2 n2 xs2) (hb : w1.heap.size ≤ b2) :
    (v1.ownBlock = none ∨ v1.ownBlock ≠ v2.ownBlock) ∧ (v2.ownBlock = none ∨ v2.ownBlock ≠ v1.ownBlock) := by
  have hne : ∀ k, v1.ownBlock = some k → v2.ownBlock = some k → False := fun k hk hk2 => by
    have := (h1.lt k hk).2; have := (h2.lt k hk2).1; omega
  constructor
  · cases h : v1.ownBlock with
    | none => exact .inl rfl
    | some k => exact .inr fun e => hne k h e.symm
  · cases h : v2.ownBlock with
    | none => exact .inl rfl
    | some k => exact .inr fun e => hne k e.symm h
/-- the numbers k, k + 1 .. over the first j places of a list -/
def marked (k : Int) (xs : List Value) : Nat → List Value
  | 0 => xs
  | j + 1 => (marked k xs j).set j (.int .i64 (k + j))
theorem marked_length (k : Int) (xs : List Value) (j : Nat) : (marked k xs j).length = xs.length := by
  induction j with
  | zero => rfl
  | succ j ih => simp [marked, ih]
theorem marked_at (k : Int) (xs : List Value) {j i : Nat} (hi : i < j) (hx : i < xs.length) : (marked k xs j)[i]? = some (.int .i64 (k + i)) := by
  induction j with
  | zero => omega
  | succ j ih =>
    simp only [marked]
    by_cases e : i = j
    · subst e; rw [List.getElem?_set_self (by rw [marked_length]; exact hx)]
    · rw [List.getElem?_set_ne (by omega)]; exact ih (by omega)
/-- the numbers k, k + 1 .. -/
def ups (k : Int) (n : Nat) : List Value := (List.range n).map fun j => Value.int .i64 (k + (j : Nat))
theorem marked_all (k : Int) (xs : List Value) : marked k xs xs.length = ups k xs.length := by
  apply List.ext_getElem?
  intro i
  by_cases hi : i < xs.length
  · rw [marked_at k xs hi hi]; simp [ups, hi]
  · rw [List.getElem?_eq_none (by rw [marked_length]; omega), List.getElem?_eq_none (by simp [ups]; omega)]
theorem ups_at (k : Int) {n i : Nat} (hi : i < n) : (ups k n)[i]? = some (.int .i64 (k + i)) := by simp [ups, hi]
theorem own_form {w : World} {base : Nat} {e : TypeId} {size : Nat} {v : Value} {n : Nat} {xs : List Value} (h : w.ownsRow base e size v n xs) : ∃ b cap, v = .slice b n cap := by
  rcases h.2 with ⟨h1, h2⟩ | ⟨g, cap', cur, h1, _⟩
  · subst h2; exact ⟨none, 0, h1⟩
  · exact ⟨_, _, h1⟩
/-- 'out = append(out, u)', 'out' made by the call that began in w0 -/
theorem app1 {P : Program} {w w0 : World} {ops : Array Oper} {rest : List Oper} {o : Oper} {a : Act} {Q : Exit → Act → World → Prop} (t e : TypeId) (s x : Operand)
    (hop : o.op = .call { callee := .builtin .append, args := #[s, x], argTypes := #[t, t] }) (hgd : o.guard = none)
    (ht : P.underlying t = some (.slice e)) (hinfo : (P.info? e).map (fun i => (i.zero, i.size, i.bytes)) = some (some (.int .i64 0), 1, 8))
    (v : Value) (l : List Int) (u : Int) (g : Nat) (hs : a.eval s = v) (hx : a.eval x = .slice (some ⟨g, 0, none⟩) 1 1) (hown : w.ownsRow w0.heap.size e 1 v l.length (l.map (Value.int .i64)))
    (hc : w.cell? ⟨g, 0, none⟩ = some (.int .i64 u)) (hl : l.length ≤ 1048576) (h0 : Ext w0 w)
    (hK : ∀ v' w', w'.ownsRow w0.heap.size e 1 v' (l ++ [u]).length ((l ++ [u]).map (Value.int .i64)) → Ext w0 w' → wpList P ops Q rest (a.put o.dst v') w') : wpList P ops Q (o :: rest) a w := by
  obtain ⟨i, hi, hz, hsz, hb⟩ := info_parts hinfo
  refine wpList_append_own (P := P) w hgd s x t hop w0.heap.size e i (.int .i64 0) 1 8 ht hi hz hsz hb rfl (by decide) v l.length _ hs hown ⟨g, 0, none⟩ 1 1 [.int .i64 u] hx rfl ?_ ?_ ?_ ?_ h0.size ?_
  · intro j z hz'
    cases j with
    | zero =>
      simp at hz'; subst hz'
      simpa [Addr.add] using hc
    | succ j => simp at hz'
  · intro z hz'
    simp at hz'; subst hz'; rfl
  · unfold maxLen; omega
  · omega
  · intro v' w' h1 h2 _
    refine hK v' w' (by simpa using h1) (h0.grown h2 fun k hk => (hown.lt k hk).1)
end Go.Proofs.YtppphpnimecgpaaDoor

namespace Go.Proofs.YtppphpnimecgpaaDoor
open Go.RowKit
set_option linter.unusedVariables false
theorem app1s {P : Program} {w w0 : World} {ops : Array Oper} {o : Oper} {a : Act} {K : Act → World → Prop} {Q : Exit → Act → World → Prop} {E : Prop} (t e : TypeId) (s x : Operand)
    (hop : o.op = .call { callee := .builtin .append, args := #[s, x], argTypes := #[t, t] }) (hgd : o.guard = none)
    (ht : P.underlying t = some (.slice e)) (hinfo : (P.info? e).map (fun i => (i.zero, i.size, i.bytes)) = some (some (.int .i64 0), 1, 8))
    (v : Value) (l : List Int) (u : Int) (g : Nat) (hs : a.eval s = v) (hx : a.eval x = .slice (some ⟨g, 0, none⟩) 1 1) (hown : w.ownsRow w0.heap.size e 1 v l.length (l.map (Value.int .i64)))
    (hc : w.cell? ⟨g, 0, none⟩ = some (.int .i64 u)) (hl : l.length ≤ 1048576) (h0 : Ext w0 w)
    (hK : ∀ v' w', w'.ownsRow w0.heap.size e 1 v' (l ++ [u]).length ((l ++ [u]).map (Value.int .i64)) → Ext w0 w' → K (a.put o.dst v') w') :
    if Region.wanted o (yielded ops a.tmps) = true then Oper.wp P o a w K Q else E := by
  obtain ⟨i, hi, hz, hsz, hb⟩ := info_parts hinfo
  refine step_append_lies w hgd s x t hop w0.heap.size e i (.int .i64 0) 1 8 ht hi hz hsz hb rfl (by decide) v l.length _ hs hown ⟨g, 0, none⟩ 1 1 [.int .i64 u] hx rfl ?_ ?_ (by decide) ?_ ?_ h0.size _ rfl ?_
  · intro j z hz'
    cases j with
    | zero =>
      simp at hz'; subst hz'
      simpa [Addr.add] using hc
    | succ j => simp at hz'
  · intro z hz'
    simp at hz'; subst hz'; rfl
  · unfold maxLen; omega
  · omega
  · intro g' cap w' h1 h2 _ _
    refine hK _ w' ?_ (h0.grown h2 fun k hk => (hown.lt k hk).1)
    have e1 : (l ++ [u]).length = l.length + 1 := by simp
    rw [e1]; simpa using h1
end Go.Proofs.YtppphpnimecgpaaDoor

namespace Go.Proofs.YtppphpnimecgpaaDoor
set_option linter.unusedVariables false
/-- the digits of u; none for 0 -/
def digs (u : Nat) : List UInt8 := if u = 0 then [] else Lib.decDigits u
theorem digs_zero : digs 0 = [] := rfl
theorem digs_step {u : Nat} (h : 0 < u) : digs u = digs (u / 10) ++ [UInt8.ofNat (48 + u % 10)] := by
  rw [digs, if_neg (by omega)]
  by_cases h1 : u < 10
  · have e1 : u / 10 = 0 := by omega
    have e2 : u % 10 = u := by omega
    rw [e1, e2, digs_zero, Lib.decDigits, dif_pos h1]; rfl
  · rw [digs, if_neg (by omega), Lib.decDigits, dif_neg h1]
theorem digs_pos {u : Nat} (h : 0 < u) : digs u = Lib.decDigits u := if_neg (by omega)
/-- a number with a sign -/
def sg (b : Bool) (u : Nat) : Int := if b then -(u : Int) else u
theorem itoa_neg {u : Nat} (h : 0 < u) : Lib.itoa (-(u : Int)) = 45 :: digs u := by
  rw [Lib.itoa, if_pos (by omega), digs_pos h]; congr 1; simp
theorem itoa_pos {u : Nat} (h : 0 < u) : Lib.itoa (u : Int) = digs u := by
  rw [Lib.itoa, if_neg (by omega), digs_pos h]; rfl
theorem itoa_zero : Lib.itoa 0 = [48] := by
  rw [Lib.itoa, if_neg (by omega)]; exact Lib.decDigits_one (by decide)
theorem digs_len : ∀ (k u : Nat), u < 10 ^ k → (digs u).length ≤ k
  | 0, u, h => by have : u = 0 := by simpa using h
                  subst this; simp [digs_zero]
  | k + 1, u, h => by
    by_cases h0 : u = 0
    · subst h0; simp [digs_zero]
    · rw [digs_step (by omega), List.length_append]
      have := digs_len k (u / 10) (by rw [Nat.pow_succ] at h; omega)
      simp; omega
theorem u8_dig {d : Nat} (h : d < 10) : ((UInt8.ofNat (48 + d)).toNat : Int) = 48 + d := by
  have : (UInt8.ofNat (48 + d)).toNat = 48 + d := by rw [UInt8.toNat_ofNat']; omega
  rw [this]; omega
end Go.Proofs.YtppphpnimecgpaaDoor

namespace Go.Proofs.YtppphpnimecgpaaDoor
open Go.RowKit
set_option linter.unusedVariables false
set_option linter.unusedSimpArgs false

/-- a text out of bytes -/
def tx (l : List UInt8) : Value := .string ⟨l.toArray⟩
theorem info_u8 : (Tryd.prog.info? 5).map (fun i => (i.zero, i.size, i.bytes)) = some (some (.int .u8 0), 1, 1) := by kernel_rfl
theorem addr_add (b o j : Nat) : (⟨b, o, none⟩ : Addr).add j = ⟨b, o + j, none⟩ := by unfold Addr.add; split <;> simp_all
theorem ba_app (a b : List UInt8) : (⟨a.toArray⟩ : ByteArray) ++ ⟨b.toArray⟩ = ⟨(a ++ b).toArray⟩ := by
  apply ByteArray.ext; simp [ByteArray.data_append]
/-- a literal of one cell is owned -/
theorem own_lit1 {w : World} {base : Nat} {e : TypeId} (u : Value) (hb : base ≤ w.heap.size) : (w.alloc (.cells #[u] e)).ownsRow base e 1 (.slice (some ⟨w.heap.size, 0, none⟩) 1 1) 1 [u] :=
  ⟨rfl, .inr ⟨w.heap.size, 1, #[u], rfl, hb, heap_alloc_new w _, Nat.le_refl _, by decide, rfl, rfl⟩⟩
/-- 'append(own, out...)' of bytes -/
theorem appb {P : Program} {w : World} {ops : Array Oper} {rest : List Oper} {o : Oper} {A : Act} {Q : Exit → Act → World → Prop} (t e : TypeId) (s x : Operand)
    (hop : o.op = .call { callee := .builtin .append, args := #[s, x], argTypes := #[t, t] }) (hgd : o.guard = none)
    (ht : P.underlying t = some (.slice e)) (hinfo : (P.info? e).map (fun i => (i.zero, i.size, i.bytes)) = some (some (.int .u8 0), 1, 1))
    (B : Nat) (v : Value) (n : Nat) (l : List Value) (l2 : List UInt8) (g c : Nat) (hs : A.eval s = v) (hx : A.eval x = .slice (some ⟨g, 0, none⟩) l2.length c) (hown : w.ownsRow B e 1 v n l)
    (hc : ∀ (j : Nat) (u : Value), (Lib.byteCells l2)[j]? = some u → w.cell? ⟨g, j, none⟩ = some u) (hl : n + l2.length ≤ 1048576) (h0 : B ≤ w.heap.size)
    (hK : ∀ v' w', w'.ownsRow B e 1 v' (n + l2.length) (l ++ Lib.byteCells l2) → w.grownBy w' v.ownBlock → wpList P ops Q rest (A.put o.dst v') w') : wpList P ops Q (o :: rest) A w := by
  obtain ⟨i, hi, hz', hsz, hb⟩ := info_parts hinfo
  refine wpList_append_own (P := P) w hgd s x t hop B e i _ 1 1 ht hi hz' hsz hb rfl (by decide) v n l hs hown ⟨g, 0, none⟩ l2.length c (Lib.byteCells l2) hx (by rw [Lib.byteCells_length, Nat.mul_one]) ?_ ?_ (by unfold maxLen; omega) (by omega) h0 ?_
  · intro j u hu
    have := hc j u hu
    rwa [addr_add, Nat.zero_add]
  · intro u hu
    simp only [Lib.byteCells, List.mem_map] at hu
    obtain ⟨b, _, rfl⟩ := hu; rfl
  · intro v' w' h1 h2 _
    exact hK v' w' h1 h2
theorem own_bytes {w : World} {base : Nat} {e : TypeId} {g n cap : Nat} {l : List UInt8} (h : w.ownsRow base e 1 (.slice (some ⟨g, 0, none⟩) n cap) n (Lib.byteCells l)) : ∀ (j : Nat) (u : Value), (Lib.byteCells l)[j]? = some u → w.cell? ⟨g, j, none⟩ = some u := fun j u hu => by
  have hj : j < n := by
    have h1 := (List.getElem?_eq_some_iff.1 hu).1
    have h2 := h.1
    omega
  obtain ⟨g', e', _, _, h2, _⟩ := own_at h hj
  obtain rfl : g = g' := by simpa using e'
  exact h2.trans hu
theorem byte_cons {l : List UInt8} {u : Nat} : [Value.int .u8 (48 + (u : Int) % 10)] ++ Lib.byteCells l = Lib.byteCells (UInt8.ofNat (48 + u % 10) :: l) := by
  have h := u8_dig (d := u % 10) (by omega)
  have e : Lib.byteCells (UInt8.ofNat (48 + u % 10) :: l) = .int .u8 ((UInt8.ofNat (48 + u % 10)).toNat : Int) :: Lib.byteCells l := rfl
  rw [e, h]; rfl
set_option maxRecDepth 100000 in
set_option maxHeartbeats 4000000 in
theorem l01Dec_c (n : Int) (w : World) (h0 : -9223372036854775808 ≤ n) (h1 : n ≤ 9223372036854775807) :
    Calls Tryd.prog 57 #[.int .i64 n] w fun e w' => e = .returned (tx (Lib.itoa n)) ∧ Ext w w' := by
  go_enter Tryd.func57, Tryd.ntmps57
  go_wp2_with fail
  obtain ⟨bb, N, hn, hN⟩ : ∃ (bb : Bool) (N : Nat), n = sg bb N ∧ (bb = true → 0 < N) := by
    by_cases h : n < 0
    · exact ⟨true, n.natAbs, by simp [sg]; omega, fun _ => by omega⟩
    · exact ⟨false, n.natAbs, by simp [sg]; omega, fun e => by cases e⟩
  have hNb : N < 10 ^ 19 := by
    cases bb <;> simp [sg] at hn <;> omega
  have hNB : N ≤ 9223372036854775808 := by
    cases bb <;> simp [sg] at hn <;> omega
  go_loopw [3, 4, 5] (fun v3 v4 v5 wr => ∃ (u : Nat) (l : List UInt8) (g cap : Nat), digs N = digs u ++ l ∧ u ≤ N ∧ v4 = .int .i64 (sg bb u) ∧ (v5 = undef ∨ ∃ d, v5 = .int .i64 d) ∧ v3 = .slice (some ⟨g, 0, none⟩) l.length cap ∧ wr.ownsRow w.heap.size 5 1 v3 l.length (Lib.byteCells l) ∧ Ext w wr) (fun _ v4 _ _ => (intOf v4).natAbs)
  case atStart => exact ⟨N, [], w.heap.size, 0, by simp, Nat.le_refl _, by rw [hn], .inl rfl, rfl, World.ownsRow_made _ #[] 0 (Nat.le_refl _) (Nat.zero_le _) rfl, (by repeat (first | with_reducible exact Ext.refl _ | with_reducible assumption | with_reducible refine Ext.alloc ?_ _ | with_reducible refine Ext.drew ?_ | (with_reducible refine Ext.setAt ?_ _ _ _ ?_; rotate_left; omega) | with_reducible refine Ext.trans ?_ (by assumption) | with_reducible exact Past.bel _ | with_reducible refine Ext.trans ?_ (Past.bel _)))⟩
  case round =>
    obtain ⟨u, l, g, cap, hd, hu, rfl, hv5, rfl, ho, hx⟩ := hrel
    have HO := Lib.hid ho
    clear ho
    by_cases h0 : u = 0
    · subst h0
      have b0 : sg bb 0 = 0 := by cases bb <;> rfl
      have hd0 : digs N = l := by rw [hd, digs_zero]; rfl
      have hconv := run_convert_bytes_back (P := Tryd.prog) wr 81 9 5 ⟨g, 0, none⟩ cap l Tryd.underlying81 Tryd.underlying5 Tryd.underlying9 (fun j hj => by
        rw [addr_add, Nat.zero_add]
        exact own_bytes HO.out j _ (by rw [Lib.byteCells]; simp [hj]))
      rw [b0]
      by_cases hN0 : N = 0
      · obtain rfl : l = [] := by rw [← hd0, hN0]; rfl
        have hn0 : n = 0 := by rw [hn, hN0]; cases bb <;> rfl
        go_wp2_with fail
        go_ret
        exact ⟨by rw [hn0, itoa_zero]; rfl, (by repeat (first | with_reducible exact Ext.refl _ | with_reducible assumption | with_reducible refine Ext.alloc ?_ _ | with_reducible refine Ext.drew ?_ | (with_reducible refine Ext.setAt ?_ _ _ _ ?_; rotate_left; omega) | with_reducible refine Ext.trans ?_ (by assumption) | with_reducible exact Past.bel _ | with_reducible refine Ext.trans ?_ (Past.bel _)))⟩
      · have hll : l.length ≤ 19 := by rw [← hd0]; exact digs_len 19 N hNb
        have hl0 : 0 < l.length := by rw [← hd0, digs_step (u := N) (by omega)]; simp
        have hb1 : ((l.length : Int) == 0) = false := beq_eq_false_iff_ne.2 (by omega)
        have hb2 : ¬ (l.length : Int) = 0 := by omega
        clear hd
        cases bb
        · have hn1 : ¬ n < 0 := by rw [hn]; show ¬ (N : Int) < 0; omega
          have hi : Lib.itoa n = l := by rw [hn, ← hd0]; exact itoa_pos (by omega)
          have HI := Lib.hid hi
          clear hd0 hn hi
          go_wp2_with fail
          go_ret
          exact ⟨by rw [HI.out]; rfl, hx⟩
        · have hn1 : n < 0 := by rw [hn]; simp [sg]; omega
          have hi : Lib.itoa n = 45 :: l := by rw [hn, ← hd0]; exact itoa_neg (by omega)
          have HI := Lib.hid hi
          clear hd0 hn hi
          go_wp2_with fail
          go_ret
          exact ⟨by rw [HI.out]; exact congrArg (fun x => Ending.returned (Value.string x)) (ba_app [45] l), hx⟩
    · have hll : l.length ≤ 19 := by
        have a1 := digs_len 19 N hNb
        rw [hd, List.length_append] at a1
        omega
      have hsz := hx.size
      have e0 : ((u : Int) != 0) = true := by simp; omega
      have e1 : ((-(u : Int)) != 0) = true := by simp; omega
      have hd' : digs N = digs (u / 10) ++ (UInt8.ofNat (48 + u % 10) :: l) := by rw [hd, digs_step (by omega)]; simp
      cases bb
      · have e2 : ¬ (u : Int) % 10 < 0 := by omega
        rw [show sg false u = (u : Int) from rfl]
        clear hd hn hv5
        go_wp2_with (at_builtin; refine appb 81 5 _ _ rfl rfl Tryd.underlying81 info_u8 w.heap.size _ 1 _ l g _ rfl rfl (own_lit1 _ hsz) (own_bytes (own_ext HO.out (by repeat (first | with_reducible exact Ext.refl _ | with_reducible assumption | with_reducible refine Ext.alloc ?_ _ | with_reducible refine Ext.drew ?_ | (with_reducible refine Ext.setAt ?_ _ _ _ ?_; rotate_left; omega) | with_reducible refine Ext.trans ?_ (by assumption) | with_reducible exact Past.bel _ | with_reducible refine Ext.trans ?_ (Past.bel _))))) (by omega) (by simp; omega) ?_; intro v6 w6 s6 s7)
        rw [byte_cons, Nat.add_comm] at s6
        obtain ⟨b9, c9, rfl⟩ := own_form s6
        obtain ⟨g9, rfl, _⟩ := own_at s6 (j := 0) (by omega)
        have hx6 : Ext w w6 := (show Ext w (wr.alloc _) from (by repeat (first | with_reducible exact Ext.refl _ | with_reducible assumption | with_reducible refine Ext.alloc ?_ _ | with_reducible refine Ext.drew ?_ | (with_reducible refine Ext.setAt ?_ _ _ _ ?_; rotate_left; omega) | with_reducible refine Ext.trans ?_ (by assumption) | with_reducible exact Past.bel _ | with_reducible refine Ext.trans ?_ (Past.bel _)))).grown s7 (fun q hq => by cases hq; exact hsz)
        exact ⟨⟨u / 10, UInt8.ofNat (48 + u % 10) :: l, g9, c9, hd', by omega, congrArg (Value.int .i64) (show (u : Int) / 10 = ((u / 10 : Nat) : Int) from by omega), .inr ⟨_, rfl⟩, rfl, s6, hx6⟩, by simp [intOf]; omega⟩
      · rw [show sg true u = -(u : Int) from rfl]
        clear hd hn hv5
        by_cases e3 : 0 < (u : Int) % 10
        · go_wp2_with (at_builtin; refine appb 81 5 _ _ rfl rfl Tryd.underlying81 info_u8 w.heap.size _ 1 _ l g _ rfl rfl (own_lit1 _ hsz) (own_bytes (own_ext HO.out (by repeat (first | with_reducible exact Ext.refl _ | with_reducible assumption | with_reducible refine Ext.alloc ?_ _ | with_reducible refine Ext.drew ?_ | (with_reducible refine Ext.setAt ?_ _ _ _ ?_; rotate_left; omega) | with_reducible refine Ext.trans ?_ (by assumption) | with_reducible exact Past.bel _ | with_reducible refine Ext.trans ?_ (Past.bel _))))) (by omega) (by simp; omega) ?_; intro v6 w6 s6 s7)
          rw [byte_cons, Nat.add_comm] at s6
          obtain ⟨b9, c9, rfl⟩ := own_form s6
          obtain ⟨g9, rfl, _⟩ := own_at s6 (j := 0) (by omega)
          have hx6 : Ext w w6 := (show Ext w (wr.alloc _) from (by repeat (first | with_reducible exact Ext.refl _ | with_reducible assumption | with_reducible refine Ext.alloc ?_ _ | with_reducible refine Ext.drew ?_ | (with_reducible refine Ext.setAt ?_ _ _ _ ?_; rotate_left; omega) | with_reducible refine Ext.trans ?_ (by assumption) | with_reducible exact Past.bel _ | with_reducible refine Ext.trans ?_ (Past.bel _)))).grown s7 (fun q hq => by cases hq; exact hsz)
          exact ⟨⟨u / 10, UInt8.ofNat (48 + u % 10) :: l, g9, c9, hd', by omega, congrArg (Value.int .i64) (show -((u : Int) / 10) = -((u / 10 : Nat) : Int) from by omega), .inr ⟨_, rfl⟩, rfl, s6, hx6⟩, by simp [intOf]; omega⟩
        · go_wp2_with (at_builtin; refine appb 81 5 _ _ rfl rfl Tryd.underlying81 info_u8 w.heap.size _ 1 _ l g _ rfl rfl (own_lit1 _ hsz) (own_bytes (own_ext HO.out (by repeat (first | with_reducible exact Ext.refl _ | with_reducible assumption | with_reducible refine Ext.alloc ?_ _ | with_reducible refine Ext.drew ?_ | (with_reducible refine Ext.setAt ?_ _ _ _ ?_; rotate_left; omega) | with_reducible refine Ext.trans ?_ (by assumption) | with_reducible exact Past.bel _ | with_reducible refine Ext.trans ?_ (Past.bel _))))) (by omega) (by simp; omega) ?_; intro v6 w6 s6 s7)
          have e5 : (48 : Int) + -((u : Int) % 10) = 48 + (u : Int) % 10 := by omega
          rw [e5] at s6
          rw [byte_cons, Nat.add_comm] at s6
          obtain ⟨b9, c9, rfl⟩ := own_form s6
          obtain ⟨g9, rfl, _⟩ := own_at s6 (j := 0) (by omega)
          have hx6 : Ext w w6 := (show Ext w (wr.alloc _) from (by repeat (first | with_reducible exact Ext.refl _ | with_reducible assumption | with_reducible refine Ext.alloc ?_ _ | with_reducible refine Ext.drew ?_ | (with_reducible refine Ext.setAt ?_ _ _ _ ?_; rotate_left; omega) | with_reducible refine Ext.trans ?_ (by assumption) | with_reducible exact Past.bel _ | with_reducible refine Ext.trans ?_ (Past.bel _)))).grown s7 (fun q hq => by cases hq; exact hsz)
          exact ⟨⟨u / 10, UInt8.ofNat (48 + u % 10) :: l, g9, c9, hd', by omega, congrArg (Value.int .i64) (show -((u : Int) / 10) = -((u / 10 : Nat) : Int) from by omega), .inr ⟨_, rfl⟩, rfl, s6, hx6⟩, by simp [intOf]; omega⟩
end Go.Proofs.YtppphpnimecgpaaDoor

namespace Go.Proofs
open Go.Shelf
def Tryd.lays169_ren : Go.Shelf.Ren := ⟨fun | 169 => 54 | n => n, fun | 70 => 80 | 9 => 9 | 0 => 0 | 72 => 83 | 37 => 81 | 127 => 109 | 3 => 3 | 5 => 5 | n => n, fun | n => n⟩
theorem Tryd.lays169 : Go.Proofs.Lays.n169 Tryd.prog Tryd.lays169_ren := {
  mixed := by kernel_rfl
  f169 := Tryd.func54.trans (congrArg some (by kernel_rfl))
  t0 := Tryd.underlying0
  a0 := Tryd.isAgg0
  z0 := Tryd.sizeOf0
  v0 := Tryd.zeroValue0
  t3 := Tryd.underlying3
  a3 := Tryd.isAgg3
  z3 := Tryd.sizeOf3
  v3 := Tryd.zeroValue3
  t9 := Tryd.underlying9
  a9 := Tryd.isAgg9
  z9 := Tryd.sizeOf9
  v9 := Tryd.zeroValue9
  t37 := Tryd.underlying81
  a37 := Tryd.isAgg81
  z37 := Tryd.sizeOf81
  v37 := Tryd.zeroValue81
  t70 := Tryd.underlying80
  a70 := Tryd.isAgg80
  z70 := Tryd.sizeOf80
  v70 := Tryd.zeroValue80
  t72 := Tryd.underlying83
  a72 := Tryd.isAgg83
  z72 := Tryd.sizeOf83
  v72 := Tryd.zeroValue83
  t127 := Tryd.underlying109
  a127 := Tryd.isAgg109
  z127 := Tryd.sizeOf109
  v127 := Tryd.zeroValue109 }
theorem Tryd.Builder_Extra_169 : Builder.Extra Tryd.prog Tryd.lays169_ren := {
  sizeBuilder := by kernel_rfl
  liesBuilder := by kernel_rfl
  t5 := Tryd.underlying5
  a5 := Tryd.isAgg5
  z5 := Tryd.sizeOf5
  v5 := Tryd.zeroValue5
  infoByte := by kernel_rfl
  cellsByte := by kernel_rfl
  sizeByte := by kernel_rfl
  neB5 := by decide }
open Go.RowKit in
theorem Tryd.Builder_String (B b : Nat) (l : List UInt8) (w : World) (h : Lib.IsBuilder 83 5 B b (Lib.byteCells l) w) (h0 : l ≠ []) :
    Calls Tryd.prog 54 #[.pointer (some ⟨b, 0, none⟩)] w fun e w' => e = .returned (.string ⟨l.toArray⟩) ∧ Below B w w' := Any.Builder_String Tryd.lays169 Tryd.Builder_Extra_169 B b l w h h0
open Go.RowKit in
theorem Tryd.Builder_String_empty (B b : Nat) (w : World) (h : Lib.IsBuilder 83 5 B b [] w) (hBw : B ≤ w.heap.size) :
    Calls Tryd.prog 54 #[.pointer (some ⟨b, 0, none⟩)] w fun e w' => e = .returned (.string ⟨#[]⟩) ∧ Below B w w' := Any.Builder_String_empty Tryd.lays169 Tryd.Builder_Extra_169 B b w h hBw
open Go.RowKit in
theorem Tryd.Builder_String_any (B b : Nat) (l : List UInt8) (w : World) (h : Lib.IsBuilder 83 5 B b (Lib.byteCells l) w) (hBw : B ≤ w.heap.size) :
    Calls Tryd.prog 54 #[.pointer (some ⟨b, 0, none⟩)] w fun e w' => e = .returned (.string ⟨l.toArray⟩) ∧ Below B w w' := Any.Builder_String_any Tryd.lays169 Tryd.Builder_Extra_169 B b l w h hBw
def Tryd.lays241_ren : Go.Shelf.Ren := ⟨fun | 241 => 77 | 277 => 88 | n => n, fun | 70 => 80 | 3 => 3 | 0 => 0 | 72 => 83 | 37 => 81 | 5 => 5 | n => n, fun | n => n⟩
theorem Tryd.lays241 : Go.Proofs.Lays.n241 Tryd.prog Tryd.lays241_ren := {
  mixed := by kernel_rfl
  f241 := Tryd.func77.trans (congrArg some (by kernel_rfl))
  f277 := Tryd.func88.trans (congrArg some (by kernel_rfl))
  t0 := Tryd.underlying0
  a0 := Tryd.isAgg0
  z0 := Tryd.sizeOf0
  v0 := Tryd.zeroValue0
  t3 := Tryd.underlying3
  a3 := Tryd.isAgg3
  z3 := Tryd.sizeOf3
  v3 := Tryd.zeroValue3
  t37 := Tryd.underlying81
  a37 := Tryd.isAgg81
  z37 := Tryd.sizeOf81
  v37 := Tryd.zeroValue81
  t70 := Tryd.underlying80
  a70 := Tryd.isAgg80
  z70 := Tryd.sizeOf80
  v70 := Tryd.zeroValue80
  t72 := Tryd.underlying83
  a72 := Tryd.isAgg83
  z72 := Tryd.sizeOf83
  v72 := Tryd.zeroValue83 }
theorem Tryd.Builder_Extra_241 : Builder.Extra Tryd.prog Tryd.lays241_ren := {
  sizeBuilder := by kernel_rfl
  liesBuilder := by kernel_rfl
  t5 := Tryd.underlying5
  a5 := Tryd.isAgg5
  z5 := Tryd.sizeOf5
  v5 := Tryd.zeroValue5
  infoByte := by kernel_rfl
  cellsByte := by kernel_rfl
  sizeByte := by kernel_rfl
  neB5 := by decide }
open Go.RowKit in
theorem Tryd.Builder_grow_fresh (B b n : Nat) (w : World) (hB : B ≤ b) (hbk : w.heap[b]? = some (.cells #[.pointer (some ⟨b, 0, none⟩), .slice none 0 0] 83 (0, 0))) (hBw : B ≤ w.heap.size) (hn : n ≤ 281474976710656) :
    Calls Tryd.prog 77 #[.pointer (some ⟨b, 0, none⟩), .int .i64 n] w fun e w' => e = .returned (.tuple #[]) ∧ (Lib.BuilderAt 83 5 B b (.pointer (some ⟨b, 0, none⟩)) [] w' ∧ Below B w w') := Any.Builder_grow_fresh Tryd.lays241 Tryd.Builder_Extra_241 B b n w hB hbk hBw hn
def Tryd.lays165_ren : Go.Shelf.Ren := ⟨fun | 165 => 60 | 240 => 75 | 241 => 77 | 276 => 83 | 277 => 88 | n => n, fun | 70 => 80 | 3 => 3 | 0 => 0 | 4 => 4 | 9 => 9 | 20 => 20 | 72 => 83 | 37 => 81 | 164 => 113 | 5 => 5 | n => n, fun | n => n⟩
theorem Tryd.lays165 : Go.Proofs.Lays.n165 Tryd.prog Tryd.lays165_ren := {
  mixed := by kernel_rfl
  f165 := Tryd.func60.trans (congrArg some (by kernel_rfl))
  f240 := Tryd.func75.trans (congrArg some (by kernel_rfl))
  f241 := Tryd.func77.trans (congrArg some (by kernel_rfl))
  f276 := Tryd.func83.trans (congrArg some (by kernel_rfl))
  f277 := Tryd.func88.trans (congrArg some (by kernel_rfl))
  t0 := Tryd.underlying0
  a0 := Tryd.isAgg0
  z0 := Tryd.sizeOf0
  v0 := Tryd.zeroValue0
  t3 := Tryd.underlying3
  a3 := Tryd.isAgg3
  z3 := Tryd.sizeOf3
  v3 := Tryd.zeroValue3
  t4 := Tryd.underlying4
  a4 := Tryd.isAgg4
  z4 := Tryd.sizeOf4
  v4 := Tryd.zeroValue4
  t9 := Tryd.underlying9
  a9 := Tryd.isAgg9
  z9 := Tryd.sizeOf9
  v9 := Tryd.zeroValue9
  t20 := Tryd.underlying20
  a20 := Tryd.isAgg20
  z20 := Tryd.sizeOf20
  v20 := Tryd.zeroValue20
  t37 := Tryd.underlying81
  a37 := Tryd.isAgg81
  z37 := Tryd.sizeOf81
  v37 := Tryd.zeroValue81
  t70 := Tryd.underlying80
  a70 := Tryd.isAgg80
  z70 := Tryd.sizeOf80
  v70 := Tryd.zeroValue80
  t72 := Tryd.underlying83
  a72 := Tryd.isAgg83
  z72 := Tryd.sizeOf83
  v72 := Tryd.zeroValue83
  t164 := Tryd.underlying113
  a164 := Tryd.isAgg113
  z164 := Tryd.sizeOf113
  v164 := Tryd.zeroValue113 }
theorem Tryd.Builder_Extra_165 : Builder.Extra Tryd.prog Tryd.lays165_ren := {
  sizeBuilder := by kernel_rfl
  liesBuilder := by kernel_rfl
  t5 := Tryd.underlying5
  a5 := Tryd.isAgg5
  z5 := Tryd.sizeOf5
  v5 := Tryd.zeroValue5
  infoByte := by kernel_rfl
  cellsByte := by kernel_rfl
  sizeByte := by kernel_rfl
  neB5 := by decide }
open Go.RowKit in
theorem Tryd.Builder_Grow_fresh (B b n : Nat) (w : World) (hB : B ≤ b) (hbk : w.heap[b]? = some (.cells #[.pointer none, .slice none 0 0] 83 (0, 0))) (hBw : B ≤ w.heap.size) (hn : n ≤ 281474976710656) :
    Calls Tryd.prog 60 #[.pointer (some ⟨b, 0, none⟩), .int .i64 n] w fun e w' => e = .returned (.tuple #[]) ∧ (Lib.BuilderAt 83 5 B b (.pointer (some ⟨b, 0, none⟩)) [] w' ∧ Below B w w') := Any.Builder_Grow_fresh Tryd.lays165 Tryd.Builder_Extra_165 B b n w hB hbk hBw hn
def Tryd.lays156_ren : Go.Shelf.Ren := ⟨fun | 156 => 35 | 165 => 60 | 166 => 53 | 169 => 54 | 240 => 75 | 241 => 77 | 276 => 83 | 277 => 88 | n => n, fun | 31 => 59 | 9 => 9 | 3 => 3 | 4 => 4 | 0 => 0 | 20 => 20 | 72 => 83 | 76 => 86 | 70 => 80 | 37 => 81 | 75 => 85 | 127 => 109 | 164 => 113 | 5 => 5 | 80 => 88 | n => n, fun | n => n⟩
theorem Tryd.lays156 : Go.Proofs.Lays.n156 Tryd.prog Tryd.lays156_ren := {
  mixed := by kernel_rfl
  f156 := Tryd.func35.trans (congrArg some (by kernel_rfl))
  f165 := Tryd.func60.trans (congrArg some (by kernel_rfl))
  f166 := Tryd.func53.trans (congrArg some (by kernel_rfl))
  f169 := Tryd.func54.trans (congrArg some (by kernel_rfl))
  f240 := Tryd.func75.trans (congrArg some (by kernel_rfl))
  f241 := Tryd.func77.trans (congrArg some (by kernel_rfl))
  f276 := Tryd.func83.trans (congrArg some (by kernel_rfl))
  f277 := Tryd.func88.trans (congrArg some (by kernel_rfl))
  t0 := Tryd.underlying0
  a0 := Tryd.isAgg0
  z0 := Tryd.sizeOf0
  v0 := Tryd.zeroValue0
  t3 := Tryd.underlying3
  a3 := Tryd.isAgg3
  z3 := Tryd.sizeOf3
  v3 := Tryd.zeroValue3
  t4 := Tryd.underlying4
  a4 := Tryd.isAgg4
  z4 := Tryd.sizeOf4
  v4 := Tryd.zeroValue4
  t9 := Tryd.underlying9
  a9 := Tryd.isAgg9
  z9 := Tryd.sizeOf9
  v9 := Tryd.zeroValue9
  t20 := Tryd.underlying20
  a20 := Tryd.isAgg20
  z20 := Tryd.sizeOf20
  v20 := Tryd.zeroValue20
  t31 := Tryd.underlying59
  a31 := Tryd.isAgg59
  z31 := Tryd.sizeOf59
  v31 := Tryd.zeroValue59
  t37 := Tryd.underlying81
  a37 := Tryd.isAgg81
  z37 := Tryd.sizeOf81
  v37 := Tryd.zeroValue81
  t70 := Tryd.underlying80
  a70 := Tryd.isAgg80
  z70 := Tryd.sizeOf80
  v70 := Tryd.zeroValue80
  t72 := Tryd.underlying83
  a72 := Tryd.isAgg83
  z72 := Tryd.sizeOf83
  v72 := Tryd.zeroValue83
  t75 := Tryd.underlying85
  a75 := Tryd.isAgg85
  z75 := Tryd.sizeOf85
  v75 := Tryd.zeroValue85
  t76 := Tryd.underlying86
  a76 := Tryd.isAgg86
  z76 := Tryd.sizeOf86
  v76 := Tryd.zeroValue86
  t127 := Tryd.underlying109
  a127 := Tryd.isAgg109
  z127 := Tryd.sizeOf109
  v127 := Tryd.zeroValue109
  t164 := Tryd.underlying113
  a164 := Tryd.isAgg113
  z164 := Tryd.sizeOf113
  v164 := Tryd.zeroValue113 }
theorem Tryd.Builder_Extra_156 : Builder.Extra Tryd.prog Tryd.lays156_ren := {
  sizeBuilder := by kernel_rfl
  liesBuilder := by kernel_rfl
  t5 := Tryd.underlying5
  a5 := Tryd.isAgg5
  z5 := Tryd.sizeOf5
  v5 := Tryd.zeroValue5
  infoByte := by kernel_rfl
  cellsByte := by kernel_rfl
  sizeByte := by kernel_rfl
  neB5 := by decide }
open Go.RowKit in
theorem Tryd.strings_Join_none (a : Option Addr) (c : Nat) (sep : ByteArray) (w : World) :
    Calls Tryd.prog 35 #[.slice a 0 c, .string sep] w fun e w' => e = .returned (.string ⟨#[]⟩) ∧ w' = w := Any.strings_Join_none Tryd.lays156 Tryd.Builder_Extra_156 a c sep w
open Go.RowKit in
theorem Tryd.strings_Join (bk o c : Nat) (xs : List ByteArray) (sep : ByteArray) (w : World) (hcells : ∀ (j : Nat) x, xs[j]? = some x → w.cell? ⟨bk, o + j, none⟩ = some (.string x)) (hbk : bk < w.heap.size) (hN : xs.length ≤ 140737488355328) (hcap : xs.length ≤ c) (hlen : (Lib.join (xs.map (·.data.toList)) sep.data.toList).length ≤ 140737488355328) :
    Calls Tryd.prog 35 #[.slice (some ⟨bk, o, none⟩) xs.length c, .string sep] w fun e w' => e = .returned (.string ⟨(Lib.join (xs.map (·.data.toList)) sep.data.toList).toArray⟩) ∧ Below w.heap.size w w' := Any.strings_Join Tryd.lays156 Tryd.Builder_Extra_156 bk o c xs sep w hcells hbk hN hcap hlen
open Go.RowKit in
theorem Tryd.Builder_String_f (B b : Nat) (l : List UInt8) (w : World) (h : Lib.IsBuilderF 83 5 B b (Lib.byteCells l) w) (h0 : l ≠ []) :
    Calls Tryd.prog 54 #[.pointer (some ⟨b, 0, none⟩)] w fun e w' => e = .returned (.string ⟨l.toArray⟩) ∧ (Lib.IsBuilderF 83 5 B b (Lib.byteCells l) w' ∧ Below B w w') := Any.Builder_String_f Tryd.lays169 Tryd.Builder_Extra_169 B b l w h h0
open Go.RowKit in
theorem Tryd.Builder_String_empty_f (B b : Nat) (w : World) (h : Lib.IsBuilderF 83 5 B b [] w) (hBw : B ≤ w.heap.size) :
    Calls Tryd.prog 54 #[.pointer (some ⟨b, 0, none⟩)] w fun e w' => e = .returned (.string ⟨#[]⟩) ∧ (Lib.IsBuilderF 83 5 B b [] w' ∧ Below B w w') := Any.Builder_String_empty_f Tryd.lays169 Tryd.Builder_Extra_169 B b w h hBw
open Go.RowKit in
theorem Tryd.Builder_String_any_f (B b : Nat) (l : List UInt8) (w : World) (h : Lib.IsBuilderF 83 5 B b (Lib.byteCells l) w) (hBw : B ≤ w.heap.size) :
    Calls Tryd.prog 54 #[.pointer (some ⟨b, 0, none⟩)] w fun e w' => e = .returned (.string ⟨l.toArray⟩) ∧ (Lib.IsBuilderF 83 5 B b (Lib.byteCells l) w' ∧ Below B w w') := Any.Builder_String_any_f Tryd.lays169 Tryd.Builder_Extra_169 B b l w h hBw
open Go.RowKit in
theorem Tryd.Builder_grow_fresh_cap (B b n : Nat) (w : World) (hB : B ≤ b) (hbk : w.heap[b]? = some (.cells #[.pointer (some ⟨b, 0, none⟩), .slice none 0 0] 83 (0, 0))) (hBw : B ≤ w.heap.size) (hn : n ≤ 281474976710656) :
    Calls Tryd.prog 77 #[.pointer (some ⟨b, 0, none⟩), .int .i64 n] w fun e w' => e = .returned (.tuple #[]) ∧ (Lib.BuilderAt 83 5 B b (.pointer (some ⟨b, 0, none⟩)) [] w' ∧ Below B w w') ∧ ∃ p cap, w'.cell? ⟨b, 1, none⟩ = some (.slice p 0 cap) ∧ n ≤ cap := Any.Builder_grow_fresh_cap Tryd.lays241 Tryd.Builder_Extra_241 B b n w hB hbk hBw hn
open Go.RowKit in
theorem Tryd.Builder_Grow_fresh_cap (B b n : Nat) (w : World) (hB : B ≤ b) (hbk : w.heap[b]? = some (.cells #[.pointer none, .slice none 0 0] 83 (0, 0))) (hBw : B ≤ w.heap.size) (hn : n ≤ 281474976710656) :
    Calls Tryd.prog 60 #[.pointer (some ⟨b, 0, none⟩), .int .i64 n] w fun e w' => e = .returned (.tuple #[]) ∧ (Lib.BuilderAt 83 5 B b (.pointer (some ⟨b, 0, none⟩)) [] w' ∧ Below B w w') ∧ ∃ p cap, w'.cell? ⟨b, 1, none⟩ = some (.slice p 0 cap) ∧ n ≤ cap := Any.Builder_Grow_fresh_cap Tryd.lays165 Tryd.Builder_Extra_165 B b n w hB hbk hBw hn
def Tryd.lays129_ren : Go.Shelf.Ren := ⟨fun | 129 => 90 | n => n, fun | 53 => 116 | 3 => 3 | 4 => 4 | 46 => 128 | 5 => 5 | 9 => 9 | n => n, fun | n => n⟩
theorem Tryd.lays129 : Go.Proofs.Lays.n129 Tryd.prog Tryd.lays129_ren := {
  mixed := by kernel_rfl
  f129 := Tryd.func90.trans (congrArg some (by kernel_rfl))
  t3 := Tryd.underlying3
  a3 := Tryd.isAgg3
  z3 := Tryd.sizeOf3
  v3 := Tryd.zeroValue3
  t4 := Tryd.underlying4
  a4 := Tryd.isAgg4
  z4 := Tryd.sizeOf4
  v4 := Tryd.zeroValue4
  t5 := Tryd.underlying5
  a5 := Tryd.isAgg5
  z5 := Tryd.sizeOf5
  v5 := Tryd.zeroValue5
  t9 := Tryd.underlying9
  a9 := Tryd.isAgg9
  z9 := Tryd.sizeOf9
  v9 := Tryd.zeroValue9
  t46 := Tryd.underlying128
  a46 := Tryd.isAgg128
  z46 := Tryd.sizeOf128
  v46 := Tryd.zeroValue128
  t53 := Tryd.underlying116
  a53 := Tryd.isAgg116
  z53 := Tryd.sizeOf116
  v53 := Tryd.zeroValue116 }
theorem Tryd.bits_Len64 (x : Int) (w : World) (h0 : 0 ≤ x) (h1 : x ≤ 18446744073709551615) :
    Calls Tryd.prog 90 #[.int .u64 x] w fun e w' => e = .returned (.int .i64 (Lib.bitLen x.toNat)) ∧ w' = w := Any.bits_Len64 Tryd.lays129 x w h0 h1
def Tryd.lays317_ren : Go.Shelf.Ren := ⟨fun | 317 => 89 | n => n, fun | 3 => 3 | 46 => 128 | n => n, fun | n => n⟩
theorem Tryd.lays317 : Go.Proofs.Lays.n317 Tryd.prog Tryd.lays317_ren := {
  mixed := by kernel_rfl
  f317 := Tryd.func89.trans (congrArg some (by kernel_rfl))
  t3 := Tryd.underlying3
  a3 := Tryd.isAgg3
  z3 := Tryd.sizeOf3
  v3 := Tryd.zeroValue3
  t46 := Tryd.underlying128
  a46 := Tryd.isAgg128
  z46 := Tryd.sizeOf128
  v46 := Tryd.zeroValue128 }
open Go.Lib in
theorem Tryd.internal_strconv_log10Pow2 (x : Nat) (h : x ≤ 64) (w : World) :
    Calls Tryd.prog 89 #[.int .i64 x] w fun e w' => e = .returned (.int .i64 (Lib.l10 x)) ∧ w' = w := Any.internal_strconv_log10Pow2 Tryd.lays317 x h w
def Tryd.lays318_ren : Go.Shelf.Ren := ⟨fun | 318 => 91 | n => n, fun | 3 => 3 | 4 => 4 | n => n, fun | n => n⟩
theorem Tryd.lays318 : Go.Proofs.Lays.n318 Tryd.prog Tryd.lays318_ren := {
  mixed := by kernel_rfl
  f318 := Tryd.func91.trans (congrArg some (by kernel_rfl))
  t3 := Tryd.underlying3
  a3 := Tryd.isAgg3
  z3 := Tryd.sizeOf3
  v3 := Tryd.zeroValue3
  t4 := Tryd.underlying4
  a4 := Tryd.isAgg4
  z4 := Tryd.sizeOf4
  v4 := Tryd.zeroValue4 }
open Go.Lib in
theorem Tryd.internal_strconv_bool2_int (b : Bool) (w : World) :
    Calls Tryd.prog 91 #[.bool b] w fun e w' => e = .returned (.int .i64 (if b then 1 else 0)) ∧ w' = w := Any.internal_strconv_bool2_int Tryd.lays318 b w
def Tryd.lays283_ren : Go.Shelf.Ren := ⟨fun | 283 => 84 | n => n, fun | 3 => 3 | 9 => 9 | 4 => 4 | n => n, fun | n => n⟩
theorem Tryd.lays283 : Go.Proofs.Lays.n283 Tryd.prog Tryd.lays283_ren := {
  mixed := by kernel_rfl
  f283 := Tryd.func84.trans (congrArg some (by kernel_rfl))
  t3 := Tryd.underlying3
  a3 := Tryd.isAgg3
  z3 := Tryd.sizeOf3
  v3 := Tryd.zeroValue3
  t4 := Tryd.underlying4
  a4 := Tryd.isAgg4
  z4 := Tryd.sizeOf4
  v4 := Tryd.zeroValue4
  t9 := Tryd.underlying9
  a9 := Tryd.isAgg9
  z9 := Tryd.sizeOf9
  v9 := Tryd.zeroValue9 }
open Go.Lib in
theorem Tryd.internal_strconv_small (i : Nat) (h : i < 100) (w : World) :
    Calls Tryd.prog 84 #[.int .i64 i] w fun e w' => e = .returned (.string ⟨(Lib.decDigits i).toArray⟩) ∧ w' = w := Any.internal_strconv_small Tryd.lays283 i h w
def Tryd.laysM284_ren : Go.Shelf.Ren := ⟨fun | 284 => 85 | 129 => 90 | 317 => 89 | 318 => 91 | n => n, fun | 53 => 116 | 3 => 3 | 212 => 124 | 0 => 0 | 4 => 4 | 46 => 128 | 5 => 5 | 9 => 9 | n => n, fun | 17 => 0 | n => n⟩
theorem Tryd.laysM284 : Go.Proofs.LaysM.n284 Tryd.prog Tryd.laysM284_ren := {
  mixed := by kernel_rfl
  f129 := Tryd.func90.trans (congrArg some (by kernel_rfl))
  f284 := Tryd.func85.trans (congrArg some (by kernel_rfl))
  f317 := Tryd.func89.trans (congrArg some (by kernel_rfl))
  f318 := Tryd.func91.trans (congrArg some (by kernel_rfl))
  t0 := Tryd.underlying0
  a0 := Tryd.isAgg0
  z0 := Tryd.sizeOf0
  v0 := Tryd.zeroValue0
  t3 := Tryd.underlying3
  a3 := Tryd.isAgg3
  z3 := Tryd.sizeOf3
  v3 := Tryd.zeroValue3
  t4 := Tryd.underlying4
  a4 := Tryd.isAgg4
  z4 := Tryd.sizeOf4
  v4 := Tryd.zeroValue4
  t5 := Tryd.underlying5
  a5 := Tryd.isAgg5
  z5 := Tryd.sizeOf5
  v5 := Tryd.zeroValue5
  t9 := Tryd.underlying9
  a9 := Tryd.isAgg9
  z9 := Tryd.sizeOf9
  v9 := Tryd.zeroValue9
  t46 := Tryd.underlying128
  a46 := Tryd.isAgg128
  z46 := Tryd.sizeOf128
  v46 := Tryd.zeroValue128
  t53 := Tryd.underlying116
  a53 := Tryd.isAgg116
  z53 := Tryd.sizeOf116
  v53 := Tryd.zeroValue116
  t212 := Tryd.underlying124
  a212 := Tryd.isAgg124
  z212 := Tryd.sizeOf124
  v212 := Tryd.zeroValue124
  g17 := by kernel_rfl
  i0 := by kernel_rfl
  i3 := by kernel_rfl
  i4 := by kernel_rfl
  i5 := by kernel_rfl
  i9 := by kernel_rfl
  i46 := by kernel_rfl
  i53 := by kernel_rfl
  i212 := by kernel_rfl
  m17 := by kernel_rfl }
open Go.Lib in
theorem Tryd.internal_strconv_numDigits (u : Nat) (h1 : 1 ≤ u) (h2 : u < 18446744073709551616) (w : World) (htab : Lib.TabIs Tryd.prog w "internal/strconv.uint64pow10" .u64 Lib.pow10Tab) :
    Calls Tryd.prog 85 #[.int .u64 u] w fun e w' => e = .returned (.int .i64 (Lib.nDigits u)) ∧ w' = w := Any.internal_strconv_numDigits Tryd.laysM284 u h1 h2 w htab
def Tryd.lays285_ren : Go.Shelf.Ren := ⟨fun | 285 => 86 | n => n, fun | 37 => 81 | 53 => 116 | 3 => 3 | 4 => 4 | 51 => 125 | 9 => 9 | 5 => 5 | 0 => 0 | n => n, fun | n => n⟩
theorem Tryd.lays285 : Go.Proofs.Lays.n285 Tryd.prog Tryd.lays285_ren := {
  mixed := by kernel_rfl
  f285 := Tryd.func86.trans (congrArg some (by kernel_rfl))
  t0 := Tryd.underlying0
  a0 := Tryd.isAgg0
  z0 := Tryd.sizeOf0
  v0 := Tryd.zeroValue0
  t3 := Tryd.underlying3
  a3 := Tryd.isAgg3
  z3 := Tryd.sizeOf3
  v3 := Tryd.zeroValue3
  t4 := Tryd.underlying4
  a4 := Tryd.isAgg4
  z4 := Tryd.sizeOf4
  v4 := Tryd.zeroValue4
  t5 := Tryd.underlying5
  a5 := Tryd.isAgg5
  z5 := Tryd.sizeOf5
  v5 := Tryd.zeroValue5
  t9 := Tryd.underlying9
  a9 := Tryd.isAgg9
  z9 := Tryd.sizeOf9
  v9 := Tryd.zeroValue9
  t37 := Tryd.underlying81
  a37 := Tryd.isAgg81
  z37 := Tryd.sizeOf81
  v37 := Tryd.zeroValue81
  t51 := Tryd.underlying125
  a51 := Tryd.isAgg125
  z51 := Tryd.sizeOf125
  v51 := Tryd.zeroValue125
  t53 := Tryd.underlying116
  a53 := Tryd.isAgg116
  z53 := Tryd.sizeOf116
  v53 := Tryd.zeroValue116 }
open Go.RowKit Go.Sort Go.Lib in
theorem Tryd.internal_strconv_formatBase10 (blk off cap : Nat) (u : Nat) (d : Array UInt8) (w : World) (hH : Holds (fun (b : UInt8) => Value.int .u8 (b.toNat : Int)) w blk off d) (hu : u < 10 ^ d.size) (hu64 : u < 18446744073709551616) (hsz : d.size < 4611686018427387904) :
    Calls Tryd.prog 86 #[.slice (some ⟨blk, off, none⟩) d.size cap, .int .u64 u] w fun e w' =>
      e = .returned (.tuple #[]) ∧ ∃ (n v' : Nat) (dk : Array UInt8), w' = (putRow (fun (b : UInt8) => Value.int .u8 (b.toNat : Int)) w blk off dk).drewN n ∧ FmtInv d.size u 0 v' dk := Any.internal_strconv_formatBase10 Tryd.lays285 blk off cap u d w hH hu hu64 hsz
def Tryd.laysM246_ren : Go.Shelf.Ren := ⟨fun | 246 => 76 | 283 => 84 | 284 => 85 | 285 => 86 | 286 => 87 | 129 => 90 | 317 => 89 | 318 => 91 | 319 => 92 | 320 => 93 | 337 => 94 | 338 => 95 | n => n, fun | 2 => 2 | 3 => 3 | 9 => 9 | 4 => 4 | 171 => 115 | 0 => 0 | 53 => 116 | 37 => 81 | 5 => 5 | 173 => 119 | 212 => 124 | 51 => 125 | 20 => 20 | 213 => 126 | 46 => 128 | 232 => 131 | 233 => 132 | n => n, fun | 17 => 0 | 18 => 2 | 19 => 3 | n => n⟩
theorem Tryd.laysM246 : Go.Proofs.LaysM.n246 Tryd.prog Tryd.laysM246_ren := {
  mixed := by kernel_rfl
  f129 := Tryd.func90.trans (congrArg some (by kernel_rfl))
  f246 := Tryd.func76.trans (congrArg some (by kernel_rfl))
  f283 := Tryd.func84.trans (congrArg some (by kernel_rfl))
  f284 := Tryd.func85.trans (congrArg some (by kernel_rfl))
  f285 := Tryd.func86.trans (congrArg some (by kernel_rfl))
  f286 := Tryd.func87.trans (congrArg some (by kernel_rfl))
  f317 := Tryd.func89.trans (congrArg some (by kernel_rfl))
  f318 := Tryd.func91.trans (congrArg some (by kernel_rfl))
  f319 := Tryd.func92.trans (congrArg some (by kernel_rfl))
  f320 := Tryd.func93.trans (congrArg some (by kernel_rfl))
  f337 := Tryd.func94.trans (congrArg some (by kernel_rfl))
  f338 := Tryd.func95.trans (congrArg some (by kernel_rfl))
  t0 := Tryd.underlying0
  a0 := Tryd.isAgg0
  z0 := Tryd.sizeOf0
  v0 := Tryd.zeroValue0
  t2 := Tryd.underlying2
  a2 := Tryd.isAgg2
  z2 := Tryd.sizeOf2
  v2 := Tryd.zeroValue2
  t3 := Tryd.underlying3
  a3 := Tryd.isAgg3
  z3 := Tryd.sizeOf3
  v3 := Tryd.zeroValue3
  t4 := Tryd.underlying4
  a4 := Tryd.isAgg4
  z4 := Tryd.sizeOf4
  v4 := Tryd.zeroValue4
  t5 := Tryd.underlying5
  a5 := Tryd.isAgg5
  z5 := Tryd.sizeOf5
  v5 := Tryd.zeroValue5
  t9 := Tryd.underlying9
  a9 := Tryd.isAgg9
  z9 := Tryd.sizeOf9
  v9 := Tryd.zeroValue9
  t20 := Tryd.underlying20
  a20 := Tryd.isAgg20
  z20 := Tryd.sizeOf20
  v20 := Tryd.zeroValue20
  t37 := Tryd.underlying81
  a37 := Tryd.isAgg81
  z37 := Tryd.sizeOf81
  v37 := Tryd.zeroValue81
  t46 := Tryd.underlying128
  a46 := Tryd.isAgg128
  z46 := Tryd.sizeOf128
  v46 := Tryd.zeroValue128
  t51 := Tryd.underlying125
  a51 := Tryd.isAgg125
  z51 := Tryd.sizeOf125
  v51 := Tryd.zeroValue125
  t53 := Tryd.underlying116
  a53 := Tryd.isAgg116
  z53 := Tryd.sizeOf116
  v53 := Tryd.zeroValue116
  t171 := Tryd.underlying115
  a171 := Tryd.isAgg115
  z171 := Tryd.sizeOf115
  v171 := Tryd.zeroValue115
  t173 := Tryd.underlying119
  a173 := Tryd.isAgg119
  z173 := Tryd.sizeOf119
  v173 := Tryd.zeroValue119
  t212 := Tryd.underlying124
  a212 := Tryd.isAgg124
  z212 := Tryd.sizeOf124
  v212 := Tryd.zeroValue124
  t213 := Tryd.underlying126
  a213 := Tryd.isAgg126
  z213 := Tryd.sizeOf126
  t232 := Tryd.underlying131
  a232 := Tryd.isAgg131
  z232 := Tryd.sizeOf131
  v232 := Tryd.zeroValue131
  t233 := Tryd.underlying132
  a233 := Tryd.isAgg132
  z233 := Tryd.sizeOf132
  v233 := Tryd.zeroValue132
  g17 := by kernel_rfl
  g18 := by kernel_rfl
  g19 := by kernel_rfl
  i0 := by kernel_rfl
  i2 := by kernel_rfl
  i3 := by kernel_rfl
  i4 := by kernel_rfl
  i5 := by kernel_rfl
  i9 := by kernel_rfl
  i20 := by kernel_rfl
  i37 := by kernel_rfl
  i46 := by kernel_rfl
  i51 := by kernel_rfl
  i53 := by kernel_rfl
  i171 := by kernel_rfl
  i173 := by kernel_rfl
  i212 := by kernel_rfl
  i232 := by kernel_rfl
  i233 := by kernel_rfl
  m17 := by kernel_rfl
  m18 := by kernel_rfl
  m19 := by kernel_rfl }
open Go.RowKit Go.Sort Go.Lib in
theorem Tryd.internal_strconv_FormatInt_10 (n : Int) (h0 : -9223372036854775808 ≤ n) (h1 : n ≤ 9223372036854775807) (w : World) (htab : Lib.TabIs Tryd.prog w "internal/strconv.uint64pow10" .u64 Lib.pow10Tab) :
    Calls Tryd.prog 76 #[.int .i64 n, .int .i64 10] w fun e w' => e = .returned (.string ⟨(Lib.itoa n).toArray⟩) ∧ ∃ k os, w' = grow (w.drewN k) os := Any.internal_strconv_FormatInt_10 Tryd.laysM246 n h0 h1 w htab
def Tryd.lays246_ren : Go.Shelf.Ren := ⟨fun | 246 => 76 | 283 => 84 | 284 => 85 | 285 => 86 | 286 => 87 | 129 => 90 | 317 => 89 | 318 => 91 | 319 => 92 | 320 => 93 | 337 => 94 | 338 => 95 | n => n, fun | 2 => 2 | 3 => 3 | 9 => 9 | 4 => 4 | 171 => 115 | 0 => 0 | 53 => 116 | 37 => 81 | 5 => 5 | 173 => 119 | 212 => 124 | 51 => 125 | 20 => 20 | 213 => 126 | 46 => 128 | 232 => 131 | 233 => 132 | n => n, fun | 17 => 0 | 18 => 2 | 19 => 3 | n => n⟩
theorem Tryd.lays246 : Go.Proofs.Lays.n246 Tryd.prog Tryd.lays246_ren := {
  mixed := by kernel_rfl
  f129 := Tryd.func90.trans (congrArg some (by kernel_rfl))
  f246 := Tryd.func76.trans (congrArg some (by kernel_rfl))
  f283 := Tryd.func84.trans (congrArg some (by kernel_rfl))
  f284 := Tryd.func85.trans (congrArg some (by kernel_rfl))
  f285 := Tryd.func86.trans (congrArg some (by kernel_rfl))
  f286 := Tryd.func87.trans (congrArg some (by kernel_rfl))
  f317 := Tryd.func89.trans (congrArg some (by kernel_rfl))
  f318 := Tryd.func91.trans (congrArg some (by kernel_rfl))
  f319 := Tryd.func92.trans (congrArg some (by kernel_rfl))
  f320 := Tryd.func93.trans (congrArg some (by kernel_rfl))
  f337 := Tryd.func94.trans (congrArg some (by kernel_rfl))
  f338 := Tryd.func95.trans (congrArg some (by kernel_rfl))
  t0 := Tryd.underlying0
  a0 := Tryd.isAgg0
  z0 := Tryd.sizeOf0
  v0 := Tryd.zeroValue0
  t2 := Tryd.underlying2
  a2 := Tryd.isAgg2
  z2 := Tryd.sizeOf2
  v2 := Tryd.zeroValue2
  t3 := Tryd.underlying3
  a3 := Tryd.isAgg3
  z3 := Tryd.sizeOf3
  v3 := Tryd.zeroValue3
  t4 := Tryd.underlying4
  a4 := Tryd.isAgg4
  z4 := Tryd.sizeOf4
  v4 := Tryd.zeroValue4
  t5 := Tryd.underlying5
  a5 := Tryd.isAgg5
  z5 := Tryd.sizeOf5
  v5 := Tryd.zeroValue5
  t9 := Tryd.underlying9
  a9 := Tryd.isAgg9
  z9 := Tryd.sizeOf9
  v9 := Tryd.zeroValue9
  t20 := Tryd.underlying20
  a20 := Tryd.isAgg20
  z20 := Tryd.sizeOf20
  v20 := Tryd.zeroValue20
  t37 := Tryd.underlying81
  a37 := Tryd.isAgg81
  z37 := Tryd.sizeOf81
  v37 := Tryd.zeroValue81
  t46 := Tryd.underlying128
  a46 := Tryd.isAgg128
  z46 := Tryd.sizeOf128
  v46 := Tryd.zeroValue128
  t51 := Tryd.underlying125
  a51 := Tryd.isAgg125
  z51 := Tryd.sizeOf125
  v51 := Tryd.zeroValue125
  t53 := Tryd.underlying116
  a53 := Tryd.isAgg116
  z53 := Tryd.sizeOf116
  v53 := Tryd.zeroValue116
  t171 := Tryd.underlying115
  a171 := Tryd.isAgg115
  z171 := Tryd.sizeOf115
  v171 := Tryd.zeroValue115
  t173 := Tryd.underlying119
  a173 := Tryd.isAgg119
  z173 := Tryd.sizeOf119
  v173 := Tryd.zeroValue119
  t212 := Tryd.underlying124
  a212 := Tryd.isAgg124
  z212 := Tryd.sizeOf124
  v212 := Tryd.zeroValue124
  t213 := Tryd.underlying126
  a213 := Tryd.isAgg126
  z213 := Tryd.sizeOf126
  t232 := Tryd.underlying131
  a232 := Tryd.isAgg131
  z232 := Tryd.sizeOf131
  v232 := Tryd.zeroValue131
  t233 := Tryd.underlying132
  a233 := Tryd.isAgg132
  z233 := Tryd.sizeOf132
  v233 := Tryd.zeroValue132
  g17 := by kernel_rfl
  g18 := by kernel_rfl
  g19 := by kernel_rfl }
open Go.RowKit Go.Sort Go.Lib in
theorem Tryd.internal_strconv_FormatInt_10_small (i : Nat) (hi : i < 100) (w : World) :
    Calls Tryd.prog 76 #[.int .i64 i, .int .i64 10] w fun e w' => e = .returned (.string ⟨(Lib.decDigits i).toArray⟩) ∧ w' = w := Any.internal_strconv_FormatInt_10_small Tryd.lays246 i hi w
def Tryd.laysM173_ren : Go.Shelf.Ren := ⟨fun | 173 => 55 | 246 => 76 | 283 => 84 | 284 => 85 | 285 => 86 | 286 => 87 | 129 => 90 | 317 => 89 | 318 => 91 | 319 => 92 | 320 => 93 | 337 => 94 | 338 => 95 | n => n, fun | 2 => 2 | 3 => 3 | 9 => 9 | 4 => 4 | 171 => 115 | 0 => 0 | 53 => 116 | 37 => 81 | 5 => 5 | 173 => 119 | 212 => 124 | 51 => 125 | 20 => 20 | 213 => 126 | 46 => 128 | 232 => 131 | 233 => 132 | n => n, fun | 17 => 0 | 18 => 2 | 19 => 3 | n => n⟩
theorem Tryd.laysM173 : Go.Proofs.LaysM.n173 Tryd.prog Tryd.laysM173_ren := {
  mixed := by kernel_rfl
  f129 := Tryd.func90.trans (congrArg some (by kernel_rfl))
  f173 := Tryd.func55.trans (congrArg some (by kernel_rfl))
  f246 := Tryd.func76.trans (congrArg some (by kernel_rfl))
  f283 := Tryd.func84.trans (congrArg some (by kernel_rfl))
  f284 := Tryd.func85.trans (congrArg some (by kernel_rfl))
  f285 := Tryd.func86.trans (congrArg some (by kernel_rfl))
  f286 := Tryd.func87.trans (congrArg some (by kernel_rfl))
  f317 := Tryd.func89.trans (congrArg some (by kernel_rfl))
  f318 := Tryd.func91.trans (congrArg some (by kernel_rfl))
  f319 := Tryd.func92.trans (congrArg some (by kernel_rfl))
  f320 := Tryd.func93.trans (congrArg some (by kernel_rfl))
  f337 := Tryd.func94.trans (congrArg some (by kernel_rfl))
  f338 := Tryd.func95.trans (congrArg some (by kernel_rfl))
  t0 := Tryd.underlying0
  a0 := Tryd.isAgg0
  z0 := Tryd.sizeOf0
  v0 := Tryd.zeroValue0
  t2 := Tryd.underlying2
  a2 := Tryd.isAgg2
  z2 := Tryd.sizeOf2
  v2 := Tryd.zeroValue2
  t3 := Tryd.underlying3
  a3 := Tryd.isAgg3
  z3 := Tryd.sizeOf3
  v3 := Tryd.zeroValue3
  t4 := Tryd.underlying4
  a4 := Tryd.isAgg4
  z4 := Tryd.sizeOf4
  v4 := Tryd.zeroValue4
  t5 := Tryd.underlying5
  a5 := Tryd.isAgg5
  z5 := Tryd.sizeOf5
  v5 := Tryd.zeroValue5
  t9 := Tryd.underlying9
  a9 := Tryd.isAgg9
  z9 := Tryd.sizeOf9
  v9 := Tryd.zeroValue9
  t20 := Tryd.underlying20
  a20 := Tryd.isAgg20
  z20 := Tryd.sizeOf20
  v20 := Tryd.zeroValue20
  t37 := Tryd.underlying81
  a37 := Tryd.isAgg81
  z37 := Tryd.sizeOf81
  v37 := Tryd.zeroValue81
  t46 := Tryd.underlying128
  a46 := Tryd.isAgg128
  z46 := Tryd.sizeOf128
  v46 := Tryd.zeroValue128
  t51 := Tryd.underlying125
  a51 := Tryd.isAgg125
  z51 := Tryd.sizeOf125
  v51 := Tryd.zeroValue125
  t53 := Tryd.underlying116
  a53 := Tryd.isAgg116
  z53 := Tryd.sizeOf116
  v53 := Tryd.zeroValue116
  t171 := Tryd.underlying115
  a171 := Tryd.isAgg115
  z171 := Tryd.sizeOf115
  v171 := Tryd.zeroValue115
  t173 := Tryd.underlying119
  a173 := Tryd.isAgg119
  z173 := Tryd.sizeOf119
  v173 := Tryd.zeroValue119
  t212 := Tryd.underlying124
  a212 := Tryd.isAgg124
  z212 := Tryd.sizeOf124
  v212 := Tryd.zeroValue124
  t213 := Tryd.underlying126
  a213 := Tryd.isAgg126
  z213 := Tryd.sizeOf126
  t232 := Tryd.underlying131
  a232 := Tryd.isAgg131
  z232 := Tryd.sizeOf131
  v232 := Tryd.zeroValue131
  t233 := Tryd.underlying132
  a233 := Tryd.isAgg132
  z233 := Tryd.sizeOf132
  v233 := Tryd.zeroValue132
  g17 := by kernel_rfl
  g18 := by kernel_rfl
  g19 := by kernel_rfl
  i0 := by kernel_rfl
  i2 := by kernel_rfl
  i3 := by kernel_rfl
  i4 := by kernel_rfl
  i5 := by kernel_rfl
  i9 := by kernel_rfl
  i20 := by kernel_rfl
  i37 := by kernel_rfl
  i46 := by kernel_rfl
  i51 := by kernel_rfl
  i53 := by kernel_rfl
  i171 := by kernel_rfl
  i173 := by kernel_rfl
  i212 := by kernel_rfl
  i232 := by kernel_rfl
  i233 := by kernel_rfl
  m17 := by kernel_rfl
  m18 := by kernel_rfl
  m19 := by kernel_rfl }
open Go.RowKit Go.Sort Go.Lib in
theorem Tryd.strconv_FormatInt_10 (n : Int) (h0 : -9223372036854775808 ≤ n) (h1 : n ≤ 9223372036854775807) (w : World) (htab : Lib.TabIs Tryd.prog w "internal/strconv.uint64pow10" .u64 Lib.pow10Tab) :
    Calls Tryd.prog 55 #[.int .i64 n, .int .i64 10] w fun e w' => e = .returned (.string ⟨(Lib.itoa n).toArray⟩) ∧ ∃ k os, w' = grow (w.drewN k) os := Any.strconv_FormatInt_10 Tryd.laysM173 n h0 h1 w htab
def Tryd.lays173_ren : Go.Shelf.Ren := ⟨fun | 173 => 55 | 246 => 76 | 283 => 84 | 284 => 85 | 285 => 86 | 286 => 87 | 129 => 90 | 317 => 89 | 318 => 91 | 319 => 92 | 320 => 93 | 337 => 94 | 338 => 95 | n => n, fun | 2 => 2 | 3 => 3 | 9 => 9 | 4 => 4 | 171 => 115 | 0 => 0 | 53 => 116 | 37 => 81 | 5 => 5 | 173 => 119 | 212 => 124 | 51 => 125 | 20 => 20 | 213 => 126 | 46 => 128 | 232 => 131 | 233 => 132 | n => n, fun | 17 => 0 | 18 => 2 | 19 => 3 | n => n⟩
theorem Tryd.lays173 : Go.Proofs.Lays.n173 Tryd.prog Tryd.lays173_ren := {
  mixed := by kernel_rfl
  f129 := Tryd.func90.trans (congrArg some (by kernel_rfl))
  f173 := Tryd.func55.trans (congrArg some (by kernel_rfl))
  f246 := Tryd.func76.trans (congrArg some (by kernel_rfl))
  f283 := Tryd.func84.trans (congrArg some (by kernel_rfl))
  f284 := Tryd.func85.trans (congrArg some (by kernel_rfl))
  f285 := Tryd.func86.trans (congrArg some (by kernel_rfl))
  f286 := Tryd.func87.trans (congrArg some (by kernel_rfl))
  f317 := Tryd.func89.trans (congrArg some (by kernel_rfl))
  f318 := Tryd.func91.trans (congrArg some (by kernel_rfl))
  f319 := Tryd.func92.trans (congrArg some (by kernel_rfl))
  f320 := Tryd.func93.trans (congrArg some (by kernel_rfl))
  f337 := Tryd.func94.trans (congrArg some (by kernel_rfl))
  f338 := Tryd.func95.trans (congrArg some (by kernel_rfl))
  t0 := Tryd.underlying0
  a0 := Tryd.isAgg0
  z0 := Tryd.sizeOf0
  v0 := Tryd.zeroValue0
  t2 := Tryd.underlying2
  a2 := Tryd.isAgg2
  z2 := Tryd.sizeOf2
  v2 := Tryd.zeroValue2
  t3 := Tryd.underlying3
  a3 := Tryd.isAgg3
  z3 := Tryd.sizeOf3
  v3 := Tryd.zeroValue3
  t4 := Tryd.underlying4
  a4 := Tryd.isAgg4
  z4 := Tryd.sizeOf4
  v4 := Tryd.zeroValue4
  t5 := Tryd.underlying5
  a5 := Tryd.isAgg5
  z5 := Tryd.sizeOf5
  v5 := Tryd.zeroValue5
  t9 := Tryd.underlying9
  a9 := Tryd.isAgg9
  z9 := Tryd.sizeOf9
  v9 := Tryd.zeroValue9
  t20 := Tryd.underlying20
  a20 := Tryd.isAgg20
  z20 := Tryd.sizeOf20
  v20 := Tryd.zeroValue20
  t37 := Tryd.underlying81
  a37 := Tryd.isAgg81
  z37 := Tryd.sizeOf81
  v37 := Tryd.zeroValue81
  t46 := Tryd.underlying128
  a46 := Tryd.isAgg128
  z46 := Tryd.sizeOf128
  v46 := Tryd.zeroValue128
  t51 := Tryd.underlying125
  a51 := Tryd.isAgg125
  z51 := Tryd.sizeOf125
  v51 := Tryd.zeroValue125
  t53 := Tryd.underlying116
  a53 := Tryd.isAgg116
  z53 := Tryd.sizeOf116
  v53 := Tryd.zeroValue116
  t171 := Tryd.underlying115
  a171 := Tryd.isAgg115
  z171 := Tryd.sizeOf115
  v171 := Tryd.zeroValue115
  t173 := Tryd.underlying119
  a173 := Tryd.isAgg119
  z173 := Tryd.sizeOf119
  v173 := Tryd.zeroValue119
  t212 := Tryd.underlying124
  a212 := Tryd.isAgg124
  z212 := Tryd.sizeOf124
  v212 := Tryd.zeroValue124
  t213 := Tryd.underlying126
  a213 := Tryd.isAgg126
  z213 := Tryd.sizeOf126
  t232 := Tryd.underlying131
  a232 := Tryd.isAgg131
  z232 := Tryd.sizeOf131
  v232 := Tryd.zeroValue131
  t233 := Tryd.underlying132
  a233 := Tryd.isAgg132
  z233 := Tryd.sizeOf132
  v233 := Tryd.zeroValue132
  g17 := by kernel_rfl
  g18 := by kernel_rfl
  g19 := by kernel_rfl }
open Go.RowKit Go.Sort Go.Lib in
theorem Tryd.strconv_FormatInt_10_small (i : Nat) (hi : i < 100) (w : World) :
    Calls Tryd.prog 55 #[.int .i64 i, .int .i64 10] w fun e w' => e = .returned (.string ⟨(Lib.decDigits i).toArray⟩) ∧ w' = w := Any.strconv_FormatInt_10_small Tryd.lays173 i hi w
end Go.Proofs

namespace Go.Proofs.YtppphpnimecgpaaDoor
open Go.RowKit
set_option linter.unusedVariables false
set_option linter.unusedSimpArgs false

/-- the library's table of powers reads as it was laid, whatever is made new -/
def Tab (w : World) : Prop := Lib.TabBelow Tryd.prog w.heap.size w "internal/strconv.uint64pow10" .u64 Lib.pow10Tab
theorem Tab.ext {w w' : World} (h : Tab w) (x : Ext w w') : Tab w' := fun w'' x' => h w'' (Ext.trans x x')
theorem decimal_c (n : Int) (w : World) (h0 : -9223372036854775808 ≤ n) (h1 : n ≤ 9223372036854775807) (ht : Tab w) :
    Calls Tryd.prog 28 #[.int .i64 n] w fun e w' => e = .returned (tx (Lib.itoa n)) ∧ Ext w w' := by
  go_enter Tryd.func28, Tryd.ntmps28
  go_wp2_with fail
  refine (Tryd.strconv_FormatInt_10 n h0 h1 w (ht w (Ext.refl w))).mono ?_
  rintro e w' ⟨rfl, k, os, rfl⟩
  go_wp2_with fail
  go_ret
  exact ⟨rfl, Lib.below_grow _ w (Nat.le_refl _) k os⟩
end Go.Proofs.YtppphpnimecgpaaDoor
