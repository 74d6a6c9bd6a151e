/- Two closed facts on the loaded program that each row's frame uses. Small general laws for the walks of this seat: worlds that only grow, regions that draw their order, slices of plain structs. No program in sight. What arguments of plain data hold: from the form's reading down to the cells. No program in sight. Plain arithmetic for the laws on readings and fits. No program in sight. Values that the functions on fits hand back. What the functions on single fits return: each walked once. Springs: torque at a position. No program in sight. Springs: the torque as a function, energies. No program in sight. Springs: fusees, running times, stopworks; weights. No program in sight. Lists of readings, by index: valid ones. No program in sight. Sums over lists of readings. No program in sight. The best change of a mean: both ways to it come to the same. No program in sight. The best change: the products in the spelling of the walks. No program in sight. The best change: the reference's round. No program in sight. Lists of integers: compared; absolute values. No program in sight. Jumps of readings. No program in sight. Rates between readings, residuals. No program in sight. Springs: the radii of a fusee. No program in sight. -/
import Derived.Test.YtaalceckofgbhaaRows
import Derived.KernelRfl
import Derived.WalkKit
import Derived.WalkSpells
import Derived.WalkLawsBesides
import Derived.Deep.QuietTactic
import Derived.BigQuiet
import Derived.Lib.Hide
import Derived.ProofKit
import Derived.Deep.Fields
import Derived.Deep.Slices
import Derived.Test.YtaalceckofgbhaaProg

namespace Go.Proofs.Ytaalceckofgbhaa
theorem own : ownKnob Try.prog.godebug = none := by kernel_rfl
theorem laidOut : laidOutB Try.prog = true := by kernel_rfl
end Go.Proofs.Ytaalceckofgbhaa

namespace Go.Proofs.Ytaalceckofgbhaa
open Go.RowKit
set_option linter.unusedVariables false

/-- The world w' has all blocks of w as they were, and perhaps more. -/
def Ext (w w' : World) : Prop := Below w.heap.size w w'
theorem Ext.refl (w : World) : Ext w w := Below.refl _ w
theorem Ext.size {w w' : World} (h : Ext w w') : w.heap.size ≤ w'.heap.size := Below.size h
theorem Ext.trans {a b c : World} (h : Ext a b) (k : Ext b c) : Ext a c := Below.trans h (Below.mono k h.size)
theorem Ext.drew {a w : World} (h : Ext a w) : Ext a w.drew := Below.drew h
theorem Ext.alloc {a w : World} (h : Ext a w) (o : Obj) : Ext a (w.alloc o) := Below.alloc h h.size o
theorem Ext.setCell {a w : World} (h : Ext a w) {p : Addr} (hp : a.heap.size ≤ p.block) (u : Value) : Ext a (w.setCell p u) := Below.setCell h hp u
theorem Ext.setAt {a w : World} (h : Ext a w) (b o : Nat) (u : Value) (hb : a.heap.size ≤ b) : Ext a (w.setCell ⟨b, o, none⟩ u) := h.setCell hb u
theorem Ext.cell {w w' : World} (h : Ext w w') {b o : Nat} (hb : b < w.heap.size) : w'.cell? ⟨b, o, none⟩ = w.cell? ⟨b, o, none⟩ := Below.cell (p := ⟨b, o, none⟩) h hb
theorem Ext.block {w w' : World} (h : Ext w w') {b : Nat} (hb : b < w.heap.size) : w'.heap[b]? = w.heap[b]? := Below.block h b hb
theorem Ext.grown {a w w' : World} {row : Option Nat} (h : Ext a w) (hg : w.grownBy w' row) (hr : ∀ k, row = some k → a.heap.size ≤ k) : Ext a w' := Below.grown h hg h.size hr

/-- A world that has grown out of w: what a callee leaves of which only this is known. -/
structure Past (w : World) where
  out : World
  bel : Ext w out
instance {w : World} : Nonempty (Past w) := ⟨⟨w, Ext.refl w⟩⟩
@[go_sem] theorem Past.cell {w : World} (x : Past w) (b o : Nat) (h : b < w.heap.size) : x.out.cell? ⟨b, o, none⟩ = w.cell? ⟨b, o, none⟩ := x.bel.cell h
@[go_sem] theorem Past.frozen {w : World} (x : Past w) (b o : Nat) (h : b < w.heap.size) : x.out.frozen? ⟨b, o, none⟩ = w.frozen? ⟨b, o, none⟩ := Below.frozen (p := ⟨b, o, none⟩) x.bel h
theorem Past.size {w : World} (x : Past w) : w.heap.size ≤ x.out.heap.size := x.bel.size
@[go_sem] theorem Past.lt {w : World} (x : Past w) (b : Nat) (h : b < w.heap.size) : b < x.out.heap.size := Nat.lt_of_lt_of_le h x.bel.size
@[go_sem] theorem Past.le {w : World} (x : Past w) (b : Nat) (h : b ≤ w.heap.size) : b ≤ x.out.heap.size := Nat.le_trans h x.bel.size
theorem Past.of {w w' : World} (h : Ext w w') : ∃ x : Past w, w' = x.out := ⟨⟨w', h⟩, rfl⟩
theorem Past.ofd {w w' : World} (h : Ext w.drew w') : ∃ x : Past w, w' = x.out := ⟨⟨w', Ext.trans ((Ext.refl w).drew) h⟩, rfl⟩
theorem Past.again {w w' : World} {x : Past w} (h : Ext x.out w') : ∃ y : Past w, w' = y.out := ⟨⟨w', x.bel.trans h⟩, rfl⟩

/-- A region that draws its order, whose operations read and whose calls only make new memory: one walk in the order of the text. -/
theorem wp_region_past {P : Program} {id : Nat} {Q : Exit → Act → World → Prop} {a : Act} {w : World} {l : List Oper} (hm : P.follows .mixedOrders = true) (hB : Region.lexB .any l.toArray = true)
    (h : wpQuiet P l.toArray (fun w' => ∃ x : Past w, w' = x.out) (fun a' => ∀ w', (∃ x : Past w, w' = x.out) → Q .normal a' w') l a) : (Code.region id l.toArray true).wp P Q a w :=
  wp_region_quiet (C := fun w' => ∃ x : Past w, w' = x.out) hm hB ⟨⟨_, (Ext.refl w).drew⟩, rfl⟩ (by simpa using h)
theorem Calls.past {P : Program} {f : FuncId} {args : Array Value} {w : World} {x : Past w} {v : Value}
    (h : Calls P f args x.out fun e w' => e = .returned v ∧ Ext x.out w') : Calls P f args x.out fun e w'' => e = .returned v ∧ ∃ y : Past w, w'' = y.out :=
  h.mono fun _ w' ⟨he, m⟩ => ⟨he, ⟨w', x.bel.trans m⟩, rfl⟩
theorem Calls.past_same {P : Program} {f : FuncId} {args : Array Value} {w : World} {x : Past w} {v : Value}
    (h : Calls P f args x.out fun e w' => e = .returned v ∧ x.out = w') : Calls P f args x.out fun e w'' => e = .returned v ∧ ∃ y : Past w, w'' = y.out :=
  h.mono fun _ w' ⟨he, m⟩ => ⟨he, x, m.symm⟩

theorem ret_bool {a b : Bool} (h : a = b) : Ending.returned (.bool a) = .returned (.bool b) := by rw [h]
theorem ret_i64 {a b : Int} (h : a = b) : Ending.returned (.int .i64 a) = .returned (.int .i64 b) := by rw [h]
theorem ret_two {v v' u u' : Value} (h : v = v') (h' : u = u') : Ending.returned (.tuple #[v, u]) = .returned (.tuple #[v', u']) := by rw [h, h']

/-- A slice (of address 'a', with n elements of two integers each) reads as 'h', 'o' in the world w. -/
def S2 (w : World) (a : Option Addr) (n : Nat) (h o : Nat → Int) : Prop :=
  0 < n → ∃ b off, a = some ⟨b, off, none⟩ ∧ b < w.heap.size ∧ ∀ j, j < n → w.cell? ⟨b, off + j * 2, none⟩ = some (.int .i64 (h j)) ∧ w.cell? ⟨b, off + j * 2 + 1, none⟩ = some (.int .i64 (o j))
theorem S2.ext {w w' : World} {a : Option Addr} {n : Nat} {h o : Nat → Int} (s : S2 w a n h o) (e : Ext w w') : S2 w' a n h o := fun hn => by
  obtain ⟨b, off, ha, hb, hc⟩ := s hn
  exact ⟨b, off, ha, Nat.lt_of_lt_of_le hb e.size, fun j hj => by rw [e.cell hb, e.cell hb]; exact hc j hj⟩
/-- At a place j below n. -/
theorem S2.at {w : World} {a : Option Addr} {n : Nat} {h o : Nat → Int} (s : S2 w a n h o) {j : Nat} (hj : j < n) :
    ∃ b off, a = some ⟨b, off, none⟩ ∧ b < w.heap.size ∧ w.cell? ⟨b, off + j * 2, none⟩ = some (.int .i64 (h j)) ∧ w.cell? ⟨b, off + j * 2 + 1, none⟩ = some (.int .i64 (o j)) := by
  obtain ⟨b, off, ha, hb, hc⟩ := s (by omega)
  exact ⟨b, off, ha, hb, hc j hj⟩

/-- A slice (of address 'a', with n elements) of integers reads as 'f' in the world w. -/
def S1 (w : World) (a : Option Addr) (n : Nat) (f : Nat → Int) : Prop :=
  0 < n → ∃ b off, a = some ⟨b, off, none⟩ ∧ b < w.heap.size ∧ ∀ j, j < n → w.cell? ⟨b, off + j, none⟩ = some (.int .i64 (f j))
theorem S1.ext {w w' : World} {a : Option Addr} {n : Nat} {f : Nat → Int} (s : S1 w a n f) (e : Ext w w') : S1 w' a n f := fun hn => by
  obtain ⟨b, off, ha, hb, hc⟩ := s hn
  exact ⟨b, off, ha, Nat.lt_of_lt_of_le hb e.size, fun j hj => by rw [e.cell hb]; exact hc j hj⟩
theorem S1.at {w : World} {a : Option Addr} {n : Nat} {f : Nat → Int} (s : S1 w a n f) {j : Nat} (hj : j < n) :
    ∃ b off, a = some ⟨b, off, none⟩ ∧ b < w.heap.size ∧ w.cell? ⟨b, off + j, none⟩ = some (.int .i64 (f j)) := by
  obtain ⟨b, off, ha, hb, hc⟩ := s (by omega)
  exact ⟨b, off, ha, hb, hc j hj⟩

/-- Block g of the world w holds the cells 'cur', none of them frozen. -/
def Blk (w : World) (g : Nat) (T : TypeId) (cur : Array Value) : Prop := w.heap[g]? = some (.cells cur T (0, 0))
theorem Blk.lt {w : World} {g : Nat} {T : TypeId} {cur : Array Value} (h : Blk w g T cur) : g < w.heap.size := (Array.getElem?_eq_some_iff.1 h).1
theorem Blk.ext {w w' : World} {g : Nat} {T : TypeId} {cur : Array Value} (h : Blk w g T cur) (e : Ext w w') : Blk w' g T cur := (e.block h.lt).trans h
theorem Blk.cell {w : World} {g : Nat} {T : TypeId} {cur : Array Value} (h : Blk w g T cur) (j : Nat) : w.cell? ⟨g, j, none⟩ = cur[j]? := cell_of_row w g j cur T (0, 0) h
theorem Blk.frozen {w : World} {g : Nat} {T : TypeId} {cur : Array Value} (h : Blk w g T cur) (j : Nat) : w.frozen? ⟨g, j, none⟩ = false := frozen_of_row w g j cur T h
theorem Blk.set {w : World} {g : Nat} {T : TypeId} {cur : Array Value} (h : Blk w g T cur) (j : Nat) (u : Value) : Blk (w.setCell ⟨g, j, none⟩ u) g T (cur.setIfInBounds j u) := heap_setCell_same w g j cur T u h
theorem Blk.other {w : World} {g : Nat} {T : TypeId} {cur : Array Value} (h : Blk w g T cur) (b j : Nat) (u : Value) (hne : g ≠ b) : Blk (w.setCell ⟨b, j, none⟩ u) g T cur :=
  (Below.heap_setCell w ⟨b, j, none⟩ u g hne).trans h
theorem Blk.new (w : World) (cur : Array Value) (T : TypeId) : Blk (w.alloc (.cells cur T)) w.heap.size T cur := heap_alloc_new w _

/-- The first k elements of the cells 'cur' are the pairs 'h', 'o'. -/
def C2 (cur : Array Value) (k : Nat) (h o : Nat → Int) : Prop := ∀ j, j < k → cur[j * 2]? = some (.int .i64 (h j)) ∧ cur[j * 2 + 1]? = some (.int .i64 (o j))
theorem C2.zero (cur : Array Value) (h o : Nat → Int) : C2 cur 0 h o := fun j hj => absurd hj (Nat.not_lt_zero j)
theorem C2.step {cur : Array Value} {k : Nat} {h o : Nat → Int} (c : C2 cur k h o) (hk : k * 2 + 1 < cur.size) : C2 ((cur.setIfInBounds (k * 2) (.int .i64 (h k))).setIfInBounds (k * 2 + 1) (.int .i64 (o k))) (k + 1) h o := fun j hj => by
  rcases Nat.lt_succ_iff_lt_or_eq.1 hj with hlt | rfl
  · obtain ⟨c1, c2⟩ := c j hlt
    constructor
    · rw [Array.getElem?_setIfInBounds_ne (by omega), Array.getElem?_setIfInBounds_ne (by omega), c1]
    · rw [Array.getElem?_setIfInBounds_ne (by omega), Array.getElem?_setIfInBounds_ne (by omega), c2]
  · constructor
    · rw [Array.getElem?_setIfInBounds_ne (by omega), Array.getElem?_setIfInBounds_self_of_lt (by omega)]
    · rw [Array.getElem?_setIfInBounds_self_of_lt (by simp; omega)]
theorem C2.s2 {w : World} {g n : Nat} {T : TypeId} {cur : Array Value} {h o : Nat → Int} (b : Blk w g T cur) (c : C2 cur n h o) : S2 w (some ⟨g, 0, none⟩) n h o := fun _ =>
  ⟨g, 0, rfl, b.lt, fun j hj => by rw [b.cell, b.cell]; simpa using c j hj⟩
/-- The first k of the cells 'cur' are the integers f. -/
def C1 (cur : Array Value) (k : Nat) (f : Nat → Int) : Prop := ∀ j, j < k → cur[j]? = some (.int .i64 (f j))
theorem C1.zero (cur : Array Value) (f : Nat → Int) : C1 cur 0 f := fun j hj => absurd hj (Nat.not_lt_zero j)
theorem C1.step {cur : Array Value} {k : Nat} {f : Nat → Int} (c : C1 cur k f) (hk : k < cur.size) : C1 (cur.setIfInBounds k (.int .i64 (f k))) (k + 1) f := fun j hj => by
  rcases Nat.lt_succ_iff_lt_or_eq.1 hj with hlt | rfl
  · rw [Array.getElem?_setIfInBounds_ne (by omega), c j hlt]
  · rw [Array.getElem?_setIfInBounds_self_of_lt hk]
theorem C1.s1 {w : World} {g n : Nat} {T : TypeId} {cur : Array Value} {f : Nat → Int} (b : Blk w g T cur) (c : C1 cur n f) : S1 w (some ⟨g, 0, none⟩) n f := fun _ =>
  ⟨g, 0, rfl, b.lt, fun j hj => by rw [b.cell]; simpa using c j hj⟩

/-- The cells of a new slice, behind a name. -/
def Mk (z : Array Value) (n : Nat) : Array Value := madeCells z n
theorem Mk.size (z : Array Value) (n : Nat) : (Mk z n).size = n := size_madeCells z n
/-- 'make([]T, n)' -/
theorem make_run {P : Program} (t e : TypeId) (z : Value) (sz bytes : Nat) (ht : P.underlying t = some (.slice e)) (hinfo : (P.info? e).map (fun i => (i.zero, i.size, i.bytes)) = some (some z, sz, bytes))
    (n : Nat) (hb : bytes * n ≤ 281474976710656) (h63 : n ≤ 9223372036854775807) (w : World) :
    (Instr.makeSlice t (.int .i64 (n : Int)) (.int .i64 (n : Int))).run P w = .ok (.slice (some ⟨w.heap.size, 0, none⟩) n n) (w.alloc (.cells (Mk z.cells (n * sz)) e)) := by
  obtain ⟨i, hi, hz, hs, hby⟩ := info_parts hinfo
  subst hs hby
  have hb' : (i.bytes : Int) * (n : Int) ≤ 281474976710656 := by
    have h : ((i.bytes * n : Nat) : Int) ≤ 281474976710656 := by omega
    rwa [Int.natCast_mul] at h
  have := run_make (P := P) w t e i z ht hi hz .i64 .i64 n n (by omega) (Int.le_refl _) hb' (by omega)
  simpa [Mk] using this

end Go.Proofs.Ytaalceckofgbhaa

namespace Go.Proofs.Ytaalceckofgbhaa
open Go.ChangeShapes Go.WideShapes Go.RowKit Go.Deep
set_option linter.unusedVariables false

/-- every field is an int64 -/
def allI64 (P : Program) (fs : Array Field) : Bool := fs.toList.all fun f => match P.underlying f.type with
  | some (.int .i64) => true
  | _ => false
theorem allI64_at {P : Program} {fs : Array Field} (h : allI64 P fs = true) {j : Nat} {f : Field} (hj : fs[j]? = some f) : P.underlying f.type = some (.int .i64) := by
  have h1 := List.all_eq_true.1 h f (by rw [Array.mem_toList_iff]; exact Array.mem_of_getElem? hj)
  revert h1
  split
  · intro _; assumption
  · intro h2; cases h2
section
variable {H : Type} {enc : TypeId × Value → H} {P : Program} {w : World} {base : Nat} {spare : Nat → Bool} {held : Bool}
/-- a struct's fields, each with its reading -/
theorem down_struct {t : TypeId} {fs : Array Field} {fuel : Nat} {cs : List Value} {x : DataW H × List MemPlace} (hs : P.underlying t = some (.struct fs)) (hone : oneCellFields P fs = true) (hC : P.cellsOf t = fs.size)
    (h : DataW.trod enc P w base spare held fuel t cs = some x) :
    ∃ n, cs.length = fs.size ∧ ∀ (j : Nat) (f : Field), fs[j]? = some f → ∃ v y, cs[j]? = some v ∧ DataW.trod enc P w base spare held n f.type [v] = some y := by
  obtain ⟨xs, n, _, _, hl, hxl, hf⟩ := DataW.trod_struct hs h
  refine ⟨n, hl.trans hC, fun j f hj => ?_⟩
  obtain ⟨ho, hc⟩ := hone_of hone j f hj
  have hjl : j < fs.size := (Array.getElem?_eq_some_iff.1 hj).1
  have hjc : j < cs.length := by omega
  have h1 := hf j f hj
  rw [ho, hc, List.drop_eq_getElem_cons hjc, List.getElem?_eq_getElem (show j < xs.length by omega)] at h1
  exact ⟨cs[j], xs[j]'(by omega), List.getElem?_eq_getElem hjc, h1⟩
/-- a struct whose fields are all int64 -/
theorem down_ints {t : TypeId} {fs : Array Field} {fuel : Nat} {cs : List Value} {x : DataW H × List MemPlace} (hs : P.underlying t = some (.struct fs)) (hone : oneCellFields P fs = true) (hC : P.cellsOf t = fs.size) (hi : allI64 P fs = true)
    (h : DataW.trod enc P w base spare held fuel t cs = some x) :
    ∃ z : Nat → Int, cs = (List.range fs.size).map (fun j => Value.int .i64 (z j)) ∧ ∀ j, j < fs.size → (Lit.int .i64 (z j)).wf = true := by
  obtain ⟨n, hl, hf⟩ := down_struct hs hone hC h
  have hz : ∀ j, j < fs.size → ∃ z : Int, cs[j]? = some (.int .i64 z) ∧ (Lit.int .i64 z).wf = true := fun j hj => by
    obtain ⟨v, y, hv, hy⟩ := hf j fs[j] (Array.getElem?_eq_getElem hj)
    obtain ⟨z, hz, _, hw⟩ := DataW.trod_int (allI64_at hi (Array.getElem?_eq_getElem hj)) hy
    simp only [List.cons.injEq, and_true] at hz
    exact ⟨z, by rw [hv, hz], hw⟩
  obtain ⟨z, hz⟩ := choose_lt hz
  refine ⟨z, List.ext_getElem? fun j => ?_, fun j hj => (hz j hj).2⟩
  by_cases hj : j < fs.size
  · rw [(hz j hj).1]; simp [hj]
  · rw [List.getElem?_eq_none (by omega), List.getElem?_eq_none (by simp; omega)]
theorem down_agg {r : Reach} {b0 : Nat} {t : TypeId} {fs : Array Field} {v : Value} {d : DataW H} {p : List MemPlace} (hs : P.underlying t = some (.struct fs)) (hone : oneCellFields P fs = true) (hC : P.cellsOf t = fs.size) (hi : allI64 P fs = true)
    (hv : Value.okWide P w r b0 t v) (h : DataW.Trod enc P w base spare held t v d p) :
    ∃ z : Nat → Int, v = .agg ((List.range fs.size).map (fun j => Value.int .i64 (z j))).toArray ∧ ∀ j, j < fs.size → (Lit.int .i64 (z j)).wf = true := by
  obtain ⟨cs, rfl, hsz⟩ := okWide_struct hs hv
  obtain ⟨fuel, hf⟩ := h
  obtain ⟨z, hz, hw⟩ := down_ints hs hone hC hi hf
  refine ⟨z, ?_, hw⟩
  congr 1
  apply Array.toList_inj.1
  simpa [Value.cells] using hz
/-- a slice of such structs: nil, or the cells of its elements -/
theorem down_slice {t e : TypeId} {fs : Array Field} {v : Value} {d : DataW H} {p : List MemPlace} {r : Reach} {b0 : Nat} (ht : P.underlying t = some (.slice e)) (hs : P.underlying e = some (.struct fs)) (hone : oneCellFields P fs = true) (hC : P.cellsOf e = fs.size) (hi : allI64 P fs = true) (hpos : 0 < fs.size)
    (hv : Value.okWide P w r b0 t v) (h : DataW.Trod enc P w base spare held t v d p) (hlt : ∀ x ∈ p, x.block < w.heap.size) :
    ∃ (a : Option Addr) (n cap : Nat) (z : Nat → Nat → Int), v = .slice a n cap ∧ n ≤ cap ∧ cap ≤ maxLen ∧
      (0 < n → ∃ b off, a = some ⟨b, off, none⟩ ∧ b < w.heap.size ∧ ∀ i, i < n → ∀ j, j < fs.size → w.cell? ⟨b, off + i * fs.size + j, none⟩ = some (.int .i64 (z i j)) ∧ (Lit.int .i64 (z i j)).wf = true) := by
  obtain ⟨a, n, cap, rfl⟩ := okWide_slice ht hv
  obtain ⟨fuel, hf⟩ := h
  rcases open_slice ht hf with ⟨hcs, _⟩ | ⟨a', len', cap', m, n', D, Pl, hcs, hb, hl, hm, hmm, hx, hcell⟩
  · simp [Value.cells] at hcs
    obtain ⟨rfl, rfl, rfl⟩ := hcs
    exact ⟨none, 0, 0, fun _ _ => 0, rfl, Nat.le_refl _, Nat.zero_le _, fun h => absurd h (Nat.lt_irrefl 0)⟩
  · simp [Value.cells] at hcs
    obtain ⟨rfl, rfl, rfl⟩ := hcs
    have hlm : n ≤ m := by rw [hmm]; split <;> omega
    have hel : ∀ i, i < n → ∃ z : Nat → Int, ∀ j, j < fs.size → w.cell? (a'.add (i * fs.size + j)) = some (.int .i64 (z j)) ∧ (Lit.int .i64 (z j)).wf = true := fun i hi' => by
      obtain ⟨cs', hc, ht'⟩ := hcell i (by omega)
      rw [hC] at hc
      obtain ⟨_, hcl, hat⟩ := World.cells?_some hc
      obtain ⟨z, hz, hw⟩ := down_ints hs hone hC hi ht'
      refine ⟨z, fun j hj => ⟨?_, hw j hj⟩⟩
      rw [← Go.Deep.add_add, hat j hj, hz]; simp [hj]
    obtain ⟨z, hz⟩ := choose_lt hel
    refine ⟨some a', n, cap, z, rfl, hl, hm, fun hn => ?_⟩
    obtain ⟨b, off, spot⟩ := a'
    have h0 := (hz 0 hn 0 hpos).1
    have hspot : spot = none := by simpa [Addr.add] using World.cell?_spot h0
    subst hspot
    refine ⟨b, off, rfl, World.block_lt_of_cell? w ⟨b, off, none⟩ (by simpa [Addr.add] using h0), fun i hi' j hj => ?_⟩
    have h1 := hz i hi' j hj
    rw [Addr.add_lit] at h1
    rw [Nat.add_assoc]; exact h1
end
/-- an int64 fits its kind: its bounds -/
theorem wf_bd {n : Int} (h : (Lit.int .i64 n).wf = true) : -9223372036854775808 ≤ n ∧ n ≤ 9223372036854775807 := by
  simpa [Lit.wf, IntKind.min, IntKind.max, IntKind.signed, IntKind.bits] using h
/-- a slice of pairs of integers, from its cells -/
theorem s2_of {w : World} {a : Option Addr} {n : Nat} {z : Nat → Nat → Int}
    (h : 0 < n → ∃ b off, a = some ⟨b, off, none⟩ ∧ b < w.heap.size ∧ ∀ i, i < n → ∀ j, j < 2 → w.cell? ⟨b, off + i * 2 + j, none⟩ = some (.int .i64 (z i j)) ∧ (Lit.int .i64 (z i j)).wf = true) :
    S2 w a n (fun i => z i 0) (fun i => z i 1) := fun hn => by
  obtain ⟨b, off, ha, hb, hc⟩ := h hn
  exact ⟨b, off, ha, hb, fun i hi => ⟨(hc i hi 0 (by omega)).1, (hc i hi 1 (by omega)).1⟩⟩
end Go.Proofs.Ytaalceckofgbhaa

namespace Go.Proofs.Ytaalceckofgbhaa
set_option linter.unusedVariables false

/-- n lies from l to h -/
def inB (n l h : Int) : Bool := decide (l ≤ n) && decide (n ≤ h)
theorem inB_t {n l h : Int} : inB n l h = true ↔ l ≤ n ∧ n ≤ h := by simp [inB]
theorem inB_f {n l h : Int} : inB n l h = false ↔ ¬ (l ≤ n ∧ n ≤ h) := by rw [← inB_t]; simp

theorem mul_bd {a b A B : Int} (ha : -A ≤ a) (ha' : a ≤ A) (hb : -B ≤ b) (hb' : b ≤ B) : -(A * B) ≤ a * b ∧ a * b ≤ A * B := by
  have h1 : 0 ≤ (A - a) * (B - b) := Int.mul_nonneg (by omega) (by omega)
  have h2 : 0 ≤ (A + a) * (B + b) := Int.mul_nonneg (by omega) (by omega)
  have h3 : 0 ≤ (A - a) * (B + b) := Int.mul_nonneg (by omega) (by omega)
  have h4 : 0 ≤ (A + a) * (B - b) := Int.mul_nonneg (by omega) (by omega)
  simp only [Int.sub_mul, Int.mul_sub, Int.add_mul, Int.mul_add] at h1 h2 h3 h4
  omega
theorem mul_nn {a b A B : Int} (ha : 0 ≤ a) (ha' : a ≤ A) (hb : 0 ≤ b) (hb' : b ≤ B) : 0 ≤ a * b ∧ a * b ≤ A * B :=
  ⟨Int.mul_nonneg ha hb, (mul_bd (by omega) ha' (by omega) hb').2⟩

/-- Go's quotient, cut towards nought, and the floor -/
theorem tdiv_floor {n d : Int} (hd : 0 < d) : n.tdiv d = if n.tmod d < 0 then n / d + 1 else n / d := by
  have h1 := Int.mul_tdiv_add_tmod n d
  have h2 := Int.mul_ediv_add_emod n d
  have h3 := Int.emod_nonneg n (show d ≠ 0 by omega)
  have h4 := Int.emod_lt_of_pos n hd
  have h5 : -d < n.tmod d ∧ n.tmod d < d := ⟨Int.lt_tmod_of_pos n hd, Int.tmod_lt_of_pos n hd⟩
  split
  · rename_i h
    have e : d * (n.tdiv d - (n / d + 1)) = n % d - n.tmod d - d := by rw [Int.mul_sub, Int.mul_add]; omega
    have lo : d * (n.tdiv d - (n / d + 1)) < d * 1 := by rw [e]; omega
    have hi : d * (-1) < d * (n.tdiv d - (n / d + 1)) := by rw [e]; omega
    have := Int.lt_of_mul_lt_mul_left lo (by omega)
    have := Int.lt_of_mul_lt_mul_left hi (by omega)
    omega
  · rename_i h
    have e : d * (n.tdiv d - n / d) = n % d - n.tmod d := by rw [Int.mul_sub]; omega
    have lo : d * (n.tdiv d - n / d) < d * 1 := by rw [e]; omega
    have hi : d * (-1) < d * (n.tdiv d - n / d) := by rw [e]; omega
    have := Int.lt_of_mul_lt_mul_left lo (by omega)
    have := Int.lt_of_mul_lt_mul_left hi (by omega)
    omega
/-- the nearest integer, halves up -/
def nearD (n d : Int) : Int := (2 * n + d) / (2 * d)
theorem nearD_eq {n d : Int} (hd : 0 < d) : nearD n d = if d - n % d ≤ n % d then n / d + 1 else n / d := by
  unfold nearD
  have h2 := Int.mul_ediv_add_emod n d
  have h3 := Int.emod_nonneg n (show d ≠ 0 by omega)
  have h4 := Int.emod_lt_of_pos n hd
  split
  · rename_i h
    have e : 2 * n + d = (2 * (n % d) - d) + (2 * d) * (n / d + 1) := by rw [Int.mul_add, Int.mul_assoc]; omega
    rw [e, Int.add_mul_ediv_left _ _ (by omega), Int.ediv_eq_zero_of_lt (by omega) (by omega)]; omega
  · rename_i h
    have e : 2 * n + d = (2 * (n % d) + d) + (2 * d) * (n / d) := by rw [Int.mul_assoc]; omega
    rw [e, Int.add_mul_ediv_left _ _ (by omega), Int.ediv_eq_zero_of_lt (by omega) (by omega)]; omega
/-- bounds on a floor -/
theorem ediv_bd {n d N : Int} (hd : 0 < d) (h0 : -N ≤ n) (h1 : n ≤ N) (hN : 0 ≤ N) : -N ≤ n / d ∧ n / d ≤ N := by
  constructor
  · apply Int.le_ediv_of_mul_le hd
    have := Int.mul_le_mul_of_nonneg_left (show (1:Int) ≤ d by omega) hN
    rw [Int.neg_mul]; omega
  · by_cases hn : 0 ≤ n
    · have := Int.ediv_le_self d hn; omega
    · have := Int.ediv_neg_of_neg_of_pos (show n < 0 by omega) hd; omega
theorem ediv_mul_bd {n d : Int} (hd : 0 < d) : n - d < n / d * d ∧ n / d * d ≤ n := by
  have h2 := Int.mul_ediv_add_emod n d
  have h3 := Int.emod_nonneg n (show d ≠ 0 by omega)
  have h4 := Int.emod_lt_of_pos n hd
  rw [Int.mul_comm] at h2
  omega

/-- sums that are valid -/
def vF (c x y xx xy : Int) : Bool := inB c 0 60 && inB x 0 (c * 10000) && inB y (-c * 100000) (c * 100000) && inB xx 0 (c * 10000 * 10000) && inB xy (-c * 10000 * 100000) (c * 10000 * 100000) && decide (x * x ≤ c * xx)

/-- the slope's terms -/
def slN (c x y xx xy : Int) : Int := c * xy - x * y
def slD (c x y xx xy : Int) : Int := c * xx - x * x
/-- what valid sums bound -/
structure FB (c x y xx xy : Int) : Prop where
  c0 : 0 ≤ c
  c1 : c ≤ 60
  x0 : 0 ≤ x
  x1 : x ≤ 600000
  y0 : -6000000 ≤ y
  y1 : y ≤ 6000000
  xx0 : 0 ≤ xx
  xx1 : xx ≤ 6000000000
  xy0 : -60000000000 ≤ xy
  xy1 : xy ≤ 60000000000
  d0 : x * x ≤ c * xx
theorem vF_fb {c x y xx xy : Int} (h : vF c x y xx xy = true) : FB c x y xx xy := by
  simp only [vF, Bool.and_eq_true, inB_t, decide_eq_true_eq] at h
  obtain ⟨⟨⟨⟨⟨⟨h1, h2⟩, h3, h4⟩, h5, h6⟩, h7, h8⟩, h9, h10⟩, h11⟩ := h
  constructor <;> first | assumption | omega
theorem FB.cxy {c x y xx xy : Int} (f : FB c x y xx xy) : -3600000000000 ≤ c * xy ∧ c * xy ≤ 3600000000000 := by
  have := mul_bd (A := 60) (B := 60000000000) (by have := f.c0; omega) f.c1 (by have := f.xy0; omega) f.xy1; omega
theorem FB.xy {c x y xx xy : Int} (f : FB c x y xx xy) : -3600000000000 ≤ x * y ∧ x * y ≤ 3600000000000 := by
  have := mul_bd (A := 600000) (B := 6000000) (by have := f.x0; omega) f.x1 (by have := f.y0; omega) f.y1; omega
theorem FB.cxx {c x y xx xy : Int} (f : FB c x y xx xy) : 0 ≤ c * xx ∧ c * xx ≤ 360000000000 := by
  have := mul_nn f.c0 f.c1 f.xx0 f.xx1; omega
theorem FB.xx {c x y xx xy : Int} (f : FB c x y xx xy) : 0 ≤ x * x ∧ x * x ≤ 360000000000 := by
  have := mul_nn f.x0 f.x1 f.x0 f.x1; omega
theorem FB.n {c x y xx xy : Int} (f : FB c x y xx xy) : -7200000000000 ≤ slN c x y xx xy ∧ slN c x y xx xy ≤ 7200000000000 := by
  have := f.cxy; have := f.xy; unfold slN; omega
theorem FB.d {c x y xx xy : Int} (f : FB c x y xx xy) : 0 ≤ slD c x y xx xy ∧ slD c x y xx xy ≤ 360000000000 := by
  have := f.cxx; have := f.xx; have := f.d0; unfold slD; omega

/-- the code of a fit: 1 not valid, 6 without a line, 0 -/
def codeF (c x y xx xy : Int) : Int := if vF c x y xx xy then (if slD c x y xx xy = 0 then 6 else 0) else 1
/-- the slope of the fitted line, by day -/
def rateF (c x y xx xy : Int) : Int := if codeF c x y xx xy = 0 then nearD (24000 * slN c x y xx xy) (slD c x y xx xy) else 0
theorem codeF_v {c x y xx xy : Int} (h : codeF c x y xx xy = 0) : vF c x y xx xy = true := by
  unfold codeF at h; split at h
  · assumption
  · omega
theorem codeF_fb {c x y xx xy : Int} (h : codeF c x y xx xy = 0) : FB c x y xx xy := vF_fb (codeF_v h)
theorem codeF_d {c x y xx xy : Int} (h : codeF c x y xx xy = 0) : 0 < slD c x y xx xy := by
  have f := (codeF_fb h).d
  unfold codeF at h; rw [if_pos (codeF_v h)] at h; split at h <;> omega

/-- the value of the fitted line at an hour -/
def offV (c x y xx xy hr : Int) : Int := nearD (y * slD c x y xx xy + slN c x y xx xy * (hr * c - x)) (c * slD c x y xx xy)
/-- the bounds on the way to it -/
structure OB (c x y n d hr : Int) : Prop where
  hc0 : 0 ≤ hr * c
  hc1 : hr * c ≤ 600000
  yd0 : -2160000000000000000 ≤ y * d
  yd1 : y * d ≤ 2160000000000000000
  no0 : -4320000000000000000 ≤ n * (hr * c - x)
  no1 : n * (hr * c - x) ≤ 4320000000000000000
  cd0 : 0 < c * d
  cd1 : c * d ≤ 21600000000000
theorem ob_of {c x y xx xy hr : Int} (h : codeF c x y xx xy = 0) (h0 : 0 ≤ hr) (h1 : hr ≤ 10000) : OB c x y (slN c x y xx xy) (slD c x y xx xy) hr := by
  have f := codeF_fb h
  have dd := codeF_d h
  have n := f.n
  have d := f.d
  generalize slN c x y xx xy = N at *
  have hcp : 0 < c := by
    rcases Int.lt_or_le 0 c with h | h
    · exact h
    · have hc : c = 0 := by have := f.c0; omega
      subst hc
      have := f.d0
      unfold slD at dd; have h5 : 0 ≤ x * x := Int.mul_nonneg f.x0 f.x0; omega
  generalize slD c x y xx xy = D at *
  have a := mul_nn h0 h1 f.c0 f.c1
  have b := mul_bd (a := y) (b := D) (A := 6000000) (B := 360000000000) (by have := f.y0; omega) f.y1 (by omega) d.2
  have e := mul_bd (a := N) (b := hr * c - x) (A := 7200000000000) (B := 600000) (by omega) n.2 (by have := f.x1; omega) (by have := f.x0; omega)
  have g := mul_nn (a := c) (b := D) (A := 60) (B := 360000000000) f.c0 f.c1 d.1 d.2
  have g' : 0 < c * D := Int.mul_pos hcp dd
  constructor <;> omega
/-- the reference's way to the same value -/
structure OB' (c x y n d hr : Int) : Prop where
  w0 : -7200000000000 ≤ n / d
  w1 : n / d ≤ 7200000000000
  wd0 : -7560000000000 ≤ n / d * d
  wd1 : n / d * d ≤ 7200000000000
  ch0 : 0 ≤ c * hr
  ch1 : c * hr ≤ 600000
  wo0 : -4320000000000000000 ≤ n / d * (c * hr - x)
  wo1 : n / d * (c * hr - x) ≤ 4320000000000000000
  t0 : -6800000000000000000 ≤ (y + n / d * (c * hr - x)) * d
  t1 : (y + n / d * (c * hr - x)) * d ≤ 6800000000000000000
  r0 : -220000000000000000 ≤ (n - n / d * d) * (c * hr - x)
  r1 : (n - n / d * d) * (c * hr - x) ≤ 220000000000000000
  e : (y + n / d * (c * hr - x)) * d + (n - n / d * d) * (c * hr - x) = y * d + n * (hr * c - x)
theorem ob'_of {c x y xx xy hr : Int} (h : codeF c x y xx xy = 0) (h0 : 0 ≤ hr) (h1 : hr ≤ 10000) : OB' c x y (slN c x y xx xy) (slD c x y xx xy) hr := by
  have f := codeF_fb h
  have dd := codeF_d h
  have n := f.n
  have d := f.d
  generalize slN c x y xx xy = N at *
  generalize slD c x y xx xy = D at *
  have a := mul_nn (a := c) (b := hr) f.c0 f.c1 h0 h1
  obtain ⟨q0, q1⟩ := ediv_bd (n := N) (N := 7200000000000) dd (by omega) n.2 (by omega)
  obtain ⟨m0, m1⟩ := ediv_mul_bd (n := N) dd
  have ho0 : -600000 ≤ c * hr - x := by have := f.x1; omega
  have ho1 : c * hr - x ≤ 600000 := by have := f.x0; omega
  have hcomm : hr * c = c * hr := Int.mul_comm _ _
  have e1 : (y + N / D * (c * hr - x)) * D = y * D + N / D * D * (c * hr - x) := by
    rw [Int.add_mul, Int.mul_assoc, Int.mul_comm (c * hr - x) D, ← Int.mul_assoc]
  have e2 : (N - N / D * D) * (c * hr - x) = N * (c * hr - x) - N / D * D * (c * hr - x) := Int.sub_mul _ _ _
  rw [← hcomm] at a ho0 ho1 e1 e2
  have b := mul_bd (a := y) (b := D) (A := 6000000) (B := 360000000000) (by have := f.y0; omega) f.y1 (by omega) d.2
  have g := mul_bd (a := N / D) (b := hr * c - x) (A := 7200000000000) (B := 600000) (by omega) q1 ho0 ho1
  have k := mul_bd (a := N / D * D) (b := hr * c - x) (A := 7560000000000) (B := 600000) (by omega) (by omega) ho0 ho1
  have r := mul_bd (a := N - N / D * D) (b := hr * c - x) (A := 360000000000) (B := 600000) (by omega) (by omega) ho0 ho1
  constructor <;> first | (rw [hcomm] at *; omega) | omega
theorem inB_mid {h : Int} : inB h 0 10000 = true ↔ 0 ≤ h ∧ h ≤ 10000 := inB_t
/-- value and code of a fitted line at an hour -/
def offCode (c x y xx xy hr : Int) : Int := if codeF c x y xx xy = 0 then (if inB hr 0 10000 then 0 else 2) else codeF c x y xx xy
def offRes (c x y xx xy hr : Int) : Int := if offCode c x y xx xy hr = 0 then offV c x y xx xy hr else 0

/-- the code of a sum of two fits -/
def addCode (c x y xx xy c' x' y' xx' xy' : Int) : Int := if vF c x y xx xy && vF c' x' y' xx' xy' then (if 60 < c + c' then 5 else 0) else 1

/-- two pairs are alike -/
def eq2 (a b c d : Int) : Bool := a == c && b == d
/-- the first k pairs are alike -/
def eqTo (h o h' o' : Nat → Int) : Nat → Bool
  | 0 => true
  | k + 1 => eqTo h o h' o' k && eq2 (h k) (o k) (h' k) (o' k)
theorem eqTo_ff {h o h' o' : Nat → Int} {k n : Nat} (hk : k < n) (hh : eq2 (h k) (o k) (h' k) (o' k) = false) : eqTo h o h' o' n = false := by
  induction n with
  | zero => omega
  | succ n ih =>
    by_cases e : k = n
    · subst e; simp only [eqTo, hh, Bool.and_false]
    · simp only [eqTo, ih (by omega), Bool.false_and]
theorem eqTo_self {h o : Nat → Int} {n : Nat} : eqTo h o h o n = true := by
  induction n with
  | zero => rfl
  | succ n ih => simp [eqTo, eq2, ih]

end Go.Proofs.Ytaalceckofgbhaa

namespace Go.Proofs.Ytaalceckofgbhaa
set_option linter.unusedVariables false
/-- a fit as a value -/
def fitV (c x y xx xy : Int) : Value := .agg #[.int .i64 c, .int .i64 x, .int .i64 y, .int .i64 xx, .int .i64 xy]
def addV (c x y xx xy c' x' y' xx' xy' : Int) : Value := if addCode c x y xx xy c' x' y' xx' xy' = 0 then .agg #[.int .i64 (c + c'), .int .i64 (x + x'), .int .i64 (y + y'), .int .i64 (xx + xx'), .int .i64 (xy + xy')] else .agg #[.int .i64 0, .int .i64 0, .int .i64 0, .int .i64 0, .int .i64 0]
end Go.Proofs.Ytaalceckofgbhaa

namespace Go.Proofs.Ytaalceckofgbhaa
open Go.RowKit
set_option linter.unusedVariables false
set_option linter.unusedSimpArgs false

theorem within_c (n l h : Int) (w : World) :
    Calls Try.prog 20 #[.int .i64 n, .int .i64 l, .int .i64 h] w fun e w' => e = .returned (.bool (inB n l h)) ∧ w = w' := by
  go_enter Try.func20, Try.ntmps20
  go_wp2
  all_goals (go_ret; refine ⟨ret_bool ?_, rfl⟩; rw [Bool.eq_iff_iff]; simp [inB]; try omega)
theorem l00In_c (n l h : Int) (w : World) :
    Calls Try.prog 23 #[.int .i64 n, .int .i64 l, .int .i64 h] w fun e w' => e = .returned (.bool (inB n l h)) ∧ w = w' := by
  go_enter Try.func23, Try.ntmps23
  go_wp2
  all_goals (go_ret; refine ⟨ret_bool ?_, rfl⟩; rw [Bool.eq_iff_iff]; simp [inB]; try omega)

theorem floor_ret {n d q : Int} (hd : 0 < d) (h : q = n / d) : Ending.returned (.int .i64 q) = .returned (.int .i64 (n / d)) := by rw [h]
theorem near_ret {n d q : Int} (hd : 0 < d) (h : q = if d - (n - n / d * d) ≤ n - n / d * d then n / d + 1 else n / d) : Ending.returned (.int .i64 q) = .returned (.int .i64 (nearD n d)) := by
  have e : n % d = n - n / d * d := by have := Int.mul_ediv_add_emod n d; rw [Int.mul_comm] at this; omega
  rw [h, nearD_eq hd, e]
theorem vF_last {c x y xx xy : Int} (hc0 : 0 ≤ c) (hc1 : c ≤ 60) (h5 : (!inB c 0 60) = false) (h4 : inB x 0 (c * 10000) = true) (h3 : inB y (-c * 100000) (c * 100000) = true) (h2 : inB xx 0 (c * 10000 * 10000) = true)
    (h1 : inB xy (-c * 10000 * 100000) (c * 10000 * 100000) = true) : decide (wrap64 (x * x) ≤ wrap64 (c * xx)) = vF c x y xx xy := by
  have hx := inB_t.1 h4
  have hxx := inB_t.1 h2
  have p1 := mul_nn (A := 600000) (B := 600000) hx.1 (by omega) hx.1 (by omega)
  have p2 := mul_nn (A := 60) (B := 6000000000) hc0 (by omega) hxx.1 (by omega)
  rw [IntWalk.wrap64_in _ (by omega), IntWalk.wrap64_in _ (by omega)]
  simp_all [vF]
theorem vF_last' {c x y xx xy : Int} (hc0 : 0 ≤ c) (hc1 : c ≤ 60) (h5 : inB c 0 60 = true) (h4 : inB x 0 (c * 10000) = true) (h3 : (!inB y (-c * 100000) (c * 100000)) = false) (h2 : inB xx 0 (c * 10000 * 10000) = true)
    (h1 : inB xy (-(c * 10000 * 100000)) (c * 10000 * 100000) = true) : decide (wrap64 (x * x) ≤ wrap64 (c * xx)) = vF c x y xx xy :=
  vF_last hc0 hc1 (by simpa using h5) h4 (by simpa using h3) h2 (by simpa [Int.neg_mul] using h1)
end Go.Proofs.Ytaalceckofgbhaa

namespace Go.Proofs.Ytaalceckofgbhaa
set_option linter.unusedVariables false
theorem nearD_mono {n n' d : Int} (hd : 0 < d) (h : n ≤ n') : nearD n d ≤ nearD n' d := Int.ediv_le_ediv (by omega) (by omega)
theorem nearD_mul {a d : Int} (hd : 0 < d) : nearD (a * d) d = a := by
  unfold nearD
  have e : 2 * (a * d) + d = d + a * (2 * d) := by grind
  rw [e, Int.add_mul_ediv_right _ _ (by omega), Int.ediv_eq_zero_of_lt (by omega) (by omega)]; omega
theorem nearD_add {n a d : Int} (hd : 0 < d) : nearD (a * d + n) d = a + nearD n d := by
  unfold nearD
  have e : 2 * (a * d + n) + d = (2 * n + d) + a * (2 * d) := by grind
  rw [e, Int.add_mul_ediv_right _ _ (by omega)]; omega
/-- what a rounded quotient is -/
theorem nearD_bd {n d : Int} (hd : 0 < d) : 2 * (nearD n d * d - n) ≤ d ∧ 2 * (n - nearD n d * d) < d := by
  unfold nearD
  have h1 := Int.mul_ediv_add_emod (2 * n + d) (2 * d)
  have h2 := Int.emod_nonneg (2 * n + d) (show 2 * d ≠ 0 by omega)
  have h3 := Int.emod_lt_of_pos (2 * n + d) (show 0 < 2 * d by omega)
  have h4 : 2 * d * ((2 * n + d) / (2 * d)) = 2 * ((2 * n + d) / (2 * d) * d) := by grind
  omega
theorem nearD_anti {m p q : Int} (hp : 0 < p) (hq : p ≤ q) (hm : 0 ≤ m) : nearD m q ≤ nearD m p := by
  unfold nearD
  rw [Int.le_ediv_iff_mul_le (by omega)]
  have h1 := Int.mul_ediv_add_emod (2 * m + q) (2 * q)
  have h2 := Int.emod_nonneg (2 * m + q) (show 2 * q ≠ 0 by omega)
  obtain ⟨x, hx⟩ : ∃ x, x = (2 * m + q) / (2 * q) := ⟨_, rfl⟩
  rw [← hx] at h1 ⊢
  have h3 : q * (2 * x - 1) ≤ 2 * m := by
    have : q * (2 * x - 1) = 2 * q * x - q := by grind
    omega
  have h4 : p * (2 * x - 1) ≤ 2 * m := by
    rcases Int.lt_or_le (2 * x - 1) 0 with h | h
    · have := Int.mul_nonneg (show 0 ≤ p by omega) (show 0 ≤ -(2 * x - 1) by omega)
      have e : p * -(2 * x - 1) = -(p * (2 * x - 1)) := by grind
      omega
    · exact Int.le_trans (Int.mul_le_mul_of_nonneg_right hq h) h3
  have e : x * (2 * p) = p * (2 * x - 1) + p := by grind
  omega
/-- bend k of a spring is valid -/
def bdA (w p : Nat → Int) (k : Nat) : Bool := inB (w k) 0 2000 && (inB (p k) 0 1000000 && (k == 0 || (decide (w (k - 1) < w k) && decide (p (k - 1) ≤ p k))))
def bdTo (w p : Nat → Int) : Nat → Bool
  | 0 => true
  | k + 1 => bdTo w p k && bdA w p k
theorem bdTo_ff {w p : Nat → Int} {n k : Nat} (hk : k < n) (h : bdA w p k = false) : bdTo w p n = false := by
  induction n with
  | zero => omega
  | succ n ih =>
    by_cases e : k = n
    · subst e; simp only [bdTo, h, Bool.and_false]
    · simp only [bdTo, ih (by omega), Bool.false_and]
theorem bdTo_at {w p : Nat → Int} {n k : Nat} (h : bdTo w p n = true) (hk : k < n) : bdA w p k = true := by
  cases e : bdA w p k
  · rw [bdTo_ff hk e] at h; cases h
  · rfl
/-- a spring is valid -/
def spV (n : Nat) (w p : Nat → Int) : Bool := bdTo w p n && (decide (2 ≤ n) && decide (n ≤ 20))
structure SpB (n : Nat) (w p : Nat → Int) : Prop where
  n2 : 2 ≤ n
  n20 : n ≤ 20
  wb : ∀ k, k < n → 0 ≤ w k ∧ w k ≤ 2000
  pb : ∀ k, k < n → 0 ≤ p k ∧ p k ≤ 1000000
  wi : ∀ k, k + 1 < n → w k < w (k + 1)
  pi : ∀ k, k + 1 < n → p k ≤ p (k + 1)
theorem spV_b {n : Nat} {w p : Nat → Int} (h : spV n w p = true) : SpB n w p := by
  simp only [spV, Bool.and_eq_true, decide_eq_true_eq] at h
  obtain ⟨h1, h2, h3⟩ := h
  have ha : ∀ k, k < n → inB (w k) 0 2000 = true ∧ inB (p k) 0 1000000 = true ∧ (k = 0 ∨ (w (k - 1) < w k ∧ p (k - 1) ≤ p k)) := fun k hk => by
    have := bdTo_at h1 hk
    simpa only [bdA, Bool.and_eq_true, Bool.or_eq_true, beq_iff_eq, decide_eq_true_eq] using this
  refine ⟨h2, h3, fun k hk => inB_t.1 (ha k hk).1, fun k hk => inB_t.1 (ha k hk).2.1, fun k hk => ?_, fun k hk => ?_⟩
  · rcases (ha (k + 1) hk).2.2 with e | ⟨e, _⟩
    · omega
    · simpa using e
  · rcases (ha (k + 1) hk).2.2 with e | ⟨_, e⟩
    · omega
    · simpa using e
theorem SpB.wm {n : Nat} {w p : Nat → Int} (b : SpB n w p) {i j : Nat} (h : i ≤ j) (hj : j < n) : w i ≤ w j := by
  induction j with
  | zero => have : i = 0 := by omega
            subst this; exact Int.le_refl _
  | succ j ih =>
    by_cases e : i = j + 1
    · subst e; exact Int.le_refl _
    · have := ih (by omega) (by omega); have := b.wi j hj; omega
theorem SpB.wl {n : Nat} {w p : Nat → Int} (b : SpB n w p) {i j : Nat} (h : i < j) (hj : j < n) : w i < w j := by
  have h1 := b.wm (show i + 1 ≤ j from h) hj
  have h2 := b.wi i (by omega)
  omega
theorem SpB.pm {n : Nat} {w p : Nat → Int} (b : SpB n w p) {i j : Nat} (h : i ≤ j) (hj : j < n) : p i ≤ p j := by
  induction j with
  | zero => have : i = 0 := by omega
            subst this; exact Int.le_refl _
  | succ j ih =>
    by_cases e : i = j + 1
    · subst e; exact Int.le_refl _
    · have := ih (by omega) (by omega); have := b.pi j hj; omega
/-- t lies in the part between bends k - 1 and k -/
structure Seg (n : Nat) (w : Nat → Int) (t : Int) (k : Nat) : Prop where
  k1 : 1 ≤ k
  kn : k < n
  hi : t ≤ w k
  lo : w (k - 1) ≤ t
  st : ∀ j, 1 ≤ j → j < k → w j < t
theorem Seg.one {n : Nat} {w p : Nat → Int} (b : SpB n w p) {t : Int} {k j : Nat} (h : Seg n w t k) (g : Seg n w t j) : k = j := by
  rcases Nat.lt_trichotomy k j with a | a | a
  · have := g.st k h.k1 a; have := h.hi; omega
  · exact a
  · have := h.st j g.k1 a; have := g.hi; omega
theorem Seg.ex {n : Nat} {w p : Nat → Int} (b : SpB n w p) {t : Int} (h0 : w 0 ≤ t) (h1 : t ≤ w (n - 1)) : ∃ k, Seg n w t k := by
  have h2 := b.n2
  -- the first bend from 1 on that is not below t
  have : ∀ m, m < n → t ≤ w m → 1 ≤ m → ∃ k, Seg n w t k := by
    intro m
    induction m with
    | zero => intro _ _ h; omega
    | succ m ih =>
      intro hm ht _
      by_cases a : m = 0
      · subst a
        exact ⟨1, Nat.le_refl _, hm, ht, h0, fun j h1 h2 => by omega⟩
      · by_cases c : t ≤ w m
        · exact ih (by omega) c (by omega)
        · exact ⟨m + 1, by omega, hm, ht, by simp; omega, fun j h1 h2 => by have := b.wm (show j ≤ m by omega) (by omega); omega⟩
  exact this (n - 1) (by omega) h1 (by omega)
/-- the torque in part k -/
def segV (w p : Nat → Int) (k : Nat) (t : Int) : Int := nearD (p (k - 1) * (w k - t) + p k * (t - w (k - 1))) (w k - w (k - 1))
theorem Seg.d {n : Nat} {w p : Nat → Int} (b : SpB n w p) {t : Int} {k : Nat} (h : Seg n w t k) : 0 < w k - w (k - 1) := by
  have := b.wl (show k - 1 < k by have := h.k1; omega) h.kn; omega
theorem segV_alt (w p : Nat → Int) (k : Nat) (t : Int) (hd : 0 < w k - w (k - 1)) : segV w p k t = p (k - 1) + nearD ((p k - p (k - 1)) * (t - w (k - 1))) (w k - w (k - 1)) := by
  unfold segV
  rw [← nearD_add hd]; congr 1; grind
theorem Seg.bd {n : Nat} {w p : Nat → Int} (b : SpB n w p) {t : Int} {k : Nat} (h : Seg n w t k) : p (k - 1) ≤ segV w p k t ∧ segV w p k t ≤ p k := by
  have hd := h.d b
  have hp := b.pm (show k - 1 ≤ k by omega) h.kn
  have h1 := h.lo
  have h2 := h.hi
  have e1 := Int.mul_nonneg (show 0 ≤ p k - p (k - 1) by omega) (show 0 ≤ t - w (k - 1) by omega)
  have e2 := Int.mul_nonneg (show 0 ≤ p k - p (k - 1) by omega) (show 0 ≤ w k - t by omega)
  constructor
  · have := nearD_mono hd (show p (k - 1) * (w k - w (k - 1)) ≤ p (k - 1) * (w k - t) + p k * (t - w (k - 1)) by grind)
    rw [nearD_mul hd] at this; exact this
  · have := nearD_mono hd (show p (k - 1) * (w k - t) + p k * (t - w (k - 1)) ≤ p k * (w k - w (k - 1)) by grind)
    rw [nearD_mul hd] at this; exact this
theorem Seg.mono {n : Nat} {w p : Nat → Int} (b : SpB n w p) {t t' : Int} {k k' : Nat} (h : Seg n w t k) (h' : Seg n w t' k') (ht : t ≤ t') : segV w p k t ≤ segV w p k' t' := by
  rcases Nat.lt_trichotomy k k' with a | a | a
  · have h1 := (h.bd b).2
    have h2 := (h'.bd b).1
    have h3 := b.pm (show k ≤ k' - 1 by omega) (by have := h'.kn; omega)
    omega
  · subst a
    have hp := b.pm (show k - 1 ≤ k by omega) h.kn
    have e1 := Int.mul_nonneg (show 0 ≤ p k - p (k - 1) by omega) (show 0 ≤ t' - t by omega)
    exact nearD_mono (h.d b) (by grind)
  · have h1 := h.st k' h'.k1 a
    have h2 := h'.hi
    omega
theorem Seg.bend {n : Nat} {w p : Nat → Int} (b : SpB n w p) {i k : Nat} (h : Seg n w (w i) k) (hi : i < n) : segV w p k (w i) = p i := by
  have hd := h.d b
  have hk := h.k1
  have : i = k ∨ i = k - 1 := by
    rcases Nat.lt_trichotomy i k with a | a | a
    · rcases Nat.lt_or_ge i (k - 1) with c | c
      · have := h.lo; have := b.wl c (by have := h.kn; omega); omega
      · right; omega
    · exact .inl a
    · have := b.wl a hi; have := h.hi; omega
  rcases this with rfl | rfl
  · unfold segV
    rw [show p (i - 1) * (w i - w i) + p i * (w i - w (i - 1)) = p i * (w i - w (i - 1)) by grind, nearD_mul hd]
  · unfold segV
    rw [show p (k - 1) * (w k - w (k - 1)) + p k * (w (k - 1) - w (k - 1)) = p (k - 1) * (w k - w (k - 1)) by grind, nearD_mul hd]
end Go.Proofs.Ytaalceckofgbhaa

namespace Go.Proofs.Ytaalceckofgbhaa
set_option linter.unusedVariables false
/-- the part in which t lies, sought from the first on -/
def segK (w : Nat → Int) (t : Int) : Nat → Nat
  | 0 => 1
  | f + 1 => if w (segK w t f) < t then segK w t f + 1 else segK w t f
theorem Seg.segK {n : Nat} {w : Nat → Int} {t : Int} {k : Nat} (h : Seg n w t k) (f : Nat) : segK w t f = if f + 1 ≤ k then f + 1 else k := by
  induction f with
  | zero =>
    have := h.k1
    simp only [Go.Proofs.Ytaalceckofgbhaa.segK]; rw [if_pos (by omega)]
  | succ f ih =>
    simp only [Go.Proofs.Ytaalceckofgbhaa.segK, ih]
    by_cases a : f + 1 + 1 ≤ k
    · rw [if_pos (show f + 1 ≤ k by omega), if_pos a, if_pos (h.st _ (by omega) (by omega))]
    · rw [if_neg a]
      by_cases c : f + 1 ≤ k
      · have e : f + 1 = k := by omega
        rw [if_pos c, e, if_neg (by have := h.hi; omega)]
      · rw [if_neg c, if_neg (by have := h.hi; omega)]
/-- the torque at t -/
def pullF (w p : Nat → Int) (t : Int) : Int := segV w p (segK w t 20) t
theorem pull_seg {n : Nat} {w p : Nat → Int} (b : SpB n w p) {t : Int} {k : Nat} (h : Seg n w t k) : pullF w p t = segV w p k t := by
  unfold pullF; rw [h.segK, if_neg (by have := h.kn; have := b.n20; omega)]
/-- t is a position -/
def inS (n : Nat) (w : Nat → Int) (t : Int) : Bool := inB t (w 0) (w (n - 1))
section
variable {n : Nat} {w p : Nat → Int}
theorem SpB.seg (b : SpB n w p) {t : Int} (h : inS n w t = true) : ∃ k, Seg n w t k := Seg.ex b (inB_t.1 h).1 (inB_t.1 h).2
theorem SpB.inS (b : SpB n w p) {t : Int} (h : inS n w t = true) : 0 ≤ t ∧ t ≤ 2000 := by
  have h1 := inB_t.1 h
  have h2 := b.wb 0 (by have := b.n2; omega)
  have h3 := b.wb (n - 1) (by have := b.n2; omega)
  omega
theorem SpB.pull (b : SpB n w p) {t : Int} (h : Go.Proofs.Ytaalceckofgbhaa.inS n w t = true) : 0 ≤ pullF w p t ∧ pullF w p t ≤ 1000000 := by
  obtain ⟨k, hk⟩ := b.seg h
  rw [pull_seg b hk]
  have h1 := hk.bd b
  have h2 := b.pb (k - 1) (by have := hk.kn; omega)
  have h3 := b.pb k hk.kn
  omega
theorem SpB.mono (b : SpB n w p) {t t' : Int} (h : Go.Proofs.Ytaalceckofgbhaa.inS n w t = true) (h' : Go.Proofs.Ytaalceckofgbhaa.inS n w t' = true) (ht : t ≤ t') : pullF w p t ≤ pullF w p t' := by
  obtain ⟨k, hk⟩ := b.seg h
  obtain ⟨k', hk'⟩ := b.seg h'
  rw [pull_seg b hk, pull_seg b hk']
  exact hk.mono b hk' ht
theorem SpB.inW (b : SpB n w p) {i : Nat} (hi : i < n) : Go.Proofs.Ytaalceckofgbhaa.inS n w (w i) = true := by
  unfold Go.Proofs.Ytaalceckofgbhaa.inS; rw [inB_t]
  exact ⟨b.wm (Nat.zero_le _) hi, b.wm (show i ≤ n - 1 by omega) (by omega)⟩
theorem SpB.bend (b : SpB n w p) {i : Nat} (hi : i < n) : pullF w p (w i) = p i := by
  obtain ⟨k, hk⟩ := b.seg (b.inW hi)
  rw [pull_seg b hk]
  exact hk.bend b hi
end
/-- twice the energy from a on, over k steps -/
def eng (w p : Nat → Int) (a : Int) : Nat → Int
  | 0 => 0
  | k + 1 => eng w p a k + (pullF w p (a + k) + pullF w p (a + k + 1))
theorem eng_add (w p : Nat → Int) (a : Int) (m k : Nat) : eng w p a (m + k) = eng w p a m + eng w p (a + m) k := by
  induction k with
  | zero => simp [eng]
  | succ k ih =>
    rw [← Nat.add_assoc]
    simp only [eng, ih]
    have e : a + ((m + k : Nat) : Int) = a + (m : Int) + (k : Int) := by omega
    rw [e]; omega
theorem eng_bd {n : Nat} {w p : Nat → Int} (b : SpB n w p) {a : Int} (ha : inS n w a = true) {m : Nat} (hm : inS n w (a + m) = true) {k : Nat} (hk : k ≤ m) :
    2 * (k : Int) * pullF w p a ≤ eng w p a k ∧ eng w p a k ≤ 2 * (k : Int) * pullF w p (a + m) := by
  induction k with
  | zero => simp [eng]
  | succ k ih =>
    have h := ih (by omega)
    have h1 := inB_t.1 ha
    have h2 := inB_t.1 hm
    have i1 : inS n w (a + k) = true := inB_t.2 (by omega)
    have i2 : inS n w (a + k + 1) = true := inB_t.2 (by omega)
    have m1 := b.mono ha i1 (by omega)
    have m2 := b.mono ha i2 (by omega)
    have m3 := b.mono i1 hm (by omega)
    have m4 := b.mono i2 hm (by omega)
    have e1 : 2 * ((k + 1 : Nat) : Int) * pullF w p a = 2 * (k : Int) * pullF w p a + 2 * pullF w p a := by grind
    have e2 : 2 * ((k + 1 : Nat) : Int) * pullF w p (a + m) = 2 * (k : Int) * pullF w p (a + m) + 2 * pullF w p (a + m) := by grind
    simp only [eng]
    omega
end Go.Proofs.Ytaalceckofgbhaa

namespace Go.Proofs.Ytaalceckofgbhaa
set_option linter.unusedVariables false
/-- how far a spring runs down from t while its torque suffices, at most f steps -/
def runN (n : Nat) (w p : Nat → Int) (t need : Int) : Nat → Nat
  | 0 => 0
  | f + 1 => if inS n w (t - (runN n w p t need f : Nat) - 1) = true ∧ need ≤ pullF w p (t - (runN n w p t need f : Nat) - 1) then runN n w p t need f + 1 else runN n w p t need f
/-- it has stopped at j steps -/
structure RunE (n : Nat) (w p : Nat → Int) (t need : Int) (j : Nat) : Prop where
  ok : ∀ i : Nat, i ≤ j → inS n w (t - i) = true ∧ need ≤ pullF w p (t - i)
  no : ¬ (inS n w (t - j - 1) = true ∧ need ≤ pullF w p (t - j - 1))
theorem runN_le (n : Nat) (w p : Nat → Int) (t need : Int) (f : Nat) : runN n w p t need f ≤ f := by
  induction f with
  | zero => exact Nat.le_refl _
  | succ f ih => simp only [runN]; split <;> omega
/-- the steps so far all suffice -/
theorem runN_ok {n : Nat} {w p : Nat → Int} {t need : Int} (h : inS n w t = true) (hn : need ≤ pullF w p t) (f : Nat) : ∀ i : Nat, i ≤ runN n w p t need f → inS n w (t - i) = true ∧ need ≤ pullF w p (t - i) := by
  induction f with
  | zero => intro i hi; have : i = 0 := by simp [runN] at hi; exact hi
            subst this; simpa using ⟨h, hn⟩
  | succ f ih =>
    intro i hi
    simp only [runN] at hi
    split at hi
    · rename_i hc
      by_cases e : i = runN n w p t need f + 1
      · subst e
        have e2 : t - ((runN n w p t need f + 1 : Nat) : Int) = t - (runN n w p t need f : Nat) - 1 := by omega
        rw [e2]; exact hc
      · exact ih i (by omega)
    · exact ih i hi
theorem runN_stop {n : Nat} {w p : Nat → Int} {t need : Int} {f : Nat} (h : runN n w p t need (f + 1) = runN n w p t need f) (k : Nat) : runN n w p t need (f + k) = runN n w p t need f := by
  induction k with
  | zero => rfl
  | succ k ih =>
    have e : f + (k + 1) = (f + k) + 1 := by omega
    rw [e]; simp only [runN]; rw [ih]
    simp only [runN] at h
    split at h
    · omega
    · rename_i hc; rw [if_neg hc]
/-- in 2001 steps every spring has stopped -/
theorem runN_end {n : Nat} {w p : Nat → Int} (b : SpB n w p) {t need : Int} (h : inS n w t = true) (hn : need ≤ pullF w p t) : RunE n w p t need (runN n w p t need 2001) := by
  refine ⟨runN_ok h hn _, fun hc => ?_⟩
  -- if it still ran, all of 2002 positions would be some
  have hgrow : ∀ f, f ≤ 2001 → (∀ g, g < f → runN n w p t need (g + 1) = runN n w p t need g + 1) ∨ runN n w p t need 2001 = runN n w p t need f ∧ ∃ g, g < f ∧ runN n w p t need (g + 1) = runN n w p t need g := by
    intro f hf
    by_cases a : ∀ g, g < f → runN n w p t need (g + 1) = runN n w p t need g + 1
    · exact .inl a
    · right
      obtain ⟨g, hg⟩ := Classical.not_forall.1 a
      obtain ⟨hgf, hg2⟩ := Classical.not_imp.1 hg
      have h3 : runN n w p t need (g + 1) = runN n w p t need g := by
        have : runN n w p t need (g + 1) = runN n w p t need g ∨ runN n w p t need (g + 1) = runN n w p t need g + 1 := by
          simp only [runN]; split <;> simp
        rcases this with h | h
        · exact h
        · exact absurd h hg2
      have h4 := runN_stop h3 (2001 - g)
      have h5 := runN_stop h3 (f - g)
      rw [show g + (2001 - g) = 2001 by omega] at h4
      rw [show g + (f - g) = f by omega] at h5
      exact ⟨by rw [h4, h5], g, hgf, h3⟩
  rcases hgrow 2001 (Nat.le_refl _) with a | ⟨_, g, hg, h3⟩
  · have h6 : ∀ f, f ≤ 2001 → runN n w p t need f = f := by
      intro f hf
      induction f with
      | zero => rfl
      | succ f ih => rw [a f (by omega), ih (by omega)]
    have h7 := h6 2001 (Nat.le_refl _)
    have h8 := b.inS (runN_ok h hn 2001 2001 (by omega)).1
    have h9 := b.inS h
    omega
  · have h4 := runN_stop h3 (2001 - g)
    rw [show g + (2001 - g) = 2001 by omega] at h4
    have h5 := runN_stop h3 1
    simp only [runN] at h3
    rw [h4] at hc
    rw [if_pos hc] at h3
    omega
/-- the difference over a width -/
def winD (w p : Nat → Int) (wd t : Int) : Int := pullF w p (t + wd) - pullF w p t
/-- the best of the positions a, a + 1 .. a + j -/
def bstF (w p : Nat → Int) (wd a : Int) : Nat → Int
  | 0 => a
  | j + 1 => if winD w p wd (a + (j : Int) + 1) < winD w p wd (bstF w p wd a j) then a + (j : Int) + 1 else bstF w p wd a j
theorem bstF_in (w p : Nat → Int) (wd a : Int) (j : Nat) : a ≤ bstF w p wd a j ∧ bstF w p wd a j ≤ a + j := by
  induction j with
  | zero => simp [bstF]
  | succ j ih => simp only [bstF]; split <;> omega
theorem bstF_least (w p : Nat → Int) (wd a : Int) (j : Nat) : ∀ i : Nat, i ≤ j → winD w p wd (bstF w p wd a j) ≤ winD w p wd (a + i) ∧ (winD w p wd (a + i) = winD w p wd (bstF w p wd a j) → bstF w p wd a j ≤ a + i) := by
  induction j with
  | zero => intro i hi; have : i = 0 := by omega
            subst this; simp [bstF]
  | succ j ih =>
    intro i hi
    have hb := bstF_in w p wd a j
    simp only [bstF]
    split
    · rename_i hc
      by_cases e : i = j + 1
      · subst e
        have e2 : a + ((j + 1 : Nat) : Int) = a + (j : Int) + 1 := by omega
        rw [e2]; omega
      · have := ih i (by omega)
        omega
    · rename_i hc
      by_cases e : i = j + 1
      · subst e
        have e2 : a + ((j + 1 : Nat) : Int) = a + (j : Int) + 1 := by omega
        rw [e2]; omega
      · exact ih i (by omega)
end Go.Proofs.Ytaalceckofgbhaa

namespace Go.Proofs.Ytaalceckofgbhaa
set_option linter.unusedVariables false
/-- reading k fits behind the one before it -/
def rdAt (h o : Nat → Int) (k : Nat) : Bool := inB (h k) 0 10000 && inB (o k) (-100000) 100000 && (k == 0 || decide (h (k - 1) < h k))
def rdTo (h o : Nat → Int) : Nat → Bool
  | 0 => true
  | k + 1 => rdTo h o k && rdAt h o k
/-- a list of readings is valid -/
def rdV (n : Nat) (h o : Nat → Int) : Bool := rdTo h o n && decide (n ≤ 60)
theorem rdTo_ff {h o : Nat → Int} {k n : Nat} (hk : k < n) (hh : rdAt h o k = false) : rdTo h o n = false := by
  induction n with
  | zero => omega
  | succ n ih =>
    by_cases e : k = n
    · subst e; simp only [rdTo, hh, Bool.and_false]
    · simp only [rdTo, ih (by omega), Bool.false_and]
theorem rdV_ff {h o : Nat → Int} {k n : Nat} (hk : k < n) (hh : rdAt h o k = false) : false = rdV n h o := by rw [rdV, rdTo_ff hk hh]; rfl
theorem rdTo_at {h o : Nat → Int} {k n : Nat} (hh : rdTo h o n = true) (hk : k < n) : rdAt h o k = true := by
  cases e : rdAt h o k with
  | true => rfl
  | false => rw [rdTo_ff hk e] at hh; cases hh
theorem rdTo_le {h o : Nat → Int} {k n : Nat} (hh : rdTo h o n = true) (hk : k ≤ n) : rdTo h o k = true := by
  induction n with
  | zero => have : k = 0 := by omega
            subst this; rfl
  | succ n ih =>
    by_cases e : k = n + 1
    · subst e; exact hh
    · simp only [rdTo, Bool.and_eq_true] at hh; exact ih hh.1 (by omega)
/-- five ways through the test of one reading -/
theorem rd_ways (h o : Nat → Int) (k : Nat) :
    (inB (h k) 0 10000 = false ∧ rdAt h o k = false) ∨ (inB (h k) 0 10000 = true ∧ inB (o k) (-100000) 100000 = false ∧ rdAt h o k = false) ∨
    (inB (h k) 0 10000 = true ∧ inB (o k) (-100000) 100000 = true ∧ k = 0 ∧ rdAt h o k = true) ∨
    (inB (h k) 0 10000 = true ∧ inB (o k) (-100000) 100000 = true ∧ 0 < k ∧ h k ≤ h (k - 1) ∧ rdAt h o k = false) ∨
    (inB (h k) 0 10000 = true ∧ inB (o k) (-100000) 100000 = true ∧ 0 < k ∧ h (k - 1) < h k ∧ rdAt h o k = true) := by
  unfold rdAt
  cases h1 : inB (h k) 0 10000 with
  | false => exact .inl ⟨rfl, rfl⟩
  | true =>
    cases h2 : inB (o k) (-100000) 100000 with
    | false => exact .inr (.inl ⟨rfl, rfl, rfl⟩)
    | true =>
      by_cases h3 : k = 0
      · exact .inr (.inr (.inl ⟨rfl, rfl, h3, by simp [h3]⟩))
      · by_cases h4 : h (k - 1) < h k
        · exact .inr (.inr (.inr (.inr ⟨rfl, rfl, by omega, h4, by simp [h4]⟩)))
        · exact .inr (.inr (.inr (.inl ⟨rfl, rfl, by omega, by omega, by simp [h4, h3]⟩)))
end Go.Proofs.Ytaalceckofgbhaa

namespace Go.Proofs.Ytaalceckofgbhaa
set_option linter.unusedVariables false
/-- the sum of the first k -/
def sm (f : Nat → Int) : Nat → Int
  | 0 => 0
  | k + 1 => sm f k + f k
def sXX (h : Nat → Int) (k : Nat) : Int := sm (fun i => h i * h i) k
def sXY (h o : Nat → Int) (k : Nat) : Int := sm (fun i => h i * o i) k
theorem sm_bd {f : Nat → Int} {A B : Int} {k : Nat} (hf : ∀ j, j < k → A ≤ f j ∧ f j ≤ B) : A * k ≤ sm f k ∧ sm f k ≤ B * k := by
  induction k with
  | zero => simp [sm]
  | succ k ih =>
    have h1 := ih (fun j hj => hf j (by omega))
    have h2 := hf k (by omega)
    have e1 : A * ((k + 1 : Nat) : Int) = A * k + A := by rw [Int.natCast_add, Int.mul_add]; simp
    have e2 : B * ((k + 1 : Nat) : Int) = B * k + B := by rw [Int.natCast_add, Int.mul_add]; simp
    rw [e1, e2]
    simp only [sm]
    omega
/-- what a valid list bounds -/
structure RB (n : Nat) (h o : Nat → Int) : Prop where
  n60 : n ≤ 60
  bh : ∀ j, j < n → 0 ≤ h j ∧ h j ≤ 10000
  bo : ∀ j, j < n → -100000 ≤ o j ∧ o j ≤ 100000
  up : ∀ j, j + 1 < n → h j < h (j + 1)
theorem rb_of {n : Nat} {h o : Nat → Int} (hv : rdV n h o = true) : RB n h o := by
  simp only [rdV, Bool.and_eq_true, decide_eq_true_eq] at hv
  have ha : ∀ j, j < n → inB (h j) 0 10000 = true ∧ inB (o j) (-100000) 100000 = true ∧ (j = 0 ∨ h (j - 1) < h j) := fun j hj => by
    have := rdTo_at hv.1 hj
    simp only [rdAt, Bool.and_eq_true, Bool.or_eq_true, decide_eq_true_eq, beq_iff_eq] at this
    exact ⟨this.1.1, this.1.2, this.2⟩
  refine ⟨hv.2, fun j hj => inB_t.1 (ha j hj).1, fun j hj => inB_t.1 (ha j hj).2.1, fun j hj => ?_⟩
  have := (ha (j + 1) hj).2.2
  simpa using this
/-- the bounds on the sums of the first k readings, and on what the next one adds -/
structure SB (h o : Nat → Int) (k : Nat) : Prop where
  x0 : 0 ≤ sm h k
  x1 : sm h k ≤ 600000
  y0 : -6000000 ≤ sm o k
  y1 : sm o k ≤ 6000000
  xx0 : 0 ≤ sXX h k
  xx1 : sXX h k ≤ 6000000000
  xy0 : -60000000000 ≤ sXY h o k
  xy1 : sXY h o k ≤ 60000000000
theorem RB.hh {n : Nat} {h o : Nat → Int} (r : RB n h o) {j : Nat} (hj : j < n) : 0 ≤ h j * h j ∧ h j * h j ≤ 100000000 := by
  have := r.bh j hj; exact mul_nn this.1 this.2 this.1 this.2
theorem RB.ho {n : Nat} {h o : Nat → Int} (r : RB n h o) {j : Nat} (hj : j < n) : -1000000000 ≤ h j * o j ∧ h j * o j ≤ 1000000000 := by
  have h1 := r.bh j hj; have h2 := r.bo j hj
  have := mul_bd (A := 10000) (B := 100000) (by omega) h1.2 (by omega) h2.2
  omega
theorem RB.sb {n : Nat} {h o : Nat → Int} (r : RB n h o) {k : Nat} (hk : k ≤ n) : SB h o k := by
  have a := sm_bd (f := h) (A := 0) (B := 10000) (k := k) (fun j hj => r.bh j (by omega))
  have b := sm_bd (f := o) (A := -100000) (B := 100000) (k := k) (fun j hj => r.bo j (by omega))
  have c := sm_bd (f := fun i => h i * h i) (A := 0) (B := 100000000) (k := k) (fun j hj => r.hh (by omega))
  have d := sm_bd (f := fun i => h i * o i) (A := -1000000000) (B := 1000000000) (k := k) (fun j hj => r.ho (by omega))
  have := r.n60
  constructor <;> (try unfold sXX) <;> (try unfold sXY) <;> omega
/-- a value where a list is valid, else 0; the code -/
def fX (v : Bool) (z : Int) : Int := if v then z else 0
def fC (v : Bool) : Int := if v then 0 else 1
end Go.Proofs.Ytaalceckofgbhaa

namespace Go.Proofs.Ytaalceckofgbhaa
set_option linter.unusedVariables false
set_option linter.unusedSimpArgs false
def sq (o : Nat → Int) (k : Nat) : Int := sm (fun i => o i * o i) k
theorem sm_shift (f : Nat → Int) (k m : Nat) : sm (fun i => f (i + k)) m = sm f (m + k) - sm f k := by
  induction m with
  | zero => simp [sm]
  | succ m ih => simp only [sm, ih, show m + 1 + k = (m + k) + 1 by omega]; omega
theorem sm_rest (f : Nat → Int) {k n : Nat} (h : k ≤ n) : sm (fun i => f (i + k)) (n - k) = sm f n - sm f k := by
  rw [sm_shift, show n - k + k = n by omega]
theorem sq_rest (o : Nat → Int) {k n : Nat} (h : k ≤ n) : sq (fun i => o (i + k)) (n - k) = sq o n - sq o k := sm_rest (fun i => o i * o i) h
/-- what is greatest at the best change, and what it is divided by -/
def bcU (n : Nat) (o : Nat → Int) (k : Nat) : Int := sm o k * sm o k * ((n : Int) - k) + (sm o n - sm o k) * (sm o n - sm o k) * k
def bcD (n : Nat) (k : Nat) : Int := (k : Int) * ((n : Int) - k)
/-- the best so far, behind j places -/
def bc (n : Nat) (o : Nat → Int) : Nat → Int × Int × Int
  | 0 => (0, -1, 1)
  | j + 1 => if (bc n o j).2.1 * bcD n (j + 1) < bcU n o (j + 1) * (bc n o j).2.2 then ((j : Int) + 1, bcU n o (j + 1), bcD n (j + 1)) else bc n o j
structure OffB (n : Nat) (o : Nat → Int) : Prop where
  n60 : n ≤ 60
  bo : ∀ j, j < n → -100000 ≤ o j ∧ o j ≤ 100000
theorem OffB.s {n : Nat} {o : Nat → Int} (b : OffB n o) {k : Nat} (hk : k ≤ n) : -6000000 ≤ sm o k ∧ sm o k ≤ 6000000 := by
  have := sm_bd (f := o) (A := -100000) (B := 100000) (k := k) (fun j hj => b.bo j (by omega))
  have := b.n60; omega
theorem OffB.oo {n : Nat} {o : Nat → Int} (b : OffB n o) {j : Nat} (hj : j < n) : 0 ≤ o j * o j ∧ o j * o j ≤ 10000000000 := by
  have h := b.bo j hj
  have := mul_bd (A := 100000) (B := 100000) (by omega) h.2 (by omega) h.2
  have h2 : 0 ≤ o j * o j := by
    rcases Int.le_total 0 (o j) with h3 | h3
    · exact Int.mul_nonneg h3 h3
    · exact Int.mul_nonneg_of_nonpos_of_nonpos h3 h3
  omega
theorem OffB.q {n : Nat} {o : Nat → Int} (b : OffB n o) {k : Nat} (hk : k ≤ n) : 0 ≤ sq o k ∧ sq o k ≤ 600000000000 := by
  have := sm_bd (f := fun i => o i * o i) (A := 0) (B := 10000000000) (k := k) (fun j hj => b.oo (by omega))
  have := b.n60; unfold sq; omega
theorem sqr_nn (x : Int) : 0 ≤ x * x := by
  rcases Int.le_total 0 x with h3 | h3
  · exact Int.mul_nonneg h3 h3
  · exact Int.mul_nonneg_of_nonpos_of_nonpos h3 h3
theorem OffB.ss {n : Nat} {o : Nat → Int} (b : OffB n o) {k : Nat} (hk : k ≤ n) : 0 ≤ sm o k * sm o k ∧ sm o k * sm o k ≤ 36000000000000 := by
  have h := b.s hk
  have := mul_bd (A := 6000000) (B := 6000000) (by omega) h.2 (by omega) h.2
  exact ⟨sqr_nn _, by omega⟩
theorem OffB.tail {n : Nat} {o : Nat → Int} (b : OffB n o) {k : Nat} (hk : k ≤ n) : OffB (n - k) (fun i => o (i + k)) :=
  ⟨by have := b.n60; omega, fun j hj => b.bo _ (by omega)⟩
theorem OffB.tt {n : Nat} {o : Nat → Int} (b : OffB n o) {k : Nat} (hk : k ≤ n) : 0 ≤ (sm o n - sm o k) * (sm o n - sm o k) ∧ (sm o n - sm o k) * (sm o n - sm o k) ≤ 36000000000000 := by
  rw [← sm_rest o hk]; exact (b.tail hk).ss (Nat.le_refl _)
theorem OffB.t {n : Nat} {o : Nat → Int} (b : OffB n o) {k : Nat} (hk : k ≤ n) : -6000000 ≤ sm o n - sm o k ∧ sm o n - sm o k ≤ 6000000 := by
  rw [← sm_rest o hk]; exact (b.tail hk).s (Nat.le_refl _)
/-- the products on the way -/
structure BCB (n : Nat) (o : Nat → Int) (k : Nat) : Prop where
  a0 : 0 ≤ sm o k * sm o k * ((n : Int) - k)
  a1 : sm o k * sm o k * ((n : Int) - k) ≤ 2160000000000000
  b0 : 0 ≤ (sm o n - sm o k) * (sm o n - sm o k) * k
  b1 : (sm o n - sm o k) * (sm o n - sm o k) * k ≤ 2160000000000000
  d0 : 0 < bcD n k
  d1 : bcD n k ≤ 900
  u0 : 0 ≤ bcU n o k
  u1 : bcU n o k ≤ 4320000000000000
theorem bcb {n : Nat} {o : Nat → Int} (b : OffB n o) {k : Nat} (h1 : 1 ≤ k) (hk : k < n) : BCB n o k := by
  have h60 := b.n60
  have s := b.ss (k := k) (by omega)
  have t := b.tt (k := k) (by omega)
  have a := mul_nn (b := (n : Int) - k) (B := 60) s.1 s.2 (by omega) (by omega)
  have c := mul_nn (b := (k : Int)) (B := 60) t.1 t.2 (by omega) (by omega)
  have d : 0 < bcD n k := Int.mul_pos (by omega) (by omega)
  have d' : bcD n k ≤ 900 := by
    unfold bcD
    have e := sqr_nn (30 - (k : Int))
    have e1 : (30 - (k : Int)) * (30 - k) = 900 - 60 * k + k * k := by simp only [Int.sub_mul, Int.mul_sub]; omega
    have e2 : (k : Int) * n ≤ k * 60 := Int.mul_le_mul_of_nonneg_left (by omega) (by omega)
    rw [Int.mul_sub]; omega
  refine ⟨a.1, by omega, c.1, by omega, d, d', ?_, ?_⟩ <;> unfold bcU <;> omega
/-- the state behind j places -/
structure BSt (n : Nat) (o : Nat → Int) (j : Nat) : Prop where
  d0 : 0 < (bc n o j).2.2
  d1 : (bc n o j).2.2 ≤ 900
  u0 : -1 ≤ (bc n o j).2.1
  u1 : (bc n o j).2.1 ≤ 4320000000000000
  b0 : 0 ≤ (bc n o j).1
  b1 : (bc n o j).1 ≤ j
  z : (bc n o j).1 = 0 ↔ j = 0
  i : j = 0 → bc n o j = (0, -1, 1)
theorem bst {n : Nat} {o : Nat → Int} (b : OffB n o) {j : Nat} (hj : j < n) : BSt n o j := by
  induction j with
  | zero => constructor <;> simp [bc]
  | succ j ih =>
    have s := ih (by omega)
    have c := bcb b (k := j + 1) (by omega) hj
    have hup : ∀ x : Int × Int × Int, x = (if (bc n o j).2.1 * bcD n (j + 1) < bcU n o (j + 1) * (bc n o j).2.2 then ((j : Int) + 1, bcU n o (j + 1), bcD n (j + 1)) else bc n o j) →
        (0 < x.2.2 ∧ x.2.2 ≤ 900 ∧ -1 ≤ x.2.1 ∧ x.2.1 ≤ 4320000000000000 ∧ 0 ≤ x.1 ∧ x.1 ≤ j + 1 ∧ x.1 ≠ 0) := fun x hx => by
      split at hx
      · subst hx; have := c.d0; have := c.d1; have := c.u0; have := c.u1; simp only; omega
      · rename_i hn
        subst hx
        have h0 : j ≠ 0 := fun e => by
          subst e
          have h0' := c.u0; have := c.d0
          simp only [bc] at hn; omega
        have := s.d0; have := s.d1; have := s.u0; have := s.u1; have := s.b0; have := s.b1
        have hz : (bc n o j).1 ≠ 0 := fun e => h0 (s.z.1 e)
        omega
    obtain ⟨x1, x2, x3, x4, x5, x6, x7⟩ := hup (bc n o (j + 1)) rfl
    refine ⟨x1, x2, x3, x4, x5, by omega, ⟨fun e => absurd e x7, fun e => by omega⟩, fun e => by omega⟩
/-- the reference's terms: the spread of both parts -/
def spr (n : Nat) (o : Nat → Int) : Int := (n : Int) * sq o n - sm o n * sm o n
theorem spr_sum {n : Nat} {o : Nat → Int} {k : Nat} (hk : k ≤ n) :
    spr k o * ((n : Int) - k) + spr (n - k) (fun i => o (i + k)) * k = bcD n k * sq o n - bcU n o k := by
  unfold spr bcD bcU
  rw [sm_rest o hk, sq_rest o hk, Int.natCast_sub hk]
  generalize (n : Int) = N
  generalize (k : Int) = K
  generalize sq o n = A
  generalize sq o k = B
  generalize sm o n = S
  generalize sm o k = T
  simp only [Int.sub_mul, Int.mul_sub, Int.add_mul, Int.mul_add, Int.mul_assoc, Int.mul_comm, Int.mul_left_comm]
  omega
theorem offB_of {n : Nat} {h o : Nat → Int} (r : RB n h o) : OffB n o := ⟨r.n60, r.bo⟩
end Go.Proofs.Ytaalceckofgbhaa

namespace Go.Proofs.Ytaalceckofgbhaa
set_option linter.unusedVariables false
theorem bcU_succ (n : Nat) (o : Nat → Int) (j : Nat) : bcU n o (j + 1) = (sm o j + o j) * (sm o j + o j) * ((n : Int) - (j + 1)) + (sm o n - (sm o j + o j)) * (sm o n - (sm o j + o j)) * ((j : Int) + 1) := by
  unfold bcU; simp only [sm, Int.natCast_add, Int.natCast_one]
theorem bcD_succ (n : Nat) (j : Nat) : bcD n (j + 1) = ((j : Int) + 1) * ((n : Int) - (j + 1)) := by
  unfold bcD; simp only [Int.natCast_add, Int.natCast_one]
/-- the program's round -/
structure BW (n : Nat) (o : Nat → Int) (j : Nat) : Prop where
  s0 : -6000000 ≤ sm o j
  s1 : sm o j ≤ 6000000
  x0 : -100000 ≤ o j
  x1 : o j ≤ 100000
  a0 : 0 ≤ (sm o j + o j) * (sm o j + o j)
  a1 : (sm o j + o j) * (sm o j + o j) ≤ 36000000000000
  b0 : 0 ≤ (sm o j + o j) * (sm o j + o j) * ((n : Int) - (j + 1))
  b1 : (sm o j + o j) * (sm o j + o j) * ((n : Int) - (j + 1)) ≤ 2160000000000000
  c0 : 0 ≤ (sm o n - (sm o j + o j)) * (sm o n - (sm o j + o j))
  c1 : (sm o n - (sm o j + o j)) * (sm o n - (sm o j + o j)) ≤ 36000000000000
  e0 : 0 ≤ (sm o n - (sm o j + o j)) * (sm o n - (sm o j + o j)) * ((j : Int) + 1)
  e1 : (sm o n - (sm o j + o j)) * (sm o n - (sm o j + o j)) * ((j : Int) + 1) ≤ 2160000000000000
  d0 : 0 ≤ ((j : Int) + 1) * ((n : Int) - (j + 1))
  d1 : ((j : Int) + 1) * ((n : Int) - (j + 1)) ≤ 900
  p0 : -1 ≤ ((sm o j + o j) * (sm o j + o j) * ((n : Int) - (j + 1)) + (sm o n - (sm o j + o j)) * (sm o n - (sm o j + o j)) * ((j : Int) + 1)) * (bc n o j).2.2
  p1 : ((sm o j + o j) * (sm o j + o j) * ((n : Int) - (j + 1)) + (sm o n - (sm o j + o j)) * (sm o n - (sm o j + o j)) * ((j : Int) + 1)) * (bc n o j).2.2 ≤ 3888000000000000000
  q0 : -900 ≤ (bc n o j).2.1 * (((j : Int) + 1) * ((n : Int) - (j + 1)))
  q1 : (bc n o j).2.1 * (((j : Int) + 1) * ((n : Int) - (j + 1))) ≤ 3888000000000000000
  t0 : -6000000 ≤ sm o n
  t1 : sm o n ≤ 6000000
theorem bw_of {n : Nat} {o : Nat → Int} (b : OffB n o) {j : Nat} (hj : j + 1 < n) : BW n o j := by
  have c := bcb b (k := j + 1) (by omega) hj
  have s := bst b (j := j) (by omega)
  have ss := b.ss (k := j + 1) (by omega)
  have tt := b.tt (k := j + 1) (by omega)
  have sj := b.s (k := j) (by omega)
  have sn := b.s (k := n) (Nat.le_refl n)
  have xj := b.bo j (by omega)
  obtain ⟨c1, c2, c3, c4, c5, c6, c7, c8⟩ := c
  have u := s.u0
  have u' := s.u1
  have d := s.d0
  have d' := s.d1
  have p := mul_nn (a := bcU n o (j + 1)) (b := (bc n o j).2.2) c7 c8 (by omega) d'
  have q1 : (bc n o j).2.1 * bcD n (j + 1) ≤ 4320000000000000 * 900 := by
    rcases Int.lt_or_le (bc n o j).2.1 0 with h | h
    · have := Int.mul_nonneg (a := -(bc n o j).2.1) (b := bcD n (j + 1)) (by omega) (by omega)
      rw [Int.neg_mul] at this; omega
    · exact (mul_nn h u' (by omega) c6).2
  have q0 : -900 ≤ (bc n o j).2.1 * bcD n (j + 1) := by
    rcases Int.lt_or_le (bc n o j).2.1 0 with h | h
    · have e : (bc n o j).2.1 = -1 := by omega
      rw [e]; omega
    · have := Int.mul_nonneg h (show 0 ≤ bcD n (j + 1) by omega); omega
  rw [bcU_succ] at p
  rw [bcD_succ] at q0 q1 c5 c6
  simp only [sm, Int.natCast_add, Int.natCast_one] at c1 c2 c3 c4 ss tt
  constructor <;> omega
theorem bc_t {n : Nat} {o : Nat → Int} {j : Nat} (h : (bc n o j).2.1 * (((j : Int) + 1) * ((n : Int) - (j + 1))) < ((sm o j + o j) * (sm o j + o j) * ((n : Int) - (j + 1)) + (sm o n - (sm o j + o j)) * (sm o n - (sm o j + o j)) * ((j : Int) + 1)) * (bc n o j).2.2) :
    (bc n o (j + 1)).1 = (j : Int) + 1 ∧ (bc n o (j + 1)).2.1 = (sm o j + o j) * (sm o j + o j) * ((n : Int) - (j + 1)) + (sm o n - (sm o j + o j)) * (sm o n - (sm o j + o j)) * ((j : Int) + 1) ∧ (bc n o (j + 1)).2.2 = ((j : Int) + 1) * ((n : Int) - (j + 1)) := by
  simp only [bc]; rw [bcU_succ, bcD_succ, if_pos h]; exact ⟨rfl, rfl, rfl⟩
theorem bc_f {n : Nat} {o : Nat → Int} {j : Nat} (h : ¬ (bc n o j).2.1 * (((j : Int) + 1) * ((n : Int) - (j + 1))) < ((sm o j + o j) * (sm o j + o j) * ((n : Int) - (j + 1)) + (sm o n - (sm o j + o j)) * (sm o n - (sm o j + o j)) * ((j : Int) + 1)) * (bc n o j).2.2) :
    bc n o (j + 1) = bc n o j := by
  simp only [bc]; rw [bcU_succ, bcD_succ, if_neg h]
theorem bc_f' {n : Nat} {o : Nat → Int} {j : Nat} (h : ((sm o j + o j) * (sm o j + o j) * ((n : Int) - (j + 1)) + (sm o n - (sm o j + o j)) * (sm o n - (sm o j + o j)) * ((j : Int) + 1)) * (bc n o j).2.2 ≤ (bc n o j).2.1 * (((j : Int) + 1) * ((n : Int) - (j + 1)))) :
    bc n o (j + 1) = bc n o j := bc_f (by omega)
/-- code and place of the best change -/
def bcCode (n : Nat) (f o : Nat → Int) : Int := if rdV n f o then (if n < 2 then 6 else 0) else 1
def bcRes (n : Nat) (f o : Nat → Int) : Int := if bcCode n f o = 0 then (bc n o (n - 1)).1 else 0
/-- the reference's round -/
def bcN (n : Nat) (o : Nat → Int) (j : Nat) : Int := if j = 0 then 0 else (bc n o j).2.2 * sq o n - (bc n o j).2.1
end Go.Proofs.Ytaalceckofgbhaa

namespace Go.Proofs.Ytaalceckofgbhaa
set_option linter.unusedVariables false
set_option linter.unusedSimpArgs false
theorem OffB.le {n : Nat} {o : Nat → Int} (b : OffB n o) {k : Nat} (hk : k ≤ n) : OffB k o := ⟨by have := b.n60; omega, fun j hj => b.bo j (by omega)⟩
theorem spr_bd {n : Nat} {o : Nat → Int} (b : OffB n o) : -36000000000000 ≤ spr n o ∧ spr n o ≤ 36000000000000 := by
  have s := b.ss (Nat.le_refl n)
  have q := b.q (Nat.le_refl n)
  have h60 := b.n60
  have := mul_nn (a := (n : Int)) (A := 60) (by omega) (by omega) q.1 q.2
  unfold spr; omega
/-- the reference's term of a place -/
def rN (n : Nat) (o : Nat → Int) (j : Nat) : Int := spr (j + 1) o * ((n : Int) - (j + 1)) + spr (n - (j + 1)) (fun i => o (i + (j + 1))) * ((j : Int) + 1)
theorem rN_eq {n : Nat} {o : Nat → Int} {j : Nat} (hj : j + 1 < n) : rN n o j = ((j : Int) + 1) * ((n : Int) - (j + 1)) * sq o n - ((sm o j + o j) * (sm o j + o j) * ((n : Int) - (j + 1)) + (sm o n - (sm o j + o j)) * (sm o n - (sm o j + o j)) * ((j : Int) + 1)) := by
  have h := spr_sum (n := n) (o := o) (k := j + 1) (by omega)
  rw [bcD_succ, bcU_succ] at h
  simpa only [rN, Int.natCast_add, Int.natCast_one] using h
theorem bcN_bd {n : Nat} {o : Nat → Int} (b : OffB n o) {j : Nat} (hj : j < n) : -5000000000000000 ≤ bcN n o j ∧ bcN n o j ≤ 5000000000000000 := by
  have s := bst b hj
  have q := b.q (Nat.le_refl n)
  unfold bcN
  split
  · omega
  · have := mul_nn (by have := s.d0; omega) s.d1 q.1 q.2
    have := s.u0; have := s.u1
    omega
structure BR (n : Nat) (o : Nat → Int) (j : Nat) : Prop where
  a0 : -36000000000000 ≤ spr (j + 1) o
  a1 : spr (j + 1) o ≤ 36000000000000
  b0 : -36000000000000 ≤ spr (n - (j + 1)) (fun i => o (i + (j + 1)))
  b1 : spr (n - (j + 1)) (fun i => o (i + (j + 1))) ≤ 36000000000000
  c0 : -2160000000000000 ≤ spr (j + 1) o * ((n : Int) - (j + 1))
  c1 : spr (j + 1) o * ((n : Int) - (j + 1)) ≤ 2160000000000000
  d0 : -2160000000000000 ≤ spr (n - (j + 1)) (fun i => o (i + (j + 1))) * ((j : Int) + 1)
  d1 : spr (n - (j + 1)) (fun i => o (i + (j + 1))) * ((j : Int) + 1) ≤ 2160000000000000
  e0 : 0 ≤ ((j : Int) + 1) * ((n : Int) - (j + 1))
  e1 : ((j : Int) + 1) * ((n : Int) - (j + 1)) ≤ 900
  p0 : -4500000000000000000 ≤ (spr (j + 1) o * ((n : Int) - (j + 1)) + spr (n - (j + 1)) (fun i => o (i + (j + 1))) * ((j : Int) + 1)) * (bc n o j).2.2
  p1 : (spr (j + 1) o * ((n : Int) - (j + 1)) + spr (n - (j + 1)) (fun i => o (i + (j + 1))) * ((j : Int) + 1)) * (bc n o j).2.2 ≤ 4500000000000000000
  q0 : -4500000000000000000 ≤ bcN n o j * (((j : Int) + 1) * ((n : Int) - (j + 1)))
  q1 : bcN n o j * (((j : Int) + 1) * ((n : Int) - (j + 1))) ≤ 4500000000000000000
theorem br_of {n : Nat} {o : Nat → Int} (b : OffB n o) {j : Nat} (hj : j + 1 < n) : BR n o j := by
  have w := bw_of b hj
  have s := bst b (j := j) (by omega)
  have a := spr_bd (b.le (k := j + 1) (by omega))
  have c := spr_bd (b.tail (k := j + 1) (by omega))
  have h60 := b.n60
  have p := mul_bd (a := spr (j + 1) o) (b := (n : Int) - (j + 1)) (A := 36000000000000) (B := 60) (by omega) a.2 (by omega) (by omega)
  have q := mul_bd (a := spr (n - (j + 1)) (fun i => o (i + (j + 1)))) (b := (j : Int) + 1) (A := 36000000000000) (B := 60) (by omega) c.2 (by omega) (by omega)
  have d0 := s.d0
  have x := mul_bd (a := spr (j + 1) o * ((n : Int) - (j + 1)) + spr (n - (j + 1)) (fun i => o (i + (j + 1))) * ((j : Int) + 1)) (b := (bc n o j).2.2) (A := 4320000000000000) (B := 900) (by omega) (by omega) (by omega) s.d1
  have nb := bcN_bd b (j := j) (by omega)
  have y := mul_bd (a := bcN n o j) (b := ((j : Int) + 1) * ((n : Int) - (j + 1))) (A := 5000000000000000) (B := 900) (by omega) nb.2 (by have := w.d0; omega) w.d1
  exact ⟨a.1, a.2, c.1, c.2, by omega, by omega, by omega, by omega, w.d0, w.d1, by omega, by omega, by omega, by omega⟩
theorem bc_one {n : Nat} {o : Nat → Int} (b : OffB n o) (h1 : 0 + 1 < n) : (bc n o 0).2.1 * (((0 : Nat) : Int) + 1) * ((n : Int) - (((0 : Nat) : Int) + 1)) < 0 := by
  simp [bc]; omega
/-- which of the two is less: the reference's test and the program's -/
theorem cmp_eq {D S U d u : Int} : (D * S - U) * d < (d * S - u) * D ↔ u * D < U * d := by
  have e1 : (D * S - U) * d = D * S * d - U * d := Int.sub_mul _ _ _
  have e2 : (d * S - u) * D = d * S * D - u * D := Int.sub_mul _ _ _
  have e3 : D * S * d = d * S * D := by rw [Int.mul_comm (D * S) d, Int.mul_comm D S, ← Int.mul_assoc]
  omega
theorem bcN_succ_t {n : Nat} {o : Nat → Int} {j : Nat} (hj : j + 1 < n) (e2 : (bc n o (j + 1)).2.1 = (sm o j + o j) * (sm o j + o j) * ((n : Int) - (j + 1)) + (sm o n - (sm o j + o j)) * (sm o n - (sm o j + o j)) * ((j : Int) + 1)) (e3 : (bc n o (j + 1)).2.2 = ((j : Int) + 1) * ((n : Int) - (j + 1))) :
    spr (j + 1) o * ((n : Int) - (j + 1)) + spr (n - (j + 1)) (fun i => o (i + (j + 1))) * ((j : Int) + 1) = bcN n o (j + 1) := by
  have := rN_eq (o := o) hj
  unfold bcN; rw [if_neg (by omega), e2, e3]
  simpa only [rN] using this
/-- the round's outcomes: the first place; a better one; no better one -/
theorem r_first {n : Nat} {o : Nat → Int} (b : OffB n o) {j : Nat} (hj : j + 1 < n) (h0 : j = 0) :
    (bc n o (j + 1)).1 = (j : Int) + 1 ∧ (bc n o (j + 1)).2.2 = ((j : Int) + 1) * ((n : Int) - (j + 1)) ∧ spr (j + 1) o * ((n : Int) - (j + 1)) + spr (n - (j + 1)) (fun i => o (i + (j + 1))) * ((j : Int) + 1) = bcN n o (j + 1) := by
  have w := bw_of b hj
  have hlt : (bc n o j).2.1 * (((j : Int) + 1) * ((n : Int) - (j + 1))) < ((sm o j + o j) * (sm o j + o j) * ((n : Int) - (j + 1)) + (sm o n - (sm o j + o j)) * (sm o n - (sm o j + o j)) * ((j : Int) + 1)) * (bc n o j).2.2 := by
    have e := (bst b (j := j) (by omega)).i h0
    rw [e]
    have := w.b0; have := w.e0
    have : 0 < ((j : Int) + 1) * ((n : Int) - (j + 1)) := Int.mul_pos (by omega) (by omega)
    simp only [Int.mul_one]; omega
  obtain ⟨e1, e2, e3⟩ := bc_t hlt
  exact ⟨e1, e3, bcN_succ_t hj e2 e3⟩
theorem r_better {n : Nat} {o : Nat → Int} {j : Nat} (hj : j + 1 < n) (h0 : j ≠ 0)
    (h : (spr (j + 1) o * ((n : Int) - (j + 1)) + spr (n - (j + 1)) (fun i => o (i + (j + 1))) * ((j : Int) + 1)) * (bc n o j).2.2 < bcN n o j * (((j : Int) + 1) * ((n : Int) - (j + 1)))) :
    (bc n o (j + 1)).1 = (j : Int) + 1 ∧ (bc n o (j + 1)).2.2 = ((j : Int) + 1) * ((n : Int) - (j + 1)) ∧ spr (j + 1) o * ((n : Int) - (j + 1)) + spr (n - (j + 1)) (fun i => o (i + (j + 1))) * ((j : Int) + 1) = bcN n o (j + 1) := by
  have e := rN_eq (o := o) hj
  unfold rN at e
  rw [e] at h
  unfold bcN at h
  rw [if_neg h0] at h
  obtain ⟨e1, e2, e3⟩ := bc_t (cmp_eq.1 h)
  exact ⟨e1, e3, bcN_succ_t hj e2 e3⟩
theorem r_not {n : Nat} {o : Nat → Int} {j : Nat} (hj : j + 1 < n) (h0 : j ≠ 0)
    (h : bcN n o j * (((j : Int) + 1) * ((n : Int) - (j + 1))) ≤ (spr (j + 1) o * ((n : Int) - (j + 1)) + spr (n - (j + 1)) (fun i => o (i + (j + 1))) * ((j : Int) + 1)) * (bc n o j).2.2) :
    bc n o (j + 1) = bc n o j ∧ bcN n o (j + 1) = bcN n o j := by
  have e := rN_eq (o := o) hj
  unfold rN at e
  rw [e] at h
  have hb : bc n o (j + 1) = bc n o j := bc_f fun h2 => by
    have := cmp_eq (D := ((j : Int) + 1) * ((n : Int) - (j + 1))) (S := sq o n) (d := (bc n o j).2.2) (u := (bc n o j).2.1) |>.2 h2
    unfold bcN at h
    rw [if_neg h0] at h
    omega
  refine ⟨hb, ?_⟩
  unfold bcN; rw [hb, if_neg h0, if_neg (by omega)]
end Go.Proofs.Ytaalceckofgbhaa

namespace Go.Proofs.Ytaalceckofgbhaa
set_option linter.unusedVariables false
def eq1To (f g : Nat → Int) : Nat → Bool
  | 0 => true
  | k + 1 => eq1To f g k && (f k == g k)
theorem eq1To_ff {f g : Nat → Int} {k n : Nat} (hk : k < n) (hh : f k ≠ g k) : eq1To f g n = false := by
  induction n with
  | zero => omega
  | succ n ih =>
    by_cases e : k = n
    · subst e; simp [eq1To, hh]
    · simp only [eq1To, ih (by omega), Bool.false_and]
theorem eq1To_self {f : Nat → Int} {n : Nat} : eq1To f f n = true := by
  induction n with
  | zero => rfl
  | succ n ih => simp [eq1To, ih]
def absI (n : Int) : Int := if n < 0 then -n else n
end Go.Proofs.Ytaalceckofgbhaa

namespace Go.Proofs.Ytaalceckofgbhaa
set_option linter.unusedVariables false
/-- the jumps among the first j places -/
def jmp (o : Nat → Int) (least : Int) : Nat → List Int
  | 0 => []
  | j + 1 => if least ≤ absI (o (j + 1) - o j) then jmp o least j ++ [(j : Int) + 1] else jmp o least j
theorem jmp_len (o : Nat → Int) (least : Int) (j : Nat) : (jmp o least j).length ≤ j := by
  induction j with
  | zero => simp [jmp]
  | succ j ih =>
    simp only [jmp]; split
    · rw [List.length_append, List.length_singleton]; omega
    · omega
def jmpCode (n : Nat) (f o : Nat → Int) (least : Int) : Int := if rdV n f o then (if inB least 0 200000 then 0 else 2) else 1
def jmpRes (n : Nat) (f o : Nat → Int) (least : Int) : List Int := if jmpCode n f o least = 0 then jmp o least (n - 1) else []
theorem jmpRes_len (n : Nat) (f o : Nat → Int) (least : Int) : (jmpRes n f o least).length ≤ n := by
  unfold jmpRes; split
  · have := jmp_len o least (n - 1); omega
  · simp
end Go.Proofs.Ytaalceckofgbhaa

namespace Go.Proofs.Ytaalceckofgbhaa
set_option linter.unusedVariables false
/-- a function's first j values -/
def outs (F : Nat → Int) : Nat → List Int
  | 0 => []
  | j + 1 => outs F j ++ [F j]
theorem outs_len (F : Nat → Int) (j : Nat) : (outs F j).length = j := by
  induction j with
  | zero => rfl
  | succ j ih => simp [outs, ih]
def rateFn (h o : Nat → Int) (j : Nat) : Int := nearD (24000 * (o (j + 1) - o j)) (h (j + 1) - h j)
def rateCode (n : Nat) (h o : Nat → Int) : Int := if rdV n h o then 0 else 1
def rateRes (n : Nat) (h o : Nat → Int) : List Int := if rdV n h o then outs (rateFn h o) (n - 1) else []
theorem rateRes_len (n : Nat) (h o : Nat → Int) : (rateRes n h o).length ≤ n := by
  unfold rateRes; split
  · rw [outs_len]; omega
  · simp
end Go.Proofs.Ytaalceckofgbhaa

namespace Go.Proofs.Ytaalceckofgbhaa
set_option linter.unusedVariables false
/-- the arguments of a fusee are in range -/
def fuB (n : Nat) (wd : Nat → Int) (f t st mo : Int) : Bool := inS n wd f && (inS n wd t && (decide (f ≤ t) && (inB st 1 2000 && inB mo 0 1000000000)))
/-- how many radii -/
def fuN (f t st : Int) : Nat := ((t - f) / st).toNat + 1
def fuF (wd pl : Nat → Int) (f st mo : Int) (j : Nat) : Int := nearD mo (pullF wd pl (f + (j : Int) * st))
def fuG (n : Nat) (wd pl : Nat → Int) (f t st mo : Int) : Bool := spV n wd pl && (fuB n wd f t st mo && !(pullF wd pl f == 0))
def fuRes (n : Nat) (wd pl : Nat → Int) (f t st mo : Int) : List Int := if fuG n wd pl f t st mo then outs (fuF wd pl f st mo) (fuN f t st) else []
def fuC (n : Nat) (wd pl : Nat → Int) (f t st mo : Int) : Int := if spV n wd pl then (if fuB n wd f t st mo then (if pullF wd pl f == 0 then 6 else 0) else 2) else 1
theorem fuN_in {f t st : Int} (h : f ≤ t) (hs : 1 ≤ st) {j : Nat} (hj : j < fuN f t st) : f ≤ f + (j : Int) * st ∧ f + (j : Int) * st ≤ t := by
  have h1 := Int.mul_ediv_add_emod (t - f) st
  have h2 := Int.emod_nonneg (t - f) (show st ≠ 0 by omega)
  have h3 := Int.ediv_nonneg (show 0 ≤ t - f by omega) (show 0 ≤ st by omega)
  have h4 : (j : Int) ≤ (t - f) / st := by unfold fuN at hj; omega
  have h5 : (j : Int) * st ≤ (t - f) / st * st := Int.mul_le_mul_of_nonneg_right h4 (by omega)
  have h6 := Int.mul_nonneg (show (0 : Int) ≤ (j : Int) by omega) (show 0 ≤ st by omega)
  have e : (t - f) / st * st = st * ((t - f) / st) := Int.mul_comm _ _
  omega
theorem fuN_out {f t st : Int} (h : f ≤ t) (hs : 1 ≤ st) : t < f + (fuN f t st : Int) * st := by
  have h1 := Int.mul_ediv_add_emod (t - f) st
  have h2 := Int.emod_lt_of_pos (t - f) (show 0 < st by omega)
  have h3 := Int.ediv_nonneg (show 0 ≤ t - f by omega) (show 0 ≤ st by omega)
  have e : (fuN f t st : Int) = (t - f) / st + 1 := by unfold fuN; omega
  have e2 : ((t - f) / st + 1) * st = st * ((t - f) / st) + st := by grind
  rw [e, e2]; omega
theorem fuN_le {f t st : Int} (h : f ≤ t) (hs : 1 ≤ st) : (fuN f t st : Int) ≤ t - f + 1 := by
  have h1 := Int.mul_ediv_add_emod (t - f) st
  have h2 := Int.emod_nonneg (t - f) (show st ≠ 0 by omega)
  have h3 := Int.ediv_nonneg (show 0 ≤ t - f by omega) (show 0 ≤ st by omega)
  have h4 : 1 * ((t - f) / st) ≤ st * ((t - f) / st) := Int.mul_le_mul_of_nonneg_right hs h3
  unfold fuN; omega
theorem fuRes_len {n : Nat} {wd pl : Nat → Int} {f t st mo : Int} : (fuRes n wd pl f t st mo).length ≤ 2001 := by
  unfold fuRes
  split
  · rename_i h
    rw [outs_len]
    simp only [fuG, fuB, Bool.and_eq_true, decide_eq_true_eq] at h
    obtain ⟨h1, ⟨h2, h3, h4, h5, h6⟩, h7⟩ := h
    have b := spV_b h1
    have c1 := b.inS h2
    have c2 := b.inS h3
    have := fuN_le h4 (inB_t.1 h5).1
    omega
  · simp
theorem fuB_nn {n : Nat} {wd : Nat → Int} {f t st mo : Int} (h1 : inS n wd f = true) (h2 : inS n wd t = true) (h3 : f ≤ t) (h4 : inB st 1 2000 = true) (h5 : inB mo 0 1000000000 = true) : fuB n wd f t st mo = true := by
  simp [fuB, h1, h2, h3, h4, h5]
end Go.Proofs.Ytaalceckofgbhaa
