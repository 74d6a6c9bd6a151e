/- Two closed facts on the loaded program that each row's frame uses. Small general laws for the walks of this seat: worlds that only grow, regions that draw their order, slices of plain structs. No program in sight. What arguments of plain data hold: from the form's reading down to the cells. No program in sight. Slices that a call makes and writes: what is kept, what is read, what is marked. No program in sight. An append of one number at a step of a region that draws its order. No program in sight. Decimal numerals, digit by digit from the last. No program in sight. Decimal numerals: the reference's. The library's contracts at this seat, as the kit's tool has written them. Decimal numerals: the program's. Texts of lists of numbers, of faults. Calendars: rules, leap years, cycles. No program in sight. Calendars: days of years and months, numbers of days. No program in sight. Comparisons of dates. No program in sight. Dates compared. -/
import Derived.Test.YtpohhnihgegmfaaDoorRows
import Derived.KernelRfl
import Derived.WalkKit
import Derived.WalkSpells
import Derived.WalkLawsBesides
import Derived.Deep.QuietTactic
import Derived.BigQuiet
import Derived.Lib.Hide
import Derived.ProofKit
import Derived.Deep.Fields
import Derived.Deep.Slices
import Derived.Deep.RegionHeld3
import Derived.Deep.AppendLies
import Derived.Lib.ItoaNum
import Derived.RowKitTokens
import Derived.Lib.AppendIntMem
import Derived.Laws.IdiomStrings
import Derived.Shelf.Strings.Builder1
import Derived.Shelf.Strings.BuilderF
import Derived.Shelf.Strings.BuilderK
import Derived.Shelf.Utf8.RuneCount
import Derived.Shelf.Strconv.Itoa0
import Derived.Shelf.Strconv.Itoa1
import Derived.Shelf.LaysM
import Derived.Shelf.Strconv.Itoa2
import Derived.Shelf.Strconv.Itoa3
import Derived.Shelf.Strconv.Itoa4
import Derived.Shelf.Strconv.ParseIntEmpty
import Derived.Shelf.Strconv.Clone
import Derived.Shelf.Strconv.SyntaxError
import Derived.Shelf.LaysC
import Derived.Shelf.Strconv.ToError
import Derived.Shelf.Strconv.Lower
import Derived.Shelf.Strconv.ParseUint10
import Derived.Shelf.Strconv.ParseUint10Empty
import Derived.Shelf.Strconv.ParseUint10Any
import Derived.Shelf.Strconv.ParseInt10
import Derived.Shelf.Strconv.RangeError
import Derived.Shelf.Strconv.ToErrorRange
import Derived.Shelf.Strconv.ParseUintEmpty
import Derived.Shelf.Strconv.ParseUint10b64
import Derived.Shelf.Strconv.ParseUint10b32
import Derived.Shelf.Strconv.ParseUint10b16
import Derived.Shelf.Strconv.ParseUint10b8
import Derived.Shelf.Strconv.ParseUint10At
import Derived.Shelf.Strconv.ParseInt10At64
import Derived.Shelf.Strconv.ParseInt10At32
import Derived.Shelf.Strconv.ParseInt10At16
import Derived.Shelf.Strconv.ParseInt10At8
import Derived.Shelf.Strconv.ParseInt10All
import Derived.Shelf.Strconv.ParseIntPublic10
import Derived.Shelf.Strconv.ErrVarParseInt
import Derived.Shelf.Strings.Search1
import Derived.Shelf.Strings.Search2
import Derived.Shelf.Strings.Search3
import Derived.Shelf.Strings.Count
import Derived.Shelf.Strings.Shaped
import Derived.Shelf.Strings.Prefix
import Derived.Shelf.Strings.Split
import Derived.Shelf.Strings.SplitShaped
import Derived.Shelf.Unicode.Decode
import Derived.Shelf.Strings.RuneCount
import Derived.Shelf.Strings.Explode
import Derived.Shelf.Unicode.DecodeSlow
import Derived.Shelf.Unicode.DecodeAny
import Derived.Shelf.Strings.BuilderCap
import Derived.Test.YtpohhnihgegmfaaDoorProg
import Derived.Deep.DeepCutAuto

namespace Go.Proofs.YtpohhnihgegmfaaDoor
theorem own : ownKnob Tryd.prog.godebug = none := by kernel_rfl
theorem laidOut : laidOutB Tryd.prog = true := by kernel_rfl
end Go.Proofs.YtpohhnihgegmfaaDoor

namespace Go.Proofs.YtpohhnihgegmfaaDoor
open Go.RowKit
set_option linter.unusedVariables false

/-- The world w' has all blocks of w as they were, and perhaps more. -/
def Ext (w w' : World) : Prop := Below w.heap.size w w'
theorem Ext.refl (w : World) : Ext w w := Below.refl _ w
theorem Ext.size {w w' : World} (h : Ext w w') : w.heap.size ≤ w'.heap.size := Below.size h
theorem Ext.trans {a b c : World} (h : Ext a b) (k : Ext b c) : Ext a c := Below.trans h (Below.mono k h.size)
theorem Ext.drew {a w : World} (h : Ext a w) : Ext a w.drew := Below.drew h
theorem Ext.alloc {a w : World} (h : Ext a w) (o : Obj) : Ext a (w.alloc o) := Below.alloc h h.size o
theorem Ext.setCell {a w : World} (h : Ext a w) {p : Addr} (hp : a.heap.size ≤ p.block) (u : Value) : Ext a (w.setCell p u) := Below.setCell h hp u
theorem Ext.setAt {a w : World} (h : Ext a w) (b o : Nat) (u : Value) (hb : a.heap.size ≤ b) : Ext a (w.setCell ⟨b, o, none⟩ u) := h.setCell hb u
theorem Ext.cell {w w' : World} (h : Ext w w') {b o : Nat} (hb : b < w.heap.size) : w'.cell? ⟨b, o, none⟩ = w.cell? ⟨b, o, none⟩ := Below.cell (p := ⟨b, o, none⟩) h hb
theorem Ext.block {w w' : World} (h : Ext w w') {b : Nat} (hb : b < w.heap.size) : w'.heap[b]? = w.heap[b]? := Below.block h b hb
theorem Ext.grown {a w w' : World} {row : Option Nat} (h : Ext a w) (hg : w.grownBy w' row) (hr : ∀ k, row = some k → a.heap.size ≤ k) : Ext a w' := Below.grown h hg h.size hr

/-- A world that has grown out of w: what a callee leaves of which only this is known. -/
structure Past (w : World) where
  out : World
  bel : Ext w out
instance {w : World} : Nonempty (Past w) := ⟨⟨w, Ext.refl w⟩⟩
@[go_sem] theorem Past.cell {w : World} (x : Past w) (b o : Nat) (h : b < w.heap.size) : x.out.cell? ⟨b, o, none⟩ = w.cell? ⟨b, o, none⟩ := x.bel.cell h
@[go_sem] theorem Past.frozen {w : World} (x : Past w) (b o : Nat) (h : b < w.heap.size) : x.out.frozen? ⟨b, o, none⟩ = w.frozen? ⟨b, o, none⟩ := Below.frozen (p := ⟨b, o, none⟩) x.bel h
theorem Past.size {w : World} (x : Past w) : w.heap.size ≤ x.out.heap.size := x.bel.size
@[go_sem] theorem Past.lt {w : World} (x : Past w) (b : Nat) (h : b < w.heap.size) : b < x.out.heap.size := Nat.lt_of_lt_of_le h x.bel.size
@[go_sem] theorem Past.le {w : World} (x : Past w) (b : Nat) (h : b ≤ w.heap.size) : b ≤ x.out.heap.size := Nat.le_trans h x.bel.size
theorem Past.of {w w' : World} (h : Ext w w') : ∃ x : Past w, w' = x.out := ⟨⟨w', h⟩, rfl⟩
theorem Past.ofd {w w' : World} (h : Ext w.drew w') : ∃ x : Past w, w' = x.out := ⟨⟨w', Ext.trans ((Ext.refl w).drew) h⟩, rfl⟩
theorem Past.again {w w' : World} {x : Past w} (h : Ext x.out w') : ∃ y : Past w, w' = y.out := ⟨⟨w', x.bel.trans h⟩, rfl⟩

/-- A region that draws its order, whose operations read and whose calls only make new memory: one walk in the order of the text. -/
theorem wp_region_past {P : Program} {id : Nat} {Q : Exit → Act → World → Prop} {a : Act} {w : World} {l : List Oper} (hm : P.follows .mixedOrders = true) (hB : Region.lexB .any l.toArray = true)
    (h : wpQuiet P l.toArray (fun w' => ∃ x : Past w, w' = x.out) (fun a' => ∀ w', (∃ x : Past w, w' = x.out) → Q .normal a' w') l a) : (Code.region id l.toArray true).wp P Q a w :=
  wp_region_quiet (C := fun w' => ∃ x : Past w, w' = x.out) hm hB ⟨⟨_, (Ext.refl w).drew⟩, rfl⟩ (by simpa using h)
theorem Calls.past {P : Program} {f : FuncId} {args : Array Value} {w : World} {x : Past w} {v : Value}
    (h : Calls P f args x.out fun e w' => e = .returned v ∧ Ext x.out w') : Calls P f args x.out fun e w'' => e = .returned v ∧ ∃ y : Past w, w'' = y.out :=
  h.mono fun _ w' ⟨he, m⟩ => ⟨he, ⟨w', x.bel.trans m⟩, rfl⟩
theorem Calls.past_same {P : Program} {f : FuncId} {args : Array Value} {w : World} {x : Past w} {v : Value}
    (h : Calls P f args x.out fun e w' => e = .returned v ∧ x.out = w') : Calls P f args x.out fun e w'' => e = .returned v ∧ ∃ y : Past w, w'' = y.out :=
  h.mono fun _ w' ⟨he, m⟩ => ⟨he, x, m.symm⟩

theorem ret_bool {a b : Bool} (h : a = b) : Ending.returned (.bool a) = .returned (.bool b) := by rw [h]
theorem ret_i64 {a b : Int} (h : a = b) : Ending.returned (.int .i64 a) = .returned (.int .i64 b) := by rw [h]
theorem ret_two {v v' u u' : Value} (h : v = v') (h' : u = u') : Ending.returned (.tuple #[v, u]) = .returned (.tuple #[v', u']) := by rw [h, h']

/-- A slice (of address 'a', with n elements of two integers each) reads as 'h', 'o' in the world w. -/
def S2 (w : World) (a : Option Addr) (n : Nat) (h o : Nat → Int) : Prop :=
  0 < n → ∃ b off, a = some ⟨b, off, none⟩ ∧ b < w.heap.size ∧ ∀ j, j < n → w.cell? ⟨b, off + j * 2, none⟩ = some (.int .i64 (h j)) ∧ w.cell? ⟨b, off + j * 2 + 1, none⟩ = some (.int .i64 (o j))
theorem S2.ext {w w' : World} {a : Option Addr} {n : Nat} {h o : Nat → Int} (s : S2 w a n h o) (e : Ext w w') : S2 w' a n h o := fun hn => by
  obtain ⟨b, off, ha, hb, hc⟩ := s hn
  exact ⟨b, off, ha, Nat.lt_of_lt_of_le hb e.size, fun j hj => by rw [e.cell hb, e.cell hb]; exact hc j hj⟩
/-- At a place j below n. -/
theorem S2.at {w : World} {a : Option Addr} {n : Nat} {h o : Nat → Int} (s : S2 w a n h o) {j : Nat} (hj : j < n) :
    ∃ b off, a = some ⟨b, off, none⟩ ∧ b < w.heap.size ∧ w.cell? ⟨b, off + j * 2, none⟩ = some (.int .i64 (h j)) ∧ w.cell? ⟨b, off + j * 2 + 1, none⟩ = some (.int .i64 (o j)) := by
  obtain ⟨b, off, ha, hb, hc⟩ := s (by omega)
  exact ⟨b, off, ha, hb, hc j hj⟩

/-- A slice (of address 'a', with n elements) of integers reads as 'f' in the world w. -/
def S1 (w : World) (a : Option Addr) (n : Nat) (f : Nat → Int) : Prop :=
  0 < n → ∃ b off, a = some ⟨b, off, none⟩ ∧ b < w.heap.size ∧ ∀ j, j < n → w.cell? ⟨b, off + j, none⟩ = some (.int .i64 (f j))
theorem S1.ext {w w' : World} {a : Option Addr} {n : Nat} {f : Nat → Int} (s : S1 w a n f) (e : Ext w w') : S1 w' a n f := fun hn => by
  obtain ⟨b, off, ha, hb, hc⟩ := s hn
  exact ⟨b, off, ha, Nat.lt_of_lt_of_le hb e.size, fun j hj => by rw [e.cell hb]; exact hc j hj⟩
theorem S1.at {w : World} {a : Option Addr} {n : Nat} {f : Nat → Int} (s : S1 w a n f) {j : Nat} (hj : j < n) :
    ∃ b off, a = some ⟨b, off, none⟩ ∧ b < w.heap.size ∧ w.cell? ⟨b, off + j, none⟩ = some (.int .i64 (f j)) := by
  obtain ⟨b, off, ha, hb, hc⟩ := s (by omega)
  exact ⟨b, off, ha, hb, hc j hj⟩

/-- Block g of the world w holds the cells 'cur', none of them frozen. -/
def Blk (w : World) (g : Nat) (T : TypeId) (cur : Array Value) : Prop := w.heap[g]? = some (.cells cur T (0, 0))
theorem Blk.lt {w : World} {g : Nat} {T : TypeId} {cur : Array Value} (h : Blk w g T cur) : g < w.heap.size := (Array.getElem?_eq_some_iff.1 h).1
theorem Blk.ext {w w' : World} {g : Nat} {T : TypeId} {cur : Array Value} (h : Blk w g T cur) (e : Ext w w') : Blk w' g T cur := (e.block h.lt).trans h
theorem Blk.cell {w : World} {g : Nat} {T : TypeId} {cur : Array Value} (h : Blk w g T cur) (j : Nat) : w.cell? ⟨g, j, none⟩ = cur[j]? := cell_of_row w g j cur T (0, 0) h
theorem Blk.frozen {w : World} {g : Nat} {T : TypeId} {cur : Array Value} (h : Blk w g T cur) (j : Nat) : w.frozen? ⟨g, j, none⟩ = false := frozen_of_row w g j cur T h
theorem Blk.set {w : World} {g : Nat} {T : TypeId} {cur : Array Value} (h : Blk w g T cur) (j : Nat) (u : Value) : Blk (w.setCell ⟨g, j, none⟩ u) g T (cur.setIfInBounds j u) := heap_setCell_same w g j cur T u h
theorem Blk.other {w : World} {g : Nat} {T : TypeId} {cur : Array Value} (h : Blk w g T cur) (b j : Nat) (u : Value) (hne : g ≠ b) : Blk (w.setCell ⟨b, j, none⟩ u) g T cur :=
  (Below.heap_setCell w ⟨b, j, none⟩ u g hne).trans h
theorem Blk.new (w : World) (cur : Array Value) (T : TypeId) : Blk (w.alloc (.cells cur T)) w.heap.size T cur := heap_alloc_new w _

/-- The first k elements of the cells 'cur' are the pairs 'h', 'o'. -/
def C2 (cur : Array Value) (k : Nat) (h o : Nat → Int) : Prop := ∀ j, j < k → cur[j * 2]? = some (.int .i64 (h j)) ∧ cur[j * 2 + 1]? = some (.int .i64 (o j))
theorem C2.zero (cur : Array Value) (h o : Nat → Int) : C2 cur 0 h o := fun j hj => absurd hj (Nat.not_lt_zero j)
theorem C2.step {cur : Array Value} {k : Nat} {h o : Nat → Int} (c : C2 cur k h o) (hk : k * 2 + 1 < cur.size) : C2 ((cur.setIfInBounds (k * 2) (.int .i64 (h k))).setIfInBounds (k * 2 + 1) (.int .i64 (o k))) (k + 1) h o := fun j hj => by
  rcases Nat.lt_succ_iff_lt_or_eq.1 hj with hlt | rfl
  · obtain ⟨c1, c2⟩ := c j hlt
    constructor
    · rw [Array.getElem?_setIfInBounds_ne (by omega), Array.getElem?_setIfInBounds_ne (by omega), c1]
    · rw [Array.getElem?_setIfInBounds_ne (by omega), Array.getElem?_setIfInBounds_ne (by omega), c2]
  · constructor
    · rw [Array.getElem?_setIfInBounds_ne (by omega), Array.getElem?_setIfInBounds_self_of_lt (by omega)]
    · rw [Array.getElem?_setIfInBounds_self_of_lt (by simp; omega)]
theorem C2.s2 {w : World} {g n : Nat} {T : TypeId} {cur : Array Value} {h o : Nat → Int} (b : Blk w g T cur) (c : C2 cur n h o) : S2 w (some ⟨g, 0, none⟩) n h o := fun _ =>
  ⟨g, 0, rfl, b.lt, fun j hj => by rw [b.cell, b.cell]; simpa using c j hj⟩
/-- The first k of the cells 'cur' are the integers f. -/
def C1 (cur : Array Value) (k : Nat) (f : Nat → Int) : Prop := ∀ j, j < k → cur[j]? = some (.int .i64 (f j))
theorem C1.zero (cur : Array Value) (f : Nat → Int) : C1 cur 0 f := fun j hj => absurd hj (Nat.not_lt_zero j)
theorem C1.step {cur : Array Value} {k : Nat} {f : Nat → Int} (c : C1 cur k f) (hk : k < cur.size) : C1 (cur.setIfInBounds k (.int .i64 (f k))) (k + 1) f := fun j hj => by
  rcases Nat.lt_succ_iff_lt_or_eq.1 hj with hlt | rfl
  · rw [Array.getElem?_setIfInBounds_ne (by omega), c j hlt]
  · rw [Array.getElem?_setIfInBounds_self_of_lt hk]
theorem C1.s1 {w : World} {g n : Nat} {T : TypeId} {cur : Array Value} {f : Nat → Int} (b : Blk w g T cur) (c : C1 cur n f) : S1 w (some ⟨g, 0, none⟩) n f := fun _ =>
  ⟨g, 0, rfl, b.lt, fun j hj => by rw [b.cell]; simpa using c j hj⟩

/-- The cells of a new slice, behind a name. -/
def Mk (z : Array Value) (n : Nat) : Array Value := madeCells z n
theorem Mk.size (z : Array Value) (n : Nat) : (Mk z n).size = n := size_madeCells z n
/-- 'make([]T, n)' -/
theorem make_run {P : Program} (t e : TypeId) (z : Value) (sz bytes : Nat) (ht : P.underlying t = some (.slice e)) (hinfo : (P.info? e).map (fun i => (i.zero, i.size, i.bytes)) = some (some z, sz, bytes))
    (n : Nat) (hb : bytes * n ≤ 281474976710656) (h63 : n ≤ 9223372036854775807) (w : World) :
    (Instr.makeSlice t (.int .i64 (n : Int)) (.int .i64 (n : Int))).run P w = .ok (.slice (some ⟨w.heap.size, 0, none⟩) n n) (w.alloc (.cells (Mk z.cells (n * sz)) e)) := by
  obtain ⟨i, hi, hz, hs, hby⟩ := info_parts hinfo
  subst hs hby
  have hb' : (i.bytes : Int) * (n : Int) ≤ 281474976710656 := by
    have h : ((i.bytes * n : Nat) : Int) ≤ 281474976710656 := by omega
    rwa [Int.natCast_mul] at h
  have := run_make (P := P) w t e i z ht hi hz .i64 .i64 n n (by omega) (Int.le_refl _) hb' (by omega)
  simpa [Mk] using this

end Go.Proofs.YtpohhnihgegmfaaDoor

namespace Go.Proofs.YtpohhnihgegmfaaDoor
open Go.ChangeShapes Go.WideShapes Go.RowKit Go.Deep
set_option linter.unusedVariables false

/-- every field is an int64 -/
def allI64 (P : Program) (fs : Array Field) : Bool := fs.toList.all fun f => match P.underlying f.type with
  | some (.int .i64) => true
  | _ => false
theorem allI64_at {P : Program} {fs : Array Field} (h : allI64 P fs = true) {j : Nat} {f : Field} (hj : fs[j]? = some f) : P.underlying f.type = some (.int .i64) := by
  have h1 := List.all_eq_true.1 h f (by rw [Array.mem_toList_iff]; exact Array.mem_of_getElem? hj)
  revert h1
  split
  · intro _; assumption
  · intro h2; cases h2
section
variable {H : Type} {enc : TypeId × Value → H} {P : Program} {w : World} {base : Nat} {spare : Nat → Bool} {held : Bool}
/-- a struct's fields, each with its reading -/
theorem down_struct {t : TypeId} {fs : Array Field} {fuel : Nat} {cs : List Value} {x : DataW H × List MemPlace} (hs : P.underlying t = some (.struct fs)) (hone : oneCellFields P fs = true) (hC : P.cellsOf t = fs.size)
    (h : DataW.trod enc P w base spare held fuel t cs = some x) :
    ∃ n, cs.length = fs.size ∧ ∀ (j : Nat) (f : Field), fs[j]? = some f → ∃ v y, cs[j]? = some v ∧ DataW.trod enc P w base spare held n f.type [v] = some y := by
  obtain ⟨xs, n, _, _, hl, hxl, hf⟩ := DataW.trod_struct hs h
  refine ⟨n, hl.trans hC, fun j f hj => ?_⟩
  obtain ⟨ho, hc⟩ := hone_of hone j f hj
  have hjl : j < fs.size := (Array.getElem?_eq_some_iff.1 hj).1
  have hjc : j < cs.length := by omega
  have h1 := hf j f hj
  rw [ho, hc, List.drop_eq_getElem_cons hjc, List.getElem?_eq_getElem (show j < xs.length by omega)] at h1
  exact ⟨cs[j], xs[j]'(by omega), List.getElem?_eq_getElem hjc, h1⟩
/-- a struct whose fields are all int64 -/
theorem down_ints {t : TypeId} {fs : Array Field} {fuel : Nat} {cs : List Value} {x : DataW H × List MemPlace} (hs : P.underlying t = some (.struct fs)) (hone : oneCellFields P fs = true) (hC : P.cellsOf t = fs.size) (hi : allI64 P fs = true)
    (h : DataW.trod enc P w base spare held fuel t cs = some x) :
    ∃ z : Nat → Int, cs = (List.range fs.size).map (fun j => Value.int .i64 (z j)) ∧ ∀ j, j < fs.size → (Lit.int .i64 (z j)).wf = true := by
  obtain ⟨n, hl, hf⟩ := down_struct hs hone hC h
  have hz : ∀ j, j < fs.size → ∃ z : Int, cs[j]? = some (.int .i64 z) ∧ (Lit.int .i64 z).wf = true := fun j hj => by
    obtain ⟨v, y, hv, hy⟩ := hf j fs[j] (Array.getElem?_eq_getElem hj)
    obtain ⟨z, hz, _, hw⟩ := DataW.trod_int (allI64_at hi (Array.getElem?_eq_getElem hj)) hy
    simp only [List.cons.injEq, and_true] at hz
    exact ⟨z, by rw [hv, hz], hw⟩
  obtain ⟨z, hz⟩ := choose_lt hz
  refine ⟨z, List.ext_getElem? fun j => ?_, fun j hj => (hz j hj).2⟩
  by_cases hj : j < fs.size
  · rw [(hz j hj).1]; simp [hj]
  · rw [List.getElem?_eq_none (by omega), List.getElem?_eq_none (by simp; omega)]
theorem down_agg {r : Reach} {b0 : Nat} {t : TypeId} {fs : Array Field} {v : Value} {d : DataW H} {p : List MemPlace} (hs : P.underlying t = some (.struct fs)) (hone : oneCellFields P fs = true) (hC : P.cellsOf t = fs.size) (hi : allI64 P fs = true)
    (hv : Value.okWide P w r b0 t v) (h : DataW.Trod enc P w base spare held t v d p) :
    ∃ z : Nat → Int, v = .agg ((List.range fs.size).map (fun j => Value.int .i64 (z j))).toArray ∧ ∀ j, j < fs.size → (Lit.int .i64 (z j)).wf = true := by
  obtain ⟨cs, rfl, hsz⟩ := okWide_struct hs hv
  obtain ⟨fuel, hf⟩ := h
  obtain ⟨z, hz, hw⟩ := down_ints hs hone hC hi hf
  refine ⟨z, ?_, hw⟩
  congr 1
  apply Array.toList_inj.1
  simpa [Value.cells] using hz
/-- a slice of such structs: nil, or the cells of its elements -/
theorem down_slice {t e : TypeId} {fs : Array Field} {v : Value} {d : DataW H} {p : List MemPlace} {r : Reach} {b0 : Nat} (ht : P.underlying t = some (.slice e)) (hs : P.underlying e = some (.struct fs)) (hone : oneCellFields P fs = true) (hC : P.cellsOf e = fs.size) (hi : allI64 P fs = true) (hpos : 0 < fs.size)
    (hv : Value.okWide P w r b0 t v) (h : DataW.Trod enc P w base spare held t v d p) (hlt : ∀ x ∈ p, x.block < w.heap.size) :
    ∃ (a : Option Addr) (n cap : Nat) (z : Nat → Nat → Int), v = .slice a n cap ∧ n ≤ cap ∧ cap ≤ maxLen ∧
      (0 < n → ∃ b off, a = some ⟨b, off, none⟩ ∧ b < w.heap.size ∧ ∀ i, i < n → ∀ j, j < fs.size → w.cell? ⟨b, off + i * fs.size + j, none⟩ = some (.int .i64 (z i j)) ∧ (Lit.int .i64 (z i j)).wf = true) := by
  obtain ⟨a, n, cap, rfl⟩ := okWide_slice ht hv
  obtain ⟨fuel, hf⟩ := h
  rcases open_slice ht hf with ⟨hcs, _⟩ | ⟨a', len', cap', m, n', D, Pl, hcs, hb, hl, hm, hmm, hx, hcell⟩
  · simp [Value.cells] at hcs
    obtain ⟨rfl, rfl, rfl⟩ := hcs
    exact ⟨none, 0, 0, fun _ _ => 0, rfl, Nat.le_refl _, Nat.zero_le _, fun h => absurd h (Nat.lt_irrefl 0)⟩
  · simp [Value.cells] at hcs
    obtain ⟨rfl, rfl, rfl⟩ := hcs
    have hlm : n ≤ m := by rw [hmm]; split <;> omega
    have hel : ∀ i, i < n → ∃ z : Nat → Int, ∀ j, j < fs.size → w.cell? (a'.add (i * fs.size + j)) = some (.int .i64 (z j)) ∧ (Lit.int .i64 (z j)).wf = true := fun i hi' => by
      obtain ⟨cs', hc, ht'⟩ := hcell i (by omega)
      rw [hC] at hc
      obtain ⟨_, hcl, hat⟩ := World.cells?_some hc
      obtain ⟨z, hz, hw⟩ := down_ints hs hone hC hi ht'
      refine ⟨z, fun j hj => ⟨?_, hw j hj⟩⟩
      rw [← Go.Deep.add_add, hat j hj, hz]; simp [hj]
    obtain ⟨z, hz⟩ := choose_lt hel
    refine ⟨some a', n, cap, z, rfl, hl, hm, fun hn => ?_⟩
    obtain ⟨b, off, spot⟩ := a'
    have h0 := (hz 0 hn 0 hpos).1
    have hspot : spot = none := by simpa [Addr.add] using World.cell?_spot h0
    subst hspot
    refine ⟨b, off, rfl, World.block_lt_of_cell? w ⟨b, off, none⟩ (by simpa [Addr.add] using h0), fun i hi' j hj => ?_⟩
    have h1 := hz i hi' j hj
    rw [Addr.add_lit] at h1
    rw [Nat.add_assoc]; exact h1
end
/-- an int64 fits its kind: its bounds -/
theorem wf_bd {n : Int} (h : (Lit.int .i64 n).wf = true) : -9223372036854775808 ≤ n ∧ n ≤ 9223372036854775807 := by
  simpa [Lit.wf, IntKind.min, IntKind.max, IntKind.signed, IntKind.bits] using h
/-- a slice of pairs of integers, from its cells -/
theorem s2_of {w : World} {a : Option Addr} {n : Nat} {z : Nat → Nat → Int}
    (h : 0 < n → ∃ b off, a = some ⟨b, off, none⟩ ∧ b < w.heap.size ∧ ∀ i, i < n → ∀ j, j < 2 → w.cell? ⟨b, off + i * 2 + j, none⟩ = some (.int .i64 (z i j)) ∧ (Lit.int .i64 (z i j)).wf = true) :
    S2 w a n (fun i => z i 0) (fun i => z i 1) := fun hn => by
  obtain ⟨b, off, ha, hb, hc⟩ := h hn
  exact ⟨b, off, ha, hb, fun i hi => ⟨(hc i hi 0 (by omega)).1, (hc i hi 1 (by omega)).1⟩⟩
end Go.Proofs.YtpohhnihgegmfaaDoor

namespace Go.Proofs.YtpohhnihgegmfaaDoor
open Go.RowKit
set_option linter.unusedVariables false

theorem ext_grown {w w' : World} (h : Ext w w') : w.grownBy w' none :=
  ⟨Below.os h, Below.tape h, Below.output h, h.size, fun k hk _ => h.block hk⟩
theorem grown_ext {w w' : World} (h : w.grownBy w' none) : Ext w w' :=
  ⟨h.os, h.tape, h.output, h.size, fun k hk => h.block k hk (by simp)⟩
theorem grown_trans {a b c : World} {row : Option Nat} (h : a.grownBy b row) (k : b.grownBy c row) : a.grownBy c row :=
  ⟨k.os.trans h.os, k.tape.trans h.tape, k.output.trans h.output, Nat.le_trans h.size k.size, fun i hi hn => (k.block i (Nat.lt_of_lt_of_le hi h.size) hn).trans (h.block i hi hn)⟩
section
variable {w w' : World} {base : Nat} {e : TypeId} {size : Nat} {v : Value} {n : Nat} {xs : List Value}
theorem own_ext (h : w.ownsRow base e size v n xs) (x : Ext w w') : w'.ownsRow base e size v n xs := h.kept (ext_grown x) (by cases hv : v.ownBlock <;> simp)
/-- what is owned lies from its base on, and below the heap's end -/
theorem own_in {a : Option Addr} {cap : Nat} (h : w.ownsRow base e size (.slice a n cap) n xs) {ad : Addr} (ha : a = some ad) : base ≤ ad.block ∧ ad.block < w.heap.size :=
  h.lt ad.block (by subst ha; rfl)
theorem own_at {a : Option Addr} {cap j : Nat} (h : w.ownsRow base e 1 (.slice a n cap) n xs) (hj : j < n) :
    ∃ g, a = some ⟨g, 0, none⟩ ∧ base ≤ g ∧ g < w.heap.size ∧ w.cell? ⟨g, j, none⟩ = xs[j]? ∧ w.frozen? ⟨g, j, none⟩ = false := by
  rcases h.2 with ⟨h1, h2⟩ | ⟨g, cap', cur, h1, hb, hg, h2, h3, h4, h5⟩
  · omega
  · simp only [Value.slice.injEq, true_and] at h1
    obtain ⟨rfl, rfl⟩ := h1
    exact ⟨g, rfl, hb, (Array.getElem?_eq_some_iff.1 hg).1, h.cellAt j (by omega), h.frozenAt j⟩
theorem own_at2 {a : Option Addr} {cap j : Nat} (h : w.ownsRow base e 2 (.slice a n cap) n xs) (hj : j < n) :
    ∃ g, a = some ⟨g, 0, none⟩ ∧ base ≤ g ∧ g < w.heap.size ∧ (w.cell? ⟨g, j * 2, none⟩ = xs[j * 2]? ∧ w.frozen? ⟨g, j * 2, none⟩ = false) ∧ w.cell? ⟨g, j * 2 + 1, none⟩ = xs[j * 2 + 1]? ∧ w.frozen? ⟨g, j * 2 + 1, none⟩ = false := by
  rcases h.2 with ⟨h1, h2⟩ | ⟨g, cap', cur, h1, hb, hg, h2, h3, h4, h5⟩
  · omega
  · simp only [Value.slice.injEq, true_and] at h1
    obtain ⟨rfl, rfl⟩ := h1
    exact ⟨g, rfl, hb, (Array.getElem?_eq_some_iff.1 hg).1, ⟨h.cellAt _ (by omega), h.frozenAt _⟩, h.cellAt _ (by omega), h.frozenAt _⟩
theorem own_set {g cap j : Nat} (h : w.ownsRow base e size (.slice (some ⟨g, 0, none⟩) n cap) n xs) (u : Value) : (w.setCell ⟨g, j, none⟩ u).ownsRow base e size (.slice (some ⟨g, 0, none⟩) n cap) n (xs.set j u) := (h.stored j u).1
theorem grown_set (g j : Nat) (u : Value) : w.grownBy (w.setCell ⟨g, j, none⟩ u) (some g) :=
  ⟨rfl, rfl, rfl, by simp, fun k _ hk => heap_setCell_other w ⟨g, j, none⟩ k u (fun e => hk (by simp [e]))⟩
theorem own_s1 {a : Option Addr} {cap : Nat} {l : List Int} (h : w.ownsRow base e 1 (.slice a n cap) n (l.map (Value.int .i64))) : S1 w a n (fun j => l.getD j 0) := fun hn => by
  obtain ⟨g, rfl, _, hg, _⟩ := own_at h hn
  have hl : l.length = n := by simpa using h.1
  refine ⟨g, 0, rfl, hg, fun j hj => ?_⟩
  rw [Nat.zero_add, h.cellAt j (by omega)]
  simp [List.getD, show j < l.length by omega]
theorem own_len {l : List Int} (h : w.ownsRow base e 1 v n (l.map (Value.int .i64))) : n = l.length := by simpa using h.1.symm
end
/-- a slice of integers that reads the same behind a change of another block -/
theorem S1.but {w w' : World} {a : Option Addr} {n : Nat} {f : Nat → Int} {row : Option Nat} (s : S1 w a n f) (hg : w.grownBy w' row) (hne : ∀ ad, a = some ad → some ad.block ≠ row) : S1 w' a n f := fun hn => by
  obtain ⟨b, off, ha, hb, hc⟩ := s hn
  refine ⟨b, off, ha, Nat.lt_of_lt_of_le hb hg.size, fun j hj => ?_⟩
  rw [World.cell?_of_block (a := ⟨b, off + j, none⟩) (hg.block b hb (hne _ ha))]
  exact hc j hj
theorem S2.but {w w' : World} {a : Option Addr} {n : Nat} {h o : Nat → Int} {row : Option Nat} (s : S2 w a n h o) (hg : w.grownBy w' row) (hne : ∀ ad, a = some ad → some ad.block ≠ row) : S2 w' a n h o := fun hn => by
  obtain ⟨b, off, ha, hb, hc⟩ := s hn
  refine ⟨b, off, ha, Nat.lt_of_lt_of_le hb hg.size, fun j hj => ?_⟩
  rw [World.cell?_of_block (a := ⟨b, off + j * 2, none⟩) (hg.block b hb (hne _ ha)), World.cell?_of_block (a := ⟨b, off + j * 2 + 1, none⟩) (hg.block b hb (hne _ ha))]
  exact hc j hj
/-- owned rows of two calls, the second begun when the first had ended, lie in different blocks -/
theorem own_ne2 {w1 w2 : World} {b1 b2 : Nat} {e1 e2 : TypeId} {s1 s2 : Nat} {v1 v2 : Value} {n1 n2 : Nat} {xs1 xs2 : List Value} (h1 : w1.ownsRow b1 e1 s1 v1 n1 xs1) (h2 : w2.ownsRow b2 e2 s2 v2 n2 xs2) (hb : w1.heap.size ≤ b2) :
    (v1.ownBlock = none ∨ v1.ownBlock ≠ v2.ownBlock) ∧ (v2.ownBlock = none ∨ v2.ownBlock ≠ v1.ownBlock) := by
  have hne : ∀ k, v1.ownBlock = some k → v2.ownBlock = some k → False := fun k hk hk2 => by
    have := (h1.lt k hk).2; have := (h2.lt k hk2).1; omega
  constructor
  · cases h : v1.ownBlock with
    | none => exact .inl rfl
    | some k => exact .inr fun e => hne k h e.symm
  · cases h : v2.ownBlock with
    | none => exact .inl rfl
    | some k => exact .inr fun e => hne k e.symm h
/-- the numbers k, k + 1 .. over the first j places of a list -/
def marked (k : Int) (xs : List Value) : Nat → List Value
  | 0 => xs
  | j + 1 => (marked k xs j).set j (.int .i64 (k + j))
theorem marked_length (k : Int) (xs : List Value) (j : Nat) : (marked k xs j).length = xs.length := by
  induction j with
  | zero => rfl
  | succ j ih => simp [marked, ih]
theorem marked_at (k : Int) (xs : List Value) {j i : Nat} (hi : i < j) (hx : i < xs.length) : (marked k xs j)[i]? = some (.int .i64 (k + i)) := by
  induction j with
  | zero => omega
  | succ j ih =>
    simp only [marked]
    by_cases e : i = j
    · subst e; rw [List.getElem?_set_self (by rw [marked_length]; exact hx)]
    · rw [List.getElem?_set_ne (by omega)]; exact ih (by omega)
/-- the numbers k, k + 1 .. -/
def ups (k : Int) (n : Nat) : List Value := (List.range n).map fun j => Value.int .i64 (k + (j : Nat))
theorem marked_all (k : Int) (xs : List Value) : marked k xs xs.length = ups k xs.length := by
  apply List.ext_getElem?
  intro i
  by_cases hi : i < xs.length
  · rw [marked_at k xs hi hi]; simp [ups, hi]
  · rw [List.getElem?_eq_none (by rw [marked_length]; omega), List.getElem?_eq_none (by simp [ups]; omega)]
theorem ups_at (k : Int) {n i : Nat} (hi : i < n) : (ups k n)[i]? = some (.int .i64 (k + i)) := by simp [ups, hi]
theorem own_form {w : World} {base : Nat} {e : TypeId} {size : Nat} {v : Value} {n : Nat} {xs : List Value} (h : w.ownsRow base e size v n xs) : ∃ b cap, v = .slice b n cap := by
  rcases h.2 with ⟨h1, h2⟩ | ⟨g, cap', cur, h1, _⟩
  · subst h2; exact ⟨none, 0, h1⟩
  · exact ⟨_, _, h1⟩
/-- 'out = append(out, u)', 'out' made by the call that began in w0 -/
theorem app1 {P : Program} {w w0 : World} {ops : Array Oper} {rest : List Oper} {o : Oper} {a : Act} {Q : Exit → Act → World → Prop} (t e : TypeId) (s x : Operand)
    (hop : o.op = .call { callee := .builtin .append, args := #[s, x], argTypes := #[t, t] }) (hgd : o.guard = none)
    (ht : P.underlying t = some (.slice e)) (hinfo : (P.info? e).map (fun i => (i.zero, i.size, i.bytes)) = some (some (.int .i64 0), 1, 8))
    (v : Value) (l : List Int) (u : Int) (g : Nat) (hs : a.eval s = v) (hx : a.eval x = .slice (some ⟨g, 0, none⟩) 1 1) (hown : w.ownsRow w0.heap.size e 1 v l.length (l.map (Value.int .i64)))
    (hc : w.cell? ⟨g, 0, none⟩ = some (.int .i64 u)) (hl : l.length ≤ 1048576) (h0 : Ext w0 w)
    (hK : ∀ v' w', w'.ownsRow w0.heap.size e 1 v' (l ++ [u]).length ((l ++ [u]).map (Value.int .i64)) → Ext w0 w' → wpList P ops Q rest (a.put o.dst v') w') : wpList P ops Q (o :: rest) a w := by
  obtain ⟨i, hi, hz, hsz, hb⟩ := info_parts hinfo
  refine wpList_append_own (P := P) w hgd s x t hop w0.heap.size e i (.int .i64 0) 1 8 ht hi hz hsz hb rfl (by decide) v l.length _ hs hown ⟨g, 0, none⟩ 1 1 [.int .i64 u] hx rfl ?_ ?_ ?_ ?_ h0.size ?_
  · intro j z hz'
    cases j with
    | zero =>
      simp at hz'; subst hz'
      simpa [Addr.add] using hc
    | succ j => simp at hz'
  · intro z hz'
    simp at hz'; subst hz'; rfl
  · unfold maxLen; omega
  · omega
  · intro v' w' h1 h2 _
    refine hK v' w' (by simpa using h1) (h0.grown h2 fun k hk => (hown.lt k hk).1)
end Go.Proofs.YtpohhnihgegmfaaDoor

namespace Go.Proofs.YtpohhnihgegmfaaDoor
open Go.RowKit
set_option linter.unusedVariables false
theorem app1s {P : Program} {w w0 : World} {ops : Array Oper} {o : Oper} {a : Act} {K : Act → World → Prop} {Q : Exit → Act → World → Prop} {E : Prop} (t e : TypeId) (s x : Operand)
    (hop : o.op = .call { callee := .builtin .append, args := #[s, x], argTypes := #[t, t] }) (hgd : o.guard = none)
    (ht : P.underlying t = some (.slice e)) (hinfo : (P.info? e).map (fun i => (i.zero, i.size, i.bytes)) = some (some (.int .i64 0), 1, 8))
    (v : Value) (l : List Int) (u : Int) (g : Nat) (hs : a.eval s = v) (hx : a.eval x = .slice (some ⟨g, 0, none⟩) 1 1) (hown : w.ownsRow w0.heap.size e 1 v l.length (l.map (Value.int .i64)))
    (hc : w.cell? ⟨g, 0, none⟩ = some (.int .i64 u)) (hl : l.length ≤ 1048576) (h0 : Ext w0 w)
    (hK : ∀ v' w', w'.ownsRow w0.heap.size e 1 v' (l ++ [u]).length ((l ++ [u]).map (Value.int .i64)) → Ext w0 w' → K (a.put o.dst v') w') :
    if Region.wanted o (yielded ops a.tmps) = true then Oper.wp P o a w K Q else E := by
  obtain ⟨i, hi, hz, hsz, hb⟩ := info_parts hinfo
  refine step_append_lies w hgd s x t hop w0.heap.size e i (.int .i64 0) 1 8 ht hi hz hsz hb rfl (by decide) v l.length _ hs hown ⟨g, 0, none⟩ 1 1 [.int .i64 u] hx rfl ?_ ?_ (by decide) ?_ ?_ h0.size _ rfl ?_
  · intro j z hz'
    cases j with
    | zero =>
      simp at hz'; subst hz'
      simpa [Addr.add] using hc
    | succ j => simp at hz'
  · intro z hz'
    simp at hz'; subst hz'; rfl
  · unfold maxLen; omega
  · omega
  · intro g' cap w' h1 h2 _ _
    refine hK _ w' ?_ (h0.grown h2 fun k hk => (hown.lt k hk).1)
    have e1 : (l ++ [u]).length = l.length + 1 := by simp
    rw [e1]; simpa using h1
end Go.Proofs.YtpohhnihgegmfaaDoor

namespace Go.Proofs.YtpohhnihgegmfaaDoor
set_option linter.unusedVariables false
/-- the digits of u; none for 0 -/
def digs (u : Nat) : List UInt8 := if u = 0 then [] else Lib.decDigits u
theorem digs_zero : digs 0 = [] := rfl
theorem digs_step {u : Nat} (h : 0 < u) : digs u = digs (u / 10) ++ [UInt8.ofNat (48 + u % 10)] := by
  rw [digs, if_neg (by omega)]
  by_cases h1 : u < 10
  · have e1 : u / 10 = 0 := by omega
    have e2 : u % 10 = u := by omega
    rw [e1, e2, digs_zero, Lib.decDigits, dif_pos h1]; rfl
  · rw [digs, if_neg (by omega), Lib.decDigits, dif_neg h1]
theorem digs_pos {u : Nat} (h : 0 < u) : digs u = Lib.decDigits u := if_neg (by omega)
/-- a number with a sign -/
def sg (b : Bool) (u : Nat) : Int := if b then -(u : Int) else u
theorem itoa_neg {u : Nat} (h : 0 < u) : Lib.itoa (-(u : Int)) = 45 :: digs u := by
  rw [Lib.itoa, if_pos (by omega), digs_pos h]; congr 1; simp
theorem itoa_pos {u : Nat} (h : 0 < u) : Lib.itoa (u : Int) = digs u := by
  rw [Lib.itoa, if_neg (by omega), digs_pos h]; rfl
theorem itoa_zero : Lib.itoa 0 = [48] := by
  rw [Lib.itoa, if_neg (by omega)]; exact Lib.decDigits_one (by decide)
theorem digs_len : ∀ (k u : Nat), u < 10 ^ k → (digs u).length ≤ k
  | 0, u, h => by have : u = 0 := by simpa using h
                  subst this; simp [digs_zero]
  | k + 1, u, h => by
    by_cases h0 : u = 0
    · subst h0; simp [digs_zero]
    · rw [digs_step (by omega), List.length_append]
      have := digs_len k (u / 10) (by rw [Nat.pow_succ] at h; omega)
      simp; omega
theorem u8_dig {d : Nat} (h : d < 10) : ((UInt8.ofNat (48 + d)).toNat : Int) = 48 + d := by
  have : (UInt8.ofNat (48 + d)).toNat = 48 + d := by rw [UInt8.toNat_ofNat']; omega
  rw [this]; omega
end Go.Proofs.YtpohhnihgegmfaaDoor

namespace Go.Proofs.YtpohhnihgegmfaaDoor
open Go.RowKit
set_option linter.unusedVariables false
set_option linter.unusedSimpArgs false

/-- a text out of bytes -/
def tx (l : List UInt8) : Value := .string ⟨l.toArray⟩
theorem info_u8 : (Tryd.prog.info? 5).map (fun i => (i.zero, i.size, i.bytes)) = some (some (.int .u8 0), 1, 1) := by kernel_rfl
theorem addr_add (b o j : Nat) : (⟨b, o, none⟩ : Addr).add j = ⟨b, o + j, none⟩ := by unfold Addr.add; split <;> simp_all
theorem ba_app (a b : List UInt8) : (⟨a.toArray⟩ : ByteArray) ++ ⟨b.toArray⟩ = ⟨(a ++ b).toArray⟩ := by
  apply ByteArray.ext; simp [ByteArray.data_append]
/-- a literal of one cell is owned -/
theorem own_lit1 {w : World} {base : Nat} {e : TypeId} (u : Value) (hb : base ≤ w.heap.size) : (w.alloc (.cells #[u] e)).ownsRow base e 1 (.slice (some ⟨w.heap.size, 0, none⟩) 1 1) 1 [u] :=
  ⟨rfl, .inr ⟨w.heap.size, 1, #[u], rfl, hb, heap_alloc_new w _, Nat.le_refl _, by decide, rfl, rfl⟩⟩
/-- 'append(own, out...)' of bytes -/
theorem appb {P : Program} {w : World} {ops : Array Oper} {rest : List Oper} {o : Oper} {A : Act} {Q : Exit → Act → World → Prop} (t e : TypeId) (s x : Operand)
    (hop : o.op = .call { callee := .builtin .append, args := #[s, x], argTypes := #[t, t] }) (hgd : o.guard = none)
    (ht : P.underlying t = some (.slice e)) (hinfo : (P.info? e).map (fun i => (i.zero, i.size, i.bytes)) = some (some (.int .u8 0), 1, 1))
    (B : Nat) (v : Value) (n : Nat) (l : List Value) (l2 : List UInt8) (g c : Nat) (hs : A.eval s = v) (hx : A.eval x = .slice (some ⟨g, 0, none⟩) l2.length c) (hown : w.ownsRow B e 1 v n l)
    (hc : ∀ (j : Nat) (u : Value), (Lib.byteCells l2)[j]? = some u → w.cell? ⟨g, j, none⟩ = some u) (hl : n + l2.length ≤ 1048576) (h0 : B ≤ w.heap.size)
    (hK : ∀ v' w', w'.ownsRow B e 1 v' (n + l2.length) (l ++ Lib.byteCells l2) → w.grownBy w' v.ownBlock → wpList P ops Q rest (A.put o.dst v') w') : wpList P ops Q (o :: rest) A w := by
  obtain ⟨i, hi, hz', hsz, hb⟩ := info_parts hinfo
  refine wpList_append_own (P := P) w hgd s x t hop B e i _ 1 1 ht hi hz' hsz hb rfl (by decide) v n l hs hown ⟨g, 0, none⟩ l2.length c (Lib.byteCells l2) hx (by rw [Lib.byteCells_length, Nat.mul_one]) ?_ ?_ (by unfold maxLen; omega) (by omega) h0 ?_
  · intro j u hu
    have := hc j u hu
    rwa [addr_add, Nat.zero_add]
  · intro u hu
    simp only [Lib.byteCells, List.mem_map] at hu
    obtain ⟨b, _, rfl⟩ := hu; rfl
  · intro v' w' h1 h2 _
    exact hK v' w' h1 h2
theorem own_bytes {w : World} {base : Nat} {e : TypeId} {g n cap : Nat} {l : List UInt8} (h : w.ownsRow base e 1 (.slice (some ⟨g, 0, none⟩) n cap) n (Lib.byteCells l)) : ∀ (j : Nat) (u : Value), (Lib.byteCells l)[j]? = some u → w.cell? ⟨g, j, none⟩ = some u := fun j u hu => by
  have hj : j < n := by
    have h1 := (List.getElem?_eq_some_iff.1 hu).1
    have h2 := h.1
    omega
  obtain ⟨g', e', _, _, h2, _⟩ := own_at h hj
  obtain rfl : g = g' := by simpa using e'
  exact h2.trans hu
theorem byte_cons {l : List UInt8} {u : Nat} : [Value.int .u8 (48 + (u : Int) % 10)] ++ Lib.byteCells l = Lib.byteCells (UInt8.ofNat (48 + u % 10) :: l) := by
  have h := u8_dig (d := u % 10) (by omega)
  have e : Lib.byteCells (UInt8.ofNat (48 + u % 10) :: l) = .int .u8 ((UInt8.ofNat (48 + u % 10)).toNat : Int) :: Lib.byteCells l := rfl
  rw [e, h]; rfl
set_option maxRecDepth 100000 in
set_option maxHeartbeats 4000000 in
theorem l01Dec_c (n : Int) (w : World) (h0 : -9223372036854775808 ≤ n) (h1 : n ≤ 9223372036854775807) :
    Calls Tryd.prog 53 #[.int .i64 n] w fun e w' => e = .returned (tx (Lib.itoa n)) ∧ Ext w w' := by
  go_enter Tryd.func53, Tryd.ntmps53
  go_wp2_with fail
  obtain ⟨bb, N, hn, hN⟩ : ∃ (bb : Bool) (N : Nat), n = sg bb N ∧ (bb = true → 0 < N) := by
    by_cases h : n < 0
    · exact ⟨true, n.natAbs, by simp [sg]; omega, fun _ => by omega⟩
    · exact ⟨false, n.natAbs, by simp [sg]; omega, fun e => by cases e⟩
  have hNb : N < 10 ^ 19 := by
    cases bb <;> simp [sg] at hn <;> omega
  have hNB : N ≤ 9223372036854775808 := by
    cases bb <;> simp [sg] at hn <;> omega
  go_loopw [3, 4, 5] (fun v3 v4 v5 wr => ∃ (u : Nat) (l : List UInt8) (g cap : Nat), digs N = digs u ++ l ∧ u ≤ N ∧ v4 = .int .i64 (sg bb u) ∧ (v5 = undef ∨ ∃ d, v5 = .int .i64 d) ∧ v3 = .slice (some ⟨g, 0, none⟩) l.length cap ∧ wr.ownsRow w.heap.size 5 1 v3 l.length (Lib.byteCells l) ∧ Ext w wr) (fun _ v4 _ _ => (intOf v4).natAbs)
  case atStart => exact ⟨N, [], w.heap.size, 0, by simp, Nat.le_refl _, by rw [hn], .inl rfl, rfl, World.ownsRow_made _ #[] 0 (Nat.le_refl _) (Nat.zero_le _) rfl, (by repeat (first | with_reducible exact Ext.refl _ | with_reducible assumption | with_reducible refine Ext.alloc ?_ _ | with_reducible refine Ext.drew ?_ | (with_reducible refine Ext.setAt ?_ _ _ _ ?_; rotate_left; omega) | with_reducible refine Ext.trans ?_ (by assumption) | with_reducible exact Past.bel _ | with_reducible refine Ext.trans ?_ (Past.bel _)))⟩
  case round =>
    obtain ⟨u, l, g, cap, hd, hu, rfl, hv5, rfl, ho, hx⟩ := hrel
    have HO := Lib.hid ho
    clear ho
    by_cases h0 : u = 0
    · subst h0
      have b0 : sg bb 0 = 0 := by cases bb <;> rfl
      have hd0 : digs N = l := by rw [hd, digs_zero]; rfl
      have hconv := run_convert_bytes_back (P := Tryd.prog) wr 75 9 5 ⟨g, 0, none⟩ cap l Tryd.underlying75 Tryd.underlying5 Tryd.underlying9 (fun j hj => by
        rw [addr_add, Nat.zero_add]
        exact own_bytes HO.out j _ (by rw [Lib.byteCells]; simp [hj]))
      rw [b0]
      by_cases hN0 : N = 0
      · obtain rfl : l = [] := by rw [← hd0, hN0]; rfl
        have hn0 : n = 0 := by rw [hn, hN0]; cases bb <;> rfl
        go_wp2_with fail
        go_ret
        exact ⟨by rw [hn0, itoa_zero]; rfl, (by repeat (first | with_reducible exact Ext.refl _ | with_reducible assumption | with_reducible refine Ext.alloc ?_ _ | with_reducible refine Ext.drew ?_ | (with_reducible refine Ext.setAt ?_ _ _ _ ?_; rotate_left; omega) | with_reducible refine Ext.trans ?_ (by assumption) | with_reducible exact Past.bel _ | with_reducible refine Ext.trans ?_ (Past.bel _)))⟩
      · have hll : l.length ≤ 19 := by rw [← hd0]; exact digs_len 19 N hNb
        have hl0 : 0 < l.length := by rw [← hd0, digs_step (u := N) (by omega)]; simp
        have hb1 : ((l.length : Int) == 0) = false := beq_eq_false_iff_ne.2 (by omega)
        have hb2 : ¬ (l.length : Int) = 0 := by omega
        clear hd
        cases bb
        · have hn1 : ¬ n < 0 := by rw [hn]; show ¬ (N : Int) < 0; omega
          have hi : Lib.itoa n = l := by rw [hn, ← hd0]; exact itoa_pos (by omega)
          have HI := Lib.hid hi
          clear hd0 hn hi
          go_wp2_with fail
          go_ret
          exact ⟨by rw [HI.out]; rfl, hx⟩
        · have hn1 : n < 0 := by rw [hn]; simp [sg]; omega
          have hi : Lib.itoa n = 45 :: l := by rw [hn, ← hd0]; exact itoa_neg (by omega)
          have HI := Lib.hid hi
          clear hd0 hn hi
          go_wp2_with fail
          go_ret
          exact ⟨by rw [HI.out]; exact congrArg (fun x => Ending.returned (Value.string x)) (ba_app [45] l), hx⟩
    · have hll : l.length ≤ 19 := by
        have a1 := digs_len 19 N hNb
        rw [hd, List.length_append] at a1
        omega
      have hsz := hx.size
      have e0 : ((u : Int) != 0) = true := by simp; omega
      have e1 : ((-(u : Int)) != 0) = true := by simp; omega
      have hd' : digs N = digs (u / 10) ++ (UInt8.ofNat (48 + u % 10) :: l) := by rw [hd, digs_step (by omega)]; simp
      cases bb
      · have e2 : ¬ (u : Int) % 10 < 0 := by omega
        rw [show sg false u = (u : Int) from rfl]
        clear hd hn hv5
        go_wp2_with (at_builtin; refine appb 75 5 _ _ rfl rfl Tryd.underlying75 info_u8 w.heap.size _ 1 _ l g _ rfl rfl (own_lit1 _ hsz) (own_bytes (own_ext HO.out (by repeat (first | with_reducible exact Ext.refl _ | with_reducible assumption | with_reducible refine Ext.alloc ?_ _ | with_reducible refine Ext.drew ?_ | (with_reducible refine Ext.setAt ?_ _ _ _ ?_; rotate_left; omega) | with_reducible refine Ext.trans ?_ (by assumption) | with_reducible exact Past.bel _ | with_reducible refine Ext.trans ?_ (Past.bel _))))) (by omega) (by simp; omega) ?_; intro v6 w6 s6 s7)
        rw [byte_cons, Nat.add_comm] at s6
        obtain ⟨b9, c9, rfl⟩ := own_form s6
        obtain ⟨g9, rfl, _⟩ := own_at s6 (j := 0) (by omega)
        have hx6 : Ext w w6 := (show Ext w (wr.alloc _) from (by repeat (first | with_reducible exact Ext.refl _ | with_reducible assumption | with_reducible refine Ext.alloc ?_ _ | with_reducible refine Ext.drew ?_ | (with_reducible refine Ext.setAt ?_ _ _ _ ?_; rotate_left; omega) | with_reducible refine Ext.trans ?_ (by assumption) | with_reducible exact Past.bel _ | with_reducible refine Ext.trans ?_ (Past.bel _)))).grown s7 (fun q hq => by cases hq; exact hsz)
        exact ⟨⟨u / 10, UInt8.ofNat (48 + u % 10) :: l, g9, c9, hd', by omega, congrArg (Value.int .i64) (show (u : Int) / 10 = ((u / 10 : Nat) : Int) from by omega), .inr ⟨_, rfl⟩, rfl, s6, hx6⟩, by simp [intOf]; omega⟩
      · rw [show sg true u = -(u : Int) from rfl]
        clear hd hn hv5
        by_cases e3 : 0 < (u : Int) % 10
        · go_wp2_with (at_builtin; refine appb 75 5 _ _ rfl rfl Tryd.underlying75 info_u8 w.heap.size _ 1 _ l g _ rfl rfl (own_lit1 _ hsz) (own_bytes (own_ext HO.out (by repeat (first | with_reducible exact Ext.refl _ | with_reducible assumption | with_reducible refine Ext.alloc ?_ _ | with_reducible refine Ext.drew ?_ | (with_reducible refine Ext.setAt ?_ _ _ _ ?_; rotate_left; omega) | with_reducible refine Ext.trans ?_ (by assumption) | with_reducible exact Past.bel _ | with_reducible refine Ext.trans ?_ (Past.bel _))))) (by omega) (by simp; omega) ?_; intro v6 w6 s6 s7)
          rw [byte_cons, Nat.add_comm] at s6
          obtain ⟨b9, c9, rfl⟩ := own_form s6
          obtain ⟨g9, rfl, _⟩ := own_at s6 (j := 0) (by omega)
          have hx6 : Ext w w6 := (show Ext w (wr.alloc _) from (by repeat (first | with_reducible exact Ext.refl _ | with_reducible assumption | with_reducible refine Ext.alloc ?_ _ | with_reducible refine Ext.drew ?_ | (with_reducible refine Ext.setAt ?_ _ _ _ ?_; rotate_left; omega) | with_reducible refine Ext.trans ?_ (by assumption) | with_reducible exact Past.bel _ | with_reducible refine Ext.trans ?_ (Past.bel _)))).grown s7 (fun q hq => by cases hq; exact hsz)
          exact ⟨⟨u / 10, UInt8.ofNat (48 + u % 10) :: l, g9, c9, hd', by omega, congrArg (Value.int .i64) (show -((u : Int) / 10) = -((u / 10 : Nat) : Int) from by omega), .inr ⟨_, rfl⟩, rfl, s6, hx6⟩, by simp [intOf]; omega⟩
        · go_wp2_with (at_builtin; refine appb 75 5 _ _ rfl rfl Tryd.underlying75 info_u8 w.heap.size _ 1 _ l g _ rfl rfl (own_lit1 _ hsz) (own_bytes (own_ext HO.out (by repeat (first | with_reducible exact Ext.refl _ | with_reducible assumption | with_reducible refine Ext.alloc ?_ _ | with_reducible refine Ext.drew ?_ | (with_reducible refine Ext.setAt ?_ _ _ _ ?_; rotate_left; omega) | with_reducible refine Ext.trans ?_ (by assumption) | with_reducible exact Past.bel _ | with_reducible refine Ext.trans ?_ (Past.bel _))))) (by omega) (by simp; omega) ?_; intro v6 w6 s6 s7)
          have e5 : (48 : Int) + -((u : Int) % 10) = 48 + (u : Int) % 10 := by omega
          rw [e5] at s6
          rw [byte_cons, Nat.add_comm] at s6
          obtain ⟨b9, c9, rfl⟩ := own_form s6
          obtain ⟨g9, rfl, _⟩ := own_at s6 (j := 0) (by omega)
          have hx6 : Ext w w6 := (show Ext w (wr.alloc _) from (by repeat (first | with_reducible exact Ext.refl _ | with_reducible assumption | with_reducible refine Ext.alloc ?_ _ | with_reducible refine Ext.drew ?_ | (with_reducible refine Ext.setAt ?_ _ _ _ ?_; rotate_left; omega) | with_reducible refine Ext.trans ?_ (by assumption) | with_reducible exact Past.bel _ | with_reducible refine Ext.trans ?_ (Past.bel _)))).grown s7 (fun q hq => by cases hq; exact hsz)
          exact ⟨⟨u / 10, UInt8.ofNat (48 + u % 10) :: l, g9, c9, hd', by omega, congrArg (Value.int .i64) (show -((u : Int) / 10) = -((u / 10 : Nat) : Int) from by omega), .inr ⟨_, rfl⟩, rfl, s6, hx6⟩, by simp [intOf]; omega⟩
end Go.Proofs.YtpohhnihgegmfaaDoor

namespace Go.Proofs
open Go.Shelf
def Tryd.lays169_ren : Go.Shelf.Ren := ⟨fun | 169 => 48 | n => n, fun | 70 => 74 | 9 => 9 | 0 => 0 | 72 => 77 | 37 => 75 | 127 => 93 | 3 => 3 | 5 => 5 | n => n, fun | n => n⟩
theorem Tryd.lays169 : Go.Proofs.Lays.n169 Tryd.prog Tryd.lays169_ren := {
  mixed := by kernel_rfl
  f169 := Tryd.func48.trans (congrArg some (by kernel_rfl))
  t0 := Tryd.underlying0
  a0 := Tryd.isAgg0
  z0 := Tryd.sizeOf0
  v0 := Tryd.zeroValue0
  t3 := Tryd.underlying3
  a3 := Tryd.isAgg3
  z3 := Tryd.sizeOf3
  v3 := Tryd.zeroValue3
  t9 := Tryd.underlying9
  a9 := Tryd.isAgg9
  z9 := Tryd.sizeOf9
  v9 := Tryd.zeroValue9
  t37 := Tryd.underlying75
  a37 := Tryd.isAgg75
  z37 := Tryd.sizeOf75
  v37 := Tryd.zeroValue75
  t70 := Tryd.underlying74
  a70 := Tryd.isAgg74
  z70 := Tryd.sizeOf74
  v70 := Tryd.zeroValue74
  t72 := Tryd.underlying77
  a72 := Tryd.isAgg77
  z72 := Tryd.sizeOf77
  v72 := Tryd.zeroValue77
  t127 := Tryd.underlying93
  a127 := Tryd.isAgg93
  z127 := Tryd.sizeOf93
  v127 := Tryd.zeroValue93 }
theorem Tryd.Builder_Extra_169 : Builder.Extra Tryd.prog Tryd.lays169_ren := {
  sizeBuilder := by kernel_rfl
  liesBuilder := by kernel_rfl
  t5 := Tryd.underlying5
  a5 := Tryd.isAgg5
  z5 := Tryd.sizeOf5
  v5 := Tryd.zeroValue5
  infoByte := by kernel_rfl
  cellsByte := by kernel_rfl
  sizeByte := by kernel_rfl
  neB5 := by decide }
open Go.RowKit in
theorem Tryd.Builder_String_any (B b : Nat) (l : List UInt8) (w : World) (h : Lib.IsBuilder 77 5 B b (Lib.byteCells l) w) (hBw : B ≤ w.heap.size) :
    Calls Tryd.prog 48 #[.pointer (some ⟨b, 0, none⟩)] w fun e w' => e = .returned (.string ⟨l.toArray⟩) ∧ Below B w w' := Any.Builder_String_any Tryd.lays169 Tryd.Builder_Extra_169 B b l w h hBw
open Go.RowKit in
def Tryd.laysM173_ren : Go.Shelf.Ren := ⟨fun | 173 => 61 | 246 => 80 | 283 => 94 | 284 => 95 | 285 => 96 | 286 => 97 | 129 => 102 | 317 => 101 | 318 => 103 | 319 => 104 | 320 => 105 | 337 => 106 | 338 => 107 | n => n, fun | 2 => 2 | 3 => 3 | 9 => 9 | 4 => 4 | 171 => 114 | 0 => 0 | 53 => 99 | 37 => 75 | 5 => 5 | 173 => 117 | 212 => 130 | 51 => 123 | 20 => 20 | 213 => 131 | 46 => 102 | 232 => 135 | 233 => 136 | n => n, fun | 17 => 5 | 18 => 6 | 19 => 7 | n => n⟩
theorem Tryd.laysM173 : Go.Proofs.LaysM.n173 Tryd.prog Tryd.laysM173_ren := {
  mixed := by kernel_rfl
  f129 := Tryd.func102.trans (congrArg some (by kernel_rfl))
  f173 := Tryd.func61.trans (congrArg some (by kernel_rfl))
  f246 := Tryd.func80.trans (congrArg some (by kernel_rfl))
  f283 := Tryd.func94.trans (congrArg some (by kernel_rfl))
  f284 := Tryd.func95.trans (congrArg some (by kernel_rfl))
  f285 := Tryd.func96.trans (congrArg some (by kernel_rfl))
  f286 := Tryd.func97.trans (congrArg some (by kernel_rfl))
  f317 := Tryd.func101.trans (congrArg some (by kernel_rfl))
  f318 := Tryd.func103.trans (congrArg some (by kernel_rfl))
  f319 := Tryd.func104.trans (congrArg some (by kernel_rfl))
  f320 := Tryd.func105.trans (congrArg some (by kernel_rfl))
  f337 := Tryd.func106.trans (congrArg some (by kernel_rfl))
  f338 := Tryd.func107.trans (congrArg some (by kernel_rfl))
  t0 := Tryd.underlying0
  a0 := Tryd.isAgg0
  z0 := Tryd.sizeOf0
  v0 := Tryd.zeroValue0
  t2 := Tryd.underlying2
  a2 := Tryd.isAgg2
  z2 := Tryd.sizeOf2
  v2 := Tryd.zeroValue2
  t3 := Tryd.underlying3
  a3 := Tryd.isAgg3
  z3 := Tryd.sizeOf3
  v3 := Tryd.zeroValue3
  t4 := Tryd.underlying4
  a4 := Tryd.isAgg4
  z4 := Tryd.sizeOf4
  v4 := Tryd.zeroValue4
  t5 := Tryd.underlying5
  a5 := Tryd.isAgg5
  z5 := Tryd.sizeOf5
  v5 := Tryd.zeroValue5
  t9 := Tryd.underlying9
  a9 := Tryd.isAgg9
  z9 := Tryd.sizeOf9
  v9 := Tryd.zeroValue9
  t20 := Tryd.underlying20
  a20 := Tryd.isAgg20
  z20 := Tryd.sizeOf20
  v20 := Tryd.zeroValue20
  t37 := Tryd.underlying75
  a37 := Tryd.isAgg75
  z37 := Tryd.sizeOf75
  v37 := Tryd.zeroValue75
  t46 := Tryd.underlying102
  a46 := Tryd.isAgg102
  z46 := Tryd.sizeOf102
  v46 := Tryd.zeroValue102
  t51 := Tryd.underlying123
  a51 := Tryd.isAgg123
  z51 := Tryd.sizeOf123
  v51 := Tryd.zeroValue123
  t53 := Tryd.underlying99
  a53 := Tryd.isAgg99
  z53 := Tryd.sizeOf99
  v53 := Tryd.zeroValue99
  t171 := Tryd.underlying114
  a171 := Tryd.isAgg114
  z171 := Tryd.sizeOf114
  v171 := Tryd.zeroValue114
  t173 := Tryd.underlying117
  a173 := Tryd.isAgg117
  z173 := Tryd.sizeOf117
  v173 := Tryd.zeroValue117
  t212 := Tryd.underlying130
  a212 := Tryd.isAgg130
  z212 := Tryd.sizeOf130
  v212 := Tryd.zeroValue130
  t213 := Tryd.underlying131
  a213 := Tryd.isAgg131
  z213 := Tryd.sizeOf131
  t232 := Tryd.underlying135
  a232 := Tryd.isAgg135
  z232 := Tryd.sizeOf135
  v232 := Tryd.zeroValue135
  t233 := Tryd.underlying136
  a233 := Tryd.isAgg136
  z233 := Tryd.sizeOf136
  v233 := Tryd.zeroValue136
  g17 := by kernel_rfl
  g18 := by kernel_rfl
  g19 := by kernel_rfl
  i0 := by kernel_rfl
  i2 := by kernel_rfl
  i3 := by kernel_rfl
  i4 := by kernel_rfl
  i5 := by kernel_rfl
  i9 := by kernel_rfl
  i20 := by kernel_rfl
  i37 := by kernel_rfl
  i46 := by kernel_rfl
  i51 := by kernel_rfl
  i53 := by kernel_rfl
  i171 := by kernel_rfl
  i173 := by kernel_rfl
  i212 := by kernel_rfl
  i232 := by kernel_rfl
  i233 := by kernel_rfl
  m17 := by kernel_rfl
  m18 := by kernel_rfl
  m19 := by kernel_rfl }
open Go.RowKit Go.Sort Go.Lib in
theorem Tryd.strconv_FormatInt_10 (n : Int) (h0 : -9223372036854775808 ≤ n) (h1 : n ≤ 9223372036854775807) (w : World) (htab : Lib.TabIs Tryd.prog w "internal/strconv.uint64pow10" .u64 Lib.pow10Tab) :
    Calls Tryd.prog 61 #[.int .i64 n, .int .i64 10] w fun e w' => e = .returned (.string ⟨(Lib.itoa n).toArray⟩) ∧ ∃ k os, w' = grow (w.drewN k) os := Any.strconv_FormatInt_10 Tryd.laysM173 n h0 h1 w htab
def Tryd.laysC174_ren : Go.Shelf.Ren := ⟨fun | 174 => 34 | 247 => 59 | 245 => 60 | 287 => 75 | 279 => 76 | 280 => 77 | 281 => 78 | 282 => 79 | 321 => 89 | 322 => 90 | 316 => 91 | 171 => 93 | 205 => 92 | 243 => 100 | 246 => 80 | 283 => 94 | 284 => 95 | 285 => 96 | 286 => 97 | 129 => 102 | 317 => 101 | 318 => 103 | 319 => 104 | 320 => 105 | 337 => 106 | 338 => 107 | n => n, fun | 9 => 9 | 3 => 3 | 2 => 2 | 75 => 59 | 85 => 60 | 4 => 4 | 167 => 98 | 5 => 5 | 53 => 99 | 175 => 100 | 46 => 102 | 168 => 103 | 37 => 75 | 0 => 0 | 210 => 112 | 21 => 21 | 127 => 93 | 145 => 128 | 143 => 126 | 171 => 114 | 173 => 117 | 212 => 130 | 51 => 123 | 20 => 20 | 213 => 131 | 232 => 135 | 233 => 136 | 80 => 80 | n => n, fun | 15 => 1 | 16 => 2 | 17 => 5 | 18 => 6 | 19 => 7 | n => n⟩
theorem Tryd.laysC174 : Go.Proofs.LaysC.n174 Tryd.prog Tryd.laysC174_ren := {
  mixed := by kernel_rfl
  f129 := Tryd.func102.trans (congrArg some (by kernel_rfl))
  f171 := Tryd.func93.trans (congrArg some (by kernel_rfl))
  f174 := Tryd.func34.trans (congrArg some (by kernel_rfl))
  f205 := Tryd.func92.trans (congrArg some (by kernel_rfl))
  f243 := Tryd.func100.trans (congrArg some (by kernel_rfl))
  f245 := Tryd.func60.trans (congrArg some (by kernel_rfl))
  f246 := Tryd.func80.trans (congrArg some (by kernel_rfl))
  f247 := Tryd.func59.trans (congrArg some (by kernel_rfl))
  f279 := Tryd.func76.trans (congrArg some (by kernel_rfl))
  f280 := Tryd.func77.trans (congrArg some (by kernel_rfl))
  f281 := Tryd.func78.trans (congrArg some (by kernel_rfl))
  f282 := Tryd.func79.trans (congrArg some (by kernel_rfl))
  f283 := Tryd.func94.trans (congrArg some (by kernel_rfl))
  f284 := Tryd.func95.trans (congrArg some (by kernel_rfl))
  f285 := Tryd.func96.trans (congrArg some (by kernel_rfl))
  f286 := Tryd.func97.trans (congrArg some (by kernel_rfl))
  f287 := Tryd.func75.trans (congrArg some (by kernel_rfl))
  f316 := Tryd.func91.trans (congrArg some (by kernel_rfl))
  f317 := Tryd.func101.trans (congrArg some (by kernel_rfl))
  f318 := Tryd.func103.trans (congrArg some (by kernel_rfl))
  f319 := Tryd.func104.trans (congrArg some (by kernel_rfl))
  f320 := Tryd.func105.trans (congrArg some (by kernel_rfl))
  f321 := Tryd.func89.trans (congrArg some (by kernel_rfl))
  f322 := Tryd.func90.trans (congrArg some (by kernel_rfl))
  f337 := Tryd.func106.trans (congrArg some (by kernel_rfl))
  f338 := Tryd.func107.trans (congrArg some (by kernel_rfl))
  t0 := Tryd.underlying0
  a0 := Tryd.isAgg0
  z0 := Tryd.sizeOf0
  v0 := Tryd.zeroValue0
  t2 := Tryd.underlying2
  a2 := Tryd.isAgg2
  z2 := Tryd.sizeOf2
  v2 := Tryd.zeroValue2
  t3 := Tryd.underlying3
  a3 := Tryd.isAgg3
  z3 := Tryd.sizeOf3
  v3 := Tryd.zeroValue3
  t4 := Tryd.underlying4
  a4 := Tryd.isAgg4
  z4 := Tryd.sizeOf4
  v4 := Tryd.zeroValue4
  t5 := Tryd.underlying5
  a5 := Tryd.isAgg5
  z5 := Tryd.sizeOf5
  v5 := Tryd.zeroValue5
  t9 := Tryd.underlying9
  a9 := Tryd.isAgg9
  z9 := Tryd.sizeOf9
  v9 := Tryd.zeroValue9
  t20 := Tryd.underlying20
  a20 := Tryd.isAgg20
  z20 := Tryd.sizeOf20
  v20 := Tryd.zeroValue20
  t21 := Tryd.underlying21
  a21 := Tryd.isAgg21
  z21 := Tryd.sizeOf21
  v21 := Tryd.zeroValue21
  t37 := Tryd.underlying75
  a37 := Tryd.isAgg75
  z37 := Tryd.sizeOf75
  v37 := Tryd.zeroValue75
  t46 := Tryd.underlying102
  a46 := Tryd.isAgg102
  z46 := Tryd.sizeOf102
  v46 := Tryd.zeroValue102
  t51 := Tryd.underlying123
  a51 := Tryd.isAgg123
  z51 := Tryd.sizeOf123
  v51 := Tryd.zeroValue123
  t53 := Tryd.underlying99
  a53 := Tryd.isAgg99
  z53 := Tryd.sizeOf99
  v53 := Tryd.zeroValue99
  t75 := Tryd.underlying59
  a75 := Tryd.isAgg59
  z75 := Tryd.sizeOf59
  v75 := Tryd.zeroValue59
  t85 := Tryd.underlying60
  a85 := Tryd.isAgg60
  z85 := Tryd.sizeOf60
  v85 := Tryd.zeroValue60
  t127 := Tryd.underlying93
  a127 := Tryd.isAgg93
  z127 := Tryd.sizeOf93
  v127 := Tryd.zeroValue93
  t143 := Tryd.underlying126
  a143 := Tryd.isAgg126
  z143 := Tryd.sizeOf126
  v143 := Tryd.zeroValue126
  t145 := Tryd.underlying128
  a145 := Tryd.isAgg128
  z145 := Tryd.sizeOf128
  v145 := Tryd.zeroValue128
  t167 := Tryd.underlying98
  a167 := Tryd.isAgg98
  z167 := Tryd.sizeOf98
  v167 := Tryd.zeroValue98
  t168 := Tryd.underlying103
  a168 := Tryd.isAgg103
  z168 := Tryd.sizeOf103
  v168 := Tryd.zeroValue103
  t171 := Tryd.underlying114
  a171 := Tryd.isAgg114
  z171 := Tryd.sizeOf114
  v171 := Tryd.zeroValue114
  t173 := Tryd.underlying117
  a173 := Tryd.isAgg117
  z173 := Tryd.sizeOf117
  v173 := Tryd.zeroValue117
  t175 := Tryd.underlying100
  a175 := Tryd.isAgg100
  z175 := Tryd.sizeOf100
  v175 := Tryd.zeroValue100
  t210 := Tryd.underlying112
  a210 := Tryd.isAgg112
  z210 := Tryd.sizeOf112
  v210 := Tryd.zeroValue112
  t212 := Tryd.underlying130
  a212 := Tryd.isAgg130
  z212 := Tryd.sizeOf130
  v212 := Tryd.zeroValue130
  t213 := Tryd.underlying131
  a213 := Tryd.isAgg131
  z213 := Tryd.sizeOf131
  t232 := Tryd.underlying135
  a232 := Tryd.isAgg135
  z232 := Tryd.sizeOf135
  v232 := Tryd.zeroValue135
  t233 := Tryd.underlying136
  a233 := Tryd.isAgg136
  z233 := Tryd.sizeOf136
  v233 := Tryd.zeroValue136
  g15 := by kernel_rfl
  g16 := by kernel_rfl
  g17 := by kernel_rfl
  g18 := by kernel_rfl
  g19 := by kernel_rfl
  t80 := Tryd.underlying80
  a80 := Tryd.isAgg80
  z80 := Tryd.sizeOf80
  v80 := Tryd.zeroValue80
  i0 := by kernel_rfl
  i2 := by kernel_rfl
  i3 := by kernel_rfl
  i4 := by kernel_rfl
  i5 := by kernel_rfl
  i9 := by kernel_rfl
  i20 := by kernel_rfl
  i21 := by kernel_rfl
  i37 := by kernel_rfl
  i46 := by kernel_rfl
  i51 := by kernel_rfl
  i53 := by kernel_rfl
  i75 := by kernel_rfl
  i80 := by kernel_rfl
  i85 := by kernel_rfl
  i127 := by kernel_rfl
  i143 := by kernel_rfl
  i145 := by kernel_rfl
  i167 := by kernel_rfl
  i168 := by kernel_rfl
  i171 := by kernel_rfl
  i173 := by kernel_rfl
  i175 := by kernel_rfl
  i210 := by kernel_rfl
  i212 := by kernel_rfl
  i232 := by kernel_rfl
  i233 := by kernel_rfl
  m15 := by kernel_rfl
  m16 := by kernel_rfl
  m17 := by kernel_rfl
  m18 := by kernel_rfl
  m19 := by kernel_rfl
  c0 := by kernel_rfl
  c2 := by kernel_rfl
  c3 := by kernel_rfl
  c4 := by kernel_rfl
  c5 := by kernel_rfl
  c9 := by kernel_rfl
  c20 := by kernel_rfl
  c21 := by kernel_rfl
  c37 := by kernel_rfl
  c46 := by kernel_rfl
  c51 := by kernel_rfl
  c53 := by kernel_rfl
  c75 := by kernel_rfl
  c80 := by kernel_rfl
  c85 := by kernel_rfl
  c127 := by kernel_rfl
  c143 := by kernel_rfl
  c145 := by kernel_rfl
  c167 := by kernel_rfl
  c168 := by kernel_rfl
  c171 := by kernel_rfl
  c173 := by kernel_rfl
  c175 := by kernel_rfl
  c210 := by kernel_rfl
  c212 := by kernel_rfl
  c213 := by kernel_rfl
  c232 := by kernel_rfl
  c233 := by kernel_rfl }
open Go.RowKit in
theorem Tryd.strconv_ParseInt_10_at64_ok (s : ByteArray) (hmax : s.size ≤ 9223372036854775806) (v : Int) (h : Lib.parseIntB 64 s.data.toList = .ok v) (w : World) :
    Calls Tryd.prog 34 #[.string s, .int .i64 10, .int .i64 64] w fun e w' => e = .returned (.tuple #[.int .i64 v, .nilIface]) ∧ (w' = w ∨ ∃ t, w' = Lib.bytesWorld w 5 t) := Any.strconv_ParseInt_10_at64_ok Tryd.laysC174 s hmax v h w
open Go.RowKit in
theorem Tryd.strconv_ParseInt_10_at64_bad (s : ByteArray) (hlim : s.size ≤ 281474976710656) (x : Lib.NumEnd Int) (hx1 : ∀ v, x ≠ .ok v) (hx2 : x ≠ .range) (h : Lib.parseIntB 64 s.data.toList = x) (ev : Value) (w : World) (hv : w.cell? ⟨1, 0, none⟩ = some ev) (hev : ev = .nilIface ∨ ∃ te pe, ev = .iface te pe) :
    Calls Tryd.prog 34 #[.string s, .int .i64 10, .int .i64 64] w fun e w' => ∃ N, e = .returned (.tuple #[.int .i64 (0), .iface 103 (.pointer (some ⟨N, 0, none⟩))]) ∧ w.heap.size ≤ N ∧ w'.heap[N]? = some (.cells #[.string ⟨#[80, 97, 114, 115, 101, 73, 110, 116]⟩, .string s, ev] 112 (0, 0)) ∧ Below w.heap.size w w' := by
  cases x with
  | ok v => exact absurd rfl (hx1 v)
  | range => exact absurd rfl hx2
  | _ => exact Any.strconv_ParseInt_10_at64_syntax Tryd.laysC174 s hlim h ev w hv hev
open Go.RowKit in
theorem Tryd.strconv_ParseInt_10_at64_range (s : ByteArray) (hlim : s.size ≤ 281474976710656) (h : Lib.parseIntB 64 s.data.toList = .range) (ev : Value) (w : World) (hv : w.cell? ⟨2, 0, none⟩ = some ev) (hev : ev = .nilIface ∨ ∃ te pe, ev = .iface te pe) :
    Calls Tryd.prog 34 #[.string s, .int .i64 10, .int .i64 64] w fun e w' => ∃ N, e = .returned (.tuple #[.int .i64 (Lib.intSat 64 s.data.toList), .iface 103 (.pointer (some ⟨N, 0, none⟩))]) ∧ w.heap.size ≤ N ∧ w'.heap[N]? = some (.cells #[.string ⟨#[80, 97, 114, 115, 101, 73, 110, 116]⟩, .string s, ev] 112 (0, 0)) ∧ Below w.heap.size w w' := Any.strconv_ParseInt_10_at64_range Tryd.laysC174 s hlim h ev w hv hev
open Go.RowKit in
def Tryd.lays100_ren : Go.Shelf.Ren := ⟨fun | 100 => 40 | 207 => 65 | n => n, fun | 9 => 9 | 4 => 4 | 3 => 3 | n => n, fun | n => n⟩
theorem Tryd.lays100 : Go.Proofs.Lays.n100 Tryd.prog Tryd.lays100_ren := {
  mixed := by kernel_rfl
  f100 := Tryd.func40.trans (congrArg some (by kernel_rfl))
  f207 := Tryd.func65.trans (congrArg some (by kernel_rfl))
  t3 := Tryd.underlying3
  a3 := Tryd.isAgg3
  z3 := Tryd.sizeOf3
  v3 := Tryd.zeroValue3
  t4 := Tryd.underlying4
  a4 := Tryd.isAgg4
  z4 := Tryd.sizeOf4
  v4 := Tryd.zeroValue4
  t9 := Tryd.underlying9
  a9 := Tryd.isAgg9
  z9 := Tryd.sizeOf9
  v9 := Tryd.zeroValue9 }
open Go.RowKit Go.Lib in
theorem Tryd.strings_HasSuffix (s p : ByteArray) (w : World) (hs : s.size ≤ 9223372036854775807) :
    Calls Tryd.prog 40 #[.string s, .string p] w fun e w' => e = .returned (.bool (Lib.hasSuffix s.data.toList p.data.toList)) ∧ w' = w := Any.strings_HasSuffix Tryd.lays100 s p w hs
def Tryd.lays101_ren : Go.Shelf.Ren := ⟨fun | 101 => 33 | 208 => 58 | 206 => 74 | n => n, fun | 9 => 9 | 4 => 4 | 3 => 3 | n => n, fun | n => n⟩
theorem Tryd.lays101 : Go.Proofs.Lays.n101 Tryd.prog Tryd.lays101_ren := {
  mixed := by kernel_rfl
  f101 := Tryd.func33.trans (congrArg some (by kernel_rfl))
  f206 := Tryd.func74.trans (congrArg some (by kernel_rfl))
  f208 := Tryd.func58.trans (congrArg some (by kernel_rfl))
  t3 := Tryd.underlying3
  a3 := Tryd.isAgg3
  z3 := Tryd.sizeOf3
  v3 := Tryd.zeroValue3
  t4 := Tryd.underlying4
  a4 := Tryd.isAgg4
  z4 := Tryd.sizeOf4
  v4 := Tryd.zeroValue4
  t9 := Tryd.underlying9
  a9 := Tryd.isAgg9
  z9 := Tryd.sizeOf9
  v9 := Tryd.zeroValue9 }
open Go.RowKit Go.Lib in
theorem Tryd.strings_TrimPrefix (s p : ByteArray) (w : World) :
    Calls Tryd.prog 33 #[.string s, .string p] w fun e w' => e = .returned (.string ⟨(Lib.trimPrefix s.data.toList p.data.toList).toArray⟩) ∧ w' = w := Any.strings_TrimPrefix Tryd.lays101 s p w
def Tryd.lays102_ren : Go.Shelf.Ren := ⟨fun | 102 => 41 | 209 => 66 | 207 => 65 | n => n, fun | 9 => 9 | 4 => 4 | 3 => 3 | n => n, fun | n => n⟩
theorem Tryd.lays102 : Go.Proofs.Lays.n102 Tryd.prog Tryd.lays102_ren := {
  mixed := by kernel_rfl
  f102 := Tryd.func41.trans (congrArg some (by kernel_rfl))
  f207 := Tryd.func65.trans (congrArg some (by kernel_rfl))
  f209 := Tryd.func66.trans (congrArg some (by kernel_rfl))
  t3 := Tryd.underlying3
  a3 := Tryd.isAgg3
  z3 := Tryd.sizeOf3
  v3 := Tryd.zeroValue3
  t4 := Tryd.underlying4
  a4 := Tryd.isAgg4
  z4 := Tryd.sizeOf4
  v4 := Tryd.zeroValue4
  t9 := Tryd.underlying9
  a9 := Tryd.isAgg9
  z9 := Tryd.sizeOf9
  v9 := Tryd.zeroValue9 }
open Go.RowKit Go.Lib in
theorem Tryd.strings_TrimSuffix (s p : ByteArray) (w : World) (hs : s.size ≤ 9223372036854775807) :
    Calls Tryd.prog 41 #[.string s, .string p] w fun e w' => e = .returned (.string ⟨(Lib.trimSuffix s.data.toList p.data.toList).toArray⟩) ∧ w' = w := Any.strings_TrimSuffix Tryd.lays102 s p w hs
open Go.RowKit Go.Lib in
def Tryd.lays146_ren : Go.Shelf.Ren := ⟨fun | 146 => 14 | 221 => 32 | 268 => 55 | 138 => 56 | 143 => 57 | 195 => 70 | 197 => 71 | 218 => 72 | 219 => 73 | 260 => 84 | 217 => 85 | 225 => 86 | 224 => 87 | 267 => 88 | 266 => 98 | 314 => 99 | n => n, fun | 9 => 9 | 31 => 36 | 3 => 3 | 4 => 4 | 0 => 0 | 105 => 95 | 21 => 21 | 5 => 5 | 46 => 102 | 119 => 119 | 139 => 122 | 138 => 121 | 146 => 124 | 51 => 123 | n => n, fun | 1 => 0 | 3 => 3 | 4 => 4 | n => n⟩
theorem Tryd.lays146 : Go.Proofs.Lays.n146 Tryd.prog Tryd.lays146_ren := {
  mixed := by kernel_rfl
  f138 := Tryd.func56.trans (congrArg some (by kernel_rfl))
  f143 := Tryd.func57.trans (congrArg some (by kernel_rfl))
  f146 := Tryd.func14.trans (congrArg some (by kernel_rfl))
  f195 := Tryd.func70.trans (congrArg some (by kernel_rfl))
  f197 := Tryd.func71.trans (congrArg some (by kernel_rfl))
  f217 := Tryd.func85.trans (congrArg some (by kernel_rfl))
  f218 := Tryd.func72.trans (congrArg some (by kernel_rfl))
  f219 := Tryd.func73.trans (congrArg some (by kernel_rfl))
  f221 := Tryd.func32.trans (congrArg some (by kernel_rfl))
  f224 := Tryd.func87.trans (congrArg some (by kernel_rfl))
  f225 := Tryd.func86.trans (congrArg some (by kernel_rfl))
  f260 := Tryd.func84.trans (congrArg some (by kernel_rfl))
  f266 := Tryd.func98.trans (congrArg some (by kernel_rfl))
  f267 := Tryd.func88.trans (congrArg some (by kernel_rfl))
  f268 := Tryd.func55.trans (congrArg some (by kernel_rfl))
  f314 := Tryd.func99.trans (congrArg some (by kernel_rfl))
  t0 := Tryd.underlying0
  a0 := Tryd.isAgg0
  z0 := Tryd.sizeOf0
  v0 := Tryd.zeroValue0
  t3 := Tryd.underlying3
  a3 := Tryd.isAgg3
  z3 := Tryd.sizeOf3
  v3 := Tryd.zeroValue3
  t4 := Tryd.underlying4
  a4 := Tryd.isAgg4
  z4 := Tryd.sizeOf4
  v4 := Tryd.zeroValue4
  t5 := Tryd.underlying5
  a5 := Tryd.isAgg5
  z5 := Tryd.sizeOf5
  v5 := Tryd.zeroValue5
  t9 := Tryd.underlying9
  a9 := Tryd.isAgg9
  z9 := Tryd.sizeOf9
  v9 := Tryd.zeroValue9
  t21 := Tryd.underlying21
  a21 := Tryd.isAgg21
  z21 := Tryd.sizeOf21
  v21 := Tryd.zeroValue21
  t31 := Tryd.underlying36
  a31 := Tryd.isAgg36
  z31 := Tryd.sizeOf36
  v31 := Tryd.zeroValue36
  t46 := Tryd.underlying102
  a46 := Tryd.isAgg102
  z46 := Tryd.sizeOf102
  v46 := Tryd.zeroValue102
  t51 := Tryd.underlying123
  a51 := Tryd.isAgg123
  z51 := Tryd.sizeOf123
  v51 := Tryd.zeroValue123
  t105 := Tryd.underlying95
  a105 := Tryd.isAgg95
  z105 := Tryd.sizeOf95
  v105 := Tryd.zeroValue95
  t119 := Tryd.underlying119
  a119 := Tryd.isAgg119
  z119 := Tryd.sizeOf119
  t138 := Tryd.underlying121
  a138 := Tryd.isAgg121
  z138 := Tryd.sizeOf121
  v138 := Tryd.zeroValue121
  t139 := Tryd.underlying122
  a139 := Tryd.isAgg122
  z139 := Tryd.sizeOf122
  v139 := Tryd.zeroValue122
  t146 := Tryd.underlying124
  a146 := Tryd.isAgg124
  z146 := Tryd.sizeOf124
  v146 := Tryd.zeroValue124
  g1 := by kernel_rfl
  g3 := by kernel_rfl
  g4 := by kernel_rfl }
open Go.RowKit Go.Lib in
theorem Tryd.strings_Split (s sep : ByteArray) (m : Int) (w : World) (hs : s.size < 4294967281) (hm : w.cell? ⟨0, 0, none⟩ = some (.int .i64 m)) (h1 : 1 ≤ sep.size) :
    Calls Tryd.prog 14 #[.string s, .string sep] w fun e w' =>
      e = .returned (.slice (some ⟨w.heap.size, 0, none⟩) (Lib.countB s sep + 1) (Lib.countB s sep + 1)) ∧ w' = w.alloc (.cells ((Lib.splitB sep 0 (Lib.countB s sep) s).map Value.string).toArray 9) := Any.strings_Split Tryd.lays146 (by kernel_rfl) s sep m w hs hm h1
end Go.Proofs

namespace Go.Proofs.YtpohhnihgegmfaaDoor
open Go.RowKit
set_option linter.unusedVariables false
set_option linter.unusedSimpArgs false

/-- the library's table of powers reads as it was laid, whatever is made new -/
def Tab (w : World) : Prop := Lib.TabBelow Tryd.prog w.heap.size w "internal/strconv.uint64pow10" .u64 Lib.pow10Tab
theorem Tab.ext {w w' : World} (h : Tab w) (x : Ext w w') : Tab w' := fun w'' x' => h w'' (Ext.trans x x')
theorem decimal_c (n : Int) (w : World) (h0 : -9223372036854775808 ≤ n) (h1 : n ≤ 9223372036854775807) (ht : Tab w) :
    Calls Tryd.prog 35 #[.int .i64 n] w fun e w' => e = .returned (tx (Lib.itoa n)) ∧ Ext w w' := by
  go_enter Tryd.func35, Tryd.ntmps35
  go_wp2_with fail
  refine (Tryd.strconv_FormatInt_10 n h0 h1 w (ht w (Ext.refl w))).mono ?_
  rintro e w' ⟨rfl, k, os, rfl⟩
  go_wp2_with fail
  go_ret
  exact ⟨rfl, Lib.below_grow _ w (Nat.le_refl _) k os⟩
end Go.Proofs.YtpohhnihgegmfaaDoor

namespace Go.Proofs.YtpohhnihgegmfaaDoor
open Go.RowKit
set_option linter.unusedVariables false
set_option linter.unusedSimpArgs false

theorem itoa_len (n : Int) (h0 : -9223372036854775808 ≤ n) (h1 : n ≤ 9223372036854775807) : (Lib.itoa n).length ≤ 20 := by
  by_cases h : n = 0
  · rw [h, itoa_zero]; decide
  · by_cases hn : n < 0
    · obtain ⟨u, hu⟩ : ∃ u : Nat, n = -(u : Int) := ⟨n.natAbs, by omega⟩
      rw [hu, itoa_neg (by omega)]
      have := digs_len 19 u (by omega)
      simp; omega
    · obtain ⟨u, hu⟩ : ∃ u : Nat, n = (u : Int) := ⟨n.natAbs, by omega⟩
      rw [hu, itoa_pos (by omega)]
      have := digs_len 19 u (by omega)
      omega
/-- numbers with a blank between -/
def txt (f : Nat → Int) : Nat → List UInt8
  | 0 => []
  | j + 1 => (if j = 0 then [] else txt f j ++ [32]) ++ Lib.itoa (f j)
theorem txt_len {f : Nat → Int} {n : Nat} (h : ∀ j, j < n → -9223372036854775808 ≤ f j ∧ f j ≤ 9223372036854775807) : (txt f n).length ≤ 21 * n := by
  induction n with
  | zero => simp [txt]
  | succ n ih =>
    have h1 := ih (fun j hj => h j (by omega))
    have h2 := itoa_len (f n) (h n (by omega)).1 (h n (by omega)).2
    rw [txt]
    split
    · simp; omega
    · simp; omega
theorem txt_app (f : Nat → Int) {j : Nat} (h : 0 < j) : txt f (j + 1) = txt f j ++ [32] ++ Lib.itoa (f j) := by rw [txt, if_neg (by omega)]
theorem txt_one (f : Nat → Int) : txt f 1 = Lib.itoa (f 0) := by rw [txt, if_pos rfl]; rfl
theorem s1_four {w : World} {g : Nat} {T : TypeId} {a b c d : Int} (h : Blk w g T #[.int .i64 a, .int .i64 b, .int .i64 c, .int .i64 d]) (z : Nat → Int) (z0 : z 0 = a) (z1 : z 1 = b) (z2 : z 2 = c) (z3 : z 3 = d) : S1 w (some ⟨g, 0, none⟩) 4 z := fun _ =>
  ⟨g, 0, rfl, h.lt, fun j hj => by
    rw [Nat.zero_add, h.cell]
    (obtain rfl | rfl | rfl | rfl : j = 0 ∨ j = 1 ∨ j = 2 ∨ j = 3 := by omega) <;> simp [z0, z1, z2, z3]⟩
theorem two_new' (w : World) (T U : TypeId) (c1 c2 : Array Value) : Blk ((w.alloc (.cells c1 T)).alloc (.cells c2 U)) (w.heap.size + 1) U c2 := by
  have := Blk.new (w.alloc (.cells c1 T)) c2 U
  rwa [World.size_alloc] at this
/-- a fault's text -/
def ft (a b c d : Int) : List UInt8 := Lib.itoa a ++ [32] ++ Lib.itoa b ++ [32] ++ Lib.itoa c ++ [32] ++ Lib.itoa d
structure B64 (n : Int) : Prop where
  lo : -9223372036854775808 ≤ n
  hi : n ≤ 9223372036854775807
end Go.Proofs.YtpohhnihgegmfaaDoor

namespace Go.Proofs.YtpohhnihgegmfaaDoor
set_option linter.unusedVariables false

/-- n lies from l to h -/
def inB (n l h : Int) : Bool := decide (l ≤ n) && decide (n ≤ h)
theorem inB_t {n l h : Int} : inB n l h = true ↔ l ≤ n ∧ n ≤ h := by simp [inB]
theorem inB_f {n l h : Int} : inB n l h = false ↔ ¬ (l ≤ n ∧ n ≤ h) := by rw [← inB_t]; simp

/-- the greatest common divisor -/
def gcdI (a b : Int) : Int := (Int.gcd a b : Nat)
theorem gcdI_step {a b : Int} (ha : 0 ≤ a) (hb : 0 < b) : gcdI b (a.tmod b) = gcdI a b := by
  obtain ⟨m, rfl⟩ := Int.eq_ofNat_of_zero_le ha
  obtain ⟨n, rfl⟩ := Int.eq_ofNat_of_zero_le (Int.le_of_lt hb)
  have h1 : (m : Int).tmod n = ((m % n : Nat) : Int) := by rw [Int.tmod_eq_emod_of_nonneg (by omega)]; rfl
  rw [h1]
  simp only [gcdI, Int.gcd, Int.natAbs_natCast]
  rw [Nat.gcd_comm n (m % n), ← Nat.gcd_rec, Nat.gcd_comm]
theorem gcdI_zero {a : Int} (ha : 0 ≤ a) : gcdI a 0 = a := by
  simp only [gcdI, Int.gcd, Int.natAbs_zero, Nat.gcd_zero_right]; omega
theorem gcdI_bd {a b : Int} (ha : 1 ≤ a) (hb : 1 ≤ b) : 1 ≤ gcdI a b ∧ gcdI a b ≤ b ∧ gcdI a b ≤ a := by
  have h1 : 0 < Int.gcd a b := Int.gcd_pos_of_ne_zero_left _ (by omega)
  have h2 : (Int.gcd a b : Int) ≤ b := Int.le_of_dvd (by omega) (Int.gcd_dvd_right ..)
  have h3 : (Int.gcd a b : Int) ≤ a := Int.le_of_dvd (by omega) (Int.gcd_dvd_left ..)
  exact ⟨by unfold gcdI; omega, h2, h3⟩
theorem gcdI_dl {a b : Int} : gcdI a b ∣ a := Int.gcd_dvd_left ..
theorem gcdI_dr {a b : Int} : gcdI a b ∣ b := Int.gcd_dvd_right ..

/-- the years of the cycle of the first k rules; more than 2000 if there are more -/
def cyY (ev : Nat → Int) : Nat → Int
  | 0 => 1
  | k + 1 => if cyY ev k ≤ 2000 then cyY ev k / gcdI (cyY ev k) (ev k) * ev k else cyY ev k
theorem cyY_bd {ev : Nat → Int} {k : Nat} (he : ∀ j, j < k → 1 ≤ ev j ∧ ev j ≤ 1000) : 1 ≤ cyY ev k ∧ cyY ev k ≤ 2000000 := by
  induction k with
  | zero => simp [cyY]
  | succ k ih =>
    have h1 := ih fun j hj => he j (by omega)
    have h2 := he k (by omega)
    simp only [cyY]
    split
    · have h3 := gcdI_bd h1.1 h2.1
      have h4 : 1 ≤ cyY ev k / gcdI (cyY ev k) (ev k) := by
        apply Int.le_ediv_of_mul_le (by omega); omega
      have h5 : cyY ev k / gcdI (cyY ev k) (ev k) ≤ 2000 := by
        have := Int.ediv_le_self (gcdI (cyY ev k) (ev k)) (show 0 ≤ cyY ev k by omega); omega
      have h6 := Int.mul_le_mul h5 h2.2 (by omega) (by omega)
      have h7 := Int.mul_le_mul h4 h2.1 (by omega) (by omega)
      omega
    · exact h1
/-- the step, as both programs reckon it -/
structure CyS (ev : Nat → Int) (k : Nat) : Prop where
  y0 : 1 ≤ cyY ev k
  y1 : cyY ev k ≤ 2000000
  g0 : 1 ≤ gcdI (cyY ev k) (ev k)
  q0 : 0 ≤ cyY ev k / gcdI (cyY ev k) (ev k)
  q1 : cyY ev k ≤ 2000 → cyY ev k / gcdI (cyY ev k) (ev k) ≤ 2000
  p0 : 0 ≤ cyY ev k / gcdI (cyY ev k) (ev k) * ev k
  p1 : cyY ev k ≤ 2000 → cyY ev k / gcdI (cyY ev k) (ev k) * ev k ≤ 2000000
theorem cyS {ev : Nat → Int} {k : Nat} (he : ∀ j, j < k + 1 → 1 ≤ ev j ∧ ev j ≤ 1000) : CyS ev k := by
  have h1 := cyY_bd (ev := ev) (k := k) fun j hj => he j (by omega)
  have h2 := he k (by omega)
  have h3 := gcdI_bd h1.1 h2.1
  have h4 : 0 ≤ cyY ev k / gcdI (cyY ev k) (ev k) := Int.ediv_nonneg (by omega) (by omega)
  have h5 := Int.ediv_le_self (gcdI (cyY ev k) (ev k)) (show 0 ≤ cyY ev k by omega)
  refine ⟨h1.1, h1.2, h3.1, h4, fun h => by omega, Int.mul_nonneg h4 (by omega), fun h => ?_⟩
  have := Int.mul_le_mul (show cyY ev k / gcdI (cyY ev k) (ev k) ≤ 2000 by omega) h2.2 (by omega) (by omega)
  omega
/-- behind more than 2000 years nothing changes -/
theorem cyY_stuck {ev : Nat → Int} {k : Nat} (h : 2000 < cyY ev k) (n : Nat) (hn : k ≤ n) : 2000 < cyY ev n := by
  induction n with
  | zero => have : k = 0 := by omega
            subst this; exact h
  | succ n ih =>
    by_cases e : k = n + 1
    · subst e; exact h
    · have := ih (by omega)
      simp only [cyY]; rw [if_neg (by omega)]; exact this
theorem cyY_dvd {ev : Nat → Int} {n : Nat} (h : cyY ev n ≤ 2000) {k : Nat} (hk : k < n) : ev k ∣ cyY ev n := by
  induction n with
  | zero => omega
  | succ n ih =>
    have h1 : cyY ev n ≤ 2000 := by
      rcases Int.lt_or_le 2000 (cyY ev n) with h2 | h2
      · have := cyY_stuck h2 (n + 1) (by omega); omega
      · exact h2
    have h3 : cyY ev (n + 1) = cyY ev n / gcdI (cyY ev n) (ev n) * ev n := by simp only [cyY]; rw [if_pos h1]
    by_cases e : k = n
    · subst e; rw [h3]; exact Int.dvd_mul_left _ _
    · have h4 := ih h1 (by omega)
      refine Int.dvd_trans h4 ?_
      rw [h3]
      obtain ⟨c, hc⟩ := gcdI_dr (a := cyY ev n) (b := ev n)
      have h5 : cyY ev n / gcdI (cyY ev n) (ev n) * gcdI (cyY ev n) (ev n) = cyY ev n := Int.ediv_mul_cancel gcdI_dl
      refine ⟨c, ?_⟩
      calc cyY ev n / gcdI (cyY ev n) (ev n) * ev n = cyY ev n / gcdI (cyY ev n) (ev n) * (gcdI (cyY ev n) (ev n) * c) := by rw [← hc]
        _ = cyY ev n / gcdI (cyY ev n) (ev n) * gcdI (cyY ev n) (ev n) * c := by rw [Int.mul_assoc]
        _ = cyY ev n * c := by rw [h5]
/-- all of the first k rules are valid -/
def rulTo (ev rs : Nat → Int) : Nat → Bool
  | 0 => true
  | k + 1 => rulTo ev rs k && (inB (ev k) 1 1000 && inB (rs k) 0 (ev k - 1))
theorem rulTo_at {ev rs : Nat → Int} {n k : Nat} (h : rulTo ev rs n = true) (hk : k < n) : (1 ≤ ev k ∧ ev k ≤ 1000) ∧ 0 ≤ rs k ∧ rs k ≤ ev k - 1 := by
  induction n with
  | zero => omega
  | succ n ih =>
    simp only [rulTo, Bool.and_eq_true, inB_t] at h
    by_cases e : k = n
    · subst e; exact h.2
    · exact ih h.1 (by omega)
theorem rulTo_ff {ev rs : Nat → Int} {n k : Nat} (hk : k < n) (hb : (inB (ev k) 1 1000 && inB (rs k) 0 (ev k - 1)) = false) : rulTo ev rs n = false := by
  induction n with
  | zero => omega
  | succ n ih =>
    by_cases e : k = n
    · subst e; simp only [rulTo, hb, Bool.and_false]
    · simp only [rulTo, ih (by omega), Bool.false_and]
theorem rulTo_le {ev rs : Nat → Int} {n k : Nat} (h : rulTo ev rs n = true) (hk : k ≤ n) : rulTo ev rs k = true := by
  induction n with
  | zero => have : k = 0 := by omega
            subst this; exact h
  | succ n ih =>
    by_cases e : k = n + 1
    · subst e; exact h
    · simp only [rulTo, Bool.and_eq_true] at h
      exact ih h.1 (by omega)
/-- a leap year, by the first k rules -/
def lpTo (ev rs : Nat → Int) (lf : Nat → Bool) (y : Int) : Nat → Bool
  | 0 => false
  | k + 1 => if y % ev k = rs k then lf k else lpTo ev rs lf y k
theorem lpTo_add {ev rs : Nat → Int} {lf : Nat → Bool} {n : Nat} {c : Int} (hd : ∀ k, k < n → ev k ∣ c) (y : Int) : lpTo ev rs lf (y + c) n = lpTo ev rs lf y n := by
  induction n with
  | zero => rfl
  | succ n ih =>
    have h1 := hd n (by omega)
    have h2 : (y + c) % ev n = y % ev n := by
      obtain ⟨d, rfl⟩ := h1
      exact Int.add_mul_emod_self_left y (ev n) d
    simp only [lpTo, h2]
    rw [ih fun k hk => hd k (by omega)]
end Go.Proofs.YtpohhnihgegmfaaDoor

namespace Go.Proofs.YtpohhnihgegmfaaDoor
set_option linter.unusedVariables false

/-- a sum -/
def sm (f : Nat → Int) : Nat → Int
  | 0 => 0
  | k + 1 => sm f k + f k
theorem sm_bd {f : Nat → Int} {A B : Int} {k : Nat} (hf : ∀ j, j < k → A ≤ f j ∧ f j ≤ B) : A * k ≤ sm f k ∧ sm f k ≤ B * k := by
  induction k with
  | zero => simp [sm]
  | succ k ih =>
    have h1 := ih (fun j hj => hf j (by omega))
    have h2 := hf k (by omega)
    have h3 : A * ((k + 1 : Nat) : Int) = A * k + A := by rw [Int.natCast_add, Int.mul_add]; simp
    have h4 : B * ((k + 1 : Nat) : Int) = B * k + B := by rw [Int.natCast_add, Int.mul_add]; simp
    simp only [sm]
    omega
theorem sm_add (f : Nat → Int) (m k : Nat) : sm f (m + k) = sm f m + sm (fun i => f (m + i)) k := by
  induction k with
  | zero => simp [sm]
  | succ k ih =>
    rw [← Nat.add_assoc]
    simp only [sm, ih]; omega
theorem sm_congr {f g : Nat → Int} {k : Nat} (h : ∀ j, j < k → f j = g j) : sm f k = sm g k := by
  induction k with
  | zero => rfl
  | succ k ih => simp only [sm, ih fun j hj => h j (by omega), h k (by omega)]
theorem sm_mono {f : Nat → Int} {i k : Nat} (hk : i ≤ k) (hf : ∀ j, j < k → 0 ≤ f j) : sm f i ≤ sm f k := by
  induction k with
  | zero => have : i = 0 := by omega
            subst this; exact Int.le_refl _
  | succ k ih =>
    by_cases e : i = k + 1
    · subst e; exact Int.le_refl _
    · have := ih (by omega) fun j hj => hf j (by omega)
      have := hf k (by omega)
      simp only [sm]; omega
theorem sm_lt {f : Nat → Int} {i k : Nat} (hk : i < k) (hf : ∀ j, j < k → 1 ≤ f j) : sm f i < sm f k := by
  have h1 := sm_mono (f := f) (i := i + 1) (k := k) hk fun j hj => by have := hf j hj; omega
  have h2 := hf i hk
  simp only [sm] at h1; omega
/-- a place is told by its sum -/
theorem sm_place {f : Nat → Int} {i j n : Nat} {x : Int} (hf : ∀ k, k < n → 1 ≤ f k) (hi : i < n) (hj : j < n) (h1 : sm f i ≤ x) (h2 : x < sm f (i + 1)) (h3 : sm f j ≤ x) (h4 : x < sm f (j + 1)) : i = j := by
  rcases Nat.lt_trichotomy i j with h | h | h
  · have := sm_mono (f := f) (i := i + 1) (k := j) h fun k hk => by have := hf k (by omega); omega
    omega
  · exact h
  · have := sm_mono (f := f) (i := j + 1) (k := i) h fun k hk => by have := hf k (by omega); omega
    omega
/-- a calendar: rules and months, as numbers -/
structure CalN where
  nr : Nat
  ev : Nat → Int
  rs : Nat → Int
  lf : Nat → Bool
  n : Nat
  dy : Nat → Int
  lp : Nat → Int
/-- what a valid one bounds -/
structure CalB (c : CalN) : Prop where
  nr6 : c.nr ≤ 6
  n1 : 1 ≤ c.n
  n20 : c.n ≤ 20
  ev : ∀ j, j < c.nr → 1 ≤ c.ev j ∧ c.ev j ≤ 1000
  rs : ∀ j, j < c.nr → 0 ≤ c.rs j ∧ c.rs j ≤ c.ev j - 1
  dy : ∀ j, j < c.n → 1 ≤ c.dy j ∧ c.dy j ≤ 60
  lp : ∀ j, j < c.n → 1 ≤ c.lp j ∧ c.lp j ≤ 60
  cy : cyY c.ev c.nr ≤ 2000
/-- a leap year -/
def CalN.leap (c : CalN) (y : Int) : Bool := lpTo c.ev c.rs c.lf y c.nr
/-- the days of month j (from 0 on) of year y -/
def CalN.mo (c : CalN) (y : Int) (j : Nat) : Int := if c.leap y then c.lp j else c.dy j
/-- the days of a year -/
def CalN.yl (c : CalN) (y : Int) : Int := sm (c.mo y) c.n
/-- the days of the years before year k -/
def CalN.bef (c : CalN) (k : Nat) : Int := sm (fun i => c.yl (i : Int)) k
/-- the years of the cycle -/
def CalN.cyc (c : CalN) : Int := cyY c.ev c.nr
theorem CalB.cyc1 {c : CalN} (b : CalB c) : 1 ≤ c.cyc ∧ c.cyc ≤ 2000 := ⟨(cyY_bd b.ev).1, b.cy⟩
theorem CalB.mo {c : CalN} (b : CalB c) (y : Int) {j : Nat} (hj : j < c.n) : 1 ≤ c.mo y j ∧ c.mo y j ≤ 60 := by
  unfold CalN.mo; split
  · exact b.lp j hj
  · exact b.dy j hj
theorem CalB.yl {c : CalN} (b : CalB c) (y : Int) : 1 ≤ c.yl y ∧ c.yl y ≤ 1200 := by
  have h1 := sm_bd (f := c.mo y) (A := 1) (B := 60) (k := c.n) fun j hj => b.mo y hj
  have := b.n1; have := b.n20
  unfold CalN.yl; omega
theorem CalB.bef {c : CalN} (b : CalB c) (k : Nat) : (k : Int) ≤ c.bef k ∧ c.bef k ≤ 1200 * k := by
  have h1 := sm_bd (f := fun i => c.yl (i : Int)) (A := 1) (B := 1200) (k := k) fun j _ => b.yl _
  unfold CalN.bef; omega
theorem CalB.leap_add {c : CalN} (b : CalB c) (y : Int) : c.leap (y + c.cyc) = c.leap y :=
  lpTo_add (fun k hk => cyY_dvd b.cy hk) y
theorem CalB.yl_add {c : CalN} (b : CalB c) (y : Int) : c.yl (y + c.cyc) = c.yl y := by
  have h : c.mo (y + c.cyc) = c.mo y := by funext j; unfold CalN.mo; rw [b.leap_add]
  unfold CalN.yl; rw [h]
theorem CalB.leap_mul {c : CalN} (b : CalB c) (y : Int) (q : Nat) : c.leap (y + q * c.cyc) = c.leap y := by
  induction q with
  | zero => simp
  | succ q ih =>
    have h1 : y + ((q + 1 : Nat) : Int) * c.cyc = (y + q * c.cyc) + c.cyc := by rw [Int.natCast_add, Int.add_mul]; simp; omega
    rw [h1, b.leap_add, ih]
theorem CalB.yl_mul {c : CalN} (b : CalB c) (y : Int) (q : Nat) : c.yl (y + q * c.cyc) = c.yl y := by
  have h : c.mo (y + q * c.cyc) = c.mo y := by funext j; unfold CalN.mo; rw [b.leap_mul]
  unfold CalN.yl; rw [h]
/-- the years of the cycle, as a natural number -/
theorem CalB.cycN {c : CalN} (b : CalB c) : ∃ C : Nat, c.cyc = C ∧ 1 ≤ C ∧ C ≤ 2000 := by
  have h := b.cyc1
  exact ⟨c.cyc.toNat, by omega, by omega, by omega⟩
/-- the days before a year, by cycles -/
theorem CalB.bef_mul {c : CalN} (b : CalB c) {C : Nat} (hC : c.cyc = C) (q r : Nat) : c.bef (q * C + r) = q * c.bef C + c.bef r := by
  have h0 : ∀ q, c.bef (q * C) = q * c.bef C := by
    intro q
    induction q with
    | zero => simp [CalN.bef, sm]
    | succ q ih =>
      have h1 : c.bef ((q + 1) * C) = c.bef (q * C) + c.bef C := by
        unfold CalN.bef
        rw [Nat.add_mul, Nat.one_mul, sm_add]
        congr 1
        refine sm_congr fun j _ => ?_
        show c.yl ((q * C + j : Nat) : Int) = c.yl (j : Int)
        have h2 : ((q * C + j : Nat) : Int) = (j : Int) + q * c.cyc := by rw [hC, Int.natCast_add, Int.natCast_mul]; omega
        rw [h2, b.yl_mul]
      rw [h1, ih, Int.natCast_add, Int.add_mul]; simp
  unfold CalN.bef at h0 ⊢
  rw [sm_add, h0]
  congr 1
  refine sm_congr fun j _ => ?_
  show c.yl ((q * C + j : Nat) : Int) = c.yl (j : Int)
  have h2 : ((q * C + j : Nat) : Int) = (j : Int) + q * c.cyc := by rw [hC, Int.natCast_add, Int.natCast_mul]; omega
  rw [h2, b.yl_mul]
/-- the number of a day -/
def CalN.num (c : CalN) (y : Nat) (m : Nat) (d : Int) : Int := c.bef y + sm (c.mo (y : Int)) m + d - 1
/-- year y, month m (from 0 on), day d is the day with number x -/
structure Loc (c : CalN) (x : Int) (y m : Nat) (d : Int) : Prop where
  y0 : c.bef y ≤ x
  y1 : x < c.bef (y + 1)
  mn : m < c.n
  m0 : sm (c.mo (y : Int)) m ≤ x - c.bef y
  m1 : x - c.bef y < sm (c.mo (y : Int)) (m + 1)
  dd : d = x - c.bef y - sm (c.mo (y : Int)) m + 1
theorem Loc.one {c : CalN} (b : CalB c) {x : Int} {y m y' m' : Nat} {d d' : Int} (h : Loc c x y m d) (k : Loc c x y' m' d') : y = y' ∧ m = m' ∧ d = d' := by
  have e1 : y = y' := sm_place (f := fun i => c.yl (i : Int)) (n := y + y' + 1) (fun j _ => (b.yl _).1) (by omega) (by omega) h.y0 h.y1 k.y0 k.y1
  subst e1
  have e2 : m = m' := sm_place (fun j hj => (b.mo (y : Int) hj).1) h.mn k.mn h.m0 h.m1 k.m0 k.m1
  subst e2
  exact ⟨rfl, rfl, by rw [h.dd, k.dd]⟩
end Go.Proofs.YtpohhnihgegmfaaDoor

namespace Go.Proofs.YtpohhnihgegmfaaDoor
set_option linter.unusedVariables false
def sgn (a b : Int) : Int := if a < b then -1 else if b < a then 1 else 0
/-- the first number that is not 0, or 0 -/
def orV (z : Nat → Int) : Nat → Int
  | 0 => 0
  | n + 1 => if orV z n ≠ 0 then orV z n else z n
theorem orV_zero {z : Nat → Int} {n : Nat} (h : ∀ k, k < n → z k = 0) : orV z n = 0 := by
  induction n with
  | zero => rfl
  | succ n ih => simp only [orV, ih fun k hk => h k (by omega)]; simpa using h n (by omega)
theorem orV_hit {z : Nat → Int} {j n : Nat} (hj : j < n) (h : ∀ k, k < j → z k = 0) (h1 : z j ≠ 0) : orV z n = z j := by
  induction n with
  | zero => omega
  | succ n ih =>
    by_cases e : j = n
    · subst e; simp only [orV, orV_zero h]; simp
    · have := ih (by omega); simp only [orV, this]; simp [h1]
def cmpD (y m d y' m' d' : Int) : Int := if y ≠ y' then sgn y y' else if m ≠ m' then sgn m m' else sgn d d'
theorem sgn_zero {a b : Int} : sgn a b = 0 ↔ a = b := by unfold sgn; split <;> (try split) <;> omega
theorem cmpD_or {y m d y' m' d' : Int} {z : Nat → Int} (h0 : z 0 = sgn y y') (h1 : z 1 = sgn m m') (h2 : z 2 = sgn d d') : orV z 3 = cmpD y m d y' m' d' := by
  unfold cmpD
  by_cases a : y = y'
  · by_cases b : m = m'
    · have e0 : z 0 = 0 := by rw [h0, sgn_zero]; exact a
      have e1 : z 1 = 0 := by rw [h1, sgn_zero]; exact b
      simp only [orV, e0, e1]; simp [a, b, h2]
    · have e0 : z 0 = 0 := by rw [h0, sgn_zero]; exact a
      have e1 : z 1 ≠ 0 := by rw [h1, Ne, sgn_zero]; exact b
      simp only [orV, e0]; simp [e1]; simp [a, b, h1]
  · have e0 : z 0 ≠ 0 := by rw [h0, Ne, sgn_zero]; exact a
    simp only [orV]; simp [e0]; simp [a, h0]
end Go.Proofs.YtpohhnihgegmfaaDoor

namespace Go.Proofs.YtpohhnihgegmfaaDoor
open Go.RowKit
set_option linter.unusedVariables false
set_option linter.unusedSimpArgs false

theorem within_c (n l h : Int) (w : World) :
    Calls Tryd.prog 43 #[.int .i64 n, .int .i64 l, .int .i64 h] w fun e w' => e = .returned (.bool (inB n l h)) ∧ w = w' := by
  go_enter Tryd.func43, Tryd.ntmps43
  go_wp2
  all_goals (go_ret; refine ⟨ret_bool ?_, rfl⟩; rw [Bool.eq_iff_iff]; simp [inB]; try omega)
theorem l00In_c (n l h : Int) (w : World) :
    Calls Tryd.prog 37 #[.int .i64 n, .int .i64 l, .int .i64 h] w fun e w' => e = .returned (.bool (inB n l h)) ∧ w = w' := by
  go_enter Tryd.func37, Tryd.ntmps37
  go_wp2
  all_goals (go_ret; refine ⟨ret_bool ?_, rfl⟩; rw [Bool.eq_iff_iff]; simp [inB]; try omega)
end Go.Proofs.YtpohhnihgegmfaaDoor
