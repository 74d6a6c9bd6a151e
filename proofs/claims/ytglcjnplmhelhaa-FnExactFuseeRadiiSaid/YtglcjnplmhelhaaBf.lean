/- What arguments of plain data hold: slices of mixed structs, slices of numbers. No program in sight. What an argument that is a spring holds. -/
import Derived.Test.YtglcjnplmhelhaaBa

namespace Go.Proofs.Ytglcjnplmhelhaa
open Go.ChangeShapes Go.WideShapes Go.RowKit Go.Deep
set_option linter.unusedVariables false
section
variable {H : Type} {enc : TypeId × Value → H} {P : Program} {w : World} {base : Nat} {spare : Nat → Bool} {held : Bool}
/-- a slice of structs of one cell a field, at whatever depth -/
theorem down_rows {t e : TypeId} {fs : Array Field} {fuel : Nat} {v : Value} {x : DataW H × List MemPlace} (ht : P.underlying t = some (.slice e)) (hs : P.underlying e = some (.struct fs)) (hone : oneCellFields P fs = true) (hC : P.cellsOf e = fs.size) (hpos : 0 < fs.size)
    (hf : DataW.trod enc P w base spare held fuel t [v] = some x) :
    ∃ (a : Option Addr) (n cap : Nat) (z : Nat → Nat → Value), v = .slice a n cap ∧ n ≤ cap ∧ cap ≤ maxLen ∧
      (0 < n → ∃ b off, a = some ⟨b, off, none⟩ ∧ b < w.heap.size ∧ ∀ i, i < n → ∀ j (hj : j < fs.size), w.cell? ⟨b, off + i * fs.size + j, none⟩ = some (z i j) ∧ ∃ m y, DataW.trod enc P w base spare held m fs[j].type [z i j] = some y) := by
  rcases open_slice ht hf with ⟨hcs, _⟩ | ⟨a', len', cap', m, n', D, Pl, hcs, hb, hl, hm, hmm, hx, hcell⟩
  · simp at hcs
    subst hcs
    exact ⟨none, 0, 0, fun _ _ => .bool false, rfl, Nat.le_refl _, Nat.zero_le _, fun h => absurd h (Nat.lt_irrefl 0)⟩
  · simp at hcs
    subst hcs
    have hlm : len' ≤ m := by rw [hmm]; split <;> omega
    have hel : ∀ i, i < len' → ∃ z : Nat → Value, ∀ j (hj : j < fs.size), w.cell? (a'.add (i * fs.size + j)) = some (z j) ∧ ∃ m y, DataW.trod enc P w base spare held m fs[j].type [z j] = some y := fun i hi' => by
      obtain ⟨cs', hc, ht'⟩ := hcell i (by omega)
      rw [hC] at hc
      obtain ⟨_, hcl, hat⟩ := World.cells?_some hc
      obtain ⟨k, hl', hfl⟩ := down_struct hs hone hC ht'
      refine ⟨fun j => cs'.getD j (.bool false), fun j hj => ?_⟩
      obtain ⟨v', y, hv', hy⟩ := hfl j fs[j] (Array.getElem?_eq_getElem hj)
      have e1 : cs'.getD j (.bool false) = v' := by simp [List.getD, hv']
      refine ⟨?_, k, y, by show DataW.trod enc P w base spare held k fs[j].type [cs'.getD j (.bool false)] = some y; rw [e1]; exact hy⟩
      show w.cell? (a'.add (i * fs.size + j)) = some (cs'.getD j (.bool false))
      rw [← Go.Deep.add_add, hat j hj, e1]; exact hv'
    obtain ⟨z, hz⟩ := choose_lt hel
    refine ⟨some a', len', cap', z, rfl, hl, hm, fun hn => ?_⟩
    obtain ⟨b, off, spot⟩ := a'
    have h0 := (hz 0 hn 0 hpos).1
    have hspot : spot = none := by simpa [Addr.add] using World.cell?_spot h0
    subst hspot
    refine ⟨b, off, rfl, World.block_lt_of_cell? w ⟨b, off, none⟩ (by simpa [Addr.add] using h0), fun i hi' j hj => ?_⟩
    have h1 := hz i hi' j hj
    rw [Addr.add_lit] at h1
    rw [Nat.add_assoc]; exact h1
/-- a slice of int64s -/
theorem down_i64s {t e : TypeId} {fuel : Nat} {v : Value} {x : DataW H × List MemPlace} (ht : P.underlying t = some (.slice e)) (he : P.underlying e = some (.int .i64)) (hC : P.cellsOf e = 1)
    (hf : DataW.trod enc P w base spare held fuel t [v] = some x) :
    ∃ (a : Option Addr) (n cap : Nat) (z : Nat → Int), v = .slice a n cap ∧ n ≤ cap ∧ cap ≤ maxLen ∧ S1 w a n z ∧ ∀ j, j < n → (Lit.int .i64 (z j)).wf = true := by
  rcases open_slice ht hf with ⟨hcs, _⟩ | ⟨a', len', cap', m, n', D, Pl, hcs, hb, hl, hm, hmm, hx, hcell⟩
  · simp at hcs
    subst hcs
    exact ⟨none, 0, 0, fun _ => 0, rfl, Nat.le_refl _, Nat.zero_le _, (fun h => absurd h (Nat.lt_irrefl 0)), fun j hj => absurd hj (Nat.not_lt_zero j)⟩
  · simp at hcs
    subst hcs
    have hlm : len' ≤ m := by rw [hmm]; split <;> omega
    have hel : ∀ i, i < len' → ∃ z : Int, w.cell? (a'.add i) = some (.int .i64 z) ∧ (Lit.int .i64 z).wf = true := fun i hi' => by
      obtain ⟨cs', hc, ht'⟩ := hcell i (by omega)
      rw [hC] at hc
      obtain ⟨_, hcl, hat⟩ := World.cells?_some hc
      obtain ⟨z, hz, _, hw⟩ := DataW.trod_int he ht'
      subst hz
      have := hat 0 (by omega)
      refine ⟨z, ?_, hw⟩
      have e1 : a'.add i = (a'.add (i * 1)).add 0 := by rw [Go.Deep.add_add]; simp
      rw [e1, this]; rfl
    obtain ⟨z, hz⟩ := choose_lt hel
    refine ⟨some a', len', cap', z, rfl, hl, hm, fun hn => ?_, fun j hj => (hz j hj).2⟩
    obtain ⟨b, off, spot⟩ := a'
    have h0 := (hz 0 hn).1
    have hspot : spot = none := by simpa [Addr.add] using World.cell?_spot h0
    subst hspot
    refine ⟨b, off, rfl, World.block_lt_of_cell? w ⟨b, off, none⟩ (by simpa [Addr.add] using h0), fun i hi' => ?_⟩
    have h1 := (hz i hi').1
    rw [Addr.add_lit] at h1
    exact h1
theorem arg_i64s {r : Reach} {b0 : Nat} {t e : TypeId} {v : Value} {d : DataW H} {p : List MemPlace} (ht : P.underlying t = some (.slice e)) (he : P.underlying e = some (.int .i64)) (hC : P.cellsOf e = 1)
    (hv : Value.okWide P w r b0 t v) (h : DataW.Trod enc P w base spare held t v d p) :
    ∃ (a : Option Addr) (n cap : Nat) (z : Nat → Int), v = .slice a n cap ∧ n ≤ cap ∧ cap ≤ maxLen ∧ S1 w a n z ∧ ∀ j, j < n → (Lit.int .i64 (z j)).wf = true := by
  obtain ⟨a, n, cap, rfl⟩ := okWide_slice ht hv
  obtain ⟨fuel, hf⟩ := h
  exact down_i64s ht he hC (fuel := fuel) (by simpa [Value.cells] using hf)
end
/-- A slice of structs of 'k' cells: cell j of element i is 'z i j'. -/
def SK (w : World) (a : Option Addr) (n k : Nat) (z : Nat → Nat → Value) : Prop :=
  0 < n → ∃ b off, a = some ⟨b, off, none⟩ ∧ b < w.heap.size ∧ ∀ i, i < n → ∀ j, j < k → w.cell? ⟨b, off + i * k + j, none⟩ = some (z i j)
/-- Months: a name and two numbers each. -/
def S3 (w : World) (a : Option Addr) (n : Nat) (nm : Nat → ByteArray) (dy lp : Nat → Int) : Prop :=
  0 < n → ∃ b off, a = some ⟨b, off, none⟩ ∧ b < w.heap.size ∧ ∀ i, i < n → w.cell? ⟨b, off + i * 3, none⟩ = some (.string (nm i)) ∧ w.cell? ⟨b, off + i * 3 + 1, none⟩ = some (.int .i64 (dy i)) ∧ w.cell? ⟨b, off + i * 3 + 2, none⟩ = some (.int .i64 (lp i))
/-- Rules: two numbers and a truth value each. -/
def R3 (w : World) (a : Option Addr) (n : Nat) (ev rs : Nat → Int) (lf : Nat → Bool) : Prop :=
  0 < n → ∃ b off, a = some ⟨b, off, none⟩ ∧ b < w.heap.size ∧ ∀ i, i < n → w.cell? ⟨b, off + i * 3, none⟩ = some (.int .i64 (ev i)) ∧ w.cell? ⟨b, off + i * 3 + 1, none⟩ = some (.int .i64 (rs i)) ∧ w.cell? ⟨b, off + i * 3 + 2, none⟩ = some (.bool (lf i))
theorem S3.ext {w w' : World} {a : Option Addr} {n : Nat} {nm : Nat → ByteArray} {dy lp : Nat → Int} (s : S3 w a n nm dy lp) (e : Ext w w') : S3 w' a n nm dy lp := fun hn => by
  obtain ⟨b, off, ha, hb, hc⟩ := s hn
  exact ⟨b, off, ha, Nat.lt_of_lt_of_le hb e.size, fun j hj => by rw [e.cell hb, e.cell hb, e.cell hb]; exact hc j hj⟩
theorem S3.at {w : World} {a : Option Addr} {n : Nat} {nm : Nat → ByteArray} {dy lp : Nat → Int} (s : S3 w a n nm dy lp) {j : Nat} (hj : j < n) :
    ∃ b off, a = some ⟨b, off, none⟩ ∧ b < w.heap.size ∧ w.cell? ⟨b, off + j * 3, none⟩ = some (.string (nm j)) ∧ w.cell? ⟨b, off + j * 3 + 1, none⟩ = some (.int .i64 (dy j)) ∧ w.cell? ⟨b, off + j * 3 + 2, none⟩ = some (.int .i64 (lp j)) := by
  obtain ⟨b, off, ha, hb, hc⟩ := s (by omega)
  exact ⟨b, off, ha, hb, hc j hj⟩
theorem R3.ext {w w' : World} {a : Option Addr} {n : Nat} {ev rs : Nat → Int} {lf : Nat → Bool} (s : R3 w a n ev rs lf) (e : Ext w w') : R3 w' a n ev rs lf := fun hn => by
  obtain ⟨b, off, ha, hb, hc⟩ := s hn
  exact ⟨b, off, ha, Nat.lt_of_lt_of_le hb e.size, fun j hj => by rw [e.cell hb, e.cell hb, e.cell hb]; exact hc j hj⟩
theorem R3.at {w : World} {a : Option Addr} {n : Nat} {ev rs : Nat → Int} {lf : Nat → Bool} (s : R3 w a n ev rs lf) {j : Nat} (hj : j < n) :
    ∃ b off, a = some ⟨b, off, none⟩ ∧ b < w.heap.size ∧ w.cell? ⟨b, off + j * 3, none⟩ = some (.int .i64 (ev j)) ∧ w.cell? ⟨b, off + j * 3 + 1, none⟩ = some (.int .i64 (rs j)) ∧ w.cell? ⟨b, off + j * 3 + 2, none⟩ = some (.bool (lf j)) := by
  obtain ⟨b, off, ha, hb, hc⟩ := s (by omega)
  exact ⟨b, off, ha, hb, hc j hj⟩
end Go.Proofs.Ytglcjnplmhelhaa

namespace Go.Proofs.Ytglcjnplmhelhaa
open Go.ChangeShapes Go.WideShapes Go.RowKit Go.Deep
set_option linter.unusedVariables false
section
variable {H : Type} {enc : TypeId × Value → H} {P : Program} {w : World} {base : Nat} {spare : Nat → Bool} {held : Bool}
theorem fld1 {fs : Array Field} {j : Nat} {u : TypeDesc} (h : (fs[j]?).bind (fun f => P.underlying f.type) = some u) : ∃ f, fs[j]? = some f ∧ P.underlying f.type = some u := by
  cases e : fs[j]? with
  | none => rw [e] at h; simp at h
  | some f => rw [e] at h; exact ⟨f, rfl, h⟩
theorem fldT1 {fs : Array Field} {j : Nat} (hj : j < fs.size) {u : TypeDesc} (h : (fs[j]?).bind (fun f => P.underlying f.type) = some u) : P.underlying fs[j].type = some u := by
  rw [Array.getElem?_eq_getElem hj] at h; exact h
theorem down_spr {t em : TypeId} {fs fm : Array Field} {v : Value} {d : DataW H} {p : List MemPlace} {r : Reach} {b0 : Nat}
    (hs : P.underlying t = some (.struct fs)) (hone : oneCellFields P fs = true) (hC : P.cellsOf t = fs.size) (h1 : fs.size = 1)
    (k0 : (fs[0]?).bind (fun f => P.underlying f.type) = some (.slice em))
    (hm : P.underlying em = some (.struct fm)) (honem : oneCellFields P fm = true) (hCm : P.cellsOf em = fm.size) (hm2 : fm.size = 2)
    (m0 : (fm[0]?).bind (fun f => P.underlying f.type) = some (.int .i64)) (m1 : (fm[1]?).bind (fun f => P.underlying f.type) = some (.int .i64))
    (hv : Value.okWide P w r b0 t v) (h : DataW.Trod enc P w base spare held t v d p) :
    ∃ (a : Option Addr) (n c : Nat) (z y : Nat → Int), v = .agg #[.slice a n c] ∧ n ≤ maxLen ∧ S2 w a n z y := by
  obtain ⟨cs, rfl, hsz⟩ := okWide_struct hs hv
  obtain ⟨fuel, hf⟩ := h
  obtain ⟨n, hl, hfl⟩ := down_struct hs hone hC (cs := cs.toList) (by simpa [Value.cells] using hf)
  obtain ⟨f0, e0, u0⟩ := fld1 k0
  obtain ⟨v0, y0, g0, t0⟩ := hfl 0 f0 e0
  obtain ⟨a, n1, c, z, hv0, nc1, mx1, hz⟩ := down_rows u0 hm honem hCm (by omega) t0
  subst hv0
  have hcs : cs = #[.slice a n1 c] := by
    apply Array.toList_inj.1
    apply List.ext_getElem?
    intro j
    obtain rfl | hj : j = 0 ∨ 1 ≤ j := by omega
    · rw [g0]; rfl
    · rw [List.getElem?_eq_none (by omega), List.getElem?_eq_none (by simpa using hj)]
  subst hcs
  have hM : ∀ i, i < n1 → ∃ q : Int × Int, (0 < n1 → z i 0 = .int .i64 q.1 ∧ z i 1 = .int .i64 q.2) := fun i hi => by
    obtain ⟨b, off, ha, hb, hc⟩ := hz (by omega)
    obtain ⟨_, a0, _, c0⟩ := hc i hi 0 (by omega)
    obtain ⟨_, a1, _, c1⟩ := hc i hi 1 (by omega)
    obtain ⟨x0, d0, _, _⟩ := DataW.trod_int (fldT1 (by omega) m0) c0
    obtain ⟨x1, d1, _, _⟩ := DataW.trod_int (fldT1 (by omega) m1) c1
    simp only [List.cons.injEq, and_true] at d0 d1
    exact ⟨(x0, x1), fun _ => ⟨d0, d1⟩⟩
  obtain ⟨q, hq⟩ := choose_lt hM
  refine ⟨a, n1, c, fun i => (q i).1, fun i => (q i).2, rfl, by omega, fun h0 => ?_⟩
  obtain ⟨b, off, ha, hb, hc⟩ := hz h0
  refine ⟨b, off, ha, hb, fun i hi => ?_⟩
  obtain ⟨d0, d1⟩ := hq i hi h0
  have e0 := (hc i hi 0 (by omega)).1
  have e1 := (hc i hi 1 (by omega)).1
  rw [hm2, d0] at e0; rw [hm2, d1] at e1
  exact ⟨e0, e1⟩
end
end Go.Proofs.Ytglcjnplmhelhaa
