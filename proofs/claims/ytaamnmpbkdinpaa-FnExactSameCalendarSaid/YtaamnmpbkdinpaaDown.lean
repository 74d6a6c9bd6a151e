/- What arguments of plain data hold: from the form's reading down to the cells. No program in sight. -/
import Derived.ProofKit
import Derived.Deep.Fields
import Derived.Deep.Slices
import Derived.Test.YtaamnmpbkdinpaaAid
namespace Go.Proofs.Ytaamnmpbkdinpaa
open Go.ChangeShapes Go.WideShapes Go.RowKit Go.Deep
set_option linter.unusedVariables false

/-- every field is an int64 -/
def allI64 (P : Program) (fs : Array Field) : Bool := fs.toList.all fun f => match P.underlying f.type with
  | some (.int .i64) => true
  | _ => false
theorem allI64_at {P : Program} {fs : Array Field} (h : allI64 P fs = true) {j : Nat} {f : Field} (hj : fs[j]? = some f) : P.underlying f.type = some (.int .i64) := by
  have h1 := List.all_eq_true.1 h f (by rw [Array.mem_toList_iff]; exact Array.mem_of_getElem? hj)
  revert h1
  split
  · intro _; assumption
  · intro h2; cases h2
section
variable {H : Type} {enc : TypeId × Value → H} {P : Program} {w : World} {base : Nat} {spare : Nat → Bool} {held : Bool}
/-- a struct's fields, each with its reading -/
theorem down_struct {t : TypeId} {fs : Array Field} {fuel : Nat} {cs : List Value} {x : DataW H × List MemPlace} (hs : P.underlying t = some (.struct fs)) (hone : oneCellFields P fs = true) (hC : P.cellsOf t = fs.size)
    (h : DataW.trod enc P w base spare held fuel t cs = some x) :
    ∃ n, cs.length = fs.size ∧ ∀ (j : Nat) (f : Field), fs[j]? = some f → ∃ v y, cs[j]? = some v ∧ DataW.trod enc P w base spare held n f.type [v] = some y := by
  obtain ⟨xs, n, _, _, hl, hxl, hf⟩ := DataW.trod_struct hs h
  refine ⟨n, hl.trans hC, fun j f hj => ?_⟩
  obtain ⟨ho, hc⟩ := hone_of hone j f hj
  have hjl : j < fs.size := (Array.getElem?_eq_some_iff.1 hj).1
  have hjc : j < cs.length := by omega
  have h1 := hf j f hj
  rw [ho, hc, List.drop_eq_getElem_cons hjc, List.getElem?_eq_getElem (show j < xs.length by omega)] at h1
  exact ⟨cs[j], xs[j]'(by omega), List.getElem?_eq_getElem hjc, h1⟩
/-- a struct whose fields are all int64 -/
theorem down_ints {t : TypeId} {fs : Array Field} {fuel : Nat} {cs : List Value} {x : DataW H × List MemPlace} (hs : P.underlying t = some (.struct fs)) (hone : oneCellFields P fs = true) (hC : P.cellsOf t = fs.size) (hi : allI64 P fs = true)
    (h : DataW.trod enc P w base spare held fuel t cs = some x) :
    ∃ z : Nat → Int, cs = (List.range fs.size).map (fun j => Value.int .i64 (z j)) ∧ ∀ j, j < fs.size → (Lit.int .i64 (z j)).wf = true := by
  obtain ⟨n, hl, hf⟩ := down_struct hs hone hC h
  have hz : ∀ j, j < fs.size → ∃ z : Int, cs[j]? = some (.int .i64 z) ∧ (Lit.int .i64 z).wf = true := fun j hj => by
    obtain ⟨v, y, hv, hy⟩ := hf j fs[j] (Array.getElem?_eq_getElem hj)
    obtain ⟨z, hz, _, hw⟩ := DataW.trod_int (allI64_at hi (Array.getElem?_eq_getElem hj)) hy
    simp only [List.cons.injEq, and_true] at hz
    exact ⟨z, by rw [hv, hz], hw⟩
  obtain ⟨z, hz⟩ := choose_lt hz
  refine ⟨z, List.ext_getElem? fun j => ?_, fun j hj => (hz j hj).2⟩
  by_cases hj : j < fs.size
  · rw [(hz j hj).1]; simp [hj]
  · rw [List.getElem?_eq_none (by omega), List.getElem?_eq_none (by simp; omega)]
theorem down_agg {r : Reach} {b0 : Nat} {t : TypeId} {fs : Array Field} {v : Value} {d : DataW H} {p : List MemPlace} (hs : P.underlying t = some (.struct fs)) (hone : oneCellFields P fs = true) (hC : P.cellsOf t = fs.size) (hi : allI64 P fs = true)
    (hv : Value.okWide P w r b0 t v) (h : DataW.Trod enc P w base spare held t v d p) :
    ∃ z : Nat → Int, v = .agg ((List.range fs.size).map (fun j => Value.int .i64 (z j))).toArray ∧ ∀ j, j < fs.size → (Lit.int .i64 (z j)).wf = true := by
  obtain ⟨cs, rfl, hsz⟩ := okWide_struct hs hv
  obtain ⟨fuel, hf⟩ := h
  obtain ⟨z, hz, hw⟩ := down_ints hs hone hC hi hf
  refine ⟨z, ?_, hw⟩
  congr 1
  apply Array.toList_inj.1
  simpa [Value.cells] using hz
/-- a slice of such structs: nil, or the cells of its elements -/
theorem down_slice {t e : TypeId} {fs : Array Field} {v : Value} {d : DataW H} {p : List MemPlace} {r : Reach} {b0 : Nat} (ht : P.underlying t = some (.slice e)) (hs : P.underlying e = some (.struct fs)) (hone : oneCellFields P fs = true) (hC : P.cellsOf e = fs.size) (hi : allI64 P fs = true) (hpos : 0 < fs.size)
    (hv : Value.okWide P w r b0 t v) (h : DataW.Trod enc P w base spare held t v d p) (hlt : ∀ x ∈ p, x.block < w.heap.size) :
    ∃ (a : Option Addr) (n cap : Nat) (z : Nat → Nat → Int), v = .slice a n cap ∧ n ≤ cap ∧ cap ≤ maxLen ∧
      (0 < n → ∃ b off, a = some ⟨b, off, none⟩ ∧ b < w.heap.size ∧ ∀ i, i < n → ∀ j, j < fs.size → w.cell? ⟨b, off + i * fs.size + j, none⟩ = some (.int .i64 (z i j)) ∧ (Lit.int .i64 (z i j)).wf = true) := by
  obtain ⟨a, n, cap, rfl⟩ := okWide_slice ht hv
  obtain ⟨fuel, hf⟩ := h
  rcases open_slice ht hf with ⟨hcs, _⟩ | ⟨a', len', cap', m, n', D, Pl, hcs, hb, hl, hm, hmm, hx, hcell⟩
  · simp [Value.cells] at hcs
    obtain ⟨rfl, rfl, rfl⟩ := hcs
    exact ⟨none, 0, 0, fun _ _ => 0, rfl, Nat.le_refl _, Nat.zero_le _, fun h => absurd h (Nat.lt_irrefl 0)⟩
  · simp [Value.cells] at hcs
    obtain ⟨rfl, rfl, rfl⟩ := hcs
    have hlm : n ≤ m := by rw [hmm]; split <;> omega
    have hel : ∀ i, i < n → ∃ z : Nat → Int, ∀ j, j < fs.size → w.cell? (a'.add (i * fs.size + j)) = some (.int .i64 (z j)) ∧ (Lit.int .i64 (z j)).wf = true := fun i hi' => by
      obtain ⟨cs', hc, ht'⟩ := hcell i (by omega)
      rw [hC] at hc
      obtain ⟨_, hcl, hat⟩ := World.cells?_some hc
      obtain ⟨z, hz, hw⟩ := down_ints hs hone hC hi ht'
      refine ⟨z, fun j hj => ⟨?_, hw j hj⟩⟩
      rw [← Go.Deep.add_add, hat j hj, hz]; simp [hj]
    obtain ⟨z, hz⟩ := choose_lt hel
    refine ⟨some a', n, cap, z, rfl, hl, hm, fun hn => ?_⟩
    obtain ⟨b, off, spot⟩ := a'
    have h0 := (hz 0 hn 0 hpos).1
    have hspot : spot = none := by simpa [Addr.add] using World.cell?_spot h0
    subst hspot
    refine ⟨b, off, rfl, World.block_lt_of_cell? w ⟨b, off, none⟩ (by simpa [Addr.add] using h0), fun i hi' j hj => ?_⟩
    have h1 := hz i hi' j hj
    rw [Addr.add_lit] at h1
    rw [Nat.add_assoc]; exact h1
end
/-- an int64 fits its kind: its bounds -/
theorem wf_bd {n : Int} (h : (Lit.int .i64 n).wf = true) : -9223372036854775808 ≤ n ∧ n ≤ 9223372036854775807 := by
  simpa [Lit.wf, IntKind.min, IntKind.max, IntKind.signed, IntKind.bits] using h
/-- a slice of pairs of integers, from its cells -/
theorem s2_of {w : World} {a : Option Addr} {n : Nat} {z : Nat → Nat → Int}
    (h : 0 < n → ∃ b off, a = some ⟨b, off, none⟩ ∧ b < w.heap.size ∧ ∀ i, i < n → ∀ j, j < 2 → w.cell? ⟨b, off + i * 2 + j, none⟩ = some (.int .i64 (z i j)) ∧ (Lit.int .i64 (z i j)).wf = true) :
    S2 w a n (fun i => z i 0) (fun i => z i 1) := fun hn => by
  obtain ⟨b, off, ha, hb, hc⟩ := h hn
  exact ⟨b, off, ha, hb, fun i hi => ⟨(hc i hi 0 (by omega)).1, (hc i hi 1 (by omega)).1⟩⟩
end Go.Proofs.Ytaamnmpbkdinpaa
