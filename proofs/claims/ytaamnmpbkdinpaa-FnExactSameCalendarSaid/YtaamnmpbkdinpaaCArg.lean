/- What an argument that is a calendar holds. -/
import Derived.Test.YtaamnmpbkdinpaaCW8
import Derived.Test.YtaamnmpbkdinpaaDown2
namespace Go.Proofs.Ytaamnmpbkdinpaa
open Go.ChangeShapes Go.WideShapes Go.RowKit Go.Deep
set_option linter.unusedVariables false

/-- what a calendar's arguments hold -/
structure CalA (w : World) (s : ByteArray) (ma ra : Option Addr) (mc rc : Nat) (nm : Nat → ByteArray) (c : CalN) : Prop where
  sz : s.size ≤ 9223372036854775807
  nz : ∀ i, i < c.n → (nm i).size ≤ 9223372036854775807
  nb : c.n ≤ maxLen
  rb : c.nr ≤ maxLen
  mem : CalM w ma ra nm c
section
variable {H : Type} {enc : TypeId × Value → H} {P : Program} {w : World} {base : Nat} {spare : Nat → Bool} {held : Bool}
theorem fld {fs : Array Field} {j : Nat} {u : TypeDesc} (h : (fs[j]?).bind (fun f => P.underlying f.type) = some u) : ∃ f, fs[j]? = some f ∧ P.underlying f.type = some u := by
  cases e : fs[j]? with
  | none => rw [e] at h; simp at h
  | some f => rw [e] at h; exact ⟨f, rfl, h⟩
theorem fldT {fs : Array Field} {j : Nat} (hj : j < fs.size) {u : TypeDesc} (h : (fs[j]?).bind (fun f => P.underlying f.type) = some u) : P.underlying fs[j].type = some u := by
  rw [Array.getElem?_eq_getElem hj] at h; exact h
theorem down_cal {t em er : TypeId} {fs fm fr : Array Field} {v : Value} {d : DataW H} {p : List MemPlace} {r : Reach} {b0 : Nat}
    (hs : P.underlying t = some (.struct fs)) (hone : oneCellFields P fs = true) (hC : P.cellsOf t = fs.size) (h4 : fs.size = 4)
    (k0 : (fs[0]?).bind (fun f => P.underlying f.type) = some .string) (k1 : (fs[1]?).bind (fun f => P.underlying f.type) = some (.slice em)) (k2 : (fs[2]?).bind (fun f => P.underlying f.type) = some (.slice er)) (k3 : (fs[3]?).bind (fun f => P.underlying f.type) = some (.int .i64))
    (hm : P.underlying em = some (.struct fm)) (honem : oneCellFields P fm = true) (hCm : P.cellsOf em = fm.size) (hm3 : fm.size = 3)
    (m0 : (fm[0]?).bind (fun f => P.underlying f.type) = some .string) (m1 : (fm[1]?).bind (fun f => P.underlying f.type) = some (.int .i64)) (m2 : (fm[2]?).bind (fun f => P.underlying f.type) = some (.int .i64))
    (hr : P.underlying er = some (.struct fr)) (honer : oneCellFields P fr = true) (hCr : P.cellsOf er = fr.size) (hr3 : fr.size = 3)
    (r0 : (fr[0]?).bind (fun f => P.underlying f.type) = some (.int .i64)) (r1 : (fr[1]?).bind (fun f => P.underlying f.type) = some (.int .i64)) (r2 : (fr[2]?).bind (fun f => P.underlying f.type) = some .bool)
    (hv : Value.okWide P w r b0 t v) (h : DataW.Trod enc P w base spare held t v d p) :
    ∃ (s : ByteArray) (ma ra : Option Addr) (mc rc : Nat) (wk : Int) (nm : Nat → ByteArray) (c : CalN), v = .agg #[.string s, .slice ma c.n mc, .slice ra c.nr rc, .int .i64 wk] ∧ (Lit.int .i64 wk).wf = true ∧ CalA w s ma ra mc rc nm c := by
  obtain ⟨cs, rfl, hsz⟩ := okWide_struct hs hv
  obtain ⟨fuel, hf⟩ := h
  obtain ⟨n, hl, hfl⟩ := down_struct hs hone hC (cs := cs.toList) (by simpa [Value.cells] using hf)
  obtain ⟨f0, e0, u0⟩ := fld k0
  obtain ⟨f1, e1, u1⟩ := fld k1
  obtain ⟨f2, e2, u2⟩ := fld k2
  obtain ⟨f3, e3, u3⟩ := fld k3
  obtain ⟨v0, y0, g0, t0⟩ := hfl 0 f0 e0
  obtain ⟨v1, y1, g1, t1⟩ := hfl 1 f1 e1
  obtain ⟨v2, y2, g2, t2⟩ := hfl 2 f2 e2
  obtain ⟨v3, y3, g3, t3⟩ := hfl 3 f3 e3
  obtain ⟨s, hs0, _, hss⟩ := DataW.trod_string u0 t0
  obtain ⟨wk, hs3, _, hwk⟩ := DataW.trod_int u3 t3
  obtain ⟨ma, n1, mc, z, hv1, nc1, mx1, hz⟩ := down_rows u1 hm honem hCm (by omega) t1
  obtain ⟨ra, n2, rc, y, hv2, nc2, mx2, hy⟩ := down_rows u2 hr honer hCr (by omega) t2
  simp only [List.cons.injEq, and_true] at hs0 hs3
  subst hs0; subst hs3; subst hv1; subst hv2
  have hcs : cs = #[.string s, .slice ma n1 mc, .slice ra n2 rc, .int .i64 wk] := by
    apply Array.toList_inj.1
    apply List.ext_getElem?
    intro j
    obtain rfl | rfl | rfl | rfl | hj : j = 0 ∨ j = 1 ∨ j = 2 ∨ j = 3 ∨ 4 ≤ j := by omega
    · rw [g0]; rfl
    · rw [g1]; rfl
    · rw [g2]; rfl
    · rw [g3]; rfl
    · rw [List.getElem?_eq_none (by omega), List.getElem?_eq_none (by simpa using hj)]
  subst hcs
  -- the months
  have hM : ∀ i, i < n1 → ∃ q : ByteArray × Int × Int, q.1.size ≤ maxLen ∧ (0 < n1 → z i 0 = .string q.1 ∧ z i 1 = .int .i64 q.2.1 ∧ z i 2 = .int .i64 q.2.2) := fun i hi => by
    obtain ⟨b, off, ha, hb, hc⟩ := hz (by omega)
    obtain ⟨_, a0, _, c0⟩ := hc i hi 0 (by omega)
    obtain ⟨_, a1, _, c1⟩ := hc i hi 1 (by omega)
    obtain ⟨_, a2, _, c2⟩ := hc i hi 2 (by omega)
    obtain ⟨s', d0, _, hs'⟩ := DataW.trod_string (fldT (by omega) m0) c0
    obtain ⟨x1, d1, _, _⟩ := DataW.trod_int (fldT (by omega) m1) c1
    obtain ⟨x2, d2, _, _⟩ := DataW.trod_int (fldT (by omega) m2) c2
    simp only [List.cons.injEq, and_true] at d0 d1 d2
    exact ⟨(s', x1, x2), hs', fun _ => ⟨d0, d1, d2⟩⟩
  have hR : ∀ i, i < n2 → ∃ q : Int × Int × Bool, (0 < n2 → y i 0 = .int .i64 q.1 ∧ y i 1 = .int .i64 q.2.1 ∧ y i 2 = .bool q.2.2) := fun i hi => by
    obtain ⟨b, off, ha, hb, hc⟩ := hy (by omega)
    obtain ⟨_, a0, _, c0⟩ := hc i hi 0 (by omega)
    obtain ⟨_, a1, _, c1⟩ := hc i hi 1 (by omega)
    obtain ⟨_, a2, _, c2⟩ := hc i hi 2 (by omega)
    obtain ⟨x0, d0, _, _⟩ := DataW.trod_int (fldT (by omega) r0) c0
    obtain ⟨x1, d1, _, _⟩ := DataW.trod_int (fldT (by omega) r1) c1
    obtain ⟨x2, d2, _⟩ := DataW.trod_bool (fldT (by omega) r2) c2
    simp only [List.cons.injEq, and_true] at d0 d1 d2
    exact ⟨(x0, x1, x2), fun _ => ⟨d0, d1, d2⟩⟩
  obtain ⟨q, hq⟩ := choose_lt hM
  obtain ⟨p, hp⟩ := choose_lt hR
  refine ⟨s, ma, ra, mc, rc, wk, fun i => (q i).1, ⟨n2, fun i => (p i).1, fun i => (p i).2.1, fun i => (p i).2.2, n1, fun i => (q i).2.1, fun i => (q i).2.2⟩, rfl, hwk, ⟨by unfold maxLen at hss; omega, fun i hi => by have := (hq i hi).1; unfold maxLen at this; exact Nat.le_trans this (by decide), by dsimp only; omega, by dsimp only; omega, ?_, ?_⟩⟩
  · intro h0
    obtain ⟨b, off, ha, hb, hc⟩ := hz h0
    refine ⟨b, off, ha, hb, fun i hi => ?_⟩
    obtain ⟨d0, d1, d2⟩ := (hq i hi).2 h0
    have e0 := (hc i hi 0 (by omega)).1
    have e1 := (hc i hi 1 (by omega)).1
    have e2 := (hc i hi 2 (by omega)).1
    rw [hm3, d0] at e0; rw [hm3, d1] at e1; rw [hm3, d2] at e2
    exact ⟨e0, e1, e2⟩
  · intro h0
    obtain ⟨b, off, ha, hb, hc⟩ := hy h0
    refine ⟨b, off, ha, hb, fun i hi => ?_⟩
    obtain ⟨d0, d1, d2⟩ := hp i hi h0
    have e0 := (hc i hi 0 (by omega)).1
    have e1 := (hc i hi 1 (by omega)).1
    have e2 := (hc i hi 2 (by omega)).1
    rw [hr3, d0] at e0; rw [hr3, d1] at e1; rw [hr3, d2] at e2
    exact ⟨e0, e1, e2⟩
end
end Go.Proofs.Ytaamnmpbkdinpaa
