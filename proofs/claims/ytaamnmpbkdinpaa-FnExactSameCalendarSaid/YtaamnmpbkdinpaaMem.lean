/- Slices that a call makes and writes: what is kept, what is read, what is marked. No program in sight. -/
import Derived.Test.YtaamnmpbkdinpaaAid
namespace Go.Proofs.Ytaamnmpbkdinpaa
open Go.RowKit
set_option linter.unusedVariables false

theorem ext_grown {w w' : World} (h : Ext w w') : w.grownBy w' none :=
  ⟨Below.os h, Below.tape h, Below.output h, h.size, fun k hk _ => h.block hk⟩
theorem grown_ext {w w' : World} (h : w.grownBy w' none) : Ext w w' :=
  ⟨h.os, h.tape, h.output, h.size, fun k hk => h.block k hk (by simp)⟩
theorem grown_trans {a b c : World} {row : Option Nat} (h : a.grownBy b row) (k : b.grownBy c row) : a.grownBy c row :=
  ⟨k.os.trans h.os, k.tape.trans h.tape, k.output.trans h.output, Nat.le_trans h.size k.size, fun i hi hn => (k.block i (Nat.lt_of_lt_of_le hi h.size) hn).trans (h.block i hi hn)⟩
section
variable {w w' : World} {base : Nat} {e : TypeId} {size : Nat} {v : Value} {n : Nat} {xs : List Value}
theorem own_ext (h : w.ownsRow base e size v n xs) (x : Ext w w') : w'.ownsRow base e size v n xs := h.kept (ext_grown x) (by cases hv : v.ownBlock <;> simp)
/-- what is owned lies from its base on, and below the heap's end -/
theorem own_in {a : Option Addr} {cap : Nat} (h : w.ownsRow base e size (.slice a n cap) n xs) {ad : Addr} (ha : a = some ad) : base ≤ ad.block ∧ ad.block < w.heap.size :=
  h.lt ad.block (by subst ha; rfl)
theorem own_at {a : Option Addr} {cap j : Nat} (h : w.ownsRow base e 1 (.slice a n cap) n xs) (hj : j < n) :
    ∃ g, a = some ⟨g, 0, none⟩ ∧ base ≤ g ∧ g < w.heap.size ∧ w.cell? ⟨g, j, none⟩ = xs[j]? ∧ w.frozen? ⟨g, j, none⟩ = false := by
  rcases h.2 with ⟨h1, h2⟩ | ⟨g, cap', cur, h1, hb, hg, h2, h3, h4, h5⟩
  · omega
  · simp only [Value.slice.injEq, true_and] at h1
    obtain ⟨rfl, rfl⟩ := h1
    exact ⟨g, rfl, hb, (Array.getElem?_eq_some_iff.1 hg).1, h.cellAt j (by omega), h.frozenAt j⟩
theorem own_at2 {a : Option Addr} {cap j : Nat} (h : w.ownsRow base e 2 (.slice a n cap) n xs) (hj : j < n) :
    ∃ g, a = some ⟨g, 0, none⟩ ∧ base ≤ g ∧ g < w.heap.size ∧ (w.cell? ⟨g, j * 2, none⟩ = xs[j * 2]? ∧ w.frozen? ⟨g, j * 2, none⟩ = false) ∧ w.cell? ⟨g, j * 2 + 1, none⟩ = xs[j * 2 + 1]? ∧ w.frozen? ⟨g, j * 2 + 1, none⟩ = false := by
  rcases h.2 with ⟨h1, h2⟩ | ⟨g, cap', cur, h1, hb, hg, h2, h3, h4, h5⟩
  · omega
  · simp only [Value.slice.injEq, true_and] at h1
    obtain ⟨rfl, rfl⟩ := h1
    exact ⟨g, rfl, hb, (Array.getElem?_eq_some_iff.1 hg).1, ⟨h.cellAt _ (by omega), h.frozenAt _⟩, h.cellAt _ (by omega), h.frozenAt _⟩
theorem own_set {g cap j : Nat} (h : w.ownsRow base e size (.slice (some ⟨g, 0, none⟩) n cap) n xs) (u : Value) : (w.setCell ⟨g, j, none⟩ u).ownsRow base e size (.slice (some ⟨g, 0, none⟩) n cap) n (xs.set j u) := (h.stored j u).1
theorem grown_set (g j : Nat) (u : Value) : w.grownBy (w.setCell ⟨g, j, none⟩ u) (some g) :=
  ⟨rfl, rfl, rfl, by simp, fun k _ hk => heap_setCell_other w ⟨g, j, none⟩ k u (fun e => hk (by simp [e]))⟩
theorem own_s1 {a : Option Addr} {cap : Nat} {l : List Int} (h : w.ownsRow base e 1 (.slice a n cap) n (l.map (Value.int .i64))) : S1 w a n (fun j => l.getD j 0) := fun hn => by
  obtain ⟨g, rfl, _, hg, _⟩ := own_at h hn
  have hl : l.length = n := by simpa using h.1
  refine ⟨g, 0, rfl, hg, fun j hj => ?_⟩
  rw [Nat.zero_add, h.cellAt j (by omega)]
  simp [List.getD, show j < l.length by omega]
theorem own_len {l : List Int} (h : w.ownsRow base e 1 v n (l.map (Value.int .i64))) : n = l.length := by simpa using h.1.symm
end
/-- a slice of integers that reads the same behind a change of another block -/
theorem S1.but {w w' : World} {a : Option Addr} {n : Nat} {f : Nat → Int} {row : Option Nat} (s : S1 w a n f) (hg : w.grownBy w' row) (hne : ∀ ad, a = some ad → some ad.block ≠ row) : S1 w' a n f := fun hn => by
  obtain ⟨b, off, ha, hb, hc⟩ := s hn
  refine ⟨b, off, ha, Nat.lt_of_lt_of_le hb hg.size, fun j hj => ?_⟩
  rw [World.cell?_of_block (a := ⟨b, off + j, none⟩) (hg.block b hb (hne _ ha))]
  exact hc j hj
theorem S2.but {w w' : World} {a : Option Addr} {n : Nat} {h o : Nat → Int} {row : Option Nat} (s : S2 w a n h o) (hg : w.grownBy w' row) (hne : ∀ ad, a = some ad → some ad.block ≠ row) : S2 w' a n h o := fun hn => by
  obtain ⟨b, off, ha, hb, hc⟩ := s hn
  refine ⟨b, off, ha, Nat.lt_of_lt_of_le hb hg.size, fun j hj => ?_⟩
  rw [World.cell?_of_block (a := ⟨b, off + j * 2, none⟩) (hg.block b hb (hne _ ha)), World.cell?_of_block (a := ⟨b, off + j * 2 + 1, none⟩) (hg.block b hb (hne _ ha))]
  exact hc j hj
/-- owned rows of two calls, the second begun when the first had ended, lie in different blocks -/
theorem own_ne2 {w1 w2 : World} {b1 b2 : Nat} {e1 e2 : TypeId} {s1 s2 : Nat} {v1 v2 : Value} {n1 n2 : Nat} {xs1 xs2 : List Value} (h1 : w1.ownsRow b1 e1 s1 v1 n1 xs1) (h2 : w2.ownsRow b2 e2 s2 v2 n2 xs2) (hb : w1.heap.size ≤ b2) :
    (v1.ownBlock = none ∨ v1.ownBlock ≠ v2.ownBlock) ∧ (v2.ownBlock = none ∨ v2.ownBlock ≠ v1.ownBlock) := by
  have hne : ∀ k, v1.ownBlock = some k → v2.ownBlock = some k → False := fun k hk hk2 => by
    have := (h1.lt k hk).2; have := (h2.lt k hk2).1; omega
  constructor
  · cases h : v1.ownBlock with
    | none => exact .inl rfl
    | some k => exact .inr fun e => hne k h e.symm
  · cases h : v2.ownBlock with
    | none => exact .inl rfl
    | some k => exact .inr fun e => hne k e.symm h
/-- the numbers k, k + 1 .. over the first j places of a list -/
def marked (k : Int) (xs : List Value) : Nat → List Value
  | 0 => xs
  | j + 1 => (marked k xs j).set j (.int .i64 (k + j))
theorem marked_length (k : Int) (xs : List Value) (j : Nat) : (marked k xs j).length = xs.length := by
  induction j with
  | zero => rfl
  | succ j ih => simp [marked, ih]
theorem marked_at (k : Int) (xs : List Value) {j i : Nat} (hi : i < j) (hx : i < xs.length) : (marked k xs j)[i]? = some (.int .i64 (k + i)) := by
  induction j with
  | zero => omega
  | succ j ih =>
    simp only [marked]
    by_cases e : i = j
    · subst e; rw [List.getElem?_set_self (by rw [marked_length]; exact hx)]
    · rw [List.getElem?_set_ne (by omega)]; exact ih (by omega)
/-- the numbers k, k + 1 .. -/
def ups (k : Int) (n : Nat) : List Value := (List.range n).map fun j => Value.int .i64 (k + (j : Nat))
theorem marked_all (k : Int) (xs : List Value) : marked k xs xs.length = ups k xs.length := by
  apply List.ext_getElem?
  intro i
  by_cases hi : i < xs.length
  · rw [marked_at k xs hi hi]; simp [ups, hi]
  · rw [List.getElem?_eq_none (by rw [marked_length]; omega), List.getElem?_eq_none (by simp [ups]; omega)]
theorem ups_at (k : Int) {n i : Nat} (hi : i < n) : (ups k n)[i]? = some (.int .i64 (k + i)) := by simp [ups, hi]
theorem own_form {w : World} {base : Nat} {e : TypeId} {size : Nat} {v : Value} {n : Nat} {xs : List Value} (h : w.ownsRow base e size v n xs) : ∃ b cap, v = .slice b n cap := by
  rcases h.2 with ⟨h1, h2⟩ | ⟨g, cap', cur, h1, _⟩
  · subst h2; exact ⟨none, 0, h1⟩
  · exact ⟨_, _, h1⟩
/-- 'out = append(out, u)', 'out' made by the call that began in w0 -/
theorem app1 {P : Program} {w w0 : World} {ops : Array Oper} {rest : List Oper} {o : Oper} {a : Act} {Q : Exit → Act → World → Prop} (t e : TypeId) (s x : Operand)
    (hop : o.op = .call { callee := .builtin .append, args := #[s, x], argTypes := #[t, t] }) (hgd : o.guard = none)
    (ht : P.underlying t = some (.slice e)) (hinfo : (P.info? e).map (fun i => (i.zero, i.size, i.bytes)) = some (some (.int .i64 0), 1, 8))
    (v : Value) (l : List Int) (u : Int) (g : Nat) (hs : a.eval s = v) (hx : a.eval x = .slice (some ⟨g, 0, none⟩) 1 1) (hown : w.ownsRow w0.heap.size e 1 v l.length (l.map (Value.int .i64)))
    (hc : w.cell? ⟨g, 0, none⟩ = some (.int .i64 u)) (hl : l.length ≤ 1048576) (h0 : Ext w0 w)
    (hK : ∀ v' w', w'.ownsRow w0.heap.size e 1 v' (l ++ [u]).length ((l ++ [u]).map (Value.int .i64)) → Ext w0 w' → wpList P ops Q rest (a.put o.dst v') w') : wpList P ops Q (o :: rest) a w := by
  obtain ⟨i, hi, hz, hsz, hb⟩ := info_parts hinfo
  refine wpList_append_own (P := P) w hgd s x t hop w0.heap.size e i (.int .i64 0) 1 8 ht hi hz hsz hb rfl (by decide) v l.length _ hs hown ⟨g, 0, none⟩ 1 1 [.int .i64 u] hx rfl ?_ ?_ ?_ ?_ h0.size ?_
  · intro j z hz'
    cases j with
    | zero =>
      simp at hz'; subst hz'
      simpa [Addr.add] using hc
    | succ j => simp at hz'
  · intro z hz'
    simp at hz'; subst hz'; rfl
  · unfold maxLen; omega
  · omega
  · intro v' w' h1 h2 _
    refine hK v' w' (by simpa using h1) (h0.grown h2 fun k hk => (hown.lt k hk).1)
end Go.Proofs.Ytaamnmpbkdinpaa
