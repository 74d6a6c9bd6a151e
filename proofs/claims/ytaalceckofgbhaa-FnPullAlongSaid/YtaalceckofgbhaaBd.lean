/- BestStopwork: the program. BestStopwork: the reference. DaysOf; ratios: valid ones. The draws of the law on weights. The draws of the law on weights: ratios seldom not valid, days, weights. The draws of the law on torque: trains. The draws of the law on torque: a list that is seldom not a train. The draws of the law on torque. The law on torque along a train: its walk. What arguments of plain data hold: slices of mixed structs, slices of numbers. No program in sight. What an argument of bytes holds. -/
import Derived.Test.YtaalceckofgbhaaBc
import Derived.Test.YtaalceckofgbhaaBb
import Derived.Deep.DeepCutAuto
import Derived.Test.YtaalceckofgbhaaBa

namespace Go.Proofs.Ytaalceckofgbhaa
open Go.RowKit
set_option linter.unusedVariables false
set_option linter.unusedSimpArgs false

/-- what BestStopwork returns -/
def bsB (n : Nat) (wd : Nat → Int) (wid : Int) : Bool := inB wid 1 (wd (n - 1) - wd 0)
def bsV (n : Nat) (wd pl : Nat → Int) (wid : Int) : Int := if spV n wd pl && bsB n wd wid then bstF wd pl wid (wd 0) (wd (n - 1) - wid - wd 0).toNat else 0
def bsC (n : Nat) (wd pl : Nat → Int) (wid : Int) : Int := if spV n wd pl then (if bsB n wd wid then 0 else 2) else 1
/-- the best so far and its difference, as the program keeps them -/
def bsI (wd pl : Nat → Int) (wid A : Int) : Nat → Int × Int
  | 0 => (0, -1)
  | i + 1 => (bstF wd pl wid A i, winD wd pl wid (bstF wd pl wid A i))
theorem bsI_step (wd pl : Nat → Int) (wid A : Int) (i : Nat) (h : ∀ j : Nat, j ≤ i → 0 ≤ winD wd pl wid (A + j)) : bsI wd pl wid A (i + 1) = if (bsI wd pl wid A i).2 < 0 ∨ winD wd pl wid (A + i) < (bsI wd pl wid A i).2 then (A + i, winD wd pl wid (A + i)) else bsI wd pl wid A i := by
  cases i with
  | zero => simp [bsI, bstF]
  | succ j =>
    have hb := bstF_in wd pl wid A j
    have e : bstF wd pl wid A j = A + ((bstF wd pl wid A j - A).toNat : Nat) := by omega
    have h1 := h (bstF wd pl wid A j - A).toNat (by omega)
    rw [← e] at h1
    have e2 : A + ((j + 1 : Nat) : Int) = A + (j : Int) + 1 := by omega
    rw [e2]
    by_cases c : winD wd pl wid (A + (j : Int) + 1) < winD wd pl wid (bstF wd pl wid A j)
    · have e3 : bstF wd pl wid A (j + 1) = A + (j : Int) + 1 := by simp only [bstF]; rw [if_pos c]
      show (bstF wd pl wid A (j + 1), winD wd pl wid (bstF wd pl wid A (j + 1))) = _
      rw [e3, if_pos (.inr c)]
    · have e3 : bstF wd pl wid A (j + 1) = bstF wd pl wid A j := by simp only [bstF]; rw [if_neg c]
      show (bstF wd pl wid A (j + 1), winD wd pl wid (bstF wd pl wid A (j + 1))) = _
      rw [e3]
      exact (if_neg (show ¬ ((bsI wd pl wid A (j + 1)).2 < 0 ∨ winD wd pl wid (A + (j : Int) + 1) < (bsI wd pl wid A (j + 1)).2) from by
        show ¬ (winD wd pl wid (bstF wd pl wid A j) < 0 ∨ winD wd pl wid (A + (j : Int) + 1) < winD wd pl wid (bstF wd pl wid A j))
        omega)).symm
section
variable {a : Option Addr} {n c : Nat} {wd pl : Nat → Int} {w : World}
end
end Go.Proofs.Ytaalceckofgbhaa

namespace Go.Proofs.Ytaalceckofgbhaa
open Go.RowKit
set_option linter.unusedVariables false
set_option linter.unusedSimpArgs false

section
variable {a : Option Addr} {n c : Nat} {wd pl : Nat → Int} {w : World}
end
end Go.Proofs.Ytaalceckofgbhaa

namespace Go.Proofs.Ytaalceckofgbhaa
open Go.RowKit
set_option linter.unusedVariables false
set_option linter.unusedSimpArgs false

/-- the greatest common divisor -/
def gcdA (a b : Int) : Int := (Int.gcd a b : Nat)
theorem gcdA_step {a b : Int} : gcdA b (a.tmod b) = gcdA a b := by
  unfold gcdA
  congr 1
  have h1 : Int.gcd a b = Int.gcd b a := Int.gcd_comm a b
  rw [h1]
  have e : a.tmod b = a - b * a.tdiv b := by have := Int.mul_tdiv_add_tmod a b; omega
  rw [e]
  simp [Int.gcd_sub_mul_right_right]
theorem gcdA_zero (a : Int) : gcdA a 0 = absI a := by
  unfold gcdA absI; simp; split <;> omega
theorem tmod_abs {a b : Int} (hb : b ≠ 0) : (a.tmod b).natAbs < b.natAbs := by
  rw [Int.natAbs_tmod]; exact Nat.mod_lt _ (by omega)
/-- a ratio is valid -/
def raB (n d : Int) : Bool := inB d 1 1000000000 && (inB n (-1000000000) 1000000000 && decide (gcdA n d = 1))
theorem gcdA_abs (a b : Int) : gcdA (absI a) b = gcdA a b := by
  unfold gcdA absI
  split
  · rw [Int.neg_gcd]
  · rfl
/-- what DaysOf returns -/
def dyB (r n d : Int) : Bool := raB n d && inB r 0 2000
def dyV (r n d : Int) : Int := if dyB r n d && decide (0 < n) then r * d / (100 * n) else 0
def dyC (r n d : Int) : Int := if raB n d then (if inB r 0 2000 then (if n ≤ 0 then 6 else 0) else 2) else 1
theorem raB_b {n d : Int} (h : raB n d = true) : 1 ≤ d ∧ d ≤ 1000000000 ∧ -1000000000 ≤ n ∧ n ≤ 1000000000 := by
  simp only [raB, Bool.and_eq_true] at h
  have h1 := inB_t.1 h.1
  have h2 := inB_t.1 h.2.1
  omega
end Go.Proofs.Ytaalceckofgbhaa

namespace Go.Proofs.Ytaalceckofgbhaa
open Go.RowKit
set_option linter.unusedVariables false
set_option linter.unusedSimpArgs false

def postRB (w : World) (e : Ending) (w' : World) : Prop := ∃ p q bb, e = .returned (.tuple #[.agg #[.int .i64 p, .int .i64 q], .bool bb]) ∧ Ext w w'
/-- a source, and what has been kept of the world a draw began in -/
structure Rs (w0 w : World) (g : Nat) (a : Option Addr) (n c : Nat) (f : Nat → Nat) (K : Nat) : Prop where
  src : Src w g a n c f K
  gr : w0.grownBy w (some g)
  low : g < w0.heap.size
  cod : 0 < n → ∀ ad, a = some ad → ad.block < w0.heap.size
section
variable {w0 w w1 : World} {g : Nat} {a : Option Addr} {n c : Nat} {f : Nat → Nat} {K K' : Nat}
theorem Rs.le (h : Rs w0 w g a n c f K) (hl : K ≤ K') : Rs w0 w g a n c f K' := ⟨h.src.le hl, h.gr, h.low, h.cod⟩
theorem Rs.drawn (h : Rs w0 w g a n c f K) (hs : Src w1 g a n c f K') (hx : w.grownBy w1 (some g)) : Rs w0 w1 g a n c f K' := ⟨hs, grown_trans h.gr hx, h.low, h.cod⟩
theorem Rs.ext (h : Rs w0 w g a n c f K) (hx : Ext w w1) : Rs w0 w1 g a n c f K :=
  ⟨h.src.keep (ext_grown hx) (fun k hk => by cases hk) h.low h.cod h.gr.size, grown_trans h.gr (grown_weak (ext_grown hx)), h.low, h.cod⟩
theorem Rs.put (h : Rs w0 w g a n c f K) {b : Nat} (hb : w0.heap.size ≤ b) (i : Nat) (x : Value) : Rs w0 (w.setCell ⟨b, i, none⟩ x) g a n c f K := by
  have hx := grown_set (w := w) b i x
  refine ⟨h.src.keep hx (fun k hk => by injection hk with hk; omega) h.low h.cod h.gr.size, ⟨h.gr.os, h.gr.tape, h.gr.output, by simpa using h.gr.size, fun k hk hn => ?_⟩, h.low, h.cod⟩
  exact (hx.block k (Nat.lt_of_lt_of_le hk h.gr.size) (fun e => by injection e with e; omega)).trans (h.gr.block k hk hn)
theorem Rs.blk (h : Rs w0 w g a n c f K) {b : Nat} {T : TypeId} {cur : Array Value} (hB : Blk w0 b T cur) (hb : b ≠ g) : Blk w b T cur := (h.gr.block b hB.lt (fun e => hb (by injection e))).trans hB
theorem Rs.back (h : Rs w0 w g a n c f K) {wb : World} (hx : Ext wb w0) (hg : g < wb.heap.size) (hcd : 0 < n → ∀ ad, a = some ad → ad.block < wb.heap.size) : Rs wb w g a n c f K :=
  ⟨h.src, grown_trans (grown_weak (ext_grown hx)) h.gr, hg, hcd⟩
end
theorem Blk.cells2 {w : World} {g : Nat} {T : TypeId} {v u : Value} (h : Blk w g T #[v, u]) : (w.cell? ⟨g, 0, none⟩ = some v ∧ w.cell? ⟨g, 1, none⟩ = some u) ∧ w.frozen? ⟨g, 0, none⟩ = false ∧ w.frozen? ⟨g, 1, none⟩ = false :=
  ⟨⟨by rw [h.cell]; rfl, by rw [h.cell]; rfl⟩, h.frozen 0, h.frozen 1⟩
def postR (w0 : World) (g : Nat) (a : Option Addr) (n c : Nat) (f : Nat → Nat) (K : Nat) (e : Ending) (w' : World) : Prop := ∃ p q : Int, e = .returned (.agg #[.int .i64 p, .int .i64 q]) ∧ Rs w0 w' g a n c f K
end Go.Proofs.Ytaalceckofgbhaa

namespace Go.Proofs.Ytaalceckofgbhaa
open Go.RowKit
set_option linter.unusedVariables false
set_option linter.unusedSimpArgs false

theorem Blk.set0 {w : World} {g : Nat} {T : TypeId} {v u : Value} (h : Blk w g T #[v, u]) (x : Value) : Blk (w.setCell ⟨g, 0, none⟩ x) g T #[x, u] := by have := h.set 0 x; simpa using this
theorem Blk.set1 {w : World} {g : Nat} {T : TypeId} {v u : Value} (h : Blk w g T #[v, u]) (x : Value) : Blk (w.setCell ⟨g, 1, none⟩ x) g T #[v, x] := by have := h.set 1 x; simpa using this
def postDays (w : World) (e : Ending) (w' : World) : Prop := ∃ r p q : Int, e = .returned (.tuple #[.int .i64 r, .agg #[.int .i64 p, .int .i64 q]]) ∧ Ext w w'
theorem U8.low2 {w : World} {a : Option Addr} {n : Nat} {f : Nat → Nat} (hs : U8 w a n f) : 0 < n → ∀ ad, a = some ad → ad.block < w.heap.size := fun h0 ad e => by
  obtain ⟨b, o, e2, hb, _⟩ := hs.at h0
  have e3 : some ad = some (⟨b, o, none⟩ : Addr) := e.symm.trans e2
  rw [Option.some.inj e3]; exact hb
theorem Rs.toExt {w0 w wb : World} {g : Nat} {a : Option Addr} {n c : Nat} {f : Nat → Nat} {K : Nat} (h : Rs w0 w g a n c f K) (hx : Ext wb w0) (hg : wb.heap.size ≤ g) : Ext wb w := hx.grown h.gr (fun k hk => by injection hk with hk; omega)
def postW (w : World) (e : Ending) (w' : World) : Prop := ∃ m r : Int, e = .returned (.tuple #[.int .i64 m, .int .i64 r]) ∧ Ext w w'
end Go.Proofs.Ytaalceckofgbhaa

namespace Go.Proofs.Ytaalceckofgbhaa
open Go.RowKit
set_option linter.unusedVariables false
set_option linter.unusedSimpArgs false

theorem info_pr : (Try.prog.info? 55).map (fun i => (i.zero, i.size, i.bytes)) = some (some (.agg #[.int .i64 0, .int .i64 0]), 2, 16) := by kernel_rfl
theorem St.put {w0 w : World} {g : Nat} {a : Option Addr} {n c : Nat} {f : Nat → Nat} {K : Nat} {T : TypeId} {v : Value} {l : List (Int × Int)} (h : St w0 w g a n c f K T v l) {b : Nat} (hb : w0.heap.size ≤ b) (hne : v.ownBlock ≠ some b) (i : Nat) (x : Value) : St w0 (w.setCell ⟨b, i, none⟩ x) g a n c f K T v l := by
  have hx := grown_set (w := w) b i x
  refine ⟨h.own.kept hx (.inr hne), h.src.keep hx (fun k hk => by injection hk with hk; omega) h.low h.cod h.gr.size, ⟨h.gr.os, h.gr.tape, h.gr.output, by simpa using h.gr.size, fun k hk hn => ?_⟩, h.low, h.cod⟩
  exact (hx.block k (Nat.lt_of_lt_of_le hk h.gr.size) (fun e => by injection e with e; omega)).trans (h.gr.block k hk hn)
theorem St.apart {w0 w : World} {g : Nat} {a : Option Addr} {n c : Nat} {f : Nat → Nat} {K : Nat} {T : TypeId} {v : Value} {l : List (Int × Int)} (h : St w0 w g a n c f K T v l) {b : Nat} (hb : w.heap.size ≤ b) : v.ownBlock ≠ some b := fun e => by
  have := (h.own.lt b e).2; omega
theorem s1_list (w : World) (T : TypeId) (xs : List Int) : S1 (w.alloc (.cells ((xs.map (Value.int .i64)).toArray) T)) (some ⟨w.heap.size, 0, none⟩) xs.length (fun j => xs.getD j 0) := fun _ => by
  refine ⟨w.heap.size, 0, rfl, by simp, fun j hj => ?_⟩
  rw [Nat.zero_add, (Blk.new w _ T).cell j]
  simp [hj, List.getD]
def postX1 (w : World) (g : Nat) (a : Option Addr) (n c : Nat) (f : Nat → Nat) (K : Nat) (e : Ending) (w' : World) : Prop := ∃ x : Int, e = .returned (.int .i64 x) ∧ Src w' g a n c f (K + 2) ∧ w.grownBy w' (some g)
/-- one of a list written out -/
theorem amongL_c (g : Nat) (a : Option Addr) (n c : Nat) (f : Nat → Nat) (K : Nat) (T : TypeId) (xs : List Int) (w : World) (hn : n ≤ 1048576) (hK : K ≤ 999999) (hd : Src (w.alloc (.cells ((xs.map (Value.int .i64)).toArray) T)) g a n c f K) (h1 : 1 ≤ xs.length) (h2 : xs.length ≤ 1048576) (hg : g < w.heap.size) :
    Calls Try.prog 30 #[.pointer (some ⟨g, 0, none⟩), .slice (some ⟨w.heap.size, 0, none⟩) xs.length xs.length] (w.alloc (.cells ((xs.map (Value.int .i64)).toArray) T)) (postX1 (w.alloc (.cells ((xs.map (Value.int .i64)).toArray) T)) g a n c f K) :=
  (among_c g a n c f K (some ⟨w.heap.size, 0, none⟩) xs.length xs.length (fun j => xs.getD j 0) _ hn hK hd h1 h2 (s1_list w T xs) (fun ad e => by cases e; dsimp only; omega)).mono fun e w' ⟨j, he, hj, hs, hgr⟩ => ⟨_, he, hs, hgr⟩
/-- a train drawn -/
def postTr (w0 : World) (g : Nat) (a : Option Addr) (n c : Nat) (f : Nat → Nat) (K m : Nat) (e : Ending) (w' : World) : Prop := ∃ b cap l, e = .returned (.slice b l.length cap) ∧ l.length ≤ m ∧ St w0 w' g a n c f K 55 (.slice b l.length cap) l
set_option maxHeartbeats 4000000 in
theorem l05Draw_c (g : Nat) (a : Option Addr) (n c : Nat) (f : Nat → Nat) (K : Nat) (w : World) (hn : n ≤ 1048576) (hK : K ≤ 900000) (hd : Src w g a n c f K) (hg : g < w.heap.size) (hcd : 0 < n → ∀ ad, a = some ad → ad.block < w.heap.size) :
    Calls Try.prog 29 #[.pointer (some ⟨g, 0, none⟩), .int .i64 5] w (postTr w g a n c f (K + 30) 5) := by
  have s0 : St w w g a n c f K 55 (.slice none 0 0) [] := ⟨World.ownsRow_nil _ _ _ _, hd, grown_refl _ _, hg, hcd⟩
  go_enter Try.func29, Try.ntmps29
  go_wp2_with fail
  refine (pick_c g a n c f K 6 _ hn (by omega) (s0.alloc _).src).mono ?_
  rintro e w1 ⟨x1, rfl, y1, y1', z1, hs1, hg1⟩
  have s1 : St w w1 g a n c f (K + 2) 55 (.slice (some ⟨w.heap.size, 0, none⟩) 0 0) [] := by
    refine St.drawn (w := w.alloc (.cells #[] 55)) ⟨World.ownsRow_made _ #[] 0 (Ext.size (by repeat (first | with_reducible exact Ext.refl _ | with_reducible assumption | with_reducible refine Ext.alloc ?_ _ | with_reducible refine Ext.drew ?_ | (with_reducible refine Ext.setAt ?_ _ _ _ ?_; rotate_left; omega) | with_reducible refine Ext.trans ?_ (by assumption) | with_reducible exact Past.bel _ | with_reducible refine Ext.trans ?_ (Past.bel _)))) (Nat.zero_le _) rfl, (s0.alloc _).src, (s0.alloc _).gr, hg, hcd⟩ hs1 hg1
  have S1' := Lib.hid s1
  clear s0 s1 hs1 hg1
  go_wp2_with fail
  go_loopw [5, 6] (fun v5 v6 wr => ∃ (l : List (Int × Int)) (k : Int), v6 = .int .i64 k ∧ 0 ≤ k ∧ k ≤ 5 ∧ l.length + k.toNat ≤ 5 ∧ St w wr g a n c f (K + 2 + 4 * (5 - k.toNat)) 55 v5 l) (fun _ v6 _ => (intOf v6).toNat)
  case atStart => exact ⟨[], x1, rfl, by omega, by omega, by simp; omega, S1'.out.le (by omega)⟩
  case round =>
    obtain ⟨l, k, rfl, k0, k1, hl, hst⟩ := hrel
    have ST := Lib.hid hst
    clear hst
    by_cases hk : 0 < k
    · have hz := ST.out.gr.size
      have hg0 := ST.out.low
      go_wp2_with fail
      refine (amongL_c g a n c f _ _ [64, 60, 96, 75, 80, 54, 7, 239] _ hn (by omega) (ST.out.alloc _).src (by decide) (by decide) (by omega)).mono ?_
      rintro e w2 ⟨x, rfl, hs2, hg2⟩
      have s2 := (ST.out.alloc _).drawn hs2 hg2
      have hz2 := s2.gr.size
      have S2' := Lib.hid s2
      clear s2 hs2 hg2
      go_wp2_with fail
      obtain ⟨V, hV⟩ : ∃ V, V = w2.alloc (.cells #[.int .i64 x, .int .i64 0] 55) := ⟨_, rfl⟩
      have hVs : V.heap.size = w2.heap.size + 1 := by rw [hV]; simp
      have hVB : Blk V w2.heap.size 55 #[.int .i64 x, .int .i64 0] := by rw [hV]; exact Blk.new _ _ _
      have hVA := S2'.out.apart (Nat.le_refl w2.heap.size)
      have SV := Lib.hid (show St w V g a n c f _ 55 _ l from by rw [hV]; exact S2'.out.alloc _)
      rw [← hV, ← hVs]
      have HVA := Lib.hid hVA
      clear hV hVA S2'
      refine (amongL_c g a n c f _ _ [8, 10, 12, 7, 6, 40, 96, 240] _ hn (by omega) (SV.out.alloc _).src (by decide) (by decide) (by omega)).mono ?_
      rintro e w3 ⟨y, rfl, hs3, hg3⟩
      have s3 := (SV.out.alloc _).drawn hs3 hg3
      have hz3 := s3.gr.size
      have hB3 : Blk w3 w2.heap.size 55 #[.int .i64 x, .int .i64 0] := (hg3.block _ (hVB.ext (by repeat (first | with_reducible exact Ext.refl _ | with_reducible assumption | with_reducible refine Ext.alloc ?_ _ | with_reducible refine Ext.drew ?_ | (with_reducible refine Ext.setAt ?_ _ _ _ ?_; rotate_left; omega) | with_reducible refine Ext.trans ?_ (by assumption) | with_reducible exact Past.bel _ | with_reducible refine Ext.trans ?_ (Past.bel _)))).lt (fun e => by injection e with e; omega)).trans (hVB.ext (by repeat (first | with_reducible exact Ext.refl _ | with_reducible assumption | with_reducible refine Ext.alloc ?_ _ | with_reducible refine Ext.drew ?_ | (with_reducible refine Ext.setAt ?_ _ _ _ ?_; rotate_left; omega) | with_reducible refine Ext.trans ?_ (by assumption) | with_reducible exact Past.bel _ | with_reducible refine Ext.trans ?_ (Past.bel _))))
      obtain ⟨⟨m1, m2⟩, m3, m4⟩ := hB3.cells2
      have s4 := s3.put (b := w2.heap.size) (by omega) HVA.out 1 (.int .i64 y)
      have S4 := Lib.hid s4
      have hlt3 := hB3.lt
      clear s3 s4 hs3 hg3 hVB hB3
      go_wp2_with (at_builtin; refine app2 24 _ _ _ rfl rfl Try.underlying24 info_pr rfl x y _ rfl rfl (S4.out.alloc _) (by have := Blk.new (w3.setCell ⟨w2.heap.size, 1, none⟩ (.int .i64 y)) #[.int .i64 x, .int .i64 y] 55; rwa [World.size_setCell] at this) (by omega) ?_; intro v6 w6 s6)
      exact ⟨⟨l ++ [(x, y)], k - 1, by go_num, by omega, by omega, by simp; omega, s6.le (by omega)⟩, by simp [intOf]; omega⟩
    · have k00 : k = 0 := by omega
      subst k00
      obtain ⟨b, cap, rfl⟩ := own_form ST.out.own
      go_wp2_with fail
      go_ret
      exact ⟨b, cap, l, rfl, by omega, ST.out.le (by omega)⟩
end Go.Proofs.Ytaalceckofgbhaa

namespace Go.Proofs.Ytaalceckofgbhaa
open Go.RowKit
set_option linter.unusedVariables false
set_option linter.unusedSimpArgs false

section
variable {w0 w w1 : World} {g : Nat} {a : Option Addr} {n c : Nat} {f : Nat → Nat} {K K' : Nat} {T : TypeId} {v : Value} {l : List (Int × Int)}
/-- 'out = append(out, T{p, q}, T{r, s})' -/
theorem app4 {P : Program} {ops : Array Oper} {rest : List Oper} {o : Oper} {A : Act} {Q : Exit → Act → World → Prop} (t : TypeId) (s x : Operand) (z : Value)
    (hop : o.op = .call { callee := .builtin .append, args := #[s, x], argTypes := #[t, t] }) (hgd : o.guard = none)
    (ht : P.underlying t = some (.slice T)) (hinfo : (P.info? T).map (fun i => (i.zero, i.size, i.bytes)) = some (some z, 2, 16)) (hz : z.cells.size = 2)
    (p q p2 q2 : Int) (gb : Nat) (hs : A.eval s = v) (hx : A.eval x = .slice (some ⟨gb, 0, none⟩) 2 2) (h : St w0 w g a n c f K T v l)
    (hc : Blk w gb T #[.int .i64 p, .int .i64 q, .int .i64 p2, .int .i64 q2]) (hl : l.length ≤ 1048576)
    (hK : ∀ v' w', St w0 w' g a n c f K T v' (l ++ [(p, q), (p2, q2)]) → wpList P ops Q rest (A.put o.dst v') w') : wpList P ops Q (o :: rest) A w := by
  obtain ⟨i, hi, hz', hsz, hb⟩ := info_parts hinfo
  refine wpList_append_own (P := P) w hgd s x t hop w0.heap.size T i z 2 16 ht hi hz' hsz hb hz (by decide) v l.length _ hs h.own ⟨gb, 0, none⟩ 2 2 [.int .i64 p, .int .i64 q, .int .i64 p2, .int .i64 q2] hx rfl ?_ ?_ ?_ ?_ h.gr.size ?_
  · exact World.news_of_block hc
  · intro u hu
    simp at hu; rcases hu with rfl | rfl | rfl | rfl <;> rfl
  · unfold maxLen; omega
  · omega
  · intro v' w' h1 h2 _
    have hr : ∀ k, v.ownBlock = some k → w0.heap.size ≤ k := fun k hk => (h.own.lt k hk).1
    refine hK v' w' ⟨?_, h.src.keep h2 hr h.low h.cod h.gr.size, ⟨h2.os.trans h.gr.os, h2.tape.trans h.gr.tape, h2.output.trans h.gr.output, Nat.le_trans h.gr.size h2.size, fun k hk hn => ?_⟩, h.low, h.cod⟩
    · rw [PR_app, List.length_append]; have e1 : PR [(p, q), (p2, q2)] = [.int .i64 p, .int .i64 q, .int .i64 p2, .int .i64 q2] := rfl
      rw [e1]; simpa using h1
    · exact (h2.block k (Nat.lt_of_lt_of_le hk h.gr.size) (fun e => by have := hr k e.symm; omega)).trans (h.gr.block k hk hn)
end
set_option maxHeartbeats 4000000 in
theorem l05Bent_c (g : Nat) (a : Option Addr) (n c : Nat) (f : Nat → Nat) (K : Nat) (w : World) (hn : n ≤ 1048576) (hK : K ≤ 900000) (hd : Src w g a n c f K) (hg : g < w.heap.size) (hcd : 0 < n → ∀ ad, a = some ad → ad.block < w.heap.size) :
    Calls Try.prog 15 #[.pointer (some ⟨g, 0, none⟩)] w (postTr w g a n c f (K + 40) 7) := by
  go_enter Try.func15, Try.ntmps15
  go_wp2_with fail
  refine (l05Draw_c g a n c f K _ hn hK hd hg hcd).mono ?_
  rintro e w1 ⟨b, cap, l, rfl, hl, s1⟩
  have hz1 := s1.gr.size
  go_wp2_with fail
  refine (pick_c g a n c f (K + 30) 16 _ hn (by omega) s1.src).mono ?_
  rintro e w2 ⟨x, rfl, y1, y1', z1, hs2, hg2⟩
  have s2 := s1.drawn hs2 hg2
  have hz2 := s2.gr.size
  have S2' := Lib.hid s2
  clear s1 s2 hs2 hg2
  by_cases d0 : x = 0
  · subst d0
    go_wp2_with fail
    refine (amongL_c g a n c f _ _ [5, 6, 240, 241] _ hn (by omega) (S2'.out.alloc _).src (by decide) (by decide) (by omega)).mono ?_
    rintro e w3 ⟨y, rfl, hs3, hg3⟩
    have S3 := Lib.hid ((S2'.out.alloc _).drawn hs3 hg3)
    clear hs3 hg3
    go_wp2_with (at_builtin; refine app2 24 _ _ _ rfl rfl Try.underlying24 info_pr rfl y 10 _ rfl rfl (S3.out.alloc _) (Blk.new _ _ _) (by omega) ?_; intro v6 w6 s6)
    obtain ⟨b6, cap6, rfl⟩ := own_form s6.own
    have S6 := Lib.hid s6
    clear s6
    go_ret
    exact ⟨b6, cap6, l ++ [(y, 10)], rfl, by simp; omega, S6.out.le (by omega)⟩
  · by_cases d1 : x = 1
    · subst d1
      go_wp2_with fail
      refine (amongL_c g a n c f _ _ [0, 5, 240, 241, -8] _ hn (by omega) (S2'.out.alloc _).src (by decide) (by decide) (by omega)).mono ?_
      rintro e w3 ⟨y, rfl, hs3, hg3⟩
      have S3 := Lib.hid ((S2'.out.alloc _).drawn hs3 hg3)
      clear hs3 hg3
      go_wp2_with (at_builtin; refine app2 24 _ _ _ rfl rfl Try.underlying24 info_pr rfl 60 y _ rfl rfl (S3.out.alloc _) (Blk.new _ _ _) (by omega) ?_; intro v6 w6 s6)
      obtain ⟨b6, cap6, rfl⟩ := own_form s6.own
      have S6 := Lib.hid s6
      clear s6
      go_ret
      exact ⟨b6, cap6, l ++ [(60, y)], rfl, by simp; omega, S6.out.le (by omega)⟩
    · by_cases d2 : x = 2
      · subst d2
        go_wp2_with (at_builtin; refine app4 24 _ _ _ rfl rfl Try.underlying24 info_pr rfl 60 8 60 8 _ rfl rfl (S2'.out.alloc _) (Blk.new _ _ _) (by omega) ?_; intro v6 w6 s6)
        obtain ⟨b6, cap6, rfl⟩ := own_form s6.own
        have S6 := Lib.hid s6
        clear s6
        go_ret
        exact ⟨b6, cap6, l ++ [(60, 8), (60, 8)], rfl, by simp; omega, S6.out.le (by omega)⟩
      · by_cases d3 : x = 3
        · subst d3
          go_wp2_with fail
          go_ret
          refine ⟨some ⟨w2.heap.size, 0, none⟩, 5, [(239, 7), (233, 11), (229, 13), (227, 17), (223, 19)], rfl, by decide, ?_⟩
          have e : Ext w2 (w2.alloc (.cells #[.int .i64 239, .int .i64 7, .int .i64 233, .int .i64 11, .int .i64 229, .int .i64 13, .int .i64 227, .int .i64 17, .int .i64 223, .int .i64 19] 55)) := (by repeat (first | with_reducible exact Ext.refl _ | with_reducible assumption | with_reducible refine Ext.alloc ?_ _ | with_reducible refine Ext.drew ?_ | (with_reducible refine Ext.setAt ?_ _ _ _ ?_; rotate_left; omega) | with_reducible refine Ext.trans ?_ (by assumption) | with_reducible exact Past.bel _ | with_reducible refine Ext.trans ?_ (Past.bel _)))
          exact ⟨⟨rfl, .inr ⟨w2.heap.size, 5, _, rfl, hz2, heap_alloc_new w2 _, Nat.le_refl _, by decide, rfl, rfl⟩⟩, ((S2'.out.alloc _).src).le (by omega), (S2'.out.alloc _).gr, hg, hcd⟩
        · have e0 : (x == 0) = false := by simpa using d0
          have e1 : (x == 1) = false := by simpa using d1
          have e2 : (x == 2) = false := by simpa using d2
          have e3 : (x == 3) = false := by simpa using d3
          go_wp2_with fail
          go_ret
          exact ⟨b, cap, l, rfl, by omega, S2'.out.le (by omega)⟩
end Go.Proofs.Ytaalceckofgbhaa

namespace Go.Proofs.Ytaalceckofgbhaa
open Go.RowKit
set_option linter.unusedVariables false
set_option linter.unusedSimpArgs false

def postXg (w : World) (g : Nat) (a : Option Addr) (n c : Nat) (f : Nat → Nat) (K : Nat) (e : Ending) (w' : World) : Prop := ∃ x : Int, e = .returned (.int .i64 x) ∧ Src w' g a n c f K ∧ w.grownBy w' (some g)
set_option maxHeartbeats 1000000 in
theorem l13DrawPull_c (g : Nat) (a : Option Addr) (n c : Nat) (f : Nat → Nat) (K : Nat) (w : World) (hn : n ≤ 1048576) (hK : K ≤ 900000) (hd : Src w g a n c f K) (hg : g < w.heap.size) (hcd : 0 < n → ∀ ad, a = some ad → ad.block < w.heap.size) :
    Calls Try.prog 16 #[.pointer (some ⟨g, 0, none⟩)] w (postXg w g a n c f (K + 4)) := by
  have s0 : Rs w w g a n c f K := ⟨hd, grown_refl _ _, hg, hcd⟩
  go_enter Try.func16, Try.ntmps16
  go_wp2_with fail
  refine (one_c g a n c f K 10 _ hn (by omega) s0.src).mono ?_
  rintro e w1 ⟨bb, rfl, hs1, hg1⟩
  have S1' := Lib.hid (s0.drawn hs1 hg1)
  have hz1 := S1'.out.gr.size
  clear hs1 hg1 s0
  cases bb
  · go_wp2_with fail
    refine (pick_c g a n c f (K + 2) 60000 _ hn (by omega) S1'.out.src).mono ?_
    rintro e w2 ⟨x, rfl, y1, y1', y2, hs2, hg2⟩
    have S2' := Lib.hid (S1'.out.drawn hs2 hg2)
    clear hs2 hg2
    go_wp2_with fail
    go_ret
    exact ⟨x, rfl, S2'.out.src, S2'.out.gr⟩
  · go_wp2_with fail
    refine (amongL_c g a n c f (K + 2) _ [-1, 0, 1000000, 1000001] _ hn (by omega) (S1'.out.ext (by repeat (first | with_reducible exact Ext.refl _ | with_reducible assumption | with_reducible refine Ext.alloc ?_ _ | with_reducible refine Ext.drew ?_ | (with_reducible refine Ext.setAt ?_ _ _ _ ?_; rotate_left; omega) | with_reducible refine Ext.trans ?_ (by assumption) | with_reducible exact Past.bel _ | with_reducible refine Ext.trans ?_ (Past.bel _)))).src (by decide) (by decide) (by omega)).mono ?_
    rintro e w2 ⟨x, rfl, hs2, hg2⟩
    have S2' := Lib.hid ((S1'.out.ext (w1 := w1.alloc _) (by repeat (first | with_reducible exact Ext.refl _ | with_reducible assumption | with_reducible refine Ext.alloc ?_ _ | with_reducible refine Ext.drew ?_ | (with_reducible refine Ext.setAt ?_ _ _ _ ?_; rotate_left; omega) | with_reducible refine Ext.trans ?_ (by assumption) | with_reducible exact Past.bel _ | with_reducible refine Ext.trans ?_ (Past.bel _)))).drawn hs2 hg2)
    clear hs2 hg2
    go_wp2_with fail
    go_ret
    exact ⟨x, rfl, S2'.out.src, S2'.out.gr⟩
set_option maxHeartbeats 1000000 in
theorem l13DrawLoss_c (g : Nat) (a : Option Addr) (n c : Nat) (f : Nat → Nat) (K : Nat) (w : World) (hn : n ≤ 1048576) (hK : K ≤ 900000) (hd : Src w g a n c f K) (hg : g < w.heap.size) (hcd : 0 < n → ∀ ad, a = some ad → ad.block < w.heap.size) :
    Calls Try.prog 17 #[.pointer (some ⟨g, 0, none⟩)] w (postXg w g a n c f (K + 4)) := by
  have s0 : Rs w w g a n c f K := ⟨hd, grown_refl _ _, hg, hcd⟩
  go_enter Try.func17, Try.ntmps17
  go_wp2_with fail
  refine (one_c g a n c f K 10 _ hn (by omega) s0.src).mono ?_
  rintro e w1 ⟨bb, rfl, hs1, hg1⟩
  have S1' := Lib.hid (s0.drawn hs1 hg1)
  have hz1 := S1'.out.gr.size
  clear hs1 hg1 s0
  cases bb
  · go_wp2_with fail
    refine (pick_c g a n c f (K + 2) 200 _ hn (by omega) S1'.out.src).mono ?_
    rintro e w2 ⟨x, rfl, y1, y1', y2, hs2, hg2⟩
    have S2' := Lib.hid (S1'.out.drawn hs2 hg2)
    clear hs2 hg2
    go_wp2_with fail
    go_ret
    exact ⟨x, rfl, S2'.out.src, S2'.out.gr⟩
  · go_wp2_with fail
    refine (amongL_c g a n c f (K + 2) _ [-1, 0, 1000, 1001] _ hn (by omega) (S1'.out.ext (by repeat (first | with_reducible exact Ext.refl _ | with_reducible assumption | with_reducible refine Ext.alloc ?_ _ | with_reducible refine Ext.drew ?_ | (with_reducible refine Ext.setAt ?_ _ _ _ ?_; rotate_left; omega) | with_reducible refine Ext.trans ?_ (by assumption) | with_reducible exact Past.bel _ | with_reducible refine Ext.trans ?_ (Past.bel _)))).src (by decide) (by decide) (by omega)).mono ?_
    rintro e w2 ⟨x, rfl, hs2, hg2⟩
    have S2' := Lib.hid ((S1'.out.ext (w1 := w1.alloc _) (by repeat (first | with_reducible exact Ext.refl _ | with_reducible assumption | with_reducible refine Ext.alloc ?_ _ | with_reducible refine Ext.drew ?_ | (with_reducible refine Ext.setAt ?_ _ _ _ ?_; rotate_left; omega) | with_reducible refine Ext.trans ?_ (by assumption) | with_reducible exact Past.bel _ | with_reducible refine Ext.trans ?_ (Past.bel _)))).drawn hs2 hg2)
    clear hs2 hg2
    go_wp2_with fail
    go_ret
    exact ⟨x, rfl, S2'.out.src, S2'.out.gr⟩
/-- a drawn list of pairs and two numbers -/
def postDr (w : World) (e : Ending) (w' : World) : Prop := ∃ b m cap h o x y, e = .returned (.tuple #[.slice b m cap, .int .i64 x, .int .i64 y]) ∧ m ≤ 7 ∧ S2 w' b m h o ∧ Ext w w'
theorem postDr_of {w w1 w' : World} {g : Nat} {a : Option Addr} {n c : Nat} {f : Nat → Nat} {K : Nat} {T : TypeId} {b : Option Addr} {cap : Nat} {l : List (Int × Int)} {x y : Int} (h : St w1 w' g a n c f K T (.slice b l.length cap) l) (hl : l.length ≤ 7) (hx : Ext w w1) (hg : w.heap.size ≤ g) :
    postDr w (.returned (.tuple #[.slice b l.length cap, .int .i64 x, .int .i64 y])) w' :=
  ⟨b, l.length, cap, _, _, x, y, rfl, hl, own_s2 h.own rfl, grown_up h.gr hx hg⟩
set_option maxHeartbeats 1000000 in
theorem drawPullAlong_c (a : Option Addr) (n c : Nat) (f : Nat → Nat) (w : World) (hn : n ≤ 1048576) (hs : U8 w a n f) (hl : ∀ j, j < n → f j ≤ 255) :
    Calls Try.prog 5 #[.slice a n c] w (postDr w) := by
  go_enter Try.func5, Try.ntmps5
  go_wp2_with fail
  refine (li_from a n c f w hs hl).mono ?_
  rintro e w1 ⟨rfl, hs1, hx1⟩
  have hcd : 0 < n → ∀ ad, a = some ad → ad.block < w1.heap.size := fun h0 ad e => by have := hs.low' h0 ad e; have := hx1.size; omega
  have hgl : w.heap.size < w1.heap.size := by obtain ⟨i, hh, hb, _⟩ := hs1.blk; exact hb.lt
  have HCD := Lib.hid hcd
  have HS1 := Lib.hid hs1
  clear hcd hs1
  go_wp2_with fail
  refine (l05Bent_c _ a n c f 0 _ hn (by omega) HS1.out hgl HCD.out).mono ?_
  rintro e w2 ⟨b, cap, l, rfl, hll, s2⟩
  have S2' := Lib.hid s2
  have hz2 := s2.gr.size
  clear s2
  go_wp2_with fail
  refine (l13DrawPull_c _ a n c f _ _ hn (by omega) S2'.out.src (by omega) (fun h0 ad e => by have := HCD.out h0 ad e; omega)).mono ?_
  rintro e w3 ⟨x, rfl, hs3, hg3⟩
  have S3 := Lib.hid (S2'.out.drawn hs3 hg3)
  have hz3 := hg3.size
  clear hs3 hg3
  go_wp2_with fail
  refine (l13DrawLoss_c _ a n c f _ _ hn (by omega) S3.out.src (by omega) (fun h0 ad e => by have := HCD.out h0 ad e; omega)).mono ?_
  rintro e w4 ⟨y, rfl, hs4, hg4⟩
  have S4 := Lib.hid (S3.out.drawn hs4 hg4)
  clear hs4 hg4
  go_wp2_with fail
  refine bodyPost_ret (v := .tuple #[.slice b l.length cap, .int .i64 x, .int .i64 y]) (by simp [results, Try.results5, go_sem]) rfl (postDr_of S4.out hll hx1 (Nat.le_refl _))
set_option maxHeartbeats 1000000 in
theorem drawLeastPull_c (a : Option Addr) (n c : Nat) (f : Nat → Nat) (w : World) (hn : n ≤ 1048576) (hs : U8 w a n f) (hl : ∀ j, j < n → f j ≤ 255) :
    Calls Try.prog 11 #[.slice a n c] w (postDr w) := by
  go_enter Try.func11, Try.ntmps11
  go_wp2_with fail
  refine (li_from a n c f w hs hl).mono ?_
  rintro e w1 ⟨rfl, hs1, hx1⟩
  have hcd : 0 < n → ∀ ad, a = some ad → ad.block < w1.heap.size := fun h0 ad e => by have := hs.low' h0 ad e; have := hx1.size; omega
  have hgl : w.heap.size < w1.heap.size := by obtain ⟨i, hh, hb, _⟩ := hs1.blk; exact hb.lt
  have HCD := Lib.hid hcd
  have HS1 := Lib.hid hs1
  clear hcd hs1
  go_wp2_with fail
  refine (l05Bent_c _ a n c f 0 _ hn (by omega) HS1.out hgl HCD.out).mono ?_
  rintro e w2 ⟨b, cap, l, rfl, hll, s2⟩
  have S2' := Lib.hid s2
  have hz2 := s2.gr.size
  clear s2
  go_wp2_with fail
  refine (pick_c _ a n c f _ 500 _ hn (by omega) S2'.out.src).mono ?_
  rintro e w3 ⟨x, rfl, y1, y1', y2, hs3, hg3⟩
  have S3 := Lib.hid (S2'.out.drawn hs3 hg3)
  have hz3 := hg3.size
  clear hs3 hg3 y1' y1 y2
  go_wp2_with fail
  refine (one_c _ a n c f _ 8 _ hn (by omega) S3.out.src).mono ?_
  rintro e w4 ⟨bb, rfl, hs4, hg4⟩
  have S4 := Lib.hid (S3.out.drawn hs4 hg4)
  have hz4 := hg4.size
  clear hs4 hg4
  cases bb
  · go_wp2_with fail
    refine (l13DrawLoss_c _ a n c f _ _ hn (by omega) S4.out.src (by omega) (fun h0 ad e => by have := HCD.out h0 ad e; omega)).mono ?_
    rintro e w5 ⟨y, rfl, hs5, hg5⟩
    have S5 := Lib.hid (S4.out.drawn hs5 hg5)
    clear hs5 hg5
    go_wp2_with fail
    refine bodyPost_ret (v := .tuple #[.slice b l.length cap, .int .i64 x, .int .i64 y]) (by simp [results, Try.results11, go_sem]) rfl (postDr_of S5.out hll hx1 (Nat.le_refl _))
  · go_wp2_with fail
    refine (l13DrawPull_c _ a n c f _ _ hn (by omega) S4.out.src (by omega) (fun h0 ad e => by have := HCD.out h0 ad e; omega)).mono ?_
    rintro e w5 ⟨x2, rfl, hs5, hg5⟩
    have S5 := Lib.hid (S4.out.drawn hs5 hg5)
    have hz5 := hg5.size
    clear hs5 hg5
    go_wp2_with fail
    refine (l13DrawLoss_c _ a n c f _ _ hn (by omega) S5.out.src (by omega) (fun h0 ad e => by have := HCD.out h0 ad e; omega)).mono ?_
    rintro e w6 ⟨y, rfl, hs6, hg6⟩
    have S6 := Lib.hid (S5.out.drawn hs6 hg6)
    clear hs6 hg6
    go_wp2_with fail
    refine bodyPost_ret (v := .tuple #[.slice b l.length cap, .int .i64 x2, .int .i64 y]) (by simp [results, Try.results11, go_sem]) rfl (postDr_of S6.out hll hx1 (Nat.le_refl _))
end Go.Proofs.Ytaalceckofgbhaa

namespace Go.Proofs.Ytaalceckofgbhaa
open Go.RowKit
set_option linter.unusedVariables false
set_option linter.unusedSimpArgs false

set_option maxRecDepth 100000 in
set_option maxHeartbeats 8000000 in
theorem walkPullAlong (a : Option Addr) (n c : Nat) (f : Nat → Nat) (hm : n ≤ maxLen) (w : World) (hs : U8 w a n f) (hl : ∀ j, j < n → f j ≤ 255) :
    Calls Try.prog 3 #[.slice a n c] w fun e w' => e = .returned (.bool true) ∧ Ext w w' := by
  by_cases hn : n ≤ 4096
  · have e1 : decide (4096 < n) = false := decide_eq_false (by omega)
    go_enter Try.func3, Try.ntmps3
    go_wp2_with (go_at_call 4; ((with_reducible refine (f6big_c _ _ _ _).mono ?_); rintro e w' ⟨rfl, rfl⟩))
    refine (drawPullAlong_c a n c f w (by omega) hs hl).mono ?_
    rintro e w2 ⟨b, m, cap, h, o, x, y, rfl, hm7, hs2, hx2⟩
    obtain ⟨N, hN⟩ : ∃ N, N = alN m h o x y := ⟨_, rfl⟩
    obtain ⟨C, hC⟩ : ∃ N, N = alC m h o x y := ⟨_, rfl⟩
    have hN6 : N ≤ 6 := by rw [hN]; exact alN_le
    have HNC := Lib.hid (And.intro hN hC)
    have HS2 := Lib.hid hs2
    have HPA := Lib.hid (show Calls Try.prog 6 #[.slice b m cap, .int .i64 x, .int .i64 y] w2 (fun e w' => ∃ b3 cap3, e = .returned (.tuple #[.slice b3 N cap3, .int .i64 C]) ∧ Ext w2 w' ∧ S1 w' b3 N (plk h o x y)) from by rw [hN, hC]; exact implPullAlong_c b m cap h o x y w2 (by omega) hs2)
    have HPB := Lib.hid (fun (W : World) (hq : Ext w2 W) => (show Calls Try.prog 7 #[.slice b m cap, .int .i64 x, .int .i64 y] W (fun e w' => ∃ b3 cap3, e = .returned (.tuple #[.slice b3 N cap3, .int .i64 C]) ∧ Ext W w' ∧ S1 w' b3 N (plk h o x y)) from by rw [hN, hC]; exact specPullAlong_c b m cap h o x y W (by omega) (hs2.ext hq)))
    clear hN hC hs2
    go_wp2_with fail
    refine HPA.out.mono ?_
    rintro e w3 ⟨b3, cap3, rfl, hx3, hs3⟩
    have HS3 := Lib.hid hs3
    clear hs3
    go_wp2_with fail
    refine (HPB.out w3 hx3).mono ?_
    rintro e w4 ⟨b4, cap4, rfl, hx4, hs4⟩
    have HS4 := Lib.hid hs4
    have c1 : (C != C) = false := by simp
    have hw4 : Ext w w4 := Ext.trans (Ext.trans hx2 hx3) hx4
    clear hs4 HPA HPB
    go_upto_if 56 with (go_at_call 8; ((with_reducible refine (f6same_self _ _ _ _ _ _ _ (by omega) (HS3.out.ext (by repeat (first | with_reducible exact Ext.refl _ | with_reducible assumption | with_reducible refine Ext.alloc ?_ _ | with_reducible refine Ext.drew ?_ | (with_reducible refine Ext.setAt ?_ _ _ _ ?_; rotate_left; omega) | with_reducible refine Ext.trans ?_ (by assumption) | with_reducible exact Past.bel _ | with_reducible refine Ext.trans ?_ (Past.bel _)))) (HS4.out.ext (by repeat (first | with_reducible exact Ext.refl _ | with_reducible assumption | with_reducible refine Ext.alloc ?_ _ | with_reducible refine Ext.drew ?_ | (with_reducible refine Ext.setAt ?_ _ _ _ ?_; rotate_left; omega) | with_reducible refine Ext.trans ?_ (by assumption) | with_reducible exact Past.bel _ | with_reducible refine Ext.trans ?_ (Past.bel _))))).mono ?_); rintro e w' ⟨rfl, hx⟩; (first | (obtain ⟨wx, rfl⟩ := Past.again hx) | (obtain ⟨wx, rfl⟩ := Past.ofd hx) | (obtain ⟨wx, rfl⟩ := Past.of hx))))
    have hx5 : Ext w4 wx.out := (by repeat (first | with_reducible exact Ext.refl _ | with_reducible assumption | with_reducible refine Ext.alloc ?_ _ | with_reducible refine Ext.drew ?_ | (with_reducible refine Ext.setAt ?_ _ _ _ ?_; rotate_left; omega) | with_reducible refine Ext.trans ?_ (by assumption) | with_reducible exact Past.bel _ | with_reducible refine Ext.trans ?_ (Past.bel _)))
    have hw5 : Ext w wx.out := Ext.trans hw4 hx5
    generalize wx.out = w5 at hx5 hw5 ⊢
    go_cut [] (fun wx => Ext w wx)
    case first =>
      by_cases c4 : C = 0
      · have c5 : (C == 0) = true := by simpa using c4
        obtain ⟨t1, t2, t3, t4, t5⟩ := al_ok (HNC.out.2.symm.trans c4)
        have hNe : N = m + 1 := HNC.out.1.trans t5
        have T1 := Lib.hid t1
        have hs5 := Lib.hid (hs.ext hw5)
        subst hNe
        clear t1 t5 HNC c4
        go_wp2_with fail
        refine (f6roll_c a n c f 1303 w5 (by omega) hs5.out).mono ?_
        rintro e w6 ⟨g, hh, rfl, hB6, hg6, hx6⟩
        have hD6 := Lib.hid (dice_of hB6)
        have hs6 := Lib.hid (hs5.out.ext hx6)
        have hlow := Lib.hid hs5.out.low'
        clear hB6
        go_wp2_with fail
        refine (below_c g a n c f 100 w6 (by decide) (by omega) hs6.out hl hD6.out (fun h0 ad e => by have := hlow.out h0 ad e; omega)).mono ?_
        rintro e w7 ⟨d, rfl, d0, d1, hD7, hg7⟩
        have hx7 : Ext w5 w7 := hx6.grown hg7 (fun k hk => by injection hk with hk; omega)
        have hx27 : Ext w2 w7 := Ext.trans (Ext.trans (Ext.trans hx3 hx4) hx5) hx7
        have hw7 : Ext w w7 := Ext.trans hw5 hx7
        obtain ⟨N8, hN8⟩ : ∃ N, N = alN m h o (x + d) y := ⟨_, rfl⟩
        obtain ⟨C8, hC8⟩ : ∃ N, N = alC m h o (x + d) y := ⟨_, rfl⟩
        have hN86 : N8 ≤ 6 := by rw [hN8]; exact alN_le
        have HNC8 := Lib.hid (And.intro hN8 hC8)
        have HPC := Lib.hid (show Calls Try.prog 6 #[.slice b m cap, .int .i64 (x + d), .int .i64 y] w7 (fun e w' => ∃ b3 cap3, e = .returned (.tuple #[.slice b3 N8 cap3, .int .i64 C8]) ∧ Ext w7 w' ∧ S1 w' b3 N8 (plk h o (x + d) y)) from by rw [hN8, hC8]; exact implPullAlong_c b m cap h o (x + d) y w7 (by omega) (HS2.out.ext hx27))
        clear hN8 hC8 hD7 hg7
        go_wp2_with fail
        refine HPC.out.mono ?_
        rintro e w8 ⟨b8, cap8, rfl, hx8, hs8⟩
        have HS8 := Lib.hid hs8
        have HS38 := Lib.hid (HS3.out.ext (Ext.trans (Ext.trans (Ext.trans hx4 hx5) hx7) hx8))
        have hw8 := Ext.trans hw7 hx8
        clear hs8 HPC
        by_cases c8 : C8 = 0
        · have c9 : (C8 == 0) = true := by simpa using c8
          obtain ⟨t6, t7, t8, t9, t10⟩ := al_ok (HNC8.out.2.symm.trans c8)
          have hNe8 : N8 = m + 1 := HNC8.out.1.trans t10
          subst hNe8
          clear t6 t10 HNC8 c8
          go_wp2_with fail
          go_loopw [12] (fun i wr => ∃ k : Nat, k ≤ m + 1 ∧ i = .int .i64 k ∧ Ext w8 wr) (fun i _ => m + 1 - (intOf i).toNat)
          case atStart => exact ⟨0, by omega, rfl, (by repeat (first | with_reducible exact Ext.refl _ | with_reducible assumption | with_reducible refine Ext.alloc ?_ _ | with_reducible refine Ext.drew ?_ | (with_reducible refine Ext.setAt ?_ _ _ _ ?_; rotate_left; omega) | with_reducible refine Ext.trans ?_ (by assumption) | with_reducible exact Past.bel _ | with_reducible refine Ext.trans ?_ (Past.bel _)))⟩
          case round =>
            obtain ⟨k, hk, rfl, hbl⟩ := hrel
            by_cases hlt : k < m + 1
            · obtain ⟨b1, o1, rfl, hb1, q1⟩ := (HS8.out.ext hbl).at hlt
              obtain ⟨b2, o2, rfl, hb2, q2⟩ := (HS38.out.ext hbl).at hlt
              have hle := plk_mono T1.out t4.2 (show x ≤ x + d by omega) k (by omega)
              generalize plk h o (x + d) y k = P1 at q1 hle
              generalize plk h o x y k = P2 at q2 hle
              have h9 : decide (P1 < P2) = false := decide_eq_false (by omega)
              go_wp2_with fail
              refine wp_region_past (by kernel_rfl) (by kernel_rfl) ?_
              repeat (go_big_quiet_step (fail))
              refine wpQuiet_nil ?_
              rintro _ ⟨wx, rfl⟩
              go_wp2_with fail
              exact ⟨⟨k + 1, by omega, by go_num, (by repeat (first | with_reducible exact Ext.refl _ | with_reducible assumption | with_reducible refine Ext.alloc ?_ _ | with_reducible refine Ext.drew ?_ | (with_reducible refine Ext.setAt ?_ _ _ _ ?_; rotate_left; omega) | with_reducible refine Ext.trans ?_ (by assumption) | with_reducible exact Past.bel _ | with_reducible refine Ext.trans ?_ (Past.bel _)))⟩, by simp [intOf]; omega⟩
            · obtain rfl : k = m + 1 := by omega
              go_wp2_with fail
              go_meet
              exact (by repeat (first | with_reducible exact Ext.refl _ | with_reducible assumption | with_reducible refine Ext.alloc ?_ _ | with_reducible refine Ext.drew ?_ | (with_reducible refine Ext.setAt ?_ _ _ _ ?_; rotate_left; omega) | with_reducible refine Ext.trans ?_ (by assumption) | with_reducible exact Past.bel _ | with_reducible refine Ext.trans ?_ (Past.bel _)))
        · have c9 : (C8 == 0) = false := by simpa using c8
          clear HNC8 c8
          go_wp2_with fail
          go_loopw [12] (fun i wr => i = .int .i64 0 ∧ Ext w8 wr) (fun i _ => 0)
          case atStart => exact ⟨rfl, (by repeat (first | with_reducible exact Ext.refl _ | with_reducible assumption | with_reducible refine Ext.alloc ?_ _ | with_reducible refine Ext.drew ?_ | (with_reducible refine Ext.setAt ?_ _ _ _ ?_; rotate_left; omega) | with_reducible refine Ext.trans ?_ (by assumption) | with_reducible exact Past.bel _ | with_reducible refine Ext.trans ?_ (Past.bel _)))⟩
          case round =>
            obtain ⟨rfl, hbl⟩ := hrel
            go_wp2_with fail
            go_meet
            exact (by repeat (first | with_reducible exact Ext.refl _ | with_reducible assumption | with_reducible refine Ext.alloc ?_ _ | with_reducible refine Ext.drew ?_ | (with_reducible refine Ext.setAt ?_ _ _ _ ?_; rotate_left; omega) | with_reducible refine Ext.trans ?_ (by assumption) | with_reducible exact Past.bel _ | with_reducible refine Ext.trans ?_ (Past.bel _)))
      · have c5 : (C == 0) = false := by simpa using c4
        go_wp2_with fail
        go_meet
        exact (by repeat (first | with_reducible exact Ext.refl _ | with_reducible assumption | with_reducible refine Ext.alloc ?_ _ | with_reducible refine Ext.drew ?_ | (with_reducible refine Ext.setAt ?_ _ _ _ ?_; rotate_left; omega) | with_reducible refine Ext.trans ?_ (by assumption) | with_reducible exact Past.bel _ | with_reducible refine Ext.trans ?_ (Past.bel _)))
    case rest =>
      have hxc : Ext w wc := hcut
      clear HS2 HS3 HS4 HNC hx2 hx3 hx4 hx5 hw4 hw5
      go_wp2_with fail
      refine (drawLeastPull_c a n c f wc (by omega) (hs.ext hxc) hl).mono ?_
      rintro e v2 ⟨bt, mt, capt, ht, ot, need, part, rfl, hmt, hst, hxt⟩
      have HST := Lib.hid hst
      have hw2 := Ext.trans hxc hxt
      clear hst
      go_wp2_with fail
      refine (implLeastPull_c bt mt capt ht ot need part v2 (by omega) HST.out).mono ?_
      rintro e v3 ⟨V, C2, rfl, hx3, hlp⟩
      go_wp2_with fail
      refine (specLeastPull_c bt mt capt ht ot need part v3 (by omega) (HST.out.ext hx3)).mono ?_
      rintro e v4 ⟨V', C2', rfl, hx4, hlp'⟩
      obtain ⟨u1, u2⟩ := hlp.one hlp'
      subst u1 u2
      have HLP := Lib.hid hlp
      have c2 : (C2 != C2) = false := by simp
      have c3 : (V != V) = false := by simp
      have hx24 := Ext.trans hx3 hx4
      have hw4 := Ext.trans hw2 hx24
      clear hlp hlp'
      by_cases c4 : C2 = 0
      · subst c4
        obtain ⟨t1, t2, t3, t4, t5, t6⟩ := HLP.out.ok
        have T1 := Lib.hid t1
        have T2 := Lib.hid t2
        have T5 := Lib.hid t5
        have T6 := Lib.hid t6
        clear t1 t2 t5 t6 HLP
        obtain ⟨r1, r2⟩ := al_is T2.out t4.1 t4.2 t3.1 t3.2
        have HPA := Lib.hid (show Calls Try.prog 6 #[.slice bt mt capt, .int .i64 V, .int .i64 part] v4 (fun e w' => ∃ b3 cap3, e = .returned (.tuple #[.slice b3 (mt + 1) cap3, .int .i64 0]) ∧ Ext v4 w' ∧ S1 w' b3 (mt + 1) (plk ht ot V part)) from by
          have := implPullAlong_c bt mt capt ht ot V part v4 (by omega) (HST.out.ext hx24)
          unfold postPA at this
          rw [r1, r2] at this
          exact this)
        obtain ⟨N5, hN5⟩ : ∃ N, N = alN mt ht ot (V - 1) part := ⟨_, rfl⟩
        obtain ⟨C5, hC5⟩ : ∃ N, N = alC mt ht ot (V - 1) part := ⟨_, rfl⟩
        have hN56 : N5 ≤ 6 := by rw [hN5]; exact alN_le
        have HNC5 := Lib.hid (And.intro hN5 hC5)
        have HPB := Lib.hid (fun (W : World) (hq : Ext v4 W) => (show Calls Try.prog 6 #[.slice bt mt capt, .int .i64 (V - 1), .int .i64 part] W (fun e w' => ∃ b3 cap3, e = .returned (.tuple #[.slice b3 N5 cap3, .int .i64 C5]) ∧ Ext W w' ∧ S1 w' b3 N5 (plk ht ot (V - 1) part)) from by rw [hN5, hC5]; exact implPullAlong_c bt mt capt ht ot (V - 1) part W (by omega) (HST.out.ext (Ext.trans hx24 hq))))
        clear r1 r2 hN5 hC5
        go_wp2_with fail
        refine HPA.out.mono ?_
        rintro e v5 ⟨b5, cap5, rfl, hx5, hs5⟩
        have HS5 := Lib.hid hs5
        clear hs5
        go_wp2_with fail
        refine (HPB.out v5 hx5).mono ?_
        rintro e v6 ⟨b6, cap6, rfl, hx6, hs6⟩
        have HS6 := Lib.hid hs6
        have hw6 := Ext.trans (Ext.trans hw4 hx5) hx6
        clear hs6
        obtain ⟨b7, o7, rfl, hb7, q7⟩ := (HS5.out.ext hx6).at (show mt < mt + 1 by omega)
        obtain ⟨P1, hP1⟩ : ∃ P, P = plk ht ot V part mt := ⟨_, rfl⟩
        rw [← hP1] at q7
        have hge : ¬ P1 < need := by have := T5.out; omega
        have hge2 : decide (P1 < need) = false := decide_eq_false hge
        have y0 : (0 : Int) ≤ (mt : Int) := by omega
        have y1 : (mt : Int) < (mt : Int) + 1 := by omega
        clear hP1
        by_cases hV : V = 0
        · subst hV
          go_wp2_with fail
          all_goals (go_ret; exact ⟨rfl, (by repeat (first | with_reducible exact Ext.refl _ | with_reducible assumption | with_reducible refine Ext.alloc ?_ _ | with_reducible refine Ext.drew ?_ | (with_reducible refine Ext.setAt ?_ _ _ _ ?_; rotate_left; omega) | with_reducible refine Ext.trans ?_ (by assumption) | with_reducible exact Past.bel _ | with_reducible refine Ext.trans ?_ (Past.bel _)))⟩)
        · have hV2 : (V == 0) = false := by simpa using hV
          obtain ⟨r3, r4⟩ := al_is T2.out (show 0 ≤ V - 1 by omega) (show V - 1 ≤ 1000000 by omega) t3.1 t3.2
          have hN : N5 = mt + 1 := HNC5.out.1.trans r4
          have hC : C5 = 0 := HNC5.out.2.trans r3
          subst hN hC
          obtain ⟨b8, o8, rfl, hb8, q8⟩ := HS6.out.at (show mt < mt + 1 by omega)
          obtain ⟨P2, hP2⟩ : ∃ P, P = plk ht ot (V - 1) part mt := ⟨_, rfl⟩
          rw [← hP2] at q8
          have hlt : P2 < need := by have := T6.out (V - 1) (by omega) (by omega); omega
          have hlt2 : decide (P2 < need) = true := decide_eq_true hlt
          clear hP2 r3 r4 HNC5
          go_wp2_with fail
          all_goals (go_ret; exact ⟨rfl, (by repeat (first | with_reducible exact Ext.refl _ | with_reducible assumption | with_reducible refine Ext.alloc ?_ _ | with_reducible refine Ext.drew ?_ | (with_reducible refine Ext.setAt ?_ _ _ _ ?_; rotate_left; omega) | with_reducible refine Ext.trans ?_ (by assumption) | with_reducible exact Past.bel _ | with_reducible refine Ext.trans ?_ (Past.bel _)))⟩)
      · have c5 : (C2 != 0) = true := by simpa using c4
        go_wp2_with fail
        go_ret
        exact ⟨rfl, (by repeat (first | with_reducible exact Ext.refl _ | with_reducible assumption | with_reducible refine Ext.alloc ?_ _ | with_reducible refine Ext.drew ?_ | (with_reducible refine Ext.setAt ?_ _ _ _ ?_; rotate_left; omega) | with_reducible refine Ext.trans ?_ (by assumption) | with_reducible exact Past.bel _ | with_reducible refine Ext.trans ?_ (Past.bel _)))⟩
  · have e1 : decide (4096 < n) = true := decide_eq_true (by omega)
    go_enter Try.func3, Try.ntmps3
    go_wp2_with (go_at_call 4; ((with_reducible refine (f6big_c _ _ _ _).mono ?_); rintro e w' ⟨rfl, rfl⟩))
    go_ret
    exact ⟨rfl, (by repeat (first | with_reducible exact Ext.refl _ | with_reducible assumption | with_reducible refine Ext.alloc ?_ _ | with_reducible refine Ext.drew ?_ | (with_reducible refine Ext.setAt ?_ _ _ _ ?_; rotate_left; omega) | with_reducible refine Ext.trans ?_ (by assumption) | with_reducible exact Past.bel _ | with_reducible refine Ext.trans ?_ (Past.bel _)))⟩
end Go.Proofs.Ytaalceckofgbhaa

namespace Go.Proofs.Ytaalceckofgbhaa
open Go.ChangeShapes Go.WideShapes Go.RowKit Go.Deep
set_option linter.unusedVariables false
section
variable {H : Type} {enc : TypeId × Value → H} {P : Program} {w : World} {base : Nat} {spare : Nat → Bool} {held : Bool}
/-- a slice of structs of one cell a field, at whatever depth -/
theorem down_rows {t e : TypeId} {fs : Array Field} {fuel : Nat} {v : Value} {x : DataW H × List MemPlace} (ht : P.underlying t = some (.slice e)) (hs : P.underlying e = some (.struct fs)) (hone : oneCellFields P fs = true) (hC : P.cellsOf e = fs.size) (hpos : 0 < fs.size)
    (hf : DataW.trod enc P w base spare held fuel t [v] = some x) :
    ∃ (a : Option Addr) (n cap : Nat) (z : Nat → Nat → Value), v = .slice a n cap ∧ n ≤ cap ∧ cap ≤ maxLen ∧
      (0 < n → ∃ b off, a = some ⟨b, off, none⟩ ∧ b < w.heap.size ∧ ∀ i, i < n → ∀ j (hj : j < fs.size), w.cell? ⟨b, off + i * fs.size + j, none⟩ = some (z i j) ∧ ∃ m y, DataW.trod enc P w base spare held m fs[j].type [z i j] = some y) := by
  rcases open_slice ht hf with ⟨hcs, _⟩ | ⟨a', len', cap', m, n', D, Pl, hcs, hb, hl, hm, hmm, hx, hcell⟩
  · simp at hcs
    subst hcs
    exact ⟨none, 0, 0, fun _ _ => .bool false, rfl, Nat.le_refl _, Nat.zero_le _, fun h => absurd h (Nat.lt_irrefl 0)⟩
  · simp at hcs
    subst hcs
    have hlm : len' ≤ m := by rw [hmm]; split <;> omega
    have hel : ∀ i, i < len' → ∃ z : Nat → Value, ∀ j (hj : j < fs.size), w.cell? (a'.add (i * fs.size + j)) = some (z j) ∧ ∃ m y, DataW.trod enc P w base spare held m fs[j].type [z j] = some y := fun i hi' => by
      obtain ⟨cs', hc, ht'⟩ := hcell i (by omega)
      rw [hC] at hc
      obtain ⟨_, hcl, hat⟩ := World.cells?_some hc
      obtain ⟨k, hl', hfl⟩ := down_struct hs hone hC ht'
      refine ⟨fun j => cs'.getD j (.bool false), fun j hj => ?_⟩
      obtain ⟨v', y, hv', hy⟩ := hfl j fs[j] (Array.getElem?_eq_getElem hj)
      have e1 : cs'.getD j (.bool false) = v' := by simp [List.getD, hv']
      refine ⟨?_, k, y, by show DataW.trod enc P w base spare held k fs[j].type [cs'.getD j (.bool false)] = some y; rw [e1]; exact hy⟩
      show w.cell? (a'.add (i * fs.size + j)) = some (cs'.getD j (.bool false))
      rw [← Go.Deep.add_add, hat j hj, e1]; exact hv'
    obtain ⟨z, hz⟩ := choose_lt hel
    refine ⟨some a', len', cap', z, rfl, hl, hm, fun hn => ?_⟩
    obtain ⟨b, off, spot⟩ := a'
    have h0 := (hz 0 hn 0 hpos).1
    have hspot : spot = none := by simpa [Addr.add] using World.cell?_spot h0
    subst hspot
    refine ⟨b, off, rfl, World.block_lt_of_cell? w ⟨b, off, none⟩ (by simpa [Addr.add] using h0), fun i hi' j hj => ?_⟩
    have h1 := hz i hi' j hj
    rw [Addr.add_lit] at h1
    rw [Nat.add_assoc]; exact h1
/-- a slice of int64s -/
theorem down_i64s {t e : TypeId} {fuel : Nat} {v : Value} {x : DataW H × List MemPlace} (ht : P.underlying t = some (.slice e)) (he : P.underlying e = some (.int .i64)) (hC : P.cellsOf e = 1)
    (hf : DataW.trod enc P w base spare held fuel t [v] = some x) :
    ∃ (a : Option Addr) (n cap : Nat) (z : Nat → Int), v = .slice a n cap ∧ n ≤ cap ∧ cap ≤ maxLen ∧ S1 w a n z ∧ ∀ j, j < n → (Lit.int .i64 (z j)).wf = true := by
  rcases open_slice ht hf with ⟨hcs, _⟩ | ⟨a', len', cap', m, n', D, Pl, hcs, hb, hl, hm, hmm, hx, hcell⟩
  · simp at hcs
    subst hcs
    exact ⟨none, 0, 0, fun _ => 0, rfl, Nat.le_refl _, Nat.zero_le _, (fun h => absurd h (Nat.lt_irrefl 0)), fun j hj => absurd hj (Nat.not_lt_zero j)⟩
  · simp at hcs
    subst hcs
    have hlm : len' ≤ m := by rw [hmm]; split <;> omega
    have hel : ∀ i, i < len' → ∃ z : Int, w.cell? (a'.add i) = some (.int .i64 z) ∧ (Lit.int .i64 z).wf = true := fun i hi' => by
      obtain ⟨cs', hc, ht'⟩ := hcell i (by omega)
      rw [hC] at hc
      obtain ⟨_, hcl, hat⟩ := World.cells?_some hc
      obtain ⟨z, hz, _, hw⟩ := DataW.trod_int he ht'
      subst hz
      have := hat 0 (by omega)
      refine ⟨z, ?_, hw⟩
      have e1 : a'.add i = (a'.add (i * 1)).add 0 := by rw [Go.Deep.add_add]; simp
      rw [e1, this]; rfl
    obtain ⟨z, hz⟩ := choose_lt hel
    refine ⟨some a', len', cap', z, rfl, hl, hm, fun hn => ?_, fun j hj => (hz j hj).2⟩
    obtain ⟨b, off, spot⟩ := a'
    have h0 := (hz 0 hn).1
    have hspot : spot = none := by simpa [Addr.add] using World.cell?_spot h0
    subst hspot
    refine ⟨b, off, rfl, World.block_lt_of_cell? w ⟨b, off, none⟩ (by simpa [Addr.add] using h0), fun i hi' => ?_⟩
    have h1 := (hz i hi').1
    rw [Addr.add_lit] at h1
    exact h1
theorem arg_i64s {r : Reach} {b0 : Nat} {t e : TypeId} {v : Value} {d : DataW H} {p : List MemPlace} (ht : P.underlying t = some (.slice e)) (he : P.underlying e = some (.int .i64)) (hC : P.cellsOf e = 1)
    (hv : Value.okWide P w r b0 t v) (h : DataW.Trod enc P w base spare held t v d p) :
    ∃ (a : Option Addr) (n cap : Nat) (z : Nat → Int), v = .slice a n cap ∧ n ≤ cap ∧ cap ≤ maxLen ∧ S1 w a n z ∧ ∀ j, j < n → (Lit.int .i64 (z j)).wf = true := by
  obtain ⟨a, n, cap, rfl⟩ := okWide_slice ht hv
  obtain ⟨fuel, hf⟩ := h
  exact down_i64s ht he hC (fuel := fuel) (by simpa [Value.cells] using hf)
end
/-- A slice of structs of 'k' cells: cell j of element i is 'z i j'. -/
def SK (w : World) (a : Option Addr) (n k : Nat) (z : Nat → Nat → Value) : Prop :=
  0 < n → ∃ b off, a = some ⟨b, off, none⟩ ∧ b < w.heap.size ∧ ∀ i, i < n → ∀ j, j < k → w.cell? ⟨b, off + i * k + j, none⟩ = some (z i j)
/-- Months: a name and two numbers each. -/
def S3 (w : World) (a : Option Addr) (n : Nat) (nm : Nat → ByteArray) (dy lp : Nat → Int) : Prop :=
  0 < n → ∃ b off, a = some ⟨b, off, none⟩ ∧ b < w.heap.size ∧ ∀ i, i < n → w.cell? ⟨b, off + i * 3, none⟩ = some (.string (nm i)) ∧ w.cell? ⟨b, off + i * 3 + 1, none⟩ = some (.int .i64 (dy i)) ∧ w.cell? ⟨b, off + i * 3 + 2, none⟩ = some (.int .i64 (lp i))
/-- Rules: two numbers and a truth value each. -/
def R3 (w : World) (a : Option Addr) (n : Nat) (ev rs : Nat → Int) (lf : Nat → Bool) : Prop :=
  0 < n → ∃ b off, a = some ⟨b, off, none⟩ ∧ b < w.heap.size ∧ ∀ i, i < n → w.cell? ⟨b, off + i * 3, none⟩ = some (.int .i64 (ev i)) ∧ w.cell? ⟨b, off + i * 3 + 1, none⟩ = some (.int .i64 (rs i)) ∧ w.cell? ⟨b, off + i * 3 + 2, none⟩ = some (.bool (lf i))
theorem S3.ext {w w' : World} {a : Option Addr} {n : Nat} {nm : Nat → ByteArray} {dy lp : Nat → Int} (s : S3 w a n nm dy lp) (e : Ext w w') : S3 w' a n nm dy lp := fun hn => by
  obtain ⟨b, off, ha, hb, hc⟩ := s hn
  exact ⟨b, off, ha, Nat.lt_of_lt_of_le hb e.size, fun j hj => by rw [e.cell hb, e.cell hb, e.cell hb]; exact hc j hj⟩
theorem S3.at {w : World} {a : Option Addr} {n : Nat} {nm : Nat → ByteArray} {dy lp : Nat → Int} (s : S3 w a n nm dy lp) {j : Nat} (hj : j < n) :
    ∃ b off, a = some ⟨b, off, none⟩ ∧ b < w.heap.size ∧ w.cell? ⟨b, off + j * 3, none⟩ = some (.string (nm j)) ∧ w.cell? ⟨b, off + j * 3 + 1, none⟩ = some (.int .i64 (dy j)) ∧ w.cell? ⟨b, off + j * 3 + 2, none⟩ = some (.int .i64 (lp j)) := by
  obtain ⟨b, off, ha, hb, hc⟩ := s (by omega)
  exact ⟨b, off, ha, hb, hc j hj⟩
theorem R3.ext {w w' : World} {a : Option Addr} {n : Nat} {ev rs : Nat → Int} {lf : Nat → Bool} (s : R3 w a n ev rs lf) (e : Ext w w') : R3 w' a n ev rs lf := fun hn => by
  obtain ⟨b, off, ha, hb, hc⟩ := s hn
  exact ⟨b, off, ha, Nat.lt_of_lt_of_le hb e.size, fun j hj => by rw [e.cell hb, e.cell hb, e.cell hb]; exact hc j hj⟩
theorem R3.at {w : World} {a : Option Addr} {n : Nat} {ev rs : Nat → Int} {lf : Nat → Bool} (s : R3 w a n ev rs lf) {j : Nat} (hj : j < n) :
    ∃ b off, a = some ⟨b, off, none⟩ ∧ b < w.heap.size ∧ w.cell? ⟨b, off + j * 3, none⟩ = some (.int .i64 (ev j)) ∧ w.cell? ⟨b, off + j * 3 + 1, none⟩ = some (.int .i64 (rs j)) ∧ w.cell? ⟨b, off + j * 3 + 2, none⟩ = some (.bool (lf j)) := by
  obtain ⟨b, off, ha, hb, hc⟩ := s (by omega)
  exact ⟨b, off, ha, hb, hc j hj⟩
end Go.Proofs.Ytaalceckofgbhaa

namespace Go.Proofs.Ytaalceckofgbhaa
open Go.ChangeShapes Go.WideShapes Go.RowKit Go.Deep
set_option linter.unusedVariables false
section
variable {H : Type} {enc : TypeId × Value → H} {P : Program} {w : World} {base : Nat} {spare : Nat → Bool} {held : Bool}
theorem down_u8s {t e : TypeId} {fuel : Nat} {v : Value} {x : DataW H × List MemPlace} (ht : P.underlying t = some (.slice e)) (he : P.underlying e = some (.int .u8)) (hC : P.cellsOf e = 1)
    (hf : DataW.trod enc P w base spare held fuel t [v] = some x) :
    ∃ (a : Option Addr) (n cap : Nat) (f : Nat → Nat), v = .slice a n cap ∧ n ≤ cap ∧ cap ≤ maxLen ∧ U8 w a n f ∧ ∀ j, j < n → f j ≤ 255 := by
  rcases open_slice ht hf with ⟨hcs, _⟩ | ⟨a', len', cap', m, n', D, Pl, hcs, hb, hl, hm, hmm, hx, hcell⟩
  · simp at hcs
    subst hcs
    exact ⟨none, 0, 0, fun _ => 0, rfl, Nat.le_refl _, Nat.zero_le _, (fun h => absurd h (Nat.lt_irrefl 0)), fun j hj => absurd hj (Nat.not_lt_zero j)⟩
  · simp at hcs
    subst hcs
    have hlm : len' ≤ m := by rw [hmm]; split <;> omega
    have hel : ∀ i, i < len' → ∃ z : Nat, w.cell? (a'.add i) = some (.int .u8 (z : Int)) ∧ z ≤ 255 := fun i hi' => by
      obtain ⟨cs', hc, ht'⟩ := hcell i (by omega)
      rw [hC] at hc
      obtain ⟨_, hcl, hat⟩ := World.cells?_some hc
      obtain ⟨z, hz, _, hw⟩ := DataW.trod_int he ht'
      subst hz
      have hw' : 0 ≤ z ∧ z ≤ 255 := by simpa [Lit.wf, IntKind.min, IntKind.max, IntKind.signed, IntKind.bits] using hw
      have := hat 0 (by omega)
      obtain ⟨k, rfl⟩ := Int.eq_ofNat_of_zero_le hw'.1
      refine ⟨k, ?_, by omega⟩
      have e1 : a'.add i = (a'.add (i * 1)).add 0 := by rw [Go.Deep.add_add]; simp
      rw [e1, this]; rfl
    obtain ⟨z, hz⟩ := choose_lt hel
    refine ⟨some a', len', cap', z, rfl, hl, hm, fun hn => ?_, fun j hj => (hz j hj).2⟩
    obtain ⟨b, off, spot⟩ := a'
    have h0 := (hz 0 hn).1
    have hspot : spot = none := by simpa [Addr.add] using World.cell?_spot h0
    subst hspot
    refine ⟨b, off, rfl, World.block_lt_of_cell? w ⟨b, off, none⟩ (by simpa [Addr.add] using h0), fun i hi' => ?_⟩
    have h1 := (hz i hi').1
    rw [Addr.add_lit] at h1
    exact h1
theorem arg_u8s {r : Reach} {b0 : Nat} {t e : TypeId} {v : Value} {d : DataW H} {p : List MemPlace} (ht : P.underlying t = some (.slice e)) (he : P.underlying e = some (.int .u8)) (hC : P.cellsOf e = 1)
    (hv : Value.okWide P w r b0 t v) (h : DataW.Trod enc P w base spare held t v d p) :
    ∃ (a : Option Addr) (n cap : Nat) (f : Nat → Nat), v = .slice a n cap ∧ n ≤ cap ∧ cap ≤ maxLen ∧ U8 w a n f ∧ ∀ j, j < n → f j ≤ 255 := by
  obtain ⟨a, n, cap, rfl⟩ := okWide_slice ht hv
  obtain ⟨fuel, hf⟩ := h
  exact down_u8s ht he hC (fuel := fuel) (by simpa [Value.cells] using hf)
end
end Go.Proofs.Ytaalceckofgbhaa
