/- Calendars: copied. -/
import Derived.Test.YtaamnmpbkdinpaaCW6
namespace Go.Proofs.Ytaamnmpbkdinpaa
open Go.RowKit
set_option linter.unusedVariables false
set_option linter.unusedSimpArgs false

theorem toMonth_c (s : ByteArray) (a b : Int) (w : World) :
    Calls Try.prog 52 #[.agg #[.string s, .int .i64 a, .int .i64 b]] w fun e w' => e = .returned (.agg #[.string s, .int .i64 a, .int .i64 b]) ∧ Ext w w' := by
  go_enter Try.func52, Try.ntmps52
  go_wp2
  exact bodyPost_ret (v := .agg #[.string s, .int .i64 a, .int .i64 b]) (by simp [results, Try.results52, go_sem]) rfl ⟨rfl, (by repeat (first | with_reducible exact Ext.refl _ | with_reducible assumption | with_reducible refine Ext.alloc ?_ _ | with_reducible refine Ext.drew ?_ | (with_reducible refine Ext.setAt ?_ _ _ _ ?_; rotate_left; omega) | with_reducible refine Ext.trans ?_ (by assumption) | with_reducible exact Past.bel _ | with_reducible refine Ext.trans ?_ (Past.bel _)))⟩
theorem toLeapRule_c (a b : Int) (l : Bool) (w : World) :
    Calls Try.prog 53 #[.agg #[.int .i64 a, .int .i64 b, .bool l]] w fun e w' => e = .returned (.agg #[.int .i64 a, .int .i64 b, .bool l]) ∧ Ext w w' := by
  go_enter Try.func53, Try.ntmps53
  go_wp2
  exact bodyPost_ret (v := .agg #[.int .i64 a, .int .i64 b, .bool l]) (by simp [results, Try.results53, go_sem]) rfl ⟨rfl, (by repeat (first | with_reducible exact Ext.refl _ | with_reducible assumption | with_reducible refine Ext.alloc ?_ _ | with_reducible refine Ext.drew ?_ | (with_reducible refine Ext.setAt ?_ _ _ _ ?_; rotate_left; omega) | with_reducible refine Ext.trans ?_ (by assumption) | with_reducible exact Past.bel _ | with_reducible refine Ext.trans ?_ (Past.bel _)))⟩
abbrev sS (f : Nat → ByteArray) : Nat → Value := fun j => .string (f j)
abbrev sI (f : Nat → Int) : Nat → Value := fun j => .int .i64 (f j)
abbrev sB (f : Nat → Bool) : Nat → Value := fun j => .bool (f j)
/-- the first k elements of the cells 'cur' are the triples F -/
def C3 (cur : Array Value) (k : Nat) (F G H : Nat → Value) : Prop := ∀ j, j < k → cur[j * 3]? = some (F j) ∧ cur[j * 3 + 1]? = some (G j) ∧ cur[j * 3 + 2]? = some (H j)
theorem C3.zero (cur : Array Value) (F G H : Nat → Value) : C3 cur 0 F G H := fun j hj => absurd hj (Nat.not_lt_zero j)
theorem C3.step {cur : Array Value} {k : Nat} {F G H : Nat → Value} (c : C3 cur k F G H) (hk : k * 3 + 2 < cur.size) : C3 (((cur.setIfInBounds (k * 3) (F k)).setIfInBounds (k * 3 + 1) (G k)).setIfInBounds (k * 3 + 2) (H k)) (k + 1) F G H := fun j hj => by
  rcases Nat.lt_succ_iff_lt_or_eq.1 hj with hlt | rfl
  · obtain ⟨c1, c2, c3⟩ := c j hlt
    refine ⟨?_, ?_, ?_⟩
    · rw [Array.getElem?_setIfInBounds_ne (by omega), Array.getElem?_setIfInBounds_ne (by omega), Array.getElem?_setIfInBounds_ne (by omega), c1]
    · rw [Array.getElem?_setIfInBounds_ne (by omega), Array.getElem?_setIfInBounds_ne (by omega), Array.getElem?_setIfInBounds_ne (by omega), c2]
    · rw [Array.getElem?_setIfInBounds_ne (by omega), Array.getElem?_setIfInBounds_ne (by omega), Array.getElem?_setIfInBounds_ne (by omega), c3]
  · refine ⟨?_, ?_, ?_⟩
    · rw [Array.getElem?_setIfInBounds_ne (by omega), Array.getElem?_setIfInBounds_ne (by omega), Array.getElem?_setIfInBounds_self_of_lt (by omega)]
    · rw [Array.getElem?_setIfInBounds_ne (by omega), Array.getElem?_setIfInBounds_self_of_lt (by simp; omega)]
    · rw [Array.getElem?_setIfInBounds_self_of_lt (by simp; omega)]
theorem C3.s3 {w : World} {g n : Nat} {T : TypeId} {cur : Array Value} {nm : Nat → ByteArray} {dy lp : Nat → Int} (b : Blk w g T cur) (c : C3 cur n (sS nm) (sI dy) (sI lp)) : S3 w (some ⟨g, 0, none⟩) n nm dy lp := fun _ =>
  ⟨g, 0, rfl, b.lt, fun j hj => by rw [b.cell, b.cell, b.cell]; simpa using c j hj⟩
theorem C3.r3 {w : World} {g n : Nat} {T : TypeId} {cur : Array Value} {ev rs : Nat → Int} {lf : Nat → Bool} (b : Blk w g T cur) (c : C3 cur n (sI ev) (sI rs) (sB lf)) : R3 w (some ⟨g, 0, none⟩) n ev rs lf := fun _ =>
  ⟨g, 0, rfl, b.lt, fun j hj => by rw [b.cell, b.cell, b.cell]; simpa using c j hj⟩
set_option maxHeartbeats 1000000 in
theorem toMonthS_c (a : Option Addr) (n c : Nat) (nm : Nat → ByteArray) (dy lp : Nat → Int) (w : World) (hn : n ≤ 1048576) (hs : S3 w a n nm dy lp) :
    Calls Try.prog 28 #[.slice a n c] w fun e w' => ∃ cur, e = .returned (.slice (some ⟨w.heap.size, 0, none⟩) n n) ∧ Ext w w' ∧ Blk w' w.heap.size 56 cur ∧ cur.size = n * 3 ∧ C3 cur n (sS nm) (sI dy) (sI lp) := by
  have HS := Lib.hid hs
  clear hs
  have hmk := make_run (P := Try.prog) 28 56 (.agg #[.string ⟨#[]⟩, .int .i64 0, .int .i64 0]) 3 32 (by kernel_rfl) (by kernel_rfl) n (by omega) (by omega)
  go_enter Try.func28, Try.ntmps28
  go_wp2_with fail
  clear hmk
  go_loopw [4] (fun i wr => ∃ (k : Nat) (cur : Array Value), k ≤ n ∧ i = .int .i64 k ∧ Ext w wr ∧ Blk wr w.heap.size 56 cur ∧ cur.size = n * 3 ∧ C3 cur k (sS nm) (sI dy) (sI lp)) (fun i _ => n - (intOf i).toNat)
  case atStart => exact ⟨0, _, by omega, rfl, (by repeat (first | with_reducible exact Ext.refl _ | with_reducible assumption | with_reducible refine Ext.alloc ?_ _ | with_reducible refine Ext.drew ?_ | (with_reducible refine Ext.setAt ?_ _ _ _ ?_; rotate_left; omega) | with_reducible refine Ext.trans ?_ (by assumption) | with_reducible exact Past.bel _ | with_reducible refine Ext.trans ?_ (Past.bel _))), Blk.new _ _ _, Mk.size _ _, C3.zero _ _ _ _⟩
  case round =>
    obtain ⟨k, cur, hk, rfl, hext, hblk, hcs, hc2⟩ := hrel
    have HB := Lib.hid hblk
    have HC := Lib.hid hc2
    have HZ := Lib.hid hcs
    have hgs := hblk.lt
    by_cases hlt : k < n
    · obtain ⟨b1, o1, rfl, hb1, q1, q2, q3⟩ := (S3.ext HS.out hext).at hlt
      obtain ⟨v1, e1⟩ : ∃ v, wr.cell? ⟨w.heap.size, k * 3, none⟩ = some v := ⟨cur[k * 3]'(by omega), by rw [hblk.cell]; simp⟩
      obtain ⟨v2, e2⟩ : ∃ v, wr.cell? ⟨w.heap.size, k * 3 + 1, none⟩ = some v := ⟨cur[k * 3 + 1]'(by omega), by rw [hblk.cell]; simp⟩
      obtain ⟨v3, e3⟩ : ∃ v, wr.cell? ⟨w.heap.size, k * 3 + 2, none⟩ = some v := ⟨cur[k * 3 + 2]'(by omega), by rw [hblk.cell]; simp⟩
      have f1 := hblk.frozen (k * 3)
      have f2 := hblk.frozen (k * 3 + 1)
      have f3 := hblk.frozen (k * 3 + 2)
      clear hblk hcs hc2
      go_wp2_with (go_at_call 52; ((with_reducible refine (toMonth_c _ _ _ _).mono ?_); rintro e w' ⟨rfl, hx⟩; (first | (obtain ⟨wx, rfl⟩ := Past.again hx) | (obtain ⟨wx, rfl⟩ := Past.ofd hx) | (obtain ⟨wx, rfl⟩ := Past.of hx))))
      exact ⟨⟨k + 1, _, by omega, by go_num, (by repeat (first | with_reducible exact Ext.refl _ | with_reducible assumption | with_reducible refine Ext.alloc ?_ _ | with_reducible refine Ext.drew ?_ | (with_reducible refine Ext.setAt ?_ _ _ _ ?_; rotate_left; omega) | with_reducible refine Ext.trans ?_ (by assumption) | with_reducible exact Past.bel _ | with_reducible refine Ext.trans ?_ (Past.bel _))), (((HB.out.ext (Past.bel wx)).set _ _).set _ _).set _ _, by simp [HZ.out], HC.out.step (by rw [HZ.out]; omega)⟩, by simp [intOf]; omega⟩
    · clear hblk hcs hc2
      obtain rfl : k = n := by omega
      go_wp2_with fail
      go_ret
      exact ⟨cur, rfl, hext, HB.out, HZ.out, HC.out⟩
set_option maxHeartbeats 1000000 in
theorem toLeapRuleS_c (a : Option Addr) (n c : Nat) (ev rs : Nat → Int) (lf : Nat → Bool) (w : World) (hn : n ≤ 1048576) (hs : R3 w a n ev rs lf) :
    Calls Try.prog 29 #[.slice a n c] w fun e w' => ∃ cur, e = .returned (.slice (some ⟨w.heap.size, 0, none⟩) n n) ∧ Ext w w' ∧ Blk w' w.heap.size 59 cur ∧ cur.size = n * 3 ∧ C3 cur n (sI ev) (sI rs) (sB lf) := by
  have HS := Lib.hid hs
  clear hs
  have hmk := make_run (P := Try.prog) 29 59 (.agg #[.int .i64 0, .int .i64 0, .bool false]) 3 24 (by kernel_rfl) (by kernel_rfl) n (by omega) (by omega)
  go_enter Try.func29, Try.ntmps29
  go_wp2_with fail
  clear hmk
  go_loopw [4] (fun i wr => ∃ (k : Nat) (cur : Array Value), k ≤ n ∧ i = .int .i64 k ∧ Ext w wr ∧ Blk wr w.heap.size 59 cur ∧ cur.size = n * 3 ∧ C3 cur k (sI ev) (sI rs) (sB lf)) (fun i _ => n - (intOf i).toNat)
  case atStart => exact ⟨0, _, by omega, rfl, (by repeat (first | with_reducible exact Ext.refl _ | with_reducible assumption | with_reducible refine Ext.alloc ?_ _ | with_reducible refine Ext.drew ?_ | (with_reducible refine Ext.setAt ?_ _ _ _ ?_; rotate_left; omega) | with_reducible refine Ext.trans ?_ (by assumption) | with_reducible exact Past.bel _ | with_reducible refine Ext.trans ?_ (Past.bel _))), Blk.new _ _ _, Mk.size _ _, C3.zero _ _ _ _⟩
  case round =>
    obtain ⟨k, cur, hk, rfl, hext, hblk, hcs, hc2⟩ := hrel
    have HB := Lib.hid hblk
    have HC := Lib.hid hc2
    have HZ := Lib.hid hcs
    have hgs := hblk.lt
    by_cases hlt : k < n
    · obtain ⟨b1, o1, rfl, hb1, q1, q2, q3⟩ := (R3.ext HS.out hext).at hlt
      obtain ⟨v1, e1⟩ : ∃ v, wr.cell? ⟨w.heap.size, k * 3, none⟩ = some v := ⟨cur[k * 3]'(by omega), by rw [hblk.cell]; simp⟩
      obtain ⟨v2, e2⟩ : ∃ v, wr.cell? ⟨w.heap.size, k * 3 + 1, none⟩ = some v := ⟨cur[k * 3 + 1]'(by omega), by rw [hblk.cell]; simp⟩
      obtain ⟨v3, e3⟩ : ∃ v, wr.cell? ⟨w.heap.size, k * 3 + 2, none⟩ = some v := ⟨cur[k * 3 + 2]'(by omega), by rw [hblk.cell]; simp⟩
      have f1 := hblk.frozen (k * 3)
      have f2 := hblk.frozen (k * 3 + 1)
      have f3 := hblk.frozen (k * 3 + 2)
      clear hblk hcs hc2
      go_wp2_with (go_at_call 53; ((with_reducible refine (toLeapRule_c _ _ _ _).mono ?_); rintro e w' ⟨rfl, hx⟩; (first | (obtain ⟨wx, rfl⟩ := Past.again hx) | (obtain ⟨wx, rfl⟩ := Past.ofd hx) | (obtain ⟨wx, rfl⟩ := Past.of hx))))
      exact ⟨⟨k + 1, _, by omega, by go_num, (by repeat (first | with_reducible exact Ext.refl _ | with_reducible assumption | with_reducible refine Ext.alloc ?_ _ | with_reducible refine Ext.drew ?_ | (with_reducible refine Ext.setAt ?_ _ _ _ ?_; rotate_left; omega) | with_reducible refine Ext.trans ?_ (by assumption) | with_reducible exact Past.bel _ | with_reducible refine Ext.trans ?_ (Past.bel _))), (((HB.out.ext (Past.bel wx)).set _ _).set _ _).set _ _, by simp [HZ.out], HC.out.step (by rw [HZ.out]; omega)⟩, by simp [intOf]; omega⟩
    · clear hblk hcs hc2
      obtain rfl : k = n := by omega
      go_wp2_with fail
      go_ret
      exact ⟨cur, rfl, hext, HB.out, HZ.out, HC.out⟩
end Go.Proofs.Ytaamnmpbkdinpaa
