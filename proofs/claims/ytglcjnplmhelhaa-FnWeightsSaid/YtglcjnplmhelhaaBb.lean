/- Dice and draws: numbers that follow from bytes. Draws: a source of numbers. Draws: pick, one, among. Lists of pairs that a draw makes beside its source. Springs: torque at a position. No program in sight. Springs: the torque as a function, energies. No program in sight. Springs: fusees, running times, stopworks; weights. No program in sight. Springs: what the small functions return. Springs: the torque at a position. Springs: the torque at a position, the reference. Springs: valid ones. -/
import Derived.Test.YtglcjnplmhelhaaBa

namespace Go.Proofs.Ytglcjnplmhelhaa
open Go.RowKit
set_option linter.unusedVariables false
set_option linter.unusedSimpArgs false

/-- A slice of bytes reads as 'f'. -/
def U8 (w : World) (a : Option Addr) (n : Nat) (f : Nat → Nat) : Prop :=
  0 < n → ∃ b off, a = some ⟨b, off, none⟩ ∧ b < w.heap.size ∧ ∀ j, j < n → w.cell? ⟨b, off + j, none⟩ = some (.int .u8 (f j : Nat))
theorem U8.ext {w w' : World} {a : Option Addr} {n : Nat} {f : Nat → Nat} (s : U8 w a n f) (e : Ext w w') : U8 w' a n f := fun hn => by
  obtain ⟨b, off, ha, hb, hc⟩ := s hn
  exact ⟨b, off, ha, Nat.lt_of_lt_of_le hb e.size, fun j hj => by rw [e.cell hb]; exact hc j hj⟩
theorem U8.at {w : World} {a : Option Addr} {n : Nat} {f : Nat → Nat} (s : U8 w a n f) {j : Nat} (hj : j < n) :
    ∃ b off, a = some ⟨b, off, none⟩ ∧ b < w.heap.size ∧ w.cell? ⟨b, off + j, none⟩ = some (.int .u8 (f j : Nat)) := by
  obtain ⟨b, off, ha, hb, hc⟩ := s (by omega)
  exact ⟨b, off, ha, hb, hc j hj⟩
theorem f6big_c (a : Option Addr) (n c : Nat) (w : World) : Calls Try.prog 9 #[.slice a n c] w fun e w' => e = .returned (.bool (decide (4096 < n))) ∧ w = w' := by
  go_enter Try.func9, Try.ntmps9
  go_wp2
  go_ret
  exact ⟨ret_bool (by simp; omega), rfl⟩
set_option maxHeartbeats 1000000 in
theorem f6roll_c (a : Option Addr) (n c : Nat) (f : Nat → Nat) (seed : Int) (w : World) (hn : n ≤ 1048576) (hs : U8 w a n f) :
    Calls Try.prog 24 #[.slice a n c, .int .u64 seed] w fun e w' => ∃ g hh, e = .returned (.pointer (some ⟨g, 0, none⟩)) ∧ Blk w' g 76 #[.slice a n c, .int .i64 0, .int .u64 hh] ∧ w.heap.size ≤ g ∧ Ext w w' := by
  have HS := Lib.hid hs
  clear hs
  go_enter Try.func24, Try.ntmps24
  go_wp2_with fail
  go_loopw [6] (fun i wr => ∃ (j : Nat) (hh : Int), j ≤ n ∧ i = .int .i64 (j : Int) ∧ Ext w wr ∧ Blk wr w.heap.size 76 #[.slice a n c, .int .i64 0, .int .u64 hh]) (fun i _ => n - (intOf i).toNat)
  case atStart => exact ⟨0, _, by omega, rfl, (by repeat (first | with_reducible exact Ext.refl _ | with_reducible assumption | with_reducible refine Ext.alloc ?_ _ | with_reducible refine Ext.drew ?_ | (with_reducible refine Ext.setAt ?_ _ _ _ ?_; rotate_left; omega) | with_reducible refine Ext.trans ?_ (by assumption) | with_reducible exact Past.bel _ | with_reducible refine Ext.trans ?_ (Past.bel _))), Blk.new _ _ _⟩
  case round =>
    obtain ⟨j, hh, hj, rfl, hbl, ho⟩ := hrel
    have HB := Lib.hid ho
    by_cases hlt : j < n
    · obtain ⟨b1, o1, rfl, hb1, q1⟩ := (HS.out.ext hbl).at hlt
      have c2 := ho.cell 2
      have f2 := ho.frozen 2
      have x0 : (0 : Int) ≤ (j : Int) := by omega
      have x1 : (j : Int) < (n : Int) := by omega
      clear ho
      go_wp2_with fail
      go_region
      all_goals (go_wp2_with fail; exact ⟨⟨j + 1, _, by omega, by go_num, (by repeat (first | with_reducible exact Ext.refl _ | with_reducible assumption | with_reducible refine Ext.alloc ?_ _ | with_reducible refine Ext.drew ?_ | (with_reducible refine Ext.setAt ?_ _ _ _ ?_; rotate_left; omega) | with_reducible refine Ext.trans ?_ (by assumption) | with_reducible exact Past.bel _ | with_reducible refine Ext.trans ?_ (Past.bel _))), HB.out.set 2 _⟩, by simp [intOf]; omega⟩)
    · go_wp2_with fail
      go_ret
      exact ⟨_, _, rfl, HB.out, Nat.le_refl _, (by repeat (first | with_reducible exact Ext.refl _ | with_reducible assumption | with_reducible refine Ext.alloc ?_ _ | with_reducible refine Ext.drew ?_ | (with_reducible refine Ext.setAt ?_ _ _ _ ?_; rotate_left; omega) | with_reducible refine Ext.trans ?_ (by assumption) | with_reducible exact Past.bel _ | with_reducible refine Ext.trans ?_ (Past.bel _)))⟩
theorem mask24 (E : Int) (h0 : 0 ≤ E) (h1 : E ≤ 18446744073709551615) : ∃ X, bits BinOp.and IntKind.u64 E 16777215 = X ∧ 0 ≤ X ∧ X ≤ 16777215 := by
  have h := bits_and_u64_nat E.toNat 16777215 (by omega) (by omega)
  rw [Int.toNat_of_nonneg h0] at h
  have := Nat.and_le_right (n := E.toNat) (m := 16777215)
  exact ⟨_, h, by omega, by omega⟩
theorem grown_drew {w w' : World} {row : Option Nat} (h : w.grownBy w' row) : w.grownBy w'.drew row := ⟨h.os, h.tape, h.output, h.size, h.block⟩
/-- what 'below' leaves of a dice -/
structure Dice (w : World) (g : Nat) (a : Option Addr) (n c : Nat) : Prop where
  blk : ∃ (i : Nat) (hh : Int), Blk w g 76 #[.slice a n c, .int .i64 i, .int .u64 hh] ∧ i ≤ n
set_option maxHeartbeats 2000000 in
theorem below_c (g : Nat) (a : Option Addr) (n c : Nat) (f : Nat → Nat) (m : Int) (w : World) (hm : 1 ≤ m) (hn : n ≤ 1048576) (hs : U8 w a n f) (hf : ∀ j, j < n → f j ≤ 255) (hd : Dice w g a n c) (hne : 0 < n → ∀ ad, a = some ad → ad.block ≠ g) :
    Calls Try.prog 25 #[.pointer (some ⟨g, 0, none⟩), .int .i64 m] w fun e w' => ∃ x : Int, e = .returned (.int .i64 x) ∧ 0 ≤ x ∧ x < m ∧ Dice w' g a n c ∧ w.grownBy w' (some g) := by
  obtain ⟨⟨i, hh, hb, hi⟩⟩ := hd
  have HB := Lib.hid hb
  have c0 := hb.cell 0
  have c1 := hb.cell 1
  have c2 := hb.cell 2
  have f1 := hb.frozen 1
  have f2 := hb.frozen 2
  clear hb
  obtain ⟨X, hX, X0, X1⟩ := mask24 (IntKind.u64.wrap (IntKind.u64.wrap (hh * 6364136223846793005) + 1442695040888963407) / 8589934592) (by rw [IntKind.wrap_u64]; omega) (by rw [IntKind.wrap_u64]; omega)
  have hw : wrap64 X = X := IntWalk.wrap64_in X (by omega)
  have k0 : ∀ u, (w.setCell ⟨g, 2, none⟩ u).cell? ⟨g, 0, none⟩ = some (.slice a n c) := fun u => by simp [go_sem, c0]
  have k1 : ∀ u, (w.setCell ⟨g, 2, none⟩ u).cell? ⟨g, 1, none⟩ = some (.int .i64 i) := fun u => by simp [go_sem, c1]
  have K0 := Lib.hid k0
  have K1 := Lib.hid k1
  clear k0 k1
  by_cases hlt : i < n
  · obtain ⟨b1, o1, rfl, hb1, q1⟩ := hs.at hlt
    have hg := hne (by omega) _ rfl
    simp only at hg
    have hfi := hf i hlt
    have k2 : ∀ u, (w.setCell ⟨g, 2, none⟩ u).cell? ⟨b1, o1 + i, none⟩ = some (.int .u8 (f i : Nat)) := fun u => by simp [go_sem, q1, hg]
    have K2 := Lib.hid k2
    clear k2
    have x0 : (0 : Int) ≤ (i : Int) := by omega
    have x1 : (i : Int) < (n : Int) := by omega
    have x2 : IntKind.i64.wrap (f i : Int) = (f i : Int) := IntWalk.i64_in _ (by omega)
    have x3 : IntKind.i64.wrap (X + (f i : Int)) = X + (f i : Int) := IntWalk.i64_in _ (by omega)
    have r0 := Int.tmod_nonneg m (show (0 : Int) ≤ X + (f i : Int) by omega)
    have r1 := Int.tmod_lt_of_pos (X + (f i : Int)) (show 0 < m by omega)
    go_enter Try.func25, Try.ntmps25
    go_wp2_with fail
    go_region_held3 (fun w' => w'.cell? ⟨g, 0, none⟩ = some (.slice (some ⟨b1, o1, none⟩) n c) ∧ w'.cell? ⟨g, 1, none⟩ = some (.int .i64 i)) (exact ⟨K0.out _, K1.out _⟩) (fail)
    go_wp2_with fail
    go_region_held3 (fun w' => w'.cell? ⟨g, 0, none⟩ = some (.slice (some ⟨b1, o1, none⟩) n c) ∧ w'.cell? ⟨g, 1, none⟩ = some (.int .i64 i) ∧ w'.cell? ⟨b1, o1 + i, none⟩ = some (.int .u8 (f i : Nat))) (exact ⟨K0.out _, K1.out _, K2.out _⟩) (fail)
    go_wp2_with fail
    go_ret
    refine ⟨(X + (f i : Int)) % m, rfl, Int.emod_nonneg _ (by omega), Int.emod_lt_of_pos _ (by omega), ⟨⟨i + 1, IntKind.u64.wrap (IntKind.u64.wrap (hh * 6364136223846793005) + 1442695040888963407), ?_, by omega⟩⟩, grown_drew (grown_drew (grown_trans (grown_set g 2 _) (grown_set g 1 _)))⟩
    exact (HB.out.set 2 (.int .u64 (IntKind.u64.wrap (IntKind.u64.wrap (hh * 6364136223846793005) + 1442695040888963407)))).set 1 (.int .i64 ((i : Int) + 1))
  · have x1 : (n : Int) ≤ (i : Int) := by omega
    have r0 := Int.tmod_nonneg m X0
    have r1 := Int.tmod_lt_of_pos X (show 0 < m by omega)
    go_enter Try.func25, Try.ntmps25
    go_wp2_with fail
    go_region_held3 (fun w' => w'.cell? ⟨g, 0, none⟩ = some (.slice a n c) ∧ w'.cell? ⟨g, 1, none⟩ = some (.int .i64 i)) (exact ⟨K0.out _, K1.out _⟩) (fail)
    go_wp2_with fail
    go_ret
    exact ⟨X % m, rfl, Int.emod_nonneg _ (by omega), Int.emod_lt_of_pos _ (by omega), ⟨⟨i, _, HB.out.set 2 _, by omega⟩⟩, grown_drew (grown_set g 2 _)⟩
end Go.Proofs.Ytglcjnplmhelhaa

namespace Go.Proofs.Ytglcjnplmhelhaa
open Go.RowKit
set_option linter.unusedVariables false
set_option linter.unusedSimpArgs false

/-- A source in block g: its bytes, at most K taken. -/
structure Src (w : World) (g : Nat) (a : Option Addr) (n c : Nat) (f : Nat → Nat) (K : Nat) : Prop where
  blk : ∃ (i : Nat) (hh : Int), Blk w g 84 #[.slice a n c, .int .i64 i, .int .u64 hh] ∧ i ≤ K
  byt : U8 w a n f
  far : 0 < n → ∀ ad, a = some ad → ad.block ≠ g
  low : ∀ j, j < n → f j ≤ 255
theorem mask8 (E : Int) (h0 : 0 ≤ E) (h1 : E ≤ 18446744073709551615) : ∃ X, bits BinOp.and IntKind.u64 E 255 = X ∧ 0 ≤ X ∧ X ≤ 255 := by
  have h := bits_and_u64_nat E.toNat 255 (by omega) (by omega)
  rw [Int.toNat_of_nonneg h0] at h
  have := Nat.and_le_right (n := E.toNat) (m := 255)
  exact ⟨_, h, by omega, by omega⟩
theorem U8.but {w w' : World} {a : Option Addr} {n g : Nat} {f : Nat → Nat} (s : U8 w a n f) (hg : w.grownBy w' (some g)) (hne : 0 < n → ∀ ad, a = some ad → ad.block ≠ g) : U8 w' a n f := fun hn => by
  obtain ⟨b, off, ha, hb, hc⟩ := s hn
  refine ⟨b, off, ha, Nat.lt_of_lt_of_le hb hg.size, fun j hj => ?_⟩
  rw [World.cell?_of_block (a := ⟨b, off + j, none⟩) (hg.block b hb (fun e => hne hn _ ha (by simpa using e)))]
  exact hc j hj
theorem l00From_c (a : Option Addr) (n c : Nat) (f : Nat → Nat) (w : World) (hs : U8 w a n f) (hl : ∀ j, j < n → f j ≤ 255) (hf : 0 < n → ∀ ad, a = some ad → ad.block < w.heap.size) :
    Calls Try.prog 44 #[.slice a n c] w fun e w' => e = .returned (.pointer (some ⟨w.heap.size, 0, none⟩)) ∧ Src w' w.heap.size a n c f 0 ∧ Ext w w' := by
  have HS := Lib.hid hs
  clear hs
  go_enter Try.func44, Try.ntmps44
  go_wp2
  go_ret
  exact ⟨rfl, ⟨⟨0, 0, Blk.new _ _ _, Nat.le_refl _⟩, HS.out.ext (by repeat (first | with_reducible exact Ext.refl _ | with_reducible assumption | with_reducible refine Ext.alloc ?_ _ | with_reducible refine Ext.drew ?_ | (with_reducible refine Ext.setAt ?_ _ _ _ ?_; rotate_left; omega) | with_reducible refine Ext.trans ?_ (by assumption) | with_reducible exact Past.bel _ | with_reducible refine Ext.trans ?_ (Past.bel _))), fun h0 ad ha => by have := hf h0 ad ha; omega, hl⟩, (by repeat (first | with_reducible exact Ext.refl _ | with_reducible assumption | with_reducible refine Ext.alloc ?_ _ | with_reducible refine Ext.drew ?_ | (with_reducible refine Ext.setAt ?_ _ _ _ ?_; rotate_left; omega) | with_reducible refine Ext.trans ?_ (by assumption) | with_reducible exact Past.bel _ | with_reducible refine Ext.trans ?_ (Past.bel _)))⟩
set_option maxHeartbeats 2000000 in
theorem next_c (g : Nat) (a : Option Addr) (n c : Nat) (f : Nat → Nat) (K : Nat) (w : World) (hn : n ≤ 1048576) (hK : K ≤ 1000000) (hd : Src w g a n c f K) :
    Calls Try.prog 73 #[.pointer (some ⟨g, 0, none⟩)] w fun e w' => ∃ x : Int, e = .returned (.int .i64 x) ∧ 0 ≤ x ∧ x ≤ 255 ∧ Src w' g a n c f (K + 1) ∧ w.grownBy w' (some g) := by
  obtain ⟨⟨i, hh, hb, hi⟩, hs, hne, hlo⟩ := hd
  have HB := Lib.hid hb
  have HS := Lib.hid hs
  have c0 := hb.cell 0
  have c1 := hb.cell 1
  have c2 := hb.cell 2
  have f1 := hb.frozen 1
  have f2 := hb.frozen 2
  clear hb
  have C0 := Lib.hid c0
  have C1 := Lib.hid c1
  have k0 : ∀ u v, ((w.setCell ⟨g, 1, none⟩ u).setCell ⟨g, 2, none⟩ v).cell? ⟨g, 0, none⟩ = some (.slice a n c) := fun u v => by simp [go_sem, c0]
  have k1 : ∀ u v, ((w.setCell ⟨g, 1, none⟩ u).setCell ⟨g, 2, none⟩ v).cell? ⟨g, 1, none⟩ = some u := fun u v => by simp [go_sem, c1]
  have K0 := Lib.hid k0
  have K1 := Lib.hid k1
  clear k0 k1
  have x3 : IntKind.i64.wrap ((i : Int) + 1) = (i : Int) + 1 := IntWalk.i64_in _ (by omega)
  by_cases hlt : i < n
  · obtain ⟨b1, o1, rfl, hb1, q1⟩ := hs.at hlt
    have hg := hne (by omega) _ rfl
    simp only at hg
    have hfi := hlo i hlt
    have x0 : (0 : Int) ≤ (i : Int) := by omega
    have x1 : (i : Int) < (n : Int) := by omega
    have x5 : (i : Int) + 1 ≤ (n : Int) := by omega
    have x2 : IntKind.i64.wrap (f i : Int) = (f i : Int) := IntWalk.i64_in _ (by omega)
    have HN := Lib.hid hne
    have HL := Lib.hid hlo
    clear hs hlo hne
    go_enter Try.func73, Try.ntmps73
    go_wp2_with fail
    go_region_held3 (fun w' => w'.cell? ⟨g, 0, none⟩ = some (.slice (some ⟨b1, o1, none⟩) n c) ∧ w'.cell? ⟨g, 1, none⟩ = some (.int .i64 i)) (exact ⟨C0.out, C1.out⟩) (fail)
    go_wp2_with fail
    go_region_held3 (fun w' => w'.cell? ⟨g, 0, none⟩ = some (.slice (some ⟨b1, o1, none⟩) n c) ∧ w'.cell? ⟨g, 1, none⟩ = some (.int .i64 i) ∧ w'.cell? ⟨b1, o1 + i, none⟩ = some (.int .u8 (f i : Nat))) (exact ⟨C0.out, C1.out, q1⟩) (fail)
    go_wp2_with fail
    go_region_held3 (fun w' => w'.cell? ⟨g, 0, none⟩ = some (.slice (some ⟨b1, o1, none⟩) n c) ∧ w'.cell? ⟨g, 1, none⟩ = some (.int .i64 ((i : Int) + 1))) (exact ⟨K0.out _ _, K1.out _ _⟩) (fail)
    go_wp2_with fail
    go_ret
    have hgr := grown_drew (grown_drew (grown_drew (grown_trans (grown_set (w := w) g 1 (.int .i64 ((i : Int) + 1))) (grown_set g 2 (.int .u64 (IntKind.u64.wrap (IntKind.u64.wrap (IntKind.u64.wrap (hh * 6364136223846793005) + (f i : Int)) + 1442695040888963407)))))))
    exact ⟨(f i : Int), rfl, by omega, by omega, ⟨⟨i + 1, IntKind.u64.wrap (IntKind.u64.wrap (IntKind.u64.wrap (hh * 6364136223846793005) + (f i : Int)) + 1442695040888963407), (HB.out.set 1 (.int .i64 ((i : Int) + 1))).set 2 (.int .u64 (IntKind.u64.wrap (IntKind.u64.wrap (IntKind.u64.wrap (hh * 6364136223846793005) + (f i : Int)) + 1442695040888963407))), by omega⟩, HS.out.but hgr HN.out, HN.out, HL.out⟩, hgr⟩
  · have x1 : (n : Int) ≤ (i : Int) := by omega
    have x5 : (n : Int) < (i : Int) + 1 := by omega
    obtain ⟨X, hX, X0, X1⟩ := mask8 (IntKind.u64.wrap (IntKind.u64.wrap (IntKind.u64.wrap (hh * 6364136223846793005)) + 1442695040888963407) / 1099511627776) (by rw [IntKind.wrap_u64]; omega) (by rw [IntKind.wrap_u64]; omega)
    have hw : wrap64 X = X := IntWalk.wrap64_in X (by omega)
    have HN := Lib.hid hne
    have HL := Lib.hid hlo
    clear hs hlo hne
    go_enter Try.func73, Try.ntmps73
    go_wp2_with fail
    go_region_held3 (fun w' => w'.cell? ⟨g, 0, none⟩ = some (.slice a n c) ∧ w'.cell? ⟨g, 1, none⟩ = some (.int .i64 i)) (exact ⟨C0.out, C1.out⟩) (fail)
    go_wp2_with fail
    go_region_held3 (fun w' => w'.cell? ⟨g, 0, none⟩ = some (.slice a n c) ∧ w'.cell? ⟨g, 1, none⟩ = some (.int .i64 ((i : Int) + 1))) (exact ⟨K0.out _ _, K1.out _ _⟩) (fail)
    go_wp2_with fail
    go_ret
    have hgr := grown_drew (grown_drew (grown_trans (grown_set (w := w) g 1 (.int .i64 ((i : Int) + 1))) (grown_set g 2 (.int .u64 (IntKind.u64.wrap (IntKind.u64.wrap (IntKind.u64.wrap (hh * 6364136223846793005)) + 1442695040888963407))))))
    exact ⟨X, rfl, X0, X1, ⟨⟨i + 1, IntKind.u64.wrap (IntKind.u64.wrap (IntKind.u64.wrap (hh * 6364136223846793005)) + 1442695040888963407), (HB.out.set 1 (.int .i64 ((i : Int) + 1))).set 2 (.int .u64 (IntKind.u64.wrap (IntKind.u64.wrap (IntKind.u64.wrap (hh * 6364136223846793005)) + 1442695040888963407))), by omega⟩, HS.out.but hgr HN.out, HN.out, HL.out⟩, hgr⟩
end Go.Proofs.Ytglcjnplmhelhaa

namespace Go.Proofs.Ytglcjnplmhelhaa
open Go.RowKit
set_option linter.unusedVariables false
set_option linter.unusedSimpArgs false

theorem grown_refl (w : World) (row : Option Nat) : w.grownBy w row := ⟨rfl, rfl, rfl, Nat.le_refl _, fun _ _ _ => rfl⟩
theorem Src.le {w : World} {g : Nat} {a : Option Addr} {n c : Nat} {f : Nat → Nat} {K L : Nat} (h : Src w g a n c f K) (hl : K ≤ L) : Src w g a n c f L := by
  obtain ⟨⟨i, hh, hb, hi⟩, hs, hne, hlo⟩ := h
  exact ⟨⟨i, hh, hb, by omega⟩, hs, hne, hlo⟩
set_option maxHeartbeats 1000000 in
theorem pick_c (g : Nat) (a : Option Addr) (n c : Nat) (f : Nat → Nat) (K : Nat) (m : Int) (w : World) (hn : n ≤ 1048576) (hK : K ≤ 999999) (hd : Src w g a n c f K) :
    Calls Try.prog 54 #[.pointer (some ⟨g, 0, none⟩), .int .i64 m] w fun e w' => ∃ x : Int, e = .returned (.int .i64 x) ∧ 0 ≤ x ∧ (x = 0 ∨ x < m) ∧ x ≤ 65535 ∧ Src w' g a n c f (K + 2) ∧ w.grownBy w' (some g) := by
  by_cases h1 : m ≤ 1
  · go_enter Try.func54, Try.ntmps54
    go_wp2
    go_ret
    exact ⟨0, rfl, by omega, .inl rfl, by omega, hd.le (by omega), grown_refl _ _⟩
  · by_cases h2 : 200 < m
    · go_enter Try.func54, Try.ntmps54
      go_wp2_with fail
      refine (next_c g a n c f K _ hn (by omega) hd).mono ?_
      rintro e w1 ⟨x, rfl, x0, x1, hs1, hg1⟩
      have e1 := IntWalk.i64_in (x * 256) (by omega)
      go_wp2_with fail
      refine (next_c g a n c f (K + 1) _ hn (by omega) hs1).mono ?_
      rintro e w2 ⟨y, rfl, y0, y1, hs2, hg2⟩
      have e2 := IntWalk.i64_in (x * 256 + y) (by omega)
      have e3 : wrap64 (x * 256) = x * 256 := IntWalk.wrap64_in _ (by omega)
      have e4 : wrap64 (x * 256 + y) = x * 256 + y := IntWalk.wrap64_in _ (by omega)
      go_wp2_with fail
      go_ret
      refine ⟨(x * 256 + y) % m, ?_, Int.emod_nonneg _ (by omega), .inr (Int.emod_lt_of_pos _ (by omega)), ?_, hs2, grown_trans hg1 hg2⟩
      · simp [go_sem]
      · have q1 := Int.mul_ediv_add_emod (x * 256 + y) m; have q2 := Int.mul_nonneg (show 0 ≤ m by omega) (Int.ediv_nonneg (show 0 ≤ x * 256 + y by omega) (show 0 ≤ m by omega)); omega
    · go_enter Try.func54, Try.ntmps54
      go_wp2_with fail
      refine (next_c g a n c f K _ hn (by omega) hd).mono ?_
      rintro e w1 ⟨x, rfl, x0, x1, hs1, hg1⟩
      go_wp2_with fail
      go_ret
      exact ⟨x % m, by simp [go_sem], Int.emod_nonneg _ (by omega), .inr (Int.emod_lt_of_pos _ (by omega)), by have := Int.emod_lt_of_pos x (show 0 < m by omega); omega, hs1.le (by omega), hg1⟩
theorem one_c (g : Nat) (a : Option Addr) (n c : Nat) (f : Nat → Nat) (K : Nat) (m : Int) (w : World) (hn : n ≤ 1048576) (hK : K ≤ 999999) (hd : Src w g a n c f K) :
    Calls Try.prog 59 #[.pointer (some ⟨g, 0, none⟩), .int .i64 m] w fun e w' => ∃ b : Bool, e = .returned (.bool b) ∧ Src w' g a n c f (K + 2) ∧ w.grownBy w' (some g) := by
  go_enter Try.func59, Try.ntmps59
  go_wp2_with fail
  refine (pick_c g a n c f K m _ hn hK hd).mono ?_
  rintro e w1 ⟨x, rfl, x0, x1, x2, hs1, hg1⟩
  go_wp2_with fail
  go_ret
  exact ⟨_, rfl, hs1, hg1⟩
theorem among_c (g : Nat) (a : Option Addr) (n c : Nat) (f : Nat → Nat) (K : Nat) (la : Option Addr) (ln lc : Nat) (z : Nat → Int) (w : World) (hn : n ≤ 1048576) (hK : K ≤ 999999) (hd : Src w g a n c f K) (hl : 1 ≤ ln) (hl2 : ln ≤ 1048576) (hs : S1 w la ln z) (hne : ∀ ad, la = some ad → ad.block ≠ g) :
    Calls Try.prog 55 #[.pointer (some ⟨g, 0, none⟩), .slice la ln lc] w fun e w' => ∃ j : Nat, e = .returned (.int .i64 (z j)) ∧ j < ln ∧ Src w' g a n c f (K + 2) ∧ w.grownBy w' (some g) := by
  go_enter Try.func55, Try.ntmps55
  go_wp2_with fail
  refine (pick_c g a n c f K ln _ hn hK hd).mono ?_
  rintro e w1 ⟨x, rfl, x0, x1, x2, hs1, hg1⟩
  obtain ⟨j, rfl⟩ := Int.eq_ofNat_of_zero_le x0
  have hj : j < ln := by omega
  obtain ⟨b, off, rfl, hb, hc⟩ := (hs.but hg1 (fun ad e => by have := hne ad e; simpa using this)).at hj
  have y0 : (0 : Int) ≤ (j : Int) := by omega
  have y1 : (j : Int) < (ln : Int) := by omega
  go_wp2_with fail
  go_ret
  exact ⟨j, by simp [go_sem], hj, hs1, hg1⟩
end Go.Proofs.Ytglcjnplmhelhaa

namespace Go.Proofs.Ytglcjnplmhelhaa
open Go.RowKit
set_option linter.unusedVariables false
set_option linter.unusedSimpArgs false

/-- the cells of pairs -/
def PR (l : List (Int × Int)) : List Value := l.flatMap fun p => [.int .i64 p.1, .int .i64 p.2]
theorem PR_len (l : List (Int × Int)) : (PR l).length = l.length * 2 := by
  induction l with
  | nil => rfl
  | cons p l ih =>
    have : PR (p :: l) = .int .i64 p.1 :: .int .i64 p.2 :: PR l := rfl
    rw [this]; simp only [List.length_cons, ih]; omega
theorem PR_app (l k : List (Int × Int)) : PR (l ++ k) = PR l ++ PR k := by simp [PR, List.flatMap_append]
theorem PR_at {l : List (Int × Int)} {j : Nat} (hj : j < l.length) : (PR l)[j * 2]? = some (.int .i64 (l.getD j (0, 0)).1) ∧ (PR l)[j * 2 + 1]? = some (.int .i64 (l.getD j (0, 0)).2) := by
  induction l generalizing j with
  | nil => simp at hj
  | cons p l ih =>
    have e : PR (p :: l) = .int .i64 p.1 :: .int .i64 p.2 :: PR l := rfl
    rw [e]
    cases j with
    | zero => simp
    | succ j =>
      have h1 := ih (j := j) (by simpa using hj)
      rw [show (j + 1) * 2 = j * 2 + 1 + 1 by omega, show j * 2 + 1 + 1 + 1 = (j * 2 + 1) + 1 + 1 by omega]
      simpa using h1
theorem own_s2 {w : World} {base : Nat} {e : TypeId} {a : Option Addr} {cap n : Nat} {l : List (Int × Int)} (h : w.ownsRow base e 2 (.slice a n cap) n (PR l)) (hl : n = l.length) :
    S2 w a n (fun j => (l.getD j (0, 0)).1) (fun j => (l.getD j (0, 0)).2) := fun hn => by
  obtain ⟨g, rfl, _, hg, _⟩ := own_at2 h hn
  refine ⟨g, 0, rfl, hg, fun j hj => ?_⟩
  obtain ⟨g', e', _, _, h1, h2⟩ := own_at2 h hj
  obtain rfl : g = g' := by simpa using e'
  obtain ⟨p1, p2⟩ := PR_at (l := l) (j := j) (by omega)
  simp only [Nat.zero_add]
  exact ⟨h1.1.trans p1, h2.1.trans p2⟩
theorem grown_weak {w w' : World} {row : Option Nat} (h : w.grownBy w' none) : w.grownBy w' row := ⟨h.os, h.tape, h.output, h.size, fun k hk _ => h.block k hk (by simp)⟩
theorem Src.keep {w w' : World} {g : Nat} {a : Option Addr} {n c : Nat} {f : Nat → Nat} {K B : Nat} {row : Option Nat} (h : Src w g a n c f K) (hx : w.grownBy w' row) (hr : ∀ k, row = some k → B ≤ k) (hg : g < B) (hc : 0 < n → ∀ ad, a = some ad → ad.block < B) (hB : B ≤ w.heap.size) : Src w' g a n c f K := by
  obtain ⟨⟨i, hh, hb, hi⟩, hs, hne, hlo⟩ := h
  refine ⟨⟨i, hh, (hx.block g (by omega) (fun e => by have := hr g e.symm; omega)).trans hb, hi⟩, fun hn => ?_, hne, hlo⟩
  obtain ⟨b, off, ha, hb1, hcc⟩ := hs hn
  have hbB := hc hn _ ha
  simp only at hbB
  refine ⟨b, off, ha, Nat.lt_of_lt_of_le hb1 hx.size, fun j hj => ?_⟩
  rw [World.cell?_of_block (a := ⟨b, off + j, none⟩) (hx.block b hb1 (fun e => by have := hr b e.symm; omega))]
  exact hcc j hj
/-- Where a draw stands: its list, its source, what it has kept of the world it began in. -/
structure St (w0 w : World) (g : Nat) (a : Option Addr) (n c : Nat) (f : Nat → Nat) (K : Nat) (T : TypeId) (v : Value) (l : List (Int × Int)) : Prop where
  own : w.ownsRow w0.heap.size T 2 v l.length (PR l)
  src : Src w g a n c f K
  gr : w0.grownBy w (some g)
  low : g < w0.heap.size
  cod : 0 < n → ∀ ad, a = some ad → ad.block < w0.heap.size
section
variable {w0 w w1 : World} {g : Nat} {a : Option Addr} {n c : Nat} {f : Nat → Nat} {K K' : Nat} {T : TypeId} {v : Value} {l : List (Int × Int)}
theorem St.ne (h : St w0 w g a n c f K T v l) : v.ownBlock ≠ some g := fun e => by have := (h.own.lt g e).1; have := h.low; omega
theorem St.le (h : St w0 w g a n c f K T v l) (hl : K ≤ K') : St w0 w g a n c f K' T v l := ⟨h.own, h.src.le hl, h.gr, h.low, h.cod⟩
theorem St.drawn (h : St w0 w g a n c f K T v l) (hs : Src w1 g a n c f K') (hx : w.grownBy w1 (some g)) : St w0 w1 g a n c f K' T v l :=
  ⟨h.own.kept hx (.inr h.ne), hs, grown_trans h.gr hx, h.low, h.cod⟩
theorem St.alloc (h : St w0 w g a n c f K T v l) (o : Obj) : St w0 (w.alloc o) g a n c f K T v l := by
  have e : Ext w (w.alloc o) := (by repeat (first | with_reducible exact Ext.refl _ | with_reducible assumption | with_reducible refine Ext.alloc ?_ _ | with_reducible refine Ext.drew ?_ | (with_reducible refine Ext.setAt ?_ _ _ _ ?_; rotate_left; omega) | with_reducible refine Ext.trans ?_ (by assumption) | with_reducible exact Past.bel _ | with_reducible refine Ext.trans ?_ (Past.bel _)))
  exact ⟨own_ext h.own e, h.src.keep (ext_grown e) (fun k hk => by cases hk) h.low h.cod h.gr.size, grown_trans h.gr (grown_weak (ext_grown e)), h.low, h.cod⟩
theorem St.reset (h : St w0 w g a n c f K T v l) : St w0 w g a n c f K T (.slice none 0 0) [] := ⟨World.ownsRow_nil _ _ _ _, h.src, h.gr, h.low, h.cod⟩
/-- 'out = append(out, T{x, y})' -/
theorem app2 {P : Program} {ops : Array Oper} {rest : List Oper} {o : Oper} {A : Act} {Q : Exit → Act → World → Prop} (t : TypeId) (s x : Operand) (z : Value)
    (hop : o.op = .call { callee := .builtin .append, args := #[s, x], argTypes := #[t, t] }) (hgd : o.guard = none)
    (ht : P.underlying t = some (.slice T)) (hinfo : (P.info? T).map (fun i => (i.zero, i.size, i.bytes)) = some (some z, 2, 16)) (hz : z.cells.size = 2)
    (p q : Int) (gb : Nat) (hs : A.eval s = v) (hx : A.eval x = .slice (some ⟨gb, 0, none⟩) 1 1) (h : St w0 w g a n c f K T v l)
    (hc : Blk w gb T #[.int .i64 p, .int .i64 q]) (hl : l.length ≤ 1048576)
    (hK : ∀ v' w', St w0 w' g a n c f K T v' (l ++ [(p, q)]) → wpList P ops Q rest (A.put o.dst v') w') : wpList P ops Q (o :: rest) A w := by
  obtain ⟨i, hi, hz', hsz, hb⟩ := info_parts hinfo
  refine wpList_append_own (P := P) w hgd s x t hop w0.heap.size T i z 2 16 ht hi hz' hsz hb hz (by decide) v l.length _ hs h.own ⟨gb, 0, none⟩ 1 1 [.int .i64 p, .int .i64 q] hx rfl ?_ ?_ ?_ ?_ h.gr.size ?_
  · exact World.news_of_block hc
  · intro u hu
    simp at hu; rcases hu with rfl | rfl <;> rfl
  · unfold maxLen; omega
  · omega
  · intro v' w' h1 h2 _
    have hr : ∀ k, v.ownBlock = some k → w0.heap.size ≤ k := fun k hk => (h.own.lt k hk).1
    refine hK v' w' ⟨?_, h.src.keep h2 hr h.low h.cod h.gr.size, ⟨h2.os.trans h.gr.os, h2.tape.trans h.gr.tape, h2.output.trans h.gr.output, Nat.le_trans h.gr.size h2.size, fun k hk hn => ?_⟩, h.low, h.cod⟩
    · rw [PR_app, List.length_append]; have e1 : PR [(p, q)] = [.int .i64 p, .int .i64 q] := rfl
      rw [e1]; simpa using h1
    · exact (h2.block k (Nat.lt_of_lt_of_le hk h.gr.size) (fun e => by have := hr k e.symm; omega)).trans (h.gr.block k hk hn)
theorem PR_set0 {l : List (Int × Int)} {j : Nat} (hj : j < l.length) (z : Int) : (PR l).set (j * 2) (.int .i64 z) = PR (l.set j (z, (l.getD j (0, 0)).2)) := by
  induction l generalizing j with
  | nil => simp at hj
  | cons p l ih =>
    have e : PR (p :: l) = .int .i64 p.1 :: .int .i64 p.2 :: PR l := rfl
    cases j with
    | zero => rfl
    | succ j =>
      have h1 := ih (j := j) (by simpa using hj)
      rw [e, show (j + 1) * 2 = j * 2 + 1 + 1 by omega]
      simp only [List.set_cons_succ, h1]; simp [PR]
theorem PR_set1 {l : List (Int × Int)} {j : Nat} (hj : j < l.length) (z : Int) : (PR l).set (j * 2 + 1) (.int .i64 z) = PR (l.set j ((l.getD j (0, 0)).1, z)) := by
  induction l generalizing j with
  | nil => simp at hj
  | cons p l ih =>
    have e : PR (p :: l) = .int .i64 p.1 :: .int .i64 p.2 :: PR l := rfl
    cases j with
    | zero => rfl
    | succ j =>
      have h1 := ih (j := j) (by simpa using hj)
      rw [e, show (j + 1) * 2 + 1 = (j * 2 + 1) + 1 + 1 by omega]
      simp only [List.set_cons_succ, h1]; simp [PR]
theorem St.set {gb cap m i : Nat} {u : Value} {l' : List (Int × Int)} (h : St w0 w g a n c f K T (.slice (some ⟨gb, 0, none⟩) m cap) l) (hm : m = l.length) (hp : (PR l).set i u = PR l') (hl : l'.length = l.length) :
    St w0 (w.setCell ⟨gb, i, none⟩ u) g a n c f K T (.slice (some ⟨gb, 0, none⟩) m cap) l' := by
  subst hm
  have hgb : w0.heap.size ≤ gb := (h.own.lt gb rfl).1
  have hx := grown_set (w := w) gb i u
  refine ⟨?_, h.src.keep hx (fun k hk => by cases hk; exact hgb) h.low h.cod h.gr.size, ⟨h.gr.os, h.gr.tape, h.gr.output, by simpa using h.gr.size, fun k hk hn => ?_⟩, h.low, h.cod⟩
  · rw [hl, ← hp]; exact own_set h.own u
  · exact (hx.block k (Nat.lt_of_lt_of_le hk h.gr.size) (fun e => absurd (show k = gb by simpa using e) (by omega))).trans (h.gr.block k hk hn)
end
end Go.Proofs.Ytglcjnplmhelhaa

namespace Go.Proofs.Ytglcjnplmhelhaa
set_option linter.unusedVariables false
theorem nearD_mono {n n' d : Int} (hd : 0 < d) (h : n ≤ n') : nearD n d ≤ nearD n' d := Int.ediv_le_ediv (by omega) (by omega)
theorem nearD_mul {a d : Int} (hd : 0 < d) : nearD (a * d) d = a := by
  unfold nearD
  have e : 2 * (a * d) + d = d + a * (2 * d) := by grind
  rw [e, Int.add_mul_ediv_right _ _ (by omega), Int.ediv_eq_zero_of_lt (by omega) (by omega)]; omega
theorem nearD_add {n a d : Int} (hd : 0 < d) : nearD (a * d + n) d = a + nearD n d := by
  unfold nearD
  have e : 2 * (a * d + n) + d = (2 * n + d) + a * (2 * d) := by grind
  rw [e, Int.add_mul_ediv_right _ _ (by omega)]; omega
/-- what a rounded quotient is -/
theorem nearD_bd {n d : Int} (hd : 0 < d) : 2 * (nearD n d * d - n) ≤ d ∧ 2 * (n - nearD n d * d) < d := by
  unfold nearD
  have h1 := Int.mul_ediv_add_emod (2 * n + d) (2 * d)
  have h2 := Int.emod_nonneg (2 * n + d) (show 2 * d ≠ 0 by omega)
  have h3 := Int.emod_lt_of_pos (2 * n + d) (show 0 < 2 * d by omega)
  have h4 : 2 * d * ((2 * n + d) / (2 * d)) = 2 * ((2 * n + d) / (2 * d) * d) := by grind
  omega
theorem nearD_anti {m p q : Int} (hp : 0 < p) (hq : p ≤ q) (hm : 0 ≤ m) : nearD m q ≤ nearD m p := by
  unfold nearD
  rw [Int.le_ediv_iff_mul_le (by omega)]
  have h1 := Int.mul_ediv_add_emod (2 * m + q) (2 * q)
  have h2 := Int.emod_nonneg (2 * m + q) (show 2 * q ≠ 0 by omega)
  obtain ⟨x, hx⟩ : ∃ x, x = (2 * m + q) / (2 * q) := ⟨_, rfl⟩
  rw [← hx] at h1 ⊢
  have h3 : q * (2 * x - 1) ≤ 2 * m := by
    have : q * (2 * x - 1) = 2 * q * x - q := by grind
    omega
  have h4 : p * (2 * x - 1) ≤ 2 * m := by
    rcases Int.lt_or_le (2 * x - 1) 0 with h | h
    · have := Int.mul_nonneg (show 0 ≤ p by omega) (show 0 ≤ -(2 * x - 1) by omega)
      have e : p * -(2 * x - 1) = -(p * (2 * x - 1)) := by grind
      omega
    · exact Int.le_trans (Int.mul_le_mul_of_nonneg_right hq h) h3
  have e : x * (2 * p) = p * (2 * x - 1) + p := by grind
  omega
/-- bend k of a spring is valid -/
def bdA (w p : Nat → Int) (k : Nat) : Bool := inB (w k) 0 2000 && (inB (p k) 0 1000000 && (k == 0 || (decide (w (k - 1) < w k) && decide (p (k - 1) ≤ p k))))
def bdTo (w p : Nat → Int) : Nat → Bool
  | 0 => true
  | k + 1 => bdTo w p k && bdA w p k
theorem bdTo_ff {w p : Nat → Int} {n k : Nat} (hk : k < n) (h : bdA w p k = false) : bdTo w p n = false := by
  induction n with
  | zero => omega
  | succ n ih =>
    by_cases e : k = n
    · subst e; simp only [bdTo, h, Bool.and_false]
    · simp only [bdTo, ih (by omega), Bool.false_and]
theorem bdTo_at {w p : Nat → Int} {n k : Nat} (h : bdTo w p n = true) (hk : k < n) : bdA w p k = true := by
  cases e : bdA w p k
  · rw [bdTo_ff hk e] at h; cases h
  · rfl
/-- a spring is valid -/
def spV (n : Nat) (w p : Nat → Int) : Bool := bdTo w p n && (decide (2 ≤ n) && decide (n ≤ 20))
structure SpB (n : Nat) (w p : Nat → Int) : Prop where
  n2 : 2 ≤ n
  n20 : n ≤ 20
  wb : ∀ k, k < n → 0 ≤ w k ∧ w k ≤ 2000
  pb : ∀ k, k < n → 0 ≤ p k ∧ p k ≤ 1000000
  wi : ∀ k, k + 1 < n → w k < w (k + 1)
  pi : ∀ k, k + 1 < n → p k ≤ p (k + 1)
theorem spV_b {n : Nat} {w p : Nat → Int} (h : spV n w p = true) : SpB n w p := by
  simp only [spV, Bool.and_eq_true, decide_eq_true_eq] at h
  obtain ⟨h1, h2, h3⟩ := h
  have ha : ∀ k, k < n → inB (w k) 0 2000 = true ∧ inB (p k) 0 1000000 = true ∧ (k = 0 ∨ (w (k - 1) < w k ∧ p (k - 1) ≤ p k)) := fun k hk => by
    have := bdTo_at h1 hk
    simpa only [bdA, Bool.and_eq_true, Bool.or_eq_true, beq_iff_eq, decide_eq_true_eq] using this
  refine ⟨h2, h3, fun k hk => inB_t.1 (ha k hk).1, fun k hk => inB_t.1 (ha k hk).2.1, fun k hk => ?_, fun k hk => ?_⟩
  · rcases (ha (k + 1) hk).2.2 with e | ⟨e, _⟩
    · omega
    · simpa using e
  · rcases (ha (k + 1) hk).2.2 with e | ⟨_, e⟩
    · omega
    · simpa using e
theorem SpB.wm {n : Nat} {w p : Nat → Int} (b : SpB n w p) {i j : Nat} (h : i ≤ j) (hj : j < n) : w i ≤ w j := by
  induction j with
  | zero => have : i = 0 := by omega
            subst this; exact Int.le_refl _
  | succ j ih =>
    by_cases e : i = j + 1
    · subst e; exact Int.le_refl _
    · have := ih (by omega) (by omega); have := b.wi j hj; omega
theorem SpB.wl {n : Nat} {w p : Nat → Int} (b : SpB n w p) {i j : Nat} (h : i < j) (hj : j < n) : w i < w j := by
  have h1 := b.wm (show i + 1 ≤ j from h) hj
  have h2 := b.wi i (by omega)
  omega
theorem SpB.pm {n : Nat} {w p : Nat → Int} (b : SpB n w p) {i j : Nat} (h : i ≤ j) (hj : j < n) : p i ≤ p j := by
  induction j with
  | zero => have : i = 0 := by omega
            subst this; exact Int.le_refl _
  | succ j ih =>
    by_cases e : i = j + 1
    · subst e; exact Int.le_refl _
    · have := ih (by omega) (by omega); have := b.pi j hj; omega
/-- t lies in the part between bends k - 1 and k -/
structure Seg (n : Nat) (w : Nat → Int) (t : Int) (k : Nat) : Prop where
  k1 : 1 ≤ k
  kn : k < n
  hi : t ≤ w k
  lo : w (k - 1) ≤ t
  st : ∀ j, 1 ≤ j → j < k → w j < t
theorem Seg.one {n : Nat} {w p : Nat → Int} (b : SpB n w p) {t : Int} {k j : Nat} (h : Seg n w t k) (g : Seg n w t j) : k = j := by
  rcases Nat.lt_trichotomy k j with a | a | a
  · have := g.st k h.k1 a; have := h.hi; omega
  · exact a
  · have := h.st j g.k1 a; have := g.hi; omega
theorem Seg.ex {n : Nat} {w p : Nat → Int} (b : SpB n w p) {t : Int} (h0 : w 0 ≤ t) (h1 : t ≤ w (n - 1)) : ∃ k, Seg n w t k := by
  have h2 := b.n2
  -- the first bend from 1 on that is not below t
  have : ∀ m, m < n → t ≤ w m → 1 ≤ m → ∃ k, Seg n w t k := by
    intro m
    induction m with
    | zero => intro _ _ h; omega
    | succ m ih =>
      intro hm ht _
      by_cases a : m = 0
      · subst a
        exact ⟨1, Nat.le_refl _, hm, ht, h0, fun j h1 h2 => by omega⟩
      · by_cases c : t ≤ w m
        · exact ih (by omega) c (by omega)
        · exact ⟨m + 1, by omega, hm, ht, by simp; omega, fun j h1 h2 => by have := b.wm (show j ≤ m by omega) (by omega); omega⟩
  exact this (n - 1) (by omega) h1 (by omega)
/-- the torque in part k -/
def segV (w p : Nat → Int) (k : Nat) (t : Int) : Int := nearD (p (k - 1) * (w k - t) + p k * (t - w (k - 1))) (w k - w (k - 1))
theorem Seg.d {n : Nat} {w p : Nat → Int} (b : SpB n w p) {t : Int} {k : Nat} (h : Seg n w t k) : 0 < w k - w (k - 1) := by
  have := b.wl (show k - 1 < k by have := h.k1; omega) h.kn; omega
theorem segV_alt (w p : Nat → Int) (k : Nat) (t : Int) (hd : 0 < w k - w (k - 1)) : segV w p k t = p (k - 1) + nearD ((p k - p (k - 1)) * (t - w (k - 1))) (w k - w (k - 1)) := by
  unfold segV
  rw [← nearD_add hd]; congr 1; grind
theorem Seg.bd {n : Nat} {w p : Nat → Int} (b : SpB n w p) {t : Int} {k : Nat} (h : Seg n w t k) : p (k - 1) ≤ segV w p k t ∧ segV w p k t ≤ p k := by
  have hd := h.d b
  have hp := b.pm (show k - 1 ≤ k by omega) h.kn
  have h1 := h.lo
  have h2 := h.hi
  have e1 := Int.mul_nonneg (show 0 ≤ p k - p (k - 1) by omega) (show 0 ≤ t - w (k - 1) by omega)
  have e2 := Int.mul_nonneg (show 0 ≤ p k - p (k - 1) by omega) (show 0 ≤ w k - t by omega)
  constructor
  · have := nearD_mono hd (show p (k - 1) * (w k - w (k - 1)) ≤ p (k - 1) * (w k - t) + p k * (t - w (k - 1)) by grind)
    rw [nearD_mul hd] at this; exact this
  · have := nearD_mono hd (show p (k - 1) * (w k - t) + p k * (t - w (k - 1)) ≤ p k * (w k - w (k - 1)) by grind)
    rw [nearD_mul hd] at this; exact this
theorem Seg.mono {n : Nat} {w p : Nat → Int} (b : SpB n w p) {t t' : Int} {k k' : Nat} (h : Seg n w t k) (h' : Seg n w t' k') (ht : t ≤ t') : segV w p k t ≤ segV w p k' t' := by
  rcases Nat.lt_trichotomy k k' with a | a | a
  · have h1 := (h.bd b).2
    have h2 := (h'.bd b).1
    have h3 := b.pm (show k ≤ k' - 1 by omega) (by have := h'.kn; omega)
    omega
  · subst a
    have hp := b.pm (show k - 1 ≤ k by omega) h.kn
    have e1 := Int.mul_nonneg (show 0 ≤ p k - p (k - 1) by omega) (show 0 ≤ t' - t by omega)
    exact nearD_mono (h.d b) (by grind)
  · have h1 := h.st k' h'.k1 a
    have h2 := h'.hi
    omega
theorem Seg.bend {n : Nat} {w p : Nat → Int} (b : SpB n w p) {i k : Nat} (h : Seg n w (w i) k) (hi : i < n) : segV w p k (w i) = p i := by
  have hd := h.d b
  have hk := h.k1
  have : i = k ∨ i = k - 1 := by
    rcases Nat.lt_trichotomy i k with a | a | a
    · rcases Nat.lt_or_ge i (k - 1) with c | c
      · have := h.lo; have := b.wl c (by have := h.kn; omega); omega
      · right; omega
    · exact .inl a
    · have := b.wl a hi; have := h.hi; omega
  rcases this with rfl | rfl
  · unfold segV
    rw [show p (i - 1) * (w i - w i) + p i * (w i - w (i - 1)) = p i * (w i - w (i - 1)) by grind, nearD_mul hd]
  · unfold segV
    rw [show p (k - 1) * (w k - w (k - 1)) + p k * (w (k - 1) - w (k - 1)) = p (k - 1) * (w k - w (k - 1)) by grind, nearD_mul hd]
end Go.Proofs.Ytglcjnplmhelhaa

namespace Go.Proofs.Ytglcjnplmhelhaa
set_option linter.unusedVariables false
/-- the part in which t lies, sought from the first on -/
def segK (w : Nat → Int) (t : Int) : Nat → Nat
  | 0 => 1
  | f + 1 => if w (segK w t f) < t then segK w t f + 1 else segK w t f
theorem Seg.segK {n : Nat} {w : Nat → Int} {t : Int} {k : Nat} (h : Seg n w t k) (f : Nat) : segK w t f = if f + 1 ≤ k then f + 1 else k := by
  induction f with
  | zero =>
    have := h.k1
    simp only [Go.Proofs.Ytglcjnplmhelhaa.segK]; rw [if_pos (by omega)]
  | succ f ih =>
    simp only [Go.Proofs.Ytglcjnplmhelhaa.segK, ih]
    by_cases a : f + 1 + 1 ≤ k
    · rw [if_pos (show f + 1 ≤ k by omega), if_pos a, if_pos (h.st _ (by omega) (by omega))]
    · rw [if_neg a]
      by_cases c : f + 1 ≤ k
      · have e : f + 1 = k := by omega
        rw [if_pos c, e, if_neg (by have := h.hi; omega)]
      · rw [if_neg c, if_neg (by have := h.hi; omega)]
/-- the torque at t -/
def pullF (w p : Nat → Int) (t : Int) : Int := segV w p (segK w t 20) t
theorem pull_seg {n : Nat} {w p : Nat → Int} (b : SpB n w p) {t : Int} {k : Nat} (h : Seg n w t k) : pullF w p t = segV w p k t := by
  unfold pullF; rw [h.segK, if_neg (by have := h.kn; have := b.n20; omega)]
/-- t is a position -/
def inS (n : Nat) (w : Nat → Int) (t : Int) : Bool := inB t (w 0) (w (n - 1))
section
variable {n : Nat} {w p : Nat → Int}
theorem SpB.seg (b : SpB n w p) {t : Int} (h : inS n w t = true) : ∃ k, Seg n w t k := Seg.ex b (inB_t.1 h).1 (inB_t.1 h).2
theorem SpB.inS (b : SpB n w p) {t : Int} (h : inS n w t = true) : 0 ≤ t ∧ t ≤ 2000 := by
  have h1 := inB_t.1 h
  have h2 := b.wb 0 (by have := b.n2; omega)
  have h3 := b.wb (n - 1) (by have := b.n2; omega)
  omega
theorem SpB.pull (b : SpB n w p) {t : Int} (h : Go.Proofs.Ytglcjnplmhelhaa.inS n w t = true) : 0 ≤ pullF w p t ∧ pullF w p t ≤ 1000000 := by
  obtain ⟨k, hk⟩ := b.seg h
  rw [pull_seg b hk]
  have h1 := hk.bd b
  have h2 := b.pb (k - 1) (by have := hk.kn; omega)
  have h3 := b.pb k hk.kn
  omega
theorem SpB.mono (b : SpB n w p) {t t' : Int} (h : Go.Proofs.Ytglcjnplmhelhaa.inS n w t = true) (h' : Go.Proofs.Ytglcjnplmhelhaa.inS n w t' = true) (ht : t ≤ t') : pullF w p t ≤ pullF w p t' := by
  obtain ⟨k, hk⟩ := b.seg h
  obtain ⟨k', hk'⟩ := b.seg h'
  rw [pull_seg b hk, pull_seg b hk']
  exact hk.mono b hk' ht
theorem SpB.inW (b : SpB n w p) {i : Nat} (hi : i < n) : Go.Proofs.Ytglcjnplmhelhaa.inS n w (w i) = true := by
  unfold Go.Proofs.Ytglcjnplmhelhaa.inS; rw [inB_t]
  exact ⟨b.wm (Nat.zero_le _) hi, b.wm (show i ≤ n - 1 by omega) (by omega)⟩
theorem SpB.bend (b : SpB n w p) {i : Nat} (hi : i < n) : pullF w p (w i) = p i := by
  obtain ⟨k, hk⟩ := b.seg (b.inW hi)
  rw [pull_seg b hk]
  exact hk.bend b hi
end
/-- twice the energy from a on, over k steps -/
def eng (w p : Nat → Int) (a : Int) : Nat → Int
  | 0 => 0
  | k + 1 => eng w p a k + (pullF w p (a + k) + pullF w p (a + k + 1))
theorem eng_add (w p : Nat → Int) (a : Int) (m k : Nat) : eng w p a (m + k) = eng w p a m + eng w p (a + m) k := by
  induction k with
  | zero => simp [eng]
  | succ k ih =>
    rw [← Nat.add_assoc]
    simp only [eng, ih]
    have e : a + ((m + k : Nat) : Int) = a + (m : Int) + (k : Int) := by omega
    rw [e]; omega
theorem eng_bd {n : Nat} {w p : Nat → Int} (b : SpB n w p) {a : Int} (ha : inS n w a = true) {m : Nat} (hm : inS n w (a + m) = true) {k : Nat} (hk : k ≤ m) :
    2 * (k : Int) * pullF w p a ≤ eng w p a k ∧ eng w p a k ≤ 2 * (k : Int) * pullF w p (a + m) := by
  induction k with
  | zero => simp [eng]
  | succ k ih =>
    have h := ih (by omega)
    have h1 := inB_t.1 ha
    have h2 := inB_t.1 hm
    have i1 : inS n w (a + k) = true := inB_t.2 (by omega)
    have i2 : inS n w (a + k + 1) = true := inB_t.2 (by omega)
    have m1 := b.mono ha i1 (by omega)
    have m2 := b.mono ha i2 (by omega)
    have m3 := b.mono i1 hm (by omega)
    have m4 := b.mono i2 hm (by omega)
    have e1 : 2 * ((k + 1 : Nat) : Int) * pullF w p a = 2 * (k : Int) * pullF w p a + 2 * pullF w p a := by grind
    have e2 : 2 * ((k + 1 : Nat) : Int) * pullF w p (a + m) = 2 * (k : Int) * pullF w p (a + m) + 2 * pullF w p (a + m) := by grind
    simp only [eng]
    omega
end Go.Proofs.Ytglcjnplmhelhaa

namespace Go.Proofs.Ytglcjnplmhelhaa
set_option linter.unusedVariables false
/-- how far a spring runs down from t while its torque suffices, at most f steps -/
def runN (n : Nat) (w p : Nat → Int) (t need : Int) : Nat → Nat
  | 0 => 0
  | f + 1 => if inS n w (t - (runN n w p t need f : Nat) - 1) = true ∧ need ≤ pullF w p (t - (runN n w p t need f : Nat) - 1) then runN n w p t need f + 1 else runN n w p t need f
/-- it has stopped at j steps -/
structure RunE (n : Nat) (w p : Nat → Int) (t need : Int) (j : Nat) : Prop where
  ok : ∀ i : Nat, i ≤ j → inS n w (t - i) = true ∧ need ≤ pullF w p (t - i)
  no : ¬ (inS n w (t - j - 1) = true ∧ need ≤ pullF w p (t - j - 1))
theorem runN_le (n : Nat) (w p : Nat → Int) (t need : Int) (f : Nat) : runN n w p t need f ≤ f := by
  induction f with
  | zero => exact Nat.le_refl _
  | succ f ih => simp only [runN]; split <;> omega
/-- the steps so far all suffice -/
theorem runN_ok {n : Nat} {w p : Nat → Int} {t need : Int} (h : inS n w t = true) (hn : need ≤ pullF w p t) (f : Nat) : ∀ i : Nat, i ≤ runN n w p t need f → inS n w (t - i) = true ∧ need ≤ pullF w p (t - i) := by
  induction f with
  | zero => intro i hi; have : i = 0 := by simp [runN] at hi; exact hi
            subst this; simpa using ⟨h, hn⟩
  | succ f ih =>
    intro i hi
    simp only [runN] at hi
    split at hi
    · rename_i hc
      by_cases e : i = runN n w p t need f + 1
      · subst e
        have e2 : t - ((runN n w p t need f + 1 : Nat) : Int) = t - (runN n w p t need f : Nat) - 1 := by omega
        rw [e2]; exact hc
      · exact ih i (by omega)
    · exact ih i hi
theorem runN_stop {n : Nat} {w p : Nat → Int} {t need : Int} {f : Nat} (h : runN n w p t need (f + 1) = runN n w p t need f) (k : Nat) : runN n w p t need (f + k) = runN n w p t need f := by
  induction k with
  | zero => rfl
  | succ k ih =>
    have e : f + (k + 1) = (f + k) + 1 := by omega
    rw [e]; simp only [runN]; rw [ih]
    simp only [runN] at h
    split at h
    · omega
    · rename_i hc; rw [if_neg hc]
/-- in 2001 steps every spring has stopped -/
theorem runN_end {n : Nat} {w p : Nat → Int} (b : SpB n w p) {t need : Int} (h : inS n w t = true) (hn : need ≤ pullF w p t) : RunE n w p t need (runN n w p t need 2001) := by
  refine ⟨runN_ok h hn _, fun hc => ?_⟩
  -- if it still ran, all of 2002 positions would be some
  have hgrow : ∀ f, f ≤ 2001 → (∀ g, g < f → runN n w p t need (g + 1) = runN n w p t need g + 1) ∨ runN n w p t need 2001 = runN n w p t need f ∧ ∃ g, g < f ∧ runN n w p t need (g + 1) = runN n w p t need g := by
    intro f hf
    by_cases a : ∀ g, g < f → runN n w p t need (g + 1) = runN n w p t need g + 1
    · exact .inl a
    · right
      obtain ⟨g, hg⟩ := Classical.not_forall.1 a
      obtain ⟨hgf, hg2⟩ := Classical.not_imp.1 hg
      have h3 : runN n w p t need (g + 1) = runN n w p t need g := by
        have : runN n w p t need (g + 1) = runN n w p t need g ∨ runN n w p t need (g + 1) = runN n w p t need g + 1 := by
          simp only [runN]; split <;> simp
        rcases this with h | h
        · exact h
        · exact absurd h hg2
      have h4 := runN_stop h3 (2001 - g)
      have h5 := runN_stop h3 (f - g)
      rw [show g + (2001 - g) = 2001 by omega] at h4
      rw [show g + (f - g) = f by omega] at h5
      exact ⟨by rw [h4, h5], g, hgf, h3⟩
  rcases hgrow 2001 (Nat.le_refl _) with a | ⟨_, g, hg, h3⟩
  · have h6 : ∀ f, f ≤ 2001 → runN n w p t need f = f := by
      intro f hf
      induction f with
      | zero => rfl
      | succ f ih => rw [a f (by omega), ih (by omega)]
    have h7 := h6 2001 (Nat.le_refl _)
    have h8 := b.inS (runN_ok h hn 2001 2001 (by omega)).1
    have h9 := b.inS h
    omega
  · have h4 := runN_stop h3 (2001 - g)
    rw [show g + (2001 - g) = 2001 by omega] at h4
    have h5 := runN_stop h3 1
    simp only [runN] at h3
    rw [h4] at hc
    rw [if_pos hc] at h3
    omega
/-- the difference over a width -/
def winD (w p : Nat → Int) (wd t : Int) : Int := pullF w p (t + wd) - pullF w p t
/-- the best of the positions a, a + 1 .. a + j -/
def bstF (w p : Nat → Int) (wd a : Int) : Nat → Int
  | 0 => a
  | j + 1 => if winD w p wd (a + (j : Int) + 1) < winD w p wd (bstF w p wd a j) then a + (j : Int) + 1 else bstF w p wd a j
theorem bstF_in (w p : Nat → Int) (wd a : Int) (j : Nat) : a ≤ bstF w p wd a j ∧ bstF w p wd a j ≤ a + j := by
  induction j with
  | zero => simp [bstF]
  | succ j ih => simp only [bstF]; split <;> omega
theorem bstF_least (w p : Nat → Int) (wd a : Int) (j : Nat) : ∀ i : Nat, i ≤ j → winD w p wd (bstF w p wd a j) ≤ winD w p wd (a + i) ∧ (winD w p wd (a + i) = winD w p wd (bstF w p wd a j) → bstF w p wd a j ≤ a + i) := by
  induction j with
  | zero => intro i hi; have : i = 0 := by omega
            subst this; simp [bstF]
  | succ j ih =>
    intro i hi
    have hb := bstF_in w p wd a j
    simp only [bstF]
    split
    · rename_i hc
      by_cases e : i = j + 1
      · subst e
        have e2 : a + ((j + 1 : Nat) : Int) = a + (j : Int) + 1 := by omega
        rw [e2]; omega
      · have := ih i (by omega)
        omega
    · rename_i hc
      by_cases e : i = j + 1
      · subst e
        have e2 : a + ((j + 1 : Nat) : Int) = a + (j : Int) + 1 := by omega
        rw [e2]; omega
      · exact ih i (by omega)
end Go.Proofs.Ytglcjnplmhelhaa

namespace Go.Proofs.Ytglcjnplmhelhaa
open Go.RowKit
set_option linter.unusedVariables false
set_option linter.unusedSimpArgs false

section
variable {a : Option Addr} {n c : Nat} {wd pl : Nat → Int} {w : World}
theorem firstOf_c (hn : 1 ≤ n) (hs : S2 w a n wd pl) :
    Calls Try.prog 71 #[.agg #[.slice a n c]] w fun e w' => e = .returned (.int .i64 (wd 0)) ∧ Ext w w' := by
  obtain ⟨b, o, rfl, hb, q1, q2⟩ := hs.at (show 0 < n by omega)
  simp only [Nat.zero_mul, Nat.add_zero] at q1
  clear hs
  go_enter Try.func71, Try.ntmps71
  go_wp2_with fail
  go_ret
  exact ⟨rfl, (by repeat (first | with_reducible exact Ext.refl _ | with_reducible assumption | with_reducible refine Ext.alloc ?_ _ | with_reducible refine Ext.drew ?_ | (with_reducible refine Ext.setAt ?_ _ _ _ ?_; rotate_left; omega) | with_reducible refine Ext.trans ?_ (by assumption) | with_reducible exact Past.bel _ | with_reducible refine Ext.trans ?_ (Past.bel _)))⟩
theorem l13First_c (hn : 1 ≤ n) (hs : S2 w a n wd pl) :
    Calls Try.prog 68 #[.agg #[.slice a n c]] w fun e w' => e = .returned (.int .i64 (wd 0)) ∧ Ext w w' := by
  obtain ⟨b, o, rfl, hb, q1, q2⟩ := hs.at (show 0 < n by omega)
  simp only [Nat.zero_mul, Nat.add_zero] at q1
  clear hs
  go_enter Try.func68, Try.ntmps68
  go_wp2_with fail
  go_ret
  exact ⟨rfl, (by repeat (first | with_reducible exact Ext.refl _ | with_reducible assumption | with_reducible refine Ext.alloc ?_ _ | with_reducible refine Ext.drew ?_ | (with_reducible refine Ext.setAt ?_ _ _ _ ?_; rotate_left; omega) | with_reducible refine Ext.trans ?_ (by assumption) | with_reducible exact Past.bel _ | with_reducible refine Ext.trans ?_ (Past.bel _)))⟩
theorem lastOf_c (hn : 1 ≤ n) (hn2 : n ≤ 1048576) (hs : S2 w a n wd pl) :
    Calls Try.prog 70 #[.agg #[.slice a n c]] w fun e w' => e = .returned (.int .i64 (wd (n - 1))) ∧ Ext w w' := by
  obtain ⟨j, rfl⟩ : ∃ j, n = j + 1 := ⟨n - 1, by omega⟩
  obtain ⟨b, o, rfl, hb, q1, q2⟩ := hs.at (show j < j + 1 by omega)
  have x0 : ((j + 1 : Nat) : Int) - 1 = (j : Int) := by omega
  have x1 : (0 : Int) ≤ (j : Int) := by omega
  clear hs
  go_enter Try.func70, Try.ntmps70
  go_wp2_with fail
  trace_state
  go_ret
  exact ⟨rfl, (by repeat (first | with_reducible exact Ext.refl _ | with_reducible assumption | with_reducible refine Ext.alloc ?_ _ | with_reducible refine Ext.drew ?_ | (with_reducible refine Ext.setAt ?_ _ _ _ ?_; rotate_left; omega) | with_reducible refine Ext.trans ?_ (by assumption) | with_reducible exact Past.bel _ | with_reducible refine Ext.trans ?_ (Past.bel _)))⟩
theorem l13Last_c (hn : 1 ≤ n) (hn2 : n ≤ 1048576) (hs : S2 w a n wd pl) :
    Calls Try.prog 69 #[.agg #[.slice a n c]] w fun e w' => e = .returned (.int .i64 (wd (n - 1))) ∧ Ext w w' := by
  obtain ⟨j, rfl⟩ : ∃ j, n = j + 1 := ⟨n - 1, by omega⟩
  obtain ⟨b, o, rfl, hb, q1, q2⟩ := hs.at (show j < j + 1 by omega)
  have x0 : ((j + 1 : Nat) : Int) - 1 = (j : Int) := by omega
  have x1 : (0 : Int) ≤ (j : Int) := by omega
  clear hs
  go_enter Try.func69, Try.ntmps69
  go_wp2_with fail
  trace_state
  go_ret
  exact ⟨rfl, (by repeat (first | with_reducible exact Ext.refl _ | with_reducible assumption | with_reducible refine Ext.alloc ?_ _ | with_reducible refine Ext.drew ?_ | (with_reducible refine Ext.setAt ?_ _ _ _ ?_; rotate_left; omega) | with_reducible refine Ext.trans ?_ (by assumption) | with_reducible exact Past.bel _ | with_reducible refine Ext.trans ?_ (Past.bel _)))⟩
theorem isPosition_c (hn : 1 ≤ n) (hn2 : n ≤ 1048576) (hs : S2 w a n wd pl) (t : Int) :
    Calls Try.prog 47 #[.agg #[.slice a n c], .int .i64 t] w fun e w' => e = .returned (.bool (inS n wd t)) ∧ Ext w w' := by
  have HS := Lib.hid hs
  clear hs
  go_enter Try.func47, Try.ntmps47
  go_wp2_with fail
  refine wp_region_past (by kernel_rfl) (by kernel_rfl) ?_
  repeat (go_big_quiet_step (first | (go_at_call 71; exact Calls.past (firstOf_c hn (HS.out.ext (by repeat (first | with_reducible exact Ext.refl _ | with_reducible assumption | with_reducible refine Ext.alloc ?_ _ | with_reducible refine Ext.drew ?_ | (with_reducible refine Ext.setAt ?_ _ _ _ ?_; rotate_left; omega) | with_reducible refine Ext.trans ?_ (by assumption) | with_reducible exact Past.bel _ | with_reducible refine Ext.trans ?_ (Past.bel _)))))) | (go_at_call 70; exact Calls.past (lastOf_c hn hn2 (HS.out.ext (by repeat (first | with_reducible exact Ext.refl _ | with_reducible assumption | with_reducible refine Ext.alloc ?_ _ | with_reducible refine Ext.drew ?_ | (with_reducible refine Ext.setAt ?_ _ _ _ ?_; rotate_left; omega) | with_reducible refine Ext.trans ?_ (by assumption) | with_reducible exact Past.bel _ | with_reducible refine Ext.trans ?_ (Past.bel _)))))) | (go_at_call 52; exact Calls.past_same (within_c _ _ _ _))))
  refine wpQuiet_nil ?_
  rintro _ ⟨wx, rfl⟩
  go_wp2_with fail
  go_ret
  exact ⟨rfl, (by repeat (first | with_reducible exact Ext.refl _ | with_reducible assumption | with_reducible refine Ext.alloc ?_ _ | with_reducible refine Ext.drew ?_ | (with_reducible refine Ext.setAt ?_ _ _ _ ?_; rotate_left; omega) | with_reducible refine Ext.trans ?_ (by assumption) | with_reducible exact Past.bel _ | with_reducible refine Ext.trans ?_ (Past.bel _)))⟩
theorem l13In_c (hn : 1 ≤ n) (hn2 : n ≤ 1048576) (hs : S2 w a n wd pl) (t : Int) :
    Calls Try.prog 50 #[.agg #[.slice a n c], .int .i64 t] w fun e w' => e = .returned (.bool (inS n wd t)) ∧ Ext w w' := by
  have HS := Lib.hid hs
  clear hs
  go_enter Try.func50, Try.ntmps50
  go_wp2_with fail
  refine wp_region_past (by kernel_rfl) (by kernel_rfl) ?_
  repeat (go_big_quiet_step (first | (go_at_call 68; exact Calls.past (l13First_c hn (HS.out.ext (by repeat (first | with_reducible exact Ext.refl _ | with_reducible assumption | with_reducible refine Ext.alloc ?_ _ | with_reducible refine Ext.drew ?_ | (with_reducible refine Ext.setAt ?_ _ _ _ ?_; rotate_left; omega) | with_reducible refine Ext.trans ?_ (by assumption) | with_reducible exact Past.bel _ | with_reducible refine Ext.trans ?_ (Past.bel _)))))) | (go_at_call 69; exact Calls.past (l13Last_c hn hn2 (HS.out.ext (by repeat (first | with_reducible exact Ext.refl _ | with_reducible assumption | with_reducible refine Ext.alloc ?_ _ | with_reducible refine Ext.drew ?_ | (with_reducible refine Ext.setAt ?_ _ _ _ ?_; rotate_left; omega) | with_reducible refine Ext.trans ?_ (by assumption) | with_reducible exact Past.bel _ | with_reducible refine Ext.trans ?_ (Past.bel _)))))) | (go_at_call 57; exact Calls.past_same (l00In_c _ _ _ _))))
  refine wpQuiet_nil ?_
  rintro _ ⟨wx, rfl⟩
  go_wp2_with fail
  go_ret
  exact ⟨rfl, (by repeat (first | with_reducible exact Ext.refl _ | with_reducible assumption | with_reducible refine Ext.alloc ?_ _ | with_reducible refine Ext.drew ?_ | (with_reducible refine Ext.setAt ?_ _ _ _ ?_; rotate_left; omega) | with_reducible refine Ext.trans ?_ (by assumption) | with_reducible exact Past.bel _ | with_reducible refine Ext.trans ?_ (Past.bel _)))⟩
theorem isPull_c (t : Int) (w : World) : Calls Try.prog 53 #[.int .i64 t] w fun e w' => e = .returned (.bool (inB t 0 1000000)) ∧ w = w' := by
  go_enter Try.func53, Try.ntmps53
  go_wp2_with (go_at_call 52; ((with_reducible refine (within_c _ _ _ _).mono ?_); rintro e w' ⟨rfl, rfl⟩))
  go_ret
  exact ⟨rfl, rfl⟩
end
end Go.Proofs.Ytglcjnplmhelhaa

namespace Go.Proofs.Ytglcjnplmhelhaa
open Go.RowKit
set_option linter.unusedVariables false
set_option linter.unusedSimpArgs false

section
variable {a : Option Addr} {n c : Nat} {wd pl : Nat → Int} {w : World}
set_option maxHeartbeats 1000000 in
theorem pullAt_c (b : SpB n wd pl) (hs : S2 w a n wd pl) {t : Int} (ht : inS n wd t = true) :
    Calls Try.prog 48 #[.agg #[.slice a n c], .int .i64 t] w fun e w' => e = .returned (.int .i64 (pullF wd pl t)) ∧ Ext w w' := by
  obtain ⟨K, hK⟩ := b.seg ht
  rw [pull_seg b hK]
  obtain ⟨m, rfl⟩ : ∃ m, K = m + 1 := ⟨K - 1, by have := hK.k1; omega⟩
  have hkn := hK.kn
  have n20 := b.n20
  obtain ⟨tb0, tb1⟩ := b.inS ht
  have hw1 := b.wb m (by omega)
  have hw2 := b.wb (m + 1) hkn
  have hp1 := b.pb m (by omega)
  have hp2 := b.pb (m + 1) hkn
  have hlo := hK.lo
  have hhi := hK.hi
  have hd := hK.d b
  simp only [Nat.add_sub_cancel] at hlo hd
  have hst := Lib.hid hK.st
  unfold segV
  simp only [Nat.add_sub_cancel]
  obtain ⟨b1, o1, rfl, hb1, q1, q2⟩ := hs.at (show m < n by omega)
  obtain ⟨b2, o2, e2, -, q3, q4⟩ := hs.at hkn
  obtain ⟨rfl, rfl⟩ : b1 = b2 ∧ o1 = o2 := by simpa using e2
  have HW := Lib.hid (fun j (hj : j < n) => show w.cell? ⟨b1, o1 + j * 2, none⟩ = some (.int .i64 (wd j)) from by
    obtain ⟨b3, o3, e3, -, q5, -⟩ := hs.at hj
    obtain ⟨rfl, rfl⟩ : b1 = b3 ∧ o1 = o3 := by simpa using e3
    exact q5)
  clear e2 hs b hK ht
  obtain ⟨A, hA⟩ : ∃ A, A = pl m := ⟨_, rfl⟩
  obtain ⟨B, hB⟩ : ∃ B, B = pl (m + 1) := ⟨_, rfl⟩
  obtain ⟨U, hU⟩ : ∃ U, U = wd m := ⟨_, rfl⟩
  obtain ⟨V, hV⟩ : ∃ V, V = wd (m + 1) := ⟨_, rfl⟩
  rw [← hA] at q2 hp1 ⊢
  rw [← hB] at q4 hp2 ⊢
  rw [← hU] at q1 hw1 hlo hd ⊢
  rw [← hV] at q3 hw2 hhi hd ⊢
  obtain ⟨K, hKm⟩ : ∃ K, K = m + 1 := ⟨_, rfl⟩
  rw [← hKm] at q3 q4 hst hkn
  have x2 : (K : Int) - 1 = (m : Int) := by omega
  have x5 : 1 ≤ K := by omega
  clear hA hB hU hV hKm
  obtain ⟨m1, m2⟩ := mul_nn (A := 1000000) (B := 2000) hp1.1 hp1.2 (show 0 ≤ V - t by omega) (by omega)
  obtain ⟨m3, m4⟩ := mul_nn (A := 1000000) (B := 2000) hp2.1 hp2.2 (show 0 ≤ t - U by omega) (by omega)
  go_enter Try.func48, Try.ntmps48
  go_wp2_with fail
  go_loop [5] (fun i => ∃ k : Nat, 1 ≤ k ∧ k ≤ K ∧ i = .int .i64 k) (fun i => K - (intOf i).toNat)
  case atStart => exact ⟨1, by omega, by omega, rfl⟩
  case round =>
    obtain ⟨k, hk1, hk2, rfl⟩ := hrel
    have x0 : (0 : Int) ≤ (k : Int) := by omega
    have x1 : (k : Int) < (n : Int) := by omega
    by_cases hlt : k < K
    · have hwk := hst.out k hk1 hlt
      have qk := HW.out k (by omega)
      go_wp2_with fail
      exact ⟨⟨k + 1, by omega, by omega, by go_num⟩, by simp [intOf]; omega⟩
    · obtain rfl : k = K := by omega
      have y1 : b1 < w.heap.size + 1 := by omega
      have y2 : b1 < w.heap.size + 1 + 1 := by omega
      have y3 : b1 < w.heap.size + 1 + 1 + 1 := by omega
      have y4 : ¬ b1 = w.heap.size := by omega
      have y5 : ¬ b1 = w.heap.size + 1 := by omega
      have y6 : ¬ b1 = w.heap.size + 1 + 1 := by omega
      have x3 : (0 : Int) ≤ (m : Int) := by omega
      go_wp2_with fail
      go_region
      all_goals
        go_wp2_with (go_at_call 65; ((with_reducible refine (nearestDiv_c _ _ _ (by omega) (by omega) (by omega) (by omega)).mono ?_); rintro e w' ⟨rfl, rfl⟩))
        go_ret
        exact ⟨rfl, (by repeat (first | with_reducible exact Ext.refl _ | with_reducible assumption | with_reducible refine Ext.alloc ?_ _ | with_reducible refine Ext.drew ?_ | (with_reducible refine Ext.setAt ?_ _ _ _ ?_; rotate_left; omega) | with_reducible refine Ext.trans ?_ (by assumption) | with_reducible exact Past.bel _ | with_reducible refine Ext.trans ?_ (Past.bel _)))⟩
end
end Go.Proofs.Ytglcjnplmhelhaa

namespace Go.Proofs.Ytglcjnplmhelhaa
open Go.RowKit
set_option linter.unusedVariables false
set_option linter.unusedSimpArgs false

section
variable {a : Option Addr} {n c : Nat} {wd pl : Nat → Int} {w : World}
set_option maxHeartbeats 1000000 in
theorem l13At_c (b : SpB n wd pl) (hs : S2 w a n wd pl) {t : Int} (ht : inS n wd t = true) :
    Calls Try.prog 51 #[.agg #[.slice a n c], .int .i64 t] w fun e w' => e = .returned (.int .i64 (pullF wd pl t)) ∧ Ext w w' := by
  obtain ⟨K, hK⟩ := b.seg ht
  rw [pull_seg b hK]
  obtain ⟨m, rfl⟩ : ∃ m, K = m + 1 := ⟨K - 1, by have := hK.k1; omega⟩
  have hkn := hK.kn
  have n20 := b.n20
  obtain ⟨tb0, tb1⟩ := b.inS ht
  have hw1 := b.wb m (by omega)
  have hw2 := b.wb (m + 1) hkn
  have hp1 := b.pb m (by omega)
  have hp2 := b.pb (m + 1) hkn
  have hlo := hK.lo
  have hhi := hK.hi
  have hd := hK.d b
  simp only [Nat.add_sub_cancel] at hlo hd
  have hst := Lib.hid hK.st
  rw [segV_alt _ _ _ _ (by simpa using hd)]
  simp only [Nat.add_sub_cancel]
  have hpm := b.pm (show m ≤ m + 1 by omega) hkn
  obtain ⟨b1, o1, rfl, hb1, q1, q2⟩ := hs.at (show m < n by omega)
  obtain ⟨b2, o2, e2, -, q3, q4⟩ := hs.at hkn
  obtain ⟨rfl, rfl⟩ : b1 = b2 ∧ o1 = o2 := by simpa using e2
  have HW := Lib.hid (fun j (hj : j < n) => show w.cell? ⟨b1, o1 + j * 2, none⟩ = some (.int .i64 (wd j)) from by
    obtain ⟨b3, o3, e3, -, q5, -⟩ := hs.at hj
    obtain ⟨rfl, rfl⟩ : b1 = b3 ∧ o1 = o3 := by simpa using e3
    exact q5)
  clear e2 hs b hK ht
  obtain ⟨A, hA⟩ : ∃ A, A = pl m := ⟨_, rfl⟩
  obtain ⟨B, hB⟩ : ∃ B, B = pl (m + 1) := ⟨_, rfl⟩
  obtain ⟨U, hU⟩ : ∃ U, U = wd m := ⟨_, rfl⟩
  obtain ⟨V, hV⟩ : ∃ V, V = wd (m + 1) := ⟨_, rfl⟩
  rw [← hA] at q2 hp1 hpm ⊢
  rw [← hB] at q4 hp2 hpm ⊢
  rw [← hU] at q1 hw1 hlo hd ⊢
  rw [← hV] at q3 hw2 hhi hd ⊢
  obtain ⟨K, hKm⟩ : ∃ K, K = m + 1 := ⟨_, rfl⟩
  rw [← hKm] at q3 q4 hst hkn
  have x2 : (K : Int) - 1 = (m : Int) := by omega
  have x5 : 1 ≤ K := by omega
  clear hA hB hU hV hKm
  obtain ⟨m1, m2⟩ := mul_nn (A := 1000000) (B := 2000) (show 0 ≤ B - A by omega) (by omega) (show 0 ≤ t - U by omega) (by omega)
  obtain ⟨D, hD⟩ : ∃ D, D = nearD ((B - A) * (t - U)) (V - U) := ⟨_, rfl⟩
  have dd0 : 0 ≤ D := by
    have h := nearD_mono (d := V - U) (show 0 < V - U by omega) (show 0 * (V - U) ≤ (B - A) * (t - U) by omega)
    rw [nearD_mul (by omega)] at h; omega
  have dd1 : D ≤ 1000000 := by
    have h5 : (B - A) * (t - U) ≤ (B - A) * (V - U) := Int.mul_le_mul_of_nonneg_left (by omega) (by omega)
    have h := nearD_mono (d := V - U) (show 0 < V - U by omega) h5
    rw [nearD_mul (by omega)] at h; omega
  have HN := Lib.hid (fun W => (hD ▸ l02Near_c ((B - A) * (t - U)) (V - U) W (by omega) (by omega) (by omega) (by omega) : Calls Try.prog 63 #[.int .i64 ((B - A) * (t - U)), .int .i64 (V - U)] W fun e w' => e = .returned (.int .i64 D) ∧ W = w'))
  rw [← hD]
  clear hD
  go_enter Try.func51, Try.ntmps51
  go_wp2_with fail
  go_loop [5] (fun i => ∃ k : Nat, 1 ≤ k ∧ k ≤ K ∧ i = .int .i64 k) (fun i => K - (intOf i).toNat)
  case atStart => exact ⟨1, by omega, by omega, rfl⟩
  case round =>
    obtain ⟨k, hk1, hk2, rfl⟩ := hrel
    have x0 : (0 : Int) ≤ (k : Int) := by omega
    have x1 : (k : Int) < (n : Int) := by omega
    by_cases hlt : k < K
    · have hwk := hst.out k hk1 hlt
      have qk := HW.out k (by omega)
      go_wp2_with fail
      exact ⟨⟨k + 1, by omega, by omega, by go_num⟩, by simp [intOf]; omega⟩
    · obtain rfl : k = K := by omega
      have y1 : b1 < w.heap.size + 1 := by omega
      have y2 : b1 < w.heap.size + 1 + 1 := by omega
      have y3 : b1 < w.heap.size + 1 + 1 + 1 := by omega
      have y4 : ¬ b1 = w.heap.size := by omega
      have y5 : ¬ b1 = w.heap.size + 1 := by omega
      have y6 : ¬ b1 = w.heap.size + 1 + 1 := by omega
      have x3 : (0 : Int) ≤ (m : Int) := by omega
      go_wp2_with fail
      refine wp_region_past (by kernel_rfl) (by kernel_rfl) ?_
      repeat (go_big_quiet_step ((go_at_call 63; exact Calls.past_same (HN.out _))))
      refine wpQuiet_nil ?_
      rintro _ ⟨wx, rfl⟩
      go_wp2_with fail
      go_ret
      exact ⟨rfl, (by repeat (first | with_reducible exact Ext.refl _ | with_reducible assumption | with_reducible refine Ext.alloc ?_ _ | with_reducible refine Ext.drew ?_ | (with_reducible refine Ext.setAt ?_ _ _ _ ?_; rotate_left; omega) | with_reducible refine Ext.trans ?_ (by assumption) | with_reducible exact Past.bel _ | with_reducible refine Ext.trans ?_ (Past.bel _)))⟩
end
end Go.Proofs.Ytglcjnplmhelhaa

namespace Go.Proofs.Ytglcjnplmhelhaa
open Go.RowKit
set_option linter.unusedVariables false
set_option linter.unusedSimpArgs false

theorem spV_ff {wd pl : Nat → Int} {n k : Nat} (hk : k < n) (h : bdA wd pl k = false) : false = spV n wd pl := by rw [spV, bdTo_ff hk h]; rfl
theorem spV_n {wd pl : Nat → Int} {n : Nat} (h : ¬ (2 ≤ n ∧ n ≤ 20)) : false = spV n wd pl := by
  have e : (decide (2 ≤ n) && decide (n ≤ 20)) = false := by
    cases e : (decide (2 ≤ n) && decide (n ≤ 20))
    · rfl
    · rw [Bool.and_eq_true, decide_eq_true_eq, decide_eq_true_eq] at e; exact absurd e h
  rw [spV, e, Bool.and_false]
section
variable {a : Option Addr} {n c : Nat} {wd pl : Nat → Int} {w : World}
set_option maxHeartbeats 4000000 in
theorem validSpring_c (hn : n ≤ 1048576) (hs : S2 w a n wd pl) :
    Calls Try.prog 13 #[.agg #[.slice a n c]] w fun e w' => e = .returned (.bool (spV n wd pl)) ∧ Ext w w' := by
  have HS := Lib.hid hs
  clear hs
  go_enter Try.func13, Try.ntmps13
  go_wp2_with fail
  go_loopw [8] (fun i wr => ∃ j : Nat, j ≤ n ∧ i = .int .i64 j ∧ Ext (w.alloc (.cells #[.slice a n c] 26)) wr ∧ bdTo wd pl j = true) (fun i _ => n - (intOf i).toNat)
  case atStart => exact ⟨0, by omega, rfl, (by repeat (first | with_reducible exact Ext.refl _ | with_reducible assumption | with_reducible refine Ext.alloc ?_ _ | with_reducible refine Ext.drew ?_ | (with_reducible refine Ext.setAt ?_ _ _ _ ?_; rotate_left; omega) | with_reducible refine Ext.trans ?_ (by assumption) | with_reducible exact Past.bel _ | with_reducible refine Ext.trans ?_ (Past.bel _))), rfl⟩
  case round =>
    obtain ⟨j, hj, rfl, hbl, htr⟩ := hrel
    have HT := Lib.hid htr
    have hz := hbl.size
    simp only [World.size_alloc] at hz
    have hg : w.heap.size < wr.heap.size := by omega
    have p0 : wr.cell? ⟨w.heap.size, 0, none⟩ = some (.slice a n c) := by rw [hbl.cell (by simp)]; simp [go_sem]
    have hxw : Ext w wr := Ext.trans (by repeat (first | with_reducible exact Ext.refl _ | with_reducible assumption | with_reducible refine Ext.alloc ?_ _ | with_reducible refine Ext.drew ?_ | (with_reducible refine Ext.setAt ?_ _ _ _ ?_; rotate_left; omega) | with_reducible refine Ext.trans ?_ (by assumption) | with_reducible exact Past.bel _ | with_reducible refine Ext.trans ?_ (Past.bel _))) hbl
    clear htr
    by_cases hlt : j < n
    · obtain ⟨b1, o1, rfl, hb1', q1, q2⟩ := (HS.out.ext hxw).at hlt
      have x0 : (0 : Int) ≤ (j : Int) := by omega
      have x1 : (j : Int) < (n : Int) := by omega
      have hA : bdA wd pl j = (inB (wd j) 0 2000 && (inB (pl j) 0 1000000 && (j == 0 || (decide (wd (j - 1) < wd j) && decide (pl (j - 1) ≤ pl j))))) := rfl
      have HA := Lib.hid hA
      clear hA
      cases h1 : inB (wd j) 0 2000
      · have HF := Lib.hid (show false = spV n wd pl from spV_ff hlt (by rw [HA.out, h1]; rfl))
        go_wp2_with (first | (go_at_call 52; ((with_reducible refine (within_c _ _ _ _).mono ?_); rintro e w' ⟨rfl, rfl⟩)) | (go_at_call 53; ((with_reducible refine (isPull_c _ _).mono ?_); rintro e w' ⟨rfl, rfl⟩)) | (go_at_call 57; ((with_reducible refine (l00In_c _ _ _ _).mono ?_); rintro e w' ⟨rfl, rfl⟩)))
        go_ret
        exact ⟨ret_bool HF.out, (by repeat (first | with_reducible exact Ext.refl _ | with_reducible assumption | with_reducible refine Ext.alloc ?_ _ | with_reducible refine Ext.drew ?_ | (with_reducible refine Ext.setAt ?_ _ _ _ ?_; rotate_left; omega) | with_reducible refine Ext.trans ?_ (by assumption) | with_reducible exact Past.bel _ | with_reducible refine Ext.trans ?_ (Past.bel _)))⟩
      · cases h2 : inB (pl j) 0 1000000
        · have HF := Lib.hid (show false = spV n wd pl from spV_ff hlt (by rw [HA.out, h1, h2]; rfl))
          go_wp2_with (first | (go_at_call 52; ((with_reducible refine (within_c _ _ _ _).mono ?_); rintro e w' ⟨rfl, rfl⟩)) | (go_at_call 53; ((with_reducible refine (isPull_c _ _).mono ?_); rintro e w' ⟨rfl, rfl⟩)) | (go_at_call 57; ((with_reducible refine (l00In_c _ _ _ _).mono ?_); rintro e w' ⟨rfl, rfl⟩)))
          go_ret
          exact ⟨ret_bool HF.out, (by repeat (first | with_reducible exact Ext.refl _ | with_reducible assumption | with_reducible refine Ext.alloc ?_ _ | with_reducible refine Ext.drew ?_ | (with_reducible refine Ext.setAt ?_ _ _ _ ?_; rotate_left; omega) | with_reducible refine Ext.trans ?_ (by assumption) | with_reducible exact Past.bel _ | with_reducible refine Ext.trans ?_ (Past.bel _)))⟩
        · by_cases h0 : j = 0
          · subst h0
            simp only [Nat.zero_mul, Nat.add_zero] at q1 q2
            go_wp2_with (first | (go_at_call 52; ((with_reducible refine (within_c _ _ _ _).mono ?_); rintro e w' ⟨rfl, rfl⟩)) | (go_at_call 53; ((with_reducible refine (isPull_c _ _).mono ?_); rintro e w' ⟨rfl, rfl⟩)) | (go_at_call 57; ((with_reducible refine (l00In_c _ _ _ _).mono ?_); rintro e w' ⟨rfl, rfl⟩)))
            refine wp_region_past (by kernel_rfl) (by kernel_rfl) ?_
            repeat (go_big_quiet_step (fail))
            refine wpQuiet_nil ?_
            rintro _ ⟨wx, rfl⟩
            go_wp2_with fail
            exact ⟨⟨1, by omega, by go_num, (by repeat (first | with_reducible exact Ext.refl _ | with_reducible assumption | with_reducible refine Ext.alloc ?_ _ | with_reducible refine Ext.drew ?_ | (with_reducible refine Ext.setAt ?_ _ _ _ ?_; rotate_left; omega) | with_reducible refine Ext.trans ?_ (by assumption) | with_reducible exact Past.bel _ | with_reducible refine Ext.trans ?_ (Past.bel _))), by rw [bdTo, HT.out, HA.out, h1, h2]; rfl⟩, by simp [intOf]; omega⟩
          · obtain ⟨m, hm⟩ : ∃ m, m = j - 1 := ⟨_, rfl⟩
            have y0 : (j : Int) - 1 = (m : Int) := by omega
            have y1 : (m : Int) < (n : Int) := by omega
            have y2 : (0 : Int) < (j : Int) := by omega
            have y3 : (0 : Int) ≤ (m : Int) := by omega
            have y5 : decide (0 < j) = true := decide_eq_true (by omega)
            obtain ⟨b2, o2, e2, -, q3, q4⟩ := (HS.out.ext hxw).at (show m < n by omega)
            obtain ⟨rfl, rfl⟩ : b1 = b2 ∧ o1 = o2 := by simpa using e2
            rw [← hm] at HA
            have H0 := Lib.hid (show (j == 0) = false by simpa using h0)
            clear e2 hm h0
            by_cases c1 : wd j ≤ wd m
            · have HF := Lib.hid (show false = spV n wd pl from spV_ff hlt (by rw [HA.out, h1, h2, H0.out, decide_eq_false (show ¬ wd m < wd j by omega)]; rfl))
              go_wp2_with (first | (go_at_call 52; ((with_reducible refine (within_c _ _ _ _).mono ?_); rintro e w' ⟨rfl, rfl⟩)) | (go_at_call 53; ((with_reducible refine (isPull_c _ _).mono ?_); rintro e w' ⟨rfl, rfl⟩)) | (go_at_call 57; ((with_reducible refine (l00In_c _ _ _ _).mono ?_); rintro e w' ⟨rfl, rfl⟩)))
              refine wp_region_past (by kernel_rfl) (by kernel_rfl) ?_
              repeat (go_big_quiet_step (fail))
              refine wpQuiet_nil ?_
              rintro _ ⟨wx, rfl⟩
              go_wp2_with fail
              go_ret
              exact ⟨ret_bool HF.out, (by repeat (first | with_reducible exact Ext.refl _ | with_reducible assumption | with_reducible refine Ext.alloc ?_ _ | with_reducible refine Ext.drew ?_ | (with_reducible refine Ext.setAt ?_ _ _ _ ?_; rotate_left; omega) | with_reducible refine Ext.trans ?_ (by assumption) | with_reducible exact Past.bel _ | with_reducible refine Ext.trans ?_ (Past.bel _)))⟩
            · have y6 : decide (wd j ≤ wd m) = false := decide_eq_false c1
              by_cases c2 : pl j < pl m
              · have HF := Lib.hid (show false = spV n wd pl from spV_ff hlt (by rw [HA.out, h1, h2, H0.out, decide_eq_false (show ¬ pl m ≤ pl j by omega), Bool.and_false]; rfl))
                go_wp2_with (first | (go_at_call 52; ((with_reducible refine (within_c _ _ _ _).mono ?_); rintro e w' ⟨rfl, rfl⟩)) | (go_at_call 53; ((with_reducible refine (isPull_c _ _).mono ?_); rintro e w' ⟨rfl, rfl⟩)) | (go_at_call 57; ((with_reducible refine (l00In_c _ _ _ _).mono ?_); rintro e w' ⟨rfl, rfl⟩)))
                refine wp_region_past (by kernel_rfl) (by kernel_rfl) ?_
                repeat (go_big_quiet_step (fail))
                refine wpQuiet_nil ?_
                rintro _ ⟨wx, rfl⟩
                go_wp2_with fail
                go_ret
                exact ⟨ret_bool HF.out, (by repeat (first | with_reducible exact Ext.refl _ | with_reducible assumption | with_reducible refine Ext.alloc ?_ _ | with_reducible refine Ext.drew ?_ | (with_reducible refine Ext.setAt ?_ _ _ _ ?_; rotate_left; omega) | with_reducible refine Ext.trans ?_ (by assumption) | with_reducible exact Past.bel _ | with_reducible refine Ext.trans ?_ (Past.bel _)))⟩
              · have c1' : wd m < wd j := by omega
                have c2' : pl m ≤ pl j := by omega
                have HF := Lib.hid (show bdTo wd pl (j + 1) = true by rw [bdTo, HT.out, HA.out, h1, h2, H0.out, decide_eq_true c1', decide_eq_true c2']; rfl)
                go_wp2_with (first | (go_at_call 52; ((with_reducible refine (within_c _ _ _ _).mono ?_); rintro e w' ⟨rfl, rfl⟩)) | (go_at_call 53; ((with_reducible refine (isPull_c _ _).mono ?_); rintro e w' ⟨rfl, rfl⟩)) | (go_at_call 57; ((with_reducible refine (l00In_c _ _ _ _).mono ?_); rintro e w' ⟨rfl, rfl⟩)))
                refine wp_region_past (by kernel_rfl) (by kernel_rfl) ?_
                repeat (go_big_quiet_step (fail))
                refine wpQuiet_nil ?_
                rintro _ ⟨wx, rfl⟩
                go_wp2_with fail
                exact ⟨⟨j + 1, by omega, by go_num, (by repeat (first | with_reducible exact Ext.refl _ | with_reducible assumption | with_reducible refine Ext.alloc ?_ _ | with_reducible refine Ext.drew ?_ | (with_reducible refine Ext.setAt ?_ _ _ _ ?_; rotate_left; omega) | with_reducible refine Ext.trans ?_ (by assumption) | with_reducible exact Past.bel _ | with_reducible refine Ext.trans ?_ (Past.bel _))), HF.out⟩, by simp [intOf]; omega⟩
    · obtain rfl : j = n := by omega
      by_cases hb : 2 ≤ j ∧ j ≤ 20
      · obtain ⟨hb1, hb2⟩ := hb
        have hi1 : (2 : Int) ≤ (j : Int) := by omega
        have hi2 : (j : Int) ≤ 20 := by omega
        have HF := Lib.hid (show true = spV j wd pl by rw [spV, HT.out, decide_eq_true hb1, decide_eq_true hb2]; rfl)
        go_wp2_with fail
        go_ret
        exact ⟨ret_bool HF.out, (by repeat (first | with_reducible exact Ext.refl _ | with_reducible assumption | with_reducible refine Ext.alloc ?_ _ | with_reducible refine Ext.drew ?_ | (with_reducible refine Ext.setAt ?_ _ _ _ ?_; rotate_left; omega) | with_reducible refine Ext.trans ?_ (by assumption) | with_reducible exact Past.bel _ | with_reducible refine Ext.trans ?_ (Past.bel _)))⟩
      · have HF := Lib.hid (spV_n (wd := wd) (pl := pl) hb)
        by_cases hlo : j < 2
        · have x5 : (j : Int) < 2 := by omega
          have x6 : ¬ (2 : Int) ≤ (j : Int) := by omega
          clear hb
          go_wp2_with fail
          go_ret
          exact ⟨ret_bool HF.out, (by repeat (first | with_reducible exact Ext.refl _ | with_reducible assumption | with_reducible refine Ext.alloc ?_ _ | with_reducible refine Ext.drew ?_ | (with_reducible refine Ext.setAt ?_ _ _ _ ?_; rotate_left; omega) | with_reducible refine Ext.trans ?_ (by assumption) | with_reducible exact Past.bel _ | with_reducible refine Ext.trans ?_ (Past.bel _)))⟩
        · have x5 : (20 : Int) < (j : Int) := by omega
          have x6 : (2 : Int) ≤ (j : Int) := by omega
          clear hb
          go_wp2_with fail
          go_ret
          exact ⟨ret_bool ((decide_eq_false (show ¬ (j : Int) ≤ 20 by omega)).trans HF.out), (by repeat (first | with_reducible exact Ext.refl _ | with_reducible assumption | with_reducible refine Ext.alloc ?_ _ | with_reducible refine Ext.drew ?_ | (with_reducible refine Ext.setAt ?_ _ _ _ ?_; rotate_left; omega) | with_reducible refine Ext.trans ?_ (by assumption) | with_reducible exact Past.bel _ | with_reducible refine Ext.trans ?_ (Past.bel _)))⟩
set_option maxHeartbeats 4000000 in
theorem l13Ok_c (hn : n ≤ 1048576) (hs : S2 w a n wd pl) :
    Calls Try.prog 49 #[.agg #[.slice a n c]] w fun e w' => e = .returned (.bool (spV n wd pl)) ∧ Ext w w' := by
  have HS := Lib.hid hs
  clear hs
  by_cases hb : 2 ≤ n ∧ n ≤ 20
  · obtain ⟨hb1, hb2⟩ := hb
    have hi1 : (2 : Int) ≤ (n : Int) := by omega
    have hi2 : (n : Int) ≤ 20 := by omega
    go_enter Try.func49, Try.ntmps49
    go_wp2_with fail
    go_loopw [3] (fun i wr => ∃ j : Nat, j ≤ n ∧ i = .int .i64 j ∧ Ext (w.alloc (.cells #[.slice a n c] 26)) wr ∧ bdTo wd pl j = true) (fun i _ => n - (intOf i).toNat)
    case atStart => exact ⟨0, by omega, rfl, (by repeat (first | with_reducible exact Ext.refl _ | with_reducible assumption | with_reducible refine Ext.alloc ?_ _ | with_reducible refine Ext.drew ?_ | (with_reducible refine Ext.setAt ?_ _ _ _ ?_; rotate_left; omega) | with_reducible refine Ext.trans ?_ (by assumption) | with_reducible exact Past.bel _ | with_reducible refine Ext.trans ?_ (Past.bel _))), rfl⟩
    case round =>
      obtain ⟨j, hj, rfl, hbl, htr⟩ := hrel
      have HT := Lib.hid htr
      have hz := hbl.size
      simp only [World.size_alloc] at hz
      have hg : w.heap.size < wr.heap.size := by omega
      have p0 : wr.cell? ⟨w.heap.size, 0, none⟩ = some (.slice a n c) := by rw [hbl.cell (by simp)]; simp [go_sem]
      have hxw : Ext w wr := Ext.trans (by repeat (first | with_reducible exact Ext.refl _ | with_reducible assumption | with_reducible refine Ext.alloc ?_ _ | with_reducible refine Ext.drew ?_ | (with_reducible refine Ext.setAt ?_ _ _ _ ?_; rotate_left; omega) | with_reducible refine Ext.trans ?_ (by assumption) | with_reducible exact Past.bel _ | with_reducible refine Ext.trans ?_ (Past.bel _))) hbl
      clear htr
      by_cases hlt : j < n
      · obtain ⟨b1, o1, rfl, hb1', q1, q2⟩ := (HS.out.ext hxw).at hlt
        have x0 : (0 : Int) ≤ (j : Int) := by omega
        have x1 : (j : Int) < (n : Int) := by omega
        have hA : bdA wd pl j = (inB (wd j) 0 2000 && (inB (pl j) 0 1000000 && (j == 0 || (decide (wd (j - 1) < wd j) && decide (pl (j - 1) ≤ pl j))))) := rfl
        have HA := Lib.hid hA
        clear hA
        cases h1 : inB (wd j) 0 2000
        · have HF := Lib.hid (show false = spV n wd pl from spV_ff hlt (by rw [HA.out, h1]; rfl))
          go_wp2_with (first | (go_at_call 52; ((with_reducible refine (within_c _ _ _ _).mono ?_); rintro e w' ⟨rfl, rfl⟩)) | (go_at_call 53; ((with_reducible refine (isPull_c _ _).mono ?_); rintro e w' ⟨rfl, rfl⟩)) | (go_at_call 57; ((with_reducible refine (l00In_c _ _ _ _).mono ?_); rintro e w' ⟨rfl, rfl⟩)))
          go_ret
          exact ⟨ret_bool HF.out, (by repeat (first | with_reducible exact Ext.refl _ | with_reducible assumption | with_reducible refine Ext.alloc ?_ _ | with_reducible refine Ext.drew ?_ | (with_reducible refine Ext.setAt ?_ _ _ _ ?_; rotate_left; omega) | with_reducible refine Ext.trans ?_ (by assumption) | with_reducible exact Past.bel _ | with_reducible refine Ext.trans ?_ (Past.bel _)))⟩
        · cases h2 : inB (pl j) 0 1000000
          · have HF := Lib.hid (show false = spV n wd pl from spV_ff hlt (by rw [HA.out, h1, h2]; rfl))
            go_wp2_with (first | (go_at_call 52; ((with_reducible refine (within_c _ _ _ _).mono ?_); rintro e w' ⟨rfl, rfl⟩)) | (go_at_call 53; ((with_reducible refine (isPull_c _ _).mono ?_); rintro e w' ⟨rfl, rfl⟩)) | (go_at_call 57; ((with_reducible refine (l00In_c _ _ _ _).mono ?_); rintro e w' ⟨rfl, rfl⟩)))
            go_ret
            exact ⟨ret_bool HF.out, (by repeat (first | with_reducible exact Ext.refl _ | with_reducible assumption | with_reducible refine Ext.alloc ?_ _ | with_reducible refine Ext.drew ?_ | (with_reducible refine Ext.setAt ?_ _ _ _ ?_; rotate_left; omega) | with_reducible refine Ext.trans ?_ (by assumption) | with_reducible exact Past.bel _ | with_reducible refine Ext.trans ?_ (Past.bel _)))⟩
          · by_cases h0 : j = 0
            · subst h0
              simp only [Nat.zero_mul, Nat.add_zero] at q1 q2
              go_wp2_with (first | (go_at_call 52; ((with_reducible refine (within_c _ _ _ _).mono ?_); rintro e w' ⟨rfl, rfl⟩)) | (go_at_call 53; ((with_reducible refine (isPull_c _ _).mono ?_); rintro e w' ⟨rfl, rfl⟩)) | (go_at_call 57; ((with_reducible refine (l00In_c _ _ _ _).mono ?_); rintro e w' ⟨rfl, rfl⟩)))
              refine wp_region_past (by kernel_rfl) (by kernel_rfl) ?_
              repeat (go_big_quiet_step (fail))
              refine wpQuiet_nil ?_
              rintro _ ⟨wx, rfl⟩
              go_wp2_with fail
              exact ⟨⟨1, by omega, by go_num, (by repeat (first | with_reducible exact Ext.refl _ | with_reducible assumption | with_reducible refine Ext.alloc ?_ _ | with_reducible refine Ext.drew ?_ | (with_reducible refine Ext.setAt ?_ _ _ _ ?_; rotate_left; omega) | with_reducible refine Ext.trans ?_ (by assumption) | with_reducible exact Past.bel _ | with_reducible refine Ext.trans ?_ (Past.bel _))), by rw [bdTo, HT.out, HA.out, h1, h2]; rfl⟩, by simp [intOf]; omega⟩
            · obtain ⟨m, hm⟩ : ∃ m, m = j - 1 := ⟨_, rfl⟩
              have y0 : (j : Int) - 1 = (m : Int) := by omega
              have y1 : (m : Int) < (n : Int) := by omega
              have y2 : (0 : Int) < (j : Int) := by omega
              have y3 : (0 : Int) ≤ (m : Int) := by omega
              have y5 : decide (0 < j) = true := decide_eq_true (by omega)
              obtain ⟨b2, o2, e2, -, q3, q4⟩ := (HS.out.ext hxw).at (show m < n by omega)
              obtain ⟨rfl, rfl⟩ : b1 = b2 ∧ o1 = o2 := by simpa using e2
              rw [← hm] at HA
              have H0 := Lib.hid (show (j == 0) = false by simpa using h0)
              clear e2 hm h0
              by_cases c1 : wd j ≤ wd m
              · have HF := Lib.hid (show false = spV n wd pl from spV_ff hlt (by rw [HA.out, h1, h2, H0.out, decide_eq_false (show ¬ wd m < wd j by omega)]; rfl))
                go_wp2_with (first | (go_at_call 52; ((with_reducible refine (within_c _ _ _ _).mono ?_); rintro e w' ⟨rfl, rfl⟩)) | (go_at_call 53; ((with_reducible refine (isPull_c _ _).mono ?_); rintro e w' ⟨rfl, rfl⟩)) | (go_at_call 57; ((with_reducible refine (l00In_c _ _ _ _).mono ?_); rintro e w' ⟨rfl, rfl⟩)))
                refine wp_region_past (by kernel_rfl) (by kernel_rfl) ?_
                repeat (go_big_quiet_step (fail))
                refine wpQuiet_nil ?_
                rintro _ ⟨wx, rfl⟩
                go_wp2_with fail
                go_ret
                exact ⟨ret_bool HF.out, (by repeat (first | with_reducible exact Ext.refl _ | with_reducible assumption | with_reducible refine Ext.alloc ?_ _ | with_reducible refine Ext.drew ?_ | (with_reducible refine Ext.setAt ?_ _ _ _ ?_; rotate_left; omega) | with_reducible refine Ext.trans ?_ (by assumption) | with_reducible exact Past.bel _ | with_reducible refine Ext.trans ?_ (Past.bel _)))⟩
              · have y6 : decide (wd j ≤ wd m) = false := decide_eq_false c1
                by_cases c2 : pl j < pl m
                · have HF := Lib.hid (show false = spV n wd pl from spV_ff hlt (by rw [HA.out, h1, h2, H0.out, decide_eq_false (show ¬ pl m ≤ pl j by omega), Bool.and_false]; rfl))
                  go_wp2_with (first | (go_at_call 52; ((with_reducible refine (within_c _ _ _ _).mono ?_); rintro e w' ⟨rfl, rfl⟩)) | (go_at_call 53; ((with_reducible refine (isPull_c _ _).mono ?_); rintro e w' ⟨rfl, rfl⟩)) | (go_at_call 57; ((with_reducible refine (l00In_c _ _ _ _).mono ?_); rintro e w' ⟨rfl, rfl⟩)))
                  refine wp_region_past (by kernel_rfl) (by kernel_rfl) ?_
                  repeat (go_big_quiet_step (fail))
                  refine wpQuiet_nil ?_
                  rintro _ ⟨wx, rfl⟩
                  go_wp2_with fail
                  go_ret
                  exact ⟨ret_bool HF.out, (by repeat (first | with_reducible exact Ext.refl _ | with_reducible assumption | with_reducible refine Ext.alloc ?_ _ | with_reducible refine Ext.drew ?_ | (with_reducible refine Ext.setAt ?_ _ _ _ ?_; rotate_left; omega) | with_reducible refine Ext.trans ?_ (by assumption) | with_reducible exact Past.bel _ | with_reducible refine Ext.trans ?_ (Past.bel _)))⟩
                · have c1' : wd m < wd j := by omega
                  have c2' : pl m ≤ pl j := by omega
                  have HF := Lib.hid (show bdTo wd pl (j + 1) = true by rw [bdTo, HT.out, HA.out, h1, h2, H0.out, decide_eq_true c1', decide_eq_true c2']; rfl)
                  go_wp2_with (first | (go_at_call 52; ((with_reducible refine (within_c _ _ _ _).mono ?_); rintro e w' ⟨rfl, rfl⟩)) | (go_at_call 53; ((with_reducible refine (isPull_c _ _).mono ?_); rintro e w' ⟨rfl, rfl⟩)) | (go_at_call 57; ((with_reducible refine (l00In_c _ _ _ _).mono ?_); rintro e w' ⟨rfl, rfl⟩)))
                  refine wp_region_past (by kernel_rfl) (by kernel_rfl) ?_
                  repeat (go_big_quiet_step (fail))
                  refine wpQuiet_nil ?_
                  rintro _ ⟨wx, rfl⟩
                  go_wp2_with fail
                  exact ⟨⟨j + 1, by omega, by go_num, (by repeat (first | with_reducible exact Ext.refl _ | with_reducible assumption | with_reducible refine Ext.alloc ?_ _ | with_reducible refine Ext.drew ?_ | (with_reducible refine Ext.setAt ?_ _ _ _ ?_; rotate_left; omega) | with_reducible refine Ext.trans ?_ (by assumption) | with_reducible exact Past.bel _ | with_reducible refine Ext.trans ?_ (Past.bel _))), HF.out⟩, by simp [intOf]; omega⟩
      · obtain rfl : j = n := by omega
        have HF := Lib.hid (show true = spV j wd pl by rw [spV, HT.out, decide_eq_true hb1, decide_eq_true hb2]; rfl)
        go_wp2_with fail
        go_ret
        exact ⟨ret_bool HF.out, (by repeat (first | with_reducible exact Ext.refl _ | with_reducible assumption | with_reducible refine Ext.alloc ?_ _ | with_reducible refine Ext.drew ?_ | (with_reducible refine Ext.setAt ?_ _ _ _ ?_; rotate_left; omega) | with_reducible refine Ext.trans ?_ (by assumption) | with_reducible exact Past.bel _ | with_reducible refine Ext.trans ?_ (Past.bel _)))⟩
  · have hF := spV_n (wd := wd) (pl := pl) hb
    have HF := Lib.hid hF
    clear hF
    by_cases hlo : n < 2
    · have x5 : (n : Int) < 2 := by omega
      have x6 : ¬ (2 : Int) ≤ (n : Int) := by omega
      have x7 : decide ((2 : Int) ≤ (n : Int)) = false := decide_eq_false x6
      (go_enter Try.func49, Try.ntmps49; go_wp2_with fail; go_ret; exact ⟨ret_bool HF.out, (by repeat (first | with_reducible exact Ext.refl _ | with_reducible assumption | with_reducible refine Ext.alloc ?_ _ | with_reducible refine Ext.drew ?_ | (with_reducible refine Ext.setAt ?_ _ _ _ ?_; rotate_left; omega) | with_reducible refine Ext.trans ?_ (by assumption) | with_reducible exact Past.bel _ | with_reducible refine Ext.trans ?_ (Past.bel _)))⟩)
    · have x5 : (20 : Int) < (n : Int) := by omega
      have x6 : (2 : Int) ≤ (n : Int) := by omega
      have x8 : ¬ (n : Int) < 2 := by omega
      (go_enter Try.func49, Try.ntmps49; go_wp2_with fail; go_ret; exact ⟨ret_bool HF.out, (by repeat (first | with_reducible exact Ext.refl _ | with_reducible assumption | with_reducible refine Ext.alloc ?_ _ | with_reducible refine Ext.drew ?_ | (with_reducible refine Ext.setAt ?_ _ _ _ ?_; rotate_left; omega) | with_reducible refine Ext.trans ?_ (by assumption) | with_reducible exact Past.bel _ | with_reducible refine Ext.trans ?_ (Past.bel _)))⟩)
end
end Go.Proofs.Ytglcjnplmhelhaa
