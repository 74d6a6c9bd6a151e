/- Calendars read: one line, by the program. Calendars read: the program's. Go's strings.Builder: writing. Calendars' texts: the program's. Calendars: what is asked of years, months and days. No program in sight. Days of months: the functions as they are called. Days of years: the functions as they are called. Calendars read: the program's. Dates read from texts: the reference's. -/
import Derived.Test.YtpohhnihgegmfaaDoorBd
import Derived.Deep.RegionLaw
import Derived.Test.YtpohhnihgegmfaaDoorBb
import Derived.Lib.Strings
import Derived.Lib.Slices
import Derived.Lib.Walk
import Derived.Lib.Builder
import Derived.Lib.AppendStr
import Derived.Lib.UnsafeStr
import Derived.Lib.OthersKept
import Derived.Laws.Externs
import Derived.Laws.IdiomCopy
import Derived.Test.YtpohhnihgegmfaaDoorBc
import Derived.Deep.RegionHeld3
import Derived.Test.YtpohhnihgegmfaaDoorBa

namespace Go.Proofs.YtpohhnihgegmfaaDoor
open Go.RowKit
set_option linter.unusedVariables false
set_option linter.unusedSimpArgs false

/-- rows of two types lie apart -/
theorem own_apart {w : World} {B1 B2 z1 z2 : Nat} {e1 e2 : TypeId} {v1 v2 : Value} {n1 n2 : Nat} {xs ys : List Value} (h1 : w.ownsRow B1 e1 z1 v1 n1 xs) (h2 : w.ownsRow B2 e2 z2 v2 n2 ys) (he : e1 ≠ e2) : v2.ownBlock = none ∨ v2.ownBlock ≠ v1.ownBlock := by
  rcases h2.2 with ⟨rfl, _⟩ | ⟨g2, c2, u2, rfl, _, k2, _⟩
  · exact .inl rfl
  · rcases h1.2 with ⟨rfl, _⟩ | ⟨g1, c1, u1, rfl, _, k1, _⟩
    · exact .inr (by simp [Value.ownBlock])
    · refine .inr fun e => ?_
      simp only [Value.ownBlock, Option.some.injEq] at e
      subst e
      rw [k1] at k2
      simp only [Option.some.injEq, Obj.cells.injEq] at k2
      exact he k2.2.1
/-- a calendar that is being read: behind a pointer, its rows its own -/
structure CB (w0 w : World) (gc : Nat) (C : Cl) (a1 : Option Addr) (c1 : Nat) (a2 : Option Addr) (c2 : Nat) : Prop where
  lo : w0.heap.size ≤ gc
  x : Ext w0 w
  cal : Blk w gc 31 #[.string C.nm, .slice a1 C.M.length c1, .slice a2 C.R.length c2, .int .i64 C.wk]
  om : w.ownsRow (gc + 1) 68 3 (.slice a1 C.M.length c1) C.M.length (MT C.M)
  or : w.ownsRow (gc + 1) 70 3 (.slice a2 C.R.length c2) C.R.length (RT C.R)
section
variable {w0 w w' : World} {gc : Nat} {C : Cl} {a1 : Option Addr} {c1 : Nat} {a2 : Option Addr} {c2 : Nat}
theorem CB.ext (h : CB w0 w gc C a1 c1 a2 c2) (e : Ext w w') : CB w0 w' gc C a1 c1 a2 c2 := ⟨h.lo, Ext.trans h.x e, h.cal.ext e, own_ext h.om e, own_ext h.or e⟩
theorem CB.far1 (h : CB w0 w gc C a1 c1 a2 c2) : (Value.slice a1 C.M.length c1).ownBlock ≠ some gc := fun e => by have := (h.om.lt _ e).1; omega
theorem CB.far2 (h : CB w0 w gc C a1 c1 a2 c2) : (Value.slice a2 C.R.length c2).ownBlock ≠ some gc := fun e => by have := (h.or.lt _ e).1; omega
theorem CB.set (h : CB w0 w gc C a1 c1 a2 c2) (j : Nat) (u : Value) {D : Cl} (hM : D.M = C.M) (hR : D.R = C.R)
    (hc : (#[.string C.nm, .slice a1 C.M.length c1, .slice a2 C.R.length c2, .int .i64 C.wk] : Array Value).setIfInBounds j u = #[.string D.nm, .slice a1 D.M.length c1, .slice a2 D.R.length c2, .int .i64 D.wk]) : CB w0 (w.setCell ⟨gc, j, none⟩ u) gc D a1 c1 a2 c2 :=
  ⟨h.lo, Ext.setAt h.x _ _ _ h.lo, hc ▸ h.cal.set j u, by rw [hM]; exact h.om.kept (grown_set gc j u) (.inr h.far1), by rw [hR]; exact h.or.kept (grown_set gc j u) (.inr h.far2)⟩
end
theorem CB.addM {w0 w6 : World} {gc : Nat} {C : Cl} {a1 a2 b6 : Option Addr} {c1 c2 c6 : Nat} {q : Mo} (lo : w0.heap.size ≤ gc) (hx : Ext w0 w6)
    (hc : Blk w6 gc 31 #[.string C.nm, .slice a1 C.M.length c1, .slice a2 C.R.length c2, .int .i64 C.wk])
    (s6 : w6.ownsRow (gc + 1) 68 3 (.slice b6 (C.M.length + 1) c6) (C.M.length + 1) (MT C.M ++ [.string q.1, .int .i64 q.2.1, .int .i64 q.2.2]))
    (ho : w6.ownsRow (gc + 1) 70 3 (.slice a2 C.R.length c2) C.R.length (RT C.R)) (n6 : (Value.slice b6 (C.M.length + 1) c6).ownBlock ≠ some gc) (n7 : (Value.slice a2 C.R.length c2).ownBlock ≠ some gc) :
    CB w0 (w6.setCell ⟨gc, 1, none⟩ (.slice b6 (C.M.length + 1) c6)) gc ⟨C.nm, C.wk, C.M ++ [q], C.R⟩ b6 c6 a2 c2 := by
  have e : (C.M ++ [q]).length = C.M.length + 1 := by simp
  have e2 : MT (C.M ++ [q]) = MT C.M ++ [.string q.1, .int .i64 q.2.1, .int .i64 q.2.2] := by rw [MT_app]; rfl
  refine ⟨lo, Ext.setAt hx _ _ _ lo, ?_, ?_, ho.kept (grown_set gc 1 _) (.inr n7)⟩
  · dsimp only; rw [e]; exact hc.set 1 _
  · dsimp only; rw [e, e2]; exact s6.kept (grown_set gc 1 _) (.inr n6)
theorem CB.addR {w0 w6 : World} {gc : Nat} {C : Cl} {a1 a2 b6 : Option Addr} {c1 c2 c6 : Nat} {q : Ru} (lo : w0.heap.size ≤ gc) (hx : Ext w0 w6)
    (hc : Blk w6 gc 31 #[.string C.nm, .slice a1 C.M.length c1, .slice a2 C.R.length c2, .int .i64 C.wk])
    (s6 : w6.ownsRow (gc + 1) 70 3 (.slice b6 (C.R.length + 1) c6) (C.R.length + 1) (RT C.R ++ [.int .i64 q.1, .int .i64 q.2.1, .bool q.2.2]))
    (ho : w6.ownsRow (gc + 1) 68 3 (.slice a1 C.M.length c1) C.M.length (MT C.M)) (n6 : (Value.slice b6 (C.R.length + 1) c6).ownBlock ≠ some gc) (n7 : (Value.slice a1 C.M.length c1).ownBlock ≠ some gc) :
    CB w0 (w6.setCell ⟨gc, 2, none⟩ (.slice b6 (C.R.length + 1) c6)) gc ⟨C.nm, C.wk, C.M, C.R ++ [q]⟩ a1 c1 b6 c6 := by
  have e : (C.R ++ [q]).length = C.R.length + 1 := by simp
  have e2 : RT (C.R ++ [q]) = RT C.R ++ [.int .i64 q.1, .int .i64 q.2.1, .bool q.2.2] := by rw [RT_app]; rfl
  refine ⟨lo, Ext.setAt hx _ _ _ lo, ?_, ho.kept (grown_set gc 2 _) (.inr n7), ?_⟩
  · dsimp only; rw [e]; exact hc.set 2 _
  · dsimp only; rw [e, e2]; exact s6.kept (grown_set gc 2 _) (.inr n6)
set_option maxRecDepth 100000 in
set_option maxHeartbeats 4000000 in
theorem line_cal (w0 : World) (gc g : Nat) (C : Cl) (a1 : Option Addr) (c1 : Nat) (a2 : Option Addr) (c2 : Nat) (p1 p2 : ByteArray) (w : World) (h : CB w0 w gc C a1 c1 a2 c2)
    (hw : Blk w g 9 #[.string ⟨#[99, 97, 108, 101, 110, 100, 97, 114]⟩, .string p1, .string p2]) (hz : p2.size ≤ 1048576) (hgc : g ≠ gc) (hg : Gl w0) :
    Calls Tryd.prog 20 #[.pointer (some ⟨gc, 0, none⟩), .slice (some ⟨g, 0, none⟩) 3 3] w fun e w' => e = .returned (.bool true) ∧ CB w0 w' gc ⟨p1, nv p2.data.toList, C.M, C.R⟩ a1 c1 a2 c2 := by
  obtain ⟨x, hx⟩ : ∃ x, x = nv p2.data.toList := ⟨_, rfl⟩
  have N2 := Lib.hid (fun W hW => (hx ▸ implReadDecimal_c p2 W hz hW (nv_r _) : Calls Tryd.prog 15 #[.string p2] W fun e w' => e = .returned (.tuple #[.int .i64 x, .bool (nb p2.data.toList)]) ∧ Ext W w'))
  have HX := Lib.hid hx
  have H := Lib.hid h
  have HG := Lib.hid hg
  have s0 := hw.cell 0
  have s1 := hw.cell 1
  have s2 := hw.cell 2
  have k0 := h.cal.cell 0
  have k3 := h.cal.cell 3
  have f0 := h.cal.frozen 0
  have l0 := h.cal.lt
  have lo := h.lo
  clear hx h hg
  go_enter Tryd.func20, Tryd.ntmps20
  go_wp2_with fail
  have C1 : CB w0 (w.setCell ⟨gc, 0, none⟩ (.string p1)) gc ⟨p1, C.wk, C.M, C.R⟩ a1 c1 a2 c2 := H.out.set 0 _ rfl rfl rfl
  refine (N2.out _ (HG.out.ext C1.x)).mono ?_
  rintro e w2 ⟨rfl, hx2⟩
  have C2 := C1.ext hx2
  have H2 := Lib.hid C2
  have l2 := C2.cal.lt
  have j3 := C2.cal.cell 3
  have f3 := C2.cal.frozen 3
  clear C1 C2 hx2 k0 k3 f0 l0 s0 s1 s2 hw
  go_wp2_with fail
  go_ret
  exact ⟨rfl, by rw [← HX.out]; exact H2.out.set 3 _ rfl rfl rfl⟩
set_option maxRecDepth 100000 in
set_option maxHeartbeats 4000000 in
theorem line_mon (w0 : World) (gc g : Nat) (C : Cl) (a1 : Option Addr) (c1 : Nat) (a2 : Option Addr) (c2 : Nat) (p1 p2 p3 : ByteArray) (w : World) (h : CB w0 w gc C a1 c1 a2 c2) (hn : C.M.length ≤ 1048576)
    (hw : Blk w g 9 #[.string ⟨#[109, 111, 110, 116, 104]⟩, .string p1, .string p2, .string p3]) (hz : p2.size ≤ 1048576) (hz3 : p3.size ≤ 1048576) (hgc : g ≠ gc) (hgm : ∀ k, (Value.slice a1 C.M.length c1).ownBlock = some k → k ≠ g) (hg : Gl w0) :
    Calls Tryd.prog 20 #[.pointer (some ⟨gc, 0, none⟩), .slice (some ⟨g, 0, none⟩) 4 4] w fun e w' => e = .returned (.bool true) ∧ ∃ a1' c1', CB w0 w' gc ⟨C.nm, C.wk, C.M ++ [(p1, nv p2.data.toList, nv p3.data.toList)], C.R⟩ a1' c1' a2 c2 := by
  obtain ⟨x, hx⟩ : ∃ x, x = nv p2.data.toList := ⟨_, rfl⟩
  obtain ⟨y, hy⟩ : ∃ y, y = nv p3.data.toList := ⟨_, rfl⟩
  rw [← hx, ← hy]
  have N2 := Lib.hid (fun W hW => (hx ▸ implReadDecimal_c p2 W hz hW (nv_r _) : Calls Tryd.prog 15 #[.string p2] W fun e w' => e = .returned (.tuple #[.int .i64 x, .bool (nb p2.data.toList)]) ∧ Ext W w'))
  have N3 := Lib.hid (fun W hW => (hy ▸ implReadDecimal_c p3 W hz3 hW (nv_r _) : Calls Tryd.prog 15 #[.string p3] W fun e w' => e = .returned (.tuple #[.int .i64 y, .bool (nb p3.data.toList)]) ∧ Ext W w'))
  have H := Lib.hid h
  have HG := Lib.hid hg
  have HW := Lib.hid hw
  have s0 := hw.cell 0
  have s2 := hw.cell 2
  have s3 := hw.cell 3
  have lo := h.lo
  clear hx hy h hg hw
  go_enter Tryd.func20, Tryd.ntmps20
  go_wp2_with fail
  refine (N2.out _ (HG.out.ext H.out.x)).mono ?_
  rintro e w2 ⟨rfl, hx2⟩
  have H2 := Lib.hid (H.out.ext hx2)
  have HW2 := Lib.hid (HW.out.ext hx2)
  have s3 := HW2.out.cell 3
  clear hx2 H HW s0 s2
  go_wp2_with fail
  refine (N3.out _ (HG.out.ext H2.out.x)).mono ?_
  rintro e w3 ⟨rfl, hx3⟩
  have H3 := Lib.hid (H2.out.ext hx3)
  have HW3 := Lib.hid (HW2.out.ext hx3)
  have l3 := H3.out.cal.lt
  have lg := HW3.out.lt
  obtain ⟨v1, hv1⟩ : ∃ v, v = Value.slice a1 C.M.length c1 := ⟨_, rfl⟩
  have OM := Lib.hid (show w3.ownsRow (gc + 1) 68 3 v1 C.M.length (MT C.M) from hv1 ▸ H3.out.om)
  have SK : ∀ w', Ext w3 w' → w'.cell? ⟨gc, 1, none⟩ = some v1 ∧ w'.cell? ⟨g, 1, none⟩ = some (.string p1) ∧ w'.frozen? ⟨gc, 1, none⟩ = false := fun w' hq => by
    refine ⟨?_, (hq.cell lg).trans (HW3.out.cell 1), (H3.out.cal.ext hq).frozen 1⟩
    rw [hv1]; exact (hq.cell l3).trans (H3.out.cal.cell 1)
  have SK' := Lib.hid SK
  have ng1 : v1.ownBlock ≠ some gc := hv1 ▸ H3.out.far1
  have ng2 : v1.ownBlock ≠ some g := fun e => hgm g (by rw [← hv1]; exact e) rfl
  have HV1 := Lib.hid hv1
  clear SK H2 HW2 hx3 s3 hv1
  obtain ⟨r1, r2, r3⟩ := SK'.out w3 (Ext.refl _)
  go_upto_region 8 with fail
  go_region_law ((refine appGs 28 68 _ _ _ 3 32 (by rfl) (by rfl) Tryd.underlying28 info_month rfl (by decide) (by decide) (gc + 1) v1 C.M.length (MT C.M) 1 [.string p1, .int .i64 x, .int .i64 y] _ 1 (by rfl) (by rfl) (own_ext OM.out (by repeat (first | with_reducible exact Ext.refl _ | with_reducible assumption | with_reducible refine Ext.alloc ?_ _ | with_reducible refine Ext.drew ?_ | (with_reducible refine Ext.setAt ?_ _ _ _ ?_; rotate_left; omega) | with_reducible refine Ext.trans ?_ (by assumption) | with_reducible exact Past.bel _ | with_reducible refine Ext.trans ?_ (Past.bel _)))) (Blk.new _ _ _) rfl (by intro u hu; simp at hu; rcases hu with rfl | rfl | rfl <;> rfl) (by omega) (by omega) hn (Nat.le_trans (show gc + 1 ≤ w3.heap.size from l3) (Ext.size (w := w3) (by repeat (first | with_reducible exact Ext.refl _ | with_reducible assumption | with_reducible refine Ext.alloc ?_ _ | with_reducible refine Ext.drew ?_ | (with_reducible refine Ext.setAt ?_ _ _ _ ?_; rotate_left; omega) | with_reducible refine Ext.trans ?_ (by assumption) | with_reducible exact Past.bel _ | with_reducible refine Ext.trans ?_ (Past.bel _))))) ?_; intro v6 w6 s6 s7 s8; obtain ⟨b6, c6, rfl⟩ := own_form s6; have q1 := (s8 gc 1 (Nat.lt_of_lt_of_le l3 (Ext.size (w := w3) (by repeat (first | with_reducible exact Ext.refl _ | with_reducible assumption | with_reducible refine Ext.alloc ?_ _ | with_reducible refine Ext.drew ?_ | (with_reducible refine Ext.setAt ?_ _ _ _ ?_; rotate_left; omega) | with_reducible refine Ext.trans ?_ (by assumption) | with_reducible exact Past.bel _ | with_reducible refine Ext.trans ?_ (Past.bel _))))) ng1).trans (SK'.out _ (by repeat (first | with_reducible exact Ext.refl _ | with_reducible assumption | with_reducible refine Ext.alloc ?_ _ | with_reducible refine Ext.drew ?_ | (with_reducible refine Ext.setAt ?_ _ _ _ ?_; rotate_left; omega) | with_reducible refine Ext.trans ?_ (by assumption) | with_reducible exact Past.bel _ | with_reducible refine Ext.trans ?_ (Past.bel _)))).1; have q2 := ((H3.out.cal.ext (by repeat (first | with_reducible exact Ext.refl _ | with_reducible assumption | with_reducible refine Ext.alloc ?_ _ | with_reducible refine Ext.drew ?_ | (with_reducible refine Ext.setAt ?_ _ _ _ ?_; rotate_left; omega) | with_reducible refine Ext.trans ?_ (by assumption) | with_reducible exact Past.bel _ | with_reducible refine Ext.trans ?_ (Past.bel _)))).grown s7 (fun e => ng1 e.symm)).frozen 1))
  all_goals
    have hc6 := (H3.out.cal.ext (by repeat (first | with_reducible exact Ext.refl _ | with_reducible assumption | with_reducible refine Ext.alloc ?_ _ | with_reducible refine Ext.drew ?_ | (with_reducible refine Ext.setAt ?_ _ _ _ ?_; rotate_left; omega) | with_reducible refine Ext.trans ?_ (by assumption) | with_reducible exact Past.bel _ | with_reducible refine Ext.trans ?_ (Past.bel _)))).grown s7 (fun e => ng1 e.symm)
    have ho6 := (own_ext H3.out.or (by repeat (first | with_reducible exact Ext.refl _ | with_reducible assumption | with_reducible refine Ext.alloc ?_ _ | with_reducible refine Ext.drew ?_ | (with_reducible refine Ext.setAt ?_ _ _ _ ?_; rotate_left; omega) | with_reducible refine Ext.trans ?_ (by assumption) | with_reducible exact Past.bel _ | with_reducible refine Ext.trans ?_ (Past.bel _)))).kept s7 (by have := own_apart H3.out.om H3.out.or (by decide); rwa [← HV1.out] at this)
    have hx6 : Ext w0 _ := Ext.grown (Ext.trans H3.out.x (b := w3) (by repeat (first | with_reducible exact Ext.refl _ | with_reducible assumption | with_reducible refine Ext.alloc ?_ _ | with_reducible refine Ext.drew ?_ | (with_reducible refine Ext.setAt ?_ _ _ _ ?_; rotate_left; omega) | with_reducible refine Ext.trans ?_ (by assumption) | with_reducible exact Past.bel _ | with_reducible refine Ext.trans ?_ (Past.bel _)))) s7 (fun k hk => by have := (OM.out.lt k hk).1; omega)
    have n6 : (Value.slice b6 (C.M.length + 1) c6).ownBlock ≠ some gc := fun e => by have := (s6.lt _ e).1; omega
    have n7 : (Value.slice a2 C.R.length c2).ownBlock ≠ some gc := H3.out.far2
    go_wp2_with fail
    go_ret
    exact ⟨rfl, b6, c6, CB.addM (q := (p1, x, y)) lo hx6 hc6 s6 ho6 n6 n7⟩
set_option maxRecDepth 100000 in
set_option maxHeartbeats 4000000 in
theorem line_lea (w0 : World) (gc g : Nat) (C : Cl) (a1 : Option Addr) (c1 : Nat) (a2 : Option Addr) (c2 : Nat) (p1 p2 p3 : ByteArray) (w : World) (h : CB w0 w gc C a1 c1 a2 c2) (hn : C.R.length ≤ 1048576)
    (hw : Blk w g 9 #[.string ⟨#[108, 101, 97, 112]⟩, .string p1, .string p2, .string p3]) (hz : p1.size ≤ 1048576) (hz3 : p2.size ≤ 1048576) (hgc : g ≠ gc) (hgm : ∀ k, (Value.slice a2 C.R.length c2).ownBlock = some k → k ≠ g) (hg : Gl w0) :
    Calls Tryd.prog 20 #[.pointer (some ⟨gc, 0, none⟩), .slice (some ⟨g, 0, none⟩) 4 4] w fun e w' => e = .returned (.bool true) ∧ ∃ a2' c2', CB w0 w' gc ⟨C.nm, C.wk, C.M, C.R ++ [(nv p1.data.toList, nv p2.data.toList, decide (p3.data.toList = yesK))]⟩ a1 c1 a2' c2' := by
  obtain ⟨x, hx⟩ : ∃ x, x = nv p1.data.toList := ⟨_, rfl⟩
  obtain ⟨y, hy⟩ : ∃ y, y = nv p2.data.toList := ⟨_, rfl⟩
  obtain ⟨b, hb⟩ : ∃ b, b = decide (p3.data.toList = yesK) := ⟨_, rfl⟩
  rw [← hx, ← hy, ← hb]
  have z1 : (p3.toList == [121, 101, 115]) = b := by rw [hb, ByteArray.toList_eq, yesK]; by_cases hh : p3.data.toList = [121, 101, 115] <;> simp [hh]
  have N2 := Lib.hid (fun W hW => (hx ▸ implReadDecimal_c p1 W hz hW (nv_r _) : Calls Tryd.prog 15 #[.string p1] W fun e w' => e = .returned (.tuple #[.int .i64 x, .bool (nb p1.data.toList)]) ∧ Ext W w'))
  have N3 := Lib.hid (fun W hW => (hy ▸ implReadDecimal_c p2 W hz3 hW (nv_r _) : Calls Tryd.prog 15 #[.string p2] W fun e w' => e = .returned (.tuple #[.int .i64 y, .bool (nb p2.data.toList)]) ∧ Ext W w'))
  have H := Lib.hid h
  have HG := Lib.hid hg
  have HW := Lib.hid hw
  have s0 := hw.cell 0
  have s2 := hw.cell 1
  have s3 := hw.cell 2
  have lo := h.lo
  clear hx hy hb h hg hw
  go_enter Tryd.func20, Tryd.ntmps20
  go_wp2_with fail
  refine (N2.out _ (HG.out.ext H.out.x)).mono ?_
  rintro e w2 ⟨rfl, hx2⟩
  have H2 := Lib.hid (H.out.ext hx2)
  have HW2 := Lib.hid (HW.out.ext hx2)
  have s3 := HW2.out.cell 2
  clear hx2 H HW s0 s2
  go_wp2_with fail
  refine (N3.out _ (HG.out.ext H2.out.x)).mono ?_
  rintro e w3 ⟨rfl, hx3⟩
  have H3 := Lib.hid (H2.out.ext hx3)
  have HW3 := Lib.hid (HW2.out.ext hx3)
  have l3 := H3.out.cal.lt
  have lg := HW3.out.lt
  obtain ⟨v1, hv1⟩ : ∃ v, v = Value.slice a2 C.R.length c2 := ⟨_, rfl⟩
  have OM := Lib.hid (show w3.ownsRow (gc + 1) 70 3 v1 C.R.length (RT C.R) from hv1 ▸ H3.out.or)
  have SK : ∀ w', Ext w3 w' → w'.cell? ⟨gc, 2, none⟩ = some v1 ∧ w'.cell? ⟨g, 3, none⟩ = some (.string p3) ∧ w'.frozen? ⟨gc, 2, none⟩ = false := fun w' hq => by
    refine ⟨?_, (hq.cell lg).trans (HW3.out.cell 3), (H3.out.cal.ext hq).frozen 2⟩
    rw [hv1]; exact (hq.cell l3).trans (H3.out.cal.cell 2)
  have SK' := Lib.hid SK
  have ng1 : v1.ownBlock ≠ some gc := hv1 ▸ H3.out.far2
  have ng2 : v1.ownBlock ≠ some g := fun e => hgm g (by rw [← hv1]; exact e) rfl
  have HV1 := Lib.hid hv1
  clear SK H2 HW2 hx3 s3 hv1
  obtain ⟨r1, r2, r3⟩ := SK'.out w3 (Ext.refl _)
  go_upto_region 12 with fail
  go_region_law ((refine appGs 29 70 _ _ _ 3 24 (by rfl) (by rfl) Tryd.underlying29 info_rule rfl (by decide) (by decide) (gc + 1) v1 C.R.length (RT C.R) 1 [.int .i64 x, .int .i64 y, .bool b] _ 1 (by rfl) (by rfl) (own_ext OM.out (by repeat (first | with_reducible exact Ext.refl _ | with_reducible assumption | with_reducible refine Ext.alloc ?_ _ | with_reducible refine Ext.drew ?_ | (with_reducible refine Ext.setAt ?_ _ _ _ ?_; rotate_left; omega) | with_reducible refine Ext.trans ?_ (by assumption) | with_reducible exact Past.bel _ | with_reducible refine Ext.trans ?_ (Past.bel _)))) (Blk.new _ _ _) rfl (by intro u hu; simp at hu; rcases hu with rfl | rfl | rfl <;> rfl) (by omega) (by omega) hn (Nat.le_trans (show gc + 1 ≤ w3.heap.size from l3) (Ext.size (w := w3) (by repeat (first | with_reducible exact Ext.refl _ | with_reducible assumption | with_reducible refine Ext.alloc ?_ _ | with_reducible refine Ext.drew ?_ | (with_reducible refine Ext.setAt ?_ _ _ _ ?_; rotate_left; omega) | with_reducible refine Ext.trans ?_ (by assumption) | with_reducible exact Past.bel _ | with_reducible refine Ext.trans ?_ (Past.bel _))))) ?_; intro v6 w6 s6 s7 s8; obtain ⟨b6, c6, rfl⟩ := own_form s6; have q1 := (s8 gc 2 (Nat.lt_of_lt_of_le l3 (Ext.size (w := w3) (by repeat (first | with_reducible exact Ext.refl _ | with_reducible assumption | with_reducible refine Ext.alloc ?_ _ | with_reducible refine Ext.drew ?_ | (with_reducible refine Ext.setAt ?_ _ _ _ ?_; rotate_left; omega) | with_reducible refine Ext.trans ?_ (by assumption) | with_reducible exact Past.bel _ | with_reducible refine Ext.trans ?_ (Past.bel _))))) ng1).trans (SK'.out _ (by repeat (first | with_reducible exact Ext.refl _ | with_reducible assumption | with_reducible refine Ext.alloc ?_ _ | with_reducible refine Ext.drew ?_ | (with_reducible refine Ext.setAt ?_ _ _ _ ?_; rotate_left; omega) | with_reducible refine Ext.trans ?_ (by assumption) | with_reducible exact Past.bel _ | with_reducible refine Ext.trans ?_ (Past.bel _)))).1; have q2 := ((H3.out.cal.ext (by repeat (first | with_reducible exact Ext.refl _ | with_reducible assumption | with_reducible refine Ext.alloc ?_ _ | with_reducible refine Ext.drew ?_ | (with_reducible refine Ext.setAt ?_ _ _ _ ?_; rotate_left; omega) | with_reducible refine Ext.trans ?_ (by assumption) | with_reducible exact Past.bel _ | with_reducible refine Ext.trans ?_ (Past.bel _)))).grown s7 (fun e => ng1 e.symm)).frozen 2))
  all_goals
    have hc6 := (H3.out.cal.ext (by repeat (first | with_reducible exact Ext.refl _ | with_reducible assumption | with_reducible refine Ext.alloc ?_ _ | with_reducible refine Ext.drew ?_ | (with_reducible refine Ext.setAt ?_ _ _ _ ?_; rotate_left; omega) | with_reducible refine Ext.trans ?_ (by assumption) | with_reducible exact Past.bel _ | with_reducible refine Ext.trans ?_ (Past.bel _)))).grown s7 (fun e => ng1 e.symm)
    have ho6 := (own_ext H3.out.om (by repeat (first | with_reducible exact Ext.refl _ | with_reducible assumption | with_reducible refine Ext.alloc ?_ _ | with_reducible refine Ext.drew ?_ | (with_reducible refine Ext.setAt ?_ _ _ _ ?_; rotate_left; omega) | with_reducible refine Ext.trans ?_ (by assumption) | with_reducible exact Past.bel _ | with_reducible refine Ext.trans ?_ (Past.bel _)))).kept s7 (by have := own_apart H3.out.or H3.out.om (by decide); rwa [← HV1.out] at this)
    have hx6 : Ext w0 _ := Ext.grown (Ext.trans H3.out.x (b := w3) (by repeat (first | with_reducible exact Ext.refl _ | with_reducible assumption | with_reducible refine Ext.alloc ?_ _ | with_reducible refine Ext.drew ?_ | (with_reducible refine Ext.setAt ?_ _ _ _ ?_; rotate_left; omega) | with_reducible refine Ext.trans ?_ (by assumption) | with_reducible exact Past.bel _ | with_reducible refine Ext.trans ?_ (Past.bel _)))) s7 (fun k hk => by have := (OM.out.lt k hk).1; omega)
    have n6 : (Value.slice b6 (C.R.length + 1) c6).ownBlock ≠ some gc := fun e => by have := (s6.lt _ e).1; omega
    have n7 : (Value.slice a1 C.M.length c1).ownBlock ≠ some gc := H3.out.far1
    go_wp2_with fail
    go_ret
    exact ⟨rfl, b6, c6, CB.addR (q := (x, y, b)) lo hx6 hc6 s6 ho6 n6 n7⟩
set_option maxRecDepth 100000 in
set_option maxHeartbeats 4000000 in
theorem line_no (gc g : Nat) (Ps : List ByteArray) (p0 : ByteArray) (w : World) (hn : 1 ≤ Ps.length) (hw : w.cell? ⟨g, 0, none⟩ = some (.string p0))
    (h1 : ¬ (p0.data.toList = calK ∧ Ps.length = 3)) (h2 : ¬ (p0.data.toList = monK ∧ Ps.length = 4)) (h3 : ¬ (p0.data.toList = leaK ∧ Ps.length = 4)) :
    Calls Tryd.prog 20 #[.pointer (some ⟨gc, 0, none⟩), .slice (some ⟨g, 0, none⟩) Ps.length Ps.length] w fun e w' => e = .returned (.bool false) ∧ w' = w := by
  obtain ⟨n, hN⟩ : ∃ n, n = Ps.length := ⟨_, rfl⟩
  rw [← hN] at hn h1 h2 h3 ⊢
  clear hN
  have x0 : (0 : Int) < (n : Int) := by omega
  have e0 := ByteArray.toList_eq p0
  rw [← e0] at h1 h2 h3
  clear e0
  unfold calK at h1
  unfold monK at h2
  unfold leaK at h3
  by_cases c1 : p0.toList = [99, 97, 108, 101, 110, 100, 97, 114]
  · have y1 : (p0.toList == [99, 97, 108, 101, 110, 100, 97, 114]) = true := by rw [c1]; rfl
    have y2 : (p0.toList == [109, 111, 110, 116, 104]) = false := by rw [c1]; rfl
    have y3 : (p0.toList == [108, 101, 97, 112]) = false := by rw [c1]; rfl
    have y4 : ((n : Int) == 3) = false := by rw [beq_eq_false_iff_ne]; intro e; exact h1 ⟨c1, by omega⟩
    clear h1 h2 h3 c1
    go_enter Tryd.func20, Tryd.ntmps20
    go_wp2_with fail
    go_ret
    exact ⟨rfl, rfl⟩
  · have y1 : (p0.toList == [99, 97, 108, 101, 110, 100, 97, 114]) = false := by rw [beq_eq_false_iff_ne]; exact c1
    by_cases c2 : p0.toList = [109, 111, 110, 116, 104]
    · have y2 : (p0.toList == [109, 111, 110, 116, 104]) = true := by rw [c2]; rfl
      have y3 : (p0.toList == [108, 101, 97, 112]) = false := by rw [c2]; rfl
      have y4 : ((n : Int) == 4) = false := by rw [beq_eq_false_iff_ne]; intro e; exact h2 ⟨c2, by omega⟩
      clear h1 h2 h3 c1 c2
      go_enter Tryd.func20, Tryd.ntmps20
      go_wp2_with fail
      go_ret
      exact ⟨rfl, rfl⟩
    · have y2 : (p0.toList == [109, 111, 110, 116, 104]) = false := by rw [beq_eq_false_iff_ne]; exact c2
      by_cases c3 : p0.toList = [108, 101, 97, 112]
      · have y3 : (p0.toList == [108, 101, 97, 112]) = true := by rw [c3]; rfl
        have y4 : ((n : Int) == 4) = false := by rw [beq_eq_false_iff_ne]; intro e; exact h3 ⟨c3, by omega⟩
        clear h1 h2 h3 c1 c2 c3
        go_enter Tryd.func20, Tryd.ntmps20
        go_wp2_with fail
        go_ret
        exact ⟨rfl, rfl⟩
      · have y3 : (p0.toList == [108, 101, 97, 112]) = false := by rw [beq_eq_false_iff_ne]; exact c3
        clear h1 h2 h3 c1 c2 c3
        go_enter Tryd.func20, Tryd.ntmps20
        go_wp2_with fail
        go_ret
        exact ⟨rfl, rfl⟩
end Go.Proofs.YtpohhnihgegmfaaDoor

namespace Go.Proofs.YtpohhnihgegmfaaDoor
open Go.RowKit
set_option linter.unusedVariables false
set_option linter.unusedSimpArgs false

theorem ba_of {p : ByteArray} {l : List UInt8} (h : p.data.toList = l) : p = ⟨l.toArray⟩ := by rw [← h]
/-- what one line's reading leaves -/
def LnR (w0 w w' : World) (gc : Nat) (e : Ending) : Option Cl → Prop
  | none => e = .returned (.bool false) ∧ w' = w
  | some D => e = .returned (.bool true) ∧ ∃ a1 c1 a2 c2, CB w0 w' gc D a1 c1 a2 c2
theorem line_c (w0 : World) (gc g : Nat) (C : Cl) (a1 : Option Addr) (c1 : Nat) (a2 : Option Addr) (c2 : Nat) (Ps : List ByteArray) (w : World) (h : CB w0 w gc C a1 c1 a2 c2) (hM : C.M.length ≤ 1048576) (hR : C.R.length ≤ 1048576)
    (hw : Blk w g 9 (Ps.map Value.string).toArray) (hne : Ps ≠ []) (hz : ∀ p ∈ Ps, p.size ≤ 1048576) (hgc : g ≠ gc)
    (hgm : ∀ k, (Value.slice a1 C.M.length c1).ownBlock = some k → k ≠ g) (hgr : ∀ k, (Value.slice a2 C.R.length c2).ownBlock = some k → k ≠ g) (hg : Gl w0) :
    Calls Tryd.prog 20 #[.pointer (some ⟨gc, 0, none⟩), .slice (some ⟨g, 0, none⟩) Ps.length Ps.length] w fun e w' => LnR w0 w w' gc e (stepI C (Ps.map (·.data.toList))) := by
  have no : ∀ p0, Ps[0]? = some p0 → ¬ (p0.data.toList = calK ∧ Ps.length = 3) → ¬ (p0.data.toList = monK ∧ Ps.length = 4) → ¬ (p0.data.toList = leaK ∧ Ps.length = 4) → stepI C (Ps.map (·.data.toList)) = none →
      Calls Tryd.prog 20 #[.pointer (some ⟨gc, 0, none⟩), .slice (some ⟨g, 0, none⟩) Ps.length Ps.length] w fun e w' => LnR w0 w w' gc e (stepI C (Ps.map (·.data.toList))) := fun p0 h0 n1 n2 n3 hs => by
    rw [hs]
    refine line_no gc g Ps p0 w (List.length_pos_iff.2 hne) ?_ n1 n2 n3
    rw [hw.cell]; simp [h0]
  match Ps, hne, hw, hz, no with
  | [p0], _, hw, hz, no => exact no p0 rfl (by simp) (by simp) (by simp) rfl
  | [p0, p1], _, hw, hz, no => exact no p0 rfl (by simp) (by simp) (by simp) rfl
  | [p0, p1, p2], _, hw, hz, no =>
    by_cases hk : p0.data.toList = calK
    · have e : stepI C ([p0, p1, p2].map (·.data.toList)) = some ⟨p1, nv p2.data.toList, C.M, C.R⟩ := by simp [stepI, hk]
      rw [e]
      obtain rfl := ba_of hk
      exact (line_cal w0 gc g C a1 c1 a2 c2 p1 p2 w h hw (hz p2 (by simp)) hgc hg).mono fun e w' k => ⟨k.1, _, _, _, _, k.2⟩
    · exact no p0 rfl (fun k => hk k.1) (by simp) (by simp) (by simp [stepI, hk])
  | [p0, p1, p2, p3], _, hw, hz, no =>
    by_cases hk : p0.data.toList = monK
    · have e : stepI C ([p0, p1, p2, p3].map (·.data.toList)) = some ⟨C.nm, C.wk, C.M ++ [(p1, nv p2.data.toList, nv p3.data.toList)], C.R⟩ := by simp [stepI, hk]
      rw [e]
      obtain rfl := ba_of hk
      exact (line_mon w0 gc g C a1 c1 a2 c2 p1 p2 p3 w h hM hw (hz p2 (by simp)) (hz p3 (by simp)) hgc hgm hg).mono fun e w' ⟨k, a, c, k2⟩ => ⟨k, _, _, _, _, k2⟩
    · by_cases hl : p0.data.toList = leaK
      · have e : stepI C ([p0, p1, p2, p3].map (·.data.toList)) = some ⟨C.nm, C.wk, C.M, C.R ++ [(nv p1.data.toList, nv p2.data.toList, decide (p3.data.toList = yesK))]⟩ := by
          simp [stepI, hl, show ¬ leaK = monK by decide]
        rw [e]
        obtain rfl := ba_of hl
        exact (line_lea w0 gc g C a1 c1 a2 c2 p1 p2 p3 w h hR hw (hz p1 (by simp)) (hz p2 (by simp)) hgc hgr hg).mono fun e w' ⟨k, a, c, k2⟩ => ⟨k, _, _, _, _, k2⟩
      · exact no p0 rfl (by simp) (fun k => hk k.1) (fun k => hl k.1) (by simp [stepI, hk, hl])
  | p0 :: p1 :: p2 :: p3 :: p4 :: r, _, hw, hz, no => exact no p0 rfl (by simp) (by simp) (by simp) rfl
theorem stepI_len {C D : Cl} {ws : List (List UInt8)} (h : stepI C ws = some D) : D.M.length + D.R.length ≤ C.M.length + C.R.length + 1 := by
  match ws, h with
  | [k, a, b], h =>
    simp only [stepI] at h
    split at h
    · cases h; simp
    · cases h
  | [k, a, b, c], h =>
    simp only [stepI] at h
    split at h
    · cases h; simp; omega
    · split at h
      · cases h; simp; omega
      · cases h
  | [], h => cases h
  | [_], h => cases h
  | [_, _], h => cases h
  | _ :: _ :: _ :: _ :: _ :: _, h => cases h
end Go.Proofs.YtpohhnihgegmfaaDoor

namespace Go.Proofs.YtpohhnihgegmfaaDoor
open Go.RowKit
set_option linter.unusedVariables false
set_option linter.unusedSimpArgs false

theorem sizeBuilder : (Tryd.prog.info? 77).map (·.size) = some 2 := by kernel_rfl
theorem liesBuilder : liesAt Tryd.prog Tryd.prog.depth 77 (2 / Tryd.prog.cellsOf 77) 0 77 1 = true := by kernel_rfl
set_option maxHeartbeats 1000000 in
set_option maxRecDepth 100000 in
theorem copyCheck_used (b : Nat) (w : World) (h0 : w.cell? ⟨b, 0, none⟩ = some (.pointer (some ⟨b, 0, none⟩))) :
    Calls Tryd.prog 69 #[.pointer (some ⟨b, 0, none⟩)] w fun e w' => e = .returned (.tuple #[]) ∧ w' = w := by
  obtain ⟨j, hj, _⟩ := Option.map_eq_some_iff.1 sizeBuilder
  go_enter Tryd.func69, Tryd.ntmps69
  go_wp2
  rw [Lib.run_neq_ptr_same w _ Tryd.underlying74 hj]
  go_wp2
  go_end0
  exact ⟨rfl, rfl⟩
set_option maxHeartbeats 1000000 in
set_option maxRecDepth 100000 in
theorem copyCheck_fresh (b : Nat) (w : World) (h0 : w.cell? ⟨b, 0, none⟩ = some (.pointer none)) (hsh : w.shape? b = some (77, 2)) (hfz : w.frozen? ⟨b, 0, none⟩ = false) :
    Calls Tryd.prog 69 #[.pointer (some ⟨b, 0, none⟩)] w fun e w' => e = .returned (.tuple #[]) ∧ w' = w.setCell ⟨b, 0, none⟩ (.pointer (some ⟨b, 0, none⟩)) := by
  obtain ⟨j, hj, hjs⟩ := Option.map_eq_some_iff.1 sizeBuilder
  go_enter Tryd.func69, Tryd.ntmps69
  go_wp2
  rw [Lib.run_to_unsafe w ⟨b, 0, none⟩ Tryd.underlying74 Tryd.underlying106 hj (by rw [hjs]; decide) hsh (Nat.zero_lt_succ 1)]
  simp only [Result.andThen]
  rw [Oper.upon_value]
  go_wp2
  rw [run_callFunc_extern Tryd.func83 (by kernel_rfl) (by kernel_rfl) (by kernel_rfl) (e := Extern.AbiNoEscape.same) (by kernel_rfl)]
  rw [Lib.run_noEscape]
  simp only [Result.andThen]
  rw [Oper.upon_value]
  go_wp2
  rw [Lib.run_from_unsafe w ⟨b, 0, none⟩ Tryd.underlying106 Tryd.underlying74 hj hsh liesBuilder]
  simp only [Result.andThen]
  rw [Oper.upon_value]
  go_wp2
  go_end0
  exact ⟨rfl, rfl⟩
theorem copyCheck_c (B b : Nat) (bs : List Value) (w : World) (h : Lib.IsBuilder 77 5 B b bs w) :
    Calls Tryd.prog 69 #[.pointer (some ⟨b, 0, none⟩)] w fun e w' => e = .returned (.tuple #[]) ∧ (Lib.BuilderAt 77 5 B b (.pointer (some ⟨b, 0, none⟩)) bs w' ∧ Below B w w' ∧ Lib.OthersKept 5 (some b) w w') := by
  rcases h with h | h
  · refine (copyCheck_fresh b w h.cell0 h.shape h.frozen0).mono ?_
    rintro e w' ⟨rfl, rfl⟩
    exact ⟨rfl, h.used _, (Below.refl B w).setCell (p := ⟨b, 0, none⟩) h.1 _, (Lib.OthersKept.refl _ _ w).setCell ⟨b, 0, none⟩ rfl _⟩
  · refine (copyCheck_used b w h.cell0).mono ?_
    rintro e w' ⟨rfl, rfl⟩
    exact ⟨rfl, h, Below.refl B _, Lib.OthersKept.refl _ _ _⟩
theorem ownsRow_kind {w : World} {base : Nat} {e : TypeId} {size : Nat} {v : Value} {n : Nat} {xs : List Value} (h : w.ownsRow base e size v n xs) : ∀ g, v.ownBlock = some g → ∃ c fz, w.heap[g]? = some (.cells c e fz) := fun g hg => by
  rcases h.2 with ⟨rfl, _⟩ | ⟨g', cap, cur, rfl, _, hb, _⟩
  · simp [Value.ownBlock] at hg
  · simp [Value.ownBlock] at hg
    subst hg
    exact ⟨cur, (0, 0), hb⟩
set_option maxHeartbeats 2000000 in
set_option maxRecDepth 100000 in
theorem writeString_c (B b : Nat) (bs : List Value) (s : ByteArray) (w : World) (h : Lib.IsBuilder 77 5 B b bs w) (hlen : bs.length + s.size ≤ 140737488355328) (hBw : B ≤ w.heap.size) :
    Calls Tryd.prog 47 #[.pointer (some ⟨b, 0, none⟩), .string s] w fun e w' => e = .returned (.tuple #[.int .i64 s.size, .nilIface]) ∧ (Lib.BuilderAt 77 5 B b (.pointer (some ⟨b, 0, none⟩)) (bs ++ Lib.strCells s) w' ∧ Below B w w' ∧ Lib.OthersKept 5 (some b) w w') := by
  obtain ⟨i0, hi, hz0, hz1, hz2⟩ := info_parts info_u8
  go_enter Tryd.func47, Tryd.ntmps47
  go_wp2_with (go_at_call 69; refine (copyCheck_c B b bs _ h).mono ?_)
  rintro e w1 ⟨rfl, h1, hb1, hk1⟩
  obtain ⟨hB, v, hbk, hown, hne⟩ := h1
  have c0 : w1.cell? ⟨b, 0, none⟩ = some (.pointer (some ⟨b, 0, none⟩)) := by rw [Lib.cell_of_heap hbk]; rfl
  have c1 : w1.cell? ⟨b, 1, none⟩ = some v := by rw [Lib.cell_of_heap hbk]; rfl
  go_wp2_with (at_builtin; refine Lib.wpList_append_own_string _ rfl _ _ 75 9 rfl B 5 i0 Tryd.underlying75 Tryd.underlying9 hi hz0 hz1 hz2 _ _ _ rfl hown s rfl ?c3 ?c4 ?c5 ?_)
  case c3 => unfold maxLen; omega
  case c4 => omega
  case c5 => have := hb1.size; omega
  intro v' w2 hown' hgrow _
  have hlt : b < w1.heap.size := by
    rcases Nat.lt_or_ge b w1.heap.size with h' | h'
    · exact h'
    · simp [Array.getElem?_eq_none h'] at hbk
  have hb2 : w2.heap[b]? = some (.cells #[.pointer (some ⟨b, 0, none⟩), v] 77 (0, 0)) := by
    rw [hgrow.block b hlt (fun e => hne e.symm)]
    exact hbk
  have d0 : w2.cell? ⟨b, 0, none⟩ = some (.pointer (some ⟨b, 0, none⟩)) := by rw [Lib.cell_of_heap hb2]; rfl
  have d1 : w2.cell? ⟨b, 1, none⟩ = some v := by rw [Lib.cell_of_heap hb2]; rfl
  have f1 : w2.frozen? ⟨b, 1, none⟩ = false := Lib.frozen_of_heap hb2 1
  obtain ⟨ao, n', cap, rfl⟩ : ∃ ao n' cap, v' = .slice ao n' cap := by
    rcases hown'.2 with ⟨hv, _⟩ | ⟨g, cap, cur, hv, _⟩
    · exact ⟨_, _, _, hv⟩
    · exact ⟨_, _, _, hv⟩
  go_wp2
  go_ret2
  refine ⟨rfl, ?_, ?_, (hk1.grown hgrow (ownsRow_kind hown)).setCell ⟨b, 1, none⟩ rfl _⟩
  · exact Lib.BuilderAt.put (T := 77) (e := 5) hB hb2 (bs' := bs ++ Lib.strCells s) (by simpa [Lib.strCells_length] using hown') (by decide)
  · exact (hb1.grown hgrow (by have := hb1.size; omega) (fun k hk => (hown.lt k hk).1)).setCell (p := ⟨b, 1, none⟩) hB _
end Go.Proofs.YtpohhnihgegmfaaDoor

namespace Go.Proofs.YtpohhnihgegmfaaDoor
open Go.RowKit
set_option linter.unusedVariables false
set_option linter.unusedSimpArgs false

/-- a builder of the call's own in block b holds the bytes L -/
def Bd (w : World) (b : Nat) (L : List UInt8) : Prop := Lib.IsBuilder 77 5 b b (Lib.byteCells L) w
theorem Bd.cast {w : World} {b : Nat} {L L' : List UInt8} (h : Bd w b L) (e : L = L') : Bd w b L' := e ▸ h
theorem Bd.lt {w : World} {b : Nat} {L : List UInt8} (h : Bd w b L) : b < w.heap.size := h.elim (fun x => x.lt) (fun x => x.lt)
theorem Bd.ext {w w' : World} {b : Nat} {L : List UInt8} (h : Bd w b L) (x : Ext w w') : Bd w' b L := by
  have hk : ∀ p, Lib.BuilderAt 77 5 b b p (Lib.byteCells L) w → Lib.BuilderAt 77 5 b b p (Lib.byteCells L) w' := fun p hp => by
    have hlt := hp.lt
    obtain ⟨hB, v, hb, hown, hne⟩ := hp
    exact ⟨hB, v, (x.block hlt).trans hb, own_ext hown x, hne⟩
  exact h.elim (fun y => .inl (hk _ y)) (fun y => .inr (hk _ y))
theorem Bd.new (w : World) : Bd (w.alloc (.cells #[.pointer none, .slice none 0 0] 77)) w.heap.size [] :=
  .inl ⟨Nat.le_refl _, .slice none 0 0, heap_alloc_new w _, World.ownsRow_nil _ _ _ _, by simp [Value.ownBlock]⟩
theorem writeS_c (b : Nat) (L : List UInt8) (s : ByteArray) (w : World) (h : Bd w b L) (hl : L.length + s.size ≤ 1000000) :
    Calls Tryd.prog 47 #[.pointer (some ⟨b, 0, none⟩), .string s] w fun e w' => e = .returned (.tuple #[.int .i64 s.size, .nilIface]) ∧ Bd w' b (L ++ s.data.toList) ∧ Below b w w' ∧ Lib.OthersKept 5 (some b) w w' := by
  refine (writeString_c b b (Lib.byteCells L) s w h (by rw [Lib.byteCells_length]; omega) (Nat.le_of_lt h.lt)).mono ?_
  rintro e w' ⟨rfl, h1, h2, h3⟩
  refine ⟨rfl, ?_, h2, h3⟩
  unfold Bd
  rw [Lib.byteCells_append, ← Lib.strCells_eq]
  exact .inr h1
theorem ba_sz (l : List UInt8) : (⟨l.toArray⟩ : ByteArray).size = l.length := by simp [ByteArray.size]
/-- a block of another type is kept by writing -/
theorem kept_cell {w w' : World} {b g : Nat} {T : TypeId} {cur : Array Value} (h : Blk w g T cur) (hk : Lib.OthersKept 5 (some b) w w') (hb : g ≠ b) (hT : T ≠ 5) : Blk w' g T cur :=
  hk g _ h (by simpa using hb) (fun c fz e => by simp only [Obj.cells.injEq] at e; exact hT e.2.1)
set_option maxRecDepth 100000 in
set_option maxHeartbeats 8000000 in
theorem implCalendarText_c {s : ByteArray} {ma ra : Option Addr} {mc rc : Nat} (wk : Int) {nm : Nat → ByteArray} {c : CalN} {w : World} (h : CalV w s ma ra mc rc nm c) (ht : Tab w) :
    Calls Tryd.prog 23 #[.agg #[.string s, .slice ma c.n mc, .slice ra c.nr rc, .int .i64 wk]] w fun e w' => e = .returned (.string ⟨(calTx s nm c wk).toArray⟩) ∧ Ext w w' := by
  have H := Lib.hid h
  have HT := Lib.hid ht
  clear h ht
  cases hv : calB s nm c wk
  · have HX := Lib.hid (show calTx s nm c wk = [] by rw [calTx, hv]; rfl)
    have HV := Lib.hid (fun (W : World) (hq : Ext w W) => (hv ▸ validCalendar_v wk (H.out.ext hq) : Calls Tryd.prog 22 #[.agg #[.string s, .slice ma c.n mc, .slice ra c.nr rc, .int .i64 wk]] W fun e w' => e = .returned (.bool false) ∧ Ext W w'))
    clear hv
    go_enter Tryd.func23, Tryd.ntmps23
    go_wp2_with (go_at_call 22; ((with_reducible refine (HV.out _ (by repeat (first | with_reducible exact Ext.refl _ | with_reducible assumption | with_reducible refine Ext.alloc ?_ _ | with_reducible refine Ext.drew ?_ | (with_reducible refine Ext.setAt ?_ _ _ _ ?_; rotate_left; omega) | with_reducible refine Ext.trans ?_ (by assumption) | with_reducible exact Past.bel _ | with_reducible refine Ext.trans ?_ (Past.bel _)))).mono ?_); rintro e w' ⟨rfl, hx⟩; (first | (obtain ⟨wx, rfl⟩ := Past.again hx) | (obtain ⟨wx, rfl⟩ := Past.ofd hx) | (obtain ⟨wx, rfl⟩ := Past.of hx))))
    go_ret
    exact ⟨by rw [HX.out]; rfl, (by repeat (first | with_reducible exact Ext.refl _ | with_reducible assumption | with_reducible refine Ext.alloc ?_ _ | with_reducible refine Ext.drew ?_ | (with_reducible refine Ext.setAt ?_ _ _ _ ?_; rotate_left; omega) | with_reducible refine Ext.trans ?_ (by assumption) | with_reducible exact Past.bel _ | with_reducible refine Ext.trans ?_ (Past.bel _)))⟩
  · have HX := Lib.hid (show calTx s nm c wk = calL s nm c wk by rw [calTx, hv]; rfl)
    have HV := Lib.hid (fun (W : World) (hq : Ext w W) => (hv ▸ validCalendar_v wk (H.out.ext hq) : Calls Tryd.prog 22 #[.agg #[.string s, .slice ma c.n mc, .slice ra c.nr rc, .int .i64 wk]] W fun e w' => e = .returned (.bool true) ∧ Ext W w'))
    have b := txB_of hv
    have B := Lib.hid b
    have n20 := b.n20
    have nr6 := b.nr6
    have sz := b.sz
    obtain ⟨A, hA⟩ : ∃ A, A = Lib.itoa wk := ⟨_, rfl⟩
    have la : A.length ≤ 20 := by rw [hA]; exact itoa_len _ b.wk.lo b.wk.hi
    have TA := Lib.hid (fun (W : World) (hq : Ext w W) => (show Calls Tryd.prog 35 #[.int .i64 wk] W (fun e w' => e = .returned (.string ⟨A.toArray⟩) ∧ Ext W w') from by rw [hA]; exact decimal_c _ W b.wk.lo b.wk.hi (HT.out.ext hq)))
    have HA := Lib.hid hA
    have PC := CalP.new 31 s ma ra mc rc wk H.out.mem
    clear hv b hA
    go_enter Tryd.func23, Tryd.ntmps23
    go_wp2_with fail
    refine (HV.out _ (by repeat (first | with_reducible exact Ext.refl _ | with_reducible assumption | with_reducible refine Ext.alloc ?_ _ | with_reducible refine Ext.drew ?_ | (with_reducible refine Ext.setAt ?_ _ _ _ ?_; rotate_left; omega) | with_reducible refine Ext.trans ?_ (by assumption) | with_reducible exact Past.bel _ | with_reducible refine Ext.trans ?_ (Past.bel _)))).mono ?_
    rintro e w1 ⟨rfl, hx1⟩
    have PC1 := PC.ext hx1
    have e1 : Ext w w1 := Ext.trans (by repeat (first | with_reducible exact Ext.refl _ | with_reducible assumption | with_reducible refine Ext.alloc ?_ _ | with_reducible refine Ext.drew ?_ | (with_reducible refine Ext.setAt ?_ _ _ _ ?_; rotate_left; omega) | with_reducible refine Ext.trans ?_ (by assumption) | with_reducible exact Past.bel _ | with_reducible refine Ext.trans ?_ (Past.bel _))) hx1
    have g0 := PC1.lt
    have p0 := PC1.c0
    have p1 := PC1.c1
    have p2 := PC1.c2
    have p3 := PC1.c3
    have HP := Lib.hid PC1
    clear PC PC1 hx1
    go_upto_region 4 with fail
    have B0 := Lib.hid (Bd.new w1)
    have SK := Lib.hid (show ∀ w', Ext w1 w' → (w'.cell? ⟨w.heap.size, 0, none⟩ = some (.string s) ∧ w'.cell? ⟨w.heap.size, 3, none⟩ = some (.int .i64 wk)) from fun w' hq => ⟨(hq.cell g0).trans p0, (hq.cell g0).trans p3⟩)
    have y1 : ¬ 9223372036854775807 < 9 + s.size := by omega
    have y2 : ¬ 9223372036854775807 < 9 + s.size + 1 := by omega
    have y3 : ¬ 9223372036854775807 < 9 + s.size + 1 + A.length := by omega
    have y4 : ¬ 9223372036854775807 < 9 + s.size + 1 + A.length + 1 := by omega
    clear p0 p3
    go_cut [] (fun wx => Ext w1 wx ∧ Bd wx w1.heap.size (hdL s wk))
    case first =>
      go_region_held3 (fun w' => w'.cell? ⟨w.heap.size, 0, none⟩ = some (.string s) ∧ w'.cell? ⟨w.heap.size, 3, none⟩ = some (.int .i64 wk))
        (first | (refine SK.out _ ?_; ((repeat (first | with_reducible exact Ext.refl _ | with_reducible assumption | with_reducible refine Ext.alloc ?_ _ | with_reducible refine Ext.drew ?_ | (with_reducible refine Ext.setAt ?_ _ _ _ ?_; rotate_left; omega) | with_reducible refine Ext.trans ?_ (by assumption) | with_reducible exact Past.bel _ | with_reducible refine Ext.trans ?_ (Past.bel _))); done)) | exact SK.out _ (Below.trans (show Ext w1 _ from (by repeat (first | with_reducible exact Ext.refl _ | with_reducible assumption | with_reducible refine Ext.alloc ?_ _ | with_reducible refine Ext.drew ?_ | (with_reducible refine Ext.setAt ?_ _ _ _ ?_; rotate_left; omega) | with_reducible refine Ext.trans ?_ (by assumption) | with_reducible exact Past.bel _ | with_reducible refine Ext.trans ?_ (Past.bel _)))) hbl))
        (first | (go_at_call 35; ((with_reducible refine (TA.out _ (by repeat (first | with_reducible exact Ext.refl _ | with_reducible assumption | with_reducible refine Ext.alloc ?_ _ | with_reducible refine Ext.drew ?_ | (with_reducible refine Ext.setAt ?_ _ _ _ ?_; rotate_left; omega) | with_reducible refine Ext.trans ?_ (by assumption) | with_reducible exact Past.bel _ | with_reducible refine Ext.trans ?_ (Past.bel _)))).mono ?_); rintro e w' ⟨rfl, hx⟩; (first | (obtain ⟨wx, rfl⟩ := Past.again hx) | (obtain ⟨wx, rfl⟩ := Past.ofd hx) | (obtain ⟨wx, rfl⟩ := Past.of hx)))) | (go_at_call 47; ((with_reducible refine (writeS_c w1.heap.size [] _ _ (B0.out.ext (by repeat (first | with_reducible exact Ext.refl _ | with_reducible assumption | with_reducible refine Ext.alloc ?_ _ | with_reducible refine Ext.drew ?_ | (with_reducible refine Ext.setAt ?_ _ _ _ ?_; rotate_left; omega) | with_reducible refine Ext.trans ?_ (by assumption) | with_reducible exact Past.bel _ | with_reducible refine Ext.trans ?_ (Past.bel _)))) (by simp [ByteArray.size_append, ba_sz]; omega)).mono ?_); rintro e w' ⟨rfl, hbd, hbl, hok⟩)))
      all_goals (go_wp2_with fail; go_meet; exact ⟨Below.trans (show Ext w1 _ from (by repeat (first | with_reducible exact Ext.refl _ | with_reducible assumption | with_reducible refine Ext.alloc ?_ _ | with_reducible refine Ext.drew ?_ | (with_reducible refine Ext.setAt ?_ _ _ _ ?_; rotate_left; omega) | with_reducible refine Ext.trans ?_ (by assumption) | with_reducible exact Past.bel _ | with_reducible refine Ext.trans ?_ (Past.bel _)))) hbl, hbd.cast (by simp [ByteArray.data_append, hdL, HA.out])⟩)
    case rest =>
      obtain ⟨hx, hbd⟩ := hcut
      obtain ⟨v0, rfl⟩ : ∃ v0 : World, v0 = wc := ⟨_, rfl⟩
      clear y1 y2 y3 y4 TA
      have h0 := HP.out.ext hx
      have g0' := h0.lt
      have p1' := h0.c1
      have HB := Lib.hid hbd
      clear h0 hbd
      go_wp2_with fail
      go_loopw [25] (fun i wr => ∃ j : Nat, j ≤ c.n ∧ i = .int .i64 j ∧ Ext w1 wr ∧ Bd wr w1.heap.size (ttM s nm c wk j)) (fun i _ => c.n - (intOf i).toNat)
      case atStart => exact ⟨0, by omega, rfl, hx, HB.out⟩
      case round =>
        clear HB hx g0' p1'
        obtain ⟨j, hj, rfl, hx, hbd⟩ := hrel
        have HB := Lib.hid hbd
        have blt := hbd.lt
        have h0 := HP.out.ext hx
        have g0' := h0.lt
        have p1' := h0.c1
        have p2' := h0.c2
        clear hbd h0
        by_cases hlt : j < c.n
        · have x1 : (j : Int) < (c.n : Int) := by omega
          have x0 : (0 : Int) ≤ (j : Int) := by omega
          have hmm := (H.out.mem.mo.ext (Ext.trans e1 hx)).at hlt
          obtain ⟨b1, o1, e9, hb1, q1, q2, q3⟩ := hmm
          subst e9
          have ln := B.out.nz j hlt
          have LL := ttM_len B.out hj
          have bd := B.out.dy j hlt
          have bl := B.out.lp j hlt
          obtain ⟨D, hD⟩ : ∃ D, D = Lib.itoa (c.dy j) := ⟨_, rfl⟩
          obtain ⟨E, hE⟩ : ∃ E, E = Lib.itoa (c.lp j) := ⟨_, rfl⟩
          have ld : D.length ≤ 20 := by rw [hD]; exact itoa_len _ bd.lo bd.hi
          have le : E.length ≤ 20 := by rw [hE]; exact itoa_len _ bl.lo bl.hi
          have TD := Lib.hid (fun (W : World) (hq : Ext w W) => (show Calls Tryd.prog 35 #[.int .i64 (c.dy j)] W (fun e w' => e = .returned (.string ⟨D.toArray⟩) ∧ Ext W w') from by rw [hD]; exact decimal_c _ W bd.lo bd.hi (HT.out.ext hq)))
          have TE := Lib.hid (fun (W : World) (hq : Ext w W) => (show Calls Tryd.prog 35 #[.int .i64 (c.lp j)] W (fun e w' => e = .returned (.string ⟨E.toArray⟩) ∧ Ext W w') from by rw [hE]; exact decimal_c _ W bl.lo bl.hi (HT.out.ext hq)))
          have HD := Lib.hid hD
          have HE := Lib.hid hE
          have hxw := Ext.trans e1 hx
          have BM := Blk.new wr #[(.string (nm j)), (.int .i64 (c.dy j)), (.int .i64 (c.lp j))] 68
          have hz : w1.heap.size < wr.heap.size := blt
          have SK := Lib.hid (show ∀ w', Ext (wr.alloc (.cells #[.string (nm j), .int .i64 (c.dy j), .int .i64 (c.lp j)] 68)) w' → (w'.cell? ⟨wr.heap.size, 0, none⟩ = some (.string (nm j)) ∧ w'.cell? ⟨wr.heap.size, 1, none⟩ = some (.int .i64 (c.dy j)) ∧ w'.cell? ⟨wr.heap.size, 2, none⟩ = some (.int .i64 (c.lp j))) from fun w' hq => by
            have h := BM.ext hq
            exact ⟨h.cell 0, h.cell 1, h.cell 2⟩)
          have SK2 := Lib.hid (show ∀ W W' : World, Ext (wr.alloc (.cells #[.string (nm j), .int .i64 (c.dy j), .int .i64 (c.lp j)] 68)) W → Lib.OthersKept 5 (some w1.heap.size) W W' → (W'.cell? ⟨wr.heap.size, 0, none⟩ = some (.string (nm j)) ∧ W'.cell? ⟨wr.heap.size, 1, none⟩ = some (.int .i64 (c.dy j)) ∧ W'.cell? ⟨wr.heap.size, 2, none⟩ = some (.int .i64 (c.lp j))) from fun W W' hq hk => by
            have h := kept_cell (BM.ext hq) hk (by omega) (by decide)
            exact ⟨h.cell 0, h.cell 1, h.cell 2⟩)
          clear hD hE bd bl BM
          have y1 : ¬ 9223372036854775807 < 6 + (nm j).size := by omega
          have y2 : ¬ 9223372036854775807 < 6 + (nm j).size + 1 := by omega
          have y3 : ¬ 9223372036854775807 < 6 + (nm j).size + 1 + D.length := by omega
          have y4 : ¬ 9223372036854775807 < 6 + (nm j).size + 1 + D.length + 1 := by omega
          have y5 : ¬ 9223372036854775807 < 6 + (nm j).size + 1 + D.length + 1 + E.length := by omega
          have y6 : ¬ 9223372036854775807 < 6 + (nm j).size + 1 + D.length + 1 + E.length + 1 := by omega
          go_upto_region 8 with fail
          go_region_held3 (fun w' => w'.cell? ⟨wr.heap.size, 0, none⟩ = some (.string (nm j)) ∧ w'.cell? ⟨wr.heap.size, 1, none⟩ = some (.int .i64 (c.dy j)) ∧ w'.cell? ⟨wr.heap.size, 2, none⟩ = some (.int .i64 (c.lp j)))
            (first | (refine SK.out _ ?_; ((repeat (first | with_reducible exact Ext.refl _ | with_reducible assumption | with_reducible refine Ext.alloc ?_ _ | with_reducible refine Ext.drew ?_ | (with_reducible refine Ext.setAt ?_ _ _ _ ?_; rotate_left; omega) | with_reducible refine Ext.trans ?_ (by assumption) | with_reducible exact Past.bel _ | with_reducible refine Ext.trans ?_ (Past.bel _))); done)) | exact SK2.out _ _ (by repeat (first | with_reducible exact Ext.refl _ | with_reducible assumption | with_reducible refine Ext.alloc ?_ _ | with_reducible refine Ext.drew ?_ | (with_reducible refine Ext.setAt ?_ _ _ _ ?_; rotate_left; omega) | with_reducible refine Ext.trans ?_ (by assumption) | with_reducible exact Past.bel _ | with_reducible refine Ext.trans ?_ (Past.bel _))) hok)
            (first | (go_at_call 35; ((with_reducible refine (TD.out _ (by repeat (first | with_reducible exact Ext.refl _ | with_reducible assumption | with_reducible refine Ext.alloc ?_ _ | with_reducible refine Ext.drew ?_ | (with_reducible refine Ext.setAt ?_ _ _ _ ?_; rotate_left; omega) | with_reducible refine Ext.trans ?_ (by assumption) | with_reducible exact Past.bel _ | with_reducible refine Ext.trans ?_ (Past.bel _)))).mono ?_); rintro e w' ⟨rfl, hx⟩; (first | (obtain ⟨wx, rfl⟩ := Past.again hx) | (obtain ⟨wx, rfl⟩ := Past.ofd hx) | (obtain ⟨wx, rfl⟩ := Past.of hx)))) | (go_at_call 35; ((with_reducible refine (TE.out _ (by repeat (first | with_reducible exact Ext.refl _ | with_reducible assumption | with_reducible refine Ext.alloc ?_ _ | with_reducible refine Ext.drew ?_ | (with_reducible refine Ext.setAt ?_ _ _ _ ?_; rotate_left; omega) | with_reducible refine Ext.trans ?_ (by assumption) | with_reducible exact Past.bel _ | with_reducible refine Ext.trans ?_ (Past.bel _)))).mono ?_); rintro e w' ⟨rfl, hx⟩; (first | (obtain ⟨wx, rfl⟩ := Past.again hx) | (obtain ⟨wx, rfl⟩ := Past.ofd hx) | (obtain ⟨wx, rfl⟩ := Past.of hx)))) | (go_at_call 47; ((with_reducible refine (writeS_c w1.heap.size (ttM s nm c wk j) _ _ (HB.out.ext (by repeat (first | with_reducible exact Ext.refl _ | with_reducible assumption | with_reducible refine Ext.alloc ?_ _ | with_reducible refine Ext.drew ?_ | (with_reducible refine Ext.setAt ?_ _ _ _ ?_; rotate_left; omega) | with_reducible refine Ext.trans ?_ (by assumption) | with_reducible exact Past.bel _ | with_reducible refine Ext.trans ?_ (Past.bel _)))) (by simp [ByteArray.size_append, ba_sz]; omega)).mono ?_); rintro e w' ⟨rfl, hbd, hbl, hok⟩)))
          all_goals (go_wp2_with fail; exact ⟨⟨j + 1, by omega, by go_num, Below.trans (show Ext w1 _ from (by repeat (first | with_reducible exact Ext.refl _ | with_reducible assumption | with_reducible refine Ext.alloc ?_ _ | with_reducible refine Ext.drew ?_ | (with_reducible refine Ext.setAt ?_ _ _ _ ?_; rotate_left; omega) | with_reducible refine Ext.trans ?_ (by assumption) | with_reducible exact Past.bel _ | with_reducible refine Ext.trans ?_ (Past.bel _)))) hbl, hbd.cast (by rw [ttM]; simp [ByteArray.data_append, moL, HD.out, HE.out])⟩, by simp [intOf]; omega⟩)
        · have x1 : ¬ (j : Int) < (c.n : Int) := by omega
          obtain rfl : j = c.n := by omega
          go_wp2_with fail
          go_loopw [48] (fun i wr => ∃ j : Nat, j ≤ c.nr ∧ i = .int .i64 j ∧ Ext w1 wr ∧ Bd wr w1.heap.size (ttR s nm c wk j)) (fun i _ => c.nr - (intOf i).toNat)
          case atStart => exact ⟨0, by omega, rfl, hx, HB.out⟩
          case round =>
            clear HB hx g0' p1' p2' blt
            obtain ⟨j, hj, rfl, hx, hbd⟩ := hrel
            have HB := Lib.hid hbd
            have blt := hbd.lt
            have h0 := HP.out.ext hx
            have g0' := h0.lt
            have p2' := h0.c2
            clear hbd h0
            by_cases hlt : j < c.nr
            · have x1 : (j : Int) < (c.nr : Int) := by omega
              have x0 : (0 : Int) ≤ (j : Int) := by omega
              have hmm := (H.out.mem.ru.ext (Ext.trans e1 hx)).at hlt
              obtain ⟨b1, o1, e9, hb1, q1, q2, q3⟩ := hmm
              subst e9
              obtain ⟨lfv, hlf⟩ : ∃ b, b = c.lf j := ⟨_, rfl⟩
              rw [← hlf] at q3
              have HF := Lib.hid hlf
              have LL := ttR_len B.out hj
              clear hlf
              have bd := B.out.ev j hlt
              have bl := B.out.rs j hlt
              obtain ⟨D, hD⟩ : ∃ D, D = Lib.itoa (c.ev j) := ⟨_, rfl⟩
              obtain ⟨E, hE⟩ : ∃ E, E = Lib.itoa (c.rs j) := ⟨_, rfl⟩
              have ld : D.length ≤ 20 := by rw [hD]; exact itoa_len _ bd.lo bd.hi
              have le : E.length ≤ 20 := by rw [hE]; exact itoa_len _ bl.lo bl.hi
              have TD := Lib.hid (fun (W : World) (hq : Ext w W) => (show Calls Tryd.prog 35 #[.int .i64 (c.ev j)] W (fun e w' => e = .returned (.string ⟨D.toArray⟩) ∧ Ext W w') from by rw [hD]; exact decimal_c _ W bd.lo bd.hi (HT.out.ext hq)))
              have TE := Lib.hid (fun (W : World) (hq : Ext w W) => (show Calls Tryd.prog 35 #[.int .i64 (c.rs j)] W (fun e w' => e = .returned (.string ⟨E.toArray⟩) ∧ Ext W w') from by rw [hE]; exact decimal_c _ W bl.lo bl.hi (HT.out.ext hq)))
              have HD := Lib.hid hD
              have HE := Lib.hid hE
              have hxw := Ext.trans e1 hx
              have BM := Blk.new wr #[(.int .i64 (c.ev j)), (.int .i64 (c.rs j)), (.bool lfv)] 70
              have hz : w1.heap.size < wr.heap.size := blt
              have SK := Lib.hid (show ∀ w', Ext (wr.alloc (.cells #[.int .i64 (c.ev j), .int .i64 (c.rs j), .bool lfv] 70)) w' → (w'.cell? ⟨wr.heap.size, 0, none⟩ = some (.int .i64 (c.ev j)) ∧ w'.cell? ⟨wr.heap.size, 1, none⟩ = some (.int .i64 (c.rs j)) ∧ w'.cell? ⟨wr.heap.size, 2, none⟩ = some (.bool lfv)) from fun w' hq => by
                have h := BM.ext hq
                exact ⟨h.cell 0, h.cell 1, h.cell 2⟩)
              have SK2 := Lib.hid (show ∀ W W' : World, Ext (wr.alloc (.cells #[.int .i64 (c.ev j), .int .i64 (c.rs j), .bool lfv] 70)) W → Lib.OthersKept 5 (some w1.heap.size) W W' → (W'.cell? ⟨wr.heap.size, 0, none⟩ = some (.int .i64 (c.ev j)) ∧ W'.cell? ⟨wr.heap.size, 1, none⟩ = some (.int .i64 (c.rs j)) ∧ W'.cell? ⟨wr.heap.size, 2, none⟩ = some (.bool lfv)) from fun W W' hq hk => by
                have h := kept_cell (BM.ext hq) hk (by omega) (by decide)
                exact ⟨h.cell 0, h.cell 1, h.cell 2⟩)
              clear hD hE bd bl BM
              have y1 : ¬ 9223372036854775807 < 5 + D.length := by omega
              have y2 : ¬ 9223372036854775807 < 5 + D.length + 1 := by omega
              have y3 : ¬ 9223372036854775807 < 5 + D.length + 1 + E.length := by omega
              have y4 : ¬ 9223372036854775807 < 5 + D.length + 1 + E.length + 1 := by omega
              have y5 : ¬ 9223372036854775807 < 5 + D.length + 1 + E.length + 1 + 3 := by omega
              have y6 : ¬ 9223372036854775807 < 5 + D.length + 1 + E.length + 1 + 3 + 1 := by omega
              have y7 : ¬ 9223372036854775807 < 5 + D.length + 1 + E.length + 1 + 2 := by omega
              have y8 : ¬ 9223372036854775807 < 5 + D.length + 1 + E.length + 1 + 2 + 1 := by omega
              cases lfv
              · go_upto_region 16 with fail
                go_region_held3 (fun w' => w'.cell? ⟨wr.heap.size, 0, none⟩ = some (.int .i64 (c.ev j)) ∧ w'.cell? ⟨wr.heap.size, 1, none⟩ = some (.int .i64 (c.rs j)) ∧ w'.cell? ⟨wr.heap.size, 2, none⟩ = some (.bool false))
                  (first | (refine SK.out _ ?_; ((repeat (first | with_reducible exact Ext.refl _ | with_reducible assumption | with_reducible refine Ext.alloc ?_ _ | with_reducible refine Ext.drew ?_ | (with_reducible refine Ext.setAt ?_ _ _ _ ?_; rotate_left; omega) | with_reducible refine Ext.trans ?_ (by assumption) | with_reducible exact Past.bel _ | with_reducible refine Ext.trans ?_ (Past.bel _))); done)) | exact SK2.out _ _ (by repeat (first | with_reducible exact Ext.refl _ | with_reducible assumption | with_reducible refine Ext.alloc ?_ _ | with_reducible refine Ext.drew ?_ | (with_reducible refine Ext.setAt ?_ _ _ _ ?_; rotate_left; omega) | with_reducible refine Ext.trans ?_ (by assumption) | with_reducible exact Past.bel _ | with_reducible refine Ext.trans ?_ (Past.bel _))) hok)
                  (first | (go_at_call 35; ((with_reducible refine (TD.out _ (by repeat (first | with_reducible exact Ext.refl _ | with_reducible assumption | with_reducible refine Ext.alloc ?_ _ | with_reducible refine Ext.drew ?_ | (with_reducible refine Ext.setAt ?_ _ _ _ ?_; rotate_left; omega) | with_reducible refine Ext.trans ?_ (by assumption) | with_reducible exact Past.bel _ | with_reducible refine Ext.trans ?_ (Past.bel _)))).mono ?_); rintro e w' ⟨rfl, hx⟩; (first | (obtain ⟨wx, rfl⟩ := Past.again hx) | (obtain ⟨wx, rfl⟩ := Past.ofd hx) | (obtain ⟨wx, rfl⟩ := Past.of hx)))) | (go_at_call 35; ((with_reducible refine (TE.out _ (by repeat (first | with_reducible exact Ext.refl _ | with_reducible assumption | with_reducible refine Ext.alloc ?_ _ | with_reducible refine Ext.drew ?_ | (with_reducible refine Ext.setAt ?_ _ _ _ ?_; rotate_left; omega) | with_reducible refine Ext.trans ?_ (by assumption) | with_reducible exact Past.bel _ | with_reducible refine Ext.trans ?_ (Past.bel _)))).mono ?_); rintro e w' ⟨rfl, hx⟩; (first | (obtain ⟨wx, rfl⟩ := Past.again hx) | (obtain ⟨wx, rfl⟩ := Past.ofd hx) | (obtain ⟨wx, rfl⟩ := Past.of hx)))) | (go_at_call 47; ((with_reducible refine (writeS_c w1.heap.size (ttR s nm c wk j) _ _ (HB.out.ext (by repeat (first | with_reducible exact Ext.refl _ | with_reducible assumption | with_reducible refine Ext.alloc ?_ _ | with_reducible refine Ext.drew ?_ | (with_reducible refine Ext.setAt ?_ _ _ _ ?_; rotate_left; omega) | with_reducible refine Ext.trans ?_ (by assumption) | with_reducible exact Past.bel _ | with_reducible refine Ext.trans ?_ (Past.bel _)))) (by simp [ByteArray.size_append, ba_sz]; omega)).mono ?_); rintro e w' ⟨rfl, hbd, hbl, hok⟩)))
                all_goals (go_wp2_with fail; exact ⟨⟨j + 1, by omega, by go_num, Below.trans (show Ext w1 _ from (by repeat (first | with_reducible exact Ext.refl _ | with_reducible assumption | with_reducible refine Ext.alloc ?_ _ | with_reducible refine Ext.drew ?_ | (with_reducible refine Ext.setAt ?_ _ _ _ ?_; rotate_left; omega) | with_reducible refine Ext.trans ?_ (by assumption) | with_reducible exact Past.bel _ | with_reducible refine Ext.trans ?_ (Past.bel _)))) hbl, hbd.cast (by rw [ttR]; simp [ByteArray.data_append, ruL, HD.out, HE.out, ← HF.out, yn])⟩, by simp [intOf]; omega⟩)
              · go_upto_region 16 with fail
                go_region_held3 (fun w' => w'.cell? ⟨wr.heap.size, 0, none⟩ = some (.int .i64 (c.ev j)) ∧ w'.cell? ⟨wr.heap.size, 1, none⟩ = some (.int .i64 (c.rs j)) ∧ w'.cell? ⟨wr.heap.size, 2, none⟩ = some (.bool true))
                  (first | (refine SK.out _ ?_; ((repeat (first | with_reducible exact Ext.refl _ | with_reducible assumption | with_reducible refine Ext.alloc ?_ _ | with_reducible refine Ext.drew ?_ | (with_reducible refine Ext.setAt ?_ _ _ _ ?_; rotate_left; omega) | with_reducible refine Ext.trans ?_ (by assumption) | with_reducible exact Past.bel _ | with_reducible refine Ext.trans ?_ (Past.bel _))); done)) | exact SK2.out _ _ (by repeat (first | with_reducible exact Ext.refl _ | with_reducible assumption | with_reducible refine Ext.alloc ?_ _ | with_reducible refine Ext.drew ?_ | (with_reducible refine Ext.setAt ?_ _ _ _ ?_; rotate_left; omega) | with_reducible refine Ext.trans ?_ (by assumption) | with_reducible exact Past.bel _ | with_reducible refine Ext.trans ?_ (Past.bel _))) hok)
                  (first | (go_at_call 35; ((with_reducible refine (TD.out _ (by repeat (first | with_reducible exact Ext.refl _ | with_reducible assumption | with_reducible refine Ext.alloc ?_ _ | with_reducible refine Ext.drew ?_ | (with_reducible refine Ext.setAt ?_ _ _ _ ?_; rotate_left; omega) | with_reducible refine Ext.trans ?_ (by assumption) | with_reducible exact Past.bel _ | with_reducible refine Ext.trans ?_ (Past.bel _)))).mono ?_); rintro e w' ⟨rfl, hx⟩; (first | (obtain ⟨wx, rfl⟩ := Past.again hx) | (obtain ⟨wx, rfl⟩ := Past.ofd hx) | (obtain ⟨wx, rfl⟩ := Past.of hx)))) | (go_at_call 35; ((with_reducible refine (TE.out _ (by repeat (first | with_reducible exact Ext.refl _ | with_reducible assumption | with_reducible refine Ext.alloc ?_ _ | with_reducible refine Ext.drew ?_ | (with_reducible refine Ext.setAt ?_ _ _ _ ?_; rotate_left; omega) | with_reducible refine Ext.trans ?_ (by assumption) | with_reducible exact Past.bel _ | with_reducible refine Ext.trans ?_ (Past.bel _)))).mono ?_); rintro e w' ⟨rfl, hx⟩; (first | (obtain ⟨wx, rfl⟩ := Past.again hx) | (obtain ⟨wx, rfl⟩ := Past.ofd hx) | (obtain ⟨wx, rfl⟩ := Past.of hx)))) | (go_at_call 47; ((with_reducible refine (writeS_c w1.heap.size (ttR s nm c wk j) _ _ (HB.out.ext (by repeat (first | with_reducible exact Ext.refl _ | with_reducible assumption | with_reducible refine Ext.alloc ?_ _ | with_reducible refine Ext.drew ?_ | (with_reducible refine Ext.setAt ?_ _ _ _ ?_; rotate_left; omega) | with_reducible refine Ext.trans ?_ (by assumption) | with_reducible exact Past.bel _ | with_reducible refine Ext.trans ?_ (Past.bel _)))) (by simp [ByteArray.size_append, ba_sz]; omega)).mono ?_); rintro e w' ⟨rfl, hbd, hbl, hok⟩)))
                all_goals (go_wp2_with fail; exact ⟨⟨j + 1, by omega, by go_num, Below.trans (show Ext w1 _ from (by repeat (first | with_reducible exact Ext.refl _ | with_reducible assumption | with_reducible refine Ext.alloc ?_ _ | with_reducible refine Ext.drew ?_ | (with_reducible refine Ext.setAt ?_ _ _ _ ?_; rotate_left; omega) | with_reducible refine Ext.trans ?_ (by assumption) | with_reducible exact Past.bel _ | with_reducible refine Ext.trans ?_ (Past.bel _)))) hbl, hbd.cast (by rw [ttR]; simp [ByteArray.data_append, ruL, HD.out, HE.out, ← HF.out, yn])⟩, by simp [intOf]; omega⟩)
            · have x1 : ¬ (j : Int) < (c.nr : Int) := by omega
              obtain rfl : j = c.nr := by omega
              go_wp2_with fail
              refine (Tryd.Builder_String_any w1.heap.size w1.heap.size _ _ HB.out (Nat.le_of_lt blt)).mono ?_
              rintro e w' ⟨rfl, hbl⟩
              have hxx := Ext.trans e1 (Below.trans hx hbl)
              go_wp2_with fail
              go_ret
              exact ⟨by rw [HX.out, calL]; rfl, hxx⟩
end Go.Proofs.YtpohhnihgegmfaaDoor

namespace Go.Proofs.YtpohhnihgegmfaaDoor
set_option linter.unusedVariables false
/-- codes and values -/
def ymC (s : ByteArray) (nm : Nat → ByteArray) (c : CalN) (wk y m : Int) : Int := if calB s nm c wk then (if inB y 0 9999 && inB m 1 (c.n : Int) then 0 else 2) else 1
def ymV (s : ByteArray) (nm : Nat → ByteArray) (c : CalN) (wk y m : Int) : Int := if ymC s nm c wk y m = 0 then c.mo y (m - 1).toNat else 0
def yrC (s : ByteArray) (nm : Nat → ByteArray) (c : CalN) (wk y : Int) : Int := if calB s nm c wk then (if inB y 0 9999 then 0 else 2) else 1
def yrV (s : ByteArray) (nm : Nat → ByteArray) (c : CalN) (wk y : Int) : Int := if yrC s nm c wk y = 0 then c.yl y else 0
/-- a date is a day of a valid calendar -/
def dtB (c : CalN) (y m d : Int) : Bool := inB y 0 9999 && (inB m 1 (c.n : Int) && inB d 1 (c.mo y (m - 1).toNat))
def vdR (s : ByteArray) (nm : Nat → ByteArray) (c : CalN) (wk y m d : Int) : Bool := calB s nm c wk && dtB c y m d
theorem mon_nat {n : Nat} {m : Int} (h : inB m 1 (n : Int) = true) : ∃ j : Nat, m = (j : Int) + 1 ∧ j < n := by
  have := inB_t.1 h
  exact ⟨(m - 1).toNat, by omega, by omega⟩
theorem succ_pred (j : Nat) : ((j : Int) + 1 - 1).toNat = j := by omega
end Go.Proofs.YtpohhnihgegmfaaDoor

namespace Go.Proofs.YtpohhnihgegmfaaDoor
open Go.RowKit
set_option linter.unusedVariables false
set_option linter.unusedSimpArgs false

end Go.Proofs.YtpohhnihgegmfaaDoor

namespace Go.Proofs.YtpohhnihgegmfaaDoor
open Go.RowKit
set_option linter.unusedVariables false
set_option linter.unusedSimpArgs false

theorem yl_t {c : CalN} {y : Int} (h : c.leap y = true) : c.yl y = sm c.lp c.n := by rw [yl_if, h]; rfl
theorem yl_f {c : CalN} {y : Int} (h : c.leap y = false) : c.yl y = sm c.dy c.n := by rw [yl_if, h]; rfl
end Go.Proofs.YtpohhnihgegmfaaDoor

namespace Go.Proofs.YtpohhnihgegmfaaDoor
open Go.RowKit
set_option linter.unusedVariables false
set_option linter.unusedSimpArgs false

/-- lines in memory -/
def Lns (w : World) (a : Option Addr) (Ps : List ByteArray) : Prop := ∀ j p, Ps[j]? = some p → ∃ g, a = some ⟨g, 0, none⟩ ∧ g < w.heap.size ∧ w.cell? ⟨g, j, none⟩ = some (.string p)
theorem Lns.ext {w w' : World} {a : Option Addr} {Ps : List ByteArray} (h : Lns w a Ps) (x : Ext w w') : Lns w' a Ps := fun j p hj => by
  obtain ⟨g, e, hg, hc⟩ := h j p hj
  exact ⟨g, e, Nat.lt_of_lt_of_le hg x.size, (x.cell hg).trans hc⟩
/-- texts' sizes -/
structure Szs (C : Cl) : Prop where
  nm : C.nm.size ≤ 1048576
  mo : ∀ q ∈ C.M, q.1.size ≤ 1048576
theorem Szs.z : Szs Cl.z := ⟨by decide, fun q hq => by simp [Cl.z] at hq⟩
theorem sz_of {a : List UInt8} (h : a.length ≤ 1048576) : (⟨a.toArray⟩ : ByteArray).size ≤ 1048576 := by simpa [ByteArray.size] using h
theorem Szs.step {C D : Cl} {ws : List (List UInt8)} (h : Szs C) (hs : stepI C ws = some D) (hw : ∀ x ∈ ws, x.length ≤ 1048576) : Szs D := by
  match ws, hs, hw with
  | [k, a, b], hs, hw =>
    simp only [stepI] at hs
    split at hs
    · cases hs; exact ⟨sz_of (hw a (by simp)), h.mo⟩
    · cases hs
  | [k, a, b, c], hs, hw =>
    simp only [stepI] at hs
    split at hs
    · cases hs
      refine ⟨h.nm, fun q hq => ?_⟩
      rcases List.mem_append.1 hq with hq | hq
      · exact h.mo q hq
      · rw [List.mem_singleton.1 hq]; exact sz_of (hw a (by simp))
    · split at hs
      · cases hs; exact ⟨h.nm, h.mo⟩
      · cases hs
  | [], h, _ => cases h
  | [_], h, _ => cases h
  | [_, _], h, _ => cases h
  | _ :: _ :: _ :: _ :: _ :: _, h, _ => cases h
/-- lines, or none -/
theorem linesOf_any (s : ByteArray) (w : World) (hs : s.size ≤ 1048576) (hg : Gl w) {C : Cl} {b : Bool} (r : CR s.data.toList C b) :
    (b = false ∧ Calls Tryd.prog 19 #[.string s] w fun e w' => e = .returned (.tuple #[.slice none 0 0, .bool false]) ∧ Ext w w') ∨
    (Calls Tryd.prog 19 #[.string s] w fun e w' => ∃ (Ps : List ByteArray) (a : Option Addr), e = .returned (.tuple #[.slice a Ps.length Ps.length, .bool true]) ∧ Ext w w' ∧ Lns w' a Ps ∧ Ps.length ≤ 1048576 ∧ (∀ p ∈ Ps, p.size ≤ 1048576) ∧ (b = true → runI Cl.z (lws (Ps.map (·.data.toList))) = some C)) := by
  by_cases h : ∃ t, s.data.toList = t ++ [10]
  · obtain ⟨t, ht⟩ := h
    right
    refine (linesOf_yes s t w hs ht hg).mono ?_
    rintro e w' ⟨Ps, g, rfl, hx, kb, hp⟩
    have hl : t.length + 1 = s.size := by
      have := congrArg List.length ht
      rw [List.length_append, ba_len] at this; simpa using this.symm
    refine ⟨Ps, _, rfl, hx, fun j p hj => ⟨g, rfl, kb.lt, ?_⟩, ?_, fun p hq => ?_, fun hb => ?_⟩
    · rw [kb.cell]; simp [hj]
    · have h1 := congrArg List.length hp
      rw [List.length_map] at h1
      have := splitL_many 10 t
      omega
    · have h1 : p.data.toList ∈ splitL 10 t := by rw [← hp]; exact List.mem_map.2 ⟨p, hq, rfl⟩
      have := splitL_len 10 t _ h1
      rw [ba_len] at this; omega
    · rw [hp]; rw [ht] at r; exact r.impl hb
  · have h' : ∀ t, s.data.toList ≠ t ++ [10] := fun t e => h ⟨t, e⟩
    have hb := r.noend h'
    by_cases h0 : s.data.toList = []
    · right
      obtain rfl := ba_of h0
      refine (linesOf_0 w).mono ?_
      rintro e w' ⟨rfl, hx⟩
      exact ⟨[], none, rfl, hx, fun j p hj => by simp at hj, by simp, fun p hp => by simp at hp, fun e => by rw [hb] at e; cases e⟩
    · exact .inl ⟨hb, linesOf_no s w hs h0 h'⟩
end Go.Proofs.YtpohhnihgegmfaaDoor

namespace Go.Proofs.YtpohhnihgegmfaaDoor
open Go.RowKit
set_option linter.unusedVariables false
set_option linter.unusedSimpArgs false

theorem three_of {Ps : List ByteArray} (h : Ps.length = 3) : ∃ p0 p1 p2, Ps = [p0, p1, p2] := by
  match Ps, h with
  | [a, b, c], _ => exact ⟨a, b, c, rfl⟩
theorem Parts.le {c : UInt8} {s : ByteArray} {Ps : List ByteArray} (h : Parts c s Ps) : ∀ p, p ∈ Ps → p.size ≤ s.size := fun p hp => by
  have h1 : p.data.toList ∈ splitL c s.data.toList := by rw [← h]; exact List.mem_map.2 ⟨p, hp, rfl⟩
  have := splitL_len c _ _ h1
  rwa [ba_len', ba_len'] at this
theorem dtx_eq (y m d : Int) : dtx y m d = if plD y m d then dtP y m d else [] := by
  rw [dtx]
  cases h : (inB y 0 9999 && (inB m 0 9999 && inB d 0 9999))
  · rw [show plD y m d = false from h]; rfl
  · rw [show plD y m d = true from h]; simp [dtP]
set_option maxRecDepth 100000 in
set_option maxHeartbeats 4000000 in
theorem l16Read_c (s : ByteArray) (w : World) (hs : s.size ≤ 1048576) {y m d : Int} {b : Bool} (r : DR s.data.toList y m d b) :
    Calls Tryd.prog 13 #[.string s] w fun e w' => e = .returned (.tuple #[.agg #[.int .i64 y, .int .i64 m, .int .i64 d], .bool b]) ∧ Ext w w' := by
  have HR := Lib.hid r
  clear r
  have KD := Blk.new w #[.int .i64 0, .int .i64 0, .int .i64 0] 23
  go_enter Tryd.func13, Tryd.ntmps13
  go_wp2_with fail
  refine (l01Split_c s 45 _ hs).mono ?_
  rintro e w1 ⟨Ps, a, cap, rfl, hx1, ho, hp⟩
  have KD1 := KD.ext hx1
  have e1 : Ext w w1 := Ext.trans (by repeat (first | with_reducible exact Ext.refl _ | with_reducible assumption | with_reducible refine Ext.alloc ?_ _ | with_reducible refine Ext.drew ?_ | (with_reducible refine Ext.setAt ?_ _ _ _ ?_; rotate_left; omega) | with_reducible refine Ext.trans ?_ (by assumption) | with_reducible exact Past.bel _ | with_reducible refine Ext.trans ?_ (Past.bel _))) hx1
  have l1 := KD1.lt
  have d0 : w1.cell? ⟨w.heap.size, 0, none⟩ = some (.int .i64 0) := KD1.cell 0
  have d1 : w1.cell? ⟨w.heap.size, 1, none⟩ = some (.int .i64 0) := KD1.cell 1
  have d2 : w1.cell? ⟨w.heap.size, 2, none⟩ = some (.int .i64 0) := KD1.cell 2
  have f0 := KD1.frozen 0
  have f1 := KD1.frozen 1
  have f2 := KD1.frozen 2
  have HKD := Lib.hid KD1
  clear KD KD1
  by_cases h3 : Ps.length = 3
  · obtain ⟨p0, p1, p2, rfl⟩ := three_of h3
    obtain ⟨g, rfl, _, hg, hc⟩ := own_atK ho (by simp)
    have g0 : w1.cell? ⟨g, 0, none⟩ = some (.string p0) := (hc 0 (by simp)).1
    have g1 : w1.cell? ⟨g, 1, none⟩ = some (.string p1) := (hc 1 (by simp)).1
    have g2 : w1.cell? ⟨g, 2, none⟩ = some (.string p2) := (hc 2 (by simp)).1
    have hl : splitL 45 s.data.toList = [p0.data.toList, p1.data.toList, p2.data.toList] := hp.symm
    obtain ⟨x0, b0, r0⟩ := RdR.ex p0.data.toList
    obtain ⟨x1, b1, r1⟩ := RdR.ex p1.data.toList
    obtain ⟨x2, b2, r2⟩ := RdR.ex p2.data.toList
    obtain ⟨hb, hv⟩ := HR.out.three hl r0 r1 r2
    have N0 := Lib.hid (fun W => l01Number_c p0 W (Nat.le_trans (hp.le p0 (by simp)) hs) r0)
    have N1 := Lib.hid (fun W => l01Number_c p1 W (Nat.le_trans (hp.le p1 (by simp)) hs) r1)
    have N2 := Lib.hid (fun W => l01Number_c p2 W (Nat.le_trans (hp.le p2 (by simp)) hs) r2)
    have HB := Lib.hid hb
    have HV := Lib.hid hv
    have HPL := Lib.hid (fun W => l16Plain_c x0 x1 x2 W)
    clear hb hv ho hc hp h3 r0 r1 r2 hl
    go_wp2_with fail
    refine (N0.out _).mono ?_
    rintro e w2 ⟨rfl, hx2⟩
    obtain ⟨wx2, rfl⟩ := Past.of hx2
    go_wp2_with fail
    refine (N1.out _).mono ?_
    rintro e w3 ⟨rfl, hx3⟩
    obtain ⟨wx3, rfl⟩ := Past.of hx3
    go_wp2_with fail
    refine (N2.out _).mono ?_
    rintro e w4 ⟨rfl, hx4⟩
    have e4 : Ext w w4 := Ext.trans (Ext.trans (Ext.trans e1 hx2) hx3) hx4
    have K4 := ((HKD.out.ext hx2).ext hx3).ext hx4
    have l4 := K4.lt
    clear d0 d1 d2 f0 f1 f2 l1 g0 g1 g2
    have d0 : w4.cell? ⟨w.heap.size, 0, none⟩ = some (.int .i64 0) := K4.cell 0
    have d1 : w4.cell? ⟨w.heap.size, 1, none⟩ = some (.int .i64 0) := K4.cell 1
    have d2 : w4.cell? ⟨w.heap.size, 2, none⟩ = some (.int .i64 0) := K4.cell 2
    have f0 := K4.frozen 0
    have f1 := K4.frozen 1
    have f2 := K4.frozen 2
    have HK4 := Lib.hid K4
    clear K4 hx2 hx3 hx4 HKD
    have HPL2 := Lib.hid (show ∀ W, Calls Tryd.prog 31 #[.agg #[.int .i64 x0, .int .i64 x1, .int .i64 x2]] W fun e w' => e = .returned (.bool (plD x0 x1 x2)) ∧ Ext W w' from fun W => HPL.out W)
    clear HPL
    obtain ⟨P, hP⟩ : ∃ P, P = plD x0 x1 x2 := ⟨_, rfl⟩
    rw [← hP] at HPL2 HB
    clear hP
    have hbb := HB.out
    clear HB
    cases b0 <;> cases b1 <;> cases b2
    all_goals
      simp only [Bool.and_true, Bool.and_false, Bool.false_and, Bool.true_and] at hbb
    case true.true.true =>
      go_wp2_with fail
      refine (HPL2.out _).mono ?_
      rintro e w5 ⟨rfl, hx5⟩
      have K5 := (HK4.out.ext (Ext.alloc (Ext.refl _) _)).ext hx5
      have e5 : Ext w w5 := Ext.trans (Ext.alloc e4 _) hx5
      have l5 := K5.lt
      clear d0 d1 d2 f0 f1 f2 l4
      have d0 : w5.cell? ⟨w.heap.size, 0, none⟩ = some (.int .i64 0) := K5.cell 0
      have d1 : w5.cell? ⟨w.heap.size, 1, none⟩ = some (.int .i64 0) := K5.cell 1
      have d2 : w5.cell? ⟨w.heap.size, 2, none⟩ = some (.int .i64 0) := K5.cell 2
      have f0 := K5.frozen 0
      have f1 := K5.frozen 1
      have f2 := K5.frozen 2
      have Q5 := (Blk.new w4 #[.int .i64 x0, .int .i64 x1, .int .i64 x2] 23).ext hx5
      have q0 : w5.cell? ⟨w4.heap.size, 0, none⟩ = some (.int .i64 x0) := Q5.cell 0
      have q1 : w5.cell? ⟨w4.heap.size, 1, none⟩ = some (.int .i64 x1) := Q5.cell 1
      have q2 : w5.cell? ⟨w4.heap.size, 2, none⟩ = some (.int .i64 x2) := Q5.cell 2
      clear K5 HK4 hx5 Q5
      cases P
      · subst hbb
        obtain ⟨⟨rfl, rfl, rfl⟩, -⟩ := HR.out.no rfl
        clear HR HV
        go_wp2_with fail
        refine bodyPost_ret (v := .tuple #[.agg #[.int .i64 0, .int .i64 0, .int .i64 0], .bool false]) (by simp [results, Tryd.results13, go_sem, d0, d1, d2]) rfl ⟨rfl, ?_⟩
        exact Ext.setAt (Ext.setAt (Ext.setAt e5 _ _ _ (Nat.le_refl _)) _ _ _ (Nat.le_refl _)) _ _ _ (Nat.le_refl _)
      · subst hbb
        obtain ⟨rfl, rfl, rfl⟩ := HV.out rfl
        clear HR HV
        go_wp2_with fail
        refine bodyPost_ret (v := .tuple #[.agg #[.int .i64 y, .int .i64 m, .int .i64 d], .bool true]) (by simp [results, Tryd.results13, go_sem, d0, d1, d2]) rfl ⟨rfl, ?_⟩
        exact Ext.setAt (Ext.setAt (Ext.setAt e5 _ _ _ (Nat.le_refl _)) _ _ _ (Nat.le_refl _)) _ _ _ (Nat.le_refl _)
    all_goals
      subst hbb
      obtain ⟨⟨rfl, rfl, rfl⟩, -⟩ := HR.out.no rfl
      clear HV HR HPL2
      go_wp2_with fail
      refine bodyPost_ret (v := .tuple #[.agg #[.int .i64 0, .int .i64 0, .int .i64 0], .bool false]) (by simp [results, Tryd.results13, go_sem, d0, d1, d2, l4]) rfl ⟨rfl, ?_⟩
      first
        | exact Ext.setAt (Ext.setAt (Ext.setAt e4 _ _ _ (Nat.le_refl _)) _ _ _ (Nat.le_refl _)) _ _ _ (Nat.le_refl _)
        | exact Ext.alloc (Ext.setAt (Ext.setAt (Ext.setAt e4 _ _ _ (Nat.le_refl _)) _ _ _ (Nat.le_refl _)) _ _ _ (Nat.le_refl _)) _
  · have hb := HR.out.few (by rw [← hp, List.length_map]; exact h3)
    subst hb
    obtain ⟨⟨rfl, rfl, rfl⟩, -⟩ := HR.out.no rfl
    have z1 : ((Ps.length : Int) != 3) = true := by simp; omega
    clear ho hp
    go_wp2_with fail
    refine bodyPost_ret (v := .tuple #[.agg #[.int .i64 0, .int .i64 0, .int .i64 0], .bool false]) (by simp [results, Tryd.results13, go_sem, d0, d1, d2]) rfl ⟨rfl, ?_⟩
    exact Ext.setAt (Ext.setAt (Ext.setAt e1 _ _ _ (Nat.le_refl _)) _ _ _ (Nat.le_refl _)) _ _ _ (Nat.le_refl _)
theorem ReadDate_c (s : ByteArray) (w : World) (hs : s.size ≤ 1048576) {y m d : Int} {b : Bool} (r : DR s.data.toList y m d b) :
    Calls Tryd.prog 5 #[.string s] w fun e w' => e = .returned (.tuple #[.agg #[.int .i64 y, .int .i64 m, .int .i64 d], .bool b]) ∧ Ext w w' := by
  have HR := Lib.hid (fun W => l16Read_c s W hs r)
  clear r
  have KD := Blk.new w #[.int .i64 0, .int .i64 0, .int .i64 0] 23
  go_enter Tryd.func5, Tryd.ntmps5
  go_wp2_with fail
  refine (HR.out _).mono ?_
  rintro e w1 ⟨rfl, hx1⟩
  have KD1 := KD.ext hx1
  have e1 : Ext w w1 := Ext.trans (by repeat (first | with_reducible exact Ext.refl _ | with_reducible assumption | with_reducible refine Ext.alloc ?_ _ | with_reducible refine Ext.drew ?_ | (with_reducible refine Ext.setAt ?_ _ _ _ ?_; rotate_left; omega) | with_reducible refine Ext.trans ?_ (by assumption) | with_reducible exact Past.bel _ | with_reducible refine Ext.trans ?_ (Past.bel _))) hx1
  have l1 := KD1.lt
  have d0 : w1.cell? ⟨w.heap.size, 0, none⟩ = some (.int .i64 0) := KD1.cell 0
  have d1 : w1.cell? ⟨w.heap.size, 1, none⟩ = some (.int .i64 0) := KD1.cell 1
  have d2 : w1.cell? ⟨w.heap.size, 2, none⟩ = some (.int .i64 0) := KD1.cell 2
  have f0 := KD1.frozen 0
  have f1 := KD1.frozen 1
  have f2 := KD1.frozen 2
  clear KD KD1 hx1
  go_wp2_with fail
  refine bodyPost_ret (v := .tuple #[.agg #[.int .i64 y, .int .i64 m, .int .i64 d], .bool b]) (by simp [results, Tryd.results5, go_sem, d0, d1, d2]) rfl ⟨rfl, ?_⟩
  exact Ext.setAt (Ext.setAt (Ext.setAt e1 _ _ _ (Nat.le_refl _)) _ _ _ (Nat.le_refl _)) _ _ _ (Nat.le_refl _)
end Go.Proofs.YtpohhnihgegmfaaDoor
