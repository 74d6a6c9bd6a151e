/- The program's given calendars: the roman ones. Texts of lists of numbers, of faults. What the cards' listed variables give the walks. The law on given calendars: its walk. -/
import Derived.Test.YtppphpnimecgpaaDoorBc
import Derived.Test.YtppphpnimecgpaaDoorRows
import Derived.Test.YtppphpnimecgpaaDoorBa
import Derived.ProofKit
import Derived.LaidMore
import Derived.OpenShut
import Derived.Stop.Joined
import Derived.Lib.LaidTab

namespace Go.Proofs.YtppphpnimecgpaaDoor
open Go.RowKit
set_option linter.unusedVariables false
set_option linter.unusedSimpArgs false

theorem names_at {j : Nat} {q : ByteArray × Int} (h : romT[j]? = some q) : (#[.string ⟨#[106, 97, 110]⟩, .string ⟨#[102, 101, 98]⟩, .string ⟨#[109, 97, 114]⟩, .string ⟨#[97, 112, 114]⟩, .string ⟨#[109, 97, 121]⟩, .string ⟨#[106, 117, 110]⟩, .string ⟨#[106, 117, 108]⟩, .string ⟨#[97, 117, 103]⟩, .string ⟨#[115, 101, 112]⟩, .string ⟨#[111, 99, 116]⟩, .string ⟨#[110, 111, 118]⟩, .string ⟨#[100, 101, 99]⟩] : Array Value)[j]? = some (.string q.1) ∧ (#[.int .i64 31, .int .i64 28, .int .i64 31, .int .i64 30, .int .i64 31, .int .i64 30, .int .i64 31, .int .i64 31, .int .i64 30, .int .i64 31, .int .i64 30, .int .i64 31] : Array Value)[j]? = some (.int .i64 q.2) := by
  have hk : j < 12 := (List.getElem?_eq_some_iff.1 h).1
  obtain rfl | rfl | rfl | rfl | rfl | rfl | rfl | rfl | rfl | rfl | rfl | rfl : j = 0 ∨ j = 1 ∨ j = 2 ∨ j = 3 ∨ j = 4 ∨ j = 5 ∨ j = 6 ∨ j = 7 ∨ j = 8 ∨ j = 9 ∨ j = 10 ∨ j = 11 := by omega
  all_goals (obtain rfl : q = _ := Option.some.inj (h.symm.trans rfl); exact ⟨rfl, rfl⟩)
theorem own_len3 {w : World} {b : Nat} {e : TypeId} {n : Nat} {a : Option Addr} {c : Nat} {xs : List Value} (h : w.ownsRow b e 3 (.slice a n c) n xs) (hn : 0 < n) : b ≤ w.heap.size := by
  obtain ⟨g, hg, h1, h2, _⟩ := own_atK h hn
  omega
set_option maxRecDepth 100000 in
set_option maxHeartbeats 8000000 in
theorem implNamed_gre (w : World) :
    Calls Tryd.prog 19 #[.string greS] w fun e w' => NmR w w' romM gregR 7 0 greS e := by
  rw [greS]
  go_enter Tryd.func19, Tryd.ntmps19
  go_wp2_with fail
  go_loopw [33] (fun i wr => ∃ (j : Nat) (v : Value), j ≤ 12 ∧ i = .int .i64 (j : Int) ∧ Blk wr w.heap.size 42 #[.string ⟨#[]⟩, .slice none 0 0, .slice none 0 0, .int .i64 0] ∧ Blk wr (w.heap.size + 1) 42 #[.string ⟨#[103, 114, 101, 103, 111, 114, 105, 97, 110]⟩, v, .slice none 0 0, .int .i64 7] ∧ Blk wr (w.heap.size + 1 + 1) 9 #[.string ⟨#[106, 97, 110]⟩, .string ⟨#[102, 101, 98]⟩, .string ⟨#[109, 97, 114]⟩, .string ⟨#[97, 112, 114]⟩, .string ⟨#[109, 97, 121]⟩, .string ⟨#[106, 117, 110]⟩, .string ⟨#[106, 117, 108]⟩, .string ⟨#[97, 117, 103]⟩, .string ⟨#[115, 101, 112]⟩, .string ⟨#[111, 99, 116]⟩, .string ⟨#[110, 111, 118]⟩, .string ⟨#[100, 101, 99]⟩] ∧ wr.ownsRow (w.heap.size + 1 + 1 + 1) 63 3 v j (MT (romP j)) ∧ Ext w wr) (fun i _ => 12 - (intOf i).toNat)
  case atStart =>
    have B0 := Blk.new w #[.string ⟨#[]⟩, .slice none 0 0, .slice none 0 0, .int .i64 0] 42
    refine ⟨0, .slice none 0 0, by omega, rfl, B0.ext (by repeat (first | with_reducible exact Ext.refl _ | with_reducible assumption | with_reducible refine Ext.alloc ?_ _ | with_reducible refine Ext.drew ?_ | (with_reducible refine Ext.setAt ?_ _ _ _ ?_; rotate_left; omega) | with_reducible refine Ext.trans ?_ (by assumption) | with_reducible exact Past.bel _ | with_reducible refine Ext.trans ?_ (Past.bel _))), ?_, ?_, by rw [show MT (romP 0) = [] from rfl]; exact World.ownsRow_nil _ _ _ _, (by repeat (first | with_reducible exact Ext.refl _ | with_reducible assumption | with_reducible refine Ext.alloc ?_ _ | with_reducible refine Ext.drew ?_ | (with_reducible refine Ext.setAt ?_ _ _ _ ?_; rotate_left; omega) | with_reducible refine Ext.trans ?_ (by assumption) | with_reducible exact Past.bel _ | with_reducible refine Ext.trans ?_ (Past.bel _)))⟩
    · have B1 := Blk.new (w.alloc (.cells #[.string ⟨#[]⟩, .slice none 0 0, .slice none 0 0, .int .i64 0] 42)) #[.string ⟨#[103, 114, 101, 103, 111, 114, 105, 97, 110]⟩, .slice none 0 0, .slice none 0 0, .int .i64 7] 42
      rw [World.size_alloc] at B1
      exact B1.ext (by repeat (first | with_reducible exact Ext.refl _ | with_reducible assumption | with_reducible refine Ext.alloc ?_ _ | with_reducible refine Ext.drew ?_ | (with_reducible refine Ext.setAt ?_ _ _ _ ?_; rotate_left; omega) | with_reducible refine Ext.trans ?_ (by assumption) | with_reducible exact Past.bel _ | with_reducible refine Ext.trans ?_ (Past.bel _)))
    · have B2 := Blk.new ((w.alloc (.cells #[.string ⟨#[]⟩, .slice none 0 0, .slice none 0 0, .int .i64 0] 42)).alloc (.cells #[.string ⟨#[103, 114, 101, 103, 111, 114, 105, 97, 110]⟩, .slice none 0 0, .slice none 0 0, .int .i64 7] 42)) #[.string ⟨#[106, 97, 110]⟩, .string ⟨#[102, 101, 98]⟩, .string ⟨#[109, 97, 114]⟩, .string ⟨#[97, 112, 114]⟩, .string ⟨#[109, 97, 121]⟩, .string ⟨#[106, 117, 110]⟩, .string ⟨#[106, 117, 108]⟩, .string ⟨#[97, 117, 103]⟩, .string ⟨#[115, 101, 112]⟩, .string ⟨#[111, 99, 116]⟩, .string ⟨#[110, 111, 118]⟩, .string ⟨#[100, 101, 99]⟩] 9
      rw [World.size_alloc, World.size_alloc] at B2
      exact B2
  case round =>
    obtain ⟨j, v, hj, rfl, hk, hjj, hn, ho, hx⟩ := hrel
    have HO := Lib.hid ho
    have HK := Lib.hid hk
    have HJ := Lib.hid hjj
    have HN := Lib.hid hn
    have hsz := hx.size
    have hsz2 := hn.lt
    obtain ⟨k1, k2, k3, k4, k5, k6, k7, k8, k9⟩ := hk.cel
    obtain ⟨j1, j2, j3, j4, j5, j6, j7, j8, j9⟩ := hjj.cel
    clear ho hk hjj hn
    by_cases hlt : j < 12
    · have x1 : (j : Int) < 12 := by omega
      have x0 : (0 : Int) ≤ (j : Int) := by omega
      obtain ⟨q, hq⟩ : ∃ q, romT[j]? = some q := ⟨romT[j]'(by simpa [romT] using hlt), List.getElem?_eq_getElem _⟩
      have n1 := (HN.out.cell j).trans (names_at hq).1
      have n2 := (names_at hq).2
      have HQ := Lib.hid hq
      clear hq
      have n3 : (wr.alloc (.cells #[.int .i64 31, .int .i64 28, .int .i64 31, .int .i64 30, .int .i64 31, .int .i64 30, .int .i64 31, .int .i64 31, .int .i64 30, .int .i64 31, .int .i64 30, .int .i64 31] 2)).cell? ⟨wr.heap.size, j, none⟩ = some (.int .i64 q.2) := ((Blk.new wr #[.int .i64 31, .int .i64 28, .int .i64 31, .int .i64 30, .int .i64 31, .int .i64 30, .int .i64 31, .int .i64 31, .int .i64 30, .int .i64 31, .int .i64 30, .int .i64 31] 2).cell j).trans n2
      go_wp2_with (at_builtin; refine app_month _ _ rfl rfl (w.heap.size + 1 + 1 + 1) _ j (j + 1) (MT (romP j)) q.1 q.2 q.2 _ 1 rfl rfl rfl (own_ext HO.out (by repeat (first | with_reducible exact Ext.refl _ | with_reducible assumption | with_reducible refine Ext.alloc ?_ _ | with_reducible refine Ext.drew ?_ | (with_reducible refine Ext.setAt ?_ _ _ _ ?_; rotate_left; omega) | with_reducible refine Ext.trans ?_ (by assumption) | with_reducible exact Past.bel _ | with_reducible refine Ext.trans ?_ (Past.bel _)))) (two_cells _ _ _ _ _).2 (by omega) (Nat.le_trans (show w.heap.size + 1 + 1 + 1 ≤ wr.heap.size by omega) (Ext.size (w := wr) (by repeat (first | with_reducible exact Ext.refl _ | with_reducible assumption | with_reducible refine Ext.alloc ?_ _ | with_reducible refine Ext.drew ?_ | (with_reducible refine Ext.setAt ?_ _ _ _ ?_; rotate_left; omega) | with_reducible refine Ext.trans ?_ (by assumption) | with_reducible exact Past.bel _ | with_reducible refine Ext.trans ?_ (Past.bel _))))) ?_; intro b6 c6 w6 s6 s7; have K6 := Lib.hid (Blk.grown (HK.out.ext (w' := (wr.alloc _).alloc _) (by repeat (first | with_reducible exact Ext.refl _ | with_reducible assumption | with_reducible refine Ext.alloc ?_ _ | with_reducible refine Ext.drew ?_ | (with_reducible refine Ext.setAt ?_ _ _ _ ?_; rotate_left; omega) | with_reducible refine Ext.trans ?_ (by assumption) | with_reducible exact Past.bel _ | with_reducible refine Ext.trans ?_ (Past.bel _)))) s7 (fun e => by have := (HO.out.lt _ e.symm).1; omega)); have J6 := Lib.hid (Blk.grown (HJ.out.ext (w' := (wr.alloc _).alloc _) (by repeat (first | with_reducible exact Ext.refl _ | with_reducible assumption | with_reducible refine Ext.alloc ?_ _ | with_reducible refine Ext.drew ?_ | (with_reducible refine Ext.setAt ?_ _ _ _ ?_; rotate_left; omega) | with_reducible refine Ext.trans ?_ (by assumption) | with_reducible exact Past.bel _ | with_reducible refine Ext.trans ?_ (Past.bel _)))) s7 (fun e => by have := (HO.out.lt _ e.symm).1; omega)); have N6 := Lib.hid (Blk.grown (HN.out.ext (w' := (wr.alloc _).alloc _) (by repeat (first | with_reducible exact Ext.refl _ | with_reducible assumption | with_reducible refine Ext.alloc ?_ _ | with_reducible refine Ext.drew ?_ | (with_reducible refine Ext.setAt ?_ _ _ _ ?_; rotate_left; omega) | with_reducible refine Ext.trans ?_ (by assumption) | with_reducible exact Past.bel _ | with_reducible refine Ext.trans ?_ (Past.bel _)))) s7 (fun e => by have := (HO.out.lt _ e.symm).1; omega)); clear k1 k2 k3 k4 k5 k6 k7 k8 k9 j1 j2 j3 j4 j5 j6 j7 j8 j9; obtain ⟨k1, k2, k3, k4, k5, k6, k7, k8, k9⟩ := K6.out.cel; obtain ⟨j1, j2, j3, j4, j5, j6, j7, j8, j9⟩ := J6.out.cel; have S6 := Lib.hid s6; have S7 := Lib.hid s7; clear s6 s7)
      have e6 : Ext w w6 := by
        refine Ext.grown ?_ S7.out (fun q hq => by have := (HO.out.lt q hq).1; omega)
        ((repeat (first | with_reducible exact Ext.refl _ | with_reducible assumption | with_reducible refine Ext.alloc ?_ _ | with_reducible refine Ext.drew ?_ | (with_reducible refine Ext.setAt ?_ _ _ _ ?_; rotate_left; omega) | with_reducible refine Ext.trans ?_ (by assumption) | with_reducible exact Past.bel _ | with_reducible refine Ext.trans ?_ (Past.bel _))); done)
      have e1 : MT (romP (j + 1)) = MT (romP j) ++ MT [(q.1, q.2, q.2)] := by
        rw [romP, List.take_add_one, HQ.out, List.map_append, MT_app]; rfl
      exact ⟨⟨j + 1, .slice b6 (j + 1) c6, by omega, by go_num, K6.out.other _ _ _ (by omega), J6.out.set 1 _, N6.out.other _ _ _ (by omega), own_low (by rw [e1]; exact S6.out) (by omega) _ _, Ext.setAt e6 _ _ _ (by omega)⟩, by simp [intOf]; omega⟩
    · have x1 : ¬ (j : Int) < 12 := by omega
      obtain rfl : j = 12 := by omega
      obtain ⟨b, c6, rfl⟩ := own_form HO.out
      obtain ⟨g, rfl, hb1, hb2, hc⟩ := own_atK HO.out (by omega)
      obtain ⟨z1, z2⟩ := hc 5 (by omega)
      have z3 : wr.cell? ⟨g, 5, none⟩ = some (.int .i64 28) := z1
      clear hc z1
      go_upto_region 19 with fail
      have O7 := own_set (j := 5) HO.out (.int .i64 29)
      rw [rom_set] at O7
      have J7 := HJ.out.other g 5 (.int .i64 29) (by omega)
      have K7 := HK.out.other g 5 (.int .i64 29) (by omega)
      have e7 := Ext.setAt hx g 5 (.int .i64 29) (by omega)
      clear k1 k2 k3 k4 k5 k6 k7 k8 k9 j1 j2 j3 j4 j5 j6 j7 j8 j9 z2 z3
      generalize hX : wr.setCell ⟨g, 5, none⟩ (.int .i64 29) = X at J7 K7 O7 e7 ⊢
      generalize hG : (some ⟨g, 0, none⟩ : Option Addr) = b6 at O7 J7 ⊢
      have zB0 : ∀ X : World, Ext w X → X.ownsRow (w.heap.size + 1 + 1 + 1) 63 3 (.slice b6 12 c6) 12 (MT romM) → w.heap.size + 1 + 1 + 1 ≤ X.heap.size := fun X _ h => own_len3 h (by omega)
      have zX := Nat.le_refl X.heap.size
      have zB : w.heap.size + 1 + 1 + 1 ≤ X.heap.size := zB0 X e7 O7
      obtain ⟨j1, j2, j3, j4, j5, j6, j7, j8, j9⟩ := J7.cel
      obtain ⟨k1, k2, k3, k4, k5, k6, k7, k8, k9⟩ := K7.cel
      have J8 : Blk ((X.setCell ⟨w.heap.size + 1, 2, none⟩ (.slice (some ⟨X.heap.size, 0, none⟩) 1 1)).alloc (.cells #[.int .i64 4, .int .i64 0, .bool true] 67)) (w.heap.size + 1) 42 #[.string ⟨#[103, 114, 101, 103, 111, 114, 105, 97, 110]⟩, .slice b6 12 c6, .slice (some ⟨X.heap.size, 0, none⟩) 1 1, .int .i64 7] := Blk.ext (J7.set 2 _) ((Ext.refl _).alloc _)
      have K8 := Blk.ext (K7.other (w.heap.size + 1) 2 (.slice (some ⟨X.heap.size, 0, none⟩) 1 1) (by omega)) ((Ext.refl _).alloc (.cells #[.int .i64 4, .int .i64 0, .bool true] 67))
      have O8 := own_ext (own_low O7 (show w.heap.size + 1 < w.heap.size + 1 + 1 + 1 by omega) 2 (.slice (some ⟨X.heap.size, 0, none⟩) 1 1)) ((Ext.refl _).alloc (.cells #[.int .i64 4, .int .i64 0, .bool true] 67))
      have R8 := own_litg (w := X.setCell ⟨w.heap.size + 1, 2, none⟩ (.slice (some ⟨X.heap.size, 0, none⟩) 1 1)) (base := X.heap.size) (g := X.heap.size) (e := 67) (size := 3) (n := 1) #[.int .i64 4, .int .i64 0, .bool true] (RT julR) rfl rfl (by decide) (by simp) (by simp)
      have e8 := (Ext.setAt e7 (w.heap.size + 1) 2 (.slice (some ⟨X.heap.size, 0, none⟩) 1 1) (by omega)).alloc (.cells #[.int .i64 4, .int .i64 0, .bool true] 67)
      have zY0 : ((X.setCell ⟨w.heap.size + 1, 2, none⟩ (.slice (some ⟨X.heap.size, 0, none⟩) 1 1)).alloc (.cells #[.int .i64 4, .int .i64 0, .bool true] 67)).heap.size = X.heap.size + 1 := by simp
      have LT8 := Lib.hid (fun k hk => (O7.lt k hk).2)
      clear J7 K7 O7 e7
      go_upto_region 21 with fail
      generalize hY : (X.setCell ⟨w.heap.size + 1, 2, none⟩ (.slice (some ⟨X.heap.size, 0, none⟩) 1 1)).alloc (.cells #[.int .i64 4, .int .i64 0, .bool true] 67) = Y at J8 K8 O8 R8 e8 zY0 ⊢
      clear j1 j2 j3 j4 j5 j6 j7 j8 j9 k1 k2 k3 k4 k5 k6 k7 k8 k9
      obtain ⟨j1, j2, j3, j4, j5, j6, j7, j8, j9⟩ := J8.cel
      obtain ⟨k1, k2, k3, k4, k5, k6, k7, k8, k9⟩ := K8.cel
      have ZY := Lib.hid zY0
      have HR8 := Lib.hid R8
      have HJ8 := Lib.hid J8
      have HK8 := Lib.hid K8
      have HO8 := Lib.hid O8
      clear R8 J8 K8 O8 zY0
      go_wp2_with (at_builtin; refine app_rules _ _ rfl rfl X.heap.size _ 1 2 3 (RT julR) [.int .i64 100, .int .i64 0, .bool false, .int .i64 400, .int .i64 0, .bool true] _ 2 rfl (by omega) rfl rfl (own_ext HR8.out (by repeat (first | with_reducible exact Ext.refl _ | with_reducible assumption | with_reducible refine Ext.alloc ?_ _ | with_reducible refine Ext.drew ?_ | (with_reducible refine Ext.setAt ?_ _ _ _ ?_; rotate_left; omega) | with_reducible refine Ext.trans ?_ (by assumption) | with_reducible exact Past.bel _ | with_reducible refine Ext.trans ?_ (Past.bel _)))) (Blk.new _ _ _) rfl (by intro u hu; simp only [List.mem_cons, List.not_mem_nil, or_false] at hu; rcases hu with rfl | rfl | rfl | rfl | rfl | rfl <;> rfl) (by omega) (Nat.le_trans (by have := ZY.out; omega) (Ext.size (w := Y) (by repeat (first | with_reducible exact Ext.refl _ | with_reducible assumption | with_reducible refine Ext.alloc ?_ _ | with_reducible refine Ext.drew ?_ | (with_reducible refine Ext.setAt ?_ _ _ _ ?_; rotate_left; omega) | with_reducible refine Ext.trans ?_ (by assumption) | with_reducible exact Past.bel _ | with_reducible refine Ext.trans ?_ (Past.bel _))))) ?_; intro b9 c9 w9 s6 s7; have J9 := (Blk.grown (HJ8.out.ext (w' := Y.alloc _) (by repeat (first | with_reducible exact Ext.refl _ | with_reducible assumption | with_reducible refine Ext.alloc ?_ _ | with_reducible refine Ext.drew ?_ | (with_reducible refine Ext.setAt ?_ _ _ _ ?_; rotate_left; omega) | with_reducible refine Ext.trans ?_ (by assumption) | with_reducible exact Past.bel _ | with_reducible refine Ext.trans ?_ (Past.bel _)))) s7 (fun e => by have := (HR8.out.lt _ e.symm).1; omega)).cel; have K9 := (Blk.grown (HK8.out.ext (w' := Y.alloc _) (by repeat (first | with_reducible exact Ext.refl _ | with_reducible assumption | with_reducible refine Ext.alloc ?_ _ | with_reducible refine Ext.drew ?_ | (with_reducible refine Ext.setAt ?_ _ _ _ ?_; rotate_left; omega) | with_reducible refine Ext.trans ?_ (by assumption) | with_reducible exact Past.bel _ | with_reducible refine Ext.trans ?_ (Past.bel _)))) s7 (fun e => by have := (HR8.out.lt _ e.symm).1; omega)).cel; clear j1 j2 j3 j4 j5 j6 j7 j8 j9 k1 k2 k3 k4 k5 k6 k7 k8 k9; obtain ⟨k1, k2, k3, k4, k5, k6, k7, k8, k9⟩ := K9; obtain ⟨j1, j2, j3, j4, j5, j6, j7, j8, j9⟩ := J9; have S9 := Lib.hid s6; have T9 := Lib.hid s7; clear s6 s7)
      have e9 : Ext w w9 := by
        refine Ext.grown ?_ T9.out (fun q hq => by have := (HR8.out.lt q hq).1; omega)
        ((repeat (first | with_reducible exact Ext.refl _ | with_reducible assumption | with_reducible refine Ext.alloc ?_ _ | with_reducible refine Ext.drew ?_ | (with_reducible refine Ext.setAt ?_ _ _ _ ?_; rotate_left; omega) | with_reducible refine Ext.trans ?_ (by assumption) | with_reducible exact Past.bel _ | with_reducible refine Ext.trans ?_ (Past.bel _))); done)
      have O9 : w9.ownsRow (w.heap.size + 1 + 1 + 1) 63 3 (.slice b6 12 c6) 12 (MT romM) := (own_ext (w' := Y.alloc _) HO8.out (by repeat (first | with_reducible exact Ext.refl _ | with_reducible assumption | with_reducible refine Ext.alloc ?_ _ | with_reducible refine Ext.drew ?_ | (with_reducible refine Ext.setAt ?_ _ _ _ ?_; rotate_left; omega) | with_reducible refine Ext.trans ?_ (by assumption) | with_reducible exact Past.bel _ | with_reducible refine Ext.trans ?_ (Past.bel _)))).kept T9.out (by
        cases hv : (Value.slice b6 12 c6).ownBlock with
        | none => exact .inl rfl
        | some k => exact .inr fun e => by have := LT8.out k hv; have := (HR8.out.lt _ e.symm).1; omega)
      have S9' : w9.ownsRow X.heap.size 67 3 (.slice b9 3 c9) 3 (RT gregR) := S9.out
      refine bodyPost_ret (v := .tuple #[.agg #[.string ⟨#[103, 114, 101, 103, 111, 114, 105, 97, 110]⟩, .slice b6 12 c6, .slice b9 3 c9, .int .i64 7], .int .i64 0]) (by simp [results, Tryd.results19, go_sem, k2, k3, k4, k5]) rfl ?_
      exact NmR.mk4 rfl rfl (Ext.setAt e9 _ _ _ (by omega)) (own_base (own_low O9 (by omega) _ _) (by omega)) (own_base (own_low S9' (by omega) _ _) (by omega)) (apart_of O9 S9' LT8.out) _ _ _ _
set_option maxRecDepth 100000 in
set_option maxHeartbeats 8000000 in
theorem implNamed_jul (w : World) :
    Calls Tryd.prog 19 #[.string julS] w fun e w' => NmR w w' romM julR 7 0 julS e := by
  rw [julS]
  go_enter Tryd.func19, Tryd.ntmps19
  go_wp2_with fail
  go_loopw [33] (fun i wr => ∃ (j : Nat) (v : Value), j ≤ 12 ∧ i = .int .i64 (j : Int) ∧ Blk wr w.heap.size 42 #[.string ⟨#[]⟩, .slice none 0 0, .slice none 0 0, .int .i64 0] ∧ Blk wr (w.heap.size + 1) 42 #[.string ⟨#[106, 117, 108, 105, 97, 110]⟩, v, .slice none 0 0, .int .i64 7] ∧ Blk wr (w.heap.size + 1 + 1) 9 #[.string ⟨#[106, 97, 110]⟩, .string ⟨#[102, 101, 98]⟩, .string ⟨#[109, 97, 114]⟩, .string ⟨#[97, 112, 114]⟩, .string ⟨#[109, 97, 121]⟩, .string ⟨#[106, 117, 110]⟩, .string ⟨#[106, 117, 108]⟩, .string ⟨#[97, 117, 103]⟩, .string ⟨#[115, 101, 112]⟩, .string ⟨#[111, 99, 116]⟩, .string ⟨#[110, 111, 118]⟩, .string ⟨#[100, 101, 99]⟩] ∧ wr.ownsRow (w.heap.size + 1 + 1 + 1) 63 3 v j (MT (romP j)) ∧ Ext w wr) (fun i _ => 12 - (intOf i).toNat)
  case atStart =>
    have B0 := Blk.new w #[.string ⟨#[]⟩, .slice none 0 0, .slice none 0 0, .int .i64 0] 42
    refine ⟨0, .slice none 0 0, by omega, rfl, B0.ext (by repeat (first | with_reducible exact Ext.refl _ | with_reducible assumption | with_reducible refine Ext.alloc ?_ _ | with_reducible refine Ext.drew ?_ | (with_reducible refine Ext.setAt ?_ _ _ _ ?_; rotate_left; omega) | with_reducible refine Ext.trans ?_ (by assumption) | with_reducible exact Past.bel _ | with_reducible refine Ext.trans ?_ (Past.bel _))), ?_, ?_, by rw [show MT (romP 0) = [] from rfl]; exact World.ownsRow_nil _ _ _ _, (by repeat (first | with_reducible exact Ext.refl _ | with_reducible assumption | with_reducible refine Ext.alloc ?_ _ | with_reducible refine Ext.drew ?_ | (with_reducible refine Ext.setAt ?_ _ _ _ ?_; rotate_left; omega) | with_reducible refine Ext.trans ?_ (by assumption) | with_reducible exact Past.bel _ | with_reducible refine Ext.trans ?_ (Past.bel _)))⟩
    · have B1 := Blk.new (w.alloc (.cells #[.string ⟨#[]⟩, .slice none 0 0, .slice none 0 0, .int .i64 0] 42)) #[.string ⟨#[106, 117, 108, 105, 97, 110]⟩, .slice none 0 0, .slice none 0 0, .int .i64 7] 42
      rw [World.size_alloc] at B1
      exact B1.ext (by repeat (first | with_reducible exact Ext.refl _ | with_reducible assumption | with_reducible refine Ext.alloc ?_ _ | with_reducible refine Ext.drew ?_ | (with_reducible refine Ext.setAt ?_ _ _ _ ?_; rotate_left; omega) | with_reducible refine Ext.trans ?_ (by assumption) | with_reducible exact Past.bel _ | with_reducible refine Ext.trans ?_ (Past.bel _)))
    · have B2 := Blk.new ((w.alloc (.cells #[.string ⟨#[]⟩, .slice none 0 0, .slice none 0 0, .int .i64 0] 42)).alloc (.cells #[.string ⟨#[106, 117, 108, 105, 97, 110]⟩, .slice none 0 0, .slice none 0 0, .int .i64 7] 42)) #[.string ⟨#[106, 97, 110]⟩, .string ⟨#[102, 101, 98]⟩, .string ⟨#[109, 97, 114]⟩, .string ⟨#[97, 112, 114]⟩, .string ⟨#[109, 97, 121]⟩, .string ⟨#[106, 117, 110]⟩, .string ⟨#[106, 117, 108]⟩, .string ⟨#[97, 117, 103]⟩, .string ⟨#[115, 101, 112]⟩, .string ⟨#[111, 99, 116]⟩, .string ⟨#[110, 111, 118]⟩, .string ⟨#[100, 101, 99]⟩] 9
      rw [World.size_alloc, World.size_alloc] at B2
      exact B2
  case round =>
    obtain ⟨j, v, hj, rfl, hk, hjj, hn, ho, hx⟩ := hrel
    have HO := Lib.hid ho
    have HK := Lib.hid hk
    have HJ := Lib.hid hjj
    have HN := Lib.hid hn
    have hsz := hx.size
    have hsz2 := hn.lt
    obtain ⟨k1, k2, k3, k4, k5, k6, k7, k8, k9⟩ := hk.cel
    obtain ⟨j1, j2, j3, j4, j5, j6, j7, j8, j9⟩ := hjj.cel
    clear ho hk hjj hn
    by_cases hlt : j < 12
    · have x1 : (j : Int) < 12 := by omega
      have x0 : (0 : Int) ≤ (j : Int) := by omega
      obtain ⟨q, hq⟩ : ∃ q, romT[j]? = some q := ⟨romT[j]'(by simpa [romT] using hlt), List.getElem?_eq_getElem _⟩
      have n1 := (HN.out.cell j).trans (names_at hq).1
      have n2 := (names_at hq).2
      have HQ := Lib.hid hq
      clear hq
      have n3 : (wr.alloc (.cells #[.int .i64 31, .int .i64 28, .int .i64 31, .int .i64 30, .int .i64 31, .int .i64 30, .int .i64 31, .int .i64 31, .int .i64 30, .int .i64 31, .int .i64 30, .int .i64 31] 2)).cell? ⟨wr.heap.size, j, none⟩ = some (.int .i64 q.2) := ((Blk.new wr #[.int .i64 31, .int .i64 28, .int .i64 31, .int .i64 30, .int .i64 31, .int .i64 30, .int .i64 31, .int .i64 31, .int .i64 30, .int .i64 31, .int .i64 30, .int .i64 31] 2).cell j).trans n2
      go_wp2_with (at_builtin; refine app_month _ _ rfl rfl (w.heap.size + 1 + 1 + 1) _ j (j + 1) (MT (romP j)) q.1 q.2 q.2 _ 1 rfl rfl rfl (own_ext HO.out (by repeat (first | with_reducible exact Ext.refl _ | with_reducible assumption | with_reducible refine Ext.alloc ?_ _ | with_reducible refine Ext.drew ?_ | (with_reducible refine Ext.setAt ?_ _ _ _ ?_; rotate_left; omega) | with_reducible refine Ext.trans ?_ (by assumption) | with_reducible exact Past.bel _ | with_reducible refine Ext.trans ?_ (Past.bel _)))) (two_cells _ _ _ _ _).2 (by omega) (Nat.le_trans (show w.heap.size + 1 + 1 + 1 ≤ wr.heap.size by omega) (Ext.size (w := wr) (by repeat (first | with_reducible exact Ext.refl _ | with_reducible assumption | with_reducible refine Ext.alloc ?_ _ | with_reducible refine Ext.drew ?_ | (with_reducible refine Ext.setAt ?_ _ _ _ ?_; rotate_left; omega) | with_reducible refine Ext.trans ?_ (by assumption) | with_reducible exact Past.bel _ | with_reducible refine Ext.trans ?_ (Past.bel _))))) ?_; intro b6 c6 w6 s6 s7; have K6 := Lib.hid (Blk.grown (HK.out.ext (w' := (wr.alloc _).alloc _) (by repeat (first | with_reducible exact Ext.refl _ | with_reducible assumption | with_reducible refine Ext.alloc ?_ _ | with_reducible refine Ext.drew ?_ | (with_reducible refine Ext.setAt ?_ _ _ _ ?_; rotate_left; omega) | with_reducible refine Ext.trans ?_ (by assumption) | with_reducible exact Past.bel _ | with_reducible refine Ext.trans ?_ (Past.bel _)))) s7 (fun e => by have := (HO.out.lt _ e.symm).1; omega)); have J6 := Lib.hid (Blk.grown (HJ.out.ext (w' := (wr.alloc _).alloc _) (by repeat (first | with_reducible exact Ext.refl _ | with_reducible assumption | with_reducible refine Ext.alloc ?_ _ | with_reducible refine Ext.drew ?_ | (with_reducible refine Ext.setAt ?_ _ _ _ ?_; rotate_left; omega) | with_reducible refine Ext.trans ?_ (by assumption) | with_reducible exact Past.bel _ | with_reducible refine Ext.trans ?_ (Past.bel _)))) s7 (fun e => by have := (HO.out.lt _ e.symm).1; omega)); have N6 := Lib.hid (Blk.grown (HN.out.ext (w' := (wr.alloc _).alloc _) (by repeat (first | with_reducible exact Ext.refl _ | with_reducible assumption | with_reducible refine Ext.alloc ?_ _ | with_reducible refine Ext.drew ?_ | (with_reducible refine Ext.setAt ?_ _ _ _ ?_; rotate_left; omega) | with_reducible refine Ext.trans ?_ (by assumption) | with_reducible exact Past.bel _ | with_reducible refine Ext.trans ?_ (Past.bel _)))) s7 (fun e => by have := (HO.out.lt _ e.symm).1; omega)); clear k1 k2 k3 k4 k5 k6 k7 k8 k9 j1 j2 j3 j4 j5 j6 j7 j8 j9; obtain ⟨k1, k2, k3, k4, k5, k6, k7, k8, k9⟩ := K6.out.cel; obtain ⟨j1, j2, j3, j4, j5, j6, j7, j8, j9⟩ := J6.out.cel; have S6 := Lib.hid s6; have S7 := Lib.hid s7; clear s6 s7)
      have e6 : Ext w w6 := by
        refine Ext.grown ?_ S7.out (fun q hq => by have := (HO.out.lt q hq).1; omega)
        ((repeat (first | with_reducible exact Ext.refl _ | with_reducible assumption | with_reducible refine Ext.alloc ?_ _ | with_reducible refine Ext.drew ?_ | (with_reducible refine Ext.setAt ?_ _ _ _ ?_; rotate_left; omega) | with_reducible refine Ext.trans ?_ (by assumption) | with_reducible exact Past.bel _ | with_reducible refine Ext.trans ?_ (Past.bel _))); done)
      have e1 : MT (romP (j + 1)) = MT (romP j) ++ MT [(q.1, q.2, q.2)] := by
        rw [romP, List.take_add_one, HQ.out, List.map_append, MT_app]; rfl
      exact ⟨⟨j + 1, .slice b6 (j + 1) c6, by omega, by go_num, K6.out.other _ _ _ (by omega), J6.out.set 1 _, N6.out.other _ _ _ (by omega), own_low (by rw [e1]; exact S6.out) (by omega) _ _, Ext.setAt e6 _ _ _ (by omega)⟩, by simp [intOf]; omega⟩
    · have x1 : ¬ (j : Int) < 12 := by omega
      obtain rfl : j = 12 := by omega
      obtain ⟨b, c6, rfl⟩ := own_form HO.out
      obtain ⟨g, rfl, hb1, hb2, hc⟩ := own_atK HO.out (by omega)
      obtain ⟨z1, z2⟩ := hc 5 (by omega)
      have z3 : wr.cell? ⟨g, 5, none⟩ = some (.int .i64 28) := z1
      clear hc z1
      go_upto_region 19 with fail
      have O7 := own_set (j := 5) HO.out (.int .i64 29)
      rw [rom_set] at O7
      have J7 := HJ.out.other g 5 (.int .i64 29) (by omega)
      have K7 := HK.out.other g 5 (.int .i64 29) (by omega)
      have e7 := Ext.setAt hx g 5 (.int .i64 29) (by omega)
      clear k1 k2 k3 k4 k5 k6 k7 k8 k9 j1 j2 j3 j4 j5 j6 j7 j8 j9 z2 z3
      generalize hX : wr.setCell ⟨g, 5, none⟩ (.int .i64 29) = X at J7 K7 O7 e7 ⊢
      generalize hG : (some ⟨g, 0, none⟩ : Option Addr) = b6 at O7 J7 ⊢
      have zB0 : ∀ X : World, Ext w X → X.ownsRow (w.heap.size + 1 + 1 + 1) 63 3 (.slice b6 12 c6) 12 (MT romM) → w.heap.size + 1 + 1 + 1 ≤ X.heap.size := fun X _ h => own_len3 h (by omega)
      have zX := Nat.le_refl X.heap.size
      have zB : w.heap.size + 1 + 1 + 1 ≤ X.heap.size := zB0 X e7 O7
      obtain ⟨j1, j2, j3, j4, j5, j6, j7, j8, j9⟩ := J7.cel
      obtain ⟨k1, k2, k3, k4, k5, k6, k7, k8, k9⟩ := K7.cel
      have J8 : Blk ((X.setCell ⟨w.heap.size + 1, 2, none⟩ (.slice (some ⟨X.heap.size, 0, none⟩) 1 1)).alloc (.cells #[.int .i64 4, .int .i64 0, .bool true] 67)) (w.heap.size + 1) 42 #[.string ⟨#[106, 117, 108, 105, 97, 110]⟩, .slice b6 12 c6, .slice (some ⟨X.heap.size, 0, none⟩) 1 1, .int .i64 7] := Blk.ext (J7.set 2 _) ((Ext.refl _).alloc _)
      have K8 := Blk.ext (K7.other (w.heap.size + 1) 2 (.slice (some ⟨X.heap.size, 0, none⟩) 1 1) (by omega)) ((Ext.refl _).alloc (.cells #[.int .i64 4, .int .i64 0, .bool true] 67))
      have O8 := own_ext (own_low O7 (show w.heap.size + 1 < w.heap.size + 1 + 1 + 1 by omega) 2 (.slice (some ⟨X.heap.size, 0, none⟩) 1 1)) ((Ext.refl _).alloc (.cells #[.int .i64 4, .int .i64 0, .bool true] 67))
      have R8 := own_litg (w := X.setCell ⟨w.heap.size + 1, 2, none⟩ (.slice (some ⟨X.heap.size, 0, none⟩) 1 1)) (base := X.heap.size) (g := X.heap.size) (e := 67) (size := 3) (n := 1) #[.int .i64 4, .int .i64 0, .bool true] (RT julR) rfl rfl (by decide) (by simp) (by simp)
      have e8 := (Ext.setAt e7 (w.heap.size + 1) 2 (.slice (some ⟨X.heap.size, 0, none⟩) 1 1) (by omega)).alloc (.cells #[.int .i64 4, .int .i64 0, .bool true] 67)
      have zY0 : ((X.setCell ⟨w.heap.size + 1, 2, none⟩ (.slice (some ⟨X.heap.size, 0, none⟩) 1 1)).alloc (.cells #[.int .i64 4, .int .i64 0, .bool true] 67)).heap.size = X.heap.size + 1 := by simp
      have LT8 := Lib.hid (fun k hk => (O7.lt k hk).2)
      clear J7 K7 O7 e7
      go_upto_region 20 with fail
      generalize hY : (X.setCell ⟨w.heap.size + 1, 2, none⟩ (.slice (some ⟨X.heap.size, 0, none⟩) 1 1)).alloc (.cells #[.int .i64 4, .int .i64 0, .bool true] 67) = Y at J8 K8 O8 R8 e8 zY0 ⊢
      clear j1 j2 j3 j4 j5 j6 j7 j8 j9 k1 k2 k3 k4 k5 k6 k7 k8 k9
      obtain ⟨j1, j2, j3, j4, j5, j6, j7, j8, j9⟩ := J8.cel
      obtain ⟨k1, k2, k3, k4, k5, k6, k7, k8, k9⟩ := K8.cel
      go_wp2_with fail
      refine bodyPost_ret (v := .tuple #[.agg #[.string ⟨#[106, 117, 108, 105, 97, 110]⟩, .slice b6 12 c6, .slice (some ⟨X.heap.size, 0, none⟩) 1 1, .int .i64 7], .int .i64 0]) (by simp [results, Tryd.results19, go_sem, k2, k3, k4, k5]) rfl ?_
      exact NmR.mk4 rfl rfl e8 (own_base O8 (by omega)) (own_base R8 (by omega)) (apart_of O8 R8 LT8.out) _ _ _ _
set_option maxRecDepth 100000 in
set_option maxHeartbeats 4000000 in
theorem implNamed_no (s : ByteArray) (w : World) (h1 : s ≠ egyS) (h2 : s ≠ fixS) (h3 : s ≠ greS) (h4 : s ≠ julS) :
    Calls Tryd.prog 19 #[.string s] w fun e w' => NmR w w' [] [] 0 3 ⟨#[]⟩ e := by
  have x1 := str_ne (l := [101, 103, 121, 112, 116, 105, 97, 110]) h1
  have x2 := str_ne (l := [102, 105, 120, 101, 100]) h2
  have x3 := str_ne (l := [103, 114, 101, 103, 111, 114, 105, 97, 110]) h3
  have x4 := str_ne (l := [106, 117, 108, 105, 97, 110]) h4
  clear h1 h2 h3 h4
  go_enter Tryd.func19, Tryd.ntmps19
  go_wp2_with fail
  refine bodyPost_ret (v := .tuple #[.agg #[.string ⟨#[]⟩, .slice none 0 0, .slice none 0 0, .int .i64 0], .int .i64 3]) (by simp [results, Tryd.results19, go_sem]) rfl ⟨none, 0, none, 0, rfl, ?_, World.ownsRow_nil _ _ _ _, World.ownsRow_nil _ _ _ _, .inl rfl, .inl rfl⟩
  ((repeat (first | with_reducible exact Ext.refl _ | with_reducible assumption | with_reducible refine Ext.alloc ?_ _ | with_reducible refine Ext.drew ?_ | (with_reducible refine Ext.setAt ?_ _ _ _ ?_; rotate_left; omega) | with_reducible refine Ext.trans ?_ (by assumption) | with_reducible exact Past.bel _ | with_reducible refine Ext.trans ?_ (Past.bel _))); done)
end Go.Proofs.YtppphpnimecgpaaDoor

namespace Go.Proofs.YtppphpnimecgpaaDoor
open Go.RowKit
set_option linter.unusedVariables false
set_option linter.unusedSimpArgs false

theorem itoa_len (n : Int) (h0 : -9223372036854775808 ≤ n) (h1 : n ≤ 9223372036854775807) : (Lib.itoa n).length ≤ 20 := by
  by_cases h : n = 0
  · rw [h, itoa_zero]; decide
  · by_cases hn : n < 0
    · obtain ⟨u, hu⟩ : ∃ u : Nat, n = -(u : Int) := ⟨n.natAbs, by omega⟩
      rw [hu, itoa_neg (by omega)]
      have := digs_len 19 u (by omega)
      simp; omega
    · obtain ⟨u, hu⟩ : ∃ u : Nat, n = (u : Int) := ⟨n.natAbs, by omega⟩
      rw [hu, itoa_pos (by omega)]
      have := digs_len 19 u (by omega)
      omega
/-- numbers with a blank between -/
def txt (f : Nat → Int) : Nat → List UInt8
  | 0 => []
  | j + 1 => (if j = 0 then [] else txt f j ++ [32]) ++ Lib.itoa (f j)
theorem txt_len {f : Nat → Int} {n : Nat} (h : ∀ j, j < n → -9223372036854775808 ≤ f j ∧ f j ≤ 9223372036854775807) : (txt f n).length ≤ 21 * n := by
  induction n with
  | zero => simp [txt]
  | succ n ih =>
    have h1 := ih (fun j hj => h j (by omega))
    have h2 := itoa_len (f n) (h n (by omega)).1 (h n (by omega)).2
    rw [txt]
    split
    · simp; omega
    · simp; omega
theorem txt_app (f : Nat → Int) {j : Nat} (h : 0 < j) : txt f (j + 1) = txt f j ++ [32] ++ Lib.itoa (f j) := by rw [txt, if_neg (by omega)]
theorem txt_one (f : Nat → Int) : txt f 1 = Lib.itoa (f 0) := by rw [txt, if_pos rfl]; rfl
set_option maxRecDepth 100000 in
set_option maxHeartbeats 2000000 in
theorem l17Text_c (a : Option Addr) (n c : Nat) (f : Nat → Int) (w : World) (hn : n ≤ 1048576) (hs : S1 w a n f) (hf : ∀ j, j < n → -9223372036854775808 ≤ f j ∧ f j ≤ 9223372036854775807) :
    Calls Tryd.prog 33 #[.slice a n c] w fun e w' => e = .returned (.string ⟨(txt f n).toArray⟩) ∧ Ext w w' := by
  have HS := Lib.hid hs
  have HF := Lib.hid hf
  clear hs hf
  go_enter Tryd.func33, Tryd.ntmps33
  go_wp2_with fail
  go_loopw [3, 4] (fun v3 v4 wr => ∃ (j : Nat) (L : List UInt8), j ≤ n ∧ v3 = .string ⟨L.toArray⟩ ∧ v4 = .int .i64 j ∧ L = txt f j ∧ Ext w wr) (fun _ v4 _ => n - (intOf v4).toNat)
  case atStart => exact ⟨0, [], by omega, rfl, rfl, rfl, Ext.refl _⟩
  case round =>
    obtain ⟨j, L, hj, rfl, rfl, hL, hx⟩ := hrel
    have x0 : (0 : Int) ≤ (j : Int) := by omega
    have hlen : L.length ≤ 22020096 := by rw [hL]; have := txt_len (f := f) (n := j) (fun i hi => HF.out i (by omega)); omega
    have HL := Lib.hid hL
    clear hL
    by_cases hlt : j < n
    · have x1 : (j : Int) < (n : Int) := by omega
      obtain ⟨b1, o1, rfl, hb1, q1⟩ := (HS.out.ext hx).at hlt
      obtain ⟨f0, f1⟩ := HF.out j hlt
      obtain ⟨A, hA⟩ : ∃ A, A = Lib.itoa (f j) := ⟨_, rfl⟩
      have hAl : A.length ≤ 20 := by rw [hA]; exact itoa_len _ f0 f1
      have HD := Lib.hid (fun (W : World) => (show Calls Tryd.prog 57 #[.int .i64 (f j)] W (fun e w' => e = .returned (.string ⟨A.toArray⟩) ∧ Ext W w') from by rw [hA]; exact l01Dec_c (f j) W f0 f1))
      have HA := Lib.hid hA
      clear hA
      by_cases hj0 : j = 0
      · subst hj0
        rw [Nat.add_zero] at q1
        go_wp2_with (go_at_call 57; ((with_reducible refine (HD.out _).mono ?_); rintro e w' ⟨rfl, hx⟩; (first | (obtain ⟨wx, rfl⟩ := Past.again hx) | (obtain ⟨wx, rfl⟩ := Past.ofd hx) | (obtain ⟨wx, rfl⟩ := Past.of hx))))
        exact ⟨⟨1, A, by omega, by (have e := HL.out; rw [txt] at e; subst e; exact congrArg Value.string (ba_app [] A)), by go_num, by rw [txt_one]; exact HA.out, (by repeat (first | with_reducible exact Ext.refl _ | with_reducible assumption | with_reducible refine Ext.alloc ?_ _ | with_reducible refine Ext.drew ?_ | (with_reducible refine Ext.setAt ?_ _ _ _ ?_; rotate_left; omega) | with_reducible refine Ext.trans ?_ (by assumption) | with_reducible exact Past.bel _ | with_reducible refine Ext.trans ?_ (Past.bel _)))⟩, by simp [intOf]; omega⟩
      · have hj1 : (0 : Int) < (j : Int) := by omega
        go_wp2_with (go_at_call 57; ((with_reducible refine (HD.out _).mono ?_); rintro e w' ⟨rfl, hx⟩; (first | (obtain ⟨wx, rfl⟩ := Past.again hx) | (obtain ⟨wx, rfl⟩ := Past.ofd hx) | (obtain ⟨wx, rfl⟩ := Past.of hx))))
        exact ⟨⟨j + 1, L ++ [32] ++ A, by omega, by rw [← ba_app, ← ba_app], by go_num, by rw [txt_app f (by omega), HL.out, HA.out], (by repeat (first | with_reducible exact Ext.refl _ | with_reducible assumption | with_reducible refine Ext.alloc ?_ _ | with_reducible refine Ext.drew ?_ | (with_reducible refine Ext.setAt ?_ _ _ _ ?_; rotate_left; omega) | with_reducible refine Ext.trans ?_ (by assumption) | with_reducible exact Past.bel _ | with_reducible refine Ext.trans ?_ (Past.bel _)))⟩, by simp [intOf]; omega⟩
    · have x1 : ¬ (j : Int) < (n : Int) := by omega
      obtain rfl : j = n := by omega
      go_wp2_with fail
      go_ret
      exact ⟨by rw [HL.out]; rfl, hx⟩
theorem s1_four {w : World} {g : Nat} {T : TypeId} {a b c d : Int} (h : Blk w g T #[.int .i64 a, .int .i64 b, .int .i64 c, .int .i64 d]) (z : Nat → Int) (z0 : z 0 = a) (z1 : z 1 = b) (z2 : z 2 = c) (z3 : z 3 = d) : S1 w (some ⟨g, 0, none⟩) 4 z := fun _ =>
  ⟨g, 0, rfl, h.lt, fun j hj => by
    rw [Nat.zero_add, h.cell]
    (obtain rfl | rfl | rfl | rfl : j = 0 ∨ j = 1 ∨ j = 2 ∨ j = 3 := by omega) <;> simp [z0, z1, z2, z3]⟩
theorem two_new' (w : World) (T U : TypeId) (c1 c2 : Array Value) : Blk ((w.alloc (.cells c1 T)).alloc (.cells c2 U)) (w.heap.size + 1) U c2 := by
  have := Blk.new (w.alloc (.cells c1 T)) c2 U
  rwa [World.size_alloc] at this
/-- a fault's text -/
def ft (a b c d : Int) : List UInt8 := Lib.itoa a ++ [32] ++ Lib.itoa b ++ [32] ++ Lib.itoa c ++ [32] ++ Lib.itoa d
structure B64 (n : Int) : Prop where
  lo : -9223372036854775808 ≤ n
  hi : n ≤ 9223372036854775807
set_option maxRecDepth 100000 in
set_option maxHeartbeats 2000000 in
theorem specFaultText_c (a b c d : Int) (w : World) (ha : B64 a) (hb : B64 b) (hc : B64 c) (hd : B64 d) :
    Calls Tryd.prog 8 #[.agg #[.int .i64 a, .int .i64 b, .int .i64 c, .int .i64 d]] w fun e w' => e = .returned (.string ⟨(ft a b c d).toArray⟩) ∧ Ext w w' := by
  obtain ⟨z, z0, z1, z2, z3⟩ : ∃ z : Nat → Int, z 0 = a ∧ z 1 = b ∧ z 2 = c ∧ z 3 = d := ⟨(fun j => if j = 0 then a else if j = 1 then b else if j = 2 then c else d), rfl, rfl, rfl, rfl⟩
  have e4 : txt z 4 = ft a b c d := by
    rw [txt_app z (by decide), txt_app z (by decide), txt_app z (by decide), txt_one, z0, z1, z2, z3]; rfl
  have HZ := Lib.hid (And.intro z0 (And.intro z1 (And.intro z2 (And.intro z3 e4))))
  have HL := Lib.hid (fun (j : Nat) (hj : j < 4) => (show -9223372036854775808 ≤ z j ∧ z j ≤ 9223372036854775807 from by
    (obtain rfl | rfl | rfl | rfl : j = 0 ∨ j = 1 ∨ j = 2 ∨ j = 3 := by omega)
    · rw [z0]; exact ⟨ha.lo, ha.hi⟩
    · rw [z1]; exact ⟨hb.lo, hb.hi⟩
    · rw [z2]; exact ⟨hc.lo, hc.hi⟩
    · rw [z3]; exact ⟨hd.lo, hd.hi⟩))
  clear z0 z1 z2 z3 e4
  have HT := Lib.hid (fun (W : World) => (show Calls Tryd.prog 27 #[.agg #[.int .i64 a, .int .i64 b, .int .i64 c, .int .i64 d]] W (fun e w' => e = .returned (.string ⟨(ft a b c d).toArray⟩) ∧ Ext W w') from by
    go_enter Tryd.func27, Tryd.ntmps27
    go_wp2_with fail
    refine (l17Text_c (some ⟨W.heap.size + 1, 0, none⟩) 4 4 z ((W.alloc (.cells #[.int .i64 a, .int .i64 b, .int .i64 c, .int .i64 d] 25)).alloc (.cells #[.int .i64 a, .int .i64 b, .int .i64 c, .int .i64 d] 2)) (by omega) (s1_four (two_new' W _ _ _ _) z HZ.out.1 HZ.out.2.1 HZ.out.2.2.1 HZ.out.2.2.2.1) HL.out).mono ?_
    rintro e w' ⟨rfl, hx⟩
    go_wp2_with fail
    go_ret
    exact ⟨by rw [HZ.out.2.2.2.2]; rfl, Ext.trans (by repeat (first | with_reducible exact Ext.refl _ | with_reducible assumption | with_reducible refine Ext.alloc ?_ _ | with_reducible refine Ext.drew ?_ | (with_reducible refine Ext.setAt ?_ _ _ _ ?_; rotate_left; omega) | with_reducible refine Ext.trans ?_ (by assumption) | with_reducible exact Past.bel _ | with_reducible refine Ext.trans ?_ (Past.bel _))) hx⟩))
  go_enter Tryd.func8, Tryd.ntmps8
  go_wp2_with (go_at_call 27; ((with_reducible refine (HT.out _).mono ?_); rintro e w' ⟨rfl, hx⟩; (first | (obtain ⟨wx, rfl⟩ := Past.again hx) | (obtain ⟨wx, rfl⟩ := Past.ofd hx) | (obtain ⟨wx, rfl⟩ := Past.of hx))))
  go_ret
  exact ⟨rfl, (by repeat (first | with_reducible exact Ext.refl _ | with_reducible assumption | with_reducible refine Ext.alloc ?_ _ | with_reducible refine Ext.drew ?_ | (with_reducible refine Ext.setAt ?_ _ _ _ ?_; rotate_left; omega) | with_reducible refine Ext.trans ?_ (by assumption) | with_reducible exact Past.bel _ | with_reducible refine Ext.trans ?_ (Past.bel _)))⟩
set_option maxRecDepth 100000 in
set_option maxHeartbeats 2000000 in
theorem implFaultText_c (a b c d : Int) (w : World) (ht : Tab w) (ha : B64 a) (hb : B64 b) (hc : B64 c) (hd : B64 d) :
    Calls Tryd.prog 10 #[.agg #[.int .i64 a, .int .i64 b, .int .i64 c, .int .i64 d]] w fun e w' => e = .returned (.string ⟨(ft a b c d).toArray⟩) ∧ Ext w w' := by
  obtain ⟨A, hA⟩ : ∃ A, A = Lib.itoa a := ⟨_, rfl⟩
  obtain ⟨B, hB⟩ : ∃ A, A = Lib.itoa b := ⟨_, rfl⟩
  obtain ⟨C, hC⟩ : ∃ A, A = Lib.itoa c := ⟨_, rfl⟩
  obtain ⟨D, hD⟩ : ∃ A, A = Lib.itoa d := ⟨_, rfl⟩
  have la : A.length ≤ 20 := by rw [hA]; exact itoa_len _ ha.lo ha.hi
  have lb : B.length ≤ 20 := by rw [hB]; exact itoa_len _ hb.lo hb.hi
  have lc : C.length ≤ 20 := by rw [hC]; exact itoa_len _ hc.lo hc.hi
  have ld : D.length ≤ 20 := by rw [hD]; exact itoa_len _ hd.lo hd.hi
  have TA := Lib.hid (fun (W : World) (hq : Ext w W) => (show Calls Tryd.prog 28 #[.int .i64 a] W (fun e w' => e = .returned (.string ⟨A.toArray⟩) ∧ Ext W w') from by rw [hA]; exact decimal_c a W ha.lo ha.hi (ht.ext hq)))
  have TB := Lib.hid (fun (W : World) (hq : Ext w W) => (show Calls Tryd.prog 28 #[.int .i64 b] W (fun e w' => e = .returned (.string ⟨B.toArray⟩) ∧ Ext W w') from by rw [hB]; exact decimal_c b W hb.lo hb.hi (ht.ext hq)))
  have TC := Lib.hid (fun (W : World) (hq : Ext w W) => (show Calls Tryd.prog 28 #[.int .i64 c] W (fun e w' => e = .returned (.string ⟨C.toArray⟩) ∧ Ext W w') from by rw [hC]; exact decimal_c c W hc.lo hc.hi (ht.ext hq)))
  have TD := Lib.hid (fun (W : World) (hq : Ext w W) => (show Calls Tryd.prog 28 #[.int .i64 d] W (fun e w' => e = .returned (.string ⟨D.toArray⟩) ∧ Ext W w') from by rw [hD]; exact decimal_c d W hd.lo hd.hi (ht.ext hq)))
  have hft : ft a b c d = A ++ [32] ++ B ++ [32] ++ C ++ [32] ++ D := by rw [hA, hB, hC, hD]; rfl
  have HT := Lib.hid hft
  clear hA hB hC hD hft
  go_enter Tryd.func10, Tryd.ntmps10
  go_wp2_with fail
  refine wp_region_past (by kernel_rfl) (by kernel_rfl) ?_
  repeat (go_big_quiet_step (first | (go_at_call 28; exact Calls.past (TA.out _ (by repeat (first | with_reducible exact Ext.refl _ | with_reducible assumption | with_reducible refine Ext.alloc ?_ _ | with_reducible refine Ext.drew ?_ | (with_reducible refine Ext.setAt ?_ _ _ _ ?_; rotate_left; omega) | with_reducible refine Ext.trans ?_ (by assumption) | with_reducible exact Past.bel _ | with_reducible refine Ext.trans ?_ (Past.bel _))))) | (go_at_call 28; exact Calls.past (TB.out _ (by repeat (first | with_reducible exact Ext.refl _ | with_reducible assumption | with_reducible refine Ext.alloc ?_ _ | with_reducible refine Ext.drew ?_ | (with_reducible refine Ext.setAt ?_ _ _ _ ?_; rotate_left; omega) | with_reducible refine Ext.trans ?_ (by assumption) | with_reducible exact Past.bel _ | with_reducible refine Ext.trans ?_ (Past.bel _))))) | (go_at_call 28; exact Calls.past (TC.out _ (by repeat (first | with_reducible exact Ext.refl _ | with_reducible assumption | with_reducible refine Ext.alloc ?_ _ | with_reducible refine Ext.drew ?_ | (with_reducible refine Ext.setAt ?_ _ _ _ ?_; rotate_left; omega) | with_reducible refine Ext.trans ?_ (by assumption) | with_reducible exact Past.bel _ | with_reducible refine Ext.trans ?_ (Past.bel _))))) | (go_at_call 28; exact Calls.past (TD.out _ (by repeat (first | with_reducible exact Ext.refl _ | with_reducible assumption | with_reducible refine Ext.alloc ?_ _ | with_reducible refine Ext.drew ?_ | (with_reducible refine Ext.setAt ?_ _ _ _ ?_; rotate_left; omega) | with_reducible refine Ext.trans ?_ (by assumption) | with_reducible exact Past.bel _ | with_reducible refine Ext.trans ?_ (Past.bel _)))))))
  refine wpQuiet_nil ?_
  rintro _ ⟨wx, rfl⟩
  go_wp2_with fail
  go_ret
  exact ⟨by rw [HT.out, ← ba_app, ← ba_app, ← ba_app, ← ba_app, ← ba_app, ← ba_app]; rfl, (by repeat (first | with_reducible exact Ext.refl _ | with_reducible assumption | with_reducible refine Ext.alloc ?_ _ | with_reducible refine Ext.drew ?_ | (with_reducible refine Ext.setAt ?_ _ _ _ ?_; rotate_left; omega) | with_reducible refine Ext.trans ?_ (by assumption) | with_reducible exact Past.bel _ | with_reducible refine Ext.trans ?_ (Past.bel _)))⟩
end Go.Proofs.YtppphpnimecgpaaDoor

namespace Go.Proofs.YtppphpnimecgpaaDoor
open Go.ChangeShapes Go.WideShapes Go.ChangeAt Go.WideMaps Go.WideElems Go.RowKit
set_option linter.unusedVariables false

theorem b64 {n : Int} (h : (Lit.int .i64 n).wf = true) : B64 n := ⟨(wf_bd h).1, (wf_bd h).2⟩
def laid3 {H : Type} : List (String × DataW H) := [("math/bits.deBruijn32tab", Rows.laid_math_bits_deBruijn32tab), ("math/bits.deBruijn64tab", Rows.laid_math_bits_deBruijn64tab), ("internal/strconv.uint64pow10", Rows.laid_internal_strconv_uint64pow10)]
theorem door_met (os : Os) (args : Array Value) : laidMetH Tryd.prog laid3 ((World.doorLaid Tryd.prog 24 os).forCall (fun _ _ => 0) ⟨#[], args, []⟩).memory :=
  laidMetH_of_parts3 (fuel := 8) (laidMet_of_run' 8 (by kernel_rfl) (by kernel_rfl)) (by kernel_rfl) (by kernel_rfl)
theorem tab_of {W : World} (h : laidMetH Tryd.prog laid3 W) : Tab W := by
  rw [MakeChecks.laidMetH_plain _ _ _ (by kernel_rfl)] at h
  obtain ⟨ps, ⟨g0, t0, cs0, f0, p0, q0, hg0, ht0, hv0, hd0, ⟨g1, t1, cs1, f1, p1, q1, hg1, ht1, hv1, hd1, ⟨g2, t2, cs2, f2, p2, q2, hg2, ht2, hv2, hd2, _, _⟩, _⟩, _⟩, _, _⟩ := h
  have k1 : Tryd.prog.globalNamed "internal/strconv.uint64pow10" = some 0 := by kernel_rfl
  have k2 : (Tryd.prog.globals[0]?).map (·.type) = some 124 := by kernel_rfl
  obtain rfl := Option.some.inj (k1.symm.trans hg2)
  obtain rfl := Option.some.inj (k2.symm.trans ht2)
  refine Lib.tabBelow_of_tabIs ?_
  unfold Lib.TabIs
  rw [hv2, ← Lib.cells_of_tab (k := .u64) (zs := Lib.pow10Tab) (n := 20) Tryd.underlying124 Tryd.underlying116 (by kernel_rfl) (by kernel_rfl) hd2]
end Go.Proofs.YtppphpnimecgpaaDoor

namespace Go.Proofs.YtppphpnimecgpaaDoor
open Go.ChangeShapes Go.WideShapes Go.ChangeAt Go.RowKit
set_option linter.unusedVariables false
set_option linter.unusedSimpArgs false

theorem open_str {P : Program} {H : Type} {enc : TypeId × Value → H} {w : World} {base : Nat} {spare : Nat → Bool} {held : Bool} {r : Reach} {b0 : Nat} {t : TypeId} {v : Value} {d : DataW H} {p : List MemPlace} (ht : P.underlying t = some .string) (hv : Value.okWide P w r b0 t v) (h : DataW.Trod enc P w base spare held t v d p) :
    ∃ s : ByteArray, v = .string s ∧ s.size ≤ maxLen := by
  obtain ⟨s0, rfl⟩ := okWide_string ht hv
  obtain ⟨fuel, hf⟩ := h
  obtain ⟨s, hs, _, hz⟩ := DataW.trod_string ht hf
  obtain rfl : s0 = s := by simpa [Value.cells] using hs
  exact ⟨s0, rfl, hz⟩
/-- what a name gives: months, rules, week, code, name -/
theorem named_any (s : ByteArray) : ∃ (M : List Mo) (R : List Ru) (wk k : Int) (nm : ByteArray), M.length ≤ 13 ∧ R.length ≤ 3 ∧ (∀ w, Calls Tryd.prog 18 #[.string s] w fun e w' => NmR w w' M R wk k nm e) ∧ (∀ w, Tab w → Calls Tryd.prog 19 #[.string s] w fun e w' => NmR w w' M R wk k nm e) := by
  by_cases h1 : s = egyS
  · subst h1; exact ⟨_, _, _, _, _, by decide, by decide, specNamed_egy, implNamed_egy⟩
  · by_cases h2 : s = fixS
    · subst h2; exact ⟨_, _, _, _, _, by decide, by decide, specNamed_fix, implNamed_fix⟩
    · by_cases h3 : s = greS
      · subst h3; exact ⟨_, _, _, _, _, by decide, by decide, specNamed_gre, fun w _ => implNamed_gre w⟩
      · by_cases h4 : s = julS
        · subst h4; exact ⟨_, _, _, _, _, by decide, by decide, specNamed_jul, fun w _ => implNamed_jul w⟩
        · exact ⟨[], [], 0, 3, ⟨#[]⟩, by decide, by decide, fun w => specNamed_no s w h1 h2 h3 h4, fun w _ => implNamed_no s w h1 h2 h3 h4⟩
set_option maxRecDepth 100000 in
set_option maxHeartbeats 8000000 in
theorem walkCalendarNamed (s : ByteArray) (hs : s.size ≤ maxLen) (w : World) (ht : Tab w) :
    Calls Tryd.prog 6 #[.string s] w fun e w' => e = .returned (.bool true) ∧ Ext w w' := by
  have HT := Lib.hid ht
  clear ht
  have hz : (s.size : Int) ≤ 9223372036854775807 := by unfold maxLen at hs; omega
  clear hs
  by_cases hlong : 1048576 < s.size
  · have x0 : (1048576 : Int) < s.size := by omega
    go_enter Tryd.func6, Tryd.ntmps6
    go_wp2_with fail
    go_ret
    exact ⟨rfl, (by repeat (first | with_reducible exact Ext.refl _ | with_reducible assumption | with_reducible refine Ext.alloc ?_ _ | with_reducible refine Ext.drew ?_ | (with_reducible refine Ext.setAt ?_ _ _ _ ?_; rotate_left; omega) | with_reducible refine Ext.trans ?_ (by assumption) | with_reducible exact Past.bel _ | with_reducible refine Ext.trans ?_ (Past.bel _)))⟩
  · have x0 : ¬ (1048576 : Int) < s.size := by omega
    obtain ⟨M, R, wk, k, nm, hM, hR, hsp, him⟩ := named_any s
    have HSP := Lib.hid hsp
    have HIM := Lib.hid him
    clear hsp him
    go_enter Tryd.func6, Tryd.ntmps6
    go_wp2_with fail
    refine (HSP.out _).mono ?_
    rintro e w1 ⟨a1, c1, a2, c2, rfl, hx1, om1, or1, ap1, aq1⟩
    have OM1 := Lib.hid om1
    have OR1 := Lib.hid or1
    clear om1 or1 ap1 aq1
    go_wp2_with fail
    have B1 := Blk.new w1 #[.string nm, .slice a1 M.length c1, .slice a2 R.length c2, .int .i64 wk] 42
    have e1 : Ext w (w1.alloc (.cells #[.string nm, .slice a1 M.length c1, .slice a2 R.length c2, .int .i64 wk] 42)) := Ext.alloc hx1 _
    have M1 := own_ext OM1.out ((Ext.refl w1).alloc (.cells #[.string nm, .slice a1 M.length c1, .slice a2 R.length c2, .int .i64 wk] 42))
    have R1 := own_ext OR1.out ((Ext.refl w1).alloc (.cells #[.string nm, .slice a1 M.length c1, .slice a2 R.length c2, .int .i64 wk] 42))
    obtain ⟨g1, hg1⟩ : ∃ g, g = w1.heap.size := ⟨_, rfl⟩
    generalize hX : w1.alloc (.cells #[.string nm, .slice a1 M.length c1, .slice a2 R.length c2, .int .i64 wk] 42) = X at B1 e1 M1 R1 ⊢
    rw [← hg1] at B1 ⊢
    clear hX hg1 hx1 OM1 OR1
    refine (HIM.out _ (HT.out.ext e1)).mono ?_
    rintro e w2 ⟨a3, c3, a4, c4, rfl, hx2, om2, or2, ap2, aq2⟩
    have e2 : Ext w w2 := Ext.trans e1 hx2
    have hAl := (Ext.refl w2).alloc (.cells #[.string nm, .slice a3 M.length c3, .slice a4 R.length c4, .int .i64 wk] 42)
    have B1' := Lib.hid ((B1.ext hx2).ext hAl)
    have M1' := Lib.hid (own_ext (own_ext M1 hx2) hAl)
    have R1' := Lib.hid (own_ext (own_ext R1 hx2) hAl)
    have M2 := Lib.hid (own_ext om2 hAl)
    have R2 := Lib.hid (own_ext or2 hAl)
    have B2 := Lib.hid (Blk.new w2 #[.string nm, .slice a3 M.length c3, .slice a4 R.length c4, .int .i64 wk] 42)
    have e3 : Ext w (w2.alloc (.cells #[.string nm, .slice a3 M.length c3, .slice a4 R.length c4, .int .i64 wk] 42)) := Ext.alloc e2 _
    have AP := Lib.hid (And.intro ap2 aq2)
    have HM2 := Lib.hid (fun k hk => (om2.lt k hk).2)
    have HR2 := Lib.hid (fun k hk => (or2.lt k hk).2)
    have lw := Lib.hid (fun k hk => (M1.lt k hk).2)
    have lr := Lib.hid (fun k hk => (R1.lt k hk).2)
    have lb := B1.lt
    have wX := e1.size
    have lz := hx2.size
    obtain ⟨k1, k2, k3, k4, k5, k6, k7, k8, k9⟩ := B1'.out.cel
    obtain ⟨j1, j2, j3, j4, j5, j6, j7, j8, j9⟩ := B2.out.cel
    clear B1 M1 R1 om2 or2 ap2 aq2 e1 hAl hx2
    go_wp2_with fail
    clear k1 k2 k3 k4 k5 k6 k7 k8 k9 j1 j2 j3 j4 j5 j6 j7 j8 j9
    have m2 := Lib.hid (fun k (hk : (Value.slice a3 M.length c3).ownBlock = some k) => (show k < w2.heap.size from by have := HM2.out k hk; exact this))
    have r2 := Lib.hid (fun k (hk : (Value.slice a4 R.length c4).ownBlock = some k) => (show k < w2.heap.size from by have := HR2.out k hk; exact this))
    obtain ⟨g2, hg2⟩ : ∃ g, g = w2.heap.size := ⟨_, rfl⟩
    rw [← hg2] at B2 m2 r2
    rw [← hg2]
    generalize hY : w2.alloc (.cells #[.string nm, .slice a3 M.length c3, .slice a4 R.length c4, .int .i64 wk] 42) = Y at B1' M1' R1' M2 R2 B2 e3 ⊢
    have hXY : X.heap.size ≤ g2 := by omega
    clear hY hg2 lz
    refine (eqCal_own nm wk (by omega) (by omega) M2.out R2.out M1'.out R1'.out).mono ?_
    rintro e w3 ⟨rfl, hx3⟩
    have e4 : Ext w w3 := Ext.trans e3 hx3
    have B1 := Lib.hid (B1'.out.ext hx3)
    have B2' := Lib.hid (B2.out.ext hx3)
    have M1 := Lib.hid (own_ext M1'.out hx3)
    have R1 := Lib.hid (own_ext R1'.out hx3)
    have M2' := Lib.hid (own_ext M2.out hx3)
    have R2' := Lib.hid (own_ext R2.out hx3)
    obtain ⟨k1, k2, k3, k4, k5, k6, k7, k8, k9⟩ := B1.out.cel
    obtain ⟨j1, j2, j3, j4, j5, j6, j7, j8, j9⟩ := B2'.out.cel
    clear B1' B2 M1' R1' M2 R2 e3 hx3
    go_wp2_with fail
    refine (markCal_c a3 a4 M.length R.length c3 c4 _ _ nm wk (MT M) (RT R) _ (by omega) (by omega) M2'.out R2'.out AP.out).mono ?_
    rintro e w4 ⟨rfl, om4, or4, wm, hgm, hgn⟩
    have nm1 : ∀ b, b < X.heap.size → some b ≠ (Value.slice a3 M.length c3).ownBlock := fun b hb e => by have := (M2'.out.lt b e.symm).1; omega
    have nm2 : ∀ b, b < X.heap.size → some b ≠ (Value.slice a4 R.length c4).ownBlock := fun b hb e => by have := (R2'.out.lt b e.symm).1; omega
    have B1' := Lib.hid ((B1.out.grown hgm (nm1 _ lb)).grown hgn (nm2 _ lb))
    have B2 := Lib.hid ((B2'.out.grown hgm (fun e => by have := m2.out _ e.symm; omega)).grown hgn (fun e => by have := r2.out _ e.symm; omega))
    have keep : ∀ {b : Nat} {e : TypeId} {v : Value} {n : Nat} {xs : List Value}, w3.ownsRow b e 3 v n xs → (∀ k, v.ownBlock = some k → k < X.heap.size) → w4.ownsRow b e 3 v n xs := fun {b e v n xs} h hk => by
      refine (h.kept hgm ?_).kept hgn ?_
      · cases hv : v.ownBlock with
        | none => exact .inl rfl
        | some k => exact .inr (nm1 k (hk k hv))
      · cases hv : v.ownBlock with
        | none => exact .inl rfl
        | some k => exact .inr (nm2 k (hk k hv))
    have M1' := Lib.hid (keep M1.out lw.out)
    have R1' := Lib.hid (keep R1.out lr.out)
    have M4 := Lib.hid om4
    have R4 := Lib.hid or4
    have e5 : Ext w w4 := Ext.grown (Ext.grown e4 hgm (fun k hk => by have := (M2'.out.lt k hk).1; omega)) hgn (fun k hk => by have := (R2'.out.lt k hk).1; omega)
    obtain ⟨K, hK⟩ : ∃ K, K = 1 + M.length * 3 + R.length * 3 := ⟨_, rfl⟩
    rw [← hK]
    have y0 : ¬ (K : Int) < 0 := by omega
    have HK := Lib.hid hK
    clear k1 k2 k3 k4 k5 k6 k7 k8 k9 j1 j2 j3 j4 j5 j6 j7 j8 j9
    obtain ⟨k1, k2, k3, k4, k5, k6, k7, k8, k9⟩ := B1'.out.cel
    obtain ⟨j1, j2, j3, j4, j5, j6, j7, j8, j9⟩ := B2.out.cel
    clear B1 B2' M1 R1 M2' R2' keep nm1 nm2 hgm hgn om4 or4 e4 hK
    go_wp2_with fail
    have HH := Lib.hid (fun W (hq : Ext w4 W) => (HK.out ▸ heldCal_c a3 a4 M.length R.length c3 c4 _ _ nm wk (MT M) (RT R) W (by omega) (by omega) (MT_len M) (RT_len R) (own_ext M4.out hq) (own_ext R4.out hq) : Calls Tryd.prog 22 #[.agg #[.string nm, .slice a3 M.length c3, .slice a4 R.length c4, .int .i64 wk], .int .i64 1] W fun e w' => e = .returned (.int .i64 (K : Int)) ∧ Ext W w'))
    refine (HH.out _ (Ext.refl _)).mono ?_
    rintro e w5 ⟨rfl, hx5⟩
    have e6 : Ext w w5 := Ext.trans e5 hx5
    have B1 := Lib.hid (B1'.out.ext hx5)
    have B2' := Lib.hid (B2.out.ext hx5)
    have M1 := Lib.hid (own_ext M1'.out hx5)
    have R1 := Lib.hid (own_ext R1'.out hx5)
    clear k1 k2 k3 k4 k5 k6 k7 k8 k9 j1 j2 j3 j4 j5 j6 j7 j8 j9
    obtain ⟨k1, k2, k3, k4, k5, k6, k7, k8, k9⟩ := B1.out.cel
    obtain ⟨j1, j2, j3, j4, j5, j6, j7, j8, j9⟩ := B2'.out.cel
    clear B1' B2 M1' R1' e5
    go_wp2_with fail
    refine (HIM.out _ (HT.out.ext e6)).mono ?_
    rintro e w6 ⟨a5, c5, a6, c6, rfl, hx6, om6, or6, -, -⟩
    have hAl := (Ext.refl w6).alloc (.cells #[.string nm, .slice a5 M.length c5, .slice a6 R.length c6, .int .i64 wk] 42)
    have hx7 := Ext.trans hx6 hAl
    have B1' := Lib.hid (B1.out.ext hx7)
    have B2 := Lib.hid (B2'.out.ext hx7)
    have M1' := Lib.hid (own_ext M1.out hx7)
    have R1' := Lib.hid (own_ext R1.out hx7)
    have M6 := Lib.hid (own_ext om6 hAl)
    have R6 := Lib.hid (own_ext or6 hAl)
    have B3 := Lib.hid (Blk.new w6 #[.string nm, .slice a5 M.length c5, .slice a6 R.length c6, .int .i64 wk] 42)
    have e7 : Ext w (w6.alloc (.cells #[.string nm, .slice a5 M.length c5, .slice a6 R.length c6, .int .i64 wk] 42)) := Ext.trans e6 hx7
    have x7 : Ext w4 (w6.alloc (.cells #[.string nm, .slice a5 M.length c5, .slice a6 R.length c6, .int .i64 wk] 42)) := Ext.trans hx5 hx7
    have lt6 := Nat.lt_of_lt_of_le B1.out.lt hx6.size
    have lt7 := Nat.lt_of_lt_of_le B2'.out.lt hx6.size
    clear k1 k2 k3 k4 k5 k6 k7 k8 k9 j1 j2 j3 j4 j5 j6 j7 j8 j9
    obtain ⟨k1, k2, k3, k4, k5, k6, k7, k8, k9⟩ := B1'.out.cel
    obtain ⟨j1, j2, j3, j4, j5, j6, j7, j8, j9⟩ := B2.out.cel
    obtain ⟨l1, l2, l3, l4, l5, l6, l7, l8, l9⟩ := B3.out.cel
    clear B1 B2' M1 R1 om6 or6 hAl hx7 e6 hx5 hx6
    go_wp2_with fail
    generalize hZ : w6.alloc (.cells #[.string nm, .slice a5 M.length c5, .slice a6 R.length c6, .int .i64 wk] 42) = Z at B1' M1' R1' M6 R6 B2 e7 x7 ⊢
    clear hZ k1 k2 k3 k4 k5 k6 k7 k8 k9 j1 j2 j3 j4 j5 j6 j7 j8 j9 l1 l2 l3 l4 l5 l6 l7 l8 l9
    refine (eqCal_own nm wk (by omega) (by omega) M6.out R6.out M1'.out R1'.out).mono ?_
    rintro e w8 ⟨rfl, hx8⟩
    have e8 : Ext w w8 := Ext.trans e7 hx8
    have x8 : Ext w4 w8 := Ext.trans x7 hx8
    have B2' := Lib.hid (B2.out.ext hx8)
    obtain ⟨j1, j2, j3, j4, j5, j6, j7, j8, j9⟩ := B2'.out.cel
    clear B1' M1' R1' M6 R6 B2 e7 x7 hx8
    go_wp2_with fail
    refine (HH.out _ x8).mono ?_
    rintro e w9 ⟨rfl, hx9⟩
    have e9 : Ext w w9 := Ext.trans e8 hx9
    go_wp2_with fail
    go_ret
    exact ⟨rfl, e9⟩
end Go.Proofs.YtppphpnimecgpaaDoor
