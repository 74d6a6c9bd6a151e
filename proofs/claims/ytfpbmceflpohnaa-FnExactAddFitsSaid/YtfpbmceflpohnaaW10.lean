/- The law on AddFits: two statements that draw their order. -/
import Derived.Test.YtfpbmceflpohnaaW5
import Derived.Deep.RegionHeld3
import Derived.Deep.DeepCutAuto
namespace Go.Proofs.Ytfpbmceflpohnaa
open Go.RowKit
set_option linter.unusedVariables false
set_option linter.unusedSimpArgs false

/-- the sum's fields, as numbers -/
def adX (v : Int) (z : Int) : Int := if v = 0 then z else 0
theorem addV_lit (c x y xx xy c' x' y' xx' xy' : Int) : addV c x y xx xy c' x' y' xx' xy' = .agg #[.int .i64 (adX (addCode c x y xx xy c' x' y' xx' xy') (c + c')), .int .i64 (adX (addCode c x y xx xy c' x' y' xx' xy') (x + x')), .int .i64 (adX (addCode c x y xx xy c' x' y' xx' xy') (y + y')), .int .i64 (adX (addCode c x y xx xy c' x' y' xx' xy') (xx + xx')), .int .i64 (adX (addCode c x y xx xy c' x' y' xx' xy') (xy + xy'))] := by
  unfold addV adX; split <;> rfl
set_option maxHeartbeats 2000000 in
theorem walkAddFits (c x y xx xy c' x' y' xx' xy' : Int) (w : World) :
    Calls Try.prog 5 #[.agg #[.int .i64 c, .int .i64 x, .int .i64 y, .int .i64 xx, .int .i64 xy], .agg #[.int .i64 c', .int .i64 x', .int .i64 y', .int .i64 xx', .int .i64 xy']] w fun e w' => e = .returned (.bool true) ∧ Ext w w' := by
  obtain ⟨K, hK⟩ : ∃ K, K = addCode c x y xx xy c' x' y' xx' xy' := ⟨_, rfl⟩
  have hA : ∀ W, Calls Try.prog 25 #[.agg #[.int .i64 c, .int .i64 x, .int .i64 y, .int .i64 xx, .int .i64 xy], .agg #[.int .i64 c', .int .i64 x', .int .i64 y', .int .i64 xx', .int .i64 xy']] W
      fun e w' => e = .returned (.tuple #[.agg #[.int .i64 (adX K (c + c')), .int .i64 (adX K (x + x')), .int .i64 (adX K (y + y')), .int .i64 (adX K (xx + xx')), .int .i64 (adX K (xy + xy'))], .int .i64 K]) ∧ Ext W w' := fun W => by
    rw [hK, ← addV_lit]; exact specAddFits_c _ _ _ _ _ _ _ _ _ _ W
  have HA := Lib.hid hA
  have hI : ∀ W, Calls Try.prog 26 #[.agg #[.int .i64 c, .int .i64 x, .int .i64 y, .int .i64 xx, .int .i64 xy], .agg #[.int .i64 c', .int .i64 x', .int .i64 y', .int .i64 xx', .int .i64 xy']] W
      fun e w' => e = .returned (.tuple #[.agg #[.int .i64 (adX K (c + c')), .int .i64 (adX K (x + x')), .int .i64 (adX K (y + y')), .int .i64 (adX K (xx + xx')), .int .i64 (adX K (xy + xy'))], .int .i64 K]) ∧ Ext W w' := fun W => by
    rw [hK, ← addV_lit]; exact addFits_c _ _ _ _ _ _ _ _ _ _ W
  have HI := Lib.hid hI
  clear hA hI hK
  go_enter Try.func5, Try.ntmps5
  go_upto_region 0 with fail
  go_cut [2, 3] (fun s2 s3 wx => ∃ g0 g1 : Nat, s2 = .pointer (some ⟨g0, 0, none⟩) ∧ s3 = .pointer (some ⟨g1, 0, none⟩) ∧ Ext w wx ∧ g0 < wx.heap.size ∧ g1 < wx.heap.size ∧ wx.cell? ⟨g0, 0, none⟩ = some (.int .i64 c) ∧ wx.cell? ⟨g0, 1, none⟩ = some (.int .i64 x) ∧ wx.cell? ⟨g0, 2, none⟩ = some (.int .i64 y) ∧ wx.cell? ⟨g0, 3, none⟩ = some (.int .i64 xx) ∧ wx.cell? ⟨g0, 4, none⟩ = some (.int .i64 xy) ∧ wx.cell? ⟨g1, 0, none⟩ = some (.int .i64 c') ∧ wx.cell? ⟨g1, 1, none⟩ = some (.int .i64 x') ∧ wx.cell? ⟨g1, 2, none⟩ = some (.int .i64 y') ∧ wx.cell? ⟨g1, 3, none⟩ = some (.int .i64 xx') ∧ wx.cell? ⟨g1, 4, none⟩ = some (.int .i64 xy'))
  case first =>
    go_wp2_with fail
    go_meet
    exact ⟨w.heap.size, w.heap.size + 1, rfl, rfl, (by repeat (first | with_reducible exact Ext.refl _ | with_reducible assumption | with_reducible refine Ext.alloc ?_ _ | with_reducible refine Ext.drew ?_ | (with_reducible refine Ext.setAt ?_ _ _ _ ?_; rotate_left; omega) | with_reducible refine Ext.trans ?_ (by assumption) | with_reducible exact Past.bel _ | with_reducible refine Ext.trans ?_ (Past.bel _))), by simp; omega, by simp, by simp [go_sem]⟩
  case rest =>
    obtain ⟨g0, g1, rfl, rfl, hx0, hg0, hg1, k0, k1, k2, k3, k4, k5, k6, k7, k8, k9⟩ := hcut
    obtain ⟨v0, rfl⟩ : ∃ v0 : World, v0 = wc := ⟨_, rfl⟩
    have SK : ∀ w', Ext v0 w' → (w'.cell? ⟨g0, 0, none⟩ = some (.int .i64 c) ∧ w'.cell? ⟨g0, 1, none⟩ = some (.int .i64 x) ∧ w'.cell? ⟨g0, 2, none⟩ = some (.int .i64 y) ∧ w'.cell? ⟨g0, 3, none⟩ = some (.int .i64 xx) ∧ w'.cell? ⟨g0, 4, none⟩ = some (.int .i64 xy) ∧ w'.cell? ⟨g1, 0, none⟩ = some (.int .i64 c') ∧ w'.cell? ⟨g1, 1, none⟩ = some (.int .i64 x') ∧ w'.cell? ⟨g1, 2, none⟩ = some (.int .i64 y') ∧ w'.cell? ⟨g1, 3, none⟩ = some (.int .i64 xx') ∧ w'.cell? ⟨g1, 4, none⟩ = some (.int .i64 xy')) := fun w' hq => by
      refine ⟨?_, ?_, ?_, ?_, ?_, ?_, ?_, ?_, ?_, ?_⟩ <;> (rw [hq.cell (by assumption)]; assumption)
    have SK' := Lib.hid SK
    clear SK
    go_upto_region 1 with fail
    go_cut [5, 6] (fun s5 s6 wx => ∃ g : Nat, s5 = .pointer (some ⟨g, 0, none⟩) ∧ s6 = .int .i64 K ∧ Ext v0 wx ∧ g < wx.heap.size ∧ wx.cell? ⟨g, 0, none⟩ = some (.int .i64 (adX K (c + c'))) ∧ wx.cell? ⟨g, 1, none⟩ = some (.int .i64 (adX K (x + x'))) ∧ wx.cell? ⟨g, 2, none⟩ = some (.int .i64 (adX K (y + y'))) ∧ wx.cell? ⟨g, 3, none⟩ = some (.int .i64 (adX K (xx + xx'))) ∧ wx.cell? ⟨g, 4, none⟩ = some (.int .i64 (adX K (xy + xy'))))
    case first =>
      go_region_held3 (fun w' => w'.cell? ⟨g0, 0, none⟩ = some (.int .i64 c) ∧ w'.cell? ⟨g0, 1, none⟩ = some (.int .i64 x) ∧ w'.cell? ⟨g0, 2, none⟩ = some (.int .i64 y) ∧ w'.cell? ⟨g0, 3, none⟩ = some (.int .i64 xx) ∧ w'.cell? ⟨g0, 4, none⟩ = some (.int .i64 xy) ∧ w'.cell? ⟨g1, 0, none⟩ = some (.int .i64 c') ∧ w'.cell? ⟨g1, 1, none⟩ = some (.int .i64 x') ∧ w'.cell? ⟨g1, 2, none⟩ = some (.int .i64 y') ∧ w'.cell? ⟨g1, 3, none⟩ = some (.int .i64 xx') ∧ w'.cell? ⟨g1, 4, none⟩ = some (.int .i64 xy')) (exact SK'.out _ (by repeat (first | with_reducible exact Ext.refl _ | with_reducible assumption | with_reducible refine Ext.alloc ?_ _ | with_reducible refine Ext.drew ?_ | (with_reducible refine Ext.setAt ?_ _ _ _ ?_; rotate_left; omega) | with_reducible refine Ext.trans ?_ (by assumption) | with_reducible exact Past.bel _ | with_reducible refine Ext.trans ?_ (Past.bel _)))) (first | (go_at_call 18; ((with_reducible refine (toFit_c _ _ _ _ _ _).mono ?_); rintro e w' ⟨rfl, hx⟩; (first | (obtain ⟨wx, rfl⟩ := Past.again hx) | (obtain ⟨wx, rfl⟩ := Past.ofd hx) | (obtain ⟨wx, rfl⟩ := Past.of hx)); have hz := Past.size wx; (try simp only [World.size_alloc, World.size_drew] at hz))) | (go_at_call 25; ((with_reducible refine (HA.out _).mono ?_); rintro e w' ⟨rfl, hx⟩; (first | (obtain ⟨wx, rfl⟩ := Past.again hx) | (obtain ⟨wx, rfl⟩ := Past.ofd hx) | (obtain ⟨wx, rfl⟩ := Past.of hx)); have hz := Past.size wx; (try simp only [World.size_alloc, World.size_drew] at hz))))
      all_goals (go_wp2_with fail; go_meet; exact ⟨_, rfl, rfl, (by repeat (first | with_reducible exact Ext.refl _ | with_reducible assumption | with_reducible refine Ext.alloc ?_ _ | with_reducible refine Ext.drew ?_ | (with_reducible refine Ext.setAt ?_ _ _ _ ?_; rotate_left; omega) | with_reducible refine Ext.trans ?_ (by assumption) | with_reducible exact Past.bel _ | with_reducible refine Ext.trans ?_ (Past.bel _))), by simp; try omega, by simp [go_sem]⟩)
    case rest =>
      obtain ⟨g2, rfl, rfl, hx1, hg2, r0, r1, r2, r3, r4⟩ := hcut
      obtain ⟨v1, rfl⟩ : ∃ v1 : World, v1 = wc := ⟨_, rfl⟩
      have hxa := hx0.trans hx1
      have hga : g0 < v1.heap.size := Nat.lt_of_lt_of_le hg0 hx1.size
      have hgb : g1 < v1.heap.size := Nat.lt_of_lt_of_le hg1 hx1.size
      clear k0 k1 k2 k3 k4 k5 k6 k7 k8 k9
      obtain ⟨k0, k1, k2, k3, k4, k5, k6, k7, k8, k9⟩ := SK'.out _ hx1
      clear SK' hx1 hx0 hg0 hg1
      clear v0
      have SK : ∀ w', Ext v1 w' → (w'.cell? ⟨g0, 0, none⟩ = some (.int .i64 c) ∧ w'.cell? ⟨g0, 1, none⟩ = some (.int .i64 x) ∧ w'.cell? ⟨g0, 2, none⟩ = some (.int .i64 y) ∧ w'.cell? ⟨g0, 3, none⟩ = some (.int .i64 xx) ∧ w'.cell? ⟨g0, 4, none⟩ = some (.int .i64 xy) ∧ w'.cell? ⟨g1, 0, none⟩ = some (.int .i64 c') ∧ w'.cell? ⟨g1, 1, none⟩ = some (.int .i64 x') ∧ w'.cell? ⟨g1, 2, none⟩ = some (.int .i64 y') ∧ w'.cell? ⟨g1, 3, none⟩ = some (.int .i64 xx') ∧ w'.cell? ⟨g1, 4, none⟩ = some (.int .i64 xy')) := fun w' hq => by
        refine ⟨?_, ?_, ?_, ?_, ?_, ?_, ?_, ?_, ?_, ?_⟩ <;> (rw [hq.cell (by assumption)]; assumption)
      have SK' := Lib.hid SK
      clear SK
      go_upto_region 2 with fail
      go_cut [7, 8] (fun s7 s8 wx => ∃ g : Nat, s7 = .pointer (some ⟨g, 0, none⟩) ∧ s8 = .int .i64 K ∧ Ext v1 wx ∧ g < wx.heap.size ∧ wx.cell? ⟨g, 0, none⟩ = some (.int .i64 (adX K (c + c'))) ∧ wx.cell? ⟨g, 1, none⟩ = some (.int .i64 (adX K (x + x'))) ∧ wx.cell? ⟨g, 2, none⟩ = some (.int .i64 (adX K (y + y'))) ∧ wx.cell? ⟨g, 3, none⟩ = some (.int .i64 (adX K (xx + xx'))) ∧ wx.cell? ⟨g, 4, none⟩ = some (.int .i64 (adX K (xy + xy'))))
      case first =>
        go_region_held3 (fun w' => w'.cell? ⟨g0, 0, none⟩ = some (.int .i64 c) ∧ w'.cell? ⟨g0, 1, none⟩ = some (.int .i64 x) ∧ w'.cell? ⟨g0, 2, none⟩ = some (.int .i64 y) ∧ w'.cell? ⟨g0, 3, none⟩ = some (.int .i64 xx) ∧ w'.cell? ⟨g0, 4, none⟩ = some (.int .i64 xy) ∧ w'.cell? ⟨g1, 0, none⟩ = some (.int .i64 c') ∧ w'.cell? ⟨g1, 1, none⟩ = some (.int .i64 x') ∧ w'.cell? ⟨g1, 2, none⟩ = some (.int .i64 y') ∧ w'.cell? ⟨g1, 3, none⟩ = some (.int .i64 xx') ∧ w'.cell? ⟨g1, 4, none⟩ = some (.int .i64 xy')) (exact SK'.out _ (by repeat (first | with_reducible exact Ext.refl _ | with_reducible assumption | with_reducible refine Ext.alloc ?_ _ | with_reducible refine Ext.drew ?_ | (with_reducible refine Ext.setAt ?_ _ _ _ ?_; rotate_left; omega) | with_reducible refine Ext.trans ?_ (by assumption) | with_reducible exact Past.bel _ | with_reducible refine Ext.trans ?_ (Past.bel _)))) (first | (go_at_call 18; ((with_reducible refine (toFit_c _ _ _ _ _ _).mono ?_); rintro e w' ⟨rfl, hx⟩; (first | (obtain ⟨wx, rfl⟩ := Past.again hx) | (obtain ⟨wx, rfl⟩ := Past.ofd hx) | (obtain ⟨wx, rfl⟩ := Past.of hx)); have hz := Past.size wx; (try simp only [World.size_alloc, World.size_drew] at hz))) | (go_at_call 26; ((with_reducible refine (HI.out _).mono ?_); rintro e w' ⟨rfl, hx⟩; (first | (obtain ⟨wx, rfl⟩ := Past.again hx) | (obtain ⟨wx, rfl⟩ := Past.ofd hx) | (obtain ⟨wx, rfl⟩ := Past.of hx)); have hz := Past.size wx; (try simp only [World.size_alloc, World.size_drew] at hz))))
        all_goals (go_wp2_with fail; go_meet; exact ⟨_, rfl, rfl, (by repeat (first | with_reducible exact Ext.refl _ | with_reducible assumption | with_reducible refine Ext.alloc ?_ _ | with_reducible refine Ext.drew ?_ | (with_reducible refine Ext.setAt ?_ _ _ _ ?_; rotate_left; omega) | with_reducible refine Ext.trans ?_ (by assumption) | with_reducible exact Past.bel _ | with_reducible refine Ext.trans ?_ (Past.bel _))), by simp; try omega, by simp [go_sem]⟩)
      case rest =>
        obtain ⟨g3, rfl, rfl, hx2, hg3, t0, t1, t2, t3, t4⟩ := hcut
        obtain ⟨v2, rfl⟩ : ∃ v2 : World, v2 = wc := ⟨_, rfl⟩
        have u0 : v2.cell? ⟨g2, 0, none⟩ = some (.int .i64 (adX K (c + c'))) := by rw [hx2.cell hg2]; exact r0
        have u1 : v2.cell? ⟨g2, 1, none⟩ = some (.int .i64 (adX K (x + x'))) := by rw [hx2.cell hg2]; exact r1
        have u2 : v2.cell? ⟨g2, 2, none⟩ = some (.int .i64 (adX K (y + y'))) := by rw [hx2.cell hg2]; exact r2
        have u3 : v2.cell? ⟨g2, 3, none⟩ = some (.int .i64 (adX K (xx + xx'))) := by rw [hx2.cell hg2]; exact r3
        have u4 : v2.cell? ⟨g2, 4, none⟩ = some (.int .i64 (adX K (xy + xy'))) := by rw [hx2.cell hg2]; exact r4
        go_wp2_with (go_at_call 27; ((with_reducible refine (eqFit_self _ _ _ _ _ _).mono ?_); rintro e w' ⟨rfl, hx⟩; (first | (obtain ⟨wx, rfl⟩ := Past.again hx) | (obtain ⟨wx, rfl⟩ := Past.ofd hx) | (obtain ⟨wx, rfl⟩ := Past.of hx))))
        go_ret
        exact ⟨rfl, (by repeat (first | with_reducible exact Ext.refl _ | with_reducible assumption | with_reducible refine Ext.alloc ?_ _ | with_reducible refine Ext.drew ?_ | (with_reducible refine Ext.setAt ?_ _ _ _ ?_; rotate_left; omega) | with_reducible refine Ext.trans ?_ (by assumption) | with_reducible exact Past.bel _ | with_reducible refine Ext.trans ?_ (Past.bel _)))⟩
end Go.Proofs.Ytfpbmceflpohnaa
