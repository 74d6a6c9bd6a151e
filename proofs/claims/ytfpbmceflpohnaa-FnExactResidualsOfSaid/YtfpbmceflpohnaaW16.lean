/- Residuals of readings: the reference's. -/
import Derived.Test.YtfpbmceflpohnaaW14
import Derived.Test.YtfpbmceflpohnaaW5
import Derived.Test.YtfpbmceflpohnaaPlain11
import Derived.Test.YtfpbmceflpohnaaMem3
import Derived.Deep.DeepCutAuto
namespace Go.Proofs.Ytfpbmceflpohnaa
open Go.RowKit
set_option linter.unusedVariables false
set_option linter.unusedSimpArgs false

def resFn (n : Nat) (h o : Nat → Int) (j : Nat) : Int := IntKind.i64.wrap (o j - lineAt n h o j)
def resRes (n : Nat) (h o : Nat → Int) : List Int := if resCode n h o = 0 then outs (resFn n h o) n else []
theorem resRes_len (n : Nat) (h o : Nat → Int) : (resRes n h o).length ≤ n := by
  unfold resRes; split
  · rw [outs_len]; omega
  · simp
set_option maxHeartbeats 2000000 in
theorem specResidualsOf_c (a : Option Addr) (n c : Nat) (f o : Nat → Int) (w : World) (hn : n ≤ 1048576) (hs : S2 w a n f o) :
    Calls Try.prog 44 #[.slice a n c] w fun e w' => ∃ b cap, e = .returned (.tuple #[.slice b (resRes n f o).length cap, .int .i64 (resCode n f o)]) ∧ Ext w w' ∧
      w'.ownsRow w.heap.size 2 1 (.slice b (resRes n f o).length cap) (resRes n f o).length ((resRes n f o).map (Value.int .i64)) := by
  have HS := Lib.hid hs
  clear hs
  by_cases hv : rdV n f o = true
  · have HV := Lib.hid hv
    have r := rb_of hv
    have R := Lib.hid r
    have h60 := r.n60
    clear r
    obtain ⟨i0, hi, hz0, hz1, hz2⟩ := info_parts info_i64
    obtain ⟨X, hX⟩ : ∃ X, X = sm f n := ⟨_, rfl⟩
    obtain ⟨Y, hY⟩ : ∃ Y, Y = sm o n := ⟨_, rfl⟩
    obtain ⟨XX, hXX⟩ : ∃ XX, XX = sXX f n := ⟨_, rfl⟩
    obtain ⟨XY, hXY⟩ : ∃ XY, XY = sXY f o n := ⟨_, rfl⟩
    obtain ⟨C, hC⟩ : ∃ C, C = resCode n f o := ⟨_, rfl⟩
    have hf : ∀ W, S2 W a n f o → Calls Try.prog 69 #[.slice a n c] W fun e w' => e = .returned (.agg #[.int .i64 n, .int .i64 X, .int .i64 Y, .int .i64 XX, .int .i64 XY]) ∧ Ext W w' := fun W hs => by
      rw [hX, hY, hXX, hXY]; exact l14Fit_c _ _ _ _ _ W hv hs
    have HF := Lib.hid hf
    have hcd : ∀ W, Calls Try.prog 61 #[.agg #[.int .i64 n, .int .i64 X, .int .i64 Y, .int .i64 XX, .int .i64 XY]] W fun e w' => e = .returned (.int .i64 C) ∧ Ext W w' := fun W => by
      rw [hX, hY, hXX, hXY, hC, ← resCode_f hv]; exact l14Code_c _ _ _ _ _ W
    have HCD := Lib.hid hcd
    have hat : C = 0 → ∀ j, j < n → ∀ W, Calls Try.prog 67 #[.agg #[.int .i64 n, .int .i64 X, .int .i64 Y, .int .i64 XX, .int .i64 XY], .int .i64 (f j)] W fun e w' => e = .returned (.int .i64 (lineAt n f o j)) ∧ Ext W w' := fun h0 j hj W => by
      rw [hX, hY, hXX, hXY]; exact l14At_c _ _ _ _ _ _ (by rw [resCode_f hv, ← hC]; exact h0) (R.out.bh j hj).1 (R.out.bh j hj).2 W
    have HAT := Lib.hid hat
    have HC := Lib.hid hC
    clear hf hcd hat hX hY hXX hXY hC
    by_cases hc0 : C = 0
    · have hHAT := HAT.out hc0
      have HAT' := Lib.hid hHAT
      subst hc0
      clear HAT hHAT
      go_enter Try.func44, Try.ntmps44
      go_upto_region 4 with (first | (go_at_call 58; ((with_reducible refine (l14Ok_c _ _ _ _ _ _ hn (HS.out.ext (by repeat (first | with_reducible exact Ext.refl _ | with_reducible assumption | with_reducible refine Ext.alloc ?_ _ | with_reducible refine Ext.drew ?_ | (with_reducible refine Ext.setAt ?_ _ _ _ ?_; rotate_left; omega) | with_reducible refine Ext.trans ?_ (by assumption) | with_reducible exact Past.bel _ | with_reducible refine Ext.trans ?_ (Past.bel _))))).mono ?_); rintro e w' ⟨rfl, hx⟩; (first | (obtain ⟨wx, rfl⟩ := Past.again hx) | (obtain ⟨wx, rfl⟩ := Past.ofd hx) | (obtain ⟨wx, rfl⟩ := Past.of hx)))) | (go_at_call 69; ((with_reducible refine (HF.out _ (HS.out.ext (by repeat (first | with_reducible exact Ext.refl _ | with_reducible assumption | with_reducible refine Ext.alloc ?_ _ | with_reducible refine Ext.drew ?_ | (with_reducible refine Ext.setAt ?_ _ _ _ ?_; rotate_left; omega) | with_reducible refine Ext.trans ?_ (by assumption) | with_reducible exact Past.bel _ | with_reducible refine Ext.trans ?_ (Past.bel _))))).mono ?_); rintro e w' ⟨rfl, hx⟩; (first | (obtain ⟨wx, rfl⟩ := Past.again hx) | (obtain ⟨wx, rfl⟩ := Past.ofd hx) | (obtain ⟨wx, rfl⟩ := Past.of hx)))))
      go_cut [4, 14] (fun s4 s14 wx => ∃ g : Nat, s4 = .pointer (some ⟨g, 0, none⟩) ∧ s14 = .bool false ∧ Ext w wx ∧ g < wx.heap.size ∧ wx.cell? ⟨g, 0, none⟩ = some (.int .i64 n) ∧ wx.cell? ⟨g, 1, none⟩ = some (.int .i64 X) ∧ wx.cell? ⟨g, 2, none⟩ = some (.int .i64 Y) ∧ wx.cell? ⟨g, 3, none⟩ = some (.int .i64 XX) ∧ wx.cell? ⟨g, 4, none⟩ = some (.int .i64 XY))
      case first =>
        go_wp2_with (go_at_call 61; ((with_reducible refine (HCD.out _).mono ?_); rintro e w' ⟨rfl, hx⟩; (first | (obtain ⟨wx, rfl⟩ := Past.again hx) | (obtain ⟨wx, rfl⟩ := Past.ofd hx) | (obtain ⟨wx, rfl⟩ := Past.of hx)); have hz := Past.size wx; (try simp only [World.size_alloc, World.size_drew] at hz)))
        go_meet
        exact ⟨_, rfl, by simp, (by repeat (first | with_reducible exact Ext.refl _ | with_reducible assumption | with_reducible refine Ext.alloc ?_ _ | with_reducible refine Ext.drew ?_ | (with_reducible refine Ext.setAt ?_ _ _ _ ?_; rotate_left; omega) | with_reducible refine Ext.trans ?_ (by assumption) | with_reducible exact Past.bel _ | with_reducible refine Ext.trans ?_ (Past.bel _))), by (try simp); omega, by simp [go_sem]⟩
      case rest =>
        obtain ⟨g, rfl, rfl, hx0, hg, k0, k1, k2, k3, k4⟩ := hcut
        obtain ⟨v1, rfl⟩ : ∃ v1 : World, v1 = wc := ⟨_, rfl⟩
        have hsv := HS.out.ext hx0
        have HV1 := Lib.hid hsv
        clear hsv
        have FK : ∀ w', Ext v1 w' → (w'.cell? ⟨g, 0, none⟩ = some (.int .i64 n) ∧ w'.cell? ⟨g, 1, none⟩ = some (.int .i64 X) ∧ w'.cell? ⟨g, 2, none⟩ = some (.int .i64 Y) ∧ w'.cell? ⟨g, 3, none⟩ = some (.int .i64 XX) ∧ w'.cell? ⟨g, 4, none⟩ = some (.int .i64 XY)) := fun w' hq => by
          refine ⟨?_, ?_, ?_, ?_, ?_⟩ <;> (rw [hq.cell (by assumption)]; assumption)
        have FK' := Lib.hid FK
        clear FK k0 k1 k2 k3 k4
        go_wp2_with fail
        go_loopw [5, 6] (fun v i wr => ∃ j : Nat, j ≤ n ∧ i = .int .i64 (j : Int) ∧ Ext v1 wr ∧ wr.ownsRow v1.heap.size 2 1 v j ((outs (resFn n f o) j).map (Value.int .i64))) (fun _ i _ => n - (intOf i).toNat)
        case atStart => exact ⟨0, by omega, rfl, (by repeat (first | with_reducible exact Ext.refl _ | with_reducible assumption | with_reducible refine Ext.alloc ?_ _ | with_reducible refine Ext.drew ?_ | (with_reducible refine Ext.setAt ?_ _ _ _ ?_; rotate_left; omega) | with_reducible refine Ext.trans ?_ (by assumption) | with_reducible exact Past.bel _ | with_reducible refine Ext.trans ?_ (Past.bel _))), World.ownsRow_made _ #[] 0 (Ext.size (by repeat (first | with_reducible exact Ext.refl _ | with_reducible assumption | with_reducible refine Ext.alloc ?_ _ | with_reducible refine Ext.drew ?_ | (with_reducible refine Ext.setAt ?_ _ _ _ ?_; rotate_left; omega) | with_reducible refine Ext.trans ?_ (by assumption) | with_reducible exact Past.bel _ | with_reducible refine Ext.trans ?_ (Past.bel _)))) (Nat.zero_le _) rfl⟩
        case round =>
          obtain ⟨j, hj, rfl, hbl, ho⟩ := hrel
          have HO := Lib.hid ho
          clear ho
          by_cases hlt : j < n
          · obtain ⟨b1, o1, rfl, hb1, q3, q4⟩ := HV1.out.at hlt
            have SK : ∀ w', Ext v1 w' → (w'.cell? ⟨g, 0, none⟩ = some (.int .i64 n) ∧ w'.cell? ⟨g, 1, none⟩ = some (.int .i64 X) ∧ w'.cell? ⟨g, 2, none⟩ = some (.int .i64 Y) ∧ w'.cell? ⟨g, 3, none⟩ = some (.int .i64 XX) ∧ w'.cell? ⟨g, 4, none⟩ = some (.int .i64 XY) ∧ w'.cell? ⟨b1, o1 + j * 2, none⟩ = some (.int .i64 (f j)) ∧ w'.cell? ⟨b1, o1 + j * 2 + 1, none⟩ = some (.int .i64 (o j))) := fun w' hq => by
              obtain ⟨k0, k1, k2, k3, k4⟩ := FK'.out _ hq
              refine ⟨k0, k1, k2, k3, k4, ?_, ?_⟩ <;> (rw [hq.cell (by assumption)]; assumption)
            have SK' := Lib.hid SK
            clear SK q3 q4
            have e1 : IntKind.i64.wrap (o j - lineAt n f o j) = resFn n f o j := rfl
            have x2 : (j : Int) < (n : Int) := by omega
            have x4 : (0 : Int) ≤ (j : Int) := by omega
            have c5 := HAT'.out j hlt
            have C5 := Lib.hid c5
            clear c5
            go_wp2_with fail
            go_region_held3 (fun w' => w'.cell? ⟨g, 0, none⟩ = some (.int .i64 n) ∧ w'.cell? ⟨g, 1, none⟩ = some (.int .i64 X) ∧ w'.cell? ⟨g, 2, none⟩ = some (.int .i64 Y) ∧ w'.cell? ⟨g, 3, none⟩ = some (.int .i64 XX) ∧ w'.cell? ⟨g, 4, none⟩ = some (.int .i64 XY) ∧ w'.cell? ⟨b1, o1 + j * 2, none⟩ = some (.int .i64 (f j)) ∧ w'.cell? ⟨b1, o1 + j * 2 + 1, none⟩ = some (.int .i64 (o j))) (exact SK'.out _ (by repeat (first | with_reducible exact Ext.refl _ | with_reducible assumption | with_reducible refine Ext.alloc ?_ _ | with_reducible refine Ext.drew ?_ | (with_reducible refine Ext.setAt ?_ _ _ _ ?_; rotate_left; omega) | with_reducible refine Ext.trans ?_ (by assumption) | with_reducible exact Past.bel _ | with_reducible refine Ext.trans ?_ (Past.bel _)))) (first | (go_at_call 67; ((with_reducible refine (C5.out _).mono ?_); rintro e w' ⟨rfl, hx⟩; (first | (obtain ⟨wx, rfl⟩ := Past.again hx) | (obtain ⟨wx, rfl⟩ := Past.ofd hx) | (obtain ⟨wx, rfl⟩ := Past.of hx)); have hz := Past.size wx; (try simp only [World.size_alloc, World.size_drew] at hz))) | (refine app1s (w0 := v1) 45 2 _ _ (by rfl) (by rfl) Try.underlying45 info_i64 _ (outs (resFn n f o) j) (resFn n f o j) _ (by rfl) (by rfl) (own_ext (outs_own HO.out) (by repeat (first | with_reducible exact Ext.refl _ | with_reducible assumption | with_reducible refine Ext.alloc ?_ _ | with_reducible refine Ext.drew ?_ | (with_reducible refine Ext.setAt ?_ _ _ _ ?_; rotate_left; omega) | with_reducible refine Ext.trans ?_ (by assumption) | with_reducible exact Past.bel _ | with_reducible refine Ext.trans ?_ (Past.bel _)))) (by simp [go_sem]) (by rw [outs_len]; omega) (by repeat (first | with_reducible exact Ext.refl _ | with_reducible assumption | with_reducible refine Ext.alloc ?_ _ | with_reducible refine Ext.drew ?_ | (with_reducible refine Ext.setAt ?_ _ _ _ ?_; rotate_left; omega) | with_reducible refine Ext.trans ?_ (by assumption) | with_reducible exact Past.bel _ | with_reducible refine Ext.trans ?_ (Past.bel _))) ?_; intro v2 w2 ho2 hx2))
            all_goals (go_wp2_with fail; exact ⟨⟨j + 1, by omega, by go_num, hx2, by rw [← outs_step]; simpa [outs_len] using ho2⟩, by simp [intOf]; omega⟩)
          · obtain ⟨b, cap, rfl⟩ := own_form HO.out
            have he : resCode n f o = 0 := HC.out.symm
            have hl : j = n := by omega
            subst hl
            have hr : resRes j f o = outs (resFn j f o) j := by rw [resRes, if_pos he]
            have HE := Lib.hid he
            have HR := Lib.hid hr
            clear he hr
            go_wp2_with fail
            go_ret2
            exact ⟨b, cap, ret_two (by simp [HR.out, outs_len]) (congrArg _ HE.out.symm), (by repeat (first | with_reducible exact Ext.refl _ | with_reducible assumption | with_reducible refine Ext.alloc ?_ _ | with_reducible refine Ext.drew ?_ | (with_reducible refine Ext.setAt ?_ _ _ _ ?_; rotate_left; omega) | with_reducible refine Ext.trans ?_ (by assumption) | with_reducible exact Past.bel _ | with_reducible refine Ext.trans ?_ (Past.bel _))), by rw [HR.out]; exact own_base (by simpa [outs_len] using HO.out) hx0.size⟩
    · go_enter Try.func44, Try.ntmps44
      go_wp2_with (first | (go_at_call 58; ((with_reducible refine (l14Ok_c _ _ _ _ _ _ hn (HS.out.ext (by repeat (first | with_reducible exact Ext.refl _ | with_reducible assumption | with_reducible refine Ext.alloc ?_ _ | with_reducible refine Ext.drew ?_ | (with_reducible refine Ext.setAt ?_ _ _ _ ?_; rotate_left; omega) | with_reducible refine Ext.trans ?_ (by assumption) | with_reducible exact Past.bel _ | with_reducible refine Ext.trans ?_ (Past.bel _))))).mono ?_); rintro e w' ⟨rfl, hx⟩; (first | (obtain ⟨wx, rfl⟩ := Past.again hx) | (obtain ⟨wx, rfl⟩ := Past.ofd hx) | (obtain ⟨wx, rfl⟩ := Past.of hx)))) | (go_at_call 69; ((with_reducible refine (HF.out _ (HS.out.ext (by repeat (first | with_reducible exact Ext.refl _ | with_reducible assumption | with_reducible refine Ext.alloc ?_ _ | with_reducible refine Ext.drew ?_ | (with_reducible refine Ext.setAt ?_ _ _ _ ?_; rotate_left; omega) | with_reducible refine Ext.trans ?_ (by assumption) | with_reducible exact Past.bel _ | with_reducible refine Ext.trans ?_ (Past.bel _))))).mono ?_); rintro e w' ⟨rfl, hx⟩; (first | (obtain ⟨wx, rfl⟩ := Past.again hx) | (obtain ⟨wx, rfl⟩ := Past.ofd hx) | (obtain ⟨wx, rfl⟩ := Past.of hx)))) | (go_at_call 61; ((with_reducible refine (HCD.out _).mono ?_); rintro e w' ⟨rfl, hx⟩; (first | (obtain ⟨wx, rfl⟩ := Past.again hx) | (obtain ⟨wx, rfl⟩ := Past.ofd hx) | (obtain ⟨wx, rfl⟩ := Past.of hx)))))
      go_ret2
      have h1 : resCode n f o ≠ 0 := by rw [← HC.out]; exact hc0
      have he : resCode n f o = 6 := by
        unfold resCode at h1 ⊢
        rw [if_pos hv] at h1 ⊢
        split at h1 <;> simp_all
      have hr : resRes n f o = [] := by rw [resRes, if_neg h1]
      exact ⟨none, 0, ret_two (by rw [hr]; rfl) (congrArg _ he.symm), (by repeat (first | with_reducible exact Ext.refl _ | with_reducible assumption | with_reducible refine Ext.alloc ?_ _ | with_reducible refine Ext.drew ?_ | (with_reducible refine Ext.setAt ?_ _ _ _ ?_; rotate_left; omega) | with_reducible refine Ext.trans ?_ (by assumption) | with_reducible exact Past.bel _ | with_reducible refine Ext.trans ?_ (Past.bel _))), by rw [hr]; exact World.ownsRow_nil _ _ _ _⟩
  · have hf : rdV n f o = false := by simpa using hv
    go_enter Try.func44, Try.ntmps44
    go_wp2_with (first | (go_at_call 58; ((with_reducible refine (l14Ok_c _ _ _ _ _ _ hn (HS.out.ext (by repeat (first | with_reducible exact Ext.refl _ | with_reducible assumption | with_reducible refine Ext.alloc ?_ _ | with_reducible refine Ext.drew ?_ | (with_reducible refine Ext.setAt ?_ _ _ _ ?_; rotate_left; omega) | with_reducible refine Ext.trans ?_ (by assumption) | with_reducible exact Past.bel _ | with_reducible refine Ext.trans ?_ (Past.bel _))))).mono ?_); rintro e w' ⟨rfl, hx⟩; (first | (obtain ⟨wx, rfl⟩ := Past.again hx) | (obtain ⟨wx, rfl⟩ := Past.ofd hx) | (obtain ⟨wx, rfl⟩ := Past.of hx)))))
    go_ret2
    have he : resCode n f o = 1 := by simp [resCode, hf]
    have hr : resRes n f o = [] := by rw [resRes, he]; rfl
    exact ⟨none, 0, ret_two (by rw [hr]; rfl) (congrArg _ he.symm), (by repeat (first | with_reducible exact Ext.refl _ | with_reducible assumption | with_reducible refine Ext.alloc ?_ _ | with_reducible refine Ext.drew ?_ | (with_reducible refine Ext.setAt ?_ _ _ _ ?_; rotate_left; omega) | with_reducible refine Ext.trans ?_ (by assumption) | with_reducible exact Past.bel _ | with_reducible refine Ext.trans ?_ (Past.bel _))), by rw [hr]; exact World.ownsRow_nil _ _ _ _⟩
end Go.Proofs.Ytfpbmceflpohnaa
