/- Names: the program's and the reference's. -/
import Derived.Test.YtaamnmpbkdinpaaCW20
import Derived.Test.YtaamnmpbkdinpaaCPlain8
import Derived.Lib.ConvBytes
import Derived.Lib.UnsafeStr
namespace Go.Proofs.Ytaamnmpbkdinpaa
open Go.RowKit
set_option linter.unusedVariables false
set_option linter.unusedSimpArgs false

open Go.Lib in
theorem ext_bytes (w : World) (e : TypeId) (s : ByteArray) : Ext w (Lib.bytesWorld w e s) :=
  below_freeze ((Below.drew (Below.refl _ w)).alloc (Nat.le_refl _) _) (p := ⟨w.heap.size, _, none⟩) (Nat.le_refl _) 1
set_option maxHeartbeats 2000000 in
theorem implIsName_c (s : ByteArray) (w : World) (hz : s.size ≤ 9223372036854775807) :
    Calls Try.prog 35 #[.string s] w fun e w' => e = .returned (.bool (isNm s)) ∧ Ext w w' := by
  have hz' : (s.size : Int) ≤ 9223372036854775807 := by omega
  by_cases z1 : s.size < 1
  · have y1 : (s.size : Int) < 1 := by omega
    go_enter Try.func35, Try.ntmps35
    go_wp2_with fail
    go_ret
    exact ⟨ret_bool (isNm_0 z1).symm, (by repeat (first | with_reducible exact Ext.refl _ | with_reducible assumption | with_reducible refine Ext.alloc ?_ _ | with_reducible refine Ext.drew ?_ | (with_reducible refine Ext.setAt ?_ _ _ _ ?_; rotate_left; omega) | with_reducible refine Ext.trans ?_ (by assumption) | with_reducible exact Past.bel _ | with_reducible refine Ext.trans ?_ (Past.bel _)))⟩
  · have y1 : ¬ (s.size : Int) < 1 := by omega
    by_cases z2 : 12 < s.size
    · have y2 : (12 : Int) < s.size := by omega
      go_enter Try.func35, Try.ntmps35
      go_wp2_with fail
      go_ret
      exact ⟨ret_bool (isNm_12 z2).symm, (by repeat (first | with_reducible exact Ext.refl _ | with_reducible assumption | with_reducible refine Ext.alloc ?_ _ | with_reducible refine Ext.drew ?_ | (with_reducible refine Ext.setAt ?_ _ _ _ ?_; rotate_left; omega) | with_reducible refine Ext.trans ?_ (by assumption) | with_reducible exact Past.bel _ | with_reducible refine Ext.trans ?_ (Past.bel _)))⟩
    · have y2 : ¬ (12 : Int) < s.size := by omega
      have hcv := Lib.run_convert_string_bytes (P := Try.prog) w 9 83 5 s (u := .string) Try.underlying9 Try.underlying83 Try.underlying5
      have hbw : Ext w (Lib.bytesWorld w 5 s) := ext_bytes w 5 s
      have hcl : ∀ j, j < s.size → (Lib.bytesWorld w 5 s).cell? ⟨w.heap.size, j, none⟩ = some (.int .u8 (btN s j : Nat)) := fun j hj => Lib.bytesWorld_cell w 5 s j hj
      obtain ⟨W1, hW⟩ : ∃ W1, W1 = Lib.bytesWorld w 5 s := ⟨_, rfl⟩
      rw [← hW] at hcv hbw hcl
      have HC := Lib.hid hcl
      clear hcl hW
      go_enter Try.func35, Try.ntmps35
      go_wp2_with fail
      clear hcv
      go_loop [18] (fun i => ∃ j : Nat, j ≤ s.size ∧ i = .int .i64 j ∧ nmTo s j = true) (fun i => s.size - (intOf i).toNat)
      case atStart => exact ⟨0, by omega, rfl, rfl⟩
      case round =>
        obtain ⟨j, hj, rfl, hr⟩ := hrel
        have HR := Lib.hid hr
        clear hr
        by_cases hlt : j < s.size
        · have q1 := HC.out j hlt
          obtain ⟨C, hC⟩ : ∃ C, C = btN s j := ⟨_, rfl⟩
          rw [← hC] at q1
          have HB := Lib.hid hC
          clear hC
          go_wp2_with fail
          all_goals first
            | (go_ret; exact ⟨ret_bool (isNm_ff hlt (by rw [← HB.out]; clear HC q1 hbw HB HR; grind [chN])).symm, (by repeat (first | with_reducible exact Ext.refl _ | with_reducible assumption | with_reducible refine Ext.alloc ?_ _ | with_reducible refine Ext.drew ?_ | (with_reducible refine Ext.setAt ?_ _ _ _ ?_; rotate_left; omega) | with_reducible refine Ext.trans ?_ (by assumption) | with_reducible exact Past.bel _ | with_reducible refine Ext.trans ?_ (Past.bel _)))⟩)
            | (refine ⟨⟨j + 1, by omega, by go_num, ?_⟩, by simp [intOf]; omega⟩; have h2 : chN j C = true := (by clear HC q1 hbw HB HR; grind [chN]); rw [HB.out] at h2; simp only [nmTo, HR.out, h2]; rfl)
        · obtain rfl : j = s.size := by omega
          go_wp2_with fail
          go_ret
          exact ⟨ret_bool (isNm_tt (by omega) (by omega) HR.out).symm, (by repeat (first | with_reducible exact Ext.refl _ | with_reducible assumption | with_reducible refine Ext.alloc ?_ _ | with_reducible refine Ext.drew ?_ | (with_reducible refine Ext.setAt ?_ _ _ _ ?_; rotate_left; omega) | with_reducible refine Ext.trans ?_ (by assumption) | with_reducible exact Past.bel _ | with_reducible refine Ext.trans ?_ (Past.bel _)))⟩
end Go.Proofs.Ytaamnmpbkdinpaa
