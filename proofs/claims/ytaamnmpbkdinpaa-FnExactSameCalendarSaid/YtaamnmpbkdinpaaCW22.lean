/- Names: the reference's. -/
import Derived.Test.YtaamnmpbkdinpaaCW21
import Derived.Laws.Closers25b
namespace Go.Proofs.Ytaamnmpbkdinpaa
open Go.RowKit
set_option linter.unusedVariables false
set_option linter.unusedSimpArgs false

theorem l01Small_c (c : Nat) (w : World) : Calls Try.prog 62 #[.int .u8 (c : Nat)] w fun e w' => e = .returned (.bool (chS c)) ∧ w = w' := by
  go_enter Try.func62, Try.ntmps62
  go_wp2
  all_goals (go_ret; refine ⟨ret_bool ?_, rfl⟩; rw [Bool.eq_iff_iff]; simp [chS]; try omega)
theorem l01Digit_c (c : Nat) (w : World) : Calls Try.prog 63 #[.int .u8 (c : Nat)] w fun e w' => e = .returned (.bool (chD c)) ∧ w = w' := by
  go_enter Try.func63, Try.ntmps63
  go_wp2
  all_goals (go_ret; refine ⟨ret_bool ?_, rfl⟩; rw [Bool.eq_iff_iff]; simp [chD]; try omega)
set_option maxHeartbeats 2000000 in
theorem specIsName_c (s : ByteArray) (w : World) (hz : s.size ≤ 9223372036854775807) :
    Calls Try.prog 57 #[.string s] w fun e w' => e = .returned (.bool (isNm s)) ∧ w = w' := by
  have hz' : (s.size : Int) ≤ 9223372036854775807 := by omega
  by_cases z1 : s.size < 1
  · obtain rfl : s = ⟨#[]⟩ := by
      obtain ⟨⟨l⟩⟩ := s
      cases l with
      | nil => rfl
      | cons x l => simp [ByteArray.size] at z1
    go_enter Try.func57, Try.ntmps57
    go_wp2_with fail
    go_ret
    exact ⟨ret_bool (isNm_0 z1).symm, rfl⟩
  · have y0 : ¬ s.toList = [] := fun e => by have e2 := (toList_nil_iff_emptyBytes s).1 e; subst e2; exact z1 (by decide)
    have y1 : s.toList.isEmpty = false := by simpa using y0
    by_cases z2 : 12 < s.size
    · have y2 : (12 : Int) < s.size := by omega
      go_enter Try.func57, Try.ntmps57
      go_wp2_with fail
      go_ret
      exact ⟨ret_bool (isNm_12 z2).symm, rfl⟩
    · have y2 : ¬ (12 : Int) < s.size := by omega
      have y3 : (0 : Int) < s.size := by omega
      have y4 : 0 < s.size := by omega
      cases hs : chS s[0].toNat
      · have HS := Lib.hid hs
        clear hs
        go_enter Try.func57, Try.ntmps57
        go_wp2_with (go_at_call 62; ((with_reducible refine (l01Small_c _ _).mono ?_); rintro e w' ⟨rfl, rfl⟩; rw [HS.out]))
        go_ret
        exact ⟨ret_bool (isNm_ff y4 (chN_0 (by rw [← btN_at y4]; exact HS.out))).symm, rfl⟩
      · have HS := Lib.hid hs
        clear hs
        go_enter Try.func57, Try.ntmps57
        go_wp2_with (go_at_call 62; ((with_reducible refine (l01Small_c _ _).mono ?_); rintro e w' ⟨rfl, rfl⟩; rw [HS.out]))
        go_loop [3] (fun i => ∃ j : Nat, j ≤ s.size ∧ i = .int .i64 j ∧ nmTo s j = true) (fun i => s.size - (intOf i).toNat)
        case atStart => exact ⟨0, by omega, rfl, rfl⟩
        case round =>
          obtain ⟨j, hj, rfl, hr⟩ := hrel
          have HR := Lib.hid hr
          clear hr
          by_cases hlt : j < s.size
          · have HB := Lib.hid (btN_at hlt)
            by_cases h0 : j = 0
            · subst h0
              go_wp2_with (go_at_call 62; ((with_reducible refine (l01Small_c _ _).mono ?_); rintro e w' ⟨rfl, rfl⟩; rw [HS.out]))
              exact ⟨⟨1, by omega, rfl, by simp only [nmTo, HR.out]; rw [← HB.out, chN_S HS.out]; rfl⟩, by simp [intOf]; omega⟩
            · have N0 := Lib.hid h0
              clear h0
              cases a1 : chS s[j].toNat
              · cases a2 : chD s[j].toNat
                · by_cases a3 : s[j].toNat = 45
                  · have b3 : ((s[j].toNat : Int) != 45) = false := by simp; omega
                    have A1 := Lib.hid a1; have A2 := Lib.hid a2; have A3 := Lib.hid a3
                    clear a1 a2 a3
                    go_wp2_with (first | (go_at_call 62; ((with_reducible refine (l01Small_c _ _).mono ?_); rintro e w' ⟨rfl, rfl⟩; rw [A1.out])) | (go_at_call 63; ((with_reducible refine (l01Digit_c _ _).mono ?_); rintro e w' ⟨rfl, rfl⟩; rw [A2.out])))
                    exact ⟨⟨j + 1, by omega, by go_num, by simp only [nmTo, HR.out]; rw [← HB.out, chN_m N0.out A3.out]; rfl⟩, by simp [intOf]; omega⟩
                  · have b3 : ((s[j].toNat : Int) != 45) = true := by simp; omega
                    have A1 := Lib.hid a1; have A2 := Lib.hid a2; have A3 := Lib.hid a3
                    clear a1 a2 a3
                    go_wp2_with (first | (go_at_call 62; ((with_reducible refine (l01Small_c _ _).mono ?_); rintro e w' ⟨rfl, rfl⟩; rw [A1.out])) | (go_at_call 63; ((with_reducible refine (l01Digit_c _ _).mono ?_); rintro e w' ⟨rfl, rfl⟩; rw [A2.out])))
                    go_ret
                    exact ⟨ret_bool (isNm_ff hlt (by rw [← HB.out]; exact chN_f A1.out A2.out A3.out)).symm, rfl⟩
                · have A1 := Lib.hid a1; have A2 := Lib.hid a2
                  clear a1 a2
                  go_wp2_with (first | (go_at_call 62; ((with_reducible refine (l01Small_c _ _).mono ?_); rintro e w' ⟨rfl, rfl⟩; rw [A1.out])) | (go_at_call 63; ((with_reducible refine (l01Digit_c _ _).mono ?_); rintro e w' ⟨rfl, rfl⟩; rw [A2.out])))
                  exact ⟨⟨j + 1, by omega, by go_num, by simp only [nmTo, HR.out]; rw [← HB.out, chN_D N0.out A2.out]; rfl⟩, by simp [intOf]; omega⟩
              · have A1 := Lib.hid a1
                clear a1
                go_wp2_with (first | (go_at_call 62; ((with_reducible refine (l01Small_c _ _).mono ?_); rintro e w' ⟨rfl, rfl⟩; rw [A1.out])))
                exact ⟨⟨j + 1, by omega, by go_num, by simp only [nmTo, HR.out]; rw [← HB.out, chN_S A1.out]; rfl⟩, by simp [intOf]; omega⟩
          · obtain rfl : j = s.size := by omega
            go_wp2_with fail
            go_ret
            exact ⟨ret_bool (isNm_tt (by omega) (by omega) HR.out).symm, rfl⟩
end Go.Proofs.Ytaamnmpbkdinpaa
