/- Names: the reference's. Decimal numerals read: the reference's. Texts parted at a byte. No program in sight. Lists of numbers compared; cams. No program in sight. Cams: checked. Cams' texts. Texts parted: the program's way and the reference's. Dates read from texts. No program in sight. Dates read from texts: the reference's. Dates read from texts: the program's. Calendars: when their months are valid. No program in sight. Months of a calendar: the reference's. -/
import Derived.Test.YtpohhnihgegmfaaDoorBb
import Derived.Laws.Closers25b
import Derived.Lib.SplitLaws
import Derived.Lib.Split
import Derived.Test.YtpohhnihgegmfaaDoorBa
import Derived.Lib.Join

namespace Go.Proofs.YtpohhnihgegmfaaDoor
open Go.RowKit
set_option linter.unusedVariables false
set_option linter.unusedSimpArgs false

theorem l01Small_c (c : Nat) (w : World) : Calls Tryd.prog 82 #[.int .u8 (c : Nat)] w fun e w' => e = .returned (.bool (chS c)) ∧ w = w' := by
  go_enter Tryd.func82, Tryd.ntmps82
  go_wp2
  all_goals (go_ret; refine ⟨ret_bool ?_, rfl⟩; rw [Bool.eq_iff_iff]; simp [chS]; try omega)
theorem l01Digit_c (c : Nat) (w : World) : Calls Tryd.prog 52 #[.int .u8 (c : Nat)] w fun e w' => e = .returned (.bool (chD c)) ∧ w = w' := by
  go_enter Tryd.func52, Tryd.ntmps52
  go_wp2
  all_goals (go_ret; refine ⟨ret_bool ?_, rfl⟩; rw [Bool.eq_iff_iff]; simp [chD]; try omega)
set_option maxHeartbeats 2000000 in
theorem specIsName_c (s : ByteArray) (w : World) (hz : s.size ≤ 9223372036854775807) :
    Calls Tryd.prog 63 #[.string s] w fun e w' => e = .returned (.bool (isNm s)) ∧ w = w' := by
  have hz' : (s.size : Int) ≤ 9223372036854775807 := by omega
  by_cases z1 : s.size < 1
  · obtain rfl : s = ⟨#[]⟩ := by
      obtain ⟨⟨l⟩⟩ := s
      cases l with
      | nil => rfl
      | cons x l => simp [ByteArray.size] at z1
    go_enter Tryd.func63, Tryd.ntmps63
    go_wp2_with fail
    go_ret
    exact ⟨ret_bool (isNm_0 z1).symm, rfl⟩
  · have y0 : ¬ s.toList = [] := fun e => by have e2 := (toList_nil_iff_emptyBytes s).1 e; subst e2; exact z1 (by decide)
    have y1 : s.toList.isEmpty = false := by simpa using y0
    by_cases z2 : 12 < s.size
    · have y2 : (12 : Int) < s.size := by omega
      go_enter Tryd.func63, Tryd.ntmps63
      go_wp2_with fail
      go_ret
      exact ⟨ret_bool (isNm_12 z2).symm, rfl⟩
    · have y2 : ¬ (12 : Int) < s.size := by omega
      have y3 : (0 : Int) < s.size := by omega
      have y4 : 0 < s.size := by omega
      cases hs : chS s[0].toNat
      · have HS := Lib.hid hs
        clear hs
        go_enter Tryd.func63, Tryd.ntmps63
        go_wp2_with (go_at_call 82; ((with_reducible refine (l01Small_c _ _).mono ?_); rintro e w' ⟨rfl, rfl⟩; rw [HS.out]))
        go_ret
        exact ⟨ret_bool (isNm_ff y4 (chN_0 (by rw [← btN_at y4]; exact HS.out))).symm, rfl⟩
      · have HS := Lib.hid hs
        clear hs
        go_enter Tryd.func63, Tryd.ntmps63
        go_wp2_with (go_at_call 82; ((with_reducible refine (l01Small_c _ _).mono ?_); rintro e w' ⟨rfl, rfl⟩; rw [HS.out]))
        go_loop [3] (fun i => ∃ j : Nat, j ≤ s.size ∧ i = .int .i64 j ∧ nmTo s j = true) (fun i => s.size - (intOf i).toNat)
        case atStart => exact ⟨0, by omega, rfl, rfl⟩
        case round =>
          obtain ⟨j, hj, rfl, hr⟩ := hrel
          have HR := Lib.hid hr
          clear hr
          by_cases hlt : j < s.size
          · have HB := Lib.hid (btN_at hlt)
            by_cases h0 : j = 0
            · subst h0
              go_wp2_with (go_at_call 82; ((with_reducible refine (l01Small_c _ _).mono ?_); rintro e w' ⟨rfl, rfl⟩; rw [HS.out]))
              exact ⟨⟨1, by omega, rfl, by simp only [nmTo, HR.out]; rw [← HB.out, chN_S HS.out]; rfl⟩, by simp [intOf]; omega⟩
            · have N0 := Lib.hid h0
              clear h0
              cases a1 : chS s[j].toNat
              · cases a2 : chD s[j].toNat
                · by_cases a3 : s[j].toNat = 45
                  · have b3 : ((s[j].toNat : Int) != 45) = false := by simp; omega
                    have A1 := Lib.hid a1; have A2 := Lib.hid a2; have A3 := Lib.hid a3
                    clear a1 a2 a3
                    go_wp2_with (first | (go_at_call 82; ((with_reducible refine (l01Small_c _ _).mono ?_); rintro e w' ⟨rfl, rfl⟩; rw [A1.out])) | (go_at_call 52; ((with_reducible refine (l01Digit_c _ _).mono ?_); rintro e w' ⟨rfl, rfl⟩; rw [A2.out])))
                    exact ⟨⟨j + 1, by omega, by go_num, by simp only [nmTo, HR.out]; rw [← HB.out, chN_m N0.out A3.out]; rfl⟩, by simp [intOf]; omega⟩
                  · have b3 : ((s[j].toNat : Int) != 45) = true := by simp; omega
                    have A1 := Lib.hid a1; have A2 := Lib.hid a2; have A3 := Lib.hid a3
                    clear a1 a2 a3
                    go_wp2_with (first | (go_at_call 82; ((with_reducible refine (l01Small_c _ _).mono ?_); rintro e w' ⟨rfl, rfl⟩; rw [A1.out])) | (go_at_call 52; ((with_reducible refine (l01Digit_c _ _).mono ?_); rintro e w' ⟨rfl, rfl⟩; rw [A2.out])))
                    go_ret
                    exact ⟨ret_bool (isNm_ff hlt (by rw [← HB.out]; exact chN_f A1.out A2.out A3.out)).symm, rfl⟩
                · have A1 := Lib.hid a1; have A2 := Lib.hid a2
                  clear a1 a2
                  go_wp2_with (first | (go_at_call 82; ((with_reducible refine (l01Small_c _ _).mono ?_); rintro e w' ⟨rfl, rfl⟩; rw [A1.out])) | (go_at_call 52; ((with_reducible refine (l01Digit_c _ _).mono ?_); rintro e w' ⟨rfl, rfl⟩; rw [A2.out])))
                  exact ⟨⟨j + 1, by omega, by go_num, by simp only [nmTo, HR.out]; rw [← HB.out, chN_D N0.out A2.out]; rfl⟩, by simp [intOf]; omega⟩
              · have A1 := Lib.hid a1
                clear a1
                go_wp2_with (first | (go_at_call 82; ((with_reducible refine (l01Small_c _ _).mono ?_); rintro e w' ⟨rfl, rfl⟩; rw [A1.out])))
                exact ⟨⟨j + 1, by omega, by go_num, by simp only [nmTo, HR.out]; rw [← HB.out, chN_S A1.out]; rfl⟩, by simp [intOf]; omega⟩
          · obtain rfl : j = s.size := by omega
            go_wp2_with fail
            go_ret
            exact ⟨ret_bool (isNm_tt (by omega) (by omega) HR.out).symm, rfl⟩
end Go.Proofs.YtpohhnihgegmfaaDoor

namespace Go.Proofs.YtpohhnihgegmfaaDoor
open Go.RowKit
set_option linter.unusedVariables false
set_option linter.unusedSimpArgs false

theorem byte_at {s : ByteArray} {j : Nat} (h : j < s.size) : s.data.toList[j]? = some s[j] := by
  have h' : j < s.data.size := h
  rw [List.getElem?_eq_getElem (by simpa using h')]; rfl
theorem decFrom_bad {l : List UInt8} {j : Nat} {b : UInt8} (h : l[j]? = some b) (hb : chD b.toNat = false) : ∀ u, Lib.decDigits u ≠ l := fun u e => by
  have h1 := decFrom_digits u
  rw [e] at h1
  obtain ⟨d, hd⟩ := Lib.digit_of_decFrom l 0 u h1 j b h
  have h2 := (digitVal_some hd).1
  simp [chD] at hb; omega
theorem digit_yes {b : UInt8} (h : chD b.toNat = true) : Lib.digitVal b = some (b.toNat - 48) ∧ 48 ≤ b.toNat ∧ b.toNat ≤ 57 := by
  simp [chD] at h
  exact ⟨by rw [Lib.digitVal, if_pos h], h.1, h.2⟩
theorem mag_cons (r : List UInt8) : mag (45 :: r) = r := rfl
theorem mag_other {c : UInt8} {r : List UInt8} (h : c ≠ 45) : mag (c :: r) = c :: r := by
  have : Lib.hasPrefix (c :: r) [45] = false := by
    unfold Lib.hasPrefix
    simp only [List.isPrefixOf, Bool.and_true, beq_eq_false_iff_ne]
    exact fun e => h e.symm
  rw [mag, Lib.trimPrefix, this]; rfl
/-- what a text's magnitude says of a number that it spells -/
theorem spell {l T : List UInt8} (hm : mag l = T) {n : Int} (e : Lib.itoa n = l) : Lib.decDigits n.natAbs = T := by rw [← hm, ← e, mag_itoa]
theorem sign_of {l T : List UInt8} (hm : mag l = T) {n : Int} (e : Lib.itoa n = l) : (n < 0 ↔ T.length < l.length) := by
  have h1 := spell hm e
  rcases itoa_cases n with ⟨a, b⟩ | ⟨a, b⟩
  · rw [← e, b, ← h1]; simp; omega
  · rw [← e, b, ← h1]; simp; omega
theorem num_bounds {acc D : Nat} (h : acc * 10 + D < 1000000000000000000) : IntKind.i64.wrap (10 * (acc : Int)) = 10 * (acc : Int) ∧ IntKind.i64.wrap (10 * (acc : Int) + (D : Int)) = 10 * (acc : Int) + (D : Int) ∧ wrap64 (10 * (acc : Int)) = 10 * (acc : Int) ∧ wrap64 (10 * (acc : Int) + (D : Int)) = 10 * (acc : Int) + (D : Int) :=
  ⟨IntWalk.i64_in _ (by omega), IntWalk.i64_in _ (by omega), IntWalk.wrap64_in _ (by omega), IntWalk.wrap64_in _ (by omega)⟩
theorem num_cast {acc D : Nat} (h : acc * 10 + D < 1000000000000000000) : wrap64 (10 * (acc : Int) + wrap64 (D : Int)) = ((acc * 10 + D : Nat) : Int) := by
  rw [IntWalk.wrap64_in (D : Int) (by omega), IntWalk.wrap64_in _ (by omega)]; omega
theorem u8_small {D : Nat} (h : D ≤ 9) : IntKind.u8.wrap (D : Int) = (D : Int) := by
  obtain rfl | rfl | rfl | rfl | rfl | rfl | rfl | rfl | rfl | rfl : D = 0 ∨ D = 1 ∨ D = 2 ∨ D = 3 ∨ D = 4 ∨ D = 5 ∨ D = 6 ∨ D = 7 ∨ D = 8 ∨ D = 9 := by omega
  all_goals decide
theorem ba_len' (s : ByteArray) : s.data.toList.length = s.size := Array.length_toList
set_option maxRecDepth 100000 in
set_option maxHeartbeats 4000000 in
theorem l01Number_c (s : ByteArray) (w : World) (hs : s.size ≤ 1048576) {x : Int} {b : Bool} (rd : RdR s.data.toList x b) :
    Calls Tryd.prog 30 #[.string s] w fun e w' => e = .returned (.tuple #[.int .i64 x, .bool b]) ∧ Ext w w' := by
  have HR := Lib.hid rd
  clear rd
  by_cases h0 : s.size = 0
  · obtain rfl : s = ⟨#[]⟩ := by
      obtain ⟨⟨l⟩⟩ := s
      cases l with
      | nil => rfl
      | cons x l => simp [ByteArray.size] at h0
    obtain rfl : b = false := by
      cases b
      · rfl
      · have h2 := HR.out.yes rfl
        have h3 := sm_mag h2.2 h2.1
        exact absurd h3.2.1 (by decide)
    obtain ⟨rfl, -⟩ := HR.out.no rfl
    go_enter Tryd.func30, Tryd.ntmps30
    go_wp2_with fail
    go_ret2
    exact ⟨rfl, (by repeat (first | with_reducible exact Ext.refl _ | with_reducible assumption | with_reducible refine Ext.alloc ?_ _ | with_reducible refine Ext.drew ?_ | (with_reducible refine Ext.setAt ?_ _ _ _ ?_; rotate_left; omega) | with_reducible refine Ext.trans ?_ (by assumption) | with_reducible exact Past.bel _ | with_reducible refine Ext.trans ?_ (Past.bel _)))⟩
  · have y0 : ¬ s.toList = [] := fun e => by have e2 := (toList_nil_iff_emptyBytes s).1 e; subst e2; exact h0 (by decide)
    have y1 : s.toList.isEmpty = false := by simpa using y0
    have y3 : (0 : Int) < s.size := by omega
    have y4 : 0 < s.size := by omega
    have hb0 := byte_at y4
    by_cases h45 : s[0] = 45
    · have z1 : s[0].toNat = 45 := by rw [h45]; rfl
      have z2 : ((s[0].toNat : Int) == 45) = true := by rw [z1]; rfl
      have hmag : mag s.data.toList = (s.extract 1 s.size).data.toList := by
        obtain ⟨⟨l⟩⟩ := s
        cases l with
        | nil => simp [ByteArray.size] at h0
        | cons c r =>
          obtain rfl : c = 45 := h45
          rw [mag_cons]; simp [ByteArray.extract_mk, ByteArray.size]
      have hz : (s.extract 1 s.size).size = s.size - 1 := by rw [ByteArray.size_extract]; omega
      have HMM := Lib.hid hmag
      have HZ := Lib.hid hz
      clear hmag hz h45 hb0
      go_enter Tryd.func30, Tryd.ntmps30
      go_upto_region 4 with fail
      generalize hT : s.extract 1 s.size = t at HMM HZ ⊢
      have HM := HMM
      have hts := HZ.out
      clear hT HMM HZ
      by_cases h1 : 1 ≤ t.size ∧ t.size ≤ 18
      · have x1 : ¬ (t.size : Int) < 1 := by omega
        have x2 : ¬ (18 : Int) < (t.size : Int) := by omega
        have x3 : (t.size : Int) < (s.size : Int) := by omega
        go_wp2_with fail
        go_loopw [5, 6] (fun v5 v6 wr => ∃ j acc : Nat, j ≤ t.size ∧ v5 = .int .i64 (acc : Int) ∧ v6 = .int .i64 (j : Int) ∧ Lib.decFrom 0 (t.data.toList.take j) = some acc ∧ Ext w wr) (fun _ v6 _ => t.size - (intOf v6).toNat)
        case atStart => exact ⟨0, 0, by omega, rfl, rfl, by simp [Lib.decFrom], (by repeat (first | with_reducible exact Ext.refl _ | with_reducible assumption | with_reducible refine Ext.alloc ?_ _ | with_reducible refine Ext.drew ?_ | (with_reducible refine Ext.setAt ?_ _ _ _ ?_; rotate_left; omega) | with_reducible refine Ext.trans ?_ (by assumption) | with_reducible exact Past.bel _ | with_reducible refine Ext.trans ?_ (Past.bel _)))⟩
        case round =>
          obtain ⟨j, acc, hj, rfl, rfl, hd, hx⟩ := hrel
          have hb := decFrom_18 hd (by have := ba_len' t; simp; omega)
          have HDF := Lib.hid hd
          have x0 : (0 : Int) ≤ (j : Int) := by omega
          clear hd
          by_cases hlt : j < t.size
          · have x4 : (j : Int) < (t.size : Int) := by omega
            have HBT := Lib.hid (byte_at hlt)
            cases hc : chD t[j].toNat
            · have HC := Lib.hid hc
              clear hc
              obtain rfl : b = false := by
                cases b
                · rfl
                · have h2 := (HR.out.yes rfl)
                  exact absurd (spell HM.out h2.1) (decFrom_bad HBT.out HC.out _)
              obtain ⟨rfl, -⟩ := HR.out.no rfl
              go_wp2_with (go_at_call 52; ((with_reducible refine (l01Digit_c _ _).mono ?_); rintro e w' ⟨rfl, rfl⟩; rw [HC.out]))
              go_ret2
              exact ⟨rfl, hx⟩
            · obtain ⟨hv, b1, b2⟩ := digit_yes hc
              have HC := Lib.hid hc
              have HV := Lib.hid hv
              obtain ⟨D, hD⟩ : ∃ D : Nat, t[j].toNat = 48 + D := ⟨t[j].toNat - 48, by omega⟩
              have hv' : Lib.digitVal t[j] = some D := by rw [hv, hD]; congr 1; omega
              have hst := Lib.decFrom_take _ j 0 acc _ _ HDF.out HBT.out hv'
              have hb4 := decFrom_18 hst (by have := ba_len' t; simp; omega)
              have hD9 : D ≤ 9 := by omega
              have y5 : ((t[j].toNat : Nat) : Int) - 48 = (D : Int) := by omega
              have HST := Lib.hid hst
              have HNC := Lib.hid (num_cast hb4)
              have HNC2 := Lib.hid (show 10 * (acc : Int) + (D : Int) = ((acc * 10 + D : Nat) : Int) from by omega)
              obtain ⟨y1, y2, y3, y4⟩ := num_bounds hb4
              have y6 : IntKind.u8.wrap (D : Int) = (D : Int) := u8_small hD9
              clear hc hv hv' hD hst b1 b2 hb4 hb
              go_wp2_with (go_at_call 52; ((with_reducible refine (l01Digit_c _ _).mono ?_); rintro e w' ⟨rfl, rfl⟩; rw [HC.out]))
              exact ⟨⟨j + 1, acc * 10 + D, by omega, congrArg (Value.int .i64) (by first | exact HNC.out | exact HNC2.out), by go_num, HST.out, (by repeat (first | with_reducible exact Ext.refl _ | with_reducible assumption | with_reducible refine Ext.alloc ?_ _ | with_reducible refine Ext.drew ?_ | (with_reducible refine Ext.setAt ?_ _ _ _ ?_; rotate_left; omega) | with_reducible refine Ext.trans ?_ (by assumption) | with_reducible exact Past.bel _ | with_reducible refine Ext.trans ?_ (Past.bel _)))⟩, by simp [intOf]; omega⟩
          · obtain rfl : j = t.size := by omega
            have x4 : ¬ (t.size : Int) < (t.size : Int) := by omega
            have hfull : Lib.decFrom 0 t.data.toList = some acc := by
              have h9 := HDF.out
              rwa [List.take_of_length_le (by have := ba_len' t; omega)] at h9
            have HF := Lib.hid hfull
            have y1 := IntWalk.i64_in (-(acc : Int)) (by omega)
            have y2 : wrap64 (-(acc : Int)) = -(acc : Int) := IntWalk.wrap64_in _ (by omega)
            obtain ⟨A, hA⟩ : ∃ A, A = Lib.itoa (-(acc : Int)) := ⟨_, rfl⟩
            have HD := Lib.hid (fun (W : World) => (show Calls Tryd.prog 53 #[.int .i64 (-(acc : Int))] W (fun e w' => e = .returned (.string ⟨A.toArray⟩) ∧ Ext W w') from by rw [hA]; exact l01Dec_c _ W (by omega) (by omega)))
            have HA := Lib.hid hA
            clear hfull
            by_cases hq : A = s.data.toList
            · have hq2 : (A == s.toList) = true := by rw [ByteArray.toList_eq]; simpa using hq
              have e1 : Lib.itoa (-(acc : Int)) = s.data.toList := by rw [← hA]; exact hq
              obtain rfl : b = true := by
                cases b
                · exact absurd e1 ((HR.out.no rfl).2 _ ⟨by omega, by omega⟩)
                · rfl
              obtain rfl : x = -(acc : Int) := itoa_inj ((HR.out.yes rfl).1.trans e1.symm)
              clear hq hA e1
              go_wp2_with (go_at_call 53; ((with_reducible refine (HD.out _).mono ?_); rintro e w' ⟨rfl, hx⟩; (first | (obtain ⟨wx, rfl⟩ := Past.again hx) | (obtain ⟨wx, rfl⟩ := Past.ofd hx) | (obtain ⟨wx, rfl⟩ := Past.of hx))))
              go_ret2
              exact ⟨rfl, (by repeat (first | with_reducible exact Ext.refl _ | with_reducible assumption | with_reducible refine Ext.alloc ?_ _ | with_reducible refine Ext.drew ?_ | (with_reducible refine Ext.setAt ?_ _ _ _ ?_; rotate_left; omega) | with_reducible refine Ext.trans ?_ (by assumption) | with_reducible exact Past.bel _ | with_reducible refine Ext.trans ?_ (Past.bel _)))⟩
            · have hq2 : (A == s.toList) = false := by rw [ByteArray.toList_eq]; simpa using hq
              obtain rfl : b = false := by
                cases b
                · rfl
                · have h2 := (HR.out.yes rfl)
                  have h3 := spell HM.out h2.1
                  have h4 : x.natAbs = acc := Option.some.inj ((decFrom_digits _).symm.trans ((congrArg (Lib.decFrom 0) h3).trans HF.out))
                  have h5 := sign_of HM.out h2.1
                  simp only [ba_len'] at h5
                  have h6 : x = -(acc : Int) := by omega
                  exact absurd (by rw [hA, ← h6]; exact h2.1) hq
              obtain ⟨rfl, -⟩ := HR.out.no rfl
              clear hq hA
              go_wp2_with (go_at_call 53; ((with_reducible refine (HD.out _).mono ?_); rintro e w' ⟨rfl, hx⟩; (first | (obtain ⟨wx, rfl⟩ := Past.again hx) | (obtain ⟨wx, rfl⟩ := Past.ofd hx) | (obtain ⟨wx, rfl⟩ := Past.of hx))))
              go_ret2
              exact ⟨rfl, (by repeat (first | with_reducible exact Ext.refl _ | with_reducible assumption | with_reducible refine Ext.alloc ?_ _ | with_reducible refine Ext.drew ?_ | (with_reducible refine Ext.setAt ?_ _ _ _ ?_; rotate_left; omega) | with_reducible refine Ext.trans ?_ (by assumption) | with_reducible exact Past.bel _ | with_reducible refine Ext.trans ?_ (Past.bel _)))⟩
      · obtain rfl : b = false := by
          cases b
          · rfl
          · have h2 := (HR.out.yes rfl)
            have h3 := sm_mag h2.2 h2.1
            rw [HM.out, ba_len'] at h3
            exact absurd h3.2 h1
        obtain ⟨rfl, -⟩ := HR.out.no rfl
        by_cases h2 : t.size < 1
        · have x1 : (t.size : Int) < 1 := by omega
          clear h1 h2
          go_wp2_with fail
          go_ret2
          exact ⟨rfl, (by repeat (first | with_reducible exact Ext.refl _ | with_reducible assumption | with_reducible refine Ext.alloc ?_ _ | with_reducible refine Ext.drew ?_ | (with_reducible refine Ext.setAt ?_ _ _ _ ?_; rotate_left; omega) | with_reducible refine Ext.trans ?_ (by assumption) | with_reducible exact Past.bel _ | with_reducible refine Ext.trans ?_ (Past.bel _)))⟩
        · have x1 : ¬ (t.size : Int) < 1 := by omega
          have x2 : (18 : Int) < (t.size : Int) := by omega
          clear h1 h2
          go_wp2_with fail
          go_ret2
          exact ⟨rfl, (by repeat (first | with_reducible exact Ext.refl _ | with_reducible assumption | with_reducible refine Ext.alloc ?_ _ | with_reducible refine Ext.drew ?_ | (with_reducible refine Ext.setAt ?_ _ _ _ ?_; rotate_left; omega) | with_reducible refine Ext.trans ?_ (by assumption) | with_reducible exact Past.bel _ | with_reducible refine Ext.trans ?_ (Past.bel _)))⟩
    · have z1 : ¬ s[0].toNat = 45 := fun e => h45 (UInt8.toNat.inj (by rw [e]; rfl))
      have z2 : ((s[0].toNat : Int) == 45) = false := by simpa using fun e : (s[0].toNat : Int) = 45 => z1 (by omega)
      have hmag : mag s.data.toList = s.data.toList := by
        obtain ⟨⟨l⟩⟩ := s
        cases l with
        | nil => simp [ByteArray.size] at h0
        | cons c r => exact mag_other h45
      have HM := Lib.hid hmag
      clear hmag h45 hb0
      obtain ⟨t, ht⟩ : ∃ t, t = s := ⟨_, rfl⟩
      go_enter Tryd.func30, Tryd.ntmps30
      go_upto_region 4 with fail
      by_cases h1 : 1 ≤ s.size ∧ s.size ≤ 18
      · have x1 : ¬ (s.size : Int) < 1 := by omega
        have x2 : ¬ (18 : Int) < (s.size : Int) := by omega
        have x3 : ¬ (s.size : Int) < (s.size : Int) := by omega
        go_wp2_with fail
        go_loopw [5, 6] (fun v5 v6 wr => ∃ j acc : Nat, j ≤ s.size ∧ v5 = .int .i64 (acc : Int) ∧ v6 = .int .i64 (j : Int) ∧ Lib.decFrom 0 (s.data.toList.take j) = some acc ∧ Ext w wr) (fun _ v6 _ => s.size - (intOf v6).toNat)
        case atStart => exact ⟨0, 0, by omega, rfl, rfl, by simp [Lib.decFrom], (by repeat (first | with_reducible exact Ext.refl _ | with_reducible assumption | with_reducible refine Ext.alloc ?_ _ | with_reducible refine Ext.drew ?_ | (with_reducible refine Ext.setAt ?_ _ _ _ ?_; rotate_left; omega) | with_reducible refine Ext.trans ?_ (by assumption) | with_reducible exact Past.bel _ | with_reducible refine Ext.trans ?_ (Past.bel _)))⟩
        case round =>
          obtain ⟨j, acc, hj, rfl, rfl, hd, hx⟩ := hrel
          have hb := decFrom_18 hd (by have := ba_len' s; simp; omega)
          have HDF := Lib.hid hd
          have x0 : (0 : Int) ≤ (j : Int) := by omega
          clear hd
          by_cases hlt : j < s.size
          · have x4 : (j : Int) < (s.size : Int) := by omega
            have HBT := Lib.hid (byte_at hlt)
            cases hc : chD s[j].toNat
            · have HC := Lib.hid hc
              clear hc
              obtain rfl : b = false := by
                cases b
                · rfl
                · have h2 := (HR.out.yes rfl)
                  exact absurd (spell HM.out h2.1) (decFrom_bad HBT.out HC.out _)
              obtain ⟨rfl, -⟩ := HR.out.no rfl
              go_wp2_with (go_at_call 52; ((with_reducible refine (l01Digit_c _ _).mono ?_); rintro e w' ⟨rfl, rfl⟩; rw [HC.out]))
              go_ret2
              exact ⟨rfl, hx⟩
            · obtain ⟨hv, b1, b2⟩ := digit_yes hc
              have HC := Lib.hid hc
              have HV := Lib.hid hv
              obtain ⟨D, hD⟩ : ∃ D : Nat, s[j].toNat = 48 + D := ⟨s[j].toNat - 48, by omega⟩
              have hv' : Lib.digitVal s[j] = some D := by rw [hv, hD]; congr 1; omega
              have hst := Lib.decFrom_take _ j 0 acc _ _ HDF.out HBT.out hv'
              have hb4 := decFrom_18 hst (by have := ba_len' s; simp; omega)
              have hD9 : D ≤ 9 := by omega
              have y5 : ((s[j].toNat : Nat) : Int) - 48 = (D : Int) := by omega
              have HST := Lib.hid hst
              have HNC := Lib.hid (num_cast hb4)
              have HNC2 := Lib.hid (show 10 * (acc : Int) + (D : Int) = ((acc * 10 + D : Nat) : Int) from by omega)
              obtain ⟨y1, y2, y3, y4⟩ := num_bounds hb4
              have y6 : IntKind.u8.wrap (D : Int) = (D : Int) := u8_small hD9
              clear hc hv hv' hD hst b1 b2 hb4 hb
              go_wp2_with (go_at_call 52; ((with_reducible refine (l01Digit_c _ _).mono ?_); rintro e w' ⟨rfl, rfl⟩; rw [HC.out]))
              exact ⟨⟨j + 1, acc * 10 + D, by omega, congrArg (Value.int .i64) (by first | exact HNC.out | exact HNC2.out), by go_num, HST.out, (by repeat (first | with_reducible exact Ext.refl _ | with_reducible assumption | with_reducible refine Ext.alloc ?_ _ | with_reducible refine Ext.drew ?_ | (with_reducible refine Ext.setAt ?_ _ _ _ ?_; rotate_left; omega) | with_reducible refine Ext.trans ?_ (by assumption) | with_reducible exact Past.bel _ | with_reducible refine Ext.trans ?_ (Past.bel _)))⟩, by simp [intOf]; omega⟩
          · obtain rfl : j = s.size := by omega
            have x4 : ¬ (s.size : Int) < (s.size : Int) := by omega
            have hfull : Lib.decFrom 0 s.data.toList = some acc := by
              have h9 := HDF.out
              rwa [List.take_of_length_le (by have := ba_len' s; omega)] at h9
            have HF := Lib.hid hfull
            have y1 := IntWalk.i64_in ((acc : Int)) (by omega)
            have y2 : wrap64 ((acc : Int)) = (acc : Int) := IntWalk.wrap64_in _ (by omega)
            obtain ⟨A, hA⟩ : ∃ A, A = Lib.itoa ((acc : Int)) := ⟨_, rfl⟩
            have HD := Lib.hid (fun (W : World) => (show Calls Tryd.prog 53 #[.int .i64 ((acc : Int))] W (fun e w' => e = .returned (.string ⟨A.toArray⟩) ∧ Ext W w') from by rw [hA]; exact l01Dec_c _ W (by omega) (by omega)))
            have HA := Lib.hid hA
            clear hfull
            by_cases hq : A = s.data.toList
            · have hq2 : (A == s.toList) = true := by rw [ByteArray.toList_eq]; simpa using hq
              have e1 : Lib.itoa ((acc : Int)) = s.data.toList := by rw [← hA]; exact hq
              obtain rfl : b = true := by
                cases b
                · exact absurd e1 ((HR.out.no rfl).2 _ ⟨by omega, by omega⟩)
                · rfl
              obtain rfl : x = (acc : Int) := itoa_inj ((HR.out.yes rfl).1.trans e1.symm)
              clear hq hA e1
              go_wp2_with (go_at_call 53; ((with_reducible refine (HD.out _).mono ?_); rintro e w' ⟨rfl, hx⟩; (first | (obtain ⟨wx, rfl⟩ := Past.again hx) | (obtain ⟨wx, rfl⟩ := Past.ofd hx) | (obtain ⟨wx, rfl⟩ := Past.of hx))))
              go_ret2
              exact ⟨rfl, (by repeat (first | with_reducible exact Ext.refl _ | with_reducible assumption | with_reducible refine Ext.alloc ?_ _ | with_reducible refine Ext.drew ?_ | (with_reducible refine Ext.setAt ?_ _ _ _ ?_; rotate_left; omega) | with_reducible refine Ext.trans ?_ (by assumption) | with_reducible exact Past.bel _ | with_reducible refine Ext.trans ?_ (Past.bel _)))⟩
            · have hq2 : (A == s.toList) = false := by rw [ByteArray.toList_eq]; simpa using hq
              obtain rfl : b = false := by
                cases b
                · rfl
                · have h2 := (HR.out.yes rfl)
                  have h3 := spell HM.out h2.1
                  have h4 : x.natAbs = acc := Option.some.inj ((decFrom_digits _).symm.trans ((congrArg (Lib.decFrom 0) h3).trans HF.out))
                  have h5 := sign_of HM.out h2.1
                  simp only [ba_len'] at h5
                  have h6 : x = (acc : Int) := by omega
                  exact absurd (by rw [hA, ← h6]; exact h2.1) hq
              obtain ⟨rfl, -⟩ := HR.out.no rfl
              clear hq hA
              go_wp2_with (go_at_call 53; ((with_reducible refine (HD.out _).mono ?_); rintro e w' ⟨rfl, hx⟩; (first | (obtain ⟨wx, rfl⟩ := Past.again hx) | (obtain ⟨wx, rfl⟩ := Past.ofd hx) | (obtain ⟨wx, rfl⟩ := Past.of hx))))
              go_ret2
              exact ⟨rfl, (by repeat (first | with_reducible exact Ext.refl _ | with_reducible assumption | with_reducible refine Ext.alloc ?_ _ | with_reducible refine Ext.drew ?_ | (with_reducible refine Ext.setAt ?_ _ _ _ ?_; rotate_left; omega) | with_reducible refine Ext.trans ?_ (by assumption) | with_reducible exact Past.bel _ | with_reducible refine Ext.trans ?_ (Past.bel _)))⟩
      · obtain rfl : b = false := by
          cases b
          · rfl
          · have h2 := (HR.out.yes rfl)
            have h3 := sm_mag h2.2 h2.1
            rw [HM.out, ba_len'] at h3
            exact absurd h3.2 h1
        obtain ⟨rfl, -⟩ := HR.out.no rfl
        by_cases h2 : s.size < 1
        · have x1 : (s.size : Int) < 1 := by omega
          clear h1 h2
          go_wp2_with fail
          go_ret2
          exact ⟨rfl, (by repeat (first | with_reducible exact Ext.refl _ | with_reducible assumption | with_reducible refine Ext.alloc ?_ _ | with_reducible refine Ext.drew ?_ | (with_reducible refine Ext.setAt ?_ _ _ _ ?_; rotate_left; omega) | with_reducible refine Ext.trans ?_ (by assumption) | with_reducible exact Past.bel _ | with_reducible refine Ext.trans ?_ (Past.bel _)))⟩
        · have x1 : ¬ (s.size : Int) < 1 := by omega
          have x2 : (18 : Int) < (s.size : Int) := by omega
          clear h1 h2
          go_wp2_with fail
          go_ret2
          exact ⟨rfl, (by repeat (first | with_reducible exact Ext.refl _ | with_reducible assumption | with_reducible refine Ext.alloc ?_ _ | with_reducible refine Ext.drew ?_ | (with_reducible refine Ext.setAt ?_ _ _ _ ?_; rotate_left; omega) | with_reducible refine Ext.trans ?_ (by assumption) | with_reducible exact Past.bel _ | with_reducible refine Ext.trans ?_ (Past.bel _)))⟩
end Go.Proofs.YtpohhnihgegmfaaDoor

namespace Go.Proofs.YtpohhnihgegmfaaDoor
set_option linter.unusedVariables false
open Lib
/-- the parts of a text between bytes c -/
def splitL (c : UInt8) : List UInt8 → List (List UInt8)
  | [] => [[]]
  | b :: r => if b = c then [] :: splitL c r else match splitL c r with
    | [] => [[b]]
    | x :: xs => (b :: x) :: xs
theorem splitL_ne (c : UInt8) (l : List UInt8) : splitL c l ≠ [] := by
  cases l with
  | nil => simp [splitL]
  | cons b r =>
    rw [splitL]; split
    · simp
    · split <;> simp
theorem splitL_cons (c b : UInt8) (r : List UInt8) (h : b ≠ c) : ∃ x xs, splitL c r = x :: xs ∧ splitL c (b :: r) = (b :: x) :: xs := by
  obtain ⟨x, xs, hx⟩ := List.exists_cons_of_ne_nil (splitL_ne c r)
  exact ⟨x, xs, hx, by rw [splitL, if_neg h, hx]⟩
theorem splitL_hit (c : UInt8) (r : List UInt8) : splitL c (c :: r) = [] :: splitL c r := by rw [splitL, if_pos rfl]
/-- a part without the byte -/
theorem splitL_one (c : UInt8) : ∀ (x : List UInt8), c ∉ x → splitL c x = [x]
  | [], _ => rfl
  | b :: r, h => by
    have hb : b ≠ c := fun e => h (by simp [e])
    have h2 := splitL_one c r (fun e => h (by simp [e]))
    rw [splitL, if_neg hb, h2]
theorem splitL_app (c : UInt8) : ∀ (x y : List UInt8), c ∉ x → splitL c (x ++ c :: y) = x :: splitL c y
  | [], y, _ => splitL_hit c y
  | b :: r, y, h => by
    have hb : b ≠ c := fun e => h (by simp [e])
    have h2 := splitL_app c r y (fun e => h (by simp [e]))
    rw [List.cons_append, splitL, if_neg hb, h2]
/-- put together again -/
def joinL (c : UInt8) : List (List UInt8) → List UInt8
  | [] => []
  | [x] => x
  | x :: y :: ys => x ++ c :: joinL c (y :: ys)
theorem joinL_cons (c : UInt8) (x : List UInt8) {ys : List (List UInt8)} (h : ys ≠ []) : joinL c (x :: ys) = x ++ c :: joinL c ys := by
  obtain ⟨y, zs, rfl⟩ := List.exists_cons_of_ne_nil h; rfl
theorem join_split (c : UInt8) : ∀ l, joinL c (splitL c l) = l
  | [] => rfl
  | b :: r => by
    have ih := join_split c r
    by_cases h : b = c
    · subst h; rw [splitL_hit, joinL_cons _ _ (splitL_ne _ _), ih]; rfl
    · obtain ⟨x, xs, h1, h2⟩ := splitL_cons c b r h
      rw [h2]; rw [h1] at ih
      cases xs with
      | nil => simp only [joinL] at ih ⊢; rw [ih]
      | cons y ys => simp only [joinL] at ih ⊢; rw [List.cons_append, ih]
theorem splitL_free (c : UInt8) : ∀ (l p : List UInt8), p ∈ splitL c l → c ∉ p
  | [], p, h => by simp [splitL] at h; subst h; simp
  | b :: r, p, h => by
    by_cases hb : b = c
    · subst hb
      rw [splitL_hit] at h
      rcases List.mem_cons.1 h with rfl | h
      · simp
      · exact splitL_free _ r p h
    · obtain ⟨x, xs, h1, h2⟩ := splitL_cons c b r hb
      rw [h2] at h
      rcases List.mem_cons.1 h with rfl | h
      · have := splitL_free c r x (by rw [h1]; simp)
        simp only [List.mem_cons, not_or]; exact ⟨fun e => hb e.symm, this⟩
      · exact splitL_free c r p (by rw [h1]; simp [h])
theorem index_head (c : UInt8) (r : List UInt8) : index (c :: r) [c] = 0 := by simp [index, List.isPrefixOf]
theorem index_tail {b c : UInt8} (r : List UInt8) (h : b ≠ c) : index (b :: r) [c] = if index r [c] == -1 then -1 else index r [c] + 1 := by
  rw [index, if_neg]
  simp only [List.isPrefixOf, Bool.and_true, beq_iff_eq]
  exact fun e => h e.symm
/-- the library's parts are these -/
theorem splitK_eq (c : UInt8) : ∀ l, splitK [c] 0 (count l [c]) l = splitL c l
  | [] => by rw [count_miss (by rfl)]; rfl
  | b :: r => by
    have ih := splitK_eq c r
    by_cases h : b = c
    · subst h
      rw [count_cons_eq, Nat.add_comm, splitK, index_head, splitL_hit]
      rw [if_neg (by decide)]
      simp only [Int.toNat_zero, Nat.add_zero, List.take_zero, Nat.zero_add, List.length_singleton, List.drop_one, List.tail_cons]
      rw [ih]
    · rw [count_cons_ne b c r h]
      obtain ⟨x, xs, h1, h2⟩ := splitL_cons c b r h
      cases hk : count r [c] with
      | zero =>
        rw [hk] at ih
        simp only [splitK] at ih ⊢
        rw [h1] at ih; injection ih with e1 e2; subst e1 e2
        rw [h2]
      | succ k =>
        rw [hk] at ih
        have hi : ¬ index r [c] = -1 := fun e => by rw [count_miss e] at hk; cases hk
        have hi2 := index_ge r [c]
        obtain ⟨i, hi3⟩ := Int.eq_ofNat_of_zero_le (show 0 ≤ index r [c] by omega)
        rw [splitK, if_neg (by simpa using hi), hi3] at ih
        have hi4 : index (b :: r) [c] = (i : Int) + 1 := by rw [index_tail r h, if_neg (by simpa using hi), hi3]
        rw [splitK, hi4, if_neg (by simp; omega)]
        rw [h1] at ih
        injection ih with e1 e2
        rw [h2, ← e1, ← e2]
        have e3 : (((i : Nat) : Int) + 1).toNat = i + 1 := by omega
        rw [e3]
        simp
theorem splitB_eq (c : UInt8) (s : ByteArray) : (splitB ⟨#[c]⟩ 0 (countB s ⟨#[c]⟩) s).map (·.data.toList) = splitL c s.data.toList := by
  rw [splitB_data]; exact splitK_eq c s.data.toList
end Go.Proofs.YtpohhnihgegmfaaDoor

namespace Go.Proofs.YtpohhnihgegmfaaDoor
set_option linter.unusedVariables false
def eq1To (f g : Nat → Int) : Nat → Bool
  | 0 => true
  | k + 1 => eq1To f g k && (f k == g k)
theorem eq1To_ff {f g : Nat → Int} {k n : Nat} (hk : k < n) (hh : f k ≠ g k) : eq1To f g n = false := by
  induction n with
  | zero => omega
  | succ n ih =>
    by_cases e : k = n
    · subst e; simp [eq1To, hh]
    · simp only [eq1To, ih (by omega), Bool.false_and]
theorem eq1To_self {f : Nat → Int} {n : Nat} : eq1To f f n = true := by
  induction n with
  | zero => rfl
  | succ n ih => simp [eq1To, ih]
/-- the first k notches of a cam are valid -/
def camTo (z : Nat → Int) : Nat → Bool
  | 0 => true
  | k + 1 => camTo z k && inB (z k) 1 60
theorem camTo_ff {z : Nat → Int} {k n : Nat} (hk : k < n) (hh : inB (z k) 1 60 = false) : camTo z n = false := by
  induction n with
  | zero => omega
  | succ n ih =>
    by_cases e : k = n
    · subst e; simp only [camTo, hh, Bool.and_false]
    · simp only [camTo, ih (by omega), Bool.false_and]
theorem camTo_at {z : Nat → Int} {k n : Nat} (h : camTo z n = true) (hk : k < n) : inB (z k) 1 60 = true := by
  induction n with
  | zero => omega
  | succ n ih =>
    simp only [camTo, Bool.and_eq_true] at h
    by_cases e : k = n
    · subst e; exact h.2
    · exact ih h.1 (by omega)
def camV (n : Nat) (z : Nat → Int) : Bool := camTo z n && inB (n : Int) 1 260
theorem camV_ff {z : Nat → Int} {k n : Nat} (hk : k < n) (hh : inB (z k) 1 60 = false) : false = camV n z := by rw [camV, camTo_ff hk hh]; rfl
end Go.Proofs.YtpohhnihgegmfaaDoor

namespace Go.Proofs.YtpohhnihgegmfaaDoor
open Go.RowKit
set_option linter.unusedVariables false
set_option linter.unusedSimpArgs false

end Go.Proofs.YtpohhnihgegmfaaDoor

namespace Go.Proofs.YtpohhnihgegmfaaDoor
open Go.RowKit
set_option linter.unusedVariables false
set_option linter.unusedSimpArgs false

def ctx (n : Nat) (z : Nat → Int) : List UInt8 := if camV n z then txt z n else []
structure CamB (n : Nat) (z : Nat → Int) : Prop where
  n1 : 1 ≤ n
  n2 : n ≤ 260
  b : ∀ j, j < n → 1 ≤ z j ∧ z j ≤ 60
theorem camB_of {n : Nat} {z : Nat → Int} (h : camV n z = true) : CamB n z := by
  rw [camV, Bool.and_eq_true] at h
  have := inB_t.1 h.2
  exact ⟨by omega, by omega, fun j hj => inB_t.1 (camTo_at h.1 hj)⟩
/-- the words -/
def wds (z : Nat → Int) : Nat → List ByteArray
  | 0 => []
  | j + 1 => wds z j ++ [⟨(Lib.itoa (z j)).toArray⟩]
theorem wds_len (z : Nat → Int) (n : Nat) : (wds z n).length = n := by
  induction n with
  | zero => rfl
  | succ n ih => simp [wds, ih]
theorem wds_txt (z : Nat → Int) (n : Nat) : Lib.join ((wds z (n + 1)).map (·.data.toList)) [32] = txt z (n + 1) := by
  induction n with
  | zero => rw [txt_one]; exact Lib.join_one _ _
  | succ n ih =>
    rw [txt_app z (by omega), ← ih]
    obtain ⟨x, r, hx⟩ : ∃ x r, (wds z (n + 1)).map (·.data.toList) = x :: r := by
      cases h : (wds z (n + 1)).map (·.data.toList) with
      | nil => have := wds_len z (n + 1); have h2 := congrArg List.length h; simp [this] at h2
      | cons x r => exact ⟨x, r, rfl⟩
    have e1 : (wds z (n + 1 + 1)).map (·.data.toList) = x :: (r ++ [Lib.itoa (z (n + 1))]) := by
      rw [wds, List.map_append, hx]; simp
    rw [e1, hx, Lib.join_cons, Lib.join_cons]
    simp [Lib.joinTail, List.append_assoc]
theorem info_str : (Tryd.prog.info? 9).map (fun i => (i.zero, i.size, i.bytes)) = some (some (.string ⟨#[]⟩), 1, 16) := by kernel_rfl
/-- 'own = append(own, s)' of texts -/
theorem appt {P : Program} {w : World} {ops : Array Oper} {rest : List Oper} {o : Oper} {A : Act} {Q : Exit → Act → World → Prop} (t e : TypeId) (s x : Operand)
    (hop : o.op = .call { callee := .builtin .append, args := #[s, x], argTypes := #[t, t] }) (hgd : o.guard = none)
    (ht : P.underlying t = some (.slice e)) (hinfo : (P.info? e).map (fun i => (i.zero, i.size, i.bytes)) = some (some (.string ⟨#[]⟩), 1, 16))
    (B : Nat) (v : Value) (n : Nat) (l : List Value) (u : ByteArray) (g : Nat) (hs : A.eval s = v) (hx : A.eval x = .slice (some ⟨g, 0, none⟩) 1 1) (hown : w.ownsRow B e 1 v n l)
    (hc : w.cell? ⟨g, 0, none⟩ = some (.string u)) (hl : n ≤ 1048576) (h0 : B ≤ w.heap.size)
    (hK : ∀ v' w', w'.ownsRow B e 1 v' (n + 1) (l ++ [.string u]) → w.grownBy w' v.ownBlock → wpList P ops Q rest (A.put o.dst v') w') : wpList P ops Q (o :: rest) A w := by
  obtain ⟨i, hi, hz', hsz, hb⟩ := info_parts hinfo
  refine wpList_append_own (P := P) w hgd s x t hop B e i _ 1 16 ht hi hz' hsz hb rfl (by decide) v n l hs hown ⟨g, 0, none⟩ 1 1 [.string u] hx rfl ?_ ?_ (by unfold maxLen; omega) (by omega) h0 ?_
  · intro j z hz
    cases j with
    | zero => simp at hz; subst hz; simpa [Addr.add] using hc
    | succ j => simp at hz
  · intro z hz
    simp at hz; subst hz; rfl
  · intro v' w' h1 h2 _
    exact hK v' w' h1 h2
end Go.Proofs.YtpohhnihgegmfaaDoor

namespace Go.Proofs.YtpohhnihgegmfaaDoor
open Go.RowKit
set_option linter.unusedVariables false
set_option linter.unusedSimpArgs false

theorem extr (s : ByteArray) (a b : Nat) : (s.extract a b).data.toList = (s.data.toList.drop a).take (b - a) := by
  obtain ⟨⟨l⟩⟩ := s
  rw [ByteArray.extract_mk]; first | simp | skip
/-- parts of a text -/
def Parts (c : UInt8) (s : ByteArray) (Ps : List ByteArray) : Prop := Ps.map (·.data.toList) = splitL c s.data.toList
theorem Parts.sz {c : UInt8} {s : ByteArray} {Ps : List ByteArray} (h : Parts c s Ps) : 1 ≤ Ps.length := by
  have h1 := congrArg List.length h
  rw [List.length_map] at h1
  have h2 := List.length_pos_iff.2 (splitL_ne c s.data.toList)
  omega
theorem Parts.len {c : UInt8} {s : ByteArray} {Ps Qs : List ByteArray} (h : Parts c s Ps) (k : Parts c s Qs) : Ps = Qs := by
  have e : Ps.map (·.data.toList) = Qs.map (·.data.toList) := h.trans k.symm
  have hi : ∀ (a b : ByteArray), a.data.toList = b.data.toList → a = b := fun a b e => by apply ByteArray.ext; exact Array.toList_inj.1 e
  clear h k
  induction Ps generalizing Qs with
  | nil => cases Qs with
    | nil => rfl
    | cons q qs => cases e
  | cons p ps ih => cases Qs with
    | nil => cases e
    | cons q qs =>
      rw [List.map_cons, List.map_cons] at e
      injection e with e1 e2
      rw [hi _ _ e1, ih e2]
theorem splitI_c (s : ByteArray) (c : UInt8) (w : World) (hs : s.size ≤ 1048576) (hg : Gl w) :
    Calls Tryd.prog 14 #[.string s, .string ⟨#[c]⟩] w fun e w' => ∃ (Ps : List ByteArray) (g : Nat), e = .returned (.slice (some ⟨g, 0, none⟩) Ps.length Ps.length) ∧ Ext w w' ∧ Blk w' g 9 (Ps.map Value.string).toArray ∧ Parts c s Ps := by
  obtain ⟨m, hm⟩ := hg.ml
  refine (Tryd.strings_Split s ⟨#[c]⟩ m w (by omega) (hm w (Ext.refl _)) (Nat.le_refl 1)).mono ?_
  rintro e w' ⟨rfl, rfl⟩
  have hlen := Lib.splitB_all ⟨#[c]⟩ (Nat.le_refl 1) 0 _ s rfl
  refine ⟨Lib.splitB ⟨#[c]⟩ 0 (Lib.countB s ⟨#[c]⟩) s, w.heap.size, by rw [hlen], (Ext.refl w).alloc _, Blk.new _ _ _, splitB_eq c s⟩
theorem drop_hit {l : List UInt8} {fr i : Nat} {c : UInt8} (h : l[i]? = some c) (hf : fr ≤ i) : l.drop fr = (l.drop fr).take (i - fr) ++ c :: l.drop (i + 1) := by
  have h1 : i < l.length := (List.getElem?_eq_some_iff.1 h).1
  have h2 : (l.drop fr).drop (i - fr) = c :: l.drop (i + 1) := by
    rw [List.drop_drop, show fr + (i - fr) = i by omega, List.drop_eq_getElem_cons h1]
    rw [(List.getElem?_eq_some_iff.1 h).2]
  rw [← h2, List.take_append_drop]
set_option maxRecDepth 100000 in
set_option maxHeartbeats 4000000 in
theorem l01Split_c (s : ByteArray) (c : UInt8) (w : World) (hs : s.size ≤ 1048576) :
    Calls Tryd.prog 17 #[.string s, .int .u8 (c.toNat : Nat)] w fun e w' => ∃ (Ps : List ByteArray) (a : Option Addr) (cap : Nat), e = .returned (.slice a Ps.length cap) ∧ Ext w w' ∧ w'.ownsRow w.heap.size 9 1 (.slice a Ps.length cap) Ps.length (Ps.map Value.string) ∧ Parts c s Ps := by
  go_enter Tryd.func17, Tryd.ntmps17
  go_wp2_with fail
  go_loopw [5, 6, 7] (fun v5 v6 v7 wr => ∃ (i fr : Nat) (Ps : List ByteArray), v6 = .int .i64 (fr : Int) ∧ v7 = .int .i64 (i : Int) ∧ fr ≤ i ∧ i ≤ s.size ∧ Ps.length ≤ i ∧ wr.ownsRow w.heap.size 9 1 v5 Ps.length (Ps.map Value.string) ∧ splitL c s.data.toList = Ps.map (·.data.toList) ++ splitL c (s.data.toList.drop fr) ∧ c ∉ (s.data.toList.drop fr).take (i - fr) ∧ Ext w wr) (fun _ _ v7 _ => s.size - (intOf v7).toNat)
  case atStart => exact ⟨0, 0, [], rfl, rfl, by omega, by omega, by simp, World.ownsRow_made _ #[] 0 (Nat.le_refl _) (Nat.zero_le _) rfl, by simp, by simp, (by repeat (first | with_reducible exact Ext.refl _ | with_reducible assumption | with_reducible refine Ext.alloc ?_ _ | with_reducible refine Ext.drew ?_ | (with_reducible refine Ext.setAt ?_ _ _ _ ?_; rotate_left; omega) | with_reducible refine Ext.trans ?_ (by assumption) | with_reducible exact Past.bel _ | with_reducible refine Ext.trans ?_ (Past.bel _)))⟩
  case round =>
    obtain ⟨i, fr, Ps, rfl, rfl, hf, hi, hp, ho, hsp, hno, hx⟩ := hrel
    have HO := Lib.hid ho
    have HSP := Lib.hid hsp
    have HNO := Lib.hid hno
    have x0 : (0 : Int) ≤ (i : Int) := by omega
    have x5 : (fr : Int) ≤ (i : Int) := by omega
    have x6 : (0 : Int) ≤ (fr : Int) := by omega
    have hsz := hx.size
    clear ho hsp hno
    by_cases hlt : i < s.size
    · have x1 : (i : Int) < (s.size : Int) := by omega
      have x7 : (i : Int) ≤ (s.size : Int) := by omega
      have HB := Lib.hid (byte_at hlt)
      by_cases hc : s[i] = c
      · have z1 : ((s[i].toNat : Int) == (c.toNat : Int)) = true := by rw [hc]; simp
        have HC := Lib.hid hc
        clear hc
        go_wp2_with (at_builtin; refine appt 36 9 _ _ rfl rfl Tryd.underlying36 info_str w.heap.size _ Ps.length (Ps.map Value.string) (s.extract fr i) _ rfl rfl (own_ext HO.out (by repeat (first | with_reducible exact Ext.refl _ | with_reducible assumption | with_reducible refine Ext.alloc ?_ _ | with_reducible refine Ext.drew ?_ | (with_reducible refine Ext.setAt ?_ _ _ _ ?_; rotate_left; omega) | with_reducible refine Ext.trans ?_ (by assumption) | with_reducible exact Past.bel _ | with_reducible refine Ext.trans ?_ (Past.bel _)))) (by simp [go_sem]) (by omega) (Ext.size (by repeat (first | with_reducible exact Ext.refl _ | with_reducible assumption | with_reducible refine Ext.alloc ?_ _ | with_reducible refine Ext.drew ?_ | (with_reducible refine Ext.setAt ?_ _ _ _ ?_; rotate_left; omega) | with_reducible refine Ext.trans ?_ (by assumption) | with_reducible exact Past.bel _ | with_reducible refine Ext.trans ?_ (Past.bel _)))) ?_; intro v6 w6 s6 s7)
        have hx6 : Ext w w6 := by
          refine Ext.grown ?_ s7 (fun q hq => (HO.out.lt q hq).1)
          ((repeat (first | with_reducible exact Ext.refl _ | with_reducible assumption | with_reducible refine Ext.alloc ?_ _ | with_reducible refine Ext.drew ?_ | (with_reducible refine Ext.setAt ?_ _ _ _ ?_; rotate_left; omega) | with_reducible refine Ext.trans ?_ (by assumption) | with_reducible exact Past.bel _ | with_reducible refine Ext.trans ?_ (Past.bel _))); done)
        refine ⟨⟨i + 1, i + 1, Ps ++ [s.extract fr i], by go_num, by go_num, by omega, by omega, by simp; omega, by simpa using s6, ?_, by simp, hx6⟩, by simp [intOf]; omega⟩
        have hh := HB.out
        rw [HC.out] at hh
        rw [HSP.out, List.map_append, List.append_assoc]
        congr 1
        have h9 := drop_hit hh hf
        have h10 := splitL_app c _ (s.data.toList.drop (i + 1)) HNO.out
        rw [← h9] at h10
        rw [h10]; simp [extr]
      · have z1 : ((s[i].toNat : Int) == (c.toNat : Int)) = false := by
          rw [beq_eq_false_iff_ne]; exact fun e => hc (UInt8.toNat.inj (by omega))
        have HC := Lib.hid hc
        clear hc
        go_wp2_with fail
        refine ⟨⟨i + 1, fr, Ps, rfl, by go_num, by omega, by omega, by omega, HO.out, HSP.out, ?_, (by repeat (first | with_reducible exact Ext.refl _ | with_reducible assumption | with_reducible refine Ext.alloc ?_ _ | with_reducible refine Ext.drew ?_ | (with_reducible refine Ext.setAt ?_ _ _ _ ?_; rotate_left; omega) | with_reducible refine Ext.trans ?_ (by assumption) | with_reducible exact Past.bel _ | with_reducible refine Ext.trans ?_ (Past.bel _)))⟩, by simp [intOf]; omega⟩
        have hh := HB.out
        have h9 : (s.data.toList.drop fr)[i - fr]? = some s[i] := by rw [List.getElem?_drop, show fr + (i - fr) = i by omega]; exact hh
        rw [show i + 1 - fr = (i - fr) + 1 by omega, List.take_add_one, h9]
        simp only [List.mem_append, not_or]
        exact ⟨HNO.out, by simpa using fun e => HC.out e.symm⟩
    · obtain rfl : i = s.size := by omega
      have x1 : ¬ (s.size : Int) < (s.size : Int) := by omega
      go_wp2_with (at_builtin; refine appt 36 9 _ _ rfl rfl Tryd.underlying36 info_str w.heap.size _ Ps.length (Ps.map Value.string) (s.extract fr s.size) _ rfl rfl (own_ext HO.out (by repeat (first | with_reducible exact Ext.refl _ | with_reducible assumption | with_reducible refine Ext.alloc ?_ _ | with_reducible refine Ext.drew ?_ | (with_reducible refine Ext.setAt ?_ _ _ _ ?_; rotate_left; omega) | with_reducible refine Ext.trans ?_ (by assumption) | with_reducible exact Past.bel _ | with_reducible refine Ext.trans ?_ (Past.bel _)))) (by simp [go_sem]) (by omega) (Ext.size (by repeat (first | with_reducible exact Ext.refl _ | with_reducible assumption | with_reducible refine Ext.alloc ?_ _ | with_reducible refine Ext.drew ?_ | (with_reducible refine Ext.setAt ?_ _ _ _ ?_; rotate_left; omega) | with_reducible refine Ext.trans ?_ (by assumption) | with_reducible exact Past.bel _ | with_reducible refine Ext.trans ?_ (Past.bel _)))) ?_; intro v6 w6 s6 s7)
      have hx6 : Ext w w6 := by
        refine Ext.grown ?_ s7 (fun q hq => (HO.out.lt q hq).1)
        ((repeat (first | with_reducible exact Ext.refl _ | with_reducible assumption | with_reducible refine Ext.alloc ?_ _ | with_reducible refine Ext.drew ?_ | (with_reducible refine Ext.setAt ?_ _ _ _ ?_; rotate_left; omega) | with_reducible refine Ext.trans ?_ (by assumption) | with_reducible exact Past.bel _ | with_reducible refine Ext.trans ?_ (Past.bel _))); done)
      obtain ⟨b6, c6, rfl⟩ := own_form s6
      go_ret
      refine ⟨Ps ++ [s.extract fr s.size], b6, c6, by simp, hx6, by simpa using s6, ?_⟩
      rw [Parts, HSP.out, List.map_append]
      congr 1
      have hl : s.data.toList.length = s.size := ba_len' s
      have h9 : (s.data.toList.drop fr).take (s.size - fr) = s.data.toList.drop fr := List.take_of_length_le (by rw [List.length_drop]; omega)
      have h10 := HNO.out
      rw [h9] at h10
      rw [splitL_one c _ h10]; simp [extr, h9]
end Go.Proofs.YtpohhnihgegmfaaDoor

namespace Go.Proofs.YtpohhnihgegmfaaDoor
set_option linter.unusedVariables false
open Lib
theorem splitL_len (c : UInt8) : ∀ (l p : List UInt8), p ∈ splitL c l → p.length ≤ l.length
  | [], p, h => by simp [splitL] at h; subst h; simp
  | b :: r, p, h => by
    by_cases hb : b = c
    · subst hb
      rw [splitL_hit] at h
      rcases List.mem_cons.1 h with rfl | h
      · simp
      · have := splitL_len _ r p h; simp; omega
    · obtain ⟨x, xs, h1, h2⟩ := splitL_cons c b r hb
      rw [h2] at h
      rcases List.mem_cons.1 h with rfl | h
      · have := splitL_len c r x (by rw [h1]; simp); simp; omega
      · have := splitL_len c r p (by rw [h1]; simp [h]); simp; omega
theorem dec_no (c : UInt8) (hc : ¬ (48 ≤ c.toNat ∧ c.toNat ≤ 57)) (u : Nat) : c ∉ decDigits u := fun h => by
  obtain ⟨k, hk, e⟩ := List.getElem_of_mem h
  obtain ⟨d, hd⟩ := digit_of_decFrom _ 0 u (decFrom_digits u) k c (by rw [List.getElem?_eq_getElem hk, e])
  exact hc (digitVal_some hd).1
theorem itoa_no {c : UInt8} (hc : ¬ (48 ≤ c.toNat ∧ c.toNat ≤ 57)) {n : Int} (h : 0 ≤ n) : c ∉ itoa n := by
  rcases itoa_cases n with ⟨a, _⟩ | ⟨_, e⟩
  · omega
  · rw [e]; exact dec_no c hc _
/-- three numbers that a date's text can hold -/
def plD (y m d : Int) : Bool := inB y 0 9999 && (inB m 0 9999 && inB d 0 9999)
theorem plD_t {y m d : Int} : plD y m d = true ↔ (0 ≤ y ∧ y ≤ 9999) ∧ (0 ≤ m ∧ m ≤ 9999) ∧ (0 ≤ d ∧ d ≤ 9999) := by
  simp only [plD, Bool.and_eq_true, inB_t]
def dtP (y m d : Int) : List UInt8 := itoa y ++ 45 :: (itoa m ++ 45 :: itoa d)
theorem split_dt {y m d : Int} (h : plD y m d = true) : splitL 45 (dtP y m d) = [itoa y, itoa m, itoa d] := by
  obtain ⟨⟨a, _⟩, ⟨b, _⟩, ⟨c, _⟩⟩ := plD_t.1 h
  have hc : ¬ (48 ≤ (45 : UInt8).toNat ∧ (45 : UInt8).toNat ≤ 57) := by decide
  rw [dtP, splitL_app _ _ _ (itoa_no hc a), splitL_app _ _ _ (itoa_no hc b), splitL_one _ _ (itoa_no hc c)]
/-- what reading a date's text returns -/
structure DR (l : List UInt8) (y m d : Int) (b : Bool) : Prop where
  yes : b = true → plD y m d = true ∧ l = dtP y m d
  no : b = false → (y = 0 ∧ m = 0 ∧ d = 0) ∧ ∀ y' m' d', plD y' m' d' = true → l ≠ dtP y' m' d'
theorem DR.ex (l : List UInt8) : ∃ y m d b, DR l y m d b := by
  by_cases h : ∃ y m d, plD y m d = true ∧ l = dtP y m d
  · obtain ⟨y, m, d, h⟩ := h
    exact ⟨y, m, d, true, fun _ => h, fun e => by cases e⟩
  · exact ⟨0, 0, 0, false, (fun e => by cases e), fun _ => ⟨⟨rfl, rfl, rfl⟩, fun y m d h1 h2 => h ⟨y, m, d, h1, h2⟩⟩⟩
/-- not three parts -/
theorem DR.few {l : List UInt8} {y m d : Int} {b : Bool} (h : DR l y m d b) (hl : (splitL 45 l).length ≠ 3) : b = false := by
  cases b
  · rfl
  · obtain ⟨h1, rfl⟩ := h.yes rfl
    rw [split_dt h1] at hl; exact absurd rfl hl
theorem plD_sm {y m d : Int} (h : plD y m d = true) : Sm y ∧ Sm m ∧ Sm d := by
  have := plD_t.1 h
  exact ⟨⟨by omega, by omega⟩, ⟨by omega, by omega⟩, ⟨by omega, by omega⟩⟩
/-- three parts, each read -/
theorem DR.three {l p0 p1 p2 : List UInt8} {y m d x0 x1 x2 : Int} {b b0 b1 b2 : Bool} (h : DR l y m d b) (hl : splitL 45 l = [p0, p1, p2]) (r0 : RdR p0 x0 b0) (r1 : RdR p1 x1 b1) (r2 : RdR p2 x2 b2) :
    b = (b0 && (b1 && (b2 && plD x0 x1 x2))) ∧ (b = true → y = x0 ∧ m = x1 ∧ d = x2) := by
  have hj : l = p0 ++ 45 :: (p1 ++ 45 :: p2) := by rw [← join_split 45 l, hl]; rfl
  cases b
  · refine ⟨?_, fun e => by cases e⟩
    cases b0
    · rfl
    · cases b1
      · rfl
      · cases b2
        · rfl
        · cases hp : plD x0 x1 x2
          · rfl
          · exact absurd (by rw [hj, ← (r0.yes rfl).1, ← (r1.yes rfl).1, ← (r2.yes rfl).1]; rfl) ((h.no rfl).2 x0 x1 x2 hp)
  · obtain ⟨h1, h2⟩ := h.yes rfl
    have h3 := split_dt h1
    rw [← h2, hl] at h3
    injection h3 with e0 h3; injection h3 with e1 h3; injection h3 with e2 _
    obtain ⟨s0, s1, s2⟩ := plD_sm h1
    have k0 : b0 = true := by
      cases b0
      · exact absurd e0.symm ((r0.no rfl).2 y s0)
      · rfl
    have k1 : b1 = true := by
      cases b1
      · exact absurd e1.symm ((r1.no rfl).2 m s1)
      · rfl
    have k2 : b2 = true := by
      cases b2
      · exact absurd e2.symm ((r2.no rfl).2 d s2)
      · rfl
    have q0 : y = x0 := itoa_inj (e0.symm.trans (r0.yes k0).1.symm)
    have q1 : m = x1 := itoa_inj (e1.symm.trans (r1.yes k1).1.symm)
    have q2 : d = x2 := itoa_inj (e2.symm.trans (r2.yes k2).1.symm)
    refine ⟨?_, fun _ => ⟨q0, q1, q2⟩⟩
    rw [k0, k1, k2, ← q0, ← q1, ← q2, h1]; rfl
end Go.Proofs.YtpohhnihgegmfaaDoor

namespace Go.Proofs.YtpohhnihgegmfaaDoor
open Go.RowKit
set_option linter.unusedVariables false
set_option linter.unusedSimpArgs false

theorem three_of {Ps : List ByteArray} (h : Ps.length = 3) : ∃ p0 p1 p2, Ps = [p0, p1, p2] := by
  match Ps, h with
  | [a, b, c], _ => exact ⟨a, b, c, rfl⟩
theorem Parts.le {c : UInt8} {s : ByteArray} {Ps : List ByteArray} (h : Parts c s Ps) : ∀ p, p ∈ Ps → p.size ≤ s.size := fun p hp => by
  have h1 : p.data.toList ∈ splitL c s.data.toList := by rw [← h]; exact List.mem_map.2 ⟨p, hp, rfl⟩
  have := splitL_len c _ _ h1
  rwa [ba_len', ba_len'] at this
theorem dtx_eq (y m d : Int) : dtx y m d = if plD y m d then dtP y m d else [] := by
  rw [dtx]
  cases h : (inB y 0 9999 && (inB m 0 9999 && inB d 0 9999))
  · rw [show plD y m d = false from h]; rfl
  · rw [show plD y m d = true from h]; simp [dtP]
set_option maxRecDepth 100000 in
set_option maxHeartbeats 4000000 in
theorem l16Read_c (s : ByteArray) (w : World) (hs : s.size ≤ 1048576) {y m d : Int} {b : Bool} (r : DR s.data.toList y m d b) :
    Calls Tryd.prog 13 #[.string s] w fun e w' => e = .returned (.tuple #[.agg #[.int .i64 y, .int .i64 m, .int .i64 d], .bool b]) ∧ Ext w w' := by
  have HR := Lib.hid r
  clear r
  have KD := Blk.new w #[.int .i64 0, .int .i64 0, .int .i64 0] 23
  go_enter Tryd.func13, Tryd.ntmps13
  go_wp2_with fail
  refine (l01Split_c s 45 _ hs).mono ?_
  rintro e w1 ⟨Ps, a, cap, rfl, hx1, ho, hp⟩
  have KD1 := KD.ext hx1
  have e1 : Ext w w1 := Ext.trans (by repeat (first | with_reducible exact Ext.refl _ | with_reducible assumption | with_reducible refine Ext.alloc ?_ _ | with_reducible refine Ext.drew ?_ | (with_reducible refine Ext.setAt ?_ _ _ _ ?_; rotate_left; omega) | with_reducible refine Ext.trans ?_ (by assumption) | with_reducible exact Past.bel _ | with_reducible refine Ext.trans ?_ (Past.bel _))) hx1
  have l1 := KD1.lt
  have d0 : w1.cell? ⟨w.heap.size, 0, none⟩ = some (.int .i64 0) := KD1.cell 0
  have d1 : w1.cell? ⟨w.heap.size, 1, none⟩ = some (.int .i64 0) := KD1.cell 1
  have d2 : w1.cell? ⟨w.heap.size, 2, none⟩ = some (.int .i64 0) := KD1.cell 2
  have f0 := KD1.frozen 0
  have f1 := KD1.frozen 1
  have f2 := KD1.frozen 2
  have HKD := Lib.hid KD1
  clear KD KD1
  by_cases h3 : Ps.length = 3
  · obtain ⟨p0, p1, p2, rfl⟩ := three_of h3
    obtain ⟨g, rfl, _, hg, hc⟩ := own_atK ho (by simp)
    have g0 : w1.cell? ⟨g, 0, none⟩ = some (.string p0) := (hc 0 (by simp)).1
    have g1 : w1.cell? ⟨g, 1, none⟩ = some (.string p1) := (hc 1 (by simp)).1
    have g2 : w1.cell? ⟨g, 2, none⟩ = some (.string p2) := (hc 2 (by simp)).1
    have hl : splitL 45 s.data.toList = [p0.data.toList, p1.data.toList, p2.data.toList] := hp.symm
    obtain ⟨x0, b0, r0⟩ := RdR.ex p0.data.toList
    obtain ⟨x1, b1, r1⟩ := RdR.ex p1.data.toList
    obtain ⟨x2, b2, r2⟩ := RdR.ex p2.data.toList
    obtain ⟨hb, hv⟩ := HR.out.three hl r0 r1 r2
    have N0 := Lib.hid (fun W => l01Number_c p0 W (Nat.le_trans (hp.le p0 (by simp)) hs) r0)
    have N1 := Lib.hid (fun W => l01Number_c p1 W (Nat.le_trans (hp.le p1 (by simp)) hs) r1)
    have N2 := Lib.hid (fun W => l01Number_c p2 W (Nat.le_trans (hp.le p2 (by simp)) hs) r2)
    have HB := Lib.hid hb
    have HV := Lib.hid hv
    have HPL := Lib.hid (fun W => l16Plain_c x0 x1 x2 W)
    clear hb hv ho hc hp h3 r0 r1 r2 hl
    go_wp2_with fail
    refine (N0.out _).mono ?_
    rintro e w2 ⟨rfl, hx2⟩
    obtain ⟨wx2, rfl⟩ := Past.of hx2
    go_wp2_with fail
    refine (N1.out _).mono ?_
    rintro e w3 ⟨rfl, hx3⟩
    obtain ⟨wx3, rfl⟩ := Past.of hx3
    go_wp2_with fail
    refine (N2.out _).mono ?_
    rintro e w4 ⟨rfl, hx4⟩
    have e4 : Ext w w4 := Ext.trans (Ext.trans (Ext.trans e1 hx2) hx3) hx4
    have K4 := ((HKD.out.ext hx2).ext hx3).ext hx4
    have l4 := K4.lt
    clear d0 d1 d2 f0 f1 f2 l1 g0 g1 g2
    have d0 : w4.cell? ⟨w.heap.size, 0, none⟩ = some (.int .i64 0) := K4.cell 0
    have d1 : w4.cell? ⟨w.heap.size, 1, none⟩ = some (.int .i64 0) := K4.cell 1
    have d2 : w4.cell? ⟨w.heap.size, 2, none⟩ = some (.int .i64 0) := K4.cell 2
    have f0 := K4.frozen 0
    have f1 := K4.frozen 1
    have f2 := K4.frozen 2
    have HK4 := Lib.hid K4
    clear K4 hx2 hx3 hx4 HKD
    have HPL2 := Lib.hid (show ∀ W, Calls Tryd.prog 31 #[.agg #[.int .i64 x0, .int .i64 x1, .int .i64 x2]] W fun e w' => e = .returned (.bool (plD x0 x1 x2)) ∧ Ext W w' from fun W => HPL.out W)
    clear HPL
    obtain ⟨P, hP⟩ : ∃ P, P = plD x0 x1 x2 := ⟨_, rfl⟩
    rw [← hP] at HPL2 HB
    clear hP
    have hbb := HB.out
    clear HB
    cases b0 <;> cases b1 <;> cases b2
    all_goals
      simp only [Bool.and_true, Bool.and_false, Bool.false_and, Bool.true_and] at hbb
    case true.true.true =>
      go_wp2_with fail
      refine (HPL2.out _).mono ?_
      rintro e w5 ⟨rfl, hx5⟩
      have K5 := (HK4.out.ext (Ext.alloc (Ext.refl _) _)).ext hx5
      have e5 : Ext w w5 := Ext.trans (Ext.alloc e4 _) hx5
      have l5 := K5.lt
      clear d0 d1 d2 f0 f1 f2 l4
      have d0 : w5.cell? ⟨w.heap.size, 0, none⟩ = some (.int .i64 0) := K5.cell 0
      have d1 : w5.cell? ⟨w.heap.size, 1, none⟩ = some (.int .i64 0) := K5.cell 1
      have d2 : w5.cell? ⟨w.heap.size, 2, none⟩ = some (.int .i64 0) := K5.cell 2
      have f0 := K5.frozen 0
      have f1 := K5.frozen 1
      have f2 := K5.frozen 2
      have Q5 := (Blk.new w4 #[.int .i64 x0, .int .i64 x1, .int .i64 x2] 23).ext hx5
      have q0 : w5.cell? ⟨w4.heap.size, 0, none⟩ = some (.int .i64 x0) := Q5.cell 0
      have q1 : w5.cell? ⟨w4.heap.size, 1, none⟩ = some (.int .i64 x1) := Q5.cell 1
      have q2 : w5.cell? ⟨w4.heap.size, 2, none⟩ = some (.int .i64 x2) := Q5.cell 2
      clear K5 HK4 hx5 Q5
      cases P
      · subst hbb
        obtain ⟨⟨rfl, rfl, rfl⟩, -⟩ := HR.out.no rfl
        clear HR HV
        go_wp2_with fail
        refine bodyPost_ret (v := .tuple #[.agg #[.int .i64 0, .int .i64 0, .int .i64 0], .bool false]) (by simp [results, Tryd.results13, go_sem, d0, d1, d2]) rfl ⟨rfl, ?_⟩
        exact Ext.setAt (Ext.setAt (Ext.setAt e5 _ _ _ (Nat.le_refl _)) _ _ _ (Nat.le_refl _)) _ _ _ (Nat.le_refl _)
      · subst hbb
        obtain ⟨rfl, rfl, rfl⟩ := HV.out rfl
        clear HR HV
        go_wp2_with fail
        refine bodyPost_ret (v := .tuple #[.agg #[.int .i64 y, .int .i64 m, .int .i64 d], .bool true]) (by simp [results, Tryd.results13, go_sem, d0, d1, d2]) rfl ⟨rfl, ?_⟩
        exact Ext.setAt (Ext.setAt (Ext.setAt e5 _ _ _ (Nat.le_refl _)) _ _ _ (Nat.le_refl _)) _ _ _ (Nat.le_refl _)
    all_goals
      subst hbb
      obtain ⟨⟨rfl, rfl, rfl⟩, -⟩ := HR.out.no rfl
      clear HV HR HPL2
      go_wp2_with fail
      refine bodyPost_ret (v := .tuple #[.agg #[.int .i64 0, .int .i64 0, .int .i64 0], .bool false]) (by simp [results, Tryd.results13, go_sem, d0, d1, d2, l4]) rfl ⟨rfl, ?_⟩
      first
        | exact Ext.setAt (Ext.setAt (Ext.setAt e4 _ _ _ (Nat.le_refl _)) _ _ _ (Nat.le_refl _)) _ _ _ (Nat.le_refl _)
        | exact Ext.alloc (Ext.setAt (Ext.setAt (Ext.setAt e4 _ _ _ (Nat.le_refl _)) _ _ _ (Nat.le_refl _)) _ _ _ (Nat.le_refl _)) _
  · have hb := HR.out.few (by rw [← hp, List.length_map]; exact h3)
    subst hb
    obtain ⟨⟨rfl, rfl, rfl⟩, -⟩ := HR.out.no rfl
    have z1 : ((Ps.length : Int) != 3) = true := by simp; omega
    clear ho hp
    go_wp2_with fail
    refine bodyPost_ret (v := .tuple #[.agg #[.int .i64 0, .int .i64 0, .int .i64 0], .bool false]) (by simp [results, Tryd.results13, go_sem, d0, d1, d2]) rfl ⟨rfl, ?_⟩
    exact Ext.setAt (Ext.setAt (Ext.setAt e1 _ _ _ (Nat.le_refl _)) _ _ _ (Nat.le_refl _)) _ _ _ (Nat.le_refl _)
theorem ReadDate_c (s : ByteArray) (w : World) (hs : s.size ≤ 1048576) {y m d : Int} {b : Bool} (r : DR s.data.toList y m d b) :
    Calls Tryd.prog 5 #[.string s] w fun e w' => e = .returned (.tuple #[.agg #[.int .i64 y, .int .i64 m, .int .i64 d], .bool b]) ∧ Ext w w' := by
  have HR := Lib.hid (fun W => l16Read_c s W hs r)
  clear r
  have KD := Blk.new w #[.int .i64 0, .int .i64 0, .int .i64 0] 23
  go_enter Tryd.func5, Tryd.ntmps5
  go_wp2_with fail
  refine (HR.out _).mono ?_
  rintro e w1 ⟨rfl, hx1⟩
  have KD1 := KD.ext hx1
  have e1 : Ext w w1 := Ext.trans (by repeat (first | with_reducible exact Ext.refl _ | with_reducible assumption | with_reducible refine Ext.alloc ?_ _ | with_reducible refine Ext.drew ?_ | (with_reducible refine Ext.setAt ?_ _ _ _ ?_; rotate_left; omega) | with_reducible refine Ext.trans ?_ (by assumption) | with_reducible exact Past.bel _ | with_reducible refine Ext.trans ?_ (Past.bel _))) hx1
  have l1 := KD1.lt
  have d0 : w1.cell? ⟨w.heap.size, 0, none⟩ = some (.int .i64 0) := KD1.cell 0
  have d1 : w1.cell? ⟨w.heap.size, 1, none⟩ = some (.int .i64 0) := KD1.cell 1
  have d2 : w1.cell? ⟨w.heap.size, 2, none⟩ = some (.int .i64 0) := KD1.cell 2
  have f0 := KD1.frozen 0
  have f1 := KD1.frozen 1
  have f2 := KD1.frozen 2
  clear KD KD1 hx1
  go_wp2_with fail
  refine bodyPost_ret (v := .tuple #[.agg #[.int .i64 y, .int .i64 m, .int .i64 d], .bool b]) (by simp [results, Tryd.results5, go_sem, d0, d1, d2]) rfl ⟨rfl, ?_⟩
  exact Ext.setAt (Ext.setAt (Ext.setAt e1 _ _ _ (Nat.le_refl _)) _ _ _ (Nat.le_refl _)) _ _ _ (Nat.le_refl _)
end Go.Proofs.YtpohhnihgegmfaaDoor

namespace Go.Proofs.YtpohhnihgegmfaaDoor
open Go.RowKit
set_option linter.unusedVariables false
set_option linter.unusedSimpArgs false

theorem DR.text {l p0 p1 p2 : List UInt8} {y m d x0 x1 x2 : Int} {b b0 b1 b2 : Bool} (h : DR l y m d b) (hl : splitL 45 l = [p0, p1, p2]) (r0 : RdR p0 x0 b0) (r1 : RdR p1 x1 b1) (r2 : RdR p2 x2 b2) :
    (dtx x0 x1 x2 = l ↔ b = true) ∧ (b = true → y = x0 ∧ m = x1 ∧ d = x2) := by
  obtain ⟨hb, hv⟩ := h.three hl r0 r1 r2
  refine ⟨⟨fun e => ?_, fun e => ?_⟩, hv⟩
  · rw [dtx_eq] at e
    cases hp : plD x0 x1 x2
    · rw [hp] at e
      subst e
      simp [splitL] at hl
    · rw [hp] at e
      cases b
      · exact absurd e.symm ((h.no rfl).2 x0 x1 x2 hp)
      · rfl
  · obtain ⟨rfl, rfl, rfl⟩ := hv e
    obtain ⟨h1, h2⟩ := h.yes e
    rw [dtx_eq, h1, h2]; rfl
/-- three numbers, as many read as the round says -/
def A3 (x0 x1 x2 : Int) (j : Nat) : Array Value := #[.int .i64 (if 0 < j then x0 else 0), .int .i64 (if 1 < j then x1 else 0), .int .i64 (if 2 < j then x2 else 0)]
theorem A3_0 (x0 x1 x2 : Int) : A3 x0 x1 x2 0 = #[.int .i64 0, .int .i64 0, .int .i64 0] := rfl
theorem A3_1 (x0 x1 x2 : Int) : A3 x0 x1 x2 1 = #[.int .i64 x0, .int .i64 0, .int .i64 0] := rfl
theorem A3_2 (x0 x1 x2 : Int) : A3 x0 x1 x2 2 = #[.int .i64 x0, .int .i64 x1, .int .i64 0] := rfl
theorem A3_3 (x0 x1 x2 : Int) : A3 x0 x1 x2 3 = #[.int .i64 x0, .int .i64 x1, .int .i64 x2] := rfl
set_option maxRecDepth 100000 in
set_option maxHeartbeats 4000000 in
theorem implReadDate_c (s : ByteArray) (w : World) (hs : s.size ≤ 1048576) (hg : Gl w) {y m d : Int} {b : Bool} (r : DR s.data.toList y m d b) :
    Calls Tryd.prog 6 #[.string s] w fun e w' => e = .returned (.tuple #[.agg #[.int .i64 y, .int .i64 m, .int .i64 d], .bool b]) ∧ Ext w w' := by
  have HR := Lib.hid r
  have HG := Lib.hid hg
  clear r hg
  have KD := Blk.new w #[.int .i64 0, .int .i64 0, .int .i64 0] 23
  go_enter Tryd.func6, Tryd.ntmps6
  go_wp2_with fail
  refine (splitI_c s 45 _ hs (HG.out.ext (by repeat (first | with_reducible exact Ext.refl _ | with_reducible assumption | with_reducible refine Ext.alloc ?_ _ | with_reducible refine Ext.drew ?_ | (with_reducible refine Ext.setAt ?_ _ _ _ ?_; rotate_left; omega) | with_reducible refine Ext.trans ?_ (by assumption) | with_reducible exact Past.bel _ | with_reducible refine Ext.trans ?_ (Past.bel _))))).mono ?_
  rintro e w1 ⟨Ps, g, rfl, hx1, kb, hp⟩
  have KD1 := KD.ext hx1
  have e1 : Ext w w1 := Ext.trans (by repeat (first | with_reducible exact Ext.refl _ | with_reducible assumption | with_reducible refine Ext.alloc ?_ _ | with_reducible refine Ext.drew ?_ | (with_reducible refine Ext.setAt ?_ _ _ _ ?_; rotate_left; omega) | with_reducible refine Ext.trans ?_ (by assumption) | with_reducible exact Past.bel _ | with_reducible refine Ext.trans ?_ (Past.bel _))) hx1
  have l1 := KD1.lt
  have HKD := Lib.hid KD1
  by_cases h3 : Ps.length = 3
  · obtain ⟨p0, p1, p2, rfl⟩ := three_of h3
    have hl : splitL 45 s.data.toList = [p0.data.toList, p1.data.toList, p2.data.toList] := hp.symm
    obtain ⟨x0, b0, r0⟩ := RdR.ex p0.data.toList
    obtain ⟨x1, b1, r1⟩ := RdR.ex p1.data.toList
    obtain ⟨x2, b2, r2⟩ := RdR.ex p2.data.toList
    obtain ⟨hb, hv⟩ := HR.out.text hl r0 r1 r2
    have N0 := Lib.hid (fun W hW => implReadDecimal_c p0 W (Nat.le_trans (hp.le p0 (by simp)) hs) hW r0)
    have N1 := Lib.hid (fun W hW => implReadDecimal_c p1 W (Nat.le_trans (hp.le p1 (by simp)) hs) hW r1)
    have N2 := Lib.hid (fun W hW => implReadDecimal_c p2 W (Nat.le_trans (hp.le p2 (by simp)) hs) hW r2)
    have HB := Lib.hid hb
    have HV := Lib.hid hv
    have KB := Lib.hid kb
    have hgl := kb.lt
    clear hb hv hp h3 r0 r1 r2 hl kb KD KD1 hx1
    go_wp2_with fail
    go_loopw [17] (fun i wr => ∃ j : Nat, j ≤ 3 ∧ i = .int .i64 (j : Int) ∧ Blk wr w1.heap.size 38 (A3 x0 x1 x2 j) ∧ Ext w1 wr) (fun i _ => 3 - (intOf i).toNat)
    case atStart => exact ⟨0, by omega, rfl, Blk.new _ _ _, (Ext.refl w1).alloc _⟩
    case round =>
      obtain ⟨j, hj, rfl, ha, hx⟩ := hrel
      have la := ha.lt
      obtain rfl | rfl | rfl | rfl : j = 0 ∨ j = 1 ∨ j = 2 ∨ j = 3 := by omega
      case inl =>
        have q0 := (KB.out.ext hx).cell 0
        rw [show ([p0, p1, p2].map Value.string).toArray[0]? = some (.string p0) from rfl] at q0
        have HA := Lib.hid ha
        clear ha
        go_wp2_with fail
        refine (N0.out _ (HG.out.ext (Ext.trans e1 hx))).mono ?_
        rintro e w2 ⟨rfl, hx2⟩
        have K2 := HA.out.ext hx2
        have l2 := K2.lt
        have c0 := K2.cell 0
        have f0 := K2.frozen 0
        rw [A3_0] at c0
        have HK2 := Lib.hid K2
        clear K2 HA q0 la
        go_wp2_with fail
        exact ⟨⟨1, by omega, by go_num, HK2.out.set 0 _, Ext.setAt (Ext.trans hx hx2) _ _ _ (Nat.le_refl _)⟩, by simp [intOf]⟩
      case inr.inl =>
        have q0 := (KB.out.ext hx).cell 1
        rw [show ([p0, p1, p2].map Value.string).toArray[1]? = some (.string p1) from rfl] at q0
        have HA := Lib.hid ha
        clear ha
        go_wp2_with fail
        refine (N1.out _ (HG.out.ext (Ext.trans e1 hx))).mono ?_
        rintro e w2 ⟨rfl, hx2⟩
        have K2 := HA.out.ext hx2
        have l2 := K2.lt
        have c0 := K2.cell 1
        have f0 := K2.frozen 1
        rw [A3_1] at c0
        have HK2 := Lib.hid K2
        clear K2 HA q0 la
        go_wp2_with fail
        exact ⟨⟨2, by omega, by go_num, HK2.out.set 1 _, Ext.setAt (Ext.trans hx hx2) _ _ _ (Nat.le_refl _)⟩, by simp [intOf]⟩
      case inr.inr.inl =>
        have q0 := (KB.out.ext hx).cell 2
        rw [show ([p0, p1, p2].map Value.string).toArray[2]? = some (.string p2) from rfl] at q0
        have HA := Lib.hid ha
        clear ha
        go_wp2_with fail
        refine (N2.out _ (HG.out.ext (Ext.trans e1 hx))).mono ?_
        rintro e w2 ⟨rfl, hx2⟩
        have K2 := HA.out.ext hx2
        have l2 := K2.lt
        have c0 := K2.cell 2
        have f0 := K2.frozen 2
        rw [A3_2] at c0
        have HK2 := Lib.hid K2
        clear K2 HA q0 la
        go_wp2_with fail
        exact ⟨⟨3, by omega, by go_num, HK2.out.set 2 _, Ext.setAt (Ext.trans hx hx2) _ _ _ (Nat.le_refl _)⟩, by simp [intOf]⟩
      case inr.inr.inr =>
        rw [A3_3] at ha
        have a0 := ha.cell 0
        have a1 := ha.cell 1
        have a2 := ha.cell 2
        have HT := Lib.hid (fun W hW => implDateText_c x0 x1 x2 W hW)
        clear ha
        obtain ⟨T, hT⟩ : ∃ T, T = dtx x0 x1 x2 := ⟨_, rfl⟩
        rw [← hT] at HT HB
        clear hT
        go_wp2_with fail
        refine (HT.out _ (HG.out.tab.ext (Ext.trans e1 (Ext.alloc hx _)))).mono ?_
        rintro e w3 ⟨rfl, hx3⟩
        have Q3 := (Blk.new _ #[.int .i64 x0, .int .i64 x1, .int .i64 x2] 23).ext hx3
        have e3 : Ext w1 w3 := Ext.trans (Ext.alloc hx _) hx3
        have K3 := HKD.out.ext e3
        have l3 := K3.lt
        have d0 := K3.cell 0
        have d1 := K3.cell 1
        have d2 := K3.cell 2
        have f0 := K3.frozen 0
        have f1 := K3.frozen 1
        have f2 := K3.frozen 2
        have q0 := Q3.cell 0
        have q1 := Q3.cell 1
        have q2 := Q3.cell 2
        have HK3 := Lib.hid K3
        clear K3 Q3 hx3 a0 a1 a2 hx HKD KB N0 N1 N2 HT
        cases b
        · obtain ⟨⟨rfl, rfl, rfl⟩, -⟩ := HR.out.no rfl
          have z1 : (T == s.toList) = false := by
            rw [beq_eq_false_iff_ne]
            exact fun e => by cases HB.out.1 (e.trans (ByteArray.toList_eq s))
          clear HR HV HB
          go_wp2_with fail
          refine bodyPost_ret (v := .tuple #[.agg #[.int .i64 0, .int .i64 0, .int .i64 0], .bool false]) (by simp [results, Tryd.results6, go_sem, d0, d1, d2]) rfl ⟨rfl, ?_⟩
          exact Ext.setAt (Ext.setAt (Ext.setAt (Ext.trans e1 e3) _ _ _ (Nat.le_refl _)) _ _ _ (Nat.le_refl _)) _ _ _ (Nat.le_refl _)
        · obtain ⟨rfl, rfl, rfl⟩ := HV.out rfl
          obtain rfl : s = ⟨T.toArray⟩ := by rw [HB.out.2 rfl]
          clear HR HV HB
          go_wp2_with fail
          refine bodyPost_ret (v := .tuple #[.agg #[.int .i64 y, .int .i64 m, .int .i64 d], .bool true]) (by simp [results, Tryd.results6, go_sem, d0, d1, d2]) rfl ⟨rfl, ?_⟩
          exact Ext.setAt (Ext.setAt (Ext.setAt (Ext.trans e1 e3) _ _ _ (Nat.le_refl _)) _ _ _ (Nat.le_refl _)) _ _ _ (Nat.le_refl _)
  · have hb := HR.out.few (by rw [← hp, List.length_map]; exact h3)
    subst hb
    obtain ⟨⟨rfl, rfl, rfl⟩, -⟩ := HR.out.no rfl
    have z1 : ((Ps.length : Int) != 3) = true := by simp; omega
    have d0 : w1.cell? ⟨w.heap.size, 0, none⟩ = some (.int .i64 0) := KD1.cell 0
    have d1 : w1.cell? ⟨w.heap.size, 1, none⟩ = some (.int .i64 0) := KD1.cell 1
    have d2 : w1.cell? ⟨w.heap.size, 2, none⟩ = some (.int .i64 0) := KD1.cell 2
    have f0 := KD1.frozen 0
    have f1 := KD1.frozen 1
    have f2 := KD1.frozen 2
    clear hp kb KD KD1 hx1 HKD
    go_wp2_with fail
    refine bodyPost_ret (v := .tuple #[.agg #[.int .i64 0, .int .i64 0, .int .i64 0], .bool false]) (by simp [results, Tryd.results6, go_sem, d0, d1, d2]) rfl ⟨rfl, ?_⟩
    exact Ext.setAt (Ext.setAt (Ext.setAt e1 _ _ _ (Nat.le_refl _)) _ _ _ (Nat.le_refl _)) _ _ _ (Nat.le_refl _)
end Go.Proofs.YtpohhnihgegmfaaDoor

namespace Go.Proofs.YtpohhnihgegmfaaDoor
set_option linter.unusedVariables false
/-- none of the first j names is the one at place k -/
def frTo (nm : Nat → ByteArray) (k : Nat) : Nat → Bool
  | 0 => true
  | j + 1 => frTo nm k j && !decide (nm j = nm k)
theorem frTo_ff {nm : Nat → ByteArray} {k n j : Nat} (hj : j < n) (h : nm j = nm k) : frTo nm k n = false := by
  induction n with
  | zero => omega
  | succ n ih =>
    by_cases e : j = n
    · subst e; simp [frTo, h]
    · simp only [frTo, ih (by omega), Bool.false_and]
theorem frTo_at {nm : Nat → ByteArray} {k n j : Nat} (h : frTo nm k n = true) (hj : j < n) : ¬ nm j = nm k := fun e => by rw [frTo_ff hj e] at h; cases h
/-- month k is valid, as the one behind the first k -/
def monA (nm : Nat → ByteArray) (dy lp : Nat → Int) (k : Nat) : Bool := isNm (nm k) && (inB (dy k) 1 60 && (inB (lp k) 1 60 && frTo nm k k))
def monTo (nm : Nat → ByteArray) (dy lp : Nat → Int) : Nat → Bool
  | 0 => true
  | k + 1 => monTo nm dy lp k && monA nm dy lp k
theorem monTo_ff {nm : Nat → ByteArray} {dy lp : Nat → Int} {n k : Nat} (hk : k < n) (h : monA nm dy lp k = false) : monTo nm dy lp n = false := by
  induction n with
  | zero => omega
  | succ n ih =>
    by_cases e : k = n
    · subst e; simp only [monTo, h, Bool.and_false]
    · simp only [monTo, ih (by omega), Bool.false_and]
theorem monTo_at {nm : Nat → ByteArray} {dy lp : Nat → Int} {n k : Nat} (h : monTo nm dy lp n = true) (hk : k < n) : monA nm dy lp k = true := by
  cases e : monA nm dy lp k
  · rw [monTo_ff hk e] at h; cases h
  · rfl
theorem monA_1 {nm : Nat → ByteArray} {dy lp : Nat → Int} {k : Nat} (h : isNm (nm k) = false) : monA nm dy lp k = false := by simp [monA, h]
theorem monA_2 {nm : Nat → ByteArray} {dy lp : Nat → Int} {k : Nat} (h : inB (dy k) 1 60 = false) : monA nm dy lp k = false := by simp [monA, h]
theorem monA_3 {nm : Nat → ByteArray} {dy lp : Nat → Int} {k : Nat} (h : inB (lp k) 1 60 = false) : monA nm dy lp k = false := by simp [monA, h]
theorem monA_4 {nm : Nat → ByteArray} {dy lp : Nat → Int} {k : Nat} (h : frTo nm k k = false) : monA nm dy lp k = false := by simp [monA, h]
theorem monA_t {nm : Nat → ByteArray} {dy lp : Nat → Int} {k : Nat} (h1 : isNm (nm k) = true) (h2 : inB (dy k) 1 60 = true) (h3 : inB (lp k) 1 60 = true) (h4 : frTo nm k k = true) : monA nm dy lp k = true := by simp [monA, h1, h2, h3, h4]
def monB (nm : Nat → ByteArray) (dy lp : Nat → Int) (n : Nat) : Bool := monTo nm dy lp n && inB (n : Int) 1 20
/-- a calendar is valid: its name, the names of its months, its numbers, its week -/
def calB (s : ByteArray) (nm : Nat → ByteArray) (c : CalN) (wk : Int) : Bool := rulB c.ev c.rs c.nr && (isNm s && (monB nm c.dy c.lp c.n && inB wk 1 12))
theorem calB_b {s : ByteArray} {nm : Nat → ByteArray} {c : CalN} {wk : Int} (h : calB s nm c wk = true) : CalB c := by
  simp only [calB, monB, rulB, Bool.and_eq_true, decide_eq_true_eq, inB_t] at h
  obtain ⟨⟨⟨h1, h2⟩, h3⟩, h4, ⟨h5, h6⟩, h7⟩ := h
  have hm : ∀ j, j < c.n → inB (c.dy j) 1 60 = true ∧ inB (c.lp j) 1 60 = true := fun j hj => by
    have := monTo_at h5 hj
    simp only [monA, Bool.and_eq_true] at this
    exact ⟨this.2.1, this.2.2.1⟩
  exact ⟨h3, by omega, by omega, fun j hj => (rulTo_at h1 hj).1, fun j hj => (rulTo_at h1 hj).2, fun j hj => inB_t.1 (hm j hj).1, fun j hj => inB_t.1 (hm j hj).2, h2⟩
section
variable {s : ByteArray} {nm : Nat → ByteArray} {c : CalN} {wk : Int}
theorem calB_1 (h : isNm s = false) : calB s nm c wk = false := by simp [calB, h]
theorem calB_2 (h : inB (c.n : Int) 1 20 = false) : calB s nm c wk = false := by simp [calB, monB, h]
theorem calB_3 (h : 6 < c.nr) : calB s nm c wk = false := by simp [calB, rulB]; omega
theorem calB_4 (h : inB wk 1 12 = false) : calB s nm c wk = false := by simp [calB, h]
theorem calB_5 {k : Nat} (hk : k < c.n) (h : monA nm c.dy c.lp k = false) : calB s nm c wk = false := by simp [calB, monB, monTo_ff hk h]
theorem calB_6 {k : Nat} (hk : k < c.nr) (h : (inB (c.ev k) 1 1000 && inB (c.rs k) 0 (c.ev k - 1)) = false) : calB s nm c wk = false := by simp only [calB, rulB_bad hk h, Bool.false_and]
theorem calB_7 (h1 : isNm s = true) (h2 : inB (c.n : Int) 1 20 = true) (h3 : c.nr ≤ 6) (h4 : inB wk 1 12 = true) (h5 : monTo nm c.dy c.lp c.n = true) (h6 : rulTo c.ev c.rs c.nr = true) : calB s nm c wk = decide (cyY c.ev c.nr ≤ 2000) := by simp [calB, monB, rulB, h1, h2, h3, h4, h5, h6]
end
end Go.Proofs.YtpohhnihgegmfaaDoor

namespace Go.Proofs.YtpohhnihgegmfaaDoor
open Go.RowKit
set_option linter.unusedVariables false
set_option linter.unusedSimpArgs false

theorem bs_ne {x y : ByteArray} (h : ¬ x = y) : (x.toList == y.toList) = false := by
  simp only [ByteArray.toList_eq, beq_eq_false_iff_ne, ne_eq]
  intro e
  obtain ⟨⟨a⟩⟩ := x; obtain ⟨⟨b⟩⟩ := y
  simp only at e; subst e; exact h rfl
theorem bs_eq {x y : ByteArray} (h : x = y) : (x.toList == y.toList) = true := by subst h; simp
set_option maxHeartbeats 2000000 in
theorem l15Months_c (a : Option Addr) (n c : Nat) (nm : Nat → ByteArray) (dy lp : Nat → Int) (w : World) (hn : n ≤ 1048576) (hs : S3 w a n nm dy lp) (hz : ∀ i, i < n → (nm i).size ≤ 9223372036854775807) :
    Calls Tryd.prog 64 #[.slice a n c] w fun e w' => e = .returned (.bool (monB nm dy lp n)) ∧ Ext w w' := by
  have HS := Lib.hid hs
  have HZ := Lib.hid hz
  clear hs hz
  go_enter Tryd.func64, Tryd.ntmps64
  go_wp2_with fail
  go_loopw [3] (fun i wr => ∃ j : Nat, j ≤ n ∧ i = .int .i64 j ∧ monTo nm dy lp j = true ∧ Ext w wr) (fun i _ => n - (intOf i).toNat)
  case atStart => exact ⟨0, by omega, rfl, rfl, (by repeat (first | with_reducible exact Ext.refl _ | with_reducible assumption | with_reducible refine Ext.alloc ?_ _ | with_reducible refine Ext.drew ?_ | (with_reducible refine Ext.setAt ?_ _ _ _ ?_; rotate_left; omega) | with_reducible refine Ext.trans ?_ (by assumption) | with_reducible exact Past.bel _ | with_reducible refine Ext.trans ?_ (Past.bel _)))⟩
  case round =>
    obtain ⟨j, hj, rfl, hr, hbl⟩ := hrel
    have HR := Lib.hid hr
    clear hr
    by_cases hlt : j < n
    · have hsr := S3.ext HS.out hbl
      have HSR := Lib.hid hsr
      obtain ⟨b1, o1, rfl, hb1, q1, q2, q3⟩ := hsr.at hlt
      clear hsr
      have zj := HZ.out j hlt
      cases h1 : isNm (nm j)
      · go_wp2_with (go_at_call 63; ((with_reducible refine (specIsName_c _ _ zj).mono ?_); rintro e w' ⟨rfl, rfl⟩))
        go_ret
        exact ⟨ret_bool (by unfold monB; rw [monTo_ff hlt (monA_1 h1)]; rfl), (by repeat (first | with_reducible exact Ext.refl _ | with_reducible assumption | with_reducible refine Ext.alloc ?_ _ | with_reducible refine Ext.drew ?_ | (with_reducible refine Ext.setAt ?_ _ _ _ ?_; rotate_left; omega) | with_reducible refine Ext.trans ?_ (by assumption) | with_reducible exact Past.bel _ | with_reducible refine Ext.trans ?_ (Past.bel _)))⟩
      · cases h2 : inB (dy j) 1 60
        · go_wp2_with (first | (go_at_call 63; ((with_reducible refine (specIsName_c _ _ zj).mono ?_); rintro e w' ⟨rfl, rfl⟩)) | (go_at_call 37; ((with_reducible refine (l00In_c _ _ _ _).mono ?_); rintro e w' ⟨rfl, rfl⟩)))
          go_ret
          exact ⟨ret_bool (by unfold monB; rw [monTo_ff hlt (monA_2 h2)]; rfl), (by repeat (first | with_reducible exact Ext.refl _ | with_reducible assumption | with_reducible refine Ext.alloc ?_ _ | with_reducible refine Ext.drew ?_ | (with_reducible refine Ext.setAt ?_ _ _ _ ?_; rotate_left; omega) | with_reducible refine Ext.trans ?_ (by assumption) | with_reducible exact Past.bel _ | with_reducible refine Ext.trans ?_ (Past.bel _)))⟩
        · cases h3 : inB (lp j) 1 60
          · go_wp2_with (first | (go_at_call 63; ((with_reducible refine (specIsName_c _ _ zj).mono ?_); rintro e w' ⟨rfl, rfl⟩)) | (go_at_call 37; ((with_reducible refine (l00In_c _ _ _ _).mono ?_); rintro e w' ⟨rfl, rfl⟩)))
            go_ret
            exact ⟨ret_bool (by unfold monB; rw [monTo_ff hlt (monA_3 h3)]; rfl), (by repeat (first | with_reducible exact Ext.refl _ | with_reducible assumption | with_reducible refine Ext.alloc ?_ _ | with_reducible refine Ext.drew ?_ | (with_reducible refine Ext.setAt ?_ _ _ _ ?_; rotate_left; omega) | with_reducible refine Ext.trans ?_ (by assumption) | with_reducible exact Past.bel _ | with_reducible refine Ext.trans ?_ (Past.bel _)))⟩
          · go_wp2_with (first | (go_at_call 63; ((with_reducible refine (specIsName_c _ _ zj).mono ?_); rintro e w' ⟨rfl, rfl⟩)) | (go_at_call 37; ((with_reducible refine (l00In_c _ _ _ _).mono ?_); rintro e w' ⟨rfl, rfl⟩)))
            have H1 := Lib.hid h1; have H2 := Lib.hid h2; have H3 := Lib.hid h3
            clear h1 h2 h3 q1 q2 q3
            go_loopw [4] (fun k ws => ∃ i : Nat, i ≤ j ∧ k = .int .i64 i ∧ frTo nm j i = true ∧ Ext wr ws) (fun k _ => j - (intOf k).toNat)
            case atStart => exact ⟨0, by omega, rfl, rfl, (by repeat (first | with_reducible exact Ext.refl _ | with_reducible assumption | with_reducible refine Ext.alloc ?_ _ | with_reducible refine Ext.drew ?_ | (with_reducible refine Ext.setAt ?_ _ _ _ ?_; rotate_left; omega) | with_reducible refine Ext.trans ?_ (by assumption) | with_reducible exact Past.bel _ | with_reducible refine Ext.trans ?_ (Past.bel _)))⟩
            case round =>
              obtain ⟨i, hi, rfl, hf, hbl2⟩ := hrel
              have HF := Lib.hid hf
              clear hf
              by_cases hij : i < j
              · obtain ⟨b1, o1, e1, hb1, q1, _, _⟩ := (S3.ext HSR.out hbl2).at (show i < n by omega)
                obtain ⟨b2, o2, e2, hb2, q2, _, _⟩ := (S3.ext HSR.out hbl2).at hlt
                cases e1
                cases e2
                by_cases e : nm i = nm j
                · have d1 : decide (nm i = nm j) = true := by simpa using e
                  have d2 := bs_eq e
                  have E := Lib.hid e
                  clear e
                  go_wp2_with fail
                  refine wp_region_past (by kernel_rfl) (by kernel_rfl) ?_
                  repeat (go_big_quiet_step (fail))
                  refine wpQuiet_nil ?_
                  rintro _ ⟨wx, rfl⟩
                  go_wp2_with fail
                  go_ret
                  exact ⟨ret_bool (by unfold monB; rw [monTo_ff hlt (monA_4 (frTo_ff hij E.out))]; rfl), (by repeat (first | with_reducible exact Ext.refl _ | with_reducible assumption | with_reducible refine Ext.alloc ?_ _ | with_reducible refine Ext.drew ?_ | (with_reducible refine Ext.setAt ?_ _ _ _ ?_; rotate_left; omega) | with_reducible refine Ext.trans ?_ (by assumption) | with_reducible exact Past.bel _ | with_reducible refine Ext.trans ?_ (Past.bel _)))⟩
                · have d1 : decide (nm i = nm j) = false := by simpa using e
                  have d2 := bs_ne e
                  have E := Lib.hid e
                  clear e
                  go_wp2_with fail
                  refine wp_region_past (by kernel_rfl) (by kernel_rfl) ?_
                  repeat (go_big_quiet_step (fail))
                  refine wpQuiet_nil ?_
                  rintro _ ⟨wx, rfl⟩
                  go_wp2_with fail
                  exact ⟨⟨i + 1, by omega, by go_num, by simp only [frTo, HF.out, d1]; rfl, (by repeat (first | with_reducible exact Ext.refl _ | with_reducible assumption | with_reducible refine Ext.alloc ?_ _ | with_reducible refine Ext.drew ?_ | (with_reducible refine Ext.setAt ?_ _ _ _ ?_; rotate_left; omega) | with_reducible refine Ext.trans ?_ (by assumption) | with_reducible exact Past.bel _ | with_reducible refine Ext.trans ?_ (Past.bel _)))⟩, by simp [intOf]; omega⟩
              · obtain rfl : i = j := by omega
                go_wp2_with fail
                exact ⟨⟨i + 1, by omega, by go_num, by simp only [monTo, HR.out, monA_t H1.out H2.out H3.out HF.out]; rfl, (by repeat (first | with_reducible exact Ext.refl _ | with_reducible assumption | with_reducible refine Ext.alloc ?_ _ | with_reducible refine Ext.drew ?_ | (with_reducible refine Ext.setAt ?_ _ _ _ ?_; rotate_left; omega) | with_reducible refine Ext.trans ?_ (by assumption) | with_reducible exact Past.bel _ | with_reducible refine Ext.trans ?_ (Past.bel _)))⟩, by simp [intOf]; omega⟩
    · obtain rfl : j = n := by omega
      go_wp2_with (go_at_call 37; ((with_reducible refine (l00In_c _ _ _ _).mono ?_); rintro e w' ⟨rfl, rfl⟩))
      go_ret
      exact ⟨ret_bool (by unfold monB; rw [HR.out]; rfl), (by repeat (first | with_reducible exact Ext.refl _ | with_reducible assumption | with_reducible refine Ext.alloc ?_ _ | with_reducible refine Ext.drew ?_ | (with_reducible refine Ext.setAt ?_ _ _ _ ?_; rotate_left; omega) | with_reducible refine Ext.trans ?_ (by assumption) | with_reducible exact Past.bel _ | with_reducible refine Ext.trans ?_ (Past.bel _)))⟩
end Go.Proofs.YtpohhnihgegmfaaDoor
