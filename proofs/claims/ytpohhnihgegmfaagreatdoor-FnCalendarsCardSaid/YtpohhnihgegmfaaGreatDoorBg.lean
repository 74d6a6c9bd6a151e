/- Reading calendars' texts: plain laws. Dates' texts. Decimal numerals read: the program's. Decimal numerals read: the reference's. Lists of numbers compared; cams. No program in sight. Cams: checked. Cams' texts. Texts parted: the program's way and the reference's. Calendars read: lines and words. Calendars read: one line, by the program. Calendars read: the program's. Go's strings.Builder: writing. -/
import Derived.Test.YtpohhnihgegmfaaGreatDoorBf
import Derived.Test.YtpohhnihgegmfaaGreatDoorBa
import Derived.Test.YtpohhnihgegmfaaGreatDoorBb
import Derived.Lib.AtoiErrMem
import Derived.Lib.ParseIntBTie
import Derived.Test.YtpohhnihgegmfaaGreatDoorBc
import Derived.Lib.Join
import Derived.Deep.RegionLaw
import Derived.Lib.Strings
import Derived.Lib.Slices
import Derived.Lib.Walk
import Derived.Lib.Builder
import Derived.Lib.AppendStr
import Derived.Lib.UnsafeStr
import Derived.Lib.OthersKept
import Derived.Laws.Externs
import Derived.Laws.IdiomCopy

namespace Go.Proofs.YtpohhnihgegmfaaGreatDoor
set_option linter.unusedVariables false
set_option linter.unusedSimpArgs false
open Lib
/-- one line of the reference's reading -/
noncomputable def stepS (C : Cl) : List (List UInt8) → Cl × Bool
  | [k, a, b, c] => if k = monK then ({ C with M := C.M ++ [(⟨a.toArray⟩, nv b, nv c)] }, nb b && (nb c && decide (C.R.length = 0)))
      else if k = leaK then ({ C with R := C.R ++ [(nv a, nv b, decide (c = yesK))] }, nb a && (nb b && (decide (c = yesK) || decide (c = noK))))
      else (C, false)
  | _ => (C, false)
noncomputable def runS : Cl → Bool → List (List (List UInt8)) → Cl × Bool
  | C, ok, [] => (C, ok)
  | C, ok, ws :: r => if ok = true then runS (stepS C ws).1 (stepS C ws).2 r else (C, false)
theorem runS_f (C : Cl) (L : List (List (List UInt8))) : runS C false L = (C, false) := by cases L <;> simp [runS]
theorem Cl.eta (C : Cl) : (⟨C.nm, C.wk, C.M, C.R⟩ : Cl) = C := rfl
theorem runS_yes : ∀ (L : List (List (List UInt8))) (C D : Cl), runS C true L = (D, true) → ∃ M' R', D = ⟨C.nm, C.wk, C.M ++ M', C.R ++ R'⟩ ∧ L = M'.map lnM ++ R'.map lnR ∧ (C.R ≠ [] → M' = [])
  | [], C, D, h => by
    simp only [runS, Prod.mk.injEq, and_true] at h
    subst h
    exact ⟨[], [], by simp, by simp, fun _ => rfl⟩
  | ws :: r, C, D, h => by
    simp only [runS, if_pos] at h
    cases h2 : (stepS C ws).2
    · rw [h2, runS_f] at h; simp at h
    · rw [h2] at h
      have ih := runS_yes r _ D h
      obtain ⟨M', R', e1, e2, e3⟩ := ih
      match ws, h2, e1, e3 with
      | [k, a, b, c], h2, e1, e3 =>
        by_cases k1 : k = monK
        · subst k1
          simp only [stepS, if_pos, Bool.and_eq_true, decide_eq_true_eq] at h2 e1 e3
          obtain ⟨q1, q2, q3⟩ := h2
          have q4 : C.R = [] := List.length_eq_zero_iff.1 q3
          refine ⟨(⟨a.toArray⟩, nv b, nv c) :: M', R', by rw [e1]; simp, ?_, fun hc => absurd q4 hc⟩
          rw [e2, List.map_cons, lnM]
          simp [nb_itoa q1, nb_itoa q2]
        · by_cases k2 : k = leaK
          · subst k2
            simp only [stepS, if_neg k1, if_pos, Bool.and_eq_true, Bool.or_eq_true, decide_eq_true_eq] at h2 e1 e3
            obtain ⟨q1, q2, q3⟩ := h2
            have e4 : M' = [] := e3 (by simp)
            subst e4
            refine ⟨[], (nv a, nv b, decide (c = yesK)) :: R', by rw [e1]; simp, ?_, fun _ => rfl⟩
            have e5 : yn (decide (c = yesK)) = c := by
              rcases q3 with rfl | rfl
              · simp [yn, yesK]
              · simp [yn, yesK, noK]
            rw [e2]; simp [lnR, e5, nb_itoa q1, nb_itoa q2]
          · simp [stepS, k1, k2] at h2
      | [], h2, _, _ => simp [stepS] at h2
      | [_], h2, _, _ => simp [stepS] at h2
      | [_, _], h2, _, _ => simp [stepS] at h2
      | [_, _, _], h2, _, _ => simp [stepS] at h2
      | _ :: _ :: _ :: _ :: _ :: _, h2, _, _ => simp [stepS] at h2
theorem runS_R : ∀ (R : List Ru) (C : Cl), (∀ q ∈ R, Sm q.1 ∧ Sm q.2.1) → runS C true (R.map lnR) = (⟨C.nm, C.wk, C.M, C.R ++ R⟩, true)
  | [], C, _ => by simp [runS]
  | q :: R, C, h => by
    have h1 := h q (by simp)
    have e : stepS C (lnR q) = (⟨C.nm, C.wk, C.M, C.R ++ [q]⟩, true) := by
      have e5 : (q.2.2 || decide (yn q.2.2 = noK)) = true := by cases q.2.2 <;> rfl
      simp only [lnR, stepS, if_neg (show ¬ leaK = monK by decide), if_pos, (nv_itoa h1.1).1, (nv_itoa h1.1).2, (nv_itoa h1.2).1, (nv_itoa h1.2).2, yn_yes, e5, Bool.and_self]
    rw [List.map_cons, runS, if_pos rfl, e]
    dsimp only
    rw [runS_R R _ (fun x hx => h x (List.mem_cons_of_mem _ hx))]
    simp
theorem runS_M : ∀ (M : List Mo) (C : Cl) (r : List (List (List UInt8))), (∀ q ∈ M, Sm q.2.1 ∧ Sm q.2.2) → C.R = [] → runS C true (M.map lnM ++ r) = runS ⟨C.nm, C.wk, C.M ++ M, C.R⟩ true r
  | [], C, r, _, _ => by simp
  | q :: M, C, r, h, hR => by
    have h1 := h q (by simp)
    have e : stepS C (lnM q) = (⟨C.nm, C.wk, C.M ++ [q], C.R⟩, true) := by
      simp only [lnM, stepS, if_pos, (nv_itoa h1.1).1, (nv_itoa h1.1).2, (nv_itoa h1.2).1, (nv_itoa h1.2).2, hR, List.length_nil, decide_true, Bool.and_self]
    rw [List.map_cons, List.cons_append, runS, if_pos rfl, e]
    dsimp only
    rw [runS_M M ⟨C.nm, C.wk, C.M ++ [q], C.R⟩ r (fun x hx => h x (List.mem_cons_of_mem _ hx)) hR]
    simp
/-- the reference's reading of lines -/
noncomputable def readS (L : List (List (List UInt8))) : Cl × Bool :=
  if 1 ≤ L.length ∧ L.length ≤ 27 then
    match L with
    | [k, a, b] :: r => if k = calK then ((runS ⟨⟨a.toArray⟩, nv b, [], []⟩ (nb b) r).1, (runS ⟨⟨a.toArray⟩, nv b, [], []⟩ (nb b) r).2 && (runS ⟨⟨a.toArray⟩, nv b, [], []⟩ (nb b) r).1.ok) else (Cl.z, false)
    | _ => (Cl.z, false)
  else (Cl.z, false)
theorem readS_ws {C : Cl} (h : C.ok = true) : readS C.ws = (C, true) := by
  obtain ⟨h1, h2, h3⟩ := Cl.sm h
  have b := calB_b h
  have n1 : C.M.length ≤ 20 := b.n20
  have n2 : C.R.length ≤ 6 := b.nr6
  have hl : 1 ≤ C.ws.length ∧ C.ws.length ≤ 27 := by simp [Cl.ws]; omega
  have e : runS ⟨⟨C.nm.data.toList.toArray⟩, nv (itoa C.wk), [], []⟩ (nb (itoa C.wk)) (C.M.map lnM ++ C.R.map lnR) = (C, true) := by
    rw [(nv_itoa h1).1, (nv_itoa h1).2, runS_M _ _ _ h2 rfl, runS_R _ _ h3]
    simp
  have hw : C.ws = [calK, C.nm.data.toList, itoa C.wk] :: (C.M.map lnM ++ C.R.map lnR) := rfl
  rw [hw] at hl ⊢
  unfold readS
  rw [if_pos hl]
  dsimp only
  rw [if_pos rfl, e]
  simp [h]
theorem readS_yes {L : List (List (List UInt8))} {D : Cl} (h : readS L = (D, true)) : D.ok = true ∧ L = D.ws := by
  unfold readS at h
  split at h
  · match L, h with
    | [k, a, b] :: r, h =>
      dsimp only at h
      by_cases hk : k = calK
      · subst hk
        rw [if_pos rfl] at h
        obtain ⟨E, hE⟩ : ∃ E, E = runS ⟨⟨a.toArray⟩, nv b, [], []⟩ (nb b) r := ⟨_, rfl⟩
        rw [← hE] at h
        simp only [Prod.mk.injEq, Bool.and_eq_true] at h
        obtain ⟨rfl, q1, q2⟩ := h
        cases hb : nb b
        · rw [hb, runS_f] at hE; rw [hE] at q1; cases q1
        · rw [hb] at hE
          obtain ⟨M', R', e1, e2, _⟩ := runS_yes r _ E.1 (by rw [← hE, ← q1])
          refine ⟨q2, ?_⟩
          rw [e1, e2, Cl.ws, lnH]
          simp [nb_itoa hb]
      · rw [if_neg hk] at h; simp at h
    | [], h => simp at h
    | [] :: _, h => simp at h
    | [_] :: _, h => simp at h
    | [_, _] :: _, h => simp at h
    | (_ :: _ :: _ :: _ :: _) :: _, h => simp at h
  · simp at h
theorem split_snoc (c : UInt8) : ∀ t : List UInt8, splitL c (t ++ [c]) = splitL c t ++ [[]]
  | [] => by simp [splitL]
  | b :: r => by
    have ih := split_snoc c r
    by_cases hb : b = c
    · subst hb; rw [List.cons_append, splitL_hit, splitL_hit, ih]; rfl
    · obtain ⟨x, xs, h1, h2⟩ := splitL_cons c b r hb
      obtain ⟨y, ys, h3, h4⟩ := splitL_cons c b (r ++ [c]) hb
      rw [List.cons_append, h4, h2]
      rw [ih, h1] at h3
      injection h3 with h5 h6
      rw [← h5, ← h6]; rfl
theorem splitL_many (c : UInt8) : ∀ l : List UInt8, (splitL c l).length ≤ l.length + 1
  | [] => by simp [splitL]
  | b :: r => by
    have ih := splitL_many c r
    by_cases hb : b = c
    · subst hb; rw [splitL_hit]; simp; omega
    · obtain ⟨x, xs, h1, h2⟩ := splitL_cons c b r hb
      rw [h2]; rw [h1] at ih; simp at ih ⊢; omega
theorem join_snoc (c : UInt8) : ∀ X : List (List UInt8), joinL c (X ++ [[]]) = X.flatMap fun x => x ++ [c]
  | [] => rfl
  | x :: xs => by
    rw [List.cons_append, joinL_cons _ _ (by simp), join_snoc c xs]; simp
theorem ltx_join (L : List (List (List UInt8))) : (L.map (joinL 32)).flatMap (fun x => x ++ [10]) = ltx L := by
  simp [ltx, List.flatMap_map]
/-- the reference's answer -/
theorem CR.spec {l : List UInt8} {C : Cl} {b : Bool} (h : CR l C b) {X : List (List UInt8)} {x : List UInt8} (hs : splitL 10 l = X ++ [x]) :
    (x ≠ [] → b = false) ∧ (x = [] → (readS (lws X)).2 = b ∧ (b = true → (readS (lws X)).1 = C)) := by
  refine ⟨fun hx => ?_, fun hx => ?_⟩
  · cases b
    · rfl
    · obtain ⟨h1, h2⟩ := h.yes rfl
      rw [h2, split_tx _ (Cl.gd h1)] at hs
      have := List.append_inj_right' hs rfl
      simp only [List.cons.injEq, and_true] at this
      exact absurd this.symm hx
  · subst hx
    cases b
    · refine ⟨?_, fun e => by cases e⟩
      cases hr : (readS (lws X)).2
      · rfl
      · obtain ⟨h1, h2⟩ := readS_yes (D := (readS (lws X)).1) (by rw [← hr])
        refine absurd ?_ ((h.no rfl).2 _ h1)
        rw [← h2, ← ltx_join, lws_join, ← join_snoc, ← hs, join_split]
    · obtain ⟨h1, h2⟩ := h.yes rfl
      have e := lines_of h1
      rw [h2, e.1] at hs
      have e2 := List.append_inj_left' hs rfl
      rw [← e2, e.2, readS_ws h1]
      exact ⟨rfl, fun _ => rfl⟩
/-- the program's answer -/
theorem CR.impl {t : List UInt8} {C : Cl} {b : Bool} (h : CR (t ++ [10]) C b) : b = true → runI Cl.z (lws (splitL 10 t)) = some C := fun e => by
  obtain ⟨h1, h2⟩ := h.yes e
  have e := lines_of h1
  rw [← h2, split_snoc] at e
  have e2 := List.append_inj_left' e.1 rfl
  rw [e2, e.2, runI_ws h1]
theorem ltx_end {C : Cl} : ∃ t, ltx C.ws = t ++ [10] := by
  have : ∀ L : List (List (List UInt8)), L ≠ [] → ∃ t, ltx L = t ++ [10] := fun L hL => by
    rcases List.eq_nil_or_concat L with rfl | ⟨A, a, rfl⟩
    · exact absurd rfl hL
    · rw [List.concat_eq_append, tx_app, tx_one, ← List.append_assoc]; exact ⟨_, rfl⟩
  exact this _ (by simp [Cl.ws])
/-- a text that does not end a line -/
theorem CR.noend {l : List UInt8} {C : Cl} {b : Bool} (h : CR l C b) (hl : ∀ t, l ≠ t ++ [10]) : b = false := by
  cases b
  · rfl
  · obtain ⟨h1, h2⟩ := h.yes rfl
    obtain ⟨t, ht⟩ := ltx_end (C := C)
    exact absurd (h2.trans ht) (hl t)
theorem z_no : Cl.z.ok = false := by simp [Cl.ok, Cl.z, calB, isNm, ByteArray.size]
/-- the program's last test -/
theorem CR.test {l : List UInt8} {C D : Cl} {b : Bool} (h : CR l C b) (hb : b = true → D = C) : (D.ok = true ∧ calTx D.nm (nmOf D.M) (calOf D.M D.R) D.wk = l) ↔ b = true := by
  constructor
  · rintro ⟨h1, h2⟩
    cases b
    · rw [calTx, show calB D.nm (nmOf D.M) (calOf D.M D.R) D.wk = true from h1, if_pos rfl, calL_tx] at h2
      exact absurd h2.symm ((h.no rfl).2 D h1)
    · rfl
  · intro e
    obtain ⟨h1, h2⟩ := h.yes e
    obtain rfl := hb e
    refine ⟨h1, ?_⟩
    rw [calTx, show calB D.nm (nmOf D.M) (calOf D.M D.R) D.wk = true from h1, if_pos rfl, calL_tx, h2]
end Go.Proofs.YtpohhnihgegmfaaGreatDoor

namespace Go.Proofs.YtpohhnihgegmfaaGreatDoor
open Go.RowKit
set_option linter.unusedVariables false
set_option linter.unusedSimpArgs false

theorem isYear_d (y : Int) (w : World) : Calls Tryz.prog 39 #[.int .i64 y] w fun e w' => e = .returned (.bool (inB y 0 9999)) ∧ w = w' := by
  go_enter Tryz.func39, Tryz.ntmps39
  go_wp2_with (go_at_call 34; ((with_reducible refine (within_c _ _ _ _).mono ?_); rintro e w' ⟨rfl, rfl⟩))
  go_ret
  exact ⟨rfl, rfl⟩
theorem l15Year_d (y : Int) (w : World) : Calls Tryz.prog 80 #[.int .i64 y] w fun e w' => e = .returned (.bool (inB y 0 9999)) ∧ w = w' := by
  go_enter Tryz.func80, Tryz.ntmps80
  go_wp2_with (go_at_call 79; ((with_reducible refine (l00In_c _ _ _ _).mono ?_); rintro e w' ⟨rfl, rfl⟩))
  go_ret
  exact ⟨rfl, rfl⟩
/-- a date's text -/
def dtx (y m d : Int) : List UInt8 := if inB y 0 9999 && (inB m 0 9999 && inB d 0 9999) then Lib.itoa y ++ [45] ++ Lib.itoa m ++ [45] ++ Lib.itoa d else []
theorem b_of {n : Int} (h : inB n 0 9999 = true) : B64 n := by
  obtain ⟨h0, h1⟩ := inB_t.1 h
  exact ⟨by omega, by omega⟩
set_option maxRecDepth 100000 in
set_option maxHeartbeats 2000000 in
theorem implDateText_c (a b c : Int) (w : World) (ht : Tab w) :
    Calls Tryz.prog 10 #[.agg #[.int .i64 a, .int .i64 b, .int .i64 c]] w fun e w' => e = .returned (.string ⟨(dtx a b c).toArray⟩) ∧ Ext w w' := by
  cases ha : inB a 0 9999
  · have hd := Lib.hid (show dtx a b c = [] by simp [dtx, ha])
    go_enter Tryz.func10, Tryz.ntmps10
    go_wp2_with (go_at_call 39; ((with_reducible refine (isYear_d _ _).mono ?_); rintro e w' ⟨rfl, rfl⟩))
    go_ret
    exact ⟨by rw [hd.out]; rfl, (by repeat (first | with_reducible exact Ext.refl _ | with_reducible assumption | with_reducible refine Ext.alloc ?_ _ | with_reducible refine Ext.drew ?_ | (with_reducible refine Ext.setAt ?_ _ _ _ ?_; rotate_left; omega) | with_reducible refine Ext.trans ?_ (by assumption) | with_reducible exact Past.bel _ | with_reducible refine Ext.trans ?_ (Past.bel _)))⟩
  · cases hb : inB b 0 9999
    · have hd := Lib.hid (show dtx a b c = [] by simp [dtx, hb])
      go_enter Tryz.func10, Tryz.ntmps10
      go_wp2_with (go_at_call 39; ((with_reducible refine (isYear_d _ _).mono ?_); rintro e w' ⟨rfl, rfl⟩))
      go_ret
      exact ⟨by rw [hd.out]; rfl, (by repeat (first | with_reducible exact Ext.refl _ | with_reducible assumption | with_reducible refine Ext.alloc ?_ _ | with_reducible refine Ext.drew ?_ | (with_reducible refine Ext.setAt ?_ _ _ _ ?_; rotate_left; omega) | with_reducible refine Ext.trans ?_ (by assumption) | with_reducible exact Past.bel _ | with_reducible refine Ext.trans ?_ (Past.bel _)))⟩
    · cases hc : inB c 0 9999
      · have hd := Lib.hid (show dtx a b c = [] by simp [dtx, hc])
        go_enter Tryz.func10, Tryz.ntmps10
        go_wp2_with (go_at_call 39; ((with_reducible refine (isYear_d _ _).mono ?_); rintro e w' ⟨rfl, rfl⟩))
        go_ret
        exact ⟨by rw [hd.out]; rfl, (by repeat (first | with_reducible exact Ext.refl _ | with_reducible assumption | with_reducible refine Ext.alloc ?_ _ | with_reducible refine Ext.drew ?_ | (with_reducible refine Ext.setAt ?_ _ _ _ ?_; rotate_left; omega) | with_reducible refine Ext.trans ?_ (by assumption) | with_reducible exact Past.bel _ | with_reducible refine Ext.trans ?_ (Past.bel _)))⟩
      · have pa := b_of ha
        have pb := b_of hb
        have pc := b_of hc
        obtain ⟨A, hA⟩ : ∃ A, A = Lib.itoa a := ⟨_, rfl⟩
        obtain ⟨B, hB⟩ : ∃ A, A = Lib.itoa b := ⟨_, rfl⟩
        obtain ⟨C, hC⟩ : ∃ A, A = Lib.itoa c := ⟨_, rfl⟩
        have la : A.length ≤ 20 := by rw [hA]; exact itoa_len _ pa.lo pa.hi
        have lb : B.length ≤ 20 := by rw [hB]; exact itoa_len _ pb.lo pb.hi
        have lc : C.length ≤ 20 := by rw [hC]; exact itoa_len _ pc.lo pc.hi
        have TA := Lib.hid (fun (W : World) (hq : Ext w W) => (show Calls Tryz.prog 40 #[.int .i64 a] W (fun e w' => e = .returned (.string ⟨A.toArray⟩) ∧ Ext W w') from by rw [hA]; exact decimal_c a W pa.lo pa.hi (ht.ext hq)))
        have TB := Lib.hid (fun (W : World) (hq : Ext w W) => (show Calls Tryz.prog 40 #[.int .i64 b] W (fun e w' => e = .returned (.string ⟨B.toArray⟩) ∧ Ext W w') from by rw [hB]; exact decimal_c b W pb.lo pb.hi (ht.ext hq)))
        have TC := Lib.hid (fun (W : World) (hq : Ext w W) => (show Calls Tryz.prog 40 #[.int .i64 c] W (fun e w' => e = .returned (.string ⟨C.toArray⟩) ∧ Ext W w') from by rw [hC]; exact decimal_c c W pc.lo pc.hi (ht.ext hq)))
        have hft : dtx a b c = A ++ [45] ++ B ++ [45] ++ C := by rw [hA, hB, hC, dtx, ha, hb, hc]; rfl
        have HT := Lib.hid hft
        clear hA hB hC hft
        go_enter Tryz.func10, Tryz.ntmps10
        go_wp2_with (go_at_call 39; ((with_reducible refine (isYear_d _ _).mono ?_); rintro e w' ⟨rfl, rfl⟩))
        refine wp_region_past (by kernel_rfl) (by kernel_rfl) ?_
        repeat (go_big_quiet_step (first | (go_at_call 40; exact Calls.past (TA.out _ (by repeat (first | with_reducible exact Ext.refl _ | with_reducible assumption | with_reducible refine Ext.alloc ?_ _ | with_reducible refine Ext.drew ?_ | (with_reducible refine Ext.setAt ?_ _ _ _ ?_; rotate_left; omega) | with_reducible refine Ext.trans ?_ (by assumption) | with_reducible exact Past.bel _ | with_reducible refine Ext.trans ?_ (Past.bel _))))) | (go_at_call 40; exact Calls.past (TB.out _ (by repeat (first | with_reducible exact Ext.refl _ | with_reducible assumption | with_reducible refine Ext.alloc ?_ _ | with_reducible refine Ext.drew ?_ | (with_reducible refine Ext.setAt ?_ _ _ _ ?_; rotate_left; omega) | with_reducible refine Ext.trans ?_ (by assumption) | with_reducible exact Past.bel _ | with_reducible refine Ext.trans ?_ (Past.bel _))))) | (go_at_call 40; exact Calls.past (TC.out _ (by repeat (first | with_reducible exact Ext.refl _ | with_reducible assumption | with_reducible refine Ext.alloc ?_ _ | with_reducible refine Ext.drew ?_ | (with_reducible refine Ext.setAt ?_ _ _ _ ?_; rotate_left; omega) | with_reducible refine Ext.trans ?_ (by assumption) | with_reducible exact Past.bel _ | with_reducible refine Ext.trans ?_ (Past.bel _)))))))
        refine wpQuiet_nil ?_
        rintro _ ⟨wx, rfl⟩
        go_wp2_with fail
        go_ret
        exact ⟨by rw [HT.out, ← ba_app, ← ba_app, ← ba_app, ← ba_app]; rfl, (by repeat (first | with_reducible exact Ext.refl _ | with_reducible assumption | with_reducible refine Ext.alloc ?_ _ | with_reducible refine Ext.drew ?_ | (with_reducible refine Ext.setAt ?_ _ _ _ ?_; rotate_left; omega) | with_reducible refine Ext.trans ?_ (by assumption) | with_reducible exact Past.bel _ | with_reducible refine Ext.trans ?_ (Past.bel _)))⟩
end Go.Proofs.YtpohhnihgegmfaaGreatDoor

namespace Go.Proofs.YtpohhnihgegmfaaGreatDoor
open Go.RowKit
set_option linter.unusedVariables false
set_option linter.unusedSimpArgs false

/-- what the library's listed variables hold, whatever is made new -/
structure Gl (w : World) : Prop where
  tab : Tab w
  ml : ∃ m : Int, ∀ w', Ext w w' → w'.cell? ⟨0, 0, none⟩ = some (.int .i64 m)
  es : ∃ ev, (ev = .nilIface ∨ ∃ tp pe, ev = .iface tp pe) ∧ ∀ w', Ext w w' → w'.cell? ⟨1, 0, none⟩ = some ev
  er : ∃ ev, (ev = .nilIface ∨ ∃ tp pe, ev = .iface tp pe) ∧ ∀ w', Ext w w' → w'.cell? ⟨2, 0, none⟩ = some ev
theorem Gl.ext {w w' : World} (h : Gl w) (x : Ext w w') : Gl w' := by
  obtain ⟨m, hm⟩ := h.ml
  obtain ⟨e1, h1, k1⟩ := h.es
  obtain ⟨e2, h2, k2⟩ := h.er
  exact ⟨h.tab.ext x, ⟨m, fun w2 x2 => hm w2 (Ext.trans x x2)⟩, ⟨e1, h1, fun w2 x2 => k1 w2 (Ext.trans x x2)⟩, ⟨e2, h2, fun w2 x2 => k2 w2 (Ext.trans x x2)⟩⟩
theorem ext_bworld {w w' : World} {T : TypeId} (h : w' = w ∨ ∃ t, w' = Lib.bytesWorld w T t) : Ext w w' := by
  rcases h with rfl | ⟨t, rfl⟩
  · exact Ext.refl _
  · exact Lib.bytesWorld_below _ _ _
theorem trim_c (s : ByteArray) (w : World) : Calls Tryz.prog 72 #[.string s, .string ⟨#[45]⟩] w fun e w' => e = .returned (.string ⟨(mag s.data.toList).toArray⟩) ∧ w = w' :=
  (Tryz.strings_TrimPrefix s ⟨#[45]⟩ w).mono fun e w' ⟨h1, h2⟩ => ⟨h1, h2.symm⟩
set_option maxRecDepth 100000 in
set_option maxHeartbeats 2000000 in
theorem implReadDecimal_c (s : ByteArray) (w : World) (hs : s.size ≤ 1048576) (hg : Gl w) {x : Int} {b : Bool} (r : RdR s.data.toList x b) :
    Calls Tryz.prog 38 #[.string s] w fun e w' => e = .returned (.tuple #[.int .i64 x, .bool b]) ∧ Ext w w' := by
  have HG := Lib.hid hg
  have HR := Lib.hid r
  obtain ⟨T, hT⟩ : ∃ T, T = mag s.data.toList := ⟨_, rfl⟩
  have HM := Lib.hid (fun W => (hT ▸ trim_c s W : Calls Tryz.prog 72 #[.string s, .string ⟨#[45]⟩] W fun e w' => e = .returned (.string ⟨T.toArray⟩) ∧ W = w'))
  have HT := Lib.hid hT
  clear hT hg r
  by_cases h1 : 1 ≤ T.length ∧ T.length ≤ 18
  · have x1 : ¬ (T.length : Int) < 1 := by omega
    have x2 : ¬ (18 : Int) < (T.length : Int) := by omega
    have sz : s.size ≤ 281474976710656 := by omega
    cases hp : Lib.parseIntB 64 s.data.toList with
    | ok v =>
      have HP := Lib.hid hp
      have hv := Lib.parseIntB_bounds hp
      have e4 : (2 : Nat) ^ (64 - 1) = 9223372036854775808 := by decide
      rw [e4] at hv
      obtain ⟨A, hA⟩ : ∃ A, A = Lib.itoa v := ⟨_, rfl⟩
      have HD := Lib.hid (fun (W : World) (hq : Ext w W) => (show Calls Tryz.prog 40 #[.int .i64 v] W (fun e w' => e = .returned (.string ⟨A.toArray⟩) ∧ Ext W w') from by rw [hA]; exact decimal_c v W (by omega) (by omega) (HG.out.tab.ext hq)))
      have HA := Lib.hid hA
      by_cases hq : A = s.data.toList
      · obtain rfl : s = ⟨A.toArray⟩ := by apply ByteArray.ext; rw [hq]
        obtain rfl : b = true := by
          cases b
          · exact absurd (by rw [← HA.out]) ((HR.out.no rfl).2 v (sm_of (by rw [← hA]) (by rw [← HT.out]; exact h1.2)))
          · rfl
        obtain rfl : x = v := itoa_inj ((HR.out.yes rfl).1.trans (by rw [← HA.out]))
        clear hq hA hp
        go_enter Tryz.func38, Tryz.ntmps38
        go_wp2_with (go_at_call 72; ((with_reducible refine (HM.out _).mono ?_); rintro e w' ⟨rfl, rfl⟩))
        refine (Tryz.strconv_ParseInt_10_at64_ok _ (by omega) x HP.out _).mono ?_
        rintro e w1 ⟨rfl, hx1⟩
        have e1 := ext_bworld hx1
        clear hx1
        go_wp2_with (go_at_call 40; ((with_reducible refine (HD.out _ (by repeat (first | with_reducible exact Ext.refl _ | with_reducible assumption | with_reducible refine Ext.alloc ?_ _ | with_reducible refine Ext.drew ?_ | (with_reducible refine Ext.setAt ?_ _ _ _ ?_; rotate_left; omega) | with_reducible refine Ext.trans ?_ (by assumption) | with_reducible exact Past.bel _ | with_reducible refine Ext.trans ?_ (Past.bel _)))).mono ?_); rintro e w' ⟨rfl, hx⟩; (first | (obtain ⟨wx, rfl⟩ := Past.again hx) | (obtain ⟨wx, rfl⟩ := Past.ofd hx) | (obtain ⟨wx, rfl⟩ := Past.of hx))))
        go_ret2
        exact ⟨rfl, (by repeat (first | with_reducible exact Ext.refl _ | with_reducible assumption | with_reducible refine Ext.alloc ?_ _ | with_reducible refine Ext.drew ?_ | (with_reducible refine Ext.setAt ?_ _ _ _ ?_; rotate_left; omega) | with_reducible refine Ext.trans ?_ (by assumption) | with_reducible exact Past.bel _ | with_reducible refine Ext.trans ?_ (Past.bel _)))⟩
      · obtain rfl : b = false := by
          cases b
          · rfl
          · have h2 := (HR.out.yes rfl)
            have h3 := parse_itoa h2.2
            rw [h2.1, hp] at h3
            injection h3 with h3
            exact absurd (by rw [hA, h3, h2.1]) hq
        obtain ⟨rfl, -⟩ := HR.out.no rfl
        have hne : (A == s.toList) = false := by rw [ByteArray.toList_eq]; simpa using hq
        have HQ := Lib.hid hq
        clear hq hA hp
        go_enter Tryz.func38, Tryz.ntmps38
        go_wp2_with (go_at_call 72; ((with_reducible refine (HM.out _).mono ?_); rintro e w' ⟨rfl, rfl⟩))
        refine (Tryz.strconv_ParseInt_10_at64_ok _ (by omega) v HP.out _).mono ?_
        rintro e w1 ⟨rfl, hx1⟩
        have e1 := ext_bworld hx1
        clear hx1
        go_wp2_with (go_at_call 40; ((with_reducible refine (HD.out _ (by repeat (first | with_reducible exact Ext.refl _ | with_reducible assumption | with_reducible refine Ext.alloc ?_ _ | with_reducible refine Ext.drew ?_ | (with_reducible refine Ext.setAt ?_ _ _ _ ?_; rotate_left; omega) | with_reducible refine Ext.trans ?_ (by assumption) | with_reducible exact Past.bel _ | with_reducible refine Ext.trans ?_ (Past.bel _)))).mono ?_); rintro e w' ⟨rfl, hx⟩; (first | (obtain ⟨wx, rfl⟩ := Past.again hx) | (obtain ⟨wx, rfl⟩ := Past.ofd hx) | (obtain ⟨wx, rfl⟩ := Past.of hx))))
        go_ret2
        exact ⟨rfl, (by repeat (first | with_reducible exact Ext.refl _ | with_reducible assumption | with_reducible refine Ext.alloc ?_ _ | with_reducible refine Ext.drew ?_ | (with_reducible refine Ext.setAt ?_ _ _ _ ?_; rotate_left; omega) | with_reducible refine Ext.trans ?_ (by assumption) | with_reducible exact Past.bel _ | with_reducible refine Ext.trans ?_ (Past.bel _)))⟩
    | range =>
      obtain rfl : b = false := by
        cases b
        · rfl
        · have h2 := (HR.out.yes rfl)
          have h3 := parse_itoa h2.2
          rw [h2.1, hp] at h3
          cases h3
      obtain ⟨rfl, -⟩ := HR.out.no rfl
      obtain ⟨ev, hev, hce⟩ := HG.out.er
      have HP := Lib.hid (fun W (hq : Ext w W) => Tryz.strconv_ParseInt_10_at64_range s sz hp ev W (hce W hq) hev)
      clear hp hce hev
      go_enter Tryz.func38, Tryz.ntmps38
      go_wp2_with (go_at_call 72; ((with_reducible refine (HM.out _).mono ?_); rintro e w' ⟨rfl, rfl⟩))
      refine (HP.out _ (Ext.refl _)).mono ?_
      rintro e w1 ⟨N, rfl, -, -, e1⟩
      have e1 : Ext w w1 := e1
      go_wp2_with fail
      go_ret2
      exact ⟨rfl, e1⟩
    | _ =>
      obtain rfl : b = false := by
        cases b
        · rfl
        · have h2 := (HR.out.yes rfl)
          have h3 := parse_itoa h2.2
          rw [h2.1, hp] at h3
          cases h3
      obtain ⟨rfl, -⟩ := HR.out.no rfl
      obtain ⟨ev, hev, hce⟩ := HG.out.es
      have HP := Lib.hid (fun W (hq : Ext w W) => Tryz.strconv_ParseInt_10_at64_bad s sz _ (by intro v hv; cases hv) (by intro hv; cases hv) hp ev W (hce W hq) hev)
      clear hp hce hev
      go_enter Tryz.func38, Tryz.ntmps38
      go_wp2_with (go_at_call 72; ((with_reducible refine (HM.out _).mono ?_); rintro e w' ⟨rfl, rfl⟩))
      refine (HP.out _ (Ext.refl _)).mono ?_
      rintro e w1 ⟨N, rfl, -, -, e1⟩
      have e1 : Ext w w1 := e1
      go_wp2_with fail
      go_ret2
      exact ⟨rfl, e1⟩
  · obtain rfl : b = false := by
      cases b
      · rfl
      · have h2 := (HR.out.yes rfl)
        have h3 := sm_mag h2.2 h2.1
        rw [← HT.out] at h3
        exact absurd h3.2 h1
    obtain ⟨rfl, -⟩ := HR.out.no rfl
    by_cases h2 : T.length < 1
    · have x1 : (T.length : Int) < 1 := by omega
      clear h1 h2
      go_enter Tryz.func38, Tryz.ntmps38
      go_wp2_with (go_at_call 72; ((with_reducible refine (HM.out _).mono ?_); rintro e w' ⟨rfl, rfl⟩))
      go_ret2
      exact ⟨rfl, (by repeat (first | with_reducible exact Ext.refl _ | with_reducible assumption | with_reducible refine Ext.alloc ?_ _ | with_reducible refine Ext.drew ?_ | (with_reducible refine Ext.setAt ?_ _ _ _ ?_; rotate_left; omega) | with_reducible refine Ext.trans ?_ (by assumption) | with_reducible exact Past.bel _ | with_reducible refine Ext.trans ?_ (Past.bel _)))⟩
    · have x1 : ¬ (T.length : Int) < 1 := by omega
      have x2 : (18 : Int) < (T.length : Int) := by omega
      clear h1 h2
      go_enter Tryz.func38, Tryz.ntmps38
      go_wp2_with (go_at_call 72; ((with_reducible refine (HM.out _).mono ?_); rintro e w' ⟨rfl, rfl⟩))
      go_ret2
      exact ⟨rfl, (by repeat (first | with_reducible exact Ext.refl _ | with_reducible assumption | with_reducible refine Ext.alloc ?_ _ | with_reducible refine Ext.drew ?_ | (with_reducible refine Ext.setAt ?_ _ _ _ ?_; rotate_left; omega) | with_reducible refine Ext.trans ?_ (by assumption) | with_reducible exact Past.bel _ | with_reducible refine Ext.trans ?_ (Past.bel _)))⟩
end Go.Proofs.YtpohhnihgegmfaaGreatDoor

namespace Go.Proofs.YtpohhnihgegmfaaGreatDoor
open Go.RowKit
set_option linter.unusedVariables false
set_option linter.unusedSimpArgs false

theorem byte_at {s : ByteArray} {j : Nat} (h : j < s.size) : s.data.toList[j]? = some s[j] := by
  have h' : j < s.data.size := h
  rw [List.getElem?_eq_getElem (by simpa using h')]; rfl
theorem decFrom_bad {l : List UInt8} {j : Nat} {b : UInt8} (h : l[j]? = some b) (hb : chD b.toNat = false) : ∀ u, Lib.decDigits u ≠ l := fun u e => by
  have h1 := decFrom_digits u
  rw [e] at h1
  obtain ⟨d, hd⟩ := Lib.digit_of_decFrom l 0 u h1 j b h
  have h2 := (digitVal_some hd).1
  simp [chD] at hb; omega
theorem digit_yes {b : UInt8} (h : chD b.toNat = true) : Lib.digitVal b = some (b.toNat - 48) ∧ 48 ≤ b.toNat ∧ b.toNat ≤ 57 := by
  simp [chD] at h
  exact ⟨by rw [Lib.digitVal, if_pos h], h.1, h.2⟩
theorem mag_cons (r : List UInt8) : mag (45 :: r) = r := rfl
theorem mag_other {c : UInt8} {r : List UInt8} (h : c ≠ 45) : mag (c :: r) = c :: r := by
  have : Lib.hasPrefix (c :: r) [45] = false := by
    unfold Lib.hasPrefix
    simp only [List.isPrefixOf, Bool.and_true, beq_eq_false_iff_ne]
    exact fun e => h e.symm
  rw [mag, Lib.trimPrefix, this]; rfl
/-- what a text's magnitude says of a number that it spells -/
theorem spell {l T : List UInt8} (hm : mag l = T) {n : Int} (e : Lib.itoa n = l) : Lib.decDigits n.natAbs = T := by rw [← hm, ← e, mag_itoa]
theorem sign_of {l T : List UInt8} (hm : mag l = T) {n : Int} (e : Lib.itoa n = l) : (n < 0 ↔ T.length < l.length) := by
  have h1 := spell hm e
  rcases itoa_cases n with ⟨a, b⟩ | ⟨a, b⟩
  · rw [← e, b, ← h1]; simp; omega
  · rw [← e, b, ← h1]; simp; omega
theorem num_bounds {acc D : Nat} (h : acc * 10 + D < 1000000000000000000) : IntKind.i64.wrap (10 * (acc : Int)) = 10 * (acc : Int) ∧ IntKind.i64.wrap (10 * (acc : Int) + (D : Int)) = 10 * (acc : Int) + (D : Int) ∧ wrap64 (10 * (acc : Int)) = 10 * (acc : Int) ∧ wrap64 (10 * (acc : Int) + (D : Int)) = 10 * (acc : Int) + (D : Int) :=
  ⟨IntWalk.i64_in _ (by omega), IntWalk.i64_in _ (by omega), IntWalk.wrap64_in _ (by omega), IntWalk.wrap64_in _ (by omega)⟩
theorem num_cast {acc D : Nat} (h : acc * 10 + D < 1000000000000000000) : wrap64 (10 * (acc : Int) + wrap64 (D : Int)) = ((acc * 10 + D : Nat) : Int) := by
  rw [IntWalk.wrap64_in (D : Int) (by omega), IntWalk.wrap64_in _ (by omega)]; omega
theorem u8_small {D : Nat} (h : D ≤ 9) : IntKind.u8.wrap (D : Int) = (D : Int) := by
  obtain rfl | rfl | rfl | rfl | rfl | rfl | rfl | rfl | rfl | rfl : D = 0 ∨ D = 1 ∨ D = 2 ∨ D = 3 ∨ D = 4 ∨ D = 5 ∨ D = 6 ∨ D = 7 ∨ D = 8 ∨ D = 9 := by omega
  all_goals decide
theorem ba_len' (s : ByteArray) : s.data.toList.length = s.size := Array.length_toList
end Go.Proofs.YtpohhnihgegmfaaGreatDoor

namespace Go.Proofs.YtpohhnihgegmfaaGreatDoor
set_option linter.unusedVariables false
def eq1To (f g : Nat → Int) : Nat → Bool
  | 0 => true
  | k + 1 => eq1To f g k && (f k == g k)
theorem eq1To_ff {f g : Nat → Int} {k n : Nat} (hk : k < n) (hh : f k ≠ g k) : eq1To f g n = false := by
  induction n with
  | zero => omega
  | succ n ih =>
    by_cases e : k = n
    · subst e; simp [eq1To, hh]
    · simp only [eq1To, ih (by omega), Bool.false_and]
theorem eq1To_self {f : Nat → Int} {n : Nat} : eq1To f f n = true := by
  induction n with
  | zero => rfl
  | succ n ih => simp [eq1To, ih]
/-- the first k notches of a cam are valid -/
def camTo (z : Nat → Int) : Nat → Bool
  | 0 => true
  | k + 1 => camTo z k && inB (z k) 1 60
theorem camTo_ff {z : Nat → Int} {k n : Nat} (hk : k < n) (hh : inB (z k) 1 60 = false) : camTo z n = false := by
  induction n with
  | zero => omega
  | succ n ih =>
    by_cases e : k = n
    · subst e; simp only [camTo, hh, Bool.and_false]
    · simp only [camTo, ih (by omega), Bool.false_and]
theorem camTo_at {z : Nat → Int} {k n : Nat} (h : camTo z n = true) (hk : k < n) : inB (z k) 1 60 = true := by
  induction n with
  | zero => omega
  | succ n ih =>
    simp only [camTo, Bool.and_eq_true] at h
    by_cases e : k = n
    · subst e; exact h.2
    · exact ih h.1 (by omega)
def camV (n : Nat) (z : Nat → Int) : Bool := camTo z n && inB (n : Int) 1 260
theorem camV_ff {z : Nat → Int} {k n : Nat} (hk : k < n) (hh : inB (z k) 1 60 = false) : false = camV n z := by rw [camV, camTo_ff hk hh]; rfl
end Go.Proofs.YtpohhnihgegmfaaGreatDoor

namespace Go.Proofs.YtpohhnihgegmfaaGreatDoor
open Go.RowKit
set_option linter.unusedVariables false
set_option linter.unusedSimpArgs false

end Go.Proofs.YtpohhnihgegmfaaGreatDoor

namespace Go.Proofs.YtpohhnihgegmfaaGreatDoor
open Go.RowKit
set_option linter.unusedVariables false
set_option linter.unusedSimpArgs false

def ctx (n : Nat) (z : Nat → Int) : List UInt8 := if camV n z then txt z n else []
structure CamB (n : Nat) (z : Nat → Int) : Prop where
  n1 : 1 ≤ n
  n2 : n ≤ 260
  b : ∀ j, j < n → 1 ≤ z j ∧ z j ≤ 60
theorem camB_of {n : Nat} {z : Nat → Int} (h : camV n z = true) : CamB n z := by
  rw [camV, Bool.and_eq_true] at h
  have := inB_t.1 h.2
  exact ⟨by omega, by omega, fun j hj => inB_t.1 (camTo_at h.1 hj)⟩
/-- the words -/
def wds (z : Nat → Int) : Nat → List ByteArray
  | 0 => []
  | j + 1 => wds z j ++ [⟨(Lib.itoa (z j)).toArray⟩]
theorem wds_len (z : Nat → Int) (n : Nat) : (wds z n).length = n := by
  induction n with
  | zero => rfl
  | succ n ih => simp [wds, ih]
theorem wds_txt (z : Nat → Int) (n : Nat) : Lib.join ((wds z (n + 1)).map (·.data.toList)) [32] = txt z (n + 1) := by
  induction n with
  | zero => rw [txt_one]; exact Lib.join_one _ _
  | succ n ih =>
    rw [txt_app z (by omega), ← ih]
    obtain ⟨x, r, hx⟩ : ∃ x r, (wds z (n + 1)).map (·.data.toList) = x :: r := by
      cases h : (wds z (n + 1)).map (·.data.toList) with
      | nil => have := wds_len z (n + 1); have h2 := congrArg List.length h; simp [this] at h2
      | cons x r => exact ⟨x, r, rfl⟩
    have e1 : (wds z (n + 1 + 1)).map (·.data.toList) = x :: (r ++ [Lib.itoa (z (n + 1))]) := by
      rw [wds, List.map_append, hx]; simp
    rw [e1, hx, Lib.join_cons, Lib.join_cons]
    simp [Lib.joinTail, List.append_assoc]
theorem info_str : (Tryz.prog.info? 9).map (fun i => (i.zero, i.size, i.bytes)) = some (some (.string ⟨#[]⟩), 1, 16) := by kernel_rfl
/-- 'own = append(own, s)' of texts -/
theorem appt {P : Program} {w : World} {ops : Array Oper} {rest : List Oper} {o : Oper} {A : Act} {Q : Exit → Act → World → Prop} (t e : TypeId) (s x : Operand)
    (hop : o.op = .call { callee := .builtin .append, args := #[s, x], argTypes := #[t, t] }) (hgd : o.guard = none)
    (ht : P.underlying t = some (.slice e)) (hinfo : (P.info? e).map (fun i => (i.zero, i.size, i.bytes)) = some (some (.string ⟨#[]⟩), 1, 16))
    (B : Nat) (v : Value) (n : Nat) (l : List Value) (u : ByteArray) (g : Nat) (hs : A.eval s = v) (hx : A.eval x = .slice (some ⟨g, 0, none⟩) 1 1) (hown : w.ownsRow B e 1 v n l)
    (hc : w.cell? ⟨g, 0, none⟩ = some (.string u)) (hl : n ≤ 1048576) (h0 : B ≤ w.heap.size)
    (hK : ∀ v' w', w'.ownsRow B e 1 v' (n + 1) (l ++ [.string u]) → w.grownBy w' v.ownBlock → wpList P ops Q rest (A.put o.dst v') w') : wpList P ops Q (o :: rest) A w := by
  obtain ⟨i, hi, hz', hsz, hb⟩ := info_parts hinfo
  refine wpList_append_own (P := P) w hgd s x t hop B e i _ 1 16 ht hi hz' hsz hb rfl (by decide) v n l hs hown ⟨g, 0, none⟩ 1 1 [.string u] hx rfl ?_ ?_ (by unfold maxLen; omega) (by omega) h0 ?_
  · intro j z hz
    cases j with
    | zero => simp at hz; subst hz; simpa [Addr.add] using hc
    | succ j => simp at hz
  · intro z hz
    simp at hz; subst hz; rfl
  · intro v' w' h1 h2 _
    exact hK v' w' h1 h2
end Go.Proofs.YtpohhnihgegmfaaGreatDoor

namespace Go.Proofs.YtpohhnihgegmfaaGreatDoor
open Go.RowKit
set_option linter.unusedVariables false
set_option linter.unusedSimpArgs false

theorem extr (s : ByteArray) (a b : Nat) : (s.extract a b).data.toList = (s.data.toList.drop a).take (b - a) := by
  obtain ⟨⟨l⟩⟩ := s
  rw [ByteArray.extract_mk]; first | simp | skip
/-- parts of a text -/
def Parts (c : UInt8) (s : ByteArray) (Ps : List ByteArray) : Prop := Ps.map (·.data.toList) = splitL c s.data.toList
theorem Parts.sz {c : UInt8} {s : ByteArray} {Ps : List ByteArray} (h : Parts c s Ps) : 1 ≤ Ps.length := by
  have h1 := congrArg List.length h
  rw [List.length_map] at h1
  have h2 := List.length_pos_iff.2 (splitL_ne c s.data.toList)
  omega
theorem Parts.len {c : UInt8} {s : ByteArray} {Ps Qs : List ByteArray} (h : Parts c s Ps) (k : Parts c s Qs) : Ps = Qs := by
  have e : Ps.map (·.data.toList) = Qs.map (·.data.toList) := h.trans k.symm
  have hi : ∀ (a b : ByteArray), a.data.toList = b.data.toList → a = b := fun a b e => by apply ByteArray.ext; exact Array.toList_inj.1 e
  clear h k
  induction Ps generalizing Qs with
  | nil => cases Qs with
    | nil => rfl
    | cons q qs => cases e
  | cons p ps ih => cases Qs with
    | nil => cases e
    | cons q qs =>
      rw [List.map_cons, List.map_cons] at e
      injection e with e1 e2
      rw [hi _ _ e1, ih e2]
theorem splitI_c (s : ByteArray) (c : UInt8) (w : World) (hs : s.size ≤ 1048576) (hg : Gl w) :
    Calls Tryz.prog 37 #[.string s, .string ⟨#[c]⟩] w fun e w' => ∃ (Ps : List ByteArray) (g : Nat), e = .returned (.slice (some ⟨g, 0, none⟩) Ps.length Ps.length) ∧ Ext w w' ∧ Blk w' g 9 (Ps.map Value.string).toArray ∧ Parts c s Ps := by
  obtain ⟨m, hm⟩ := hg.ml
  refine (Tryz.strings_Split s ⟨#[c]⟩ m w (by omega) (hm w (Ext.refl _)) (Nat.le_refl 1)).mono ?_
  rintro e w' ⟨rfl, rfl⟩
  have hlen := Lib.splitB_all ⟨#[c]⟩ (Nat.le_refl 1) 0 _ s rfl
  refine ⟨Lib.splitB ⟨#[c]⟩ 0 (Lib.countB s ⟨#[c]⟩) s, w.heap.size, by rw [hlen], (Ext.refl w).alloc _, Blk.new _ _ _, splitB_eq c s⟩
theorem drop_hit {l : List UInt8} {fr i : Nat} {c : UInt8} (h : l[i]? = some c) (hf : fr ≤ i) : l.drop fr = (l.drop fr).take (i - fr) ++ c :: l.drop (i + 1) := by
  have h1 : i < l.length := (List.getElem?_eq_some_iff.1 h).1
  have h2 : (l.drop fr).drop (i - fr) = c :: l.drop (i + 1) := by
    rw [List.drop_drop, show fr + (i - fr) = i by omega, List.drop_eq_getElem_cons h1]
    rw [(List.getElem?_eq_some_iff.1 h).2]
  rw [← h2, List.take_append_drop]
end Go.Proofs.YtpohhnihgegmfaaGreatDoor

namespace Go.Proofs.YtpohhnihgegmfaaGreatDoor
open Go.RowKit
set_option linter.unusedVariables false
set_option linter.unusedSimpArgs false

theorem wordsOf_c (s : ByteArray) (w : World) (hs : s.size ≤ 1048576) (hg : Gl w) :
    Calls Tryz.prog 51 #[.string s] w fun e w' => ∃ (Ps : List ByteArray) (g : Nat), e = .returned (.slice (some ⟨g, 0, none⟩) Ps.length Ps.length) ∧ Ext w w' ∧ Blk w' g 9 (Ps.map Value.string).toArray ∧ Parts 32 s Ps := by
  have HG := Lib.hid hg
  clear hg
  go_enter Tryz.func51, Tryz.ntmps51
  go_wp2_with fail
  refine (splitI_c s 32 _ hs HG.out).mono ?_
  rintro e w1 ⟨Ps, g, rfl, hx1, kb, hp⟩
  go_wp2_with fail
  go_ret
  exact ⟨Ps, g, rfl, hx1, kb, hp⟩
theorem suf_yes {l t : List UInt8} (h : l = t ++ [10]) : Lib.hasSuffix l [10] = true ∧ Lib.trimSuffix l [10] = t := by
  subst h
  constructor <;> simp [Lib.hasSuffix, Lib.trimSuffix]
theorem suf_no {l : List UInt8} (h : ∀ t, l ≠ t ++ [10]) : Lib.hasSuffix l [10] = false := by
  rcases List.eq_nil_or_concat l with rfl | ⟨A, a, rfl⟩
  · simp [Lib.hasSuffix]
  · rw [List.concat_eq_append] at h ⊢
    have : a ≠ 10 := fun e => h A (by rw [e])
    have h2 : ((10 : UInt8) == a) = false := by rw [beq_eq_false_iff_ne]; exact fun e => this e.symm
    simp [Lib.hasSuffix, List.isSuffixOf, List.isPrefixOf, h2]
theorem linesOf_0 (w : World) : Calls Tryz.prog 49 #[.string ⟨#[]⟩] w fun e w' => e = .returned (.tuple #[.slice none 0 0, .bool true]) ∧ Ext w w' := by
  go_enter Tryz.func49, Tryz.ntmps49
  go_wp2_with fail
  go_ret2
  exact ⟨rfl, Ext.refl _⟩
theorem linesOf_no (s : ByteArray) (w : World) (hs : s.size ≤ 1048576) (h0 : s.data.toList ≠ []) (h : ∀ t, s.data.toList ≠ t ++ [10]) :
    Calls Tryz.prog 49 #[.string s] w fun e w' => e = .returned (.tuple #[.slice none 0 0, .bool false]) ∧ Ext w w' := by
  obtain ⟨b, hb⟩ : ∃ b, b = Lib.hasSuffix s.data.toList [10] := ⟨_, rfl⟩
  have HS := Lib.hid (fun W => (hb ▸ Tryz.strings_HasSuffix s ⟨#[10]⟩ W (by omega) : Calls Tryz.prog 83 #[.string s, .string ⟨#[10]⟩] W fun e w' => e = .returned (.bool b) ∧ w' = W))
  obtain rfl : b = false := by rw [hb]; exact suf_no h
  have z1 : (s.toList == []) = false := by rw [ByteArray.toList_eq]; simpa using h0
  clear hb h h0
  go_enter Tryz.func49, Tryz.ntmps49
  go_wp2_with fail
  refine (HS.out _).mono ?_
  rintro e w1 ⟨rfl, rfl⟩
  go_wp2_with fail
  go_ret2
  exact ⟨rfl, Ext.refl _⟩
theorem linesOf_yes (s : ByteArray) (t : List UInt8) (w : World) (hs : s.size ≤ 1048576) (h : s.data.toList = t ++ [10]) (hg : Gl w) :
    Calls Tryz.prog 49 #[.string s] w fun e w' => ∃ (Ps : List ByteArray) (g : Nat), e = .returned (.tuple #[.slice (some ⟨g, 0, none⟩) Ps.length Ps.length, .bool true]) ∧ Ext w w' ∧ Blk w' g 9 (Ps.map Value.string).toArray ∧ Ps.map (·.data.toList) = splitL 10 t := by
  have HG := Lib.hid hg
  have q := suf_yes h
  have HS := Lib.hid (fun W => (q.1 ▸ Tryz.strings_HasSuffix s ⟨#[10]⟩ W (by omega) : Calls Tryz.prog 83 #[.string s, .string ⟨#[10]⟩] W fun e w' => e = .returned (.bool true) ∧ w' = W))
  have HT := Lib.hid (fun W => (q.2 ▸ Tryz.strings_TrimSuffix s ⟨#[10]⟩ W (by omega) : Calls Tryz.prog 84 #[.string s, .string ⟨#[10]⟩] W fun e w' => e = .returned (.string ⟨t.toArray⟩) ∧ w' = W))
  have hl : t.length + 1 = s.size := by
    have := congrArg List.length h
    rw [List.length_append, ba_len] at this; simpa using this.symm
  have z1 : (s.toList == []) = false := by rw [ByteArray.toList_eq, h]; simp
  have HSP := Lib.hid (fun W hW => splitI_c ⟨t.toArray⟩ 10 W (by simp only [ByteArray.size, List.size_toArray]; omega) hW)
  clear q h hl hg
  go_enter Tryz.func49, Tryz.ntmps49
  go_wp2_with fail
  refine (HS.out _).mono ?_
  rintro e w1 ⟨rfl, rfl⟩
  go_wp2_with fail
  refine (HT.out _).mono ?_
  rintro e w1 ⟨rfl, rfl⟩
  go_wp2_with fail
  refine (HSP.out _ HG.out).mono ?_
  rintro e w1 ⟨Ps, g, rfl, hx1, kb, hp⟩
  go_wp2_with fail
  go_ret2
  exact ⟨Ps, g, rfl, hx1, kb, hp⟩
end Go.Proofs.YtpohhnihgegmfaaGreatDoor

namespace Go.Proofs.YtpohhnihgegmfaaGreatDoor
open Go.RowKit
set_option linter.unusedVariables false
set_option linter.unusedSimpArgs false

/-- rows of two types lie apart -/
theorem own_apart {w : World} {B1 B2 z1 z2 : Nat} {e1 e2 : TypeId} {v1 v2 : Value} {n1 n2 : Nat} {xs ys : List Value} (h1 : w.ownsRow B1 e1 z1 v1 n1 xs) (h2 : w.ownsRow B2 e2 z2 v2 n2 ys) (he : e1 ≠ e2) : v2.ownBlock = none ∨ v2.ownBlock ≠ v1.ownBlock := by
  rcases h2.2 with ⟨rfl, _⟩ | ⟨g2, c2, u2, rfl, _, k2, _⟩
  · exact .inl rfl
  · rcases h1.2 with ⟨rfl, _⟩ | ⟨g1, c1, u1, rfl, _, k1, _⟩
    · exact .inr (by simp [Value.ownBlock])
    · refine .inr fun e => ?_
      simp only [Value.ownBlock, Option.some.injEq] at e
      subst e
      rw [k1] at k2
      simp only [Option.some.injEq, Obj.cells.injEq] at k2
      exact he k2.2.1
/-- a calendar that is being read: behind a pointer, its rows its own -/
structure CB (w0 w : World) (gc : Nat) (C : Cl) (a1 : Option Addr) (c1 : Nat) (a2 : Option Addr) (c2 : Nat) : Prop where
  lo : w0.heap.size ≤ gc
  x : Ext w0 w
  cal : Blk w gc 27 #[.string C.nm, .slice a1 C.M.length c1, .slice a2 C.R.length c2, .int .i64 C.wk]
  om : w.ownsRow (gc + 1) 99 3 (.slice a1 C.M.length c1) C.M.length (MT C.M)
  or : w.ownsRow (gc + 1) 101 3 (.slice a2 C.R.length c2) C.R.length (RT C.R)
section
variable {w0 w w' : World} {gc : Nat} {C : Cl} {a1 : Option Addr} {c1 : Nat} {a2 : Option Addr} {c2 : Nat}
theorem CB.ext (h : CB w0 w gc C a1 c1 a2 c2) (e : Ext w w') : CB w0 w' gc C a1 c1 a2 c2 := ⟨h.lo, Ext.trans h.x e, h.cal.ext e, own_ext h.om e, own_ext h.or e⟩
theorem CB.far1 (h : CB w0 w gc C a1 c1 a2 c2) : (Value.slice a1 C.M.length c1).ownBlock ≠ some gc := fun e => by have := (h.om.lt _ e).1; omega
theorem CB.far2 (h : CB w0 w gc C a1 c1 a2 c2) : (Value.slice a2 C.R.length c2).ownBlock ≠ some gc := fun e => by have := (h.or.lt _ e).1; omega
theorem CB.set (h : CB w0 w gc C a1 c1 a2 c2) (j : Nat) (u : Value) {D : Cl} (hM : D.M = C.M) (hR : D.R = C.R)
    (hc : (#[.string C.nm, .slice a1 C.M.length c1, .slice a2 C.R.length c2, .int .i64 C.wk] : Array Value).setIfInBounds j u = #[.string D.nm, .slice a1 D.M.length c1, .slice a2 D.R.length c2, .int .i64 D.wk]) : CB w0 (w.setCell ⟨gc, j, none⟩ u) gc D a1 c1 a2 c2 :=
  ⟨h.lo, Ext.setAt h.x _ _ _ h.lo, hc ▸ h.cal.set j u, by rw [hM]; exact h.om.kept (grown_set gc j u) (.inr h.far1), by rw [hR]; exact h.or.kept (grown_set gc j u) (.inr h.far2)⟩
end
theorem CB.addM {w0 w6 : World} {gc : Nat} {C : Cl} {a1 a2 b6 : Option Addr} {c1 c2 c6 : Nat} {q : Mo} (lo : w0.heap.size ≤ gc) (hx : Ext w0 w6)
    (hc : Blk w6 gc 27 #[.string C.nm, .slice a1 C.M.length c1, .slice a2 C.R.length c2, .int .i64 C.wk])
    (s6 : w6.ownsRow (gc + 1) 99 3 (.slice b6 (C.M.length + 1) c6) (C.M.length + 1) (MT C.M ++ [.string q.1, .int .i64 q.2.1, .int .i64 q.2.2]))
    (ho : w6.ownsRow (gc + 1) 101 3 (.slice a2 C.R.length c2) C.R.length (RT C.R)) (n6 : (Value.slice b6 (C.M.length + 1) c6).ownBlock ≠ some gc) (n7 : (Value.slice a2 C.R.length c2).ownBlock ≠ some gc) :
    CB w0 (w6.setCell ⟨gc, 1, none⟩ (.slice b6 (C.M.length + 1) c6)) gc ⟨C.nm, C.wk, C.M ++ [q], C.R⟩ b6 c6 a2 c2 := by
  have e : (C.M ++ [q]).length = C.M.length + 1 := by simp
  have e2 : MT (C.M ++ [q]) = MT C.M ++ [.string q.1, .int .i64 q.2.1, .int .i64 q.2.2] := by rw [MT_app]; rfl
  refine ⟨lo, Ext.setAt hx _ _ _ lo, ?_, ?_, ho.kept (grown_set gc 1 _) (.inr n7)⟩
  · dsimp only; rw [e]; exact hc.set 1 _
  · dsimp only; rw [e, e2]; exact s6.kept (grown_set gc 1 _) (.inr n6)
theorem CB.addR {w0 w6 : World} {gc : Nat} {C : Cl} {a1 a2 b6 : Option Addr} {c1 c2 c6 : Nat} {q : Ru} (lo : w0.heap.size ≤ gc) (hx : Ext w0 w6)
    (hc : Blk w6 gc 27 #[.string C.nm, .slice a1 C.M.length c1, .slice a2 C.R.length c2, .int .i64 C.wk])
    (s6 : w6.ownsRow (gc + 1) 101 3 (.slice b6 (C.R.length + 1) c6) (C.R.length + 1) (RT C.R ++ [.int .i64 q.1, .int .i64 q.2.1, .bool q.2.2]))
    (ho : w6.ownsRow (gc + 1) 99 3 (.slice a1 C.M.length c1) C.M.length (MT C.M)) (n6 : (Value.slice b6 (C.R.length + 1) c6).ownBlock ≠ some gc) (n7 : (Value.slice a1 C.M.length c1).ownBlock ≠ some gc) :
    CB w0 (w6.setCell ⟨gc, 2, none⟩ (.slice b6 (C.R.length + 1) c6)) gc ⟨C.nm, C.wk, C.M, C.R ++ [q]⟩ a1 c1 b6 c6 := by
  have e : (C.R ++ [q]).length = C.R.length + 1 := by simp
  have e2 : RT (C.R ++ [q]) = RT C.R ++ [.int .i64 q.1, .int .i64 q.2.1, .bool q.2.2] := by rw [RT_app]; rfl
  refine ⟨lo, Ext.setAt hx _ _ _ lo, ?_, ho.kept (grown_set gc 2 _) (.inr n7), ?_⟩
  · dsimp only; rw [e]; exact hc.set 2 _
  · dsimp only; rw [e, e2]; exact s6.kept (grown_set gc 2 _) (.inr n6)
set_option maxRecDepth 100000 in
set_option maxHeartbeats 4000000 in
theorem line_cal (w0 : World) (gc g : Nat) (C : Cl) (a1 : Option Addr) (c1 : Nat) (a2 : Option Addr) (c2 : Nat) (p1 p2 : ByteArray) (w : World) (h : CB w0 w gc C a1 c1 a2 c2)
    (hw : Blk w g 9 #[.string ⟨#[99, 97, 108, 101, 110, 100, 97, 114]⟩, .string p1, .string p2]) (hz : p2.size ≤ 1048576) (hgc : g ≠ gc) (hg : Gl w0) :
    Calls Tryz.prog 50 #[.pointer (some ⟨gc, 0, none⟩), .slice (some ⟨g, 0, none⟩) 3 3] w fun e w' => e = .returned (.bool true) ∧ CB w0 w' gc ⟨p1, nv p2.data.toList, C.M, C.R⟩ a1 c1 a2 c2 := by
  obtain ⟨x, hx⟩ : ∃ x, x = nv p2.data.toList := ⟨_, rfl⟩
  have N2 := Lib.hid (fun W hW => (hx ▸ implReadDecimal_c p2 W hz hW (nv_r _) : Calls Tryz.prog 38 #[.string p2] W fun e w' => e = .returned (.tuple #[.int .i64 x, .bool (nb p2.data.toList)]) ∧ Ext W w'))
  have HX := Lib.hid hx
  have H := Lib.hid h
  have HG := Lib.hid hg
  have s0 := hw.cell 0
  have s1 := hw.cell 1
  have s2 := hw.cell 2
  have k0 := h.cal.cell 0
  have k3 := h.cal.cell 3
  have f0 := h.cal.frozen 0
  have l0 := h.cal.lt
  have lo := h.lo
  clear hx h hg
  go_enter Tryz.func50, Tryz.ntmps50
  go_wp2_with fail
  have C1 : CB w0 (w.setCell ⟨gc, 0, none⟩ (.string p1)) gc ⟨p1, C.wk, C.M, C.R⟩ a1 c1 a2 c2 := H.out.set 0 _ rfl rfl rfl
  refine (N2.out _ (HG.out.ext C1.x)).mono ?_
  rintro e w2 ⟨rfl, hx2⟩
  have C2 := C1.ext hx2
  have H2 := Lib.hid C2
  have l2 := C2.cal.lt
  have j3 := C2.cal.cell 3
  have f3 := C2.cal.frozen 3
  clear C1 C2 hx2 k0 k3 f0 l0 s0 s1 s2 hw
  go_wp2_with fail
  go_ret
  exact ⟨rfl, by rw [← HX.out]; exact H2.out.set 3 _ rfl rfl rfl⟩
set_option maxRecDepth 100000 in
set_option maxHeartbeats 4000000 in
theorem line_mon (w0 : World) (gc g : Nat) (C : Cl) (a1 : Option Addr) (c1 : Nat) (a2 : Option Addr) (c2 : Nat) (p1 p2 p3 : ByteArray) (w : World) (h : CB w0 w gc C a1 c1 a2 c2) (hn : C.M.length ≤ 1048576)
    (hw : Blk w g 9 #[.string ⟨#[109, 111, 110, 116, 104]⟩, .string p1, .string p2, .string p3]) (hz : p2.size ≤ 1048576) (hz3 : p3.size ≤ 1048576) (hgc : g ≠ gc) (hgm : ∀ k, (Value.slice a1 C.M.length c1).ownBlock = some k → k ≠ g) (hg : Gl w0) :
    Calls Tryz.prog 50 #[.pointer (some ⟨gc, 0, none⟩), .slice (some ⟨g, 0, none⟩) 4 4] w fun e w' => e = .returned (.bool true) ∧ ∃ a1' c1', CB w0 w' gc ⟨C.nm, C.wk, C.M ++ [(p1, nv p2.data.toList, nv p3.data.toList)], C.R⟩ a1' c1' a2 c2 := by
  obtain ⟨x, hx⟩ : ∃ x, x = nv p2.data.toList := ⟨_, rfl⟩
  obtain ⟨y, hy⟩ : ∃ y, y = nv p3.data.toList := ⟨_, rfl⟩
  rw [← hx, ← hy]
  have N2 := Lib.hid (fun W hW => (hx ▸ implReadDecimal_c p2 W hz hW (nv_r _) : Calls Tryz.prog 38 #[.string p2] W fun e w' => e = .returned (.tuple #[.int .i64 x, .bool (nb p2.data.toList)]) ∧ Ext W w'))
  have N3 := Lib.hid (fun W hW => (hy ▸ implReadDecimal_c p3 W hz3 hW (nv_r _) : Calls Tryz.prog 38 #[.string p3] W fun e w' => e = .returned (.tuple #[.int .i64 y, .bool (nb p3.data.toList)]) ∧ Ext W w'))
  have H := Lib.hid h
  have HG := Lib.hid hg
  have HW := Lib.hid hw
  have s0 := hw.cell 0
  have s2 := hw.cell 2
  have s3 := hw.cell 3
  have lo := h.lo
  clear hx hy h hg hw
  go_enter Tryz.func50, Tryz.ntmps50
  go_wp2_with fail
  refine (N2.out _ (HG.out.ext H.out.x)).mono ?_
  rintro e w2 ⟨rfl, hx2⟩
  have H2 := Lib.hid (H.out.ext hx2)
  have HW2 := Lib.hid (HW.out.ext hx2)
  have s3 := HW2.out.cell 3
  clear hx2 H HW s0 s2
  go_wp2_with fail
  refine (N3.out _ (HG.out.ext H2.out.x)).mono ?_
  rintro e w3 ⟨rfl, hx3⟩
  have H3 := Lib.hid (H2.out.ext hx3)
  have HW3 := Lib.hid (HW2.out.ext hx3)
  have l3 := H3.out.cal.lt
  have lg := HW3.out.lt
  obtain ⟨v1, hv1⟩ : ∃ v, v = Value.slice a1 C.M.length c1 := ⟨_, rfl⟩
  have OM := Lib.hid (show w3.ownsRow (gc + 1) 99 3 v1 C.M.length (MT C.M) from hv1 ▸ H3.out.om)
  have SK : ∀ w', Ext w3 w' → w'.cell? ⟨gc, 1, none⟩ = some v1 ∧ w'.cell? ⟨g, 1, none⟩ = some (.string p1) ∧ w'.frozen? ⟨gc, 1, none⟩ = false := fun w' hq => by
    refine ⟨?_, (hq.cell lg).trans (HW3.out.cell 1), (H3.out.cal.ext hq).frozen 1⟩
    rw [hv1]; exact (hq.cell l3).trans (H3.out.cal.cell 1)
  have SK' := Lib.hid SK
  have ng1 : v1.ownBlock ≠ some gc := hv1 ▸ H3.out.far1
  have ng2 : v1.ownBlock ≠ some g := fun e => hgm g (by rw [← hv1]; exact e) rfl
  have HV1 := Lib.hid hv1
  clear SK H2 HW2 hx3 s3 hv1
  obtain ⟨r1, r2, r3⟩ := SK'.out w3 (Ext.refl _)
  go_upto_region 8 with fail
  go_region_law ((refine appGs 24 99 _ _ _ 3 32 (by rfl) (by rfl) Tryz.underlying24 info_month rfl (by decide) (by decide) (gc + 1) v1 C.M.length (MT C.M) 1 [.string p1, .int .i64 x, .int .i64 y] _ 1 (by rfl) (by rfl) (own_ext OM.out (by repeat (first | with_reducible exact Ext.refl _ | with_reducible assumption | with_reducible refine Ext.alloc ?_ _ | with_reducible refine Ext.drew ?_ | (with_reducible refine Ext.setAt ?_ _ _ _ ?_; rotate_left; omega) | with_reducible refine Ext.trans ?_ (by assumption) | with_reducible exact Past.bel _ | with_reducible refine Ext.trans ?_ (Past.bel _)))) (Blk.new _ _ _) rfl (by intro u hu; simp at hu; rcases hu with rfl | rfl | rfl <;> rfl) (by omega) (by omega) hn (Nat.le_trans (show gc + 1 ≤ w3.heap.size from l3) (Ext.size (w := w3) (by repeat (first | with_reducible exact Ext.refl _ | with_reducible assumption | with_reducible refine Ext.alloc ?_ _ | with_reducible refine Ext.drew ?_ | (with_reducible refine Ext.setAt ?_ _ _ _ ?_; rotate_left; omega) | with_reducible refine Ext.trans ?_ (by assumption) | with_reducible exact Past.bel _ | with_reducible refine Ext.trans ?_ (Past.bel _))))) ?_; intro v6 w6 s6 s7 s8; obtain ⟨b6, c6, rfl⟩ := own_form s6; have q1 := (s8 gc 1 (Nat.lt_of_lt_of_le l3 (Ext.size (w := w3) (by repeat (first | with_reducible exact Ext.refl _ | with_reducible assumption | with_reducible refine Ext.alloc ?_ _ | with_reducible refine Ext.drew ?_ | (with_reducible refine Ext.setAt ?_ _ _ _ ?_; rotate_left; omega) | with_reducible refine Ext.trans ?_ (by assumption) | with_reducible exact Past.bel _ | with_reducible refine Ext.trans ?_ (Past.bel _))))) ng1).trans (SK'.out _ (by repeat (first | with_reducible exact Ext.refl _ | with_reducible assumption | with_reducible refine Ext.alloc ?_ _ | with_reducible refine Ext.drew ?_ | (with_reducible refine Ext.setAt ?_ _ _ _ ?_; rotate_left; omega) | with_reducible refine Ext.trans ?_ (by assumption) | with_reducible exact Past.bel _ | with_reducible refine Ext.trans ?_ (Past.bel _)))).1; have q2 := ((H3.out.cal.ext (by repeat (first | with_reducible exact Ext.refl _ | with_reducible assumption | with_reducible refine Ext.alloc ?_ _ | with_reducible refine Ext.drew ?_ | (with_reducible refine Ext.setAt ?_ _ _ _ ?_; rotate_left; omega) | with_reducible refine Ext.trans ?_ (by assumption) | with_reducible exact Past.bel _ | with_reducible refine Ext.trans ?_ (Past.bel _)))).grown s7 (fun e => ng1 e.symm)).frozen 1))
  all_goals
    have hc6 := (H3.out.cal.ext (by repeat (first | with_reducible exact Ext.refl _ | with_reducible assumption | with_reducible refine Ext.alloc ?_ _ | with_reducible refine Ext.drew ?_ | (with_reducible refine Ext.setAt ?_ _ _ _ ?_; rotate_left; omega) | with_reducible refine Ext.trans ?_ (by assumption) | with_reducible exact Past.bel _ | with_reducible refine Ext.trans ?_ (Past.bel _)))).grown s7 (fun e => ng1 e.symm)
    have ho6 := (own_ext H3.out.or (by repeat (first | with_reducible exact Ext.refl _ | with_reducible assumption | with_reducible refine Ext.alloc ?_ _ | with_reducible refine Ext.drew ?_ | (with_reducible refine Ext.setAt ?_ _ _ _ ?_; rotate_left; omega) | with_reducible refine Ext.trans ?_ (by assumption) | with_reducible exact Past.bel _ | with_reducible refine Ext.trans ?_ (Past.bel _)))).kept s7 (by have := own_apart H3.out.om H3.out.or (by decide); rwa [← HV1.out] at this)
    have hx6 : Ext w0 _ := Ext.grown (Ext.trans H3.out.x (b := w3) (by repeat (first | with_reducible exact Ext.refl _ | with_reducible assumption | with_reducible refine Ext.alloc ?_ _ | with_reducible refine Ext.drew ?_ | (with_reducible refine Ext.setAt ?_ _ _ _ ?_; rotate_left; omega) | with_reducible refine Ext.trans ?_ (by assumption) | with_reducible exact Past.bel _ | with_reducible refine Ext.trans ?_ (Past.bel _)))) s7 (fun k hk => by have := (OM.out.lt k hk).1; omega)
    have n6 : (Value.slice b6 (C.M.length + 1) c6).ownBlock ≠ some gc := fun e => by have := (s6.lt _ e).1; omega
    have n7 : (Value.slice a2 C.R.length c2).ownBlock ≠ some gc := H3.out.far2
    go_wp2_with fail
    go_ret
    exact ⟨rfl, b6, c6, CB.addM (q := (p1, x, y)) lo hx6 hc6 s6 ho6 n6 n7⟩
set_option maxRecDepth 100000 in
set_option maxHeartbeats 4000000 in
theorem line_lea (w0 : World) (gc g : Nat) (C : Cl) (a1 : Option Addr) (c1 : Nat) (a2 : Option Addr) (c2 : Nat) (p1 p2 p3 : ByteArray) (w : World) (h : CB w0 w gc C a1 c1 a2 c2) (hn : C.R.length ≤ 1048576)
    (hw : Blk w g 9 #[.string ⟨#[108, 101, 97, 112]⟩, .string p1, .string p2, .string p3]) (hz : p1.size ≤ 1048576) (hz3 : p2.size ≤ 1048576) (hgc : g ≠ gc) (hgm : ∀ k, (Value.slice a2 C.R.length c2).ownBlock = some k → k ≠ g) (hg : Gl w0) :
    Calls Tryz.prog 50 #[.pointer (some ⟨gc, 0, none⟩), .slice (some ⟨g, 0, none⟩) 4 4] w fun e w' => e = .returned (.bool true) ∧ ∃ a2' c2', CB w0 w' gc ⟨C.nm, C.wk, C.M, C.R ++ [(nv p1.data.toList, nv p2.data.toList, decide (p3.data.toList = yesK))]⟩ a1 c1 a2' c2' := by
  obtain ⟨x, hx⟩ : ∃ x, x = nv p1.data.toList := ⟨_, rfl⟩
  obtain ⟨y, hy⟩ : ∃ y, y = nv p2.data.toList := ⟨_, rfl⟩
  obtain ⟨b, hb⟩ : ∃ b, b = decide (p3.data.toList = yesK) := ⟨_, rfl⟩
  rw [← hx, ← hy, ← hb]
  have z1 : (p3.toList == [121, 101, 115]) = b := by rw [hb, ByteArray.toList_eq, yesK]; by_cases hh : p3.data.toList = [121, 101, 115] <;> simp [hh]
  have N2 := Lib.hid (fun W hW => (hx ▸ implReadDecimal_c p1 W hz hW (nv_r _) : Calls Tryz.prog 38 #[.string p1] W fun e w' => e = .returned (.tuple #[.int .i64 x, .bool (nb p1.data.toList)]) ∧ Ext W w'))
  have N3 := Lib.hid (fun W hW => (hy ▸ implReadDecimal_c p2 W hz3 hW (nv_r _) : Calls Tryz.prog 38 #[.string p2] W fun e w' => e = .returned (.tuple #[.int .i64 y, .bool (nb p2.data.toList)]) ∧ Ext W w'))
  have H := Lib.hid h
  have HG := Lib.hid hg
  have HW := Lib.hid hw
  have s0 := hw.cell 0
  have s2 := hw.cell 1
  have s3 := hw.cell 2
  have lo := h.lo
  clear hx hy hb h hg hw
  go_enter Tryz.func50, Tryz.ntmps50
  go_wp2_with fail
  refine (N2.out _ (HG.out.ext H.out.x)).mono ?_
  rintro e w2 ⟨rfl, hx2⟩
  have H2 := Lib.hid (H.out.ext hx2)
  have HW2 := Lib.hid (HW.out.ext hx2)
  have s3 := HW2.out.cell 2
  clear hx2 H HW s0 s2
  go_wp2_with fail
  refine (N3.out _ (HG.out.ext H2.out.x)).mono ?_
  rintro e w3 ⟨rfl, hx3⟩
  have H3 := Lib.hid (H2.out.ext hx3)
  have HW3 := Lib.hid (HW2.out.ext hx3)
  have l3 := H3.out.cal.lt
  have lg := HW3.out.lt
  obtain ⟨v1, hv1⟩ : ∃ v, v = Value.slice a2 C.R.length c2 := ⟨_, rfl⟩
  have OM := Lib.hid (show w3.ownsRow (gc + 1) 101 3 v1 C.R.length (RT C.R) from hv1 ▸ H3.out.or)
  have SK : ∀ w', Ext w3 w' → w'.cell? ⟨gc, 2, none⟩ = some v1 ∧ w'.cell? ⟨g, 3, none⟩ = some (.string p3) ∧ w'.frozen? ⟨gc, 2, none⟩ = false := fun w' hq => by
    refine ⟨?_, (hq.cell lg).trans (HW3.out.cell 3), (H3.out.cal.ext hq).frozen 2⟩
    rw [hv1]; exact (hq.cell l3).trans (H3.out.cal.cell 2)
  have SK' := Lib.hid SK
  have ng1 : v1.ownBlock ≠ some gc := hv1 ▸ H3.out.far2
  have ng2 : v1.ownBlock ≠ some g := fun e => hgm g (by rw [← hv1]; exact e) rfl
  have HV1 := Lib.hid hv1
  clear SK H2 HW2 hx3 s3 hv1
  obtain ⟨r1, r2, r3⟩ := SK'.out w3 (Ext.refl _)
  go_upto_region 12 with fail
  go_region_law ((refine appGs 25 101 _ _ _ 3 24 (by rfl) (by rfl) Tryz.underlying25 info_rule rfl (by decide) (by decide) (gc + 1) v1 C.R.length (RT C.R) 1 [.int .i64 x, .int .i64 y, .bool b] _ 1 (by rfl) (by rfl) (own_ext OM.out (by repeat (first | with_reducible exact Ext.refl _ | with_reducible assumption | with_reducible refine Ext.alloc ?_ _ | with_reducible refine Ext.drew ?_ | (with_reducible refine Ext.setAt ?_ _ _ _ ?_; rotate_left; omega) | with_reducible refine Ext.trans ?_ (by assumption) | with_reducible exact Past.bel _ | with_reducible refine Ext.trans ?_ (Past.bel _)))) (Blk.new _ _ _) rfl (by intro u hu; simp at hu; rcases hu with rfl | rfl | rfl <;> rfl) (by omega) (by omega) hn (Nat.le_trans (show gc + 1 ≤ w3.heap.size from l3) (Ext.size (w := w3) (by repeat (first | with_reducible exact Ext.refl _ | with_reducible assumption | with_reducible refine Ext.alloc ?_ _ | with_reducible refine Ext.drew ?_ | (with_reducible refine Ext.setAt ?_ _ _ _ ?_; rotate_left; omega) | with_reducible refine Ext.trans ?_ (by assumption) | with_reducible exact Past.bel _ | with_reducible refine Ext.trans ?_ (Past.bel _))))) ?_; intro v6 w6 s6 s7 s8; obtain ⟨b6, c6, rfl⟩ := own_form s6; have q1 := (s8 gc 2 (Nat.lt_of_lt_of_le l3 (Ext.size (w := w3) (by repeat (first | with_reducible exact Ext.refl _ | with_reducible assumption | with_reducible refine Ext.alloc ?_ _ | with_reducible refine Ext.drew ?_ | (with_reducible refine Ext.setAt ?_ _ _ _ ?_; rotate_left; omega) | with_reducible refine Ext.trans ?_ (by assumption) | with_reducible exact Past.bel _ | with_reducible refine Ext.trans ?_ (Past.bel _))))) ng1).trans (SK'.out _ (by repeat (first | with_reducible exact Ext.refl _ | with_reducible assumption | with_reducible refine Ext.alloc ?_ _ | with_reducible refine Ext.drew ?_ | (with_reducible refine Ext.setAt ?_ _ _ _ ?_; rotate_left; omega) | with_reducible refine Ext.trans ?_ (by assumption) | with_reducible exact Past.bel _ | with_reducible refine Ext.trans ?_ (Past.bel _)))).1; have q2 := ((H3.out.cal.ext (by repeat (first | with_reducible exact Ext.refl _ | with_reducible assumption | with_reducible refine Ext.alloc ?_ _ | with_reducible refine Ext.drew ?_ | (with_reducible refine Ext.setAt ?_ _ _ _ ?_; rotate_left; omega) | with_reducible refine Ext.trans ?_ (by assumption) | with_reducible exact Past.bel _ | with_reducible refine Ext.trans ?_ (Past.bel _)))).grown s7 (fun e => ng1 e.symm)).frozen 2))
  all_goals
    have hc6 := (H3.out.cal.ext (by repeat (first | with_reducible exact Ext.refl _ | with_reducible assumption | with_reducible refine Ext.alloc ?_ _ | with_reducible refine Ext.drew ?_ | (with_reducible refine Ext.setAt ?_ _ _ _ ?_; rotate_left; omega) | with_reducible refine Ext.trans ?_ (by assumption) | with_reducible exact Past.bel _ | with_reducible refine Ext.trans ?_ (Past.bel _)))).grown s7 (fun e => ng1 e.symm)
    have ho6 := (own_ext H3.out.om (by repeat (first | with_reducible exact Ext.refl _ | with_reducible assumption | with_reducible refine Ext.alloc ?_ _ | with_reducible refine Ext.drew ?_ | (with_reducible refine Ext.setAt ?_ _ _ _ ?_; rotate_left; omega) | with_reducible refine Ext.trans ?_ (by assumption) | with_reducible exact Past.bel _ | with_reducible refine Ext.trans ?_ (Past.bel _)))).kept s7 (by have := own_apart H3.out.or H3.out.om (by decide); rwa [← HV1.out] at this)
    have hx6 : Ext w0 _ := Ext.grown (Ext.trans H3.out.x (b := w3) (by repeat (first | with_reducible exact Ext.refl _ | with_reducible assumption | with_reducible refine Ext.alloc ?_ _ | with_reducible refine Ext.drew ?_ | (with_reducible refine Ext.setAt ?_ _ _ _ ?_; rotate_left; omega) | with_reducible refine Ext.trans ?_ (by assumption) | with_reducible exact Past.bel _ | with_reducible refine Ext.trans ?_ (Past.bel _)))) s7 (fun k hk => by have := (OM.out.lt k hk).1; omega)
    have n6 : (Value.slice b6 (C.R.length + 1) c6).ownBlock ≠ some gc := fun e => by have := (s6.lt _ e).1; omega
    have n7 : (Value.slice a1 C.M.length c1).ownBlock ≠ some gc := H3.out.far1
    go_wp2_with fail
    go_ret
    exact ⟨rfl, b6, c6, CB.addR (q := (x, y, b)) lo hx6 hc6 s6 ho6 n6 n7⟩
set_option maxRecDepth 100000 in
set_option maxHeartbeats 4000000 in
theorem line_no (gc g : Nat) (Ps : List ByteArray) (p0 : ByteArray) (w : World) (hn : 1 ≤ Ps.length) (hw : w.cell? ⟨g, 0, none⟩ = some (.string p0))
    (h1 : ¬ (p0.data.toList = calK ∧ Ps.length = 3)) (h2 : ¬ (p0.data.toList = monK ∧ Ps.length = 4)) (h3 : ¬ (p0.data.toList = leaK ∧ Ps.length = 4)) :
    Calls Tryz.prog 50 #[.pointer (some ⟨gc, 0, none⟩), .slice (some ⟨g, 0, none⟩) Ps.length Ps.length] w fun e w' => e = .returned (.bool false) ∧ w' = w := by
  obtain ⟨n, hN⟩ : ∃ n, n = Ps.length := ⟨_, rfl⟩
  rw [← hN] at hn h1 h2 h3 ⊢
  clear hN
  have x0 : (0 : Int) < (n : Int) := by omega
  have e0 := ByteArray.toList_eq p0
  rw [← e0] at h1 h2 h3
  clear e0
  unfold calK at h1
  unfold monK at h2
  unfold leaK at h3
  by_cases c1 : p0.toList = [99, 97, 108, 101, 110, 100, 97, 114]
  · have y1 : (p0.toList == [99, 97, 108, 101, 110, 100, 97, 114]) = true := by rw [c1]; rfl
    have y2 : (p0.toList == [109, 111, 110, 116, 104]) = false := by rw [c1]; rfl
    have y3 : (p0.toList == [108, 101, 97, 112]) = false := by rw [c1]; rfl
    have y4 : ((n : Int) == 3) = false := by rw [beq_eq_false_iff_ne]; intro e; exact h1 ⟨c1, by omega⟩
    clear h1 h2 h3 c1
    go_enter Tryz.func50, Tryz.ntmps50
    go_wp2_with fail
    go_ret
    exact ⟨rfl, rfl⟩
  · have y1 : (p0.toList == [99, 97, 108, 101, 110, 100, 97, 114]) = false := by rw [beq_eq_false_iff_ne]; exact c1
    by_cases c2 : p0.toList = [109, 111, 110, 116, 104]
    · have y2 : (p0.toList == [109, 111, 110, 116, 104]) = true := by rw [c2]; rfl
      have y3 : (p0.toList == [108, 101, 97, 112]) = false := by rw [c2]; rfl
      have y4 : ((n : Int) == 4) = false := by rw [beq_eq_false_iff_ne]; intro e; exact h2 ⟨c2, by omega⟩
      clear h1 h2 h3 c1 c2
      go_enter Tryz.func50, Tryz.ntmps50
      go_wp2_with fail
      go_ret
      exact ⟨rfl, rfl⟩
    · have y2 : (p0.toList == [109, 111, 110, 116, 104]) = false := by rw [beq_eq_false_iff_ne]; exact c2
      by_cases c3 : p0.toList = [108, 101, 97, 112]
      · have y3 : (p0.toList == [108, 101, 97, 112]) = true := by rw [c3]; rfl
        have y4 : ((n : Int) == 4) = false := by rw [beq_eq_false_iff_ne]; intro e; exact h3 ⟨c3, by omega⟩
        clear h1 h2 h3 c1 c2 c3
        go_enter Tryz.func50, Tryz.ntmps50
        go_wp2_with fail
        go_ret
        exact ⟨rfl, rfl⟩
      · have y3 : (p0.toList == [108, 101, 97, 112]) = false := by rw [beq_eq_false_iff_ne]; exact c3
        clear h1 h2 h3 c1 c2 c3
        go_enter Tryz.func50, Tryz.ntmps50
        go_wp2_with fail
        go_ret
        exact ⟨rfl, rfl⟩
end Go.Proofs.YtpohhnihgegmfaaGreatDoor

namespace Go.Proofs.YtpohhnihgegmfaaGreatDoor
open Go.RowKit
set_option linter.unusedVariables false
set_option linter.unusedSimpArgs false

theorem ba_of {p : ByteArray} {l : List UInt8} (h : p.data.toList = l) : p = ⟨l.toArray⟩ := by rw [← h]
/-- what one line's reading leaves -/
def LnR (w0 w w' : World) (gc : Nat) (e : Ending) : Option Cl → Prop
  | none => e = .returned (.bool false) ∧ w' = w
  | some D => e = .returned (.bool true) ∧ ∃ a1 c1 a2 c2, CB w0 w' gc D a1 c1 a2 c2
theorem line_c (w0 : World) (gc g : Nat) (C : Cl) (a1 : Option Addr) (c1 : Nat) (a2 : Option Addr) (c2 : Nat) (Ps : List ByteArray) (w : World) (h : CB w0 w gc C a1 c1 a2 c2) (hM : C.M.length ≤ 1048576) (hR : C.R.length ≤ 1048576)
    (hw : Blk w g 9 (Ps.map Value.string).toArray) (hne : Ps ≠ []) (hz : ∀ p ∈ Ps, p.size ≤ 1048576) (hgc : g ≠ gc)
    (hgm : ∀ k, (Value.slice a1 C.M.length c1).ownBlock = some k → k ≠ g) (hgr : ∀ k, (Value.slice a2 C.R.length c2).ownBlock = some k → k ≠ g) (hg : Gl w0) :
    Calls Tryz.prog 50 #[.pointer (some ⟨gc, 0, none⟩), .slice (some ⟨g, 0, none⟩) Ps.length Ps.length] w fun e w' => LnR w0 w w' gc e (stepI C (Ps.map (·.data.toList))) := by
  have no : ∀ p0, Ps[0]? = some p0 → ¬ (p0.data.toList = calK ∧ Ps.length = 3) → ¬ (p0.data.toList = monK ∧ Ps.length = 4) → ¬ (p0.data.toList = leaK ∧ Ps.length = 4) → stepI C (Ps.map (·.data.toList)) = none →
      Calls Tryz.prog 50 #[.pointer (some ⟨gc, 0, none⟩), .slice (some ⟨g, 0, none⟩) Ps.length Ps.length] w fun e w' => LnR w0 w w' gc e (stepI C (Ps.map (·.data.toList))) := fun p0 h0 n1 n2 n3 hs => by
    rw [hs]
    refine line_no gc g Ps p0 w (List.length_pos_iff.2 hne) ?_ n1 n2 n3
    rw [hw.cell]; simp [h0]
  match Ps, hne, hw, hz, no with
  | [p0], _, hw, hz, no => exact no p0 rfl (by simp) (by simp) (by simp) rfl
  | [p0, p1], _, hw, hz, no => exact no p0 rfl (by simp) (by simp) (by simp) rfl
  | [p0, p1, p2], _, hw, hz, no =>
    by_cases hk : p0.data.toList = calK
    · have e : stepI C ([p0, p1, p2].map (·.data.toList)) = some ⟨p1, nv p2.data.toList, C.M, C.R⟩ := by simp [stepI, hk]
      rw [e]
      obtain rfl := ba_of hk
      exact (line_cal w0 gc g C a1 c1 a2 c2 p1 p2 w h hw (hz p2 (by simp)) hgc hg).mono fun e w' k => ⟨k.1, _, _, _, _, k.2⟩
    · exact no p0 rfl (fun k => hk k.1) (by simp) (by simp) (by simp [stepI, hk])
  | [p0, p1, p2, p3], _, hw, hz, no =>
    by_cases hk : p0.data.toList = monK
    · have e : stepI C ([p0, p1, p2, p3].map (·.data.toList)) = some ⟨C.nm, C.wk, C.M ++ [(p1, nv p2.data.toList, nv p3.data.toList)], C.R⟩ := by simp [stepI, hk]
      rw [e]
      obtain rfl := ba_of hk
      exact (line_mon w0 gc g C a1 c1 a2 c2 p1 p2 p3 w h hM hw (hz p2 (by simp)) (hz p3 (by simp)) hgc hgm hg).mono fun e w' ⟨k, a, c, k2⟩ => ⟨k, _, _, _, _, k2⟩
    · by_cases hl : p0.data.toList = leaK
      · have e : stepI C ([p0, p1, p2, p3].map (·.data.toList)) = some ⟨C.nm, C.wk, C.M, C.R ++ [(nv p1.data.toList, nv p2.data.toList, decide (p3.data.toList = yesK))]⟩ := by
          simp [stepI, hl, show ¬ leaK = monK by decide]
        rw [e]
        obtain rfl := ba_of hl
        exact (line_lea w0 gc g C a1 c1 a2 c2 p1 p2 p3 w h hR hw (hz p1 (by simp)) (hz p2 (by simp)) hgc hgr hg).mono fun e w' ⟨k, a, c, k2⟩ => ⟨k, _, _, _, _, k2⟩
      · exact no p0 rfl (by simp) (fun k => hk k.1) (fun k => hl k.1) (by simp [stepI, hk, hl])
  | p0 :: p1 :: p2 :: p3 :: p4 :: r, _, hw, hz, no => exact no p0 rfl (by simp) (by simp) (by simp) rfl
theorem stepI_len {C D : Cl} {ws : List (List UInt8)} (h : stepI C ws = some D) : D.M.length + D.R.length ≤ C.M.length + C.R.length + 1 := by
  match ws, h with
  | [k, a, b], h =>
    simp only [stepI] at h
    split at h
    · cases h; simp
    · cases h
  | [k, a, b, c], h =>
    simp only [stepI] at h
    split at h
    · cases h; simp; omega
    · split at h
      · cases h; simp; omega
      · cases h
  | [], h => cases h
  | [_], h => cases h
  | [_, _], h => cases h
  | _ :: _ :: _ :: _ :: _ :: _, h => cases h
end Go.Proofs.YtpohhnihgegmfaaGreatDoor

namespace Go.Proofs.YtpohhnihgegmfaaGreatDoor
open Go.RowKit
set_option linter.unusedVariables false
set_option linter.unusedSimpArgs false

theorem sizeBuilder : (Tryz.prog.info? 93).map (·.size) = some 2 := by kernel_rfl
theorem liesBuilder : liesAt Tryz.prog Tryz.prog.depth 93 (2 / Tryz.prog.cellsOf 93) 0 93 1 = true := by kernel_rfl
set_option maxHeartbeats 1000000 in
set_option maxRecDepth 100000 in
theorem copyCheck_used (b : Nat) (w : World) (h0 : w.cell? ⟨b, 0, none⟩ = some (.pointer (some ⟨b, 0, none⟩))) :
    Calls Tryz.prog 85 #[.pointer (some ⟨b, 0, none⟩)] w fun e w' => e = .returned (.tuple #[]) ∧ w' = w := by
  obtain ⟨j, hj, _⟩ := Option.map_eq_some_iff.1 sizeBuilder
  go_enter Tryz.func85, Tryz.ntmps85
  go_wp2
  rw [Lib.run_neq_ptr_same w _ Tryz.underlying91 hj]
  go_wp2
  go_end0
  exact ⟨rfl, rfl⟩
set_option maxHeartbeats 1000000 in
set_option maxRecDepth 100000 in
theorem copyCheck_fresh (b : Nat) (w : World) (h0 : w.cell? ⟨b, 0, none⟩ = some (.pointer none)) (hsh : w.shape? b = some (93, 2)) (hfz : w.frozen? ⟨b, 0, none⟩ = false) :
    Calls Tryz.prog 85 #[.pointer (some ⟨b, 0, none⟩)] w fun e w' => e = .returned (.tuple #[]) ∧ w' = w.setCell ⟨b, 0, none⟩ (.pointer (some ⟨b, 0, none⟩)) := by
  obtain ⟨j, hj, hjs⟩ := Option.map_eq_some_iff.1 sizeBuilder
  go_enter Tryz.func85, Tryz.ntmps85
  go_wp2
  rw [Lib.run_to_unsafe w ⟨b, 0, none⟩ Tryz.underlying91 Tryz.underlying143 hj (by rw [hjs]; decide) hsh (Nat.zero_lt_succ 1)]
  simp only [Result.andThen]
  rw [Oper.upon_value]
  go_wp2
  rw [run_callFunc_extern Tryz.func106 (by kernel_rfl) (by kernel_rfl) (by kernel_rfl) (e := Extern.AbiNoEscape.same) (by kernel_rfl)]
  rw [Lib.run_noEscape]
  simp only [Result.andThen]
  rw [Oper.upon_value]
  go_wp2
  rw [Lib.run_from_unsafe w ⟨b, 0, none⟩ Tryz.underlying143 Tryz.underlying91 hj hsh liesBuilder]
  simp only [Result.andThen]
  rw [Oper.upon_value]
  go_wp2
  go_end0
  exact ⟨rfl, rfl⟩
theorem copyCheck_c (B b : Nat) (bs : List Value) (w : World) (h : Lib.IsBuilder 93 5 B b bs w) :
    Calls Tryz.prog 85 #[.pointer (some ⟨b, 0, none⟩)] w fun e w' => e = .returned (.tuple #[]) ∧ (Lib.BuilderAt 93 5 B b (.pointer (some ⟨b, 0, none⟩)) bs w' ∧ Below B w w' ∧ Lib.OthersKept 5 (some b) w w') := by
  rcases h with h | h
  · refine (copyCheck_fresh b w h.cell0 h.shape h.frozen0).mono ?_
    rintro e w' ⟨rfl, rfl⟩
    exact ⟨rfl, h.used _, (Below.refl B w).setCell (p := ⟨b, 0, none⟩) h.1 _, (Lib.OthersKept.refl _ _ w).setCell ⟨b, 0, none⟩ rfl _⟩
  · refine (copyCheck_used b w h.cell0).mono ?_
    rintro e w' ⟨rfl, rfl⟩
    exact ⟨rfl, h, Below.refl B _, Lib.OthersKept.refl _ _ _⟩
theorem ownsRow_kind {w : World} {base : Nat} {e : TypeId} {size : Nat} {v : Value} {n : Nat} {xs : List Value} (h : w.ownsRow base e size v n xs) : ∀ g, v.ownBlock = some g → ∃ c fz, w.heap[g]? = some (.cells c e fz) := fun g hg => by
  rcases h.2 with ⟨rfl, _⟩ | ⟨g', cap, cur, rfl, _, hb, _⟩
  · simp [Value.ownBlock] at hg
  · simp [Value.ownBlock] at hg
    subst hg
    exact ⟨cur, (0, 0), hb⟩
set_option maxHeartbeats 2000000 in
set_option maxRecDepth 100000 in
theorem writeString_c (B b : Nat) (bs : List Value) (s : ByteArray) (w : World) (h : Lib.IsBuilder 93 5 B b bs w) (hlen : bs.length + s.size ≤ 140737488355328) (hBw : B ≤ w.heap.size) :
    Calls Tryz.prog 52 #[.pointer (some ⟨b, 0, none⟩), .string s] w fun e w' => e = .returned (.tuple #[.int .i64 s.size, .nilIface]) ∧ (Lib.BuilderAt 93 5 B b (.pointer (some ⟨b, 0, none⟩)) (bs ++ Lib.strCells s) w' ∧ Below B w w' ∧ Lib.OthersKept 5 (some b) w w') := by
  obtain ⟨i0, hi, hz0, hz1, hz2⟩ := info_parts info_u8
  go_enter Tryz.func52, Tryz.ntmps52
  go_wp2_with (go_at_call 85; refine (copyCheck_c B b bs _ h).mono ?_)
  rintro e w1 ⟨rfl, h1, hb1, hk1⟩
  obtain ⟨hB, v, hbk, hown, hne⟩ := h1
  have c0 : w1.cell? ⟨b, 0, none⟩ = some (.pointer (some ⟨b, 0, none⟩)) := by rw [Lib.cell_of_heap hbk]; rfl
  have c1 : w1.cell? ⟨b, 1, none⟩ = some v := by rw [Lib.cell_of_heap hbk]; rfl
  go_wp2_with (at_builtin; refine Lib.wpList_append_own_string _ rfl _ _ 22 9 rfl B 5 i0 Tryz.underlying22 Tryz.underlying9 hi hz0 hz1 hz2 _ _ _ rfl hown s rfl ?c3 ?c4 ?c5 ?_)
  case c3 => unfold maxLen; omega
  case c4 => omega
  case c5 => have := hb1.size; omega
  intro v' w2 hown' hgrow _
  have hlt : b < w1.heap.size := by
    rcases Nat.lt_or_ge b w1.heap.size with h' | h'
    · exact h'
    · simp [Array.getElem?_eq_none h'] at hbk
  have hb2 : w2.heap[b]? = some (.cells #[.pointer (some ⟨b, 0, none⟩), v] 93 (0, 0)) := by
    rw [hgrow.block b hlt (fun e => hne e.symm)]
    exact hbk
  have d0 : w2.cell? ⟨b, 0, none⟩ = some (.pointer (some ⟨b, 0, none⟩)) := by rw [Lib.cell_of_heap hb2]; rfl
  have d1 : w2.cell? ⟨b, 1, none⟩ = some v := by rw [Lib.cell_of_heap hb2]; rfl
  have f1 : w2.frozen? ⟨b, 1, none⟩ = false := Lib.frozen_of_heap hb2 1
  obtain ⟨ao, n', cap, rfl⟩ : ∃ ao n' cap, v' = .slice ao n' cap := by
    rcases hown'.2 with ⟨hv, _⟩ | ⟨g, cap, cur, hv, _⟩
    · exact ⟨_, _, _, hv⟩
    · exact ⟨_, _, _, hv⟩
  go_wp2
  go_ret2
  refine ⟨rfl, ?_, ?_, (hk1.grown hgrow (ownsRow_kind hown)).setCell ⟨b, 1, none⟩ rfl _⟩
  · exact Lib.BuilderAt.put (T := 93) (e := 5) hB hb2 (bs' := bs ++ Lib.strCells s) (by simpa [Lib.strCells_length] using hown') (by decide)
  · exact (hb1.grown hgrow (by have := hb1.size; omega) (fun k hk => (hown.lt k hk).1)).setCell (p := ⟨b, 1, none⟩) hB _
end Go.Proofs.YtpohhnihgegmfaaGreatDoor
