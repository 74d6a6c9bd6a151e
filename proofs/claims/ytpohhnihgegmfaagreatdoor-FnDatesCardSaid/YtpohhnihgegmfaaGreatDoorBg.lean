/- Texts parted: the program's way and the reference's. Dates read from texts. No program in sight. Dates read from texts: the reference's. Days and the days behind them. No walk. Dates read from texts: the program's. The law on days: its walk. What an argument of bytes holds. What the cards' listed variables give the walks that read. -/
import Derived.Test.YtpohhnihgegmfaaGreatDoorBf
import Derived.Test.YtpohhnihgegmfaaGreatDoorBa
import Derived.Test.YtpohhnihgegmfaaGreatDoorBe
import Derived.Test.YtpohhnihgegmfaaGreatDoorRows
import Derived.ProofKit
import Derived.LaidMore
import Derived.OpenShut
import Derived.Stop.Joined
import Derived.Lib.LaidTab
import Derived.Lay
import Derived.HandedShaped
import Derived.Shelf.Vars

namespace Go.Proofs.YtpohhnihgegmfaaGreatDoor
open Go.RowKit
set_option linter.unusedVariables false
set_option linter.unusedSimpArgs false

theorem extr (s : ByteArray) (a b : Nat) : (s.extract a b).data.toList = (s.data.toList.drop a).take (b - a) := by
  obtain ⟨⟨l⟩⟩ := s
  rw [ByteArray.extract_mk]; first | simp | skip
/-- parts of a text -/
def Parts (c : UInt8) (s : ByteArray) (Ps : List ByteArray) : Prop := Ps.map (·.data.toList) = splitL c s.data.toList
theorem Parts.sz {c : UInt8} {s : ByteArray} {Ps : List ByteArray} (h : Parts c s Ps) : 1 ≤ Ps.length := by
  have h1 := congrArg List.length h
  rw [List.length_map] at h1
  have h2 := List.length_pos_iff.2 (splitL_ne c s.data.toList)
  omega
theorem Parts.len {c : UInt8} {s : ByteArray} {Ps Qs : List ByteArray} (h : Parts c s Ps) (k : Parts c s Qs) : Ps = Qs := by
  have e : Ps.map (·.data.toList) = Qs.map (·.data.toList) := h.trans k.symm
  have hi : ∀ (a b : ByteArray), a.data.toList = b.data.toList → a = b := fun a b e => by apply ByteArray.ext; exact Array.toList_inj.1 e
  clear h k
  induction Ps generalizing Qs with
  | nil => cases Qs with
    | nil => rfl
    | cons q qs => cases e
  | cons p ps ih => cases Qs with
    | nil => cases e
    | cons q qs =>
      rw [List.map_cons, List.map_cons] at e
      injection e with e1 e2
      rw [hi _ _ e1, ih e2]
theorem splitI_c (s : ByteArray) (c : UInt8) (w : World) (hs : s.size ≤ 1048576) (hg : Gl w) :
    Calls Tryz.prog 37 #[.string s, .string ⟨#[c]⟩] w fun e w' => ∃ (Ps : List ByteArray) (g : Nat), e = .returned (.slice (some ⟨g, 0, none⟩) Ps.length Ps.length) ∧ Ext w w' ∧ Blk w' g 9 (Ps.map Value.string).toArray ∧ Parts c s Ps := by
  obtain ⟨m, hm⟩ := hg.ml
  refine (Tryz.strings_Split s ⟨#[c]⟩ m w (by omega) (hm w (Ext.refl _)) (Nat.le_refl 1)).mono ?_
  rintro e w' ⟨rfl, rfl⟩
  have hlen := Lib.splitB_all ⟨#[c]⟩ (Nat.le_refl 1) 0 _ s rfl
  refine ⟨Lib.splitB ⟨#[c]⟩ 0 (Lib.countB s ⟨#[c]⟩) s, w.heap.size, by rw [hlen], (Ext.refl w).alloc _, Blk.new _ _ _, splitB_eq c s⟩
theorem drop_hit {l : List UInt8} {fr i : Nat} {c : UInt8} (h : l[i]? = some c) (hf : fr ≤ i) : l.drop fr = (l.drop fr).take (i - fr) ++ c :: l.drop (i + 1) := by
  have h1 : i < l.length := (List.getElem?_eq_some_iff.1 h).1
  have h2 : (l.drop fr).drop (i - fr) = c :: l.drop (i + 1) := by
    rw [List.drop_drop, show fr + (i - fr) = i by omega, List.drop_eq_getElem_cons h1]
    rw [(List.getElem?_eq_some_iff.1 h).2]
  rw [← h2, List.take_append_drop]
end Go.Proofs.YtpohhnihgegmfaaGreatDoor

namespace Go.Proofs.YtpohhnihgegmfaaGreatDoor
set_option linter.unusedVariables false
open Lib
theorem splitL_len (c : UInt8) : ∀ (l p : List UInt8), p ∈ splitL c l → p.length ≤ l.length
  | [], p, h => by simp [splitL] at h; subst h; simp
  | b :: r, p, h => by
    by_cases hb : b = c
    · subst hb
      rw [splitL_hit] at h
      rcases List.mem_cons.1 h with rfl | h
      · simp
      · have := splitL_len _ r p h; simp; omega
    · obtain ⟨x, xs, h1, h2⟩ := splitL_cons c b r hb
      rw [h2] at h
      rcases List.mem_cons.1 h with rfl | h
      · have := splitL_len c r x (by rw [h1]; simp); simp; omega
      · have := splitL_len c r p (by rw [h1]; simp [h]); simp; omega
theorem dec_no (c : UInt8) (hc : ¬ (48 ≤ c.toNat ∧ c.toNat ≤ 57)) (u : Nat) : c ∉ decDigits u := fun h => by
  obtain ⟨k, hk, e⟩ := List.getElem_of_mem h
  obtain ⟨d, hd⟩ := digit_of_decFrom _ 0 u (decFrom_digits u) k c (by rw [List.getElem?_eq_getElem hk, e])
  exact hc (digitVal_some hd).1
theorem itoa_no {c : UInt8} (hc : ¬ (48 ≤ c.toNat ∧ c.toNat ≤ 57)) {n : Int} (h : 0 ≤ n) : c ∉ itoa n := by
  rcases itoa_cases n with ⟨a, _⟩ | ⟨_, e⟩
  · omega
  · rw [e]; exact dec_no c hc _
/-- three numbers that a date's text can hold -/
def plD (y m d : Int) : Bool := inB y 0 9999 && (inB m 0 9999 && inB d 0 9999)
theorem plD_t {y m d : Int} : plD y m d = true ↔ (0 ≤ y ∧ y ≤ 9999) ∧ (0 ≤ m ∧ m ≤ 9999) ∧ (0 ≤ d ∧ d ≤ 9999) := by
  simp only [plD, Bool.and_eq_true, inB_t]
def dtP (y m d : Int) : List UInt8 := itoa y ++ 45 :: (itoa m ++ 45 :: itoa d)
theorem split_dt {y m d : Int} (h : plD y m d = true) : splitL 45 (dtP y m d) = [itoa y, itoa m, itoa d] := by
  obtain ⟨⟨a, _⟩, ⟨b, _⟩, ⟨c, _⟩⟩ := plD_t.1 h
  have hc : ¬ (48 ≤ (45 : UInt8).toNat ∧ (45 : UInt8).toNat ≤ 57) := by decide
  rw [dtP, splitL_app _ _ _ (itoa_no hc a), splitL_app _ _ _ (itoa_no hc b), splitL_one _ _ (itoa_no hc c)]
/-- what reading a date's text returns -/
structure DR (l : List UInt8) (y m d : Int) (b : Bool) : Prop where
  yes : b = true → plD y m d = true ∧ l = dtP y m d
  no : b = false → (y = 0 ∧ m = 0 ∧ d = 0) ∧ ∀ y' m' d', plD y' m' d' = true → l ≠ dtP y' m' d'
theorem DR.ex (l : List UInt8) : ∃ y m d b, DR l y m d b := by
  by_cases h : ∃ y m d, plD y m d = true ∧ l = dtP y m d
  · obtain ⟨y, m, d, h⟩ := h
    exact ⟨y, m, d, true, fun _ => h, fun e => by cases e⟩
  · exact ⟨0, 0, 0, false, (fun e => by cases e), fun _ => ⟨⟨rfl, rfl, rfl⟩, fun y m d h1 h2 => h ⟨y, m, d, h1, h2⟩⟩⟩
/-- not three parts -/
theorem DR.few {l : List UInt8} {y m d : Int} {b : Bool} (h : DR l y m d b) (hl : (splitL 45 l).length ≠ 3) : b = false := by
  cases b
  · rfl
  · obtain ⟨h1, rfl⟩ := h.yes rfl
    rw [split_dt h1] at hl; exact absurd rfl hl
theorem plD_sm {y m d : Int} (h : plD y m d = true) : Sm y ∧ Sm m ∧ Sm d := by
  have := plD_t.1 h
  exact ⟨⟨by omega, by omega⟩, ⟨by omega, by omega⟩, ⟨by omega, by omega⟩⟩
/-- three parts, each read -/
theorem DR.three {l p0 p1 p2 : List UInt8} {y m d x0 x1 x2 : Int} {b b0 b1 b2 : Bool} (h : DR l y m d b) (hl : splitL 45 l = [p0, p1, p2]) (r0 : RdR p0 x0 b0) (r1 : RdR p1 x1 b1) (r2 : RdR p2 x2 b2) :
    b = (b0 && (b1 && (b2 && plD x0 x1 x2))) ∧ (b = true → y = x0 ∧ m = x1 ∧ d = x2) := by
  have hj : l = p0 ++ 45 :: (p1 ++ 45 :: p2) := by rw [← join_split 45 l, hl]; rfl
  cases b
  · refine ⟨?_, fun e => by cases e⟩
    cases b0
    · rfl
    · cases b1
      · rfl
      · cases b2
        · rfl
        · cases hp : plD x0 x1 x2
          · rfl
          · exact absurd (by rw [hj, ← (r0.yes rfl).1, ← (r1.yes rfl).1, ← (r2.yes rfl).1]; rfl) ((h.no rfl).2 x0 x1 x2 hp)
  · obtain ⟨h1, h2⟩ := h.yes rfl
    have h3 := split_dt h1
    rw [← h2, hl] at h3
    injection h3 with e0 h3; injection h3 with e1 h3; injection h3 with e2 _
    obtain ⟨s0, s1, s2⟩ := plD_sm h1
    have k0 : b0 = true := by
      cases b0
      · exact absurd e0.symm ((r0.no rfl).2 y s0)
      · rfl
    have k1 : b1 = true := by
      cases b1
      · exact absurd e1.symm ((r1.no rfl).2 m s1)
      · rfl
    have k2 : b2 = true := by
      cases b2
      · exact absurd e2.symm ((r2.no rfl).2 d s2)
      · rfl
    have q0 : y = x0 := itoa_inj (e0.symm.trans (r0.yes k0).1.symm)
    have q1 : m = x1 := itoa_inj (e1.symm.trans (r1.yes k1).1.symm)
    have q2 : d = x2 := itoa_inj (e2.symm.trans (r2.yes k2).1.symm)
    refine ⟨?_, fun _ => ⟨q0, q1, q2⟩⟩
    rw [k0, k1, k2, ← q0, ← q1, ← q2, h1]; rfl
end Go.Proofs.YtpohhnihgegmfaaGreatDoor

namespace Go.Proofs.YtpohhnihgegmfaaGreatDoor
open Go.RowKit
set_option linter.unusedVariables false
set_option linter.unusedSimpArgs false

theorem three_of {Ps : List ByteArray} (h : Ps.length = 3) : ∃ p0 p1 p2, Ps = [p0, p1, p2] := by
  match Ps, h with
  | [a, b, c], _ => exact ⟨a, b, c, rfl⟩
theorem Parts.le {c : UInt8} {s : ByteArray} {Ps : List ByteArray} (h : Parts c s Ps) : ∀ p, p ∈ Ps → p.size ≤ s.size := fun p hp => by
  have h1 : p.data.toList ∈ splitL c s.data.toList := by rw [← h]; exact List.mem_map.2 ⟨p, hp, rfl⟩
  have := splitL_len c _ _ h1
  rwa [ba_len', ba_len'] at this
theorem dtx_eq (y m d : Int) : dtx y m d = if plD y m d then dtP y m d else [] := by
  rw [dtx]
  cases h : (inB y 0 9999 && (inB m 0 9999 && inB d 0 9999))
  · rw [show plD y m d = false from h]; rfl
  · rw [show plD y m d = true from h]; simp [dtP]
end Go.Proofs.YtpohhnihgegmfaaGreatDoor

namespace Go.Proofs.YtpohhnihgegmfaaGreatDoor
open Go.RowKit
set_option linter.unusedVariables false
set_option linter.unusedSimpArgs false

theorem cmp_next {c : CalN} (b : CalB c) {x x' : Int} {Y M Y' M' : Nat} {d d' : Int} (h : Loc c x Y M d) (h' : Loc c x' Y' M' d') (hx : x < x') : cmpD (Y : Int) ((M : Int) + 1) d (Y' : Int) ((M' : Int) + 1) d' = -1 := by
  have hY : Y ≤ Y' := by
    rcases Nat.lt_or_ge Y' Y with a | a
    · have := b.bef_le (show Y' + 1 ≤ Y by omega); have := h'.y1; have := h.y0; omega
    · exact a
  unfold cmpD
  by_cases e : Y = Y'
  · subst e
    have hM : M ≤ M' := by
      rcases Nat.lt_or_ge M' M with a | a
      · have := b.sm_le (Y : Int) (i := M' + 1) (k := M) (by omega) (by have := h.mn; omega); have := h'.m1; have := h.m0; omega
      · exact a
    rw [if_neg (by simp)]
    by_cases e2 : M = M'
    · subst e2
      have h1 := h.dd
      have h2 := h'.dd
      rw [if_neg (by simp), sgn, if_pos (by omega)]
    · rw [if_pos (by omega), sgn, if_pos (by omega)]
  · rw [if_pos (by omega), sgn, if_pos (by omega)]
section
variable {s : ByteArray} {nm : Nat → ByteArray} {c : CalN} {wk : Int}
theorem next_day (b : CalB c) (hok : calB s nm c wk = true) {y m d : Int} (hdt : dtB c y m d = true) {Y M D : Int} (r : DtR c (calB s nm c wk && adB c y m d 1) (dnum c y m d + 1) Y M D) :
    (dnum c y m d = c.bef 10000 - 1 ∧ adC s nm c wk y m d 1 = 2) ∨ (dnum c y m d ≠ c.bef 10000 - 1 ∧ adC s nm c wk y m d 1 = 0 ∧ dtB c Y M D = true ∧ dnum c Y M D = dnum c y m d + 1 ∧ cmpD y m d Y M D = -1) := by
  have bd := dnum_bd b hdt
  by_cases e : dnum c y m d = c.bef 10000 - 1
  · refine .inl ⟨e, ?_⟩
    have h1 : adB c y m d 1 = false := by rw [adB, inB_f.2 (by omega), Bool.and_false]
    rw [adC, hok, h1]; rfl
  · refine .inr ⟨e, ?_⟩
    have h1 : adB c y m d 1 = true := by rw [adB, hdt, inB_t.2 (by omega)]; rfl
    rw [hok, h1] at r
    obtain ⟨Y', M', rfl, rfl, hl, h9⟩ := r.yes rfl
    obtain ⟨Y0, M0, e1, e2, h3, h4⟩ := loc_of b hdt
    refine ⟨by rw [adC, hok, h1]; rfl, dtB_mk b hl h9, by rw [dnum_nat]; exact hl.eq.symm, ?_⟩
    rw [e1, e2]
    rw [e1, e2] at h3 hl
    exact cmp_next b h3 hl (by omega)
theorem back_day (b : CalB c) (hok : calB s nm c wk = true) {y m d : Int} (hdt : dtB c y m d = true) : DtR c (calB s nm c wk && inB (dnum c y m d) 0 (c.bef 10000 - 1)) (dnum c y m d) y m d ∧ dcC s nm c wk (dnum c y m d) = 0 := by
  have bd := dnum_bd b hdt
  have h1 : inB (dnum c y m d) 0 (c.bef 10000 - 1) = true := inB_t.2 (by omega)
  rw [dcC, hok, h1]
  obtain ⟨Y0, M0, e1, e2, h3, h4⟩ := loc_of b hdt
  exact ⟨⟨fun _ => ⟨Y0, M0, e1, e2, h3, h4⟩, fun e => by cases e⟩, rfl⟩
theorem day_plain (b : CalB c) {y m d : Int} (hdt : dtB c y m d = true) : plD y m d = true := by
  obtain ⟨Y, M, rfl, rfl, h1, h2, h3, h4⟩ := dtB_nat hdt
  have n20 := b.n20
  have := b.mo (Y : Int) h2
  exact plD_t.2 ⟨⟨by omega, by omega⟩, ⟨by omega, by omega⟩, ⟨by omega, by omega⟩⟩
theorem day_text (b : CalB c) {y m d : Int} (hdt : dtB c y m d = true) : DR (dtx y m d) y m d true ∧ (dtx y m d).length ≤ 100 := by
  have h := day_plain b hdt
  rw [dtx_eq, if_pos h]
  refine ⟨⟨fun _ => ⟨h, rfl⟩, fun e => by cases e⟩, ?_⟩
  obtain ⟨⟨a1, a2⟩, ⟨b1, b2⟩, ⟨c1, c2⟩⟩ := plD_t.1 h
  have l1 := itoa_len y (by omega) (by omega)
  have l2 := itoa_len m (by omega) (by omega)
  have l3 := itoa_len d (by omega) (by omega)
  simp only [dtP, List.length_append, List.length_cons]
  omega
theorem week_day (hok : calB s nm c wk = true) {y m d : Int} (hdt : dtB c y m d = true) : wdC s nm c wk y m d 1 = 0 ∧ wdV s nm c wk y m d 1 = dnum c y m d % wk + 1 := by
  have hw := calB_w hok
  have h1 : wdC s nm c wk y m d 1 = 0 := by rw [wdC, hok, hdt, inB_t.2 (by omega)]; rfl
  refine ⟨h1, ?_⟩
  rw [wdV, if_pos h1, show dnum c y m d + 1 - 1 = dnum c y m d by omega]
theorem between_day (hok : calB s nm c wk = true) {y m d Y M D : Int} (hdt : dtB c y m d = true) (h2 : dtB c Y M D = true) : btC s nm c wk y m d Y M D = 0 ∧ btV s nm c wk y m d Y M D = dnum c Y M D - dnum c y m d := by
  have h1 : btC s nm c wk y m d Y M D = 0 := by rw [btC, hok, hdt, h2]; rfl
  exact ⟨h1, by rw [btV, if_pos h1]⟩
end
theorem week_next {x wk : Int} (h0 : 0 ≤ x) (h1 : 1 ≤ wk) : 1 ≤ x % wk + 1 ∧ x % wk + 1 ≤ wk ∧ (x + 1) % wk + 1 = (x % wk + 1) % wk + 1 := by
  have e0 := Int.emod_nonneg x (show wk ≠ 0 by omega)
  have e1 := Int.emod_lt_of_pos x (show 0 < wk by omega)
  refine ⟨by omega, by omega, ?_⟩
  rw [Int.add_emod x 1 wk, Int.add_emod (x % wk) 1 wk, Int.emod_emod]
end Go.Proofs.YtpohhnihgegmfaaGreatDoor

namespace Go.Proofs.YtpohhnihgegmfaaGreatDoor
open Go.RowKit
set_option linter.unusedVariables false
set_option linter.unusedSimpArgs false

theorem DR.text {l p0 p1 p2 : List UInt8} {y m d x0 x1 x2 : Int} {b b0 b1 b2 : Bool} (h : DR l y m d b) (hl : splitL 45 l = [p0, p1, p2]) (r0 : RdR p0 x0 b0) (r1 : RdR p1 x1 b1) (r2 : RdR p2 x2 b2) :
    (dtx x0 x1 x2 = l ↔ b = true) ∧ (b = true → y = x0 ∧ m = x1 ∧ d = x2) := by
  obtain ⟨hb, hv⟩ := h.three hl r0 r1 r2
  refine ⟨⟨fun e => ?_, fun e => ?_⟩, hv⟩
  · rw [dtx_eq] at e
    cases hp : plD x0 x1 x2
    · rw [hp] at e
      subst e
      simp [splitL] at hl
    · rw [hp] at e
      cases b
      · exact absurd e.symm ((h.no rfl).2 x0 x1 x2 hp)
      · rfl
  · obtain ⟨rfl, rfl, rfl⟩ := hv e
    obtain ⟨h1, h2⟩ := h.yes e
    rw [dtx_eq, h1, h2]; rfl
/-- three numbers, as many read as the round says -/
def A3 (x0 x1 x2 : Int) (j : Nat) : Array Value := #[.int .i64 (if 0 < j then x0 else 0), .int .i64 (if 1 < j then x1 else 0), .int .i64 (if 2 < j then x2 else 0)]
theorem A3_0 (x0 x1 x2 : Int) : A3 x0 x1 x2 0 = #[.int .i64 0, .int .i64 0, .int .i64 0] := rfl
theorem A3_1 (x0 x1 x2 : Int) : A3 x0 x1 x2 1 = #[.int .i64 x0, .int .i64 0, .int .i64 0] := rfl
theorem A3_2 (x0 x1 x2 : Int) : A3 x0 x1 x2 2 = #[.int .i64 x0, .int .i64 x1, .int .i64 0] := rfl
theorem A3_3 (x0 x1 x2 : Int) : A3 x0 x1 x2 3 = #[.int .i64 x0, .int .i64 x1, .int .i64 x2] := rfl
set_option maxRecDepth 100000 in
set_option maxHeartbeats 4000000 in
theorem implReadDate_c (s : ByteArray) (w : World) (hs : s.size ≤ 1048576) (hg : Gl w) {y m d : Int} {b : Bool} (r : DR s.data.toList y m d b) :
    Calls Tryz.prog 9 #[.string s] w fun e w' => e = .returned (.tuple #[.agg #[.int .i64 y, .int .i64 m, .int .i64 d], .bool b]) ∧ Ext w w' := by
  have HR := Lib.hid r
  have HG := Lib.hid hg
  clear r hg
  have KD := Blk.new w #[.int .i64 0, .int .i64 0, .int .i64 0] 29
  go_enter Tryz.func9, Tryz.ntmps9
  go_wp2_with fail
  refine (splitI_c s 45 _ hs (HG.out.ext (by repeat (first | with_reducible exact Ext.refl _ | with_reducible assumption | with_reducible refine Ext.alloc ?_ _ | with_reducible refine Ext.drew ?_ | (with_reducible refine Ext.setAt ?_ _ _ _ ?_; rotate_left; omega) | with_reducible refine Ext.trans ?_ (by assumption) | with_reducible exact Past.bel _ | with_reducible refine Ext.trans ?_ (Past.bel _))))).mono ?_
  rintro e w1 ⟨Ps, g, rfl, hx1, kb, hp⟩
  have KD1 := KD.ext hx1
  have e1 : Ext w w1 := Ext.trans (by repeat (first | with_reducible exact Ext.refl _ | with_reducible assumption | with_reducible refine Ext.alloc ?_ _ | with_reducible refine Ext.drew ?_ | (with_reducible refine Ext.setAt ?_ _ _ _ ?_; rotate_left; omega) | with_reducible refine Ext.trans ?_ (by assumption) | with_reducible exact Past.bel _ | with_reducible refine Ext.trans ?_ (Past.bel _))) hx1
  have l1 := KD1.lt
  have HKD := Lib.hid KD1
  by_cases h3 : Ps.length = 3
  · obtain ⟨p0, p1, p2, rfl⟩ := three_of h3
    have hl : splitL 45 s.data.toList = [p0.data.toList, p1.data.toList, p2.data.toList] := hp.symm
    obtain ⟨x0, b0, r0⟩ := RdR.ex p0.data.toList
    obtain ⟨x1, b1, r1⟩ := RdR.ex p1.data.toList
    obtain ⟨x2, b2, r2⟩ := RdR.ex p2.data.toList
    obtain ⟨hb, hv⟩ := HR.out.text hl r0 r1 r2
    have N0 := Lib.hid (fun W hW => implReadDecimal_c p0 W (Nat.le_trans (hp.le p0 (by simp)) hs) hW r0)
    have N1 := Lib.hid (fun W hW => implReadDecimal_c p1 W (Nat.le_trans (hp.le p1 (by simp)) hs) hW r1)
    have N2 := Lib.hid (fun W hW => implReadDecimal_c p2 W (Nat.le_trans (hp.le p2 (by simp)) hs) hW r2)
    have HB := Lib.hid hb
    have HV := Lib.hid hv
    have KB := Lib.hid kb
    have hgl := kb.lt
    clear hb hv hp h3 r0 r1 r2 hl kb KD KD1 hx1
    go_wp2_with fail
    go_loopw [17] (fun i wr => ∃ j : Nat, j ≤ 3 ∧ i = .int .i64 (j : Int) ∧ Blk wr w1.heap.size 74 (A3 x0 x1 x2 j) ∧ Ext w1 wr) (fun i _ => 3 - (intOf i).toNat)
    case atStart => exact ⟨0, by omega, rfl, Blk.new _ _ _, (Ext.refl w1).alloc _⟩
    case round =>
      obtain ⟨j, hj, rfl, ha, hx⟩ := hrel
      have la := ha.lt
      obtain rfl | rfl | rfl | rfl : j = 0 ∨ j = 1 ∨ j = 2 ∨ j = 3 := by omega
      case inl =>
        have q0 := (KB.out.ext hx).cell 0
        rw [show ([p0, p1, p2].map Value.string).toArray[0]? = some (.string p0) from rfl] at q0
        have HA := Lib.hid ha
        clear ha
        go_wp2_with fail
        refine (N0.out _ (HG.out.ext (Ext.trans e1 hx))).mono ?_
        rintro e w2 ⟨rfl, hx2⟩
        have K2 := HA.out.ext hx2
        have l2 := K2.lt
        have c0 := K2.cell 0
        have f0 := K2.frozen 0
        rw [A3_0] at c0
        have HK2 := Lib.hid K2
        clear K2 HA q0 la
        go_wp2_with fail
        exact ⟨⟨1, by omega, by go_num, HK2.out.set 0 _, Ext.setAt (Ext.trans hx hx2) _ _ _ (Nat.le_refl _)⟩, by simp [intOf]⟩
      case inr.inl =>
        have q0 := (KB.out.ext hx).cell 1
        rw [show ([p0, p1, p2].map Value.string).toArray[1]? = some (.string p1) from rfl] at q0
        have HA := Lib.hid ha
        clear ha
        go_wp2_with fail
        refine (N1.out _ (HG.out.ext (Ext.trans e1 hx))).mono ?_
        rintro e w2 ⟨rfl, hx2⟩
        have K2 := HA.out.ext hx2
        have l2 := K2.lt
        have c0 := K2.cell 1
        have f0 := K2.frozen 1
        rw [A3_1] at c0
        have HK2 := Lib.hid K2
        clear K2 HA q0 la
        go_wp2_with fail
        exact ⟨⟨2, by omega, by go_num, HK2.out.set 1 _, Ext.setAt (Ext.trans hx hx2) _ _ _ (Nat.le_refl _)⟩, by simp [intOf]⟩
      case inr.inr.inl =>
        have q0 := (KB.out.ext hx).cell 2
        rw [show ([p0, p1, p2].map Value.string).toArray[2]? = some (.string p2) from rfl] at q0
        have HA := Lib.hid ha
        clear ha
        go_wp2_with fail
        refine (N2.out _ (HG.out.ext (Ext.trans e1 hx))).mono ?_
        rintro e w2 ⟨rfl, hx2⟩
        have K2 := HA.out.ext hx2
        have l2 := K2.lt
        have c0 := K2.cell 2
        have f0 := K2.frozen 2
        rw [A3_2] at c0
        have HK2 := Lib.hid K2
        clear K2 HA q0 la
        go_wp2_with fail
        exact ⟨⟨3, by omega, by go_num, HK2.out.set 2 _, Ext.setAt (Ext.trans hx hx2) _ _ _ (Nat.le_refl _)⟩, by simp [intOf]⟩
      case inr.inr.inr =>
        rw [A3_3] at ha
        have a0 := ha.cell 0
        have a1 := ha.cell 1
        have a2 := ha.cell 2
        have HT := Lib.hid (fun W hW => implDateText_c x0 x1 x2 W hW)
        clear ha
        obtain ⟨T, hT⟩ : ∃ T, T = dtx x0 x1 x2 := ⟨_, rfl⟩
        rw [← hT] at HT HB
        clear hT
        go_wp2_with fail
        refine (HT.out _ (HG.out.tab.ext (Ext.trans e1 (Ext.alloc hx _)))).mono ?_
        rintro e w3 ⟨rfl, hx3⟩
        have Q3 := (Blk.new _ #[.int .i64 x0, .int .i64 x1, .int .i64 x2] 29).ext hx3
        have e3 : Ext w1 w3 := Ext.trans (Ext.alloc hx _) hx3
        have K3 := HKD.out.ext e3
        have l3 := K3.lt
        have d0 := K3.cell 0
        have d1 := K3.cell 1
        have d2 := K3.cell 2
        have f0 := K3.frozen 0
        have f1 := K3.frozen 1
        have f2 := K3.frozen 2
        have q0 := Q3.cell 0
        have q1 := Q3.cell 1
        have q2 := Q3.cell 2
        have HK3 := Lib.hid K3
        clear K3 Q3 hx3 a0 a1 a2 hx HKD KB N0 N1 N2 HT
        cases b
        · obtain ⟨⟨rfl, rfl, rfl⟩, -⟩ := HR.out.no rfl
          have z1 : (T == s.toList) = false := by
            rw [beq_eq_false_iff_ne]
            exact fun e => by cases HB.out.1 (e.trans (ByteArray.toList_eq s))
          clear HR HV HB
          go_wp2_with fail
          refine bodyPost_ret (v := .tuple #[.agg #[.int .i64 0, .int .i64 0, .int .i64 0], .bool false]) (by simp [results, Tryz.results9, go_sem, d0, d1, d2]) rfl ⟨rfl, ?_⟩
          exact Ext.setAt (Ext.setAt (Ext.setAt (Ext.trans e1 e3) _ _ _ (Nat.le_refl _)) _ _ _ (Nat.le_refl _)) _ _ _ (Nat.le_refl _)
        · obtain ⟨rfl, rfl, rfl⟩ := HV.out rfl
          obtain rfl : s = ⟨T.toArray⟩ := by rw [HB.out.2 rfl]
          clear HR HV HB
          go_wp2_with fail
          refine bodyPost_ret (v := .tuple #[.agg #[.int .i64 y, .int .i64 m, .int .i64 d], .bool true]) (by simp [results, Tryz.results9, go_sem, d0, d1, d2]) rfl ⟨rfl, ?_⟩
          exact Ext.setAt (Ext.setAt (Ext.setAt (Ext.trans e1 e3) _ _ _ (Nat.le_refl _)) _ _ _ (Nat.le_refl _)) _ _ _ (Nat.le_refl _)
  · have hb := HR.out.few (by rw [← hp, List.length_map]; exact h3)
    subst hb
    obtain ⟨⟨rfl, rfl, rfl⟩, -⟩ := HR.out.no rfl
    have z1 : ((Ps.length : Int) != 3) = true := by simp; omega
    have d0 : w1.cell? ⟨w.heap.size, 0, none⟩ = some (.int .i64 0) := KD1.cell 0
    have d1 : w1.cell? ⟨w.heap.size, 1, none⟩ = some (.int .i64 0) := KD1.cell 1
    have d2 : w1.cell? ⟨w.heap.size, 2, none⟩ = some (.int .i64 0) := KD1.cell 2
    have f0 := KD1.frozen 0
    have f1 := KD1.frozen 1
    have f2 := KD1.frozen 2
    clear hp kb KD KD1 hx1 HKD
    go_wp2_with fail
    refine bodyPost_ret (v := .tuple #[.agg #[.int .i64 0, .int .i64 0, .int .i64 0], .bool false]) (by simp [results, Tryz.results9, go_sem, d0, d1, d2]) rfl ⟨rfl, ?_⟩
    exact Ext.setAt (Ext.setAt (Ext.setAt e1 _ _ _ (Nat.le_refl _)) _ _ _ (Nat.le_refl _)) _ _ _ (Nat.le_refl _)
end Go.Proofs.YtpohhnihgegmfaaGreatDoor

namespace Go.Proofs.YtpohhnihgegmfaaGreatDoor
open Go.RowKit
set_option linter.unusedVariables false
set_option linter.unusedSimpArgs false

/-- a drawn calendar and a day of it, as the law holds them -/
structure DS (w W : World) (gc gd : Nat) (nm : ByteArray) (wk : Int) (M : List Mo) (R : List Ru) (m1 : Option Addr) (mc : Nat) (r1 : Option Addr) (rc : Nat) (y m d : Int) : Prop where
  e : Ext w W
  ka : Blk W gc 27 #[.string nm, .slice m1 M.length mc, .slice r1 R.length rc, .int .i64 wk]
  kd : Blk W gd 29 #[.int .i64 y, .int .i64 m, .int .i64 d]
  v : CalV W nm m1 r1 mc rc (nmOf M) (calOf M R)
/-- the cells of a date -/
structure Dc3 (W : World) (g : Nat) (a b c : Value) : Prop where
  lt : g < W.heap.size
  c0 : W.cell? ⟨g, 0, none⟩ = some a
  c1 : W.cell? ⟨g, 1, none⟩ = some b
  c2 : W.cell? ⟨g, 2, none⟩ = some c
theorem Blk.c3 {W : World} {g : Nat} {T : TypeId} {a b c : Value} (h : Blk W g T #[a, b, c]) : Dc3 W g a b c := ⟨h.lt, h.cell 0, h.cell 1, h.cell 2⟩
section
variable {w W W' : World} {gc gd : Nat} {nm : ByteArray} {wk : Int} {M : List Mo} {R : List Ru} {m1 : Option Addr} {mc : Nat} {r1 : Option Addr} {rc : Nat} {y m d : Int}
theorem DS.ext (h : DS w W gc gd nm wk M R m1 mc r1 rc y m d) (x : Ext W W') : DS w W' gc gd nm wk M R m1 mc r1 rc y m d := ⟨Ext.trans h.e x, h.ka.ext x, h.kd.ext x, h.v.ext x⟩
end
set_option maxRecDepth 100000 in
set_option maxHeartbeats 8000000 in
theorem walkDates (a1 : Option Addr) (n1 c1 : Nat) (f1 : Nat → Nat) (hm1 : n1 ≤ maxLen) (w : World) (hs1 : U8 w a1 n1 f1) (hl1 : ∀ j, j < n1 → f1 j ≤ 255) (hg : Gl w) :
    Calls Tryz.prog 3 #[.slice a1 n1 c1] w fun e w' => e = .returned (.bool true) ∧ Ext w w' := by
  clear hm1
  have HG := Lib.hid hg
  clear hg
  cases hlong : (decide (3000 < n1) || decide (3000 < 0))
  · have HL := Lib.hid (fun (W : World) => (hlong ▸ a2Long_c a1 none n1 c1 0 0 W : Calls Tryz.prog 5 #[.slice a1 n1 c1, .slice none 0 0] W fun e w' => e = .returned (.bool false) ∧ W = w'))
    have hn : n1 ≤ 3000 := by simp at hlong; omega
    clear hlong
    go_enter Tryz.func3, Tryz.ntmps3
    go_wp2_with (go_at_call 5; ((with_reducible refine (HL.out _).mono ?_); rintro e w' ⟨rfl, rfl⟩))
    refine (a2Day_c a1 n1 c1 f1 _ (by omega) hs1 hl1).mono ?_
    rintro e w1 ⟨M, R, nm, wk, m1, mc, r1, rc, y, m, d, rfl, hx1, om, or, hok, hdt⟩
    have xa : Ext w1 ((w1.alloc (.cells #[.string nm, .slice m1 M.length mc, .slice r1 R.length rc, .int .i64 wk] 27)).alloc (.cells #[.int .i64 y, .int .i64 m, .int .i64 d] 29)) := (by repeat (first | with_reducible exact Ext.refl _ | with_reducible assumption | with_reducible refine Ext.alloc ?_ _ | with_reducible refine Ext.drew ?_ | (with_reducible refine Ext.setAt ?_ _ _ _ ?_; rotate_left; omega) | with_reducible refine Ext.trans ?_ (by assumption) | with_reducible exact Past.bel _ | with_reducible refine Ext.trans ?_ (Past.bel _)))
    have S1 : DS w ((w1.alloc (.cells #[.string nm, .slice m1 M.length mc, .slice r1 R.length rc, .int .i64 wk] 27)).alloc (.cells #[.int .i64 y, .int .i64 m, .int .i64 d] 29)) w1.heap.size (w1.heap.size + 1) nm wk M R m1 mc r1 rc y m d :=
      ⟨Ext.trans hx1 xa, (Blk.new w1 #[.string nm, .slice m1 M.length mc, .slice r1 R.length rc, .int .i64 wk] 27).ext (by exact (by repeat (first | with_reducible exact Ext.refl _ | with_reducible assumption | with_reducible refine Ext.alloc ?_ _ | with_reducible refine Ext.drew ?_ | (with_reducible refine Ext.setAt ?_ _ _ _ ?_; rotate_left; omega) | with_reducible refine Ext.trans ?_ (by assumption) | with_reducible exact Past.bel _ | with_reducible refine Ext.trans ?_ (Past.bel _)))), two_cells' w1 27 29 #[.string nm, .slice m1 M.length mc, .slice r1 R.length rc, .int .i64 wk] #[.int .i64 y, .int .i64 m, .int .i64 d], calV_of hok (own_ext om xa) (own_ext or xa)⟩
    have b := calB_b hok
    have hw := calB_w hok
    have bd := dnum_bd b hdt
    obtain ⟨Y, Mo, D, hr⟩ := DtR.mk' (c := calOf M R) (ok := calB nm (nmOf M) (calOf M R) wk && adB (calOf M R) y m d 1) (x := dnum (calOf M R) y m d + 1) (fun h => by
      rw [Bool.and_eq_true] at h; have h2 := h.2; rw [adB, Bool.and_eq_true] at h2; have h3 := inB_t.1 h2.2; exact ⟨b, by omega, by omega⟩)
    have hnext := next_day b hok hdt hr
    have hback := back_day b hok hdt
    have htext := day_text b hdt
    have hweek := week_day hok hdt
    have hbtw := fun h2 => between_day (wk := wk) (s := nm) (nm := nmOf M) (Y := Y) (M := Mo) (D := D) hok hdt h2
    have hweek2 := fun h2 => week_day (wk := wk) (s := nm) (nm := nmOf M) (y := Y) (m := Mo) (d := D) hok h2
    have hlast : laV nm (nmOf M) (calOf M R) wk = (calOf M R).bef 10000 - 1 ∧ caC nm (nmOf M) (calOf M R) wk = 0 := by rw [laV, caC, hok]; exact ⟨rfl, rfl⟩
    obtain ⟨x, hx⟩ : ∃ x, x = dnum (calOf M R) y m d := ⟨_, rfl⟩
    obtain ⟨La, hLa⟩ : ∃ x, x = (calOf M R).bef 10000 - 1 := ⟨_, rfl⟩
    rw [← hx] at bd hnext hback hweek hbtw
    rw [← hLa] at hnext hlast
    have bx0 : ¬ x < 0 := by omega
    have bx1 : ¬ La < x := by omega
    obtain ⟨T, hT⟩ : ∃ T, T = dtx y m d := ⟨_, rfl⟩
    rw [← hT] at htext
    have H1 := Lib.hid (fun (W : World) (S : DS w W w1.heap.size (w1.heap.size + 1) nm wk M R m1 mc r1 rc y m d) => (show Calls Tryz.prog 7 #[.agg #[.string nm, .slice m1 M.length mc, .slice r1 R.length rc, .int .i64 wk], .agg #[.int .i64 y, .int .i64 m, .int .i64 d]] W (fun e w' => e = .returned (.tuple #[.int .i64 x, .int .i64 0]) ∧ Ext W w') from by rw [hx]; exact implDayOf_yes wk hok hdt S.v))
    have H2 := Lib.hid (fun (W : World) (S : DS w W w1.heap.size (w1.heap.size + 1) nm wk M R m1 mc r1 rc y m d) => (show Calls Tryz.prog 8 #[.agg #[.string nm, .slice m1 M.length mc, .slice r1 R.length rc, .int .i64 wk], .int .i64 x] W (fun e w' => e = .returned (.tuple #[.agg #[.int .i64 y, .int .i64 m, .int .i64 d], .int .i64 0]) ∧ Ext W w') from by have h := implDateOf_c wk x S.v (by rw [hx]; rw [hx] at hback; exact hback.1); rw [hback.2] at h; exact h))
    have H3 := Lib.hid (fun (W : World) (S : DS w W w1.heap.size (w1.heap.size + 1) nm wk M R m1 mc r1 rc y m d) => (show Calls Tryz.prog 10 #[.agg #[.int .i64 y, .int .i64 m, .int .i64 d]] W (fun e w' => e = .returned (.string ⟨T.toArray⟩) ∧ Ext W w') from by rw [hT]; exact implDateText_c y m d W (HG.out.tab.ext S.e)))
    have H4 := Lib.hid (fun (W : World) (S : DS w W w1.heap.size (w1.heap.size + 1) nm wk M R m1 mc r1 rc y m d) => (show Calls Tryz.prog 9 #[.string ⟨T.toArray⟩] W (fun e w' => e = .returned (.tuple #[.agg #[.int .i64 y, .int .i64 m, .int .i64 d], .bool true]) ∧ Ext W w') from by exact implReadDate_c ⟨T.toArray⟩ W (by have := htext.2; simp only [ByteArray.size, List.size_toArray]; omega) (HG.out.ext S.e) htext.1))
    have H5 := Lib.hid (fun (W : World) (S : DS w W w1.heap.size (w1.heap.size + 1) nm wk M R m1 mc r1 rc y m d) => (show Calls Tryz.prog 11 #[.agg #[.string nm, .slice m1 M.length mc, .slice r1 R.length rc, .int .i64 wk]] W (fun e w' => e = .returned (.tuple #[.int .i64 La, .int .i64 0]) ∧ Ext W w') from by have h := implLastDay_c wk S.v; rw [hlast.1, hlast.2] at h; exact h))
    rcases hnext with ⟨hxl, hcode⟩ | ⟨hxl, hcode, hdt2, hnum, hcmp⟩
    · have S1h := Lib.hid S1
      have H6 := Lib.hid (fun (W : World) (S : DS w W w1.heap.size (w1.heap.size + 1) nm wk M R m1 mc r1 rc y m d) => (show Calls Tryz.prog 12 #[.agg #[.string nm, .slice m1 M.length mc, .slice r1 R.length rc, .int .i64 wk], .agg #[.int .i64 y, .int .i64 m, .int .i64 d], .int .i64 1] W (fun e w' => e = .returned (.tuple #[.agg #[.int .i64 Y, .int .i64 Mo, .int .i64 D], .int .i64 2]) ∧ Ext W w') from by have h := implAddDays_c wk y m d 1 S.v hr; rw [hcode] at h; exact h))
      have xl : (x == La) = true := by rw [beq_iff_eq]; exact hxl
      clear hxl
      clear hcode hback htext hweek hbtw hweek2 hlast hr hdt hok b om or hx hLa hT bd hx1
      obtain ⟨a1', a2', a3', a4', a5', a6', a7', a8', a9'⟩ := S1h.out.ka.cel
      obtain ⟨d1', d2', d3', d4'⟩ := S1h.out.kd.c3
      go_wp2_with fail
      generalize hX : (w1.alloc (.cells #[.string nm, .slice m1 M.length mc, .slice r1 R.length rc, .int .i64 wk] 27)).alloc (.cells #[.int .i64 y, .int .i64 m, .int .i64 d] 29) = X1 at S1 S1h xa ⊢
      clear hX S1 xa a1' a2' a3' a4' a5' a6' a7' a8' a9' d1' d2' d3' d4'
      refine (H1.out _ S1h.out).mono ?_
      rintro e w2 ⟨rfl, hx2⟩
      have S2h := Lib.hid (S1h.out.ext hx2)
      obtain ⟨a1', a2', a3', a4', a5', a6', a7', a8', a9'⟩ := S2h.out.ka.cel
      obtain ⟨d1', d2', d3', d4'⟩ := S2h.out.kd.c3
      clear hx2
      go_wp2_with fail
      clear a1' a2' a3' a4' a5' a6' a7' a8' a9' d1' d2' d3' d4' S1h
      refine (H2.out _ S2h.out).mono ?_
      rintro e w3 ⟨rfl, hx3⟩
      have hy3 : Ext w2 (w3.alloc (.cells #[.int .i64 y, .int .i64 m, .int .i64 d] 29)) := hx3.alloc _
      have S3h := Lib.hid (S2h.out.ext hy3)
      have B3 := Lib.hid (Blk.new w3 #[.int .i64 y, .int .i64 m, .int .i64 d] 29)
      have zz3 := hx3.size
      obtain ⟨a1', a2', a3', a4', a5', a6', a7', a8', a9'⟩ := S3h.out.ka.cel
      obtain ⟨d1', d2', d3', d4'⟩ := S3h.out.kd.c3
      obtain ⟨u01, u02, u03, u04⟩ := B3.out.c3
      clear hx3
      go_wp2_with fail
      generalize hX : w3.alloc (.cells #[.int .i64 y, .int .i64 m, .int .i64 d] 29) = X3 at S3h B3 hy3 ⊢
      clear hX hy3 zz3 a1' a2' a3' a4' a5' a6' a7' a8' a9' d1' d2' d3' d4' u01 u02 u03 u04 S2h
      refine (H3.out _ S3h.out).mono ?_
      rintro e w4 ⟨rfl, hx4⟩
      have S4h := Lib.hid (S3h.out.ext hx4)
      have B3' := Lib.hid (B3.out.ext hx4)
      obtain ⟨a1', a2', a3', a4', a5', a6', a7', a8', a9'⟩ := S4h.out.ka.cel
      obtain ⟨d1', d2', d3', d4'⟩ := S4h.out.kd.c3
      obtain ⟨u01, u02, u03, u04⟩ := B3'.out.c3
      clear hx4
      go_wp2_with fail
      clear a1' a2' a3' a4' a5' a6' a7' a8' a9' d1' d2' d3' d4' u01 u02 u03 u04 B3 S3h
      refine (H4.out _ S4h.out).mono ?_
      rintro e w5 ⟨rfl, hx5⟩
      have hy5 : Ext w4 (w5.alloc (.cells #[.int .i64 y, .int .i64 m, .int .i64 d] 29)) := hx5.alloc _
      have S5h := Lib.hid (S4h.out.ext hy5)
      have B3'' := Lib.hid (B3'.out.ext hy5)
      have B5 := Lib.hid (Blk.new w5 #[.int .i64 y, .int .i64 m, .int .i64 d] 29)
      have zz5 := hx5.size
      obtain ⟨a1', a2', a3', a4', a5', a6', a7', a8', a9'⟩ := S5h.out.ka.cel
      obtain ⟨d1', d2', d3', d4'⟩ := S5h.out.kd.c3
      obtain ⟨u01, u02, u03, u04⟩ := B3''.out.c3
      obtain ⟨u11, u12, u13, u14⟩ := B5.out.c3
      clear hx5
      go_wp2_with fail
      generalize hX : w5.alloc (.cells #[.int .i64 y, .int .i64 m, .int .i64 d] 29) = X5 at S5h B3'' B5 hy5 ⊢
      clear hX hy5 zz5 a1' a2' a3' a4' a5' a6' a7' a8' a9' d1' d2' d3' d4' u01 u02 u03 u04 u11 u12 u13 u14 B3' S4h
      refine (H5.out _ S5h.out).mono ?_
      rintro e w6 ⟨rfl, hx6⟩
      have S6h := Lib.hid (S5h.out.ext hx6)
      have B3''' := Lib.hid (B3''.out.ext hx6)
      have B5' := Lib.hid (B5.out.ext hx6)
      obtain ⟨a1', a2', a3', a4', a5', a6', a7', a8', a9'⟩ := S6h.out.ka.cel
      obtain ⟨d1', d2', d3', d4'⟩ := S6h.out.kd.c3
      obtain ⟨u01, u02, u03, u04⟩ := B3'''.out.c3
      obtain ⟨u11, u12, u13, u14⟩ := B5'.out.c3
      clear hx6
      go_wp2_with fail
      clear a1' a2' a3' a4' a5' a6' a7' a8' a9' d1' d2' d3' d4' u01 u02 u03 u04 u11 u12 u13 u14 B3'' B5 S5h
      refine (H6.out _ S6h.out).mono ?_
      rintro e w7 ⟨rfl, hx7⟩
      have hy7 : Ext w6 (w7.alloc (.cells #[.int .i64 Y, .int .i64 Mo, .int .i64 D] 29)) := hx7.alloc _
      have S7h := Lib.hid (S6h.out.ext hy7)
      have B3'''' := Lib.hid (B3'''.out.ext hy7)
      have B5'' := Lib.hid (B5'.out.ext hy7)
      have B7 := Lib.hid (Blk.new w7 #[.int .i64 Y, .int .i64 Mo, .int .i64 D] 29)
      have zz7 := hx7.size
      obtain ⟨a1', a2', a3', a4', a5', a6', a7', a8', a9'⟩ := S7h.out.ka.cel
      obtain ⟨d1', d2', d3', d4'⟩ := S7h.out.kd.c3
      obtain ⟨u01, u02, u03, u04⟩ := B3''''.out.c3
      obtain ⟨u11, u12, u13, u14⟩ := B5''.out.c3
      obtain ⟨u21, u22, u23, u24⟩ := B7.out.c3
      clear hx7
      go_wp2_with fail
      generalize hX : w7.alloc (.cells #[.int .i64 Y, .int .i64 Mo, .int .i64 D] 29) = X7 at S7h B3'''' B5'' B7 hy7 ⊢
      clear hX hy7 zz7 a1' a2' a3' a4' a5' a6' a7' a8' a9' d1' d2' d3' d4' u01 u02 u03 u04 u11 u12 u13 u14 u21 u22 u23 u24 B3''' B5' S6h
      go_ret
      exact ⟨rfl, S7h.out.e⟩
    · have S1h := Lib.hid S1
      have H6 := Lib.hid (fun (W : World) (S : DS w W w1.heap.size (w1.heap.size + 1) nm wk M R m1 mc r1 rc y m d) => (show Calls Tryz.prog 12 #[.agg #[.string nm, .slice m1 M.length mc, .slice r1 R.length rc, .int .i64 wk], .agg #[.int .i64 y, .int .i64 m, .int .i64 d], .int .i64 1] W (fun e w' => e = .returned (.tuple #[.agg #[.int .i64 Y, .int .i64 Mo, .int .i64 D], .int .i64 0]) ∧ Ext W w') from by have h := implAddDays_c wk y m d 1 S.v hr; rw [hcode] at h; exact h))
      have H7 := Lib.hid (fun (W : World) (S : DS w W w1.heap.size (w1.heap.size + 1) nm wk M R m1 mc r1 rc y m d) => (show Calls Tryz.prog 13 #[.agg #[.string nm, .slice m1 M.length mc, .slice r1 R.length rc, .int .i64 wk], .agg #[.int .i64 y, .int .i64 m, .int .i64 d], .int .i64 1] W (fun e w' => e = .returned (.tuple #[.int .i64 (x % wk + 1), .int .i64 0]) ∧ Ext W w') from by have h := implWeekdayOf_c wk y m d 1 (by omega) S.v; rw [hweek.1, hweek.2] at h; exact h))
      have H8 := Lib.hid (fun (W : World) (S : DS w W w1.heap.size (w1.heap.size + 1) nm wk M R m1 mc r1 rc y m d) => (show Calls Tryz.prog 13 #[.agg #[.string nm, .slice m1 M.length mc, .slice r1 R.length rc, .int .i64 wk], .agg #[.int .i64 Y, .int .i64 Mo, .int .i64 D], .int .i64 1] W (fun e w' => e = .returned (.tuple #[.int .i64 ((x + 1) % wk + 1), .int .i64 0]) ∧ Ext W w') from by have h := implWeekdayOf_c wk Y Mo D 1 (by omega) S.v; rw [(hweek2 hdt2).1, (hweek2 hdt2).2, hnum] at h; exact h))
      have H9 := Lib.hid (fun (W : World) (S : DS w W w1.heap.size (w1.heap.size + 1) nm wk M R m1 mc r1 rc y m d) => (show Calls Tryz.prog 14 #[.agg #[.string nm, .slice m1 M.length mc, .slice r1 R.length rc, .int .i64 wk], .agg #[.int .i64 y, .int .i64 m, .int .i64 d], .agg #[.int .i64 Y, .int .i64 Mo, .int .i64 D]] W (fun e w' => e = .returned (.tuple #[.int .i64 1, .int .i64 0]) ∧ Ext W w') from by have h := implDaysBetween_c wk y m d Y Mo D S.v; rw [(hbtw hdt2).1, (hbtw hdt2).2, hnum, show x + 1 - x = 1 by omega] at h; exact h))
      have HA := Lib.hid (fun (W : World) (S : DS w W w1.heap.size (w1.heap.size + 1) nm wk M R m1 mc r1 rc y m d) => (show Calls Tryz.prog 15 #[.agg #[.int .i64 y, .int .i64 m, .int .i64 d], .agg #[.int .i64 Y, .int .i64 Mo, .int .i64 D]] W (fun e w' => e = .returned (.int .i64 (-1)) ∧ Ext W w') from by have h := implCompareDate_c y m d Y Mo D W; rw [hcmp] at h; exact h))
      have HB := Lib.hid (fun (W : World) (S : DS w W w1.heap.size (w1.heap.size + 1) nm wk M R m1 mc r1 rc y m d) => (show Calls Tryz.prog 16 #[.agg #[.string nm, .slice m1 M.length mc, .slice r1 R.length rc, .int .i64 wk], .agg #[.int .i64 Y, .int .i64 Mo, .int .i64 D]] W (fun e w' => e = .returned (.bool true) ∧ Ext W w') from by have h := specValidDate_c wk Y Mo D S.v; rw [vdR, hok, hdt2] at h; exact h))
      obtain ⟨k1, k2, k3⟩ := week_next (x := x) (wk := wk) (by omega) hw.1
      obtain ⟨W1, hW1⟩ : ∃ a, a = x % wk + 1 := ⟨_, rfl⟩
      obtain ⟨W2, hW2⟩ : ∃ a, a = (x + 1) % wk + 1 := ⟨_, rfl⟩
      rw [← hW1] at k1 k2 k3 H7
      rw [← hW2] at k3 H8
      have kw : (W2 == wrap64 (W1 % wk + 1)) = true := by
        have e0 := Int.emod_nonneg (x + 1) (show wk ≠ 0 by omega)
        have e1 := Int.emod_lt_of_pos (x + 1) (show 0 < wk by omega)
        rw [beq_iff_eq, ← k3]; exact (IntWalk.wrap64_in W2 (by omega)).symm
      have kz : ¬ wk = 0 := by omega
      have xl : (x == La) = false := by rw [beq_eq_false_iff_ne]; exact hxl
      clear hW1 hW2 k3
      clear hcode hback htext hweek hbtw hweek2 hlast hr hdt hok b om or hx hLa hT bd hx1 hnum hcmp hdt2 hxl
      obtain ⟨a1', a2', a3', a4', a5', a6', a7', a8', a9'⟩ := S1h.out.ka.cel
      obtain ⟨d1', d2', d3', d4'⟩ := S1h.out.kd.c3
      go_wp2_with fail
      generalize hX : (w1.alloc (.cells #[.string nm, .slice m1 M.length mc, .slice r1 R.length rc, .int .i64 wk] 27)).alloc (.cells #[.int .i64 y, .int .i64 m, .int .i64 d] 29) = X1 at S1 S1h xa ⊢
      clear hX S1 xa a1' a2' a3' a4' a5' a6' a7' a8' a9' d1' d2' d3' d4'
      refine (H1.out _ S1h.out).mono ?_
      rintro e w2 ⟨rfl, hx2⟩
      have S2h := Lib.hid (S1h.out.ext hx2)
      obtain ⟨a1', a2', a3', a4', a5', a6', a7', a8', a9'⟩ := S2h.out.ka.cel
      obtain ⟨d1', d2', d3', d4'⟩ := S2h.out.kd.c3
      clear hx2
      go_wp2_with fail
      clear a1' a2' a3' a4' a5' a6' a7' a8' a9' d1' d2' d3' d4' S1h
      refine (H2.out _ S2h.out).mono ?_
      rintro e w3 ⟨rfl, hx3⟩
      have hy3 : Ext w2 (w3.alloc (.cells #[.int .i64 y, .int .i64 m, .int .i64 d] 29)) := hx3.alloc _
      have S3h := Lib.hid (S2h.out.ext hy3)
      have B3 := Lib.hid (Blk.new w3 #[.int .i64 y, .int .i64 m, .int .i64 d] 29)
      have zz3 := hx3.size
      obtain ⟨a1', a2', a3', a4', a5', a6', a7', a8', a9'⟩ := S3h.out.ka.cel
      obtain ⟨d1', d2', d3', d4'⟩ := S3h.out.kd.c3
      obtain ⟨u01, u02, u03, u04⟩ := B3.out.c3
      clear hx3
      go_wp2_with fail
      generalize hX : w3.alloc (.cells #[.int .i64 y, .int .i64 m, .int .i64 d] 29) = X3 at S3h B3 hy3 ⊢
      clear hX hy3 zz3 a1' a2' a3' a4' a5' a6' a7' a8' a9' d1' d2' d3' d4' u01 u02 u03 u04 S2h
      refine (H3.out _ S3h.out).mono ?_
      rintro e w4 ⟨rfl, hx4⟩
      have S4h := Lib.hid (S3h.out.ext hx4)
      have B3' := Lib.hid (B3.out.ext hx4)
      obtain ⟨a1', a2', a3', a4', a5', a6', a7', a8', a9'⟩ := S4h.out.ka.cel
      obtain ⟨d1', d2', d3', d4'⟩ := S4h.out.kd.c3
      obtain ⟨u01, u02, u03, u04⟩ := B3'.out.c3
      clear hx4
      go_wp2_with fail
      clear a1' a2' a3' a4' a5' a6' a7' a8' a9' d1' d2' d3' d4' u01 u02 u03 u04 B3 S3h
      refine (H4.out _ S4h.out).mono ?_
      rintro e w5 ⟨rfl, hx5⟩
      have hy5 : Ext w4 (w5.alloc (.cells #[.int .i64 y, .int .i64 m, .int .i64 d] 29)) := hx5.alloc _
      have S5h := Lib.hid (S4h.out.ext hy5)
      have B3'' := Lib.hid (B3'.out.ext hy5)
      have B5 := Lib.hid (Blk.new w5 #[.int .i64 y, .int .i64 m, .int .i64 d] 29)
      have zz5 := hx5.size
      obtain ⟨a1', a2', a3', a4', a5', a6', a7', a8', a9'⟩ := S5h.out.ka.cel
      obtain ⟨d1', d2', d3', d4'⟩ := S5h.out.kd.c3
      obtain ⟨u01, u02, u03, u04⟩ := B3''.out.c3
      obtain ⟨u11, u12, u13, u14⟩ := B5.out.c3
      clear hx5
      go_wp2_with fail
      generalize hX : w5.alloc (.cells #[.int .i64 y, .int .i64 m, .int .i64 d] 29) = X5 at S5h B3'' B5 hy5 ⊢
      clear hX hy5 zz5 a1' a2' a3' a4' a5' a6' a7' a8' a9' d1' d2' d3' d4' u01 u02 u03 u04 u11 u12 u13 u14 B3' S4h
      refine (H5.out _ S5h.out).mono ?_
      rintro e w6 ⟨rfl, hx6⟩
      have S6h := Lib.hid (S5h.out.ext hx6)
      have B3''' := Lib.hid (B3''.out.ext hx6)
      have B5' := Lib.hid (B5.out.ext hx6)
      obtain ⟨a1', a2', a3', a4', a5', a6', a7', a8', a9'⟩ := S6h.out.ka.cel
      obtain ⟨d1', d2', d3', d4'⟩ := S6h.out.kd.c3
      obtain ⟨u01, u02, u03, u04⟩ := B3'''.out.c3
      obtain ⟨u11, u12, u13, u14⟩ := B5'.out.c3
      clear hx6
      go_wp2_with fail
      clear a1' a2' a3' a4' a5' a6' a7' a8' a9' d1' d2' d3' d4' u01 u02 u03 u04 u11 u12 u13 u14 B3'' B5 S5h
      refine (H6.out _ S6h.out).mono ?_
      rintro e w7 ⟨rfl, hx7⟩
      have hy7 : Ext w6 (w7.alloc (.cells #[.int .i64 Y, .int .i64 Mo, .int .i64 D] 29)) := hx7.alloc _
      have S7h := Lib.hid (S6h.out.ext hy7)
      have B3'''' := Lib.hid (B3'''.out.ext hy7)
      have B5'' := Lib.hid (B5'.out.ext hy7)
      have B7 := Lib.hid (Blk.new w7 #[.int .i64 Y, .int .i64 Mo, .int .i64 D] 29)
      have zz7 := hx7.size
      obtain ⟨a1', a2', a3', a4', a5', a6', a7', a8', a9'⟩ := S7h.out.ka.cel
      obtain ⟨d1', d2', d3', d4'⟩ := S7h.out.kd.c3
      obtain ⟨u01, u02, u03, u04⟩ := B3''''.out.c3
      obtain ⟨u11, u12, u13, u14⟩ := B5''.out.c3
      obtain ⟨u21, u22, u23, u24⟩ := B7.out.c3
      clear hx7
      go_wp2_with fail
      generalize hX : w7.alloc (.cells #[.int .i64 Y, .int .i64 Mo, .int .i64 D] 29) = X7 at S7h B3'''' B5'' B7 hy7 ⊢
      clear hX hy7 zz7 a1' a2' a3' a4' a5' a6' a7' a8' a9' d1' d2' d3' d4' u01 u02 u03 u04 u11 u12 u13 u14 u21 u22 u23 u24 B3''' B5' S6h
      refine (H7.out _ S7h.out).mono ?_
      rintro e w8 ⟨rfl, hx8⟩
      have S8h := Lib.hid (S7h.out.ext hx8)
      have B3''''' := Lib.hid (B3''''.out.ext hx8)
      have B5''' := Lib.hid (B5''.out.ext hx8)
      have B7' := Lib.hid (B7.out.ext hx8)
      obtain ⟨a1', a2', a3', a4', a5', a6', a7', a8', a9'⟩ := S8h.out.ka.cel
      obtain ⟨d1', d2', d3', d4'⟩ := S8h.out.kd.c3
      obtain ⟨u01, u02, u03, u04⟩ := B3'''''.out.c3
      obtain ⟨u11, u12, u13, u14⟩ := B5'''.out.c3
      obtain ⟨u21, u22, u23, u24⟩ := B7'.out.c3
      clear hx8
      go_wp2_with fail
      clear a1' a2' a3' a4' a5' a6' a7' a8' a9' d1' d2' d3' d4' u01 u02 u03 u04 u11 u12 u13 u14 u21 u22 u23 u24 B3'''' B5'' B7 S7h
      refine (H8.out _ S8h.out).mono ?_
      rintro e w9 ⟨rfl, hx9⟩
      have S9h := Lib.hid (S8h.out.ext hx9)
      have B3'''''' := Lib.hid (B3'''''.out.ext hx9)
      have B5'''' := Lib.hid (B5'''.out.ext hx9)
      have B7'' := Lib.hid (B7'.out.ext hx9)
      obtain ⟨a1', a2', a3', a4', a5', a6', a7', a8', a9'⟩ := S9h.out.ka.cel
      obtain ⟨d1', d2', d3', d4'⟩ := S9h.out.kd.c3
      obtain ⟨u01, u02, u03, u04⟩ := B3''''''.out.c3
      obtain ⟨u11, u12, u13, u14⟩ := B5''''.out.c3
      obtain ⟨u21, u22, u23, u24⟩ := B7''.out.c3
      clear hx9
      go_wp2_with fail
      clear a1' a2' a3' a4' a5' a6' a7' a8' a9' d1' d2' d3' d4' u01 u02 u03 u04 u11 u12 u13 u14 u21 u22 u23 u24 B3''''' B5''' B7' S8h
      refine (H9.out _ S9h.out).mono ?_
      rintro e w10 ⟨rfl, hx10⟩
      have S10h := Lib.hid (S9h.out.ext hx10)
      have B3''''''' := Lib.hid (B3''''''.out.ext hx10)
      have B5''''' := Lib.hid (B5''''.out.ext hx10)
      have B7''' := Lib.hid (B7''.out.ext hx10)
      obtain ⟨a1', a2', a3', a4', a5', a6', a7', a8', a9'⟩ := S10h.out.ka.cel
      obtain ⟨d1', d2', d3', d4'⟩ := S10h.out.kd.c3
      obtain ⟨u01, u02, u03, u04⟩ := B3'''''''.out.c3
      obtain ⟨u11, u12, u13, u14⟩ := B5'''''.out.c3
      obtain ⟨u21, u22, u23, u24⟩ := B7'''.out.c3
      clear hx10
      go_wp2_with fail
      clear a1' a2' a3' a4' a5' a6' a7' a8' a9' d1' d2' d3' d4' u01 u02 u03 u04 u11 u12 u13 u14 u21 u22 u23 u24 B3'''''' B5'''' B7'' S9h
      refine (HA.out _ S10h.out).mono ?_
      rintro e w11 ⟨rfl, hx11⟩
      have S11h := Lib.hid (S10h.out.ext hx11)
      have B3'''''''' := Lib.hid (B3'''''''.out.ext hx11)
      have B5'''''' := Lib.hid (B5'''''.out.ext hx11)
      have B7'''' := Lib.hid (B7'''.out.ext hx11)
      obtain ⟨a1', a2', a3', a4', a5', a6', a7', a8', a9'⟩ := S11h.out.ka.cel
      obtain ⟨d1', d2', d3', d4'⟩ := S11h.out.kd.c3
      obtain ⟨u01, u02, u03, u04⟩ := B3''''''''.out.c3
      obtain ⟨u11, u12, u13, u14⟩ := B5''''''.out.c3
      obtain ⟨u21, u22, u23, u24⟩ := B7''''.out.c3
      clear hx11
      go_wp2_with fail
      clear a1' a2' a3' a4' a5' a6' a7' a8' a9' d1' d2' d3' d4' u01 u02 u03 u04 u11 u12 u13 u14 u21 u22 u23 u24 B3''''''' B5''''' B7''' S10h
      refine (HB.out _ S11h.out).mono ?_
      rintro e w12 ⟨rfl, hx12⟩
      have S12h := Lib.hid (S11h.out.ext hx12)
      have B3''''''''' := Lib.hid (B3''''''''.out.ext hx12)
      have B5''''''' := Lib.hid (B5''''''.out.ext hx12)
      have B7''''' := Lib.hid (B7''''.out.ext hx12)
      obtain ⟨a1', a2', a3', a4', a5', a6', a7', a8', a9'⟩ := S12h.out.ka.cel
      obtain ⟨d1', d2', d3', d4'⟩ := S12h.out.kd.c3
      obtain ⟨u01, u02, u03, u04⟩ := B3'''''''''.out.c3
      obtain ⟨u11, u12, u13, u14⟩ := B5'''''''.out.c3
      obtain ⟨u21, u22, u23, u24⟩ := B7'''''.out.c3
      clear hx12
      go_wp2_with fail
      go_ret
      exact ⟨rfl, S12h.out.e⟩
  · have HL := Lib.hid (fun (W : World) => (hlong ▸ a2Long_c a1 none n1 c1 0 0 W : Calls Tryz.prog 5 #[.slice a1 n1 c1, .slice none 0 0] W fun e w' => e = .returned (.bool true) ∧ W = w'))
    clear hlong
    go_enter Tryz.func3, Tryz.ntmps3
    go_wp2_with (go_at_call 5; ((with_reducible refine (HL.out _).mono ?_); rintro e w' ⟨rfl, rfl⟩))
    go_ret
    exact ⟨rfl, (by repeat (first | with_reducible exact Ext.refl _ | with_reducible assumption | with_reducible refine Ext.alloc ?_ _ | with_reducible refine Ext.drew ?_ | (with_reducible refine Ext.setAt ?_ _ _ _ ?_; rotate_left; omega) | with_reducible refine Ext.trans ?_ (by assumption) | with_reducible exact Past.bel _ | with_reducible refine Ext.trans ?_ (Past.bel _)))⟩
end Go.Proofs.YtpohhnihgegmfaaGreatDoor

namespace Go.Proofs.YtpohhnihgegmfaaGreatDoor
open Go.ChangeShapes Go.WideShapes Go.RowKit Go.Deep
set_option linter.unusedVariables false
section
variable {H : Type} {enc : TypeId × Value → H} {P : Program} {w : World} {base : Nat} {spare : Nat → Bool} {held : Bool}
theorem down_u8s {t e : TypeId} {fuel : Nat} {v : Value} {x : DataW H × List MemPlace} (ht : P.underlying t = some (.slice e)) (he : P.underlying e = some (.int .u8)) (hC : P.cellsOf e = 1)
    (hf : DataW.trod enc P w base spare held fuel t [v] = some x) :
    ∃ (a : Option Addr) (n cap : Nat) (f : Nat → Nat), v = .slice a n cap ∧ n ≤ cap ∧ cap ≤ maxLen ∧ U8 w a n f ∧ ∀ j, j < n → f j ≤ 255 := by
  rcases open_slice ht hf with ⟨hcs, _⟩ | ⟨a', len', cap', m, n', D, Pl, hcs, hb, hl, hm, hmm, hx, hcell⟩
  · simp at hcs
    subst hcs
    exact ⟨none, 0, 0, fun _ => 0, rfl, Nat.le_refl _, Nat.zero_le _, (fun h => absurd h (Nat.lt_irrefl 0)), fun j hj => absurd hj (Nat.not_lt_zero j)⟩
  · simp at hcs
    subst hcs
    have hlm : len' ≤ m := by rw [hmm]; split <;> omega
    have hel : ∀ i, i < len' → ∃ z : Nat, w.cell? (a'.add i) = some (.int .u8 (z : Int)) ∧ z ≤ 255 := fun i hi' => by
      obtain ⟨cs', hc, ht'⟩ := hcell i (by omega)
      rw [hC] at hc
      obtain ⟨_, hcl, hat⟩ := World.cells?_some hc
      obtain ⟨z, hz, _, hw⟩ := DataW.trod_int he ht'
      subst hz
      have hw' : 0 ≤ z ∧ z ≤ 255 := by simpa [Lit.wf, IntKind.min, IntKind.max, IntKind.signed, IntKind.bits] using hw
      have := hat 0 (by omega)
      obtain ⟨k, rfl⟩ := Int.eq_ofNat_of_zero_le hw'.1
      refine ⟨k, ?_, by omega⟩
      have e1 : a'.add i = (a'.add (i * 1)).add 0 := by rw [Go.Deep.add_add]; simp
      rw [e1, this]; rfl
    obtain ⟨z, hz⟩ := choose_lt hel
    refine ⟨some a', len', cap', z, rfl, hl, hm, fun hn => ?_, fun j hj => (hz j hj).2⟩
    obtain ⟨b, off, spot⟩ := a'
    have h0 := (hz 0 hn).1
    have hspot : spot = none := by simpa [Addr.add] using World.cell?_spot h0
    subst hspot
    refine ⟨b, off, rfl, World.block_lt_of_cell? w ⟨b, off, none⟩ (by simpa [Addr.add] using h0), fun i hi' => ?_⟩
    have h1 := (hz i hi').1
    rw [Addr.add_lit] at h1
    exact h1
theorem arg_u8s {r : Reach} {b0 : Nat} {t e : TypeId} {v : Value} {d : DataW H} {p : List MemPlace} (ht : P.underlying t = some (.slice e)) (he : P.underlying e = some (.int .u8)) (hC : P.cellsOf e = 1)
    (hv : Value.okWide P w r b0 t v) (h : DataW.Trod enc P w base spare held t v d p) :
    ∃ (a : Option Addr) (n cap : Nat) (f : Nat → Nat), v = .slice a n cap ∧ n ≤ cap ∧ cap ≤ maxLen ∧ U8 w a n f ∧ ∀ j, j < n → f j ≤ 255 := by
  obtain ⟨a, n, cap, rfl⟩ := okWide_slice ht hv
  obtain ⟨fuel, hf⟩ := h
  exact down_u8s ht he hC (fuel := fuel) (by simpa [Value.cells] using hf)
end
end Go.Proofs.YtpohhnihgegmfaaGreatDoor

namespace Go.Proofs.YtpohhnihgegmfaaGreatDoor
open Go.ChangeShapes Go.WideShapes Go.ChangeAt Go.WideMaps Go.WideElems Go.RowKit
set_option linter.unusedVariables false

def laid7 : List (String × DataW Unit) := [("math/bits.deBruijn32tab", Rows.laid_math_bits_deBruijn32tab), ("math/bits.deBruijn64tab", Rows.laid_math_bits_deBruijn64tab), ("internal/strconv.uint64pow10", Rows.laid_internal_strconv_uint64pow10), ("unicode/utf8.acceptRanges", Rows.laid_unicode_utf8_acceptRanges), ("strconv.ErrRange", Rows.laid_strconv_ErrRange), ("strconv.ErrSyntax", Rows.laid_strconv_ErrSyntax), ("unicode/utf8.first", Rows.laid_unicode_utf8_first)]
theorem open_str {P : Program} {H : Type} {enc : TypeId × Value → H} {w : World} {base : Nat} {spare : Nat → Bool} {held : Bool} {r : Reach} {b0 : Nat} {t : TypeId} {v : Value} {d : DataW H} {p : List MemPlace} (ht : P.underlying t = some .string) (hv : Value.okWide P w r b0 t v) (h : DataW.Trod enc P w base spare held t v d p) :
    ∃ s : ByteArray, v = .string s ∧ s.size ≤ maxLen := by
  obtain ⟨s0, rfl⟩ := okWide_string ht hv
  obtain ⟨fuel, hf⟩ := h
  obtain ⟨s, hs, _, hz⟩ := DataW.trod_string ht hf
  obtain rfl : s0 = s := by simpa [Value.cells] using hs
  exact ⟨s0, rfl, hz⟩
theorem iface_read {P : Program} {w : World} {sp : Nat → Bool} {fuel : Nat} {t : TypeId} {ms : Array (String × TypeId)} {cs : List Value} {name : String} {d : DataW Unit} {p : List MemPlace}
    (ht : P.underlying t = some (.interface ms)) (h : DataW.trod (fun _ => ()) P w 0 sp false fuel t cs = some (.iface name d, p)) : ∃ u v, cs = [.iface u v] := by
  cases fuel with
  | zero => simp [DataW.trod] at h
  | succ n =>
    unfold DataW.trod at h
    rw [ht] at h
    split at h <;> simp_all
theorem cell_lt {w : World} {b o : Nat} {v : Value} (h : w.cell? ⟨b, o, none⟩ = some v) : b < w.heap.size := by
  rcases Nat.lt_or_ge b w.heap.size with h' | h'
  · exact h'
  · simp [World.cell?, Array.getElem?_eq_none h'] at h
theorem gl_of {W : World} (h : laidMetH Tryz.prog laid7 W) (hs : W.ShapedOpen Tryz.prog) : Gl W := by
  rw [MakeChecks.laidMetH_plain _ _ _ (by kernel_rfl)] at h
  obtain ⟨m, hm⟩ : ∃ m, W.cell? ⟨0, 0, none⟩ = some (.int .i64 m) := cell_of_shapedOpen_int (zero := #[.int .i64 0]) (t := 3) hs (of_decide_eq_true (by kernel_rfl)) (by kernel_rfl) rfl (by kernel_rfl) (by kernel_rfl) Tryz.underlying3
  obtain ⟨ps, ⟨g0, t0, cs0, f0, p0, q0, hg0, ht0, hv0, hd0, ⟨g1, t1, cs1, f1, p1, q1, hg1, ht1, hv1, hd1, ⟨g2, t2, cs2, f2, p2, q2, hg2, ht2, hv2, hd2, ⟨g3, t3, cs3, f3, p3, q3, hg3, ht3, hv3, hd3, ⟨g4, t4, cs4, f4, p4, q4, hg4, ht4, hv4, hd4, ⟨g5, t5, cs5, f5, p5, q5, hg5, ht5, hv5, hd5, _⟩, _⟩, _⟩, _⟩, _⟩, _⟩, _, _⟩ := h
  refine ⟨?_, ⟨m, fun w' x => (x.cell (cell_lt hm)).trans hm⟩, ?_, ?_⟩
  · have k1 : Tryz.prog.globalNamed "internal/strconv.uint64pow10" = some 3 := by kernel_rfl
    have k2 : (Tryz.prog.globals[3]?).map (·.type) = some 169 := by kernel_rfl
    obtain rfl := Option.some.inj (k1.symm.trans hg2)
    obtain rfl := Option.some.inj (k2.symm.trans ht2)
    refine Lib.tabBelow_of_tabIs ?_
    unfold Lib.TabIs
    rw [hv2, ← Lib.cells_of_tab (k := .u64) (zs := Lib.pow10Tab) (n := 20) Tryz.underlying169 Tryz.underlying105 (by kernel_rfl) (by kernel_rfl) hd2]
  · have k1 : Tryz.prog.globalNamed "strconv.ErrSyntax" = some 1 := by kernel_rfl
    have k2 : (Tryz.prog.globals[1]?).map (·.type) = some 95 := by kernel_rfl
    obtain rfl := Option.some.inj (k1.symm.trans hg5)
    obtain rfl := Option.some.inj (k2.symm.trans ht5)
    obtain ⟨u, v, e⟩ := iface_read Tryz.underlying95 hd5
    have hc : W.cell? ⟨1, 0, none⟩ = some (.iface u v) := by
      rw [World.var?_cell hg5 hv5 0, ← Array.getElem?_toList, e]; rfl
    exact ⟨_, Or.inr ⟨u, v, rfl⟩, fun w' x => (x.cell (cell_lt hc)).trans hc⟩
  · have k1 : Tryz.prog.globalNamed "strconv.ErrRange" = some 2 := by kernel_rfl
    have k2 : (Tryz.prog.globals[2]?).map (·.type) = some 95 := by kernel_rfl
    obtain rfl := Option.some.inj (k1.symm.trans hg4)
    obtain rfl := Option.some.inj (k2.symm.trans ht4)
    obtain ⟨u, v, e⟩ := iface_read Tryz.underlying95 hd4
    have hc : W.cell? ⟨2, 0, none⟩ = some (.iface u v) := by
      rw [World.var?_cell hg4 hv4 0, ← Array.getElem?_toList, e]; rfl
    exact ⟨_, Or.inr ⟨u, v, rfl⟩, fun w' x => (x.cell (cell_lt hc)).trans hc⟩
theorem laid7_met (os : Os) (args : Array Value) : laidMetH Tryz.prog laid7 ((World.laidAll Tryz.prog os laid7).forCall (fun _ _ => 0) ⟨#[], args, []⟩).memory := by
  rw [MakeChecks.laidMetH_plain _ _ _ (by kernel_rfl)]
  exact laidMet_laidAll _ (by kernel_rfl) (by kernel_rfl)
/-- a row whose listed variables are laid, the world's shape handed on -/
theorem row_shaped {H : Type} {enc : TypeId × Value → H} {a : Assume} {C : Checked} {os : Os} {f : FuncId} {fn : Func} {s : ChangeSpec} {conds : List PathCond} {apart fresh handsOn again : Bool} {X : World → Prop}
    (hX : ∀ (w w' : World), w.heap = w'.heap → X w → X w')
    (own : ownKnob C.prog.godebug = none) (started : os.Started) (noInit : C.prog.inits.idxOf? f = none) (hfn : C.prog.funcs[f]? = some fn)
    (witness : ∃ (w : World) (tape : Tape) (i : Input), w.os = os ∧ (w.forCall tape i).Shaped C.prog ∧ i.vars = [] ∧ Input.okWide C.prog (w.forCall tape i) .any w.heap.size f i ∧
      ((s.pre enc C.prog fn conds apart (w.forCall tape i).memory i.args ∧ X (w.forCall tape i).memory) ∧ sizedMet enc C.prog fn (OpenSpec.ofChange s) apart (w.forCall tape i).memory i.args) ∧ a.holds C.prog (lone (Frame.enter C.prog f i.args .normal) [] (w.forCall tape i)))
    (contract : ∀ (W : World) (base : Nat) (args : Array Value) (ds gs : List (DataW H)) (before : List MemPlace),
      (∀ (j : Nat) t v, fn.params[j]? = some t → args[j]? = some v → Value.okWide C.prog W .any base t v) →
      DataW.Whole enc C.prog fn.params.toList s.vars apart W args.toList ds gs before → X W → W.ShapedOpen C.prog →
      Calls C.prog f args W fun e W' => ∃ v, e = .returned v ∧ s.post enc C.prog fn apart fresh handsOn again W args v W') :
    ReturnsInHanded a C os f .any (fun w args => (s.pre enc C.prog fn conds apart w args ∧ X w) ∧ sizedMet enc C.prog fn (OpenSpec.ofChange s) apart w args) (s.post enc C.prog fn apart fresh handsOn again) := by
  refine returnsInHanded_of_calls own started noInit witness ?_
  rintro w tape i - hsh - ⟨_, _, _, fn', hfn', _, _, _, _, hval⟩ ⟨⟨⟨ds, gs, before, hw, _⟩, hx⟩, _⟩ _
  obtain rfl : fn' = fn := Option.some.inj (hfn'.symm.trans hfn)
  refine (contract (w.forCall tape i) w.heap.size i.args ds gs before hval (DataW.Whole.of_heap (w' := w.forCall tape i) (by rfl) hw) (hX _ _ (by rfl) hx) hsh).mono ?_
  rintro e W' ⟨v, rfl, hp⟩
  exact ChangeSpec.post_blind hp
theorem laid7_shaped (os : Os) (args : Array Value) : ((World.laidAll Tryz.prog os laid7).forCall (fun _ _ => 0) ⟨#[], args, []⟩).Shaped Tryz.prog :=
  World.shaped_of_ZipB (by kernel_rfl) (by kernel_rfl)
end Go.Proofs.YtpohhnihgegmfaaGreatDoor
