/- Calendars: when their months are valid. No program in sight. Months of a calendar: the reference's. Valid calendars: the reference's. Names among others: the program's. Valid calendars: the program's. Leap years: the functions as they are called. Calendars' texts: the reference's. Lists of months and rules in memory of their own; appends of whole structs. No program in sight. Calendars' texts as lines of words. No walk. Reading calendars' texts: plain laws. -/
import Derived.Test.YtpohhnihgegmfaaDoorBb
import Derived.Test.YtpohhnihgegmfaaDoorBa

namespace Go.Proofs.YtpohhnihgegmfaaDoor
set_option linter.unusedVariables false
/-- none of the first j names is the one at place k -/
def frTo (nm : Nat → ByteArray) (k : Nat) : Nat → Bool
  | 0 => true
  | j + 1 => frTo nm k j && !decide (nm j = nm k)
theorem frTo_ff {nm : Nat → ByteArray} {k n j : Nat} (hj : j < n) (h : nm j = nm k) : frTo nm k n = false := by
  induction n with
  | zero => omega
  | succ n ih =>
    by_cases e : j = n
    · subst e; simp [frTo, h]
    · simp only [frTo, ih (by omega), Bool.false_and]
theorem frTo_at {nm : Nat → ByteArray} {k n j : Nat} (h : frTo nm k n = true) (hj : j < n) : ¬ nm j = nm k := fun e => by rw [frTo_ff hj e] at h; cases h
/-- month k is valid, as the one behind the first k -/
def monA (nm : Nat → ByteArray) (dy lp : Nat → Int) (k : Nat) : Bool := isNm (nm k) && (inB (dy k) 1 60 && (inB (lp k) 1 60 && frTo nm k k))
def monTo (nm : Nat → ByteArray) (dy lp : Nat → Int) : Nat → Bool
  | 0 => true
  | k + 1 => monTo nm dy lp k && monA nm dy lp k
theorem monTo_ff {nm : Nat → ByteArray} {dy lp : Nat → Int} {n k : Nat} (hk : k < n) (h : monA nm dy lp k = false) : monTo nm dy lp n = false := by
  induction n with
  | zero => omega
  | succ n ih =>
    by_cases e : k = n
    · subst e; simp only [monTo, h, Bool.and_false]
    · simp only [monTo, ih (by omega), Bool.false_and]
theorem monTo_at {nm : Nat → ByteArray} {dy lp : Nat → Int} {n k : Nat} (h : monTo nm dy lp n = true) (hk : k < n) : monA nm dy lp k = true := by
  cases e : monA nm dy lp k
  · rw [monTo_ff hk e] at h; cases h
  · rfl
theorem monA_1 {nm : Nat → ByteArray} {dy lp : Nat → Int} {k : Nat} (h : isNm (nm k) = false) : monA nm dy lp k = false := by simp [monA, h]
theorem monA_2 {nm : Nat → ByteArray} {dy lp : Nat → Int} {k : Nat} (h : inB (dy k) 1 60 = false) : monA nm dy lp k = false := by simp [monA, h]
theorem monA_3 {nm : Nat → ByteArray} {dy lp : Nat → Int} {k : Nat} (h : inB (lp k) 1 60 = false) : monA nm dy lp k = false := by simp [monA, h]
theorem monA_4 {nm : Nat → ByteArray} {dy lp : Nat → Int} {k : Nat} (h : frTo nm k k = false) : monA nm dy lp k = false := by simp [monA, h]
theorem monA_t {nm : Nat → ByteArray} {dy lp : Nat → Int} {k : Nat} (h1 : isNm (nm k) = true) (h2 : inB (dy k) 1 60 = true) (h3 : inB (lp k) 1 60 = true) (h4 : frTo nm k k = true) : monA nm dy lp k = true := by simp [monA, h1, h2, h3, h4]
def monB (nm : Nat → ByteArray) (dy lp : Nat → Int) (n : Nat) : Bool := monTo nm dy lp n && inB (n : Int) 1 20
/-- a calendar is valid: its name, the names of its months, its numbers, its week -/
def calB (s : ByteArray) (nm : Nat → ByteArray) (c : CalN) (wk : Int) : Bool := rulB c.ev c.rs c.nr && (isNm s && (monB nm c.dy c.lp c.n && inB wk 1 12))
theorem calB_b {s : ByteArray} {nm : Nat → ByteArray} {c : CalN} {wk : Int} (h : calB s nm c wk = true) : CalB c := by
  simp only [calB, monB, rulB, Bool.and_eq_true, decide_eq_true_eq, inB_t] at h
  obtain ⟨⟨⟨h1, h2⟩, h3⟩, h4, ⟨h5, h6⟩, h7⟩ := h
  have hm : ∀ j, j < c.n → inB (c.dy j) 1 60 = true ∧ inB (c.lp j) 1 60 = true := fun j hj => by
    have := monTo_at h5 hj
    simp only [monA, Bool.and_eq_true] at this
    exact ⟨this.2.1, this.2.2.1⟩
  exact ⟨h3, by omega, by omega, fun j hj => (rulTo_at h1 hj).1, fun j hj => (rulTo_at h1 hj).2, fun j hj => inB_t.1 (hm j hj).1, fun j hj => inB_t.1 (hm j hj).2, h2⟩
section
variable {s : ByteArray} {nm : Nat → ByteArray} {c : CalN} {wk : Int}
theorem calB_1 (h : isNm s = false) : calB s nm c wk = false := by simp [calB, h]
theorem calB_2 (h : inB (c.n : Int) 1 20 = false) : calB s nm c wk = false := by simp [calB, monB, h]
theorem calB_3 (h : 6 < c.nr) : calB s nm c wk = false := by simp [calB, rulB]; omega
theorem calB_4 (h : inB wk 1 12 = false) : calB s nm c wk = false := by simp [calB, h]
theorem calB_5 {k : Nat} (hk : k < c.n) (h : monA nm c.dy c.lp k = false) : calB s nm c wk = false := by simp [calB, monB, monTo_ff hk h]
theorem calB_6 {k : Nat} (hk : k < c.nr) (h : (inB (c.ev k) 1 1000 && inB (c.rs k) 0 (c.ev k - 1)) = false) : calB s nm c wk = false := by simp only [calB, rulB_bad hk h, Bool.false_and]
theorem calB_7 (h1 : isNm s = true) (h2 : inB (c.n : Int) 1 20 = true) (h3 : c.nr ≤ 6) (h4 : inB wk 1 12 = true) (h5 : monTo nm c.dy c.lp c.n = true) (h6 : rulTo c.ev c.rs c.nr = true) : calB s nm c wk = decide (cyY c.ev c.nr ≤ 2000) := by simp [calB, monB, rulB, h1, h2, h3, h4, h5, h6]
end
end Go.Proofs.YtpohhnihgegmfaaDoor

namespace Go.Proofs.YtpohhnihgegmfaaDoor
open Go.RowKit
set_option linter.unusedVariables false
set_option linter.unusedSimpArgs false

theorem bs_ne {x y : ByteArray} (h : ¬ x = y) : (x.toList == y.toList) = false := by
  simp only [ByteArray.toList_eq, beq_eq_false_iff_ne, ne_eq]
  intro e
  obtain ⟨⟨a⟩⟩ := x; obtain ⟨⟨b⟩⟩ := y
  simp only at e; subst e; exact h rfl
theorem bs_eq {x y : ByteArray} (h : x = y) : (x.toList == y.toList) = true := by subst h; simp
set_option maxHeartbeats 2000000 in
theorem l15Months_c (a : Option Addr) (n c : Nat) (nm : Nat → ByteArray) (dy lp : Nat → Int) (w : World) (hn : n ≤ 1048576) (hs : S3 w a n nm dy lp) (hz : ∀ i, i < n → (nm i).size ≤ 9223372036854775807) :
    Calls Tryd.prog 64 #[.slice a n c] w fun e w' => e = .returned (.bool (monB nm dy lp n)) ∧ Ext w w' := by
  have HS := Lib.hid hs
  have HZ := Lib.hid hz
  clear hs hz
  go_enter Tryd.func64, Tryd.ntmps64
  go_wp2_with fail
  go_loopw [3] (fun i wr => ∃ j : Nat, j ≤ n ∧ i = .int .i64 j ∧ monTo nm dy lp j = true ∧ Ext w wr) (fun i _ => n - (intOf i).toNat)
  case atStart => exact ⟨0, by omega, rfl, rfl, (by repeat (first | with_reducible exact Ext.refl _ | with_reducible assumption | with_reducible refine Ext.alloc ?_ _ | with_reducible refine Ext.drew ?_ | (with_reducible refine Ext.setAt ?_ _ _ _ ?_; rotate_left; omega) | with_reducible refine Ext.trans ?_ (by assumption) | with_reducible exact Past.bel _ | with_reducible refine Ext.trans ?_ (Past.bel _)))⟩
  case round =>
    obtain ⟨j, hj, rfl, hr, hbl⟩ := hrel
    have HR := Lib.hid hr
    clear hr
    by_cases hlt : j < n
    · have hsr := S3.ext HS.out hbl
      have HSR := Lib.hid hsr
      obtain ⟨b1, o1, rfl, hb1, q1, q2, q3⟩ := hsr.at hlt
      clear hsr
      have zj := HZ.out j hlt
      cases h1 : isNm (nm j)
      · go_wp2_with (go_at_call 63; ((with_reducible refine (specIsName_c _ _ zj).mono ?_); rintro e w' ⟨rfl, rfl⟩))
        go_ret
        exact ⟨ret_bool (by unfold monB; rw [monTo_ff hlt (monA_1 h1)]; rfl), (by repeat (first | with_reducible exact Ext.refl _ | with_reducible assumption | with_reducible refine Ext.alloc ?_ _ | with_reducible refine Ext.drew ?_ | (with_reducible refine Ext.setAt ?_ _ _ _ ?_; rotate_left; omega) | with_reducible refine Ext.trans ?_ (by assumption) | with_reducible exact Past.bel _ | with_reducible refine Ext.trans ?_ (Past.bel _)))⟩
      · cases h2 : inB (dy j) 1 60
        · go_wp2_with (first | (go_at_call 63; ((with_reducible refine (specIsName_c _ _ zj).mono ?_); rintro e w' ⟨rfl, rfl⟩)) | (go_at_call 37; ((with_reducible refine (l00In_c _ _ _ _).mono ?_); rintro e w' ⟨rfl, rfl⟩)))
          go_ret
          exact ⟨ret_bool (by unfold monB; rw [monTo_ff hlt (monA_2 h2)]; rfl), (by repeat (first | with_reducible exact Ext.refl _ | with_reducible assumption | with_reducible refine Ext.alloc ?_ _ | with_reducible refine Ext.drew ?_ | (with_reducible refine Ext.setAt ?_ _ _ _ ?_; rotate_left; omega) | with_reducible refine Ext.trans ?_ (by assumption) | with_reducible exact Past.bel _ | with_reducible refine Ext.trans ?_ (Past.bel _)))⟩
        · cases h3 : inB (lp j) 1 60
          · go_wp2_with (first | (go_at_call 63; ((with_reducible refine (specIsName_c _ _ zj).mono ?_); rintro e w' ⟨rfl, rfl⟩)) | (go_at_call 37; ((with_reducible refine (l00In_c _ _ _ _).mono ?_); rintro e w' ⟨rfl, rfl⟩)))
            go_ret
            exact ⟨ret_bool (by unfold monB; rw [monTo_ff hlt (monA_3 h3)]; rfl), (by repeat (first | with_reducible exact Ext.refl _ | with_reducible assumption | with_reducible refine Ext.alloc ?_ _ | with_reducible refine Ext.drew ?_ | (with_reducible refine Ext.setAt ?_ _ _ _ ?_; rotate_left; omega) | with_reducible refine Ext.trans ?_ (by assumption) | with_reducible exact Past.bel _ | with_reducible refine Ext.trans ?_ (Past.bel _)))⟩
          · go_wp2_with (first | (go_at_call 63; ((with_reducible refine (specIsName_c _ _ zj).mono ?_); rintro e w' ⟨rfl, rfl⟩)) | (go_at_call 37; ((with_reducible refine (l00In_c _ _ _ _).mono ?_); rintro e w' ⟨rfl, rfl⟩)))
            have H1 := Lib.hid h1; have H2 := Lib.hid h2; have H3 := Lib.hid h3
            clear h1 h2 h3 q1 q2 q3
            go_loopw [4] (fun k ws => ∃ i : Nat, i ≤ j ∧ k = .int .i64 i ∧ frTo nm j i = true ∧ Ext wr ws) (fun k _ => j - (intOf k).toNat)
            case atStart => exact ⟨0, by omega, rfl, rfl, (by repeat (first | with_reducible exact Ext.refl _ | with_reducible assumption | with_reducible refine Ext.alloc ?_ _ | with_reducible refine Ext.drew ?_ | (with_reducible refine Ext.setAt ?_ _ _ _ ?_; rotate_left; omega) | with_reducible refine Ext.trans ?_ (by assumption) | with_reducible exact Past.bel _ | with_reducible refine Ext.trans ?_ (Past.bel _)))⟩
            case round =>
              obtain ⟨i, hi, rfl, hf, hbl2⟩ := hrel
              have HF := Lib.hid hf
              clear hf
              by_cases hij : i < j
              · obtain ⟨b1, o1, e1, hb1, q1, _, _⟩ := (S3.ext HSR.out hbl2).at (show i < n by omega)
                obtain ⟨b2, o2, e2, hb2, q2, _, _⟩ := (S3.ext HSR.out hbl2).at hlt
                cases e1
                cases e2
                by_cases e : nm i = nm j
                · have d1 : decide (nm i = nm j) = true := by simpa using e
                  have d2 := bs_eq e
                  have E := Lib.hid e
                  clear e
                  go_wp2_with fail
                  refine wp_region_past (by kernel_rfl) (by kernel_rfl) ?_
                  repeat (go_big_quiet_step (fail))
                  refine wpQuiet_nil ?_
                  rintro _ ⟨wx, rfl⟩
                  go_wp2_with fail
                  go_ret
                  exact ⟨ret_bool (by unfold monB; rw [monTo_ff hlt (monA_4 (frTo_ff hij E.out))]; rfl), (by repeat (first | with_reducible exact Ext.refl _ | with_reducible assumption | with_reducible refine Ext.alloc ?_ _ | with_reducible refine Ext.drew ?_ | (with_reducible refine Ext.setAt ?_ _ _ _ ?_; rotate_left; omega) | with_reducible refine Ext.trans ?_ (by assumption) | with_reducible exact Past.bel _ | with_reducible refine Ext.trans ?_ (Past.bel _)))⟩
                · have d1 : decide (nm i = nm j) = false := by simpa using e
                  have d2 := bs_ne e
                  have E := Lib.hid e
                  clear e
                  go_wp2_with fail
                  refine wp_region_past (by kernel_rfl) (by kernel_rfl) ?_
                  repeat (go_big_quiet_step (fail))
                  refine wpQuiet_nil ?_
                  rintro _ ⟨wx, rfl⟩
                  go_wp2_with fail
                  exact ⟨⟨i + 1, by omega, by go_num, by simp only [frTo, HF.out, d1]; rfl, (by repeat (first | with_reducible exact Ext.refl _ | with_reducible assumption | with_reducible refine Ext.alloc ?_ _ | with_reducible refine Ext.drew ?_ | (with_reducible refine Ext.setAt ?_ _ _ _ ?_; rotate_left; omega) | with_reducible refine Ext.trans ?_ (by assumption) | with_reducible exact Past.bel _ | with_reducible refine Ext.trans ?_ (Past.bel _)))⟩, by simp [intOf]; omega⟩
              · obtain rfl : i = j := by omega
                go_wp2_with fail
                exact ⟨⟨i + 1, by omega, by go_num, by simp only [monTo, HR.out, monA_t H1.out H2.out H3.out HF.out]; rfl, (by repeat (first | with_reducible exact Ext.refl _ | with_reducible assumption | with_reducible refine Ext.alloc ?_ _ | with_reducible refine Ext.drew ?_ | (with_reducible refine Ext.setAt ?_ _ _ _ ?_; rotate_left; omega) | with_reducible refine Ext.trans ?_ (by assumption) | with_reducible exact Past.bel _ | with_reducible refine Ext.trans ?_ (Past.bel _)))⟩, by simp [intOf]; omega⟩
    · obtain rfl : j = n := by omega
      go_wp2_with (go_at_call 37; ((with_reducible refine (l00In_c _ _ _ _).mono ?_); rintro e w' ⟨rfl, rfl⟩))
      go_ret
      exact ⟨ret_bool (by unfold monB; rw [HR.out]; rfl), (by repeat (first | with_reducible exact Ext.refl _ | with_reducible assumption | with_reducible refine Ext.alloc ?_ _ | with_reducible refine Ext.drew ?_ | (with_reducible refine Ext.setAt ?_ _ _ _ ?_; rotate_left; omega) | with_reducible refine Ext.trans ?_ (by assumption) | with_reducible exact Past.bel _ | with_reducible refine Ext.trans ?_ (Past.bel _)))⟩
end Go.Proofs.YtpohhnihgegmfaaDoor

namespace Go.Proofs.YtpohhnihgegmfaaDoor
open Go.RowKit
set_option linter.unusedVariables false
set_option linter.unusedSimpArgs false

set_option maxHeartbeats 2000000 in
theorem l15Ok_c (g : Nat) (s : ByteArray) (ma ra : Option Addr) (mc rc : Nat) (wk : Int) (nm : Nat → ByteArray) (c : CalN) (w : World) (hm : c.n ≤ 1048576) (hr : c.nr ≤ 1048576) (hs : s.size ≤ 9223372036854775807) (hz : ∀ i, i < c.n → (nm i).size ≤ 9223372036854775807) (h : CalP w g s ma ra mc rc wk nm c) :
    Calls Tryd.prog 39 #[.pointer (some ⟨g, 0, none⟩)] w fun e w' => e = .returned (.bool (calB s nm c wk)) ∧ Ext w w' := by
  have H := Lib.hid h
  have HZ := Lib.hid hz
  have g0 := h.lt
  have p0 := h.c0
  have p1 := h.c1
  have p2 := h.c2
  have p3 := h.c3
  have hy : ∀ W, Ext w W → Calls Tryd.prog 62 #[.slice ra c.nr rc] W fun e w' => ∃ x, e = .returned (.tuple #[.int .i64 x, .bool (rulB c.ev c.rs c.nr)]) ∧ Ext W w' := fun W hx =>
    (l15Years_c _ _ _ _ _ _ W hr (h.ext hx).mem.ru).mono fun e w' ⟨x, b, he, hb, hx⟩ => ⟨x, by rw [he, hb.ok], hx⟩
  have HY := Lib.hid hy
  clear h hz hy
  cases h1 : rulB c.ev c.rs c.nr
  · have H1 := Lib.hid h1
    rw [h1] at HY
    clear h1
    go_enter Tryd.func39, Tryd.ntmps39
    go_wp2_with fail
    refine (HY.out _ (by repeat (first | with_reducible exact Ext.refl _ | with_reducible assumption | with_reducible refine Ext.alloc ?_ _ | with_reducible refine Ext.drew ?_ | (with_reducible refine Ext.setAt ?_ _ _ _ ?_; rotate_left; omega) | with_reducible refine Ext.trans ?_ (by assumption) | with_reducible exact Past.bel _ | with_reducible refine Ext.trans ?_ (Past.bel _)))).mono ?_
    rintro e w' ⟨x, rfl, hx1⟩
    (first | (obtain ⟨wx1, rfl⟩ := Past.again hx1) | (obtain ⟨wx1, rfl⟩ := Past.of hx1))
    go_wp2_with fail
    go_ret
    exact ⟨ret_bool (by unfold calB; rw [H1.out]; rfl), (by repeat (first | with_reducible exact Ext.refl _ | with_reducible assumption | with_reducible refine Ext.alloc ?_ _ | with_reducible refine Ext.drew ?_ | (with_reducible refine Ext.setAt ?_ _ _ _ ?_; rotate_left; omega) | with_reducible refine Ext.trans ?_ (by assumption) | with_reducible exact Past.bel _ | with_reducible refine Ext.trans ?_ (Past.bel _)))⟩
  · have H1 := Lib.hid h1
    rw [h1] at HY
    clear h1
    go_enter Tryd.func39, Tryd.ntmps39
    go_wp2_with fail
    refine (HY.out _ (by repeat (first | with_reducible exact Ext.refl _ | with_reducible assumption | with_reducible refine Ext.alloc ?_ _ | with_reducible refine Ext.drew ?_ | (with_reducible refine Ext.setAt ?_ _ _ _ ?_; rotate_left; omega) | with_reducible refine Ext.trans ?_ (by assumption) | with_reducible exact Past.bel _ | with_reducible refine Ext.trans ?_ (Past.bel _)))).mono ?_
    rintro e w' ⟨x, rfl, hx1⟩
    (first | (obtain ⟨wx1, rfl⟩ := Past.again hx1) | (obtain ⟨wx1, rfl⟩ := Past.of hx1))
    cases h2 : isNm s
    · go_wp2_with (go_at_call 63; ((with_reducible refine (specIsName_c _ _ hs).mono ?_); rintro e w' ⟨rfl, rfl⟩))
      go_ret
      exact ⟨ret_bool (by unfold calB; rw [H1.out, h2]; rfl), (by repeat (first | with_reducible exact Ext.refl _ | with_reducible assumption | with_reducible refine Ext.alloc ?_ _ | with_reducible refine Ext.drew ?_ | (with_reducible refine Ext.setAt ?_ _ _ _ ?_; rotate_left; omega) | with_reducible refine Ext.trans ?_ (by assumption) | with_reducible exact Past.bel _ | with_reducible refine Ext.trans ?_ (Past.bel _)))⟩
    · cases h3 : monB nm c.dy c.lp c.n
      · go_wp2_with (first | (go_at_call 63; ((with_reducible refine (specIsName_c _ _ hs).mono ?_); rintro e w' ⟨rfl, rfl⟩)) | (go_at_call 64; ((with_reducible refine (l15Months_c _ _ _ nm c.dy c.lp _ hm (H.out.ext (by repeat (first | with_reducible exact Ext.refl _ | with_reducible assumption | with_reducible refine Ext.alloc ?_ _ | with_reducible refine Ext.drew ?_ | (with_reducible refine Ext.setAt ?_ _ _ _ ?_; rotate_left; omega) | with_reducible refine Ext.trans ?_ (by assumption) | with_reducible exact Past.bel _ | with_reducible refine Ext.trans ?_ (Past.bel _)))).mem.mo HZ.out).mono ?_); rintro e w' ⟨rfl, hx⟩; (first | (obtain ⟨wx, rfl⟩ := Past.again hx) | (obtain ⟨wx, rfl⟩ := Past.ofd hx) | (obtain ⟨wx, rfl⟩ := Past.of hx)))))
        go_ret
        exact ⟨ret_bool (by unfold calB; rw [H1.out, h2, h3]; rfl), (by repeat (first | with_reducible exact Ext.refl _ | with_reducible assumption | with_reducible refine Ext.alloc ?_ _ | with_reducible refine Ext.drew ?_ | (with_reducible refine Ext.setAt ?_ _ _ _ ?_; rotate_left; omega) | with_reducible refine Ext.trans ?_ (by assumption) | with_reducible exact Past.bel _ | with_reducible refine Ext.trans ?_ (Past.bel _)))⟩
      · go_wp2_with (first | (go_at_call 63; ((with_reducible refine (specIsName_c _ _ hs).mono ?_); rintro e w' ⟨rfl, rfl⟩)) | (go_at_call 64; ((with_reducible refine (l15Months_c _ _ _ nm c.dy c.lp _ hm (H.out.ext (by repeat (first | with_reducible exact Ext.refl _ | with_reducible assumption | with_reducible refine Ext.alloc ?_ _ | with_reducible refine Ext.drew ?_ | (with_reducible refine Ext.setAt ?_ _ _ _ ?_; rotate_left; omega) | with_reducible refine Ext.trans ?_ (by assumption) | with_reducible exact Past.bel _ | with_reducible refine Ext.trans ?_ (Past.bel _)))).mem.mo HZ.out).mono ?_); rintro e w' ⟨rfl, hx⟩; (first | (obtain ⟨wx, rfl⟩ := Past.again hx) | (obtain ⟨wx, rfl⟩ := Past.ofd hx) | (obtain ⟨wx, rfl⟩ := Past.of hx)))) | (go_at_call 37; ((with_reducible refine (l00In_c _ _ _ _).mono ?_); rintro e w' ⟨rfl, rfl⟩)))
        go_ret
        exact ⟨ret_bool (by unfold calB; rw [H1.out, h2, h3]; rfl), (by repeat (first | with_reducible exact Ext.refl _ | with_reducible assumption | with_reducible refine Ext.alloc ?_ _ | with_reducible refine Ext.drew ?_ | (with_reducible refine Ext.setAt ?_ _ _ _ ?_; rotate_left; omega) | with_reducible refine Ext.trans ?_ (by assumption) | with_reducible exact Past.bel _ | with_reducible refine Ext.trans ?_ (Past.bel _)))⟩
/-- a calendar laid into a new block -/
theorem CalP.new {w : World} (T : TypeId) (s : ByteArray) (ma ra : Option Addr) (mc rc : Nat) (wk : Int) {nm : Nat → ByteArray} {c : CalN} (h : CalM w ma ra nm c) :
    CalP (w.alloc (.cells #[.string s, .slice ma c.n mc, .slice ra c.nr rc, .int .i64 wk] T)) w.heap.size s ma ra mc rc wk nm c :=
  ⟨by simp, by simp [go_sem], by simp [go_sem], by simp [go_sem], by simp [go_sem], h.ext ((Ext.refl w).alloc _)⟩
end Go.Proofs.YtpohhnihgegmfaaDoor

namespace Go.Proofs.YtpohhnihgegmfaaDoor
open Go.RowKit
set_option linter.unusedVariables false
set_option linter.unusedSimpArgs false

theorem bs_dec (x y : ByteArray) : (x.toList == y.toList) = decide (x = y) := by
  by_cases e : x = y
  · rw [bs_eq e]; simp [e]
  · rw [bs_ne e]; simp [e]
theorem validPred_c (g : Nat) (x y : ByteArray) (a b : Int) (w : World) (hg : g < w.heap.size) (hc : w.cell? ⟨g, 0, none⟩ = some (.string y)) :
    Calls Tryd.prog 45 #[.agg #[.string x, .int .i64 a, .int .i64 b], .pointer (some ⟨g, 0, none⟩)] w fun e w' => e = .returned (.bool (decide (x = y))) ∧ Ext w w' := by
  go_enter Tryd.func45, Tryd.ntmps45
  go_wp2_with fail
  go_ret
  exact ⟨ret_bool (bs_dec x y), (by repeat (first | with_reducible exact Ext.refl _ | with_reducible assumption | with_reducible refine Ext.alloc ?_ _ | with_reducible refine Ext.drew ?_ | (with_reducible refine Ext.setAt ?_ _ _ _ ?_; rotate_left; omega) | with_reducible refine Ext.trans ?_ (by assumption) | with_reducible exact Past.bel _ | with_reducible refine Ext.trans ?_ (Past.bel _)))⟩
set_option maxHeartbeats 1000000 in
theorem idxFunc_c (g : Nat) (a : Option Addr) (n c : Nat) (nm : Nat → ByteArray) (dy lp : Nat → Int) (k : Nat) (w : World) (hn : n ≤ 1048576) (hs : S3 w a n nm dy lp) (hg : g < w.heap.size) (hc : w.cell? ⟨g, 0, none⟩ = some (.string (nm k))) :
    Calls Tryd.prog 67 #[.slice a n c, .func (.func 45) #[] #[.pointer (some ⟨g, 0, none⟩)]] w fun e w' => ∃ r : Int, e = .returned (.int .i64 r) ∧ decide (r ≥ 0) = !frTo nm k n ∧ Ext w w' := by
  have HS := Lib.hid hs
  have HC := Lib.hid hc
  clear hs hc
  go_enter Tryd.func67, Tryd.ntmps67
  go_wp2_with fail
  go_loopw [8] (fun i wr => ∃ j : Nat, j ≤ n ∧ i = .int .i64 j ∧ frTo nm k j = true ∧ Ext w wr) (fun i _ => n - (intOf i).toNat)
  case atStart => exact ⟨0, by omega, rfl, rfl, (by repeat (first | with_reducible exact Ext.refl _ | with_reducible assumption | with_reducible refine Ext.alloc ?_ _ | with_reducible refine Ext.drew ?_ | (with_reducible refine Ext.setAt ?_ _ _ _ ?_; rotate_left; omega) | with_reducible refine Ext.trans ?_ (by assumption) | with_reducible exact Past.bel _ | with_reducible refine Ext.trans ?_ (Past.bel _)))⟩
  case round =>
    obtain ⟨j, hj, rfl, hf, hbl⟩ := hrel
    have HF := Lib.hid hf
    clear hf
    by_cases hlt : j < n
    · obtain ⟨b1, o1, rfl, hb1, q1, q2, q3⟩ := (S3.ext HS.out hbl).at hlt
      have g1 := Nat.lt_of_lt_of_le hg hbl.size
      have c1 := Lib.hid ((hbl.cell hg).trans HC.out)
      cases hd : decide (nm j = nm k)
      · have HD := Lib.hid hd
        clear hd
        go_wp2_with fail
        refine (validPred_c g (nm j) (nm k) (dy j) (lp j) _ g1 c1.out).mono ?_
        rintro e w' ⟨rfl, hx1⟩
        rw [HD.out]
        (first | (obtain ⟨wx1, rfl⟩ := Past.again hx1) | (obtain ⟨wx1, rfl⟩ := Past.of hx1))
        go_wp2_with fail
        exact ⟨⟨j + 1, by omega, by go_num, by simp only [frTo, HF.out, HD.out]; rfl, (by repeat (first | with_reducible exact Ext.refl _ | with_reducible assumption | with_reducible refine Ext.alloc ?_ _ | with_reducible refine Ext.drew ?_ | (with_reducible refine Ext.setAt ?_ _ _ _ ?_; rotate_left; omega) | with_reducible refine Ext.trans ?_ (by assumption) | with_reducible exact Past.bel _ | with_reducible refine Ext.trans ?_ (Past.bel _)))⟩, by simp [intOf]; omega⟩
      · have HD := Lib.hid hd
        clear hd
        go_wp2_with fail
        refine (validPred_c g (nm j) (nm k) (dy j) (lp j) _ g1 c1.out).mono ?_
        rintro e w' ⟨rfl, hx1⟩
        rw [HD.out]
        (first | (obtain ⟨wx1, rfl⟩ := Past.again hx1) | (obtain ⟨wx1, rfl⟩ := Past.of hx1))
        go_wp2_with fail
        go_ret
        exact ⟨_, rfl, by rw [frTo_ff hlt (by simpa using HD.out)]; simp, (by repeat (first | with_reducible exact Ext.refl _ | with_reducible assumption | with_reducible refine Ext.alloc ?_ _ | with_reducible refine Ext.drew ?_ | (with_reducible refine Ext.setAt ?_ _ _ _ ?_; rotate_left; omega) | with_reducible refine Ext.trans ?_ (by assumption) | with_reducible exact Past.bel _ | with_reducible refine Ext.trans ?_ (Past.bel _)))⟩
    · obtain rfl : j = n := by omega
      go_wp2_with fail
      go_ret
      exact ⟨_, rfl, by rw [HF.out]; decide, (by repeat (first | with_reducible exact Ext.refl _ | with_reducible assumption | with_reducible refine Ext.alloc ?_ _ | with_reducible refine Ext.drew ?_ | (with_reducible refine Ext.setAt ?_ _ _ _ ?_; rotate_left; omega) | with_reducible refine Ext.trans ?_ (by assumption) | with_reducible exact Past.bel _ | with_reducible refine Ext.trans ?_ (Past.bel _)))⟩
theorem contFunc_c (g : Nat) (a : Option Addr) (n c : Nat) (nm : Nat → ByteArray) (dy lp : Nat → Int) (k : Nat) (w : World) (hn : n ≤ 1048576) (hs : S3 w a n nm dy lp) (hg : g < w.heap.size) (hc : w.cell? ⟨g, 0, none⟩ = some (.string (nm k))) :
    Calls Tryd.prog 44 #[.slice a n c, .func (.func 45) #[] #[.pointer (some ⟨g, 0, none⟩)]] w fun e w' => e = .returned (.bool (!frTo nm k n)) ∧ Ext w w' := by
  have HC := Lib.hid (idxFunc_c g a n c nm dy lp k w hn hs hg hc)
  clear hs hc
  go_enter Tryd.func44, Tryd.ntmps44
  go_wp2_with fail
  refine HC.out.mono ?_
  rintro e w' ⟨r, rfl, hr, hx1⟩
  (first | (obtain ⟨wx1, rfl⟩ := Past.again hx1) | (obtain ⟨wx1, rfl⟩ := Past.of hx1))
  have HR := Lib.hid hr
  clear hr
  go_wp2_with fail
  go_ret
  refine ⟨ret_bool ?_, (by repeat (first | with_reducible exact Ext.refl _ | with_reducible assumption | with_reducible refine Ext.alloc ?_ _ | with_reducible refine Ext.drew ?_ | (with_reducible refine Ext.setAt ?_ _ _ _ ?_; rotate_left; omega) | with_reducible refine Ext.trans ?_ (by assumption) | with_reducible exact Past.bel _ | with_reducible refine Ext.trans ?_ (Past.bel _)))⟩
  rw [← HR.out]
  try rfl
end Go.Proofs.YtpohhnihgegmfaaDoor

namespace Go.Proofs.YtpohhnihgegmfaaDoor
open Go.RowKit
set_option linter.unusedVariables false
set_option linter.unusedSimpArgs false

theorem S3.take {w : World} {a : Option Addr} {n k : Nat} {nm : Nat → ByteArray} {dy lp : Nat → Int} (s : S3 w a n nm dy lp) (hk : k ≤ n) : S3 w a k nm dy lp := fun h0 => by
  obtain ⟨b, o, ha, hb, hc⟩ := s (by omega)
  exact ⟨b, o, ha, hb, fun i hi => hc i (by omega)⟩
set_option maxHeartbeats 4000000 in
theorem validCalendar_c (s : ByteArray) (ma ra : Option Addr) (mc rc : Nat) (wk : Int) (nm : Nat → ByteArray) (c : CalN) (w : World) (hm : c.n ≤ 1048576) (hr : c.nr ≤ 1048576) (hmc : c.n ≤ mc) (hmx : mc ≤ maxLen) (hs : s.size ≤ 9223372036854775807) (hz : ∀ i, i < c.n → (nm i).size ≤ 9223372036854775807) (h : CalM w ma ra nm c) :
    Calls Tryd.prog 22 #[.agg #[.string s, .slice ma c.n mc, .slice ra c.nr rc, .int .i64 wk]] w fun e w' => e = .returned (.bool (calB s nm c wk)) ∧ Ext w w' := by
  have HP := Lib.hid (CalP.new 31 s ma ra mc rc wk h)
  have HZ := Lib.hid hz
  unfold maxLen at hmx
  clear h hz
  cases h1 : isNm s
  · go_enter Tryd.func22, Tryd.ntmps22
    go_wp2_with (first | (go_at_call 42; ((with_reducible refine (implIsName_c _ _ hs).mono ?_); rintro e w' ⟨rfl, hx⟩; (first | (obtain ⟨wx, rfl⟩ := Past.again hx) | (obtain ⟨wx, rfl⟩ := Past.ofd hx) | (obtain ⟨wx, rfl⟩ := Past.of hx)))))
    go_ret
    exact ⟨ret_bool (calB_1 h1).symm, (by repeat (first | with_reducible exact Ext.refl _ | with_reducible assumption | with_reducible refine Ext.alloc ?_ _ | with_reducible refine Ext.drew ?_ | (with_reducible refine Ext.setAt ?_ _ _ _ ?_; rotate_left; omega) | with_reducible refine Ext.trans ?_ (by assumption) | with_reducible exact Past.bel _ | with_reducible refine Ext.trans ?_ (Past.bel _)))⟩
  · cases h2 : inB (c.n : Int) 1 20
    · have h2' := inB_f.1 h2
      have H2 := Lib.hid h2
      clear h2
      by_cases x1 : (c.n : Int) < 1
      · go_enter Tryd.func22, Tryd.ntmps22
        go_wp2_with (first | (go_at_call 42; ((with_reducible refine (implIsName_c _ _ hs).mono ?_); rintro e w' ⟨rfl, hx⟩; (first | (obtain ⟨wx, rfl⟩ := Past.again hx) | (obtain ⟨wx, rfl⟩ := Past.ofd hx) | (obtain ⟨wx, rfl⟩ := Past.of hx)))))
        go_ret
        exact ⟨ret_bool (calB_2 H2.out).symm, (by repeat (first | with_reducible exact Ext.refl _ | with_reducible assumption | with_reducible refine Ext.alloc ?_ _ | with_reducible refine Ext.drew ?_ | (with_reducible refine Ext.setAt ?_ _ _ _ ?_; rotate_left; omega) | with_reducible refine Ext.trans ?_ (by assumption) | with_reducible exact Past.bel _ | with_reducible refine Ext.trans ?_ (Past.bel _)))⟩
      · have x2 : (20 : Int) < c.n := by omega
        clear h2'
        go_enter Tryd.func22, Tryd.ntmps22
        go_wp2_with (first | (go_at_call 42; ((with_reducible refine (implIsName_c _ _ hs).mono ?_); rintro e w' ⟨rfl, hx⟩; (first | (obtain ⟨wx, rfl⟩ := Past.again hx) | (obtain ⟨wx, rfl⟩ := Past.ofd hx) | (obtain ⟨wx, rfl⟩ := Past.of hx)))))
        go_ret
        exact ⟨ret_bool (calB_2 H2.out).symm, (by repeat (first | with_reducible exact Ext.refl _ | with_reducible assumption | with_reducible refine Ext.alloc ?_ _ | with_reducible refine Ext.drew ?_ | (with_reducible refine Ext.setAt ?_ _ _ _ ?_; rotate_left; omega) | with_reducible refine Ext.trans ?_ (by assumption) | with_reducible exact Past.bel _ | with_reducible refine Ext.trans ?_ (Past.bel _)))⟩
    · obtain ⟨y1, y2⟩ := inB_t.1 h2
      have H2 := Lib.hid h2
      clear h2
      have x1 : ¬ (c.n : Int) < 1 := by omega
      have x2 : ¬ (20 : Int) < c.n := by omega
      by_cases h3 : 6 < c.nr
      · have x3 : (6 : Int) < c.nr := by omega
        go_enter Tryd.func22, Tryd.ntmps22
        go_wp2_with (first | (go_at_call 42; ((with_reducible refine (implIsName_c _ _ hs).mono ?_); rintro e w' ⟨rfl, hx⟩; (first | (obtain ⟨wx, rfl⟩ := Past.again hx) | (obtain ⟨wx, rfl⟩ := Past.ofd hx) | (obtain ⟨wx, rfl⟩ := Past.of hx)))))
        go_ret
        exact ⟨ret_bool (calB_3 h3).symm, (by repeat (first | with_reducible exact Ext.refl _ | with_reducible assumption | with_reducible refine Ext.alloc ?_ _ | with_reducible refine Ext.drew ?_ | (with_reducible refine Ext.setAt ?_ _ _ _ ?_; rotate_left; omega) | with_reducible refine Ext.trans ?_ (by assumption) | with_reducible exact Past.bel _ | with_reducible refine Ext.trans ?_ (Past.bel _)))⟩
      · have x3 : ¬ (6 : Int) < c.nr := by omega
        cases h4 : inB wk 1 12
        · go_enter Tryd.func22, Tryd.ntmps22
          go_wp2_with (first | (go_at_call 42; ((with_reducible refine (implIsName_c _ _ hs).mono ?_); rintro e w' ⟨rfl, hx⟩; (first | (obtain ⟨wx, rfl⟩ := Past.again hx) | (obtain ⟨wx, rfl⟩ := Past.ofd hx) | (obtain ⟨wx, rfl⟩ := Past.of hx)))) | (go_at_call 43; ((with_reducible refine (within_c _ _ _ _).mono ?_); rintro e w' ⟨rfl, rfl⟩)))
          go_ret
          exact ⟨ret_bool (calB_4 h4).symm, (by repeat (first | with_reducible exact Ext.refl _ | with_reducible assumption | with_reducible refine Ext.alloc ?_ _ | with_reducible refine Ext.drew ?_ | (with_reducible refine Ext.setAt ?_ _ _ _ ?_; rotate_left; omega) | with_reducible refine Ext.trans ?_ (by assumption) | with_reducible exact Past.bel _ | with_reducible refine Ext.trans ?_ (Past.bel _)))⟩
        · go_enter Tryd.func22, Tryd.ntmps22
          go_wp2_with (first | (go_at_call 42; ((with_reducible refine (implIsName_c _ _ hs).mono ?_); rintro e w' ⟨rfl, hx⟩; (first | (obtain ⟨wx, rfl⟩ := Past.again hx) | (obtain ⟨wx, rfl⟩ := Past.ofd hx) | (obtain ⟨wx, rfl⟩ := Past.of hx)))) | (go_at_call 43; ((with_reducible refine (within_c _ _ _ _).mono ?_); rintro e w' ⟨rfl, rfl⟩)))
          have H1 := Lib.hid h1; have H4 := Lib.hid h4
          clear h1 h4
          go_loopw [38] (fun i wr => ∃ j : Nat, j ≤ c.n ∧ i = .int .i64 j ∧ monTo nm c.dy c.lp j = true ∧ Ext (w.alloc (.cells #[.string s, .slice ma c.n mc, .slice ra c.nr rc, .int .i64 wk] 31)) wr) (fun i _ => c.n - (intOf i).toNat)
          case atStart => exact ⟨0, by omega, rfl, rfl, (by repeat (first | with_reducible exact Ext.refl _ | with_reducible assumption | with_reducible refine Ext.alloc ?_ _ | with_reducible refine Ext.drew ?_ | (with_reducible refine Ext.setAt ?_ _ _ _ ?_; rotate_left; omega) | with_reducible refine Ext.trans ?_ (by assumption) | with_reducible exact Past.bel _ | with_reducible refine Ext.trans ?_ (Past.bel _)))⟩
          case round =>
            obtain ⟨j, hj, rfl, hmt, hbl⟩ := hrel
            have HM := Lib.hid hmt
            have hp := HP.out.ext hbl
            have HP2 := Lib.hid hp
            have g0 := hp.lt
            have p1 := hp.c1
            have p2 := hp.c2
            have hb0 : Ext w wr := Ext.trans (Ext.alloc (Ext.refl w) _) hbl
            clear hmt
            by_cases hlt : j < c.n
            · obtain ⟨b1, o1, rfl, hb1, q1, q2, q3⟩ := hp.mem.mo.at hlt
              have zj := HZ.out j hlt
              clear hp
              have x4 : (j : Int) ≤ (mc : Int) := by omega
              cases k1 : isNm (nm j)
              · go_wp2_with (first | (go_at_call 42; ((with_reducible refine (implIsName_c _ _ zj).mono ?_); rintro e w' ⟨rfl, hx⟩; (first | (obtain ⟨wx, rfl⟩ := Past.again hx) | (obtain ⟨wx, rfl⟩ := Past.ofd hx) | (obtain ⟨wx, rfl⟩ := Past.of hx)))))
                go_ret
                exact ⟨ret_bool (calB_5 hlt (monA_1 k1)).symm, (by repeat (first | with_reducible exact Ext.refl _ | with_reducible assumption | with_reducible refine Ext.alloc ?_ _ | with_reducible refine Ext.drew ?_ | (with_reducible refine Ext.setAt ?_ _ _ _ ?_; rotate_left; omega) | with_reducible refine Ext.trans ?_ (by assumption) | with_reducible exact Past.bel _ | with_reducible refine Ext.trans ?_ (Past.bel _)))⟩
              · cases k2 : inB (c.dy j) 1 60
                · go_wp2_with (first | (go_at_call 42; ((with_reducible refine (implIsName_c _ _ zj).mono ?_); rintro e w' ⟨rfl, hx⟩; (first | (obtain ⟨wx, rfl⟩ := Past.again hx) | (obtain ⟨wx, rfl⟩ := Past.ofd hx) | (obtain ⟨wx, rfl⟩ := Past.of hx)))) | (go_at_call 43; ((with_reducible refine (within_c _ _ _ _).mono ?_); rintro e w' ⟨rfl, rfl⟩)))
                  go_ret
                  exact ⟨ret_bool (calB_5 hlt (monA_2 k2)).symm, (by repeat (first | with_reducible exact Ext.refl _ | with_reducible assumption | with_reducible refine Ext.alloc ?_ _ | with_reducible refine Ext.drew ?_ | (with_reducible refine Ext.setAt ?_ _ _ _ ?_; rotate_left; omega) | with_reducible refine Ext.trans ?_ (by assumption) | with_reducible exact Past.bel _ | with_reducible refine Ext.trans ?_ (Past.bel _)))⟩
                · cases k3 : inB (c.lp j) 1 60
                  · go_wp2_with (first | (go_at_call 42; ((with_reducible refine (implIsName_c _ _ zj).mono ?_); rintro e w' ⟨rfl, hx⟩; (first | (obtain ⟨wx, rfl⟩ := Past.again hx) | (obtain ⟨wx, rfl⟩ := Past.ofd hx) | (obtain ⟨wx, rfl⟩ := Past.of hx)))) | (go_at_call 43; ((with_reducible refine (within_c _ _ _ _).mono ?_); rintro e w' ⟨rfl, rfl⟩)))
                    go_ret
                    exact ⟨ret_bool (calB_5 hlt (monA_3 k3)).symm, (by repeat (first | with_reducible exact Ext.refl _ | with_reducible assumption | with_reducible refine Ext.alloc ?_ _ | with_reducible refine Ext.drew ?_ | (with_reducible refine Ext.setAt ?_ _ _ _ ?_; rotate_left; omega) | with_reducible refine Ext.trans ?_ (by assumption) | with_reducible exact Past.bel _ | with_reducible refine Ext.trans ?_ (Past.bel _)))⟩
                  · cases k4 : frTo nm j j
                    · go_wp2_with (first | (go_at_call 42; ((with_reducible refine (implIsName_c _ _ zj).mono ?_); rintro e w' ⟨rfl, hx⟩; (first | (obtain ⟨wx, rfl⟩ := Past.again hx) | (obtain ⟨wx, rfl⟩ := Past.ofd hx) | (obtain ⟨wx, rfl⟩ := Past.of hx)))) | (go_at_call 43; ((with_reducible refine (within_c _ _ _ _).mono ?_); rintro e w' ⟨rfl, rfl⟩)))
                      refine (contFunc_c _ _ _ _ nm c.dy c.lp j _ (by omega) (S3.take (HP2.out.mem.mo.ext (by repeat (first | with_reducible exact Ext.refl _ | with_reducible assumption | with_reducible refine Ext.alloc ?_ _ | with_reducible refine Ext.drew ?_ | (with_reducible refine Ext.setAt ?_ _ _ _ ?_; rotate_left; omega) | with_reducible refine Ext.trans ?_ (by assumption) | with_reducible exact Past.bel _ | with_reducible refine Ext.trans ?_ (Past.bel _)))) (by omega)) (by simp [go_sem]) (by simp [go_sem])).mono ?_
                      rintro e w' ⟨rfl, hx1⟩
                      (first | (obtain ⟨wx1, rfl⟩ := Past.again hx1) | (obtain ⟨wx1, rfl⟩ := Past.of hx1))
                      go_wp2_with fail
                      go_ret
                      exact ⟨ret_bool (calB_5 hlt (monA_4 k4)).symm, (by repeat (first | with_reducible exact Ext.refl _ | with_reducible assumption | with_reducible refine Ext.alloc ?_ _ | with_reducible refine Ext.drew ?_ | (with_reducible refine Ext.setAt ?_ _ _ _ ?_; rotate_left; omega) | with_reducible refine Ext.trans ?_ (by assumption) | with_reducible exact Past.bel _ | with_reducible refine Ext.trans ?_ (Past.bel _)))⟩
                    · go_wp2_with (first | (go_at_call 42; ((with_reducible refine (implIsName_c _ _ zj).mono ?_); rintro e w' ⟨rfl, hx⟩; (first | (obtain ⟨wx, rfl⟩ := Past.again hx) | (obtain ⟨wx, rfl⟩ := Past.ofd hx) | (obtain ⟨wx, rfl⟩ := Past.of hx)))) | (go_at_call 43; ((with_reducible refine (within_c _ _ _ _).mono ?_); rintro e w' ⟨rfl, rfl⟩)))
                      refine (contFunc_c _ _ _ _ nm c.dy c.lp j _ (by omega) (S3.take (HP2.out.mem.mo.ext (by repeat (first | with_reducible exact Ext.refl _ | with_reducible assumption | with_reducible refine Ext.alloc ?_ _ | with_reducible refine Ext.drew ?_ | (with_reducible refine Ext.setAt ?_ _ _ _ ?_; rotate_left; omega) | with_reducible refine Ext.trans ?_ (by assumption) | with_reducible exact Past.bel _ | with_reducible refine Ext.trans ?_ (Past.bel _)))) (by omega)) (by simp [go_sem]) (by simp [go_sem])).mono ?_
                      rintro e w' ⟨rfl, hx1⟩
                      (first | (obtain ⟨wx1, rfl⟩ := Past.again hx1) | (obtain ⟨wx1, rfl⟩ := Past.of hx1))
                      have HA := Lib.hid (monA_t k1 k2 k3 k4)
                      go_wp2_with fail
                      exact ⟨⟨j + 1, by omega, by go_num, by simp only [monTo, HM.out, HA.out]; rfl, (by repeat (first | with_reducible exact Ext.refl _ | with_reducible assumption | with_reducible refine Ext.alloc ?_ _ | with_reducible refine Ext.drew ?_ | (with_reducible refine Ext.setAt ?_ _ _ _ ?_; rotate_left; omega) | with_reducible refine Ext.trans ?_ (by assumption) | with_reducible exact Past.bel _ | with_reducible refine Ext.trans ?_ (Past.bel _)))⟩, by simp [intOf]; omega⟩
            · obtain rfl : j = c.n := by omega
              clear hp
              go_wp2_with fail
              have HBL := Lib.hid hb0
              have HPB := Lib.hid (HP.out.ext hbl)
              clear hb0 HP2 p1 p2
              go_loopw [69] (fun i ws => ∃ j : Nat, j ≤ c.nr ∧ i = .int .i64 j ∧ rulTo c.ev c.rs j = true ∧ Ext wr ws) (fun i _ => c.nr - (intOf i).toNat)
              case atStart => exact ⟨0, by omega, rfl, rfl, (by repeat (first | with_reducible exact Ext.refl _ | with_reducible assumption | with_reducible refine Ext.alloc ?_ _ | with_reducible refine Ext.drew ?_ | (with_reducible refine Ext.setAt ?_ _ _ _ ?_; rotate_left; omega) | with_reducible refine Ext.trans ?_ (by assumption) | with_reducible exact Past.bel _ | with_reducible refine Ext.trans ?_ (Past.bel _)))⟩
              case round =>
                obtain ⟨j, hj2, rfl, hrt, hbl2⟩ := hrel
                have HR := Lib.hid hrt
                have hp := HPB.out.ext hbl2
                have HP2 := Lib.hid hp
                have g1 := hp.lt
                have p2 := hp.c2
                have hb0 := Ext.trans HBL.out hbl2
                clear hrt
                by_cases hlt : j < c.nr
                · obtain ⟨b1, o1, rfl, hb1, q1, q2, q3⟩ := hp.mem.ru.at hlt
                  clear hp
                  cases k1 : inB (c.ev j) 1 1000
                  · go_wp2_with (first | (go_at_call 43; ((with_reducible refine (within_c _ _ _ _).mono ?_); rintro e w' ⟨rfl, rfl⟩)))
                    go_ret
                    exact ⟨ret_bool (calB_6 hlt (by rw [k1]; rfl)).symm, (by repeat (first | with_reducible exact Ext.refl _ | with_reducible assumption | with_reducible refine Ext.alloc ?_ _ | with_reducible refine Ext.drew ?_ | (with_reducible refine Ext.setAt ?_ _ _ _ ?_; rotate_left; omega) | with_reducible refine Ext.trans ?_ (by assumption) | with_reducible exact Past.bel _ | with_reducible refine Ext.trans ?_ (Past.bel _)))⟩
                  · have k1' := inB_t.1 k1
                    cases k2 : inB (c.rs j) 0 (c.ev j - 1)
                    · go_wp2_with (first | (go_at_call 43; ((with_reducible refine (within_c _ _ _ _).mono ?_); rintro e w' ⟨rfl, rfl⟩)))
                      go_ret
                      exact ⟨ret_bool (calB_6 hlt (by rw [k1, k2]; rfl)).symm, (by repeat (first | with_reducible exact Ext.refl _ | with_reducible assumption | with_reducible refine Ext.alloc ?_ _ | with_reducible refine Ext.drew ?_ | (with_reducible refine Ext.setAt ?_ _ _ _ ?_; rotate_left; omega) | with_reducible refine Ext.trans ?_ (by assumption) | with_reducible exact Past.bel _ | with_reducible refine Ext.trans ?_ (Past.bel _)))⟩
                    · go_wp2_with (first | (go_at_call 43; ((with_reducible refine (within_c _ _ _ _).mono ?_); rintro e w' ⟨rfl, rfl⟩)))
                      exact ⟨⟨j + 1, by omega, by go_num, by simp only [rulTo, HR.out, k1, k2]; rfl, (by repeat (first | with_reducible exact Ext.refl _ | with_reducible assumption | with_reducible refine Ext.alloc ?_ _ | with_reducible refine Ext.drew ?_ | (with_reducible refine Ext.setAt ?_ _ _ _ ?_; rotate_left; omega) | with_reducible refine Ext.trans ?_ (by assumption) | with_reducible exact Past.bel _ | with_reducible refine Ext.trans ?_ (Past.bel _)))⟩, by simp [intOf]; omega⟩
                · obtain rfl : j = c.nr := by omega
                  clear hp
                  have HE := Lib.hid (fun i (hi : i < c.nr) => (rulTo_at HR.out hi).1)
                  have HV := Lib.hid (calB_7 (s := s) (nm := nm) (c := c) (wk := wk) H1.out H2.out (by omega) H4.out HM.out HR.out)
                  go_wp2_with (first | (go_at_call 46; ((with_reducible refine (cycleYears_c _ _ _ c.ev c.rs c.lf _ hr (HP2.out.mem.ru.ext (by repeat (first | with_reducible exact Ext.refl _ | with_reducible assumption | with_reducible refine Ext.alloc ?_ _ | with_reducible refine Ext.drew ?_ | (with_reducible refine Ext.setAt ?_ _ _ _ ?_; rotate_left; omega) | with_reducible refine Ext.trans ?_ (by assumption) | with_reducible exact Past.bel _ | with_reducible refine Ext.trans ?_ (Past.bel _)))) HE.out).mono ?_); rintro e w' ⟨rfl, hx⟩; (first | (obtain ⟨wx, rfl⟩ := Past.again hx) | (obtain ⟨wx, rfl⟩ := Past.ofd hx) | (obtain ⟨wx, rfl⟩ := Past.of hx)))))
                  go_ret
                  exact ⟨ret_bool HV.out.symm, (by repeat (first | with_reducible exact Ext.refl _ | with_reducible assumption | with_reducible refine Ext.alloc ?_ _ | with_reducible refine Ext.drew ?_ | (with_reducible refine Ext.setAt ?_ _ _ _ ?_; rotate_left; omega) | with_reducible refine Ext.trans ?_ (by assumption) | with_reducible exact Past.bel _ | with_reducible refine Ext.trans ?_ (Past.bel _)))⟩
end Go.Proofs.YtpohhnihgegmfaaDoor

namespace Go.Proofs.YtpohhnihgegmfaaDoor
open Go.RowKit
set_option linter.unusedVariables false
set_option linter.unusedSimpArgs false

/-- a calendar handed on by value -/
structure CalV (w : World) (s : ByteArray) (ma ra : Option Addr) (mc rc : Nat) (nm : Nat → ByteArray) (c : CalN) : Prop where
  nb : c.n ≤ 1048576
  rb : c.nr ≤ 1048576
  mb : c.n ≤ mc
  mx : mc ≤ maxLen
  sz : s.size ≤ 9223372036854775807
  nz : ∀ i, i < c.n → (nm i).size ≤ 9223372036854775807
  mem : CalM w ma ra nm c
theorem CalV.ext {w w' : World} {s : ByteArray} {ma ra : Option Addr} {mc rc : Nat} {nm : Nat → ByteArray} {c : CalN} (h : CalV w s ma ra mc rc nm c) (e : Ext w w') : CalV w' s ma ra mc rc nm c := { h with mem := h.mem.ext e }
/-- a calendar behind a pointer, with its bounds -/
structure CalQ (w : World) (g : Nat) (s : ByteArray) (ma ra : Option Addr) (mc rc : Nat) (wk : Int) (nm : Nat → ByteArray) (c : CalN) : Prop where
  nb : c.n ≤ 1048576
  rb : c.nr ≤ 1048576
  sz : s.size ≤ 9223372036854775807
  nz : ∀ i, i < c.n → (nm i).size ≤ 9223372036854775807
  p : CalP w g s ma ra mc rc wk nm c
theorem CalQ.ext {w w' : World} {g : Nat} {s : ByteArray} {ma ra : Option Addr} {mc rc : Nat} {wk : Int} {nm : Nat → ByteArray} {c : CalN} (h : CalQ w g s ma ra mc rc wk nm c) (e : Ext w w') : CalQ w' g s ma ra mc rc wk nm c := { h with p := h.p.ext e }
theorem CalQ.new {w : World} (T : TypeId) {s : ByteArray} {ma ra : Option Addr} {mc rc : Nat} (wk : Int) {nm : Nat → ByteArray} {c : CalN} (h : CalV w s ma ra mc rc nm c) :
    CalQ (w.alloc (.cells #[.string s, .slice ma c.n mc, .slice ra c.nr rc, .int .i64 wk] T)) w.heap.size s ma ra mc rc wk nm c :=
  ⟨h.nb, h.rb, h.sz, h.nz, CalP.new T s ma ra mc rc wk h.mem⟩
theorem validCalendar_v {s : ByteArray} {ma ra : Option Addr} {mc rc : Nat} (wk : Int) {nm : Nat → ByteArray} {c : CalN} {w : World} (h : CalV w s ma ra mc rc nm c) :
    Calls Tryd.prog 22 #[.agg #[.string s, .slice ma c.n mc, .slice ra c.nr rc, .int .i64 wk]] w fun e w' => e = .returned (.bool (calB s nm c wk)) ∧ Ext w w' :=
  validCalendar_c _ _ _ _ _ _ _ _ _ h.nb h.rb h.mb h.mx h.sz h.nz h.mem
theorem l15Ok_q {g : Nat} {s : ByteArray} {ma ra : Option Addr} {mc rc : Nat} {wk : Int} {nm : Nat → ByteArray} {c : CalN} {w : World} (h : CalQ w g s ma ra mc rc wk nm c) :
    Calls Tryd.prog 39 #[.pointer (some ⟨g, 0, none⟩)] w fun e w' => e = .returned (.bool (calB s nm c wk)) ∧ Ext w w' :=
  l15Ok_c _ _ _ _ _ _ _ _ _ _ h.nb h.rb h.sz h.nz h.p
theorem isYear_c (y : Int) (w : World) : Calls Tryd.prog 36 #[.int .i64 y] w fun e w' => e = .returned (.bool (inB y 0 9999)) ∧ w = w' := by
  go_enter Tryd.func36, Tryd.ntmps36
  go_wp2_with (go_at_call 43; ((with_reducible refine (within_c _ _ _ _).mono ?_); rintro e w' ⟨rfl, rfl⟩))
  go_ret
  exact ⟨rfl, rfl⟩
theorem l15Year_c (y : Int) (w : World) : Calls Tryd.prog 54 #[.int .i64 y] w fun e w' => e = .returned (.bool (inB y 0 9999)) ∧ w = w' := by
  go_enter Tryd.func54, Tryd.ntmps54
  go_wp2_with (go_at_call 37; ((with_reducible refine (l00In_c _ _ _ _).mono ?_); rintro e w' ⟨rfl, rfl⟩))
  go_ret
  exact ⟨rfl, rfl⟩
/-- what IsLeapYear returns -/
def leapR (s : ByteArray) (nm : Nat → ByteArray) (c : CalN) (wk y : Int) : Bool := calB s nm c wk && (inB y 0 9999 && c.leap y)
end Go.Proofs.YtpohhnihgegmfaaDoor

namespace Go.Proofs.YtpohhnihgegmfaaDoor
open Go.RowKit
set_option linter.unusedVariables false
set_option linter.unusedSimpArgs false

def yn (b : Bool) : List UInt8 := if b then [121, 101, 115] else [110, 111]
def hdL (s : ByteArray) (wk : Int) : List UInt8 := [99, 97, 108, 101, 110, 100, 97, 114, 32] ++ s.data.toList ++ [32] ++ Lib.itoa wk ++ [10]
def moL (nm : Nat → ByteArray) (c : CalN) (j : Nat) : List UInt8 := [109, 111, 110, 116, 104, 32] ++ (nm j).data.toList ++ [32] ++ Lib.itoa (c.dy j) ++ [32] ++ Lib.itoa (c.lp j) ++ [10]
def ruL (c : CalN) (j : Nat) : List UInt8 := [108, 101, 97, 112, 32] ++ Lib.itoa (c.ev j) ++ [32] ++ Lib.itoa (c.rs j) ++ [32] ++ yn (c.lf j) ++ [10]
/-- the lines up to month k -/
def ttM (s : ByteArray) (nm : Nat → ByteArray) (c : CalN) (wk : Int) : Nat → List UInt8
  | 0 => hdL s wk
  | k + 1 => ttM s nm c wk k ++ moL nm c k
/-- the lines up to rule k -/
def ttR (s : ByteArray) (nm : Nat → ByteArray) (c : CalN) (wk : Int) : Nat → List UInt8
  | 0 => ttM s nm c wk c.n
  | k + 1 => ttR s nm c wk k ++ ruL c k
def calL (s : ByteArray) (nm : Nat → ByteArray) (c : CalN) (wk : Int) : List UInt8 := ttR s nm c wk c.nr
/-- a calendar's text -/
def calTx (s : ByteArray) (nm : Nat → ByteArray) (c : CalN) (wk : Int) : List UInt8 := if calB s nm c wk then calL s nm c wk else []
/-- what its text leans on -/
structure TxB (s : ByteArray) (nm : Nat → ByteArray) (c : CalN) (wk : Int) : Prop where
  sz : s.size ≤ 12
  nz : ∀ j, j < c.n → (nm j).size ≤ 12
  wk : B64 wk
  dy : ∀ j, j < c.n → B64 (c.dy j)
  lp : ∀ j, j < c.n → B64 (c.lp j)
  ev : ∀ j, j < c.nr → B64 (c.ev j)
  rs : ∀ j, j < c.nr → B64 (c.rs j)
  n20 : c.n ≤ 20
  nr6 : c.nr ≤ 6
theorem isNm_le {s : ByteArray} (h : isNm s = true) : s.size ≤ 12 := by
  simp only [isNm, Bool.and_eq_true, decide_eq_true_eq] at h; exact h.1.2
theorem txB_of {s : ByteArray} {nm : Nat → ByteArray} {c : CalN} {wk : Int} (h : calB s nm c wk = true) : TxB s nm c wk := by
  have b := calB_b h
  simp only [calB, monB, rulB, Bool.and_eq_true, decide_eq_true_eq, inB_t] at h
  obtain ⟨_, h4, ⟨h5, _⟩, h7⟩ := h
  refine ⟨isNm_le h4, fun j hj => ?_, ⟨by omega, by omega⟩, fun j hj => ?_, fun j hj => ?_, fun j hj => ?_, fun j hj => ?_, b.n20, b.nr6⟩
  · have := monTo_at h5 hj
    simp only [monA, Bool.and_eq_true] at this
    exact isNm_le this.1
  · have := b.dy j hj; exact ⟨by omega, by omega⟩
  · have := b.lp j hj; exact ⟨by omega, by omega⟩
  · have := b.ev j hj; exact ⟨by omega, by omega⟩
  · have := b.rs j hj; have := b.ev j hj; exact ⟨by omega, by omega⟩
section
variable {s : ByteArray} {nm : Nat → ByteArray} {c : CalN} {wk : Int}
theorem ba_len (s : ByteArray) : s.data.toList.length = s.size := Array.length_toList
theorem hdL_len (h : TxB s nm c wk) : (hdL s wk).length ≤ 60 := by
  have h1 := itoa_len wk h.wk.lo h.wk.hi
  have h2 := h.sz
  have h3 := ba_len s
  simp only [hdL, List.length_append, List.length_cons, List.length_nil]; omega
theorem moL_len (h : TxB s nm c wk) {j : Nat} (hj : j < c.n) : (moL nm c j).length ≤ 80 := by
  have h1 := itoa_len _ (h.dy j hj).lo (h.dy j hj).hi
  have h4 := itoa_len _ (h.lp j hj).lo (h.lp j hj).hi
  have h2 := h.nz j hj
  have h3 := ba_len (nm j)
  simp only [moL, List.length_append, List.length_cons, List.length_nil]; omega
theorem yn_len (b : Bool) : (yn b).length ≤ 3 := by cases b <;> decide
theorem ruL_len (h : TxB s nm c wk) {j : Nat} (hj : j < c.nr) : (ruL c j).length ≤ 80 := by
  have h1 := itoa_len _ (h.ev j hj).lo (h.ev j hj).hi
  have h4 := itoa_len _ (h.rs j hj).lo (h.rs j hj).hi
  have h5 := yn_len (c.lf j)
  simp only [ruL, List.length_append, List.length_cons, List.length_nil]; omega
theorem ttM_len (h : TxB s nm c wk) : ∀ {j : Nat}, j ≤ c.n → (ttM s nm c wk j).length ≤ 60 + 80 * j
  | 0, _ => hdL_len h
  | j + 1, hj => by
    have h1 := ttM_len h (j := j) (by omega)
    have h2 := moL_len h (j := j) (by omega)
    rw [ttM, List.length_append]; omega
theorem ttR_len (h : TxB s nm c wk) : ∀ {j : Nat}, j ≤ c.nr → (ttR s nm c wk j).length ≤ 1660 + 80 * j
  | 0, _ => by have := ttM_len h (j := c.n) (Nat.le_refl _); have := h.n20; rw [ttR]; omega
  | j + 1, hj => by
    have h1 := ttR_len h (j := j) (by omega)
    have h2 := ruL_len h (j := j) (by omega)
    rw [ttR, List.length_append]; omega
end
theorem tx_eq {a : ByteArray} {l : List UInt8} (h : a.data.toList = l) : Value.string a = .string ⟨l.toArray⟩ := by
  congr 1; apply ByteArray.ext; rw [← h]
end Go.Proofs.YtpohhnihgegmfaaDoor

namespace Go.Proofs.YtpohhnihgegmfaaDoor
open Go.RowKit
set_option linter.unusedVariables false
set_option linter.unusedSimpArgs false

abbrev Mo := ByteArray × Int × Int
abbrev Ru := Int × Int × Bool
/-- months, cell by cell -/
def MT (l : List Mo) : List Value := l.flatMap fun q => [.string q.1, .int .i64 q.2.1, .int .i64 q.2.2]
/-- rules, cell by cell -/
def RT (l : List Ru) : List Value := l.flatMap fun q => [.int .i64 q.1, .int .i64 q.2.1, .bool q.2.2]
theorem MT_app (l r : List Mo) : MT (l ++ r) = MT l ++ MT r := by simp [MT]
theorem RT_app (l r : List Ru) : RT (l ++ r) = RT l ++ RT r := by simp [RT]
theorem MT_len (l : List Mo) : (MT l).length = l.length * 3 := by
  induction l with
  | nil => rfl
  | cons q l ih => have e : MT (q :: l) = [.string q.1, .int .i64 q.2.1, .int .i64 q.2.2] ++ MT l := rfl
                   rw [e, List.length_append, ih]; simp; omega
theorem RT_len (l : List Ru) : (RT l).length = l.length * 3 := by
  induction l with
  | nil => rfl
  | cons q l ih => have e : RT (q :: l) = [.int .i64 q.1, .int .i64 q.2.1, .bool q.2.2] ++ RT l := rfl
                   rw [e, List.length_append, ih]; simp; omega
theorem flat3_at {α : Type} (A B C : α → Value) : ∀ (l : List α) (j : Nat) (q : α), l[j]? = some q →
    (l.flatMap fun q => [A q, B q, C q])[j * 3]? = some (A q) ∧ (l.flatMap fun q => [A q, B q, C q])[j * 3 + 1]? = some (B q) ∧ (l.flatMap fun q => [A q, B q, C q])[j * 3 + 2]? = some (C q)
  | [], j, q, h => by simp at h
  | x :: l, 0, q, h => by
    obtain rfl : x = q := by simpa using h
    exact ⟨rfl, rfl, rfl⟩
  | x :: l, j + 1, q, h => by
    have ih := flat3_at A B C l j q (by simpa using h)
    have e1 : (j + 1) * 3 = 3 + j * 3 := by omega
    rw [List.flatMap_cons, e1, Nat.add_assoc, Nat.add_assoc]
    have e : ∀ i, ([A x, B x, C x] ++ l.flatMap fun q => [A q, B q, C q])[3 + i]? = (l.flatMap fun q => [A q, B q, C q])[i]? := fun i => by
      rw [List.getElem?_append_right (by simp)]; simp
    rw [e, e, e]; exact ih
/-- the calendar that months and rules make -/
def calOf (M : List Mo) (R : List Ru) : CalN := ⟨R.length, fun i => (R.getD i (0, 0, false)).1, fun i => (R.getD i (0, 0, false)).2.1, fun i => (R.getD i (0, 0, false)).2.2, M.length, fun i => (M.getD i (⟨#[]⟩, 0, 0)).2.1, fun i => (M.getD i (⟨#[]⟩, 0, 0)).2.2⟩
def nmOf (M : List Mo) : Nat → ByteArray := fun i => (M.getD i (⟨#[]⟩, 0, 0)).1
section
variable {w w' : World} {base : Nat} {e : TypeId} {size : Nat} {v : Value} {n : Nat} {xs : List Value}
theorem own_atK {a : Option Addr} {cap : Nat} (h : w.ownsRow base e size (.slice a n cap) n xs) (hn : 0 < n) :
    ∃ g, a = some ⟨g, 0, none⟩ ∧ base ≤ g ∧ g < w.heap.size ∧ ∀ j, j < n * size → w.cell? ⟨g, j, none⟩ = xs[j]? ∧ w.frozen? ⟨g, j, none⟩ = false := by
  rcases h.2 with ⟨h1, h2⟩ | ⟨g, cap', cur, h1, hb, hg, h2, h3, h4, h5⟩
  · omega
  · simp only [Value.slice.injEq, true_and] at h1
    obtain ⟨rfl, rfl⟩ := h1
    exact ⟨g, rfl, hb, (Array.getElem?_eq_some_iff.1 hg).1, fun j hj => ⟨h.cellAt j (by omega), h.frozenAt j⟩⟩
theorem own_s3 {a : Option Addr} {cap : Nat} {M : List Mo} (h : w.ownsRow base e 3 (.slice a n cap) n (MT M)) : S3 w a n (nmOf M) (calOf M []).dy (calOf M []).lp := fun hn => by
  obtain ⟨g, rfl, _, hg, hc⟩ := own_atK h hn
  have hl : M.length = n := by have := h.1; rw [MT_len] at this; omega
  refine ⟨g, 0, rfl, hg, fun j hj => ?_⟩
  have hq : M[j]? = some (M.getD j (⟨#[]⟩, 0, 0)) := by rw [List.getD_eq_getElem?_getD, List.getElem?_eq_getElem (by omega)]; rfl
  obtain ⟨q1, q2, q3⟩ := flat3_at (fun q : Mo => Value.string q.1) (fun q => .int .i64 q.2.1) (fun q => .int .i64 q.2.2) M j _ hq
  rw [Nat.zero_add, (hc _ (by omega)).1, (hc _ (by omega)).1, (hc _ (by omega)).1]
  exact ⟨q1, q2, q3⟩
theorem own_r3 {a : Option Addr} {cap : Nat} {R : List Ru} (h : w.ownsRow base e 3 (.slice a n cap) n (RT R)) : R3 w a n (calOf [] R).ev (calOf [] R).rs (calOf [] R).lf := fun hn => by
  obtain ⟨g, rfl, _, hg, hc⟩ := own_atK h hn
  have hl : R.length = n := by have := h.1; rw [RT_len] at this; omega
  refine ⟨g, 0, rfl, hg, fun j hj => ?_⟩
  have hq : R[j]? = some (R.getD j (0, 0, false)) := by rw [List.getD_eq_getElem?_getD, List.getElem?_eq_getElem (by omega)]; rfl
  obtain ⟨q1, q2, q3⟩ := flat3_at (fun q : Ru => Value.int .i64 q.1) (fun q => .int .i64 q.2.1) (fun q => .bool q.2.2) R j _ hq
  rw [Nat.zero_add, (hc _ (by omega)).1, (hc _ (by omega)).1, (hc _ (by omega)).1]
  exact ⟨q1, q2, q3⟩
end
/-- months and rules owned: a calendar in memory -/
theorem own_calM {w : World} {b1 b2 : Nat} {e1 e2 : TypeId} {a1 a2 : Option Addr} {c1 c2 : Nat} {M : List Mo} {R : List Ru} (h1 : w.ownsRow b1 e1 3 (.slice a1 M.length c1) M.length (MT M)) (h2 : w.ownsRow b2 e2 3 (.slice a2 R.length c2) R.length (RT R)) : CalM w a1 a2 (nmOf M) (calOf M R) :=
  ⟨own_s3 h1, own_r3 h2⟩
theorem news_block {w : World} {gb : Nat} {T : TypeId} {ys : List Value} (h : Blk w gb T ys.toArray) : ∀ j u, ys[j]? = some u → w.cell? ((⟨gb, 0, none⟩ : Addr).add j) = some u := fun j u hu => by
  rw [addr_add, Nat.zero_add, h.cell]; simpa using hu
/-- 'own = append(own, q, ..)', the q's of several cells -/
theorem appG {P : Program} {w : World} {ops : Array Oper} {rest : List Oper} {o : Oper} {A : Act} {Q : Exit → Act → World → Prop} (t T : TypeId) (s x : Operand) (z : Value) (sz by8 : Nat)
    (hop : o.op = .call { callee := .builtin .append, args := #[s, x], argTypes := #[t, t] }) (hgd : o.guard = none)
    (ht : P.underlying t = some (.slice T)) (hinfo : (P.info? T).map (fun i => (i.zero, i.size, i.bytes)) = some (some z, sz, by8)) (hz : z.cells.size = sz) (hz0 : 0 < sz) (h64 : by8 ≤ 64)
    (B : Nat) (v : Value) (n : Nat) (xs : List Value) (m : Nat) (ys : List Value) (gb c : Nat) (hs : A.eval s = v) (hx : A.eval x = .slice (some ⟨gb, 0, none⟩) m c) (h : w.ownsRow B T sz v n xs)
    (hc : Blk w gb T ys.toArray) (hy : ys.length = m * sz) (ho : ∀ u ∈ ys, u.oneCell' = true) (hm : m ≤ 100) (hl : n ≤ 1048576) (h0 : B ≤ w.heap.size)
    (hK : ∀ v' w', w'.ownsRow B T sz v' (n + m) (xs ++ ys) → w.grownBy w' v.ownBlock → wpList P ops Q rest (A.put o.dst v') w') : wpList P ops Q (o :: rest) A w := by
  obtain ⟨i, hi, hz', hsz, hb⟩ := info_parts hinfo
  refine wpList_append_own (P := P) w hgd s x t hop B T i z sz by8 ht hi hz' hsz hb hz hz0 v n xs hs h ⟨gb, 0, none⟩ m c ys hx hy (news_block hc) ho (by unfold maxLen; omega) ?_ h0 ?_
  · have : (n + m) * by8 ≤ (n + m) * 64 := Nat.mul_le_mul_left _ h64
    omega
  · intro v' w' h1 h2 _
    exact hK v' w' h1 h2
/-- the same at a step of a region that draws its order -/
theorem appGs {P : Program} {w : World} {ops : Array Oper} {o : Oper} {A : Act} {K : Act → World → Prop} {Q : Exit → Act → World → Prop} {E : Prop} (t T : TypeId) (s x : Operand) (z : Value) (sz by8 : Nat)
    (hop : o.op = .call { callee := .builtin .append, args := #[s, x], argTypes := #[t, t] }) (hgd : o.guard = none)
    (ht : P.underlying t = some (.slice T)) (hinfo : (P.info? T).map (fun i => (i.zero, i.size, i.bytes)) = some (some z, sz, by8)) (hz : z.cells.size = sz) (hz0 : 0 < sz) (h64 : by8 ≤ 64)
    (B : Nat) (v : Value) (n : Nat) (xs : List Value) (m : Nat) (ys : List Value) (gb c : Nat) (hs : A.eval s = v) (hx : A.eval x = .slice (some ⟨gb, 0, none⟩) m c) (h : w.ownsRow B T sz v n xs)
    (hc : Blk w gb T ys.toArray) (hy : ys.length = m * sz) (ho : ∀ u ∈ ys, u.oneCell' = true) (hm0 : 0 < m) (hm : m ≤ 100) (hl : n ≤ 1048576) (h0 : B ≤ w.heap.size)
    (hK : ∀ v' w', w'.ownsRow B T sz v' (n + m) (xs ++ ys) → w.grownBy w' v.ownBlock → (∀ b i, b < w.heap.size → v.ownBlock ≠ some b → w'.cell? ⟨b, i, none⟩ = w.cell? ⟨b, i, none⟩) → K (A.put o.dst v') w') :
    if Region.wanted o (yielded ops A.tmps) = true then Oper.wp P o A w K Q else E := by
  obtain ⟨i, hi, hz', hsz, hb⟩ := info_parts hinfo
  refine step_append_lies w hgd s x t hop B T i z sz by8 ht hi hz' hsz hb hz hz0 v n xs hs h ⟨gb, 0, none⟩ m c ys hx hy (news_block hc) ho hm0 (by unfold maxLen; omega) ?_ h0 _ rfl ?_
  · have : (n + m) * by8 ≤ (n + m) * 64 := Nat.mul_le_mul_left _ h64
    omega
  · intro g' cap w' h1 h2 _ _
    exact hK _ w' h1 h2 (fun b i hb hne => h2.cell_far ⟨b, i, none⟩ hb (fun e => hne e.symm))
theorem info_month : (Tryd.prog.info? 68).map (fun i => (i.zero, i.size, i.bytes)) = some (some (.agg #[.string ⟨#[]⟩, .int .i64 0, .int .i64 0]), 3, 32) := by kernel_rfl
theorem info_rule : (Tryd.prog.info? 70).map (fun i => (i.zero, i.size, i.bytes)) = some (some (.agg #[.int .i64 0, .int .i64 0, .bool false]), 3, 24) := by kernel_rfl
end Go.Proofs.YtpohhnihgegmfaaDoor

namespace Go.Proofs.YtpohhnihgegmfaaDoor
set_option linter.unusedVariables false
set_option linter.unusedSimpArgs false
open Lib
/-- a calendar's contents -/
structure Cl where
  nm : ByteArray
  wk : Int
  M : List Mo
  R : List Ru
def Cl.z : Cl := ⟨⟨#[]⟩, 0, [], []⟩
def Cl.ok (C : Cl) : Bool := calB C.nm (nmOf C.M) (calOf C.M C.R) C.wk
def calK : List UInt8 := [99, 97, 108, 101, 110, 100, 97, 114]
def monK : List UInt8 := [109, 111, 110, 116, 104]
def leaK : List UInt8 := [108, 101, 97, 112]
def lnH (nm : ByteArray) (wk : Int) : List (List UInt8) := [calK, nm.data.toList, itoa wk]
def lnM (q : Mo) : List (List UInt8) := [monK, q.1.data.toList, itoa q.2.1, itoa q.2.2]
def lnR (q : Ru) : List (List UInt8) := [leaK, itoa q.1, itoa q.2.1, yn q.2.2]
def Cl.ws (C : Cl) : List (List (List UInt8)) := lnH C.nm C.wk :: (C.M.map lnM ++ C.R.map lnR)
/-- lines of words, as a text -/
def ltx (L : List (List (List UInt8))) : List UInt8 := L.flatMap fun ws => joinL 32 ws ++ [10]
theorem tx_app (a b : List (List (List UInt8))) : ltx (a ++ b) = ltx a ++ ltx b := by simp [ltx]
theorem tx_one (a : List (List UInt8)) : ltx [a] = joinL 32 a ++ [10] := by simp [ltx]
theorem ttM_tx (nm : ByteArray) (M : List Mo) (R : List Ru) (wk : Int) : ∀ k, k ≤ M.length → ttM nm (nmOf M) (calOf M R) wk k = ltx (lnH nm wk :: (M.take k).map lnM)
  | 0, _ => by simp [ttM, hdL, ltx, lnH, joinL, calK]
  | k + 1, h => by
    have hk : M[k]? = some M[k] := List.getElem?_eq_getElem (by omega)
    rw [ttM, ttM_tx nm M R wk k (by omega), List.take_add_one, hk, List.map_append, ← List.cons_append, tx_app]
    congr 1
    simp [moL, nmOf, calOf, List.getD_eq_getElem?_getD, hk, ltx, lnM, joinL, monK]
theorem ttR_tx (nm : ByteArray) (M : List Mo) (R : List Ru) (wk : Int) : ∀ k, k ≤ R.length → ttR nm (nmOf M) (calOf M R) wk k = ltx (lnH nm wk :: (M.map lnM ++ (R.take k).map lnR))
  | 0, _ => by
    rw [ttR, show (calOf M R).n = M.length from rfl, ttM_tx nm M R wk _ (Nat.le_refl _)]; simp
  | k + 1, h => by
    have hk : R[k]? = some R[k] := List.getElem?_eq_getElem (by omega)
    have e : lnH nm wk :: (M.map lnM ++ ((R.take k).map lnR ++ ((some R[k]).toList).map lnR)) = (lnH nm wk :: (M.map lnM ++ (R.take k).map lnR)) ++ ((some R[k]).toList).map lnR := by simp
    rw [ttR, ttR_tx nm M R wk k (by omega), List.take_add_one, hk, List.map_append, e, tx_app]
    congr 1
    simp [ruL, calOf, List.getD_eq_getElem?_getD, hk, ltx, lnR, joinL, leaK]
theorem calL_tx (C : Cl) : calL C.nm (nmOf C.M) (calOf C.M C.R) C.wk = ltx C.ws := by
  rw [calL, show (calOf C.M C.R).nr = C.R.length from rfl, ttR_tx C.nm C.M C.R C.wk _ (Nat.le_refl _), List.take_length]; rfl
/-- words that hold neither a line's end nor a space -/
def Wd (x : List UInt8) : Prop := 10 ∉ x ∧ 32 ∉ x
def Gd (L : List (List (List UInt8))) : Prop := ∀ ws ∈ L, ws ≠ [] ∧ ∀ x ∈ ws, Wd x
theorem join_no (c : UInt8) : ∀ (ws : List (List UInt8)), c ≠ 32 → (∀ x ∈ ws, c ∉ x) → c ∉ joinL 32 ws
  | [], _, _ => by simp [joinL]
  | [x], _, h => by simpa [joinL] using h
  | x :: y :: ys, hc, h => by
    have ih := join_no c (y :: ys) hc (fun z hz => h z (List.mem_cons_of_mem _ hz))
    simp only [joinL, List.mem_append, List.mem_cons, not_or]
    exact ⟨h x (by simp), hc, ih⟩
theorem split_join : ∀ (ws : List (List UInt8)), ws ≠ [] → (∀ x ∈ ws, (32 : UInt8) ∉ x) → splitL 32 (joinL 32 ws) = ws
  | [], h, _ => absurd rfl h
  | [x], _, h => splitL_one 32 x (h x (by simp))
  | x :: y :: ys, _, h => by
    rw [joinL, splitL_app _ _ _ (h x (by simp)), split_join (y :: ys) (by simp) (fun z hz => h z (List.mem_cons_of_mem _ hz))]
theorem split_tx : ∀ (L : List (List (List UInt8))), Gd L → splitL 10 (ltx L) = L.map (joinL 32) ++ [[]]
  | [], _ => by simp [ltx, splitL]
  | ws :: r, h => by
    have h1 := h ws (by simp)
    have h2 : (10 : UInt8) ∉ joinL 32 ws := join_no 10 ws (by decide) (fun x hx => (h1.2 x hx).1)
    have e : ltx (ws :: r) = joinL 32 ws ++ 10 :: ltx r := by simp [ltx]
    rw [e, splitL_app _ _ _ h2, split_tx r (fun z hz => h z (List.mem_cons_of_mem _ hz))]; rfl
/-- a text's lines but the last, in words -/
def lws (L : List (List UInt8)) : List (List (List UInt8)) := L.map (splitL 32)
theorem lws_tx {L : List (List (List UInt8))} (h : Gd L) : lws (L.map (joinL 32)) = L := by
  rw [lws, List.map_map]
  conv => rhs; rw [← List.map_id L]
  exact List.map_congr_left fun ws hw => split_join ws (h ws hw).1 (fun x hx => ((h ws hw).2 x hx).2)
theorem lws_join (L : List (List UInt8)) : (lws L).map (joinL 32) = L := by
  rw [lws, List.map_map]
  conv => rhs; rw [← List.map_id L]
  exact List.map_congr_left fun x _ => join_split 32 x
theorem dec_wd (u : Nat) : Wd (decDigits u) := ⟨dec_no 10 (by decide) u, dec_no 32 (by decide) u⟩
theorem itoa_wd (n : Int) : Wd (itoa n) := by
  have h := dec_wd n.natAbs
  rcases itoa_cases n with ⟨_, e⟩ | ⟨_, e⟩ <;> rw [e]
  · exact ⟨fun k => by rcases List.mem_cons.1 k with k | k; exact absurd k (by decide); exact h.1 k, fun k => by rcases List.mem_cons.1 k with k | k; exact absurd k (by decide); exact h.2 k⟩
  · exact h
theorem yn_wd (b : Bool) : Wd (yn b) := by cases b <;> exact ⟨by decide, by decide⟩
theorem nmTo_at {s : ByteArray} {n k : Nat} (h : nmTo s n = true) (hk : k < n) : chN k (btN s k) = true := by
  cases e : chN k (btN s k)
  · rw [nmTo_ff hk e] at h; cases h
  · rfl
theorem isNm_wd {s : ByteArray} (h : isNm s = true) : Wd s.data.toList := by
  simp only [isNm, Bool.and_eq_true] at h
  have key : ∀ c : UInt8, c ∈ s.data.toList → chN 0 c.toNat = true ∨ chN 1 c.toNat = true := fun c hc => by
    obtain ⟨k, hk, e⟩ := List.getElem_of_mem hc
    have hk' : k < s.size := by rwa [ba_len] at hk
    have h1 := nmTo_at h.2 hk'
    have e2 : btN s k = c.toNat := by unfold btN; rw [List.getD_eq_getElem?_getD, List.getElem?_eq_getElem hk, e]; rfl
    rw [e2] at h1
    simp only [chN, decide_eq_true_eq] at h1 ⊢
    omega
  exact ⟨fun k => by have := key 10 k; revert this; decide, fun k => by have := key 32 k; revert this; decide⟩
theorem Cl.gd {C : Cl} (h : C.ok = true) : Gd C.ws := by
  have h0 := h
  simp only [Cl.ok, calB, monB, Bool.and_eq_true] at h
  obtain ⟨_, h4, ⟨h5, _⟩, _⟩ := h
  intro ws hw
  rcases List.mem_cons.1 hw with rfl | hw
  · refine ⟨by simp [lnH], fun x hx => ?_⟩
    simp only [lnH, List.mem_cons, List.mem_nil_iff, or_false] at hx
    rcases hx with rfl | rfl | rfl
    · exact ⟨by decide, by decide⟩
    · exact isNm_wd h4
    · exact itoa_wd _
  · rcases List.mem_append.1 hw with hw | hw
    · obtain ⟨q, hq, rfl⟩ := List.mem_map.1 hw
      refine ⟨by simp [lnM], fun x hx => ?_⟩
      simp only [lnM, List.mem_cons, List.mem_nil_iff, or_false] at hx
      rcases hx with rfl | rfl | rfl | rfl
      · exact ⟨by decide, by decide⟩
      · obtain ⟨k, hk, e⟩ := List.getElem_of_mem hq
        have h6 := monTo_at h5 (show k < (calOf C.M C.R).n from hk)
        simp only [monA, Bool.and_eq_true] at h6
        have e2 : nmOf C.M k = q.1 := by simp [nmOf, List.getD_eq_getElem?_getD, List.getElem?_eq_getElem hk, e]
        rw [e2] at h6
        exact isNm_wd h6.1
      · exact itoa_wd _
      · exact itoa_wd _
    · obtain ⟨q, hq, rfl⟩ := List.mem_map.1 hw
      refine ⟨by simp [lnR], fun x hx => ?_⟩
      simp only [lnR, List.mem_cons, List.mem_nil_iff, or_false] at hx
      rcases hx with rfl | rfl | rfl | rfl
      · exact ⟨by decide, by decide⟩
      · exact itoa_wd _
      · exact itoa_wd _
      · exact yn_wd _
/-- the number that a numeral's reading gives, and whether it is one -/
noncomputable def nv (p : List UInt8) : Int := (RdR.ex p).choose
noncomputable def nb (p : List UInt8) : Bool := (RdR.ex p).choose_spec.choose
theorem nv_r (p : List UInt8) : RdR p (nv p) (nb p) := (RdR.ex p).choose_spec.choose_spec
theorem nv_itoa {n : Int} (h : Sm n) : nv (itoa n) = n ∧ nb (itoa n) = true := (nv_r (itoa n)).one ⟨fun _ => ⟨rfl, h⟩, fun e => by cases e⟩
theorem nb_itoa {p : List UInt8} (h : nb p = true) : itoa (nv p) = p := ((nv_r p).yes h).1
def yesK : List UInt8 := [121, 101, 115]
def noK : List UInt8 := [110, 111]
/-- one line of the program's reading -/
noncomputable def stepI (C : Cl) : List (List UInt8) → Option Cl
  | [k, a, b] => if k = calK then some { C with nm := ⟨a.toArray⟩, wk := nv b } else none
  | [k, a, b, c] => if k = monK then some { C with M := C.M ++ [(⟨a.toArray⟩, nv b, nv c)] } else if k = leaK then some { C with R := C.R ++ [(nv a, nv b, decide (c = yesK))] } else none
  | _ => none
noncomputable def runI (C : Cl) : List (List (List UInt8)) → Option Cl
  | [] => some C
  | ws :: r => (stepI C ws).bind fun D => runI D r
theorem runI_app (C : Cl) : ∀ (a b : List (List (List UInt8))), runI C (a ++ b) = (runI C a).bind fun D => runI D b
  | [], b => rfl
  | ws :: r, b => by
    simp only [List.cons_append, runI]
    cases stepI C ws with
    | none => rfl
    | some D => exact runI_app D r b
theorem ba_id (s : ByteArray) : (⟨s.data.toList.toArray⟩ : ByteArray) = s := rfl
theorem runI_M : ∀ (M : List Mo) (C : Cl), (∀ q ∈ M, Sm q.2.1 ∧ Sm q.2.2) → runI C (M.map lnM) = some { C with M := C.M ++ M }
  | [], C, _ => by simp [runI]
  | q :: M, C, h => by
    have h1 := h q (by simp)
    simp only [List.map_cons, runI, lnM, stepI, if_neg (show ¬ monK = calK by decide), if_pos, Option.bind_some]
    rw [runI_M M _ (fun x hx => h x (List.mem_cons_of_mem _ hx)), (nv_itoa h1.1).1, (nv_itoa h1.2).1]
    simp
theorem yn_yes (b : Bool) : decide (yn b = yesK) = b := by cases b <;> rfl
theorem runI_R : ∀ (R : List Ru) (C : Cl), (∀ q ∈ R, Sm q.1 ∧ Sm q.2.1) → runI C (R.map lnR) = some { C with R := C.R ++ R }
  | [], C, _ => by simp [runI]
  | q :: R, C, h => by
    have h1 := h q (by simp)
    simp only [List.map_cons, runI, lnR, stepI, if_neg (show ¬ leaK = monK by decide), if_pos, Option.bind_some]
    rw [runI_R R _ (fun x hx => h x (List.mem_cons_of_mem _ hx)), (nv_itoa h1.1).1, (nv_itoa h1.2).1, yn_yes]
    simp
theorem Cl.sm {C : Cl} (h : C.ok = true) : Sm C.wk ∧ (∀ q ∈ C.M, Sm q.2.1 ∧ Sm q.2.2) ∧ ∀ q ∈ C.R, Sm q.1 ∧ Sm q.2.1 := by
  have b := calB_b h
  simp only [Cl.ok, calB, Bool.and_eq_true, inB_t] at h
  refine ⟨⟨by omega, by omega⟩, fun q hq => ?_, fun q hq => ?_⟩
  · obtain ⟨k, hk, e⟩ := List.getElem_of_mem hq
    have h1 := b.dy k hk
    have h2 := b.lp k hk
    simp only [calOf, List.getD_eq_getElem?_getD, List.getElem?_eq_getElem hk, e, Option.getD_some] at h1 h2
    exact ⟨⟨by omega, by omega⟩, ⟨by omega, by omega⟩⟩
  · obtain ⟨k, hk, e⟩ := List.getElem_of_mem hq
    have h1 := b.ev k hk
    have h2 := b.rs k hk
    simp only [calOf, List.getD_eq_getElem?_getD, List.getElem?_eq_getElem hk, e, Option.getD_some] at h1 h2
    exact ⟨⟨by omega, by omega⟩, ⟨by omega, by omega⟩⟩
/-- a valid calendar's lines are read back -/
theorem runI_ws {C : Cl} (h : C.ok = true) : runI Cl.z C.ws = some C := by
  obtain ⟨h1, h2, h3⟩ := Cl.sm h
  rw [Cl.ws, runI]
  simp only [lnH, stepI, if_pos, Option.bind_some, (nv_itoa h1).1]
  rw [runI_app, runI_M _ _ h2]
  simp only [Option.bind_some]
  rw [runI_R _ _ h3]
  simp [Cl.z]
/-- what reading a calendar's text returns -/
structure CR (l : List UInt8) (C : Cl) (b : Bool) : Prop where
  yes : b = true → C.ok = true ∧ l = ltx C.ws
  no : b = false → C = Cl.z ∧ ∀ D : Cl, D.ok = true → l ≠ ltx D.ws
theorem CR.ex (l : List UInt8) : ∃ C b, CR l C b := by
  by_cases h : ∃ C : Cl, C.ok = true ∧ l = ltx C.ws
  · obtain ⟨C, h⟩ := h; exact ⟨C, true, fun _ => h, fun e => by cases e⟩
  · exact ⟨Cl.z, false, (fun e => by cases e), fun _ => ⟨rfl, fun D h1 h2 => h ⟨D, h1, h2⟩⟩⟩
/-- a text that is a calendar's, in lines -/
theorem lines_of {C : Cl} (h : C.ok = true) : splitL 10 (ltx C.ws) = C.ws.map (joinL 32) ++ [[]] ∧ lws (C.ws.map (joinL 32)) = C.ws := ⟨split_tx _ (Cl.gd h), lws_tx (Cl.gd h)⟩
theorem ws_inj {C D : Cl} (hC : C.ok = true) (hD : D.ok = true) (h : ltx C.ws = ltx D.ws) : C = D := by
  have h1 := split_tx _ (Cl.gd hC)
  rw [h, split_tx _ (Cl.gd hD)] at h1
  have h2 := congrArg lws (List.append_cancel_right h1)
  rw [lws_tx (Cl.gd hD), lws_tx (Cl.gd hC)] at h2
  have h3 := runI_ws hC
  rw [← h2, runI_ws hD] at h3
  exact (Option.some.inj h3).symm
end Go.Proofs.YtpohhnihgegmfaaDoor

namespace Go.Proofs.YtpohhnihgegmfaaDoor
set_option linter.unusedVariables false
set_option linter.unusedSimpArgs false
open Lib
/-- one line of the reference's reading -/
noncomputable def stepS (C : Cl) : List (List UInt8) → Cl × Bool
  | [k, a, b, c] => if k = monK then ({ C with M := C.M ++ [(⟨a.toArray⟩, nv b, nv c)] }, nb b && (nb c && decide (C.R.length = 0)))
      else if k = leaK then ({ C with R := C.R ++ [(nv a, nv b, decide (c = yesK))] }, nb a && (nb b && (decide (c = yesK) || decide (c = noK))))
      else (C, false)
  | _ => (C, false)
noncomputable def runS : Cl → Bool → List (List (List UInt8)) → Cl × Bool
  | C, ok, [] => (C, ok)
  | C, ok, ws :: r => if ok = true then runS (stepS C ws).1 (stepS C ws).2 r else (C, false)
theorem runS_f (C : Cl) (L : List (List (List UInt8))) : runS C false L = (C, false) := by cases L <;> simp [runS]
theorem Cl.eta (C : Cl) : (⟨C.nm, C.wk, C.M, C.R⟩ : Cl) = C := rfl
theorem runS_yes : ∀ (L : List (List (List UInt8))) (C D : Cl), runS C true L = (D, true) → ∃ M' R', D = ⟨C.nm, C.wk, C.M ++ M', C.R ++ R'⟩ ∧ L = M'.map lnM ++ R'.map lnR ∧ (C.R ≠ [] → M' = [])
  | [], C, D, h => by
    simp only [runS, Prod.mk.injEq, and_true] at h
    subst h
    exact ⟨[], [], by simp, by simp, fun _ => rfl⟩
  | ws :: r, C, D, h => by
    simp only [runS, if_pos] at h
    cases h2 : (stepS C ws).2
    · rw [h2, runS_f] at h; simp at h
    · rw [h2] at h
      have ih := runS_yes r _ D h
      obtain ⟨M', R', e1, e2, e3⟩ := ih
      match ws, h2, e1, e3 with
      | [k, a, b, c], h2, e1, e3 =>
        by_cases k1 : k = monK
        · subst k1
          simp only [stepS, if_pos, Bool.and_eq_true, decide_eq_true_eq] at h2 e1 e3
          obtain ⟨q1, q2, q3⟩ := h2
          have q4 : C.R = [] := List.length_eq_zero_iff.1 q3
          refine ⟨(⟨a.toArray⟩, nv b, nv c) :: M', R', by rw [e1]; simp, ?_, fun hc => absurd q4 hc⟩
          rw [e2, List.map_cons, lnM]
          simp [nb_itoa q1, nb_itoa q2]
        · by_cases k2 : k = leaK
          · subst k2
            simp only [stepS, if_neg k1, if_pos, Bool.and_eq_true, Bool.or_eq_true, decide_eq_true_eq] at h2 e1 e3
            obtain ⟨q1, q2, q3⟩ := h2
            have e4 : M' = [] := e3 (by simp)
            subst e4
            refine ⟨[], (nv a, nv b, decide (c = yesK)) :: R', by rw [e1]; simp, ?_, fun _ => rfl⟩
            have e5 : yn (decide (c = yesK)) = c := by
              rcases q3 with rfl | rfl
              · simp [yn, yesK]
              · simp [yn, yesK, noK]
            rw [e2]; simp [lnR, e5, nb_itoa q1, nb_itoa q2]
          · simp [stepS, k1, k2] at h2
      | [], h2, _, _ => simp [stepS] at h2
      | [_], h2, _, _ => simp [stepS] at h2
      | [_, _], h2, _, _ => simp [stepS] at h2
      | [_, _, _], h2, _, _ => simp [stepS] at h2
      | _ :: _ :: _ :: _ :: _ :: _, h2, _, _ => simp [stepS] at h2
theorem runS_R : ∀ (R : List Ru) (C : Cl), (∀ q ∈ R, Sm q.1 ∧ Sm q.2.1) → runS C true (R.map lnR) = (⟨C.nm, C.wk, C.M, C.R ++ R⟩, true)
  | [], C, _ => by simp [runS]
  | q :: R, C, h => by
    have h1 := h q (by simp)
    have e : stepS C (lnR q) = (⟨C.nm, C.wk, C.M, C.R ++ [q]⟩, true) := by
      have e5 : (q.2.2 || decide (yn q.2.2 = noK)) = true := by cases q.2.2 <;> rfl
      simp only [lnR, stepS, if_neg (show ¬ leaK = monK by decide), if_pos, (nv_itoa h1.1).1, (nv_itoa h1.1).2, (nv_itoa h1.2).1, (nv_itoa h1.2).2, yn_yes, e5, Bool.and_self]
    rw [List.map_cons, runS, if_pos rfl, e]
    dsimp only
    rw [runS_R R _ (fun x hx => h x (List.mem_cons_of_mem _ hx))]
    simp
theorem runS_M : ∀ (M : List Mo) (C : Cl) (r : List (List (List UInt8))), (∀ q ∈ M, Sm q.2.1 ∧ Sm q.2.2) → C.R = [] → runS C true (M.map lnM ++ r) = runS ⟨C.nm, C.wk, C.M ++ M, C.R⟩ true r
  | [], C, r, _, _ => by simp
  | q :: M, C, r, h, hR => by
    have h1 := h q (by simp)
    have e : stepS C (lnM q) = (⟨C.nm, C.wk, C.M ++ [q], C.R⟩, true) := by
      simp only [lnM, stepS, if_pos, (nv_itoa h1.1).1, (nv_itoa h1.1).2, (nv_itoa h1.2).1, (nv_itoa h1.2).2, hR, List.length_nil, decide_true, Bool.and_self]
    rw [List.map_cons, List.cons_append, runS, if_pos rfl, e]
    dsimp only
    rw [runS_M M ⟨C.nm, C.wk, C.M ++ [q], C.R⟩ r (fun x hx => h x (List.mem_cons_of_mem _ hx)) hR]
    simp
/-- the reference's reading of lines -/
noncomputable def readS (L : List (List (List UInt8))) : Cl × Bool :=
  if 1 ≤ L.length ∧ L.length ≤ 27 then
    match L with
    | [k, a, b] :: r => if k = calK then ((runS ⟨⟨a.toArray⟩, nv b, [], []⟩ (nb b) r).1, (runS ⟨⟨a.toArray⟩, nv b, [], []⟩ (nb b) r).2 && (runS ⟨⟨a.toArray⟩, nv b, [], []⟩ (nb b) r).1.ok) else (Cl.z, false)
    | _ => (Cl.z, false)
  else (Cl.z, false)
theorem readS_ws {C : Cl} (h : C.ok = true) : readS C.ws = (C, true) := by
  obtain ⟨h1, h2, h3⟩ := Cl.sm h
  have b := calB_b h
  have n1 : C.M.length ≤ 20 := b.n20
  have n2 : C.R.length ≤ 6 := b.nr6
  have hl : 1 ≤ C.ws.length ∧ C.ws.length ≤ 27 := by simp [Cl.ws]; omega
  have e : runS ⟨⟨C.nm.data.toList.toArray⟩, nv (itoa C.wk), [], []⟩ (nb (itoa C.wk)) (C.M.map lnM ++ C.R.map lnR) = (C, true) := by
    rw [(nv_itoa h1).1, (nv_itoa h1).2, runS_M _ _ _ h2 rfl, runS_R _ _ h3]
    simp
  have hw : C.ws = [calK, C.nm.data.toList, itoa C.wk] :: (C.M.map lnM ++ C.R.map lnR) := rfl
  rw [hw] at hl ⊢
  unfold readS
  rw [if_pos hl]
  dsimp only
  rw [if_pos rfl, e]
  simp [h]
theorem readS_yes {L : List (List (List UInt8))} {D : Cl} (h : readS L = (D, true)) : D.ok = true ∧ L = D.ws := by
  unfold readS at h
  split at h
  · match L, h with
    | [k, a, b] :: r, h =>
      dsimp only at h
      by_cases hk : k = calK
      · subst hk
        rw [if_pos rfl] at h
        obtain ⟨E, hE⟩ : ∃ E, E = runS ⟨⟨a.toArray⟩, nv b, [], []⟩ (nb b) r := ⟨_, rfl⟩
        rw [← hE] at h
        simp only [Prod.mk.injEq, Bool.and_eq_true] at h
        obtain ⟨rfl, q1, q2⟩ := h
        cases hb : nb b
        · rw [hb, runS_f] at hE; rw [hE] at q1; cases q1
        · rw [hb] at hE
          obtain ⟨M', R', e1, e2, _⟩ := runS_yes r _ E.1 (by rw [← hE, ← q1])
          refine ⟨q2, ?_⟩
          rw [e1, e2, Cl.ws, lnH]
          simp [nb_itoa hb]
      · rw [if_neg hk] at h; simp at h
    | [], h => simp at h
    | [] :: _, h => simp at h
    | [_] :: _, h => simp at h
    | [_, _] :: _, h => simp at h
    | (_ :: _ :: _ :: _ :: _) :: _, h => simp at h
  · simp at h
theorem split_snoc (c : UInt8) : ∀ t : List UInt8, splitL c (t ++ [c]) = splitL c t ++ [[]]
  | [] => by simp [splitL]
  | b :: r => by
    have ih := split_snoc c r
    by_cases hb : b = c
    · subst hb; rw [List.cons_append, splitL_hit, splitL_hit, ih]; rfl
    · obtain ⟨x, xs, h1, h2⟩ := splitL_cons c b r hb
      obtain ⟨y, ys, h3, h4⟩ := splitL_cons c b (r ++ [c]) hb
      rw [List.cons_append, h4, h2]
      rw [ih, h1] at h3
      injection h3 with h5 h6
      rw [← h5, ← h6]; rfl
theorem splitL_many (c : UInt8) : ∀ l : List UInt8, (splitL c l).length ≤ l.length + 1
  | [] => by simp [splitL]
  | b :: r => by
    have ih := splitL_many c r
    by_cases hb : b = c
    · subst hb; rw [splitL_hit]; simp; omega
    · obtain ⟨x, xs, h1, h2⟩ := splitL_cons c b r hb
      rw [h2]; rw [h1] at ih; simp at ih ⊢; omega
theorem join_snoc (c : UInt8) : ∀ X : List (List UInt8), joinL c (X ++ [[]]) = X.flatMap fun x => x ++ [c]
  | [] => rfl
  | x :: xs => by
    rw [List.cons_append, joinL_cons _ _ (by simp), join_snoc c xs]; simp
theorem ltx_join (L : List (List (List UInt8))) : (L.map (joinL 32)).flatMap (fun x => x ++ [10]) = ltx L := by
  simp [ltx, List.flatMap_map]
/-- the reference's answer -/
theorem CR.spec {l : List UInt8} {C : Cl} {b : Bool} (h : CR l C b) {X : List (List UInt8)} {x : List UInt8} (hs : splitL 10 l = X ++ [x]) :
    (x ≠ [] → b = false) ∧ (x = [] → (readS (lws X)).2 = b ∧ (b = true → (readS (lws X)).1 = C)) := by
  refine ⟨fun hx => ?_, fun hx => ?_⟩
  · cases b
    · rfl
    · obtain ⟨h1, h2⟩ := h.yes rfl
      rw [h2, split_tx _ (Cl.gd h1)] at hs
      have := List.append_inj_right' hs rfl
      simp only [List.cons.injEq, and_true] at this
      exact absurd this.symm hx
  · subst hx
    cases b
    · refine ⟨?_, fun e => by cases e⟩
      cases hr : (readS (lws X)).2
      · rfl
      · obtain ⟨h1, h2⟩ := readS_yes (D := (readS (lws X)).1) (by rw [← hr])
        refine absurd ?_ ((h.no rfl).2 _ h1)
        rw [← h2, ← ltx_join, lws_join, ← join_snoc, ← hs, join_split]
    · obtain ⟨h1, h2⟩ := h.yes rfl
      have e := lines_of h1
      rw [h2, e.1] at hs
      have e2 := List.append_inj_left' hs rfl
      rw [← e2, e.2, readS_ws h1]
      exact ⟨rfl, fun _ => rfl⟩
/-- the program's answer -/
theorem CR.impl {t : List UInt8} {C : Cl} {b : Bool} (h : CR (t ++ [10]) C b) : b = true → runI Cl.z (lws (splitL 10 t)) = some C := fun e => by
  obtain ⟨h1, h2⟩ := h.yes e
  have e := lines_of h1
  rw [← h2, split_snoc] at e
  have e2 := List.append_inj_left' e.1 rfl
  rw [e2, e.2, runI_ws h1]
theorem ltx_end {C : Cl} : ∃ t, ltx C.ws = t ++ [10] := by
  have : ∀ L : List (List (List UInt8)), L ≠ [] → ∃ t, ltx L = t ++ [10] := fun L hL => by
    rcases List.eq_nil_or_concat L with rfl | ⟨A, a, rfl⟩
    · exact absurd rfl hL
    · rw [List.concat_eq_append, tx_app, tx_one, ← List.append_assoc]; exact ⟨_, rfl⟩
  exact this _ (by simp [Cl.ws])
/-- a text that does not end a line -/
theorem CR.noend {l : List UInt8} {C : Cl} {b : Bool} (h : CR l C b) (hl : ∀ t, l ≠ t ++ [10]) : b = false := by
  cases b
  · rfl
  · obtain ⟨h1, h2⟩ := h.yes rfl
    obtain ⟨t, ht⟩ := ltx_end (C := C)
    exact absurd (h2.trans ht) (hl t)
theorem z_no : Cl.z.ok = false := by simp [Cl.ok, Cl.z, calB, isNm, ByteArray.size]
/-- the program's last test -/
theorem CR.test {l : List UInt8} {C D : Cl} {b : Bool} (h : CR l C b) (hb : b = true → D = C) : (D.ok = true ∧ calTx D.nm (nmOf D.M) (calOf D.M D.R) D.wk = l) ↔ b = true := by
  constructor
  · rintro ⟨h1, h2⟩
    cases b
    · rw [calTx, show calB D.nm (nmOf D.M) (calOf D.M D.R) D.wk = true from h1, if_pos rfl, calL_tx] at h2
      exact absurd h2.symm ((h.no rfl).2 D h1)
    · rfl
  · intro e
    obtain ⟨h1, h2⟩ := h.yes e
    obtain rfl := hb e
    refine ⟨h1, ?_⟩
    rw [calTx, show calB D.nm (nmOf D.M) (calOf D.M D.R) D.wk = true from h1, if_pos rfl, calL_tx, h2]
end Go.Proofs.YtpohhnihgegmfaaDoor
