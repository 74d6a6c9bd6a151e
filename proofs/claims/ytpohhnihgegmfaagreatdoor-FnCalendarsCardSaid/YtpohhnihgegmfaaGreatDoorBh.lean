/- Calendars' texts: the program's. Calendars read: the program's. Dates read from texts: the reference's. Calendars read: the program's, the loop. Calendars read: one line, by the reference. Calendars read: the reference's lines. Calendars read: the reference's, plain parts. Calendars read: the reference's, the loop. Calendars read: the reference's answer. Ratios made of two positive numbers. Calendars: compared. Calendars: compared as wholes. What an argument that is a calendar holds. The law ValidCalendar's walk. Laws on one calendar and numbers: their walks. Calendars compared: the program's lists. -/
import Derived.Test.YtpohhnihgegmfaaGreatDoorBf
import Derived.Test.YtpohhnihgegmfaaGreatDoorBg
import Derived.Test.YtpohhnihgegmfaaGreatDoorBb
import Derived.Deep.RegionHeld3
import Derived.Test.YtpohhnihgegmfaaGreatDoorBd
import Derived.Test.YtpohhnihgegmfaaGreatDoorBc
import Derived.Test.YtpohhnihgegmfaaGreatDoorBa
import Derived.Test.YtpohhnihgegmfaaGreatDoorBe
import Derived.Laws.StructEq

namespace Go.Proofs.YtpohhnihgegmfaaGreatDoor
open Go.RowKit
set_option linter.unusedVariables false
set_option linter.unusedSimpArgs false

/-- a builder of the call's own in block b holds the bytes L -/
def Bd (w : World) (b : Nat) (L : List UInt8) : Prop := Lib.IsBuilder 93 5 b b (Lib.byteCells L) w
theorem Bd.cast {w : World} {b : Nat} {L L' : List UInt8} (h : Bd w b L) (e : L = L') : Bd w b L' := e ▸ h
theorem Bd.lt {w : World} {b : Nat} {L : List UInt8} (h : Bd w b L) : b < w.heap.size := h.elim (fun x => x.lt) (fun x => x.lt)
theorem Bd.ext {w w' : World} {b : Nat} {L : List UInt8} (h : Bd w b L) (x : Ext w w') : Bd w' b L := by
  have hk : ∀ p, Lib.BuilderAt 93 5 b b p (Lib.byteCells L) w → Lib.BuilderAt 93 5 b b p (Lib.byteCells L) w' := fun p hp => by
    have hlt := hp.lt
    obtain ⟨hB, v, hb, hown, hne⟩ := hp
    exact ⟨hB, v, (x.block hlt).trans hb, own_ext hown x, hne⟩
  exact h.elim (fun y => .inl (hk _ y)) (fun y => .inr (hk _ y))
theorem Bd.new (w : World) : Bd (w.alloc (.cells #[.pointer none, .slice none 0 0] 93)) w.heap.size [] :=
  .inl ⟨Nat.le_refl _, .slice none 0 0, heap_alloc_new w _, World.ownsRow_nil _ _ _ _, by simp [Value.ownBlock]⟩
theorem writeS_c (b : Nat) (L : List UInt8) (s : ByteArray) (w : World) (h : Bd w b L) (hl : L.length + s.size ≤ 1000000) :
    Calls Tryz.prog 52 #[.pointer (some ⟨b, 0, none⟩), .string s] w fun e w' => e = .returned (.tuple #[.int .i64 s.size, .nilIface]) ∧ Bd w' b (L ++ s.data.toList) ∧ Below b w w' ∧ Lib.OthersKept 5 (some b) w w' := by
  refine (writeString_c b b (Lib.byteCells L) s w h (by rw [Lib.byteCells_length]; omega) (Nat.le_of_lt h.lt)).mono ?_
  rintro e w' ⟨rfl, h1, h2, h3⟩
  refine ⟨rfl, ?_, h2, h3⟩
  unfold Bd
  rw [Lib.byteCells_append, ← Lib.strCells_eq]
  exact .inr h1
theorem ba_sz (l : List UInt8) : (⟨l.toArray⟩ : ByteArray).size = l.length := by simp [ByteArray.size]
/-- a block of another type is kept by writing -/
theorem kept_cell {w w' : World} {b g : Nat} {T : TypeId} {cur : Array Value} (h : Blk w g T cur) (hk : Lib.OthersKept 5 (some b) w w') (hb : g ≠ b) (hT : T ≠ 5) : Blk w' g T cur :=
  hk g _ h (by simpa using hb) (fun c fz e => by simp only [Obj.cells.injEq] at e; exact hT e.2.1)
set_option maxRecDepth 100000 in
set_option maxHeartbeats 8000000 in
theorem implCalendarText_c {s : ByteArray} {ma ra : Option Addr} {mc rc : Nat} (wk : Int) {nm : Nat → ByteArray} {c : CalN} {w : World} (h : CalV w s ma ra mc rc nm c) (ht : Tab w) :
    Calls Tryz.prog 21 #[.agg #[.string s, .slice ma c.n mc, .slice ra c.nr rc, .int .i64 wk]] w fun e w' => e = .returned (.string ⟨(calTx s nm c wk).toArray⟩) ∧ Ext w w' := by
  have H := Lib.hid h
  have HT := Lib.hid ht
  clear h ht
  cases hv : calB s nm c wk
  · have HX := Lib.hid (show calTx s nm c wk = [] by rw [calTx, hv]; rfl)
    have HV := Lib.hid (fun (W : World) (hq : Ext w W) => (hv ▸ validCalendar_v wk (H.out.ext hq) : Calls Tryz.prog 31 #[.agg #[.string s, .slice ma c.n mc, .slice ra c.nr rc, .int .i64 wk]] W fun e w' => e = .returned (.bool false) ∧ Ext W w'))
    clear hv
    go_enter Tryz.func21, Tryz.ntmps21
    go_wp2_with (go_at_call 31; ((with_reducible refine (HV.out _ (by repeat (first | with_reducible exact Ext.refl _ | with_reducible assumption | with_reducible refine Ext.alloc ?_ _ | with_reducible refine Ext.drew ?_ | (with_reducible refine Ext.setAt ?_ _ _ _ ?_; rotate_left; omega) | with_reducible refine Ext.trans ?_ (by assumption) | with_reducible exact Past.bel _ | with_reducible refine Ext.trans ?_ (Past.bel _)))).mono ?_); rintro e w' ⟨rfl, hx⟩; (first | (obtain ⟨wx, rfl⟩ := Past.again hx) | (obtain ⟨wx, rfl⟩ := Past.ofd hx) | (obtain ⟨wx, rfl⟩ := Past.of hx))))
    go_ret
    exact ⟨by rw [HX.out]; rfl, (by repeat (first | with_reducible exact Ext.refl _ | with_reducible assumption | with_reducible refine Ext.alloc ?_ _ | with_reducible refine Ext.drew ?_ | (with_reducible refine Ext.setAt ?_ _ _ _ ?_; rotate_left; omega) | with_reducible refine Ext.trans ?_ (by assumption) | with_reducible exact Past.bel _ | with_reducible refine Ext.trans ?_ (Past.bel _)))⟩
  · have HX := Lib.hid (show calTx s nm c wk = calL s nm c wk by rw [calTx, hv]; rfl)
    have HV := Lib.hid (fun (W : World) (hq : Ext w W) => (hv ▸ validCalendar_v wk (H.out.ext hq) : Calls Tryz.prog 31 #[.agg #[.string s, .slice ma c.n mc, .slice ra c.nr rc, .int .i64 wk]] W fun e w' => e = .returned (.bool true) ∧ Ext W w'))
    have b := txB_of hv
    have B := Lib.hid b
    have n20 := b.n20
    have nr6 := b.nr6
    have sz := b.sz
    obtain ⟨A, hA⟩ : ∃ A, A = Lib.itoa wk := ⟨_, rfl⟩
    have la : A.length ≤ 20 := by rw [hA]; exact itoa_len _ b.wk.lo b.wk.hi
    have TA := Lib.hid (fun (W : World) (hq : Ext w W) => (show Calls Tryz.prog 40 #[.int .i64 wk] W (fun e w' => e = .returned (.string ⟨A.toArray⟩) ∧ Ext W w') from by rw [hA]; exact decimal_c _ W b.wk.lo b.wk.hi (HT.out.ext hq)))
    have HA := Lib.hid hA
    have PC := CalP.new 27 s ma ra mc rc wk H.out.mem
    clear hv b hA
    go_enter Tryz.func21, Tryz.ntmps21
    go_wp2_with fail
    refine (HV.out _ (by repeat (first | with_reducible exact Ext.refl _ | with_reducible assumption | with_reducible refine Ext.alloc ?_ _ | with_reducible refine Ext.drew ?_ | (with_reducible refine Ext.setAt ?_ _ _ _ ?_; rotate_left; omega) | with_reducible refine Ext.trans ?_ (by assumption) | with_reducible exact Past.bel _ | with_reducible refine Ext.trans ?_ (Past.bel _)))).mono ?_
    rintro e w1 ⟨rfl, hx1⟩
    have PC1 := PC.ext hx1
    have e1 : Ext w w1 := Ext.trans (by repeat (first | with_reducible exact Ext.refl _ | with_reducible assumption | with_reducible refine Ext.alloc ?_ _ | with_reducible refine Ext.drew ?_ | (with_reducible refine Ext.setAt ?_ _ _ _ ?_; rotate_left; omega) | with_reducible refine Ext.trans ?_ (by assumption) | with_reducible exact Past.bel _ | with_reducible refine Ext.trans ?_ (Past.bel _))) hx1
    have g0 := PC1.lt
    have p0 := PC1.c0
    have p1 := PC1.c1
    have p2 := PC1.c2
    have p3 := PC1.c3
    have HP := Lib.hid PC1
    clear PC PC1 hx1
    go_upto_region 4 with fail
    have B0 := Lib.hid (Bd.new w1)
    have SK := Lib.hid (show ∀ w', Ext w1 w' → (w'.cell? ⟨w.heap.size, 0, none⟩ = some (.string s) ∧ w'.cell? ⟨w.heap.size, 3, none⟩ = some (.int .i64 wk)) from fun w' hq => ⟨(hq.cell g0).trans p0, (hq.cell g0).trans p3⟩)
    have y1 : ¬ 9223372036854775807 < 9 + s.size := by omega
    have y2 : ¬ 9223372036854775807 < 9 + s.size + 1 := by omega
    have y3 : ¬ 9223372036854775807 < 9 + s.size + 1 + A.length := by omega
    have y4 : ¬ 9223372036854775807 < 9 + s.size + 1 + A.length + 1 := by omega
    clear p0 p3
    go_cut [] (fun wx => Ext w1 wx ∧ Bd wx w1.heap.size (hdL s wk))
    case first =>
      go_region_held3 (fun w' => w'.cell? ⟨w.heap.size, 0, none⟩ = some (.string s) ∧ w'.cell? ⟨w.heap.size, 3, none⟩ = some (.int .i64 wk))
        (first | (refine SK.out _ ?_; ((repeat (first | with_reducible exact Ext.refl _ | with_reducible assumption | with_reducible refine Ext.alloc ?_ _ | with_reducible refine Ext.drew ?_ | (with_reducible refine Ext.setAt ?_ _ _ _ ?_; rotate_left; omega) | with_reducible refine Ext.trans ?_ (by assumption) | with_reducible exact Past.bel _ | with_reducible refine Ext.trans ?_ (Past.bel _))); done)) | exact SK.out _ (Below.trans (show Ext w1 _ from (by repeat (first | with_reducible exact Ext.refl _ | with_reducible assumption | with_reducible refine Ext.alloc ?_ _ | with_reducible refine Ext.drew ?_ | (with_reducible refine Ext.setAt ?_ _ _ _ ?_; rotate_left; omega) | with_reducible refine Ext.trans ?_ (by assumption) | with_reducible exact Past.bel _ | with_reducible refine Ext.trans ?_ (Past.bel _)))) hbl))
        (first | (go_at_call 40; ((with_reducible refine (TA.out _ (by repeat (first | with_reducible exact Ext.refl _ | with_reducible assumption | with_reducible refine Ext.alloc ?_ _ | with_reducible refine Ext.drew ?_ | (with_reducible refine Ext.setAt ?_ _ _ _ ?_; rotate_left; omega) | with_reducible refine Ext.trans ?_ (by assumption) | with_reducible exact Past.bel _ | with_reducible refine Ext.trans ?_ (Past.bel _)))).mono ?_); rintro e w' ⟨rfl, hx⟩; (first | (obtain ⟨wx, rfl⟩ := Past.again hx) | (obtain ⟨wx, rfl⟩ := Past.ofd hx) | (obtain ⟨wx, rfl⟩ := Past.of hx)))) | (go_at_call 52; ((with_reducible refine (writeS_c w1.heap.size [] _ _ (B0.out.ext (by repeat (first | with_reducible exact Ext.refl _ | with_reducible assumption | with_reducible refine Ext.alloc ?_ _ | with_reducible refine Ext.drew ?_ | (with_reducible refine Ext.setAt ?_ _ _ _ ?_; rotate_left; omega) | with_reducible refine Ext.trans ?_ (by assumption) | with_reducible exact Past.bel _ | with_reducible refine Ext.trans ?_ (Past.bel _)))) (by simp [ByteArray.size_append, ba_sz]; omega)).mono ?_); rintro e w' ⟨rfl, hbd, hbl, hok⟩)))
      all_goals (go_wp2_with fail; go_meet; exact ⟨Below.trans (show Ext w1 _ from (by repeat (first | with_reducible exact Ext.refl _ | with_reducible assumption | with_reducible refine Ext.alloc ?_ _ | with_reducible refine Ext.drew ?_ | (with_reducible refine Ext.setAt ?_ _ _ _ ?_; rotate_left; omega) | with_reducible refine Ext.trans ?_ (by assumption) | with_reducible exact Past.bel _ | with_reducible refine Ext.trans ?_ (Past.bel _)))) hbl, hbd.cast (by simp [ByteArray.data_append, hdL, HA.out])⟩)
    case rest =>
      obtain ⟨hx, hbd⟩ := hcut
      obtain ⟨v0, rfl⟩ : ∃ v0 : World, v0 = wc := ⟨_, rfl⟩
      clear y1 y2 y3 y4 TA
      have h0 := HP.out.ext hx
      have g0' := h0.lt
      have p1' := h0.c1
      have HB := Lib.hid hbd
      clear h0 hbd
      go_wp2_with fail
      go_loopw [25] (fun i wr => ∃ j : Nat, j ≤ c.n ∧ i = .int .i64 j ∧ Ext w1 wr ∧ Bd wr w1.heap.size (ttM s nm c wk j)) (fun i _ => c.n - (intOf i).toNat)
      case atStart => exact ⟨0, by omega, rfl, hx, HB.out⟩
      case round =>
        clear HB hx g0' p1'
        obtain ⟨j, hj, rfl, hx, hbd⟩ := hrel
        have HB := Lib.hid hbd
        have blt := hbd.lt
        have h0 := HP.out.ext hx
        have g0' := h0.lt
        have p1' := h0.c1
        have p2' := h0.c2
        clear hbd h0
        by_cases hlt : j < c.n
        · have x1 : (j : Int) < (c.n : Int) := by omega
          have x0 : (0 : Int) ≤ (j : Int) := by omega
          have hmm := (H.out.mem.mo.ext (Ext.trans e1 hx)).at hlt
          obtain ⟨b1, o1, e9, hb1, q1, q2, q3⟩ := hmm
          subst e9
          have ln := B.out.nz j hlt
          have LL := ttM_len B.out hj
          have bd := B.out.dy j hlt
          have bl := B.out.lp j hlt
          obtain ⟨D, hD⟩ : ∃ D, D = Lib.itoa (c.dy j) := ⟨_, rfl⟩
          obtain ⟨E, hE⟩ : ∃ E, E = Lib.itoa (c.lp j) := ⟨_, rfl⟩
          have ld : D.length ≤ 20 := by rw [hD]; exact itoa_len _ bd.lo bd.hi
          have le : E.length ≤ 20 := by rw [hE]; exact itoa_len _ bl.lo bl.hi
          have TD := Lib.hid (fun (W : World) (hq : Ext w W) => (show Calls Tryz.prog 40 #[.int .i64 (c.dy j)] W (fun e w' => e = .returned (.string ⟨D.toArray⟩) ∧ Ext W w') from by rw [hD]; exact decimal_c _ W bd.lo bd.hi (HT.out.ext hq)))
          have TE := Lib.hid (fun (W : World) (hq : Ext w W) => (show Calls Tryz.prog 40 #[.int .i64 (c.lp j)] W (fun e w' => e = .returned (.string ⟨E.toArray⟩) ∧ Ext W w') from by rw [hE]; exact decimal_c _ W bl.lo bl.hi (HT.out.ext hq)))
          have HD := Lib.hid hD
          have HE := Lib.hid hE
          have hxw := Ext.trans e1 hx
          have BM := Blk.new wr #[(.string (nm j)), (.int .i64 (c.dy j)), (.int .i64 (c.lp j))] 99
          have hz : w1.heap.size < wr.heap.size := blt
          have SK := Lib.hid (show ∀ w', Ext (wr.alloc (.cells #[.string (nm j), .int .i64 (c.dy j), .int .i64 (c.lp j)] 99)) w' → (w'.cell? ⟨wr.heap.size, 0, none⟩ = some (.string (nm j)) ∧ w'.cell? ⟨wr.heap.size, 1, none⟩ = some (.int .i64 (c.dy j)) ∧ w'.cell? ⟨wr.heap.size, 2, none⟩ = some (.int .i64 (c.lp j))) from fun w' hq => by
            have h := BM.ext hq
            exact ⟨h.cell 0, h.cell 1, h.cell 2⟩)
          have SK2 := Lib.hid (show ∀ W W' : World, Ext (wr.alloc (.cells #[.string (nm j), .int .i64 (c.dy j), .int .i64 (c.lp j)] 99)) W → Lib.OthersKept 5 (some w1.heap.size) W W' → (W'.cell? ⟨wr.heap.size, 0, none⟩ = some (.string (nm j)) ∧ W'.cell? ⟨wr.heap.size, 1, none⟩ = some (.int .i64 (c.dy j)) ∧ W'.cell? ⟨wr.heap.size, 2, none⟩ = some (.int .i64 (c.lp j))) from fun W W' hq hk => by
            have h := kept_cell (BM.ext hq) hk (by omega) (by decide)
            exact ⟨h.cell 0, h.cell 1, h.cell 2⟩)
          clear hD hE bd bl BM
          have y1 : ¬ 9223372036854775807 < 6 + (nm j).size := by omega
          have y2 : ¬ 9223372036854775807 < 6 + (nm j).size + 1 := by omega
          have y3 : ¬ 9223372036854775807 < 6 + (nm j).size + 1 + D.length := by omega
          have y4 : ¬ 9223372036854775807 < 6 + (nm j).size + 1 + D.length + 1 := by omega
          have y5 : ¬ 9223372036854775807 < 6 + (nm j).size + 1 + D.length + 1 + E.length := by omega
          have y6 : ¬ 9223372036854775807 < 6 + (nm j).size + 1 + D.length + 1 + E.length + 1 := by omega
          go_upto_region 8 with fail
          go_region_held3 (fun w' => w'.cell? ⟨wr.heap.size, 0, none⟩ = some (.string (nm j)) ∧ w'.cell? ⟨wr.heap.size, 1, none⟩ = some (.int .i64 (c.dy j)) ∧ w'.cell? ⟨wr.heap.size, 2, none⟩ = some (.int .i64 (c.lp j)))
            (first | (refine SK.out _ ?_; ((repeat (first | with_reducible exact Ext.refl _ | with_reducible assumption | with_reducible refine Ext.alloc ?_ _ | with_reducible refine Ext.drew ?_ | (with_reducible refine Ext.setAt ?_ _ _ _ ?_; rotate_left; omega) | with_reducible refine Ext.trans ?_ (by assumption) | with_reducible exact Past.bel _ | with_reducible refine Ext.trans ?_ (Past.bel _))); done)) | exact SK2.out _ _ (by repeat (first | with_reducible exact Ext.refl _ | with_reducible assumption | with_reducible refine Ext.alloc ?_ _ | with_reducible refine Ext.drew ?_ | (with_reducible refine Ext.setAt ?_ _ _ _ ?_; rotate_left; omega) | with_reducible refine Ext.trans ?_ (by assumption) | with_reducible exact Past.bel _ | with_reducible refine Ext.trans ?_ (Past.bel _))) hok)
            (first | (go_at_call 40; ((with_reducible refine (TD.out _ (by repeat (first | with_reducible exact Ext.refl _ | with_reducible assumption | with_reducible refine Ext.alloc ?_ _ | with_reducible refine Ext.drew ?_ | (with_reducible refine Ext.setAt ?_ _ _ _ ?_; rotate_left; omega) | with_reducible refine Ext.trans ?_ (by assumption) | with_reducible exact Past.bel _ | with_reducible refine Ext.trans ?_ (Past.bel _)))).mono ?_); rintro e w' ⟨rfl, hx⟩; (first | (obtain ⟨wx, rfl⟩ := Past.again hx) | (obtain ⟨wx, rfl⟩ := Past.ofd hx) | (obtain ⟨wx, rfl⟩ := Past.of hx)))) | (go_at_call 40; ((with_reducible refine (TE.out _ (by repeat (first | with_reducible exact Ext.refl _ | with_reducible assumption | with_reducible refine Ext.alloc ?_ _ | with_reducible refine Ext.drew ?_ | (with_reducible refine Ext.setAt ?_ _ _ _ ?_; rotate_left; omega) | with_reducible refine Ext.trans ?_ (by assumption) | with_reducible exact Past.bel _ | with_reducible refine Ext.trans ?_ (Past.bel _)))).mono ?_); rintro e w' ⟨rfl, hx⟩; (first | (obtain ⟨wx, rfl⟩ := Past.again hx) | (obtain ⟨wx, rfl⟩ := Past.ofd hx) | (obtain ⟨wx, rfl⟩ := Past.of hx)))) | (go_at_call 52; ((with_reducible refine (writeS_c w1.heap.size (ttM s nm c wk j) _ _ (HB.out.ext (by repeat (first | with_reducible exact Ext.refl _ | with_reducible assumption | with_reducible refine Ext.alloc ?_ _ | with_reducible refine Ext.drew ?_ | (with_reducible refine Ext.setAt ?_ _ _ _ ?_; rotate_left; omega) | with_reducible refine Ext.trans ?_ (by assumption) | with_reducible exact Past.bel _ | with_reducible refine Ext.trans ?_ (Past.bel _)))) (by simp [ByteArray.size_append, ba_sz]; omega)).mono ?_); rintro e w' ⟨rfl, hbd, hbl, hok⟩)))
          all_goals (go_wp2_with fail; exact ⟨⟨j + 1, by omega, by go_num, Below.trans (show Ext w1 _ from (by repeat (first | with_reducible exact Ext.refl _ | with_reducible assumption | with_reducible refine Ext.alloc ?_ _ | with_reducible refine Ext.drew ?_ | (with_reducible refine Ext.setAt ?_ _ _ _ ?_; rotate_left; omega) | with_reducible refine Ext.trans ?_ (by assumption) | with_reducible exact Past.bel _ | with_reducible refine Ext.trans ?_ (Past.bel _)))) hbl, hbd.cast (by rw [ttM]; simp [ByteArray.data_append, moL, HD.out, HE.out])⟩, by simp [intOf]; omega⟩)
        · have x1 : ¬ (j : Int) < (c.n : Int) := by omega
          obtain rfl : j = c.n := by omega
          go_wp2_with fail
          go_loopw [48] (fun i wr => ∃ j : Nat, j ≤ c.nr ∧ i = .int .i64 j ∧ Ext w1 wr ∧ Bd wr w1.heap.size (ttR s nm c wk j)) (fun i _ => c.nr - (intOf i).toNat)
          case atStart => exact ⟨0, by omega, rfl, hx, HB.out⟩
          case round =>
            clear HB hx g0' p1' p2' blt
            obtain ⟨j, hj, rfl, hx, hbd⟩ := hrel
            have HB := Lib.hid hbd
            have blt := hbd.lt
            have h0 := HP.out.ext hx
            have g0' := h0.lt
            have p2' := h0.c2
            clear hbd h0
            by_cases hlt : j < c.nr
            · have x1 : (j : Int) < (c.nr : Int) := by omega
              have x0 : (0 : Int) ≤ (j : Int) := by omega
              have hmm := (H.out.mem.ru.ext (Ext.trans e1 hx)).at hlt
              obtain ⟨b1, o1, e9, hb1, q1, q2, q3⟩ := hmm
              subst e9
              obtain ⟨lfv, hlf⟩ : ∃ b, b = c.lf j := ⟨_, rfl⟩
              rw [← hlf] at q3
              have HF := Lib.hid hlf
              have LL := ttR_len B.out hj
              clear hlf
              have bd := B.out.ev j hlt
              have bl := B.out.rs j hlt
              obtain ⟨D, hD⟩ : ∃ D, D = Lib.itoa (c.ev j) := ⟨_, rfl⟩
              obtain ⟨E, hE⟩ : ∃ E, E = Lib.itoa (c.rs j) := ⟨_, rfl⟩
              have ld : D.length ≤ 20 := by rw [hD]; exact itoa_len _ bd.lo bd.hi
              have le : E.length ≤ 20 := by rw [hE]; exact itoa_len _ bl.lo bl.hi
              have TD := Lib.hid (fun (W : World) (hq : Ext w W) => (show Calls Tryz.prog 40 #[.int .i64 (c.ev j)] W (fun e w' => e = .returned (.string ⟨D.toArray⟩) ∧ Ext W w') from by rw [hD]; exact decimal_c _ W bd.lo bd.hi (HT.out.ext hq)))
              have TE := Lib.hid (fun (W : World) (hq : Ext w W) => (show Calls Tryz.prog 40 #[.int .i64 (c.rs j)] W (fun e w' => e = .returned (.string ⟨E.toArray⟩) ∧ Ext W w') from by rw [hE]; exact decimal_c _ W bl.lo bl.hi (HT.out.ext hq)))
              have HD := Lib.hid hD
              have HE := Lib.hid hE
              have hxw := Ext.trans e1 hx
              have BM := Blk.new wr #[(.int .i64 (c.ev j)), (.int .i64 (c.rs j)), (.bool lfv)] 101
              have hz : w1.heap.size < wr.heap.size := blt
              have SK := Lib.hid (show ∀ w', Ext (wr.alloc (.cells #[.int .i64 (c.ev j), .int .i64 (c.rs j), .bool lfv] 101)) w' → (w'.cell? ⟨wr.heap.size, 0, none⟩ = some (.int .i64 (c.ev j)) ∧ w'.cell? ⟨wr.heap.size, 1, none⟩ = some (.int .i64 (c.rs j)) ∧ w'.cell? ⟨wr.heap.size, 2, none⟩ = some (.bool lfv)) from fun w' hq => by
                have h := BM.ext hq
                exact ⟨h.cell 0, h.cell 1, h.cell 2⟩)
              have SK2 := Lib.hid (show ∀ W W' : World, Ext (wr.alloc (.cells #[.int .i64 (c.ev j), .int .i64 (c.rs j), .bool lfv] 101)) W → Lib.OthersKept 5 (some w1.heap.size) W W' → (W'.cell? ⟨wr.heap.size, 0, none⟩ = some (.int .i64 (c.ev j)) ∧ W'.cell? ⟨wr.heap.size, 1, none⟩ = some (.int .i64 (c.rs j)) ∧ W'.cell? ⟨wr.heap.size, 2, none⟩ = some (.bool lfv)) from fun W W' hq hk => by
                have h := kept_cell (BM.ext hq) hk (by omega) (by decide)
                exact ⟨h.cell 0, h.cell 1, h.cell 2⟩)
              clear hD hE bd bl BM
              have y1 : ¬ 9223372036854775807 < 5 + D.length := by omega
              have y2 : ¬ 9223372036854775807 < 5 + D.length + 1 := by omega
              have y3 : ¬ 9223372036854775807 < 5 + D.length + 1 + E.length := by omega
              have y4 : ¬ 9223372036854775807 < 5 + D.length + 1 + E.length + 1 := by omega
              have y5 : ¬ 9223372036854775807 < 5 + D.length + 1 + E.length + 1 + 3 := by omega
              have y6 : ¬ 9223372036854775807 < 5 + D.length + 1 + E.length + 1 + 3 + 1 := by omega
              have y7 : ¬ 9223372036854775807 < 5 + D.length + 1 + E.length + 1 + 2 := by omega
              have y8 : ¬ 9223372036854775807 < 5 + D.length + 1 + E.length + 1 + 2 + 1 := by omega
              cases lfv
              · go_upto_region 16 with fail
                go_region_held3 (fun w' => w'.cell? ⟨wr.heap.size, 0, none⟩ = some (.int .i64 (c.ev j)) ∧ w'.cell? ⟨wr.heap.size, 1, none⟩ = some (.int .i64 (c.rs j)) ∧ w'.cell? ⟨wr.heap.size, 2, none⟩ = some (.bool false))
                  (first | (refine SK.out _ ?_; ((repeat (first | with_reducible exact Ext.refl _ | with_reducible assumption | with_reducible refine Ext.alloc ?_ _ | with_reducible refine Ext.drew ?_ | (with_reducible refine Ext.setAt ?_ _ _ _ ?_; rotate_left; omega) | with_reducible refine Ext.trans ?_ (by assumption) | with_reducible exact Past.bel _ | with_reducible refine Ext.trans ?_ (Past.bel _))); done)) | exact SK2.out _ _ (by repeat (first | with_reducible exact Ext.refl _ | with_reducible assumption | with_reducible refine Ext.alloc ?_ _ | with_reducible refine Ext.drew ?_ | (with_reducible refine Ext.setAt ?_ _ _ _ ?_; rotate_left; omega) | with_reducible refine Ext.trans ?_ (by assumption) | with_reducible exact Past.bel _ | with_reducible refine Ext.trans ?_ (Past.bel _))) hok)
                  (first | (go_at_call 40; ((with_reducible refine (TD.out _ (by repeat (first | with_reducible exact Ext.refl _ | with_reducible assumption | with_reducible refine Ext.alloc ?_ _ | with_reducible refine Ext.drew ?_ | (with_reducible refine Ext.setAt ?_ _ _ _ ?_; rotate_left; omega) | with_reducible refine Ext.trans ?_ (by assumption) | with_reducible exact Past.bel _ | with_reducible refine Ext.trans ?_ (Past.bel _)))).mono ?_); rintro e w' ⟨rfl, hx⟩; (first | (obtain ⟨wx, rfl⟩ := Past.again hx) | (obtain ⟨wx, rfl⟩ := Past.ofd hx) | (obtain ⟨wx, rfl⟩ := Past.of hx)))) | (go_at_call 40; ((with_reducible refine (TE.out _ (by repeat (first | with_reducible exact Ext.refl _ | with_reducible assumption | with_reducible refine Ext.alloc ?_ _ | with_reducible refine Ext.drew ?_ | (with_reducible refine Ext.setAt ?_ _ _ _ ?_; rotate_left; omega) | with_reducible refine Ext.trans ?_ (by assumption) | with_reducible exact Past.bel _ | with_reducible refine Ext.trans ?_ (Past.bel _)))).mono ?_); rintro e w' ⟨rfl, hx⟩; (first | (obtain ⟨wx, rfl⟩ := Past.again hx) | (obtain ⟨wx, rfl⟩ := Past.ofd hx) | (obtain ⟨wx, rfl⟩ := Past.of hx)))) | (go_at_call 52; ((with_reducible refine (writeS_c w1.heap.size (ttR s nm c wk j) _ _ (HB.out.ext (by repeat (first | with_reducible exact Ext.refl _ | with_reducible assumption | with_reducible refine Ext.alloc ?_ _ | with_reducible refine Ext.drew ?_ | (with_reducible refine Ext.setAt ?_ _ _ _ ?_; rotate_left; omega) | with_reducible refine Ext.trans ?_ (by assumption) | with_reducible exact Past.bel _ | with_reducible refine Ext.trans ?_ (Past.bel _)))) (by simp [ByteArray.size_append, ba_sz]; omega)).mono ?_); rintro e w' ⟨rfl, hbd, hbl, hok⟩)))
                all_goals (go_wp2_with fail; exact ⟨⟨j + 1, by omega, by go_num, Below.trans (show Ext w1 _ from (by repeat (first | with_reducible exact Ext.refl _ | with_reducible assumption | with_reducible refine Ext.alloc ?_ _ | with_reducible refine Ext.drew ?_ | (with_reducible refine Ext.setAt ?_ _ _ _ ?_; rotate_left; omega) | with_reducible refine Ext.trans ?_ (by assumption) | with_reducible exact Past.bel _ | with_reducible refine Ext.trans ?_ (Past.bel _)))) hbl, hbd.cast (by rw [ttR]; simp [ByteArray.data_append, ruL, HD.out, HE.out, ← HF.out, yn])⟩, by simp [intOf]; omega⟩)
              · go_upto_region 16 with fail
                go_region_held3 (fun w' => w'.cell? ⟨wr.heap.size, 0, none⟩ = some (.int .i64 (c.ev j)) ∧ w'.cell? ⟨wr.heap.size, 1, none⟩ = some (.int .i64 (c.rs j)) ∧ w'.cell? ⟨wr.heap.size, 2, none⟩ = some (.bool true))
                  (first | (refine SK.out _ ?_; ((repeat (first | with_reducible exact Ext.refl _ | with_reducible assumption | with_reducible refine Ext.alloc ?_ _ | with_reducible refine Ext.drew ?_ | (with_reducible refine Ext.setAt ?_ _ _ _ ?_; rotate_left; omega) | with_reducible refine Ext.trans ?_ (by assumption) | with_reducible exact Past.bel _ | with_reducible refine Ext.trans ?_ (Past.bel _))); done)) | exact SK2.out _ _ (by repeat (first | with_reducible exact Ext.refl _ | with_reducible assumption | with_reducible refine Ext.alloc ?_ _ | with_reducible refine Ext.drew ?_ | (with_reducible refine Ext.setAt ?_ _ _ _ ?_; rotate_left; omega) | with_reducible refine Ext.trans ?_ (by assumption) | with_reducible exact Past.bel _ | with_reducible refine Ext.trans ?_ (Past.bel _))) hok)
                  (first | (go_at_call 40; ((with_reducible refine (TD.out _ (by repeat (first | with_reducible exact Ext.refl _ | with_reducible assumption | with_reducible refine Ext.alloc ?_ _ | with_reducible refine Ext.drew ?_ | (with_reducible refine Ext.setAt ?_ _ _ _ ?_; rotate_left; omega) | with_reducible refine Ext.trans ?_ (by assumption) | with_reducible exact Past.bel _ | with_reducible refine Ext.trans ?_ (Past.bel _)))).mono ?_); rintro e w' ⟨rfl, hx⟩; (first | (obtain ⟨wx, rfl⟩ := Past.again hx) | (obtain ⟨wx, rfl⟩ := Past.ofd hx) | (obtain ⟨wx, rfl⟩ := Past.of hx)))) | (go_at_call 40; ((with_reducible refine (TE.out _ (by repeat (first | with_reducible exact Ext.refl _ | with_reducible assumption | with_reducible refine Ext.alloc ?_ _ | with_reducible refine Ext.drew ?_ | (with_reducible refine Ext.setAt ?_ _ _ _ ?_; rotate_left; omega) | with_reducible refine Ext.trans ?_ (by assumption) | with_reducible exact Past.bel _ | with_reducible refine Ext.trans ?_ (Past.bel _)))).mono ?_); rintro e w' ⟨rfl, hx⟩; (first | (obtain ⟨wx, rfl⟩ := Past.again hx) | (obtain ⟨wx, rfl⟩ := Past.ofd hx) | (obtain ⟨wx, rfl⟩ := Past.of hx)))) | (go_at_call 52; ((with_reducible refine (writeS_c w1.heap.size (ttR s nm c wk j) _ _ (HB.out.ext (by repeat (first | with_reducible exact Ext.refl _ | with_reducible assumption | with_reducible refine Ext.alloc ?_ _ | with_reducible refine Ext.drew ?_ | (with_reducible refine Ext.setAt ?_ _ _ _ ?_; rotate_left; omega) | with_reducible refine Ext.trans ?_ (by assumption) | with_reducible exact Past.bel _ | with_reducible refine Ext.trans ?_ (Past.bel _)))) (by simp [ByteArray.size_append, ba_sz]; omega)).mono ?_); rintro e w' ⟨rfl, hbd, hbl, hok⟩)))
                all_goals (go_wp2_with fail; exact ⟨⟨j + 1, by omega, by go_num, Below.trans (show Ext w1 _ from (by repeat (first | with_reducible exact Ext.refl _ | with_reducible assumption | with_reducible refine Ext.alloc ?_ _ | with_reducible refine Ext.drew ?_ | (with_reducible refine Ext.setAt ?_ _ _ _ ?_; rotate_left; omega) | with_reducible refine Ext.trans ?_ (by assumption) | with_reducible exact Past.bel _ | with_reducible refine Ext.trans ?_ (Past.bel _)))) hbl, hbd.cast (by rw [ttR]; simp [ByteArray.data_append, ruL, HD.out, HE.out, ← HF.out, yn])⟩, by simp [intOf]; omega⟩)
            · have x1 : ¬ (j : Int) < (c.nr : Int) := by omega
              obtain rfl : j = c.nr := by omega
              go_wp2_with fail
              refine (Tryz.Builder_String_any w1.heap.size w1.heap.size _ _ HB.out (Nat.le_of_lt blt)).mono ?_
              rintro e w' ⟨rfl, hbl⟩
              have hxx := Ext.trans e1 (Below.trans hx hbl)
              go_wp2_with fail
              go_ret
              exact ⟨by rw [HX.out, calL]; rfl, hxx⟩
end Go.Proofs.YtpohhnihgegmfaaGreatDoor

namespace Go.Proofs.YtpohhnihgegmfaaGreatDoor
open Go.RowKit
set_option linter.unusedVariables false
set_option linter.unusedSimpArgs false

/-- lines in memory -/
def Lns (w : World) (a : Option Addr) (Ps : List ByteArray) : Prop := ∀ j p, Ps[j]? = some p → ∃ g, a = some ⟨g, 0, none⟩ ∧ g < w.heap.size ∧ w.cell? ⟨g, j, none⟩ = some (.string p)
theorem Lns.ext {w w' : World} {a : Option Addr} {Ps : List ByteArray} (h : Lns w a Ps) (x : Ext w w') : Lns w' a Ps := fun j p hj => by
  obtain ⟨g, e, hg, hc⟩ := h j p hj
  exact ⟨g, e, Nat.lt_of_lt_of_le hg x.size, (x.cell hg).trans hc⟩
/-- texts' sizes -/
structure Szs (C : Cl) : Prop where
  nm : C.nm.size ≤ 1048576
  mo : ∀ q ∈ C.M, q.1.size ≤ 1048576
theorem Szs.z : Szs Cl.z := ⟨by decide, fun q hq => by simp [Cl.z] at hq⟩
theorem sz_of {a : List UInt8} (h : a.length ≤ 1048576) : (⟨a.toArray⟩ : ByteArray).size ≤ 1048576 := by simpa [ByteArray.size] using h
theorem Szs.step {C D : Cl} {ws : List (List UInt8)} (h : Szs C) (hs : stepI C ws = some D) (hw : ∀ x ∈ ws, x.length ≤ 1048576) : Szs D := by
  match ws, hs, hw with
  | [k, a, b], hs, hw =>
    simp only [stepI] at hs
    split at hs
    · cases hs; exact ⟨sz_of (hw a (by simp)), h.mo⟩
    · cases hs
  | [k, a, b, c], hs, hw =>
    simp only [stepI] at hs
    split at hs
    · cases hs
      refine ⟨h.nm, fun q hq => ?_⟩
      rcases List.mem_append.1 hq with hq | hq
      · exact h.mo q hq
      · rw [List.mem_singleton.1 hq]; exact sz_of (hw a (by simp))
    · split at hs
      · cases hs; exact ⟨h.nm, h.mo⟩
      · cases hs
  | [], h, _ => cases h
  | [_], h, _ => cases h
  | [_, _], h, _ => cases h
  | _ :: _ :: _ :: _ :: _ :: _, h, _ => cases h
/-- lines, or none -/
theorem linesOf_any (s : ByteArray) (w : World) (hs : s.size ≤ 1048576) (hg : Gl w) {C : Cl} {b : Bool} (r : CR s.data.toList C b) :
    (b = false ∧ Calls Tryz.prog 49 #[.string s] w fun e w' => e = .returned (.tuple #[.slice none 0 0, .bool false]) ∧ Ext w w') ∨
    (Calls Tryz.prog 49 #[.string s] w fun e w' => ∃ (Ps : List ByteArray) (a : Option Addr), e = .returned (.tuple #[.slice a Ps.length Ps.length, .bool true]) ∧ Ext w w' ∧ Lns w' a Ps ∧ Ps.length ≤ 1048576 ∧ (∀ p ∈ Ps, p.size ≤ 1048576) ∧ (b = true → runI Cl.z (lws (Ps.map (·.data.toList))) = some C)) := by
  by_cases h : ∃ t, s.data.toList = t ++ [10]
  · obtain ⟨t, ht⟩ := h
    right
    refine (linesOf_yes s t w hs ht hg).mono ?_
    rintro e w' ⟨Ps, g, rfl, hx, kb, hp⟩
    have hl : t.length + 1 = s.size := by
      have := congrArg List.length ht
      rw [List.length_append, ba_len] at this; simpa using this.symm
    refine ⟨Ps, _, rfl, hx, fun j p hj => ⟨g, rfl, kb.lt, ?_⟩, ?_, fun p hq => ?_, fun hb => ?_⟩
    · rw [kb.cell]; simp [hj]
    · have h1 := congrArg List.length hp
      rw [List.length_map] at h1
      have := splitL_many 10 t
      omega
    · have h1 : p.data.toList ∈ splitL 10 t := by rw [← hp]; exact List.mem_map.2 ⟨p, hq, rfl⟩
      have := splitL_len 10 t _ h1
      rw [ba_len] at this; omega
    · rw [hp]; rw [ht] at r; exact r.impl hb
  · have h' : ∀ t, s.data.toList ≠ t ++ [10] := fun t e => h ⟨t, e⟩
    have hb := r.noend h'
    by_cases h0 : s.data.toList = []
    · right
      obtain rfl := ba_of h0
      refine (linesOf_0 w).mono ?_
      rintro e w' ⟨rfl, hx⟩
      exact ⟨[], none, rfl, hx, fun j p hj => by simp at hj, by simp, fun p hp => by simp at hp, fun e => by rw [hb] at e; cases e⟩
    · exact .inl ⟨hb, linesOf_no s w hs h0 h'⟩
end Go.Proofs.YtpohhnihgegmfaaGreatDoor

namespace Go.Proofs.YtpohhnihgegmfaaGreatDoor
open Go.RowKit
set_option linter.unusedVariables false
set_option linter.unusedSimpArgs false

theorem three_of {Ps : List ByteArray} (h : Ps.length = 3) : ∃ p0 p1 p2, Ps = [p0, p1, p2] := by
  match Ps, h with
  | [a, b, c], _ => exact ⟨a, b, c, rfl⟩
theorem Parts.le {c : UInt8} {s : ByteArray} {Ps : List ByteArray} (h : Parts c s Ps) : ∀ p, p ∈ Ps → p.size ≤ s.size := fun p hp => by
  have h1 : p.data.toList ∈ splitL c s.data.toList := by rw [← h]; exact List.mem_map.2 ⟨p, hp, rfl⟩
  have := splitL_len c _ _ h1
  rwa [ba_len', ba_len'] at this
theorem dtx_eq (y m d : Int) : dtx y m d = if plD y m d then dtP y m d else [] := by
  rw [dtx]
  cases h : (inB y 0 9999 && (inB m 0 9999 && inB d 0 9999))
  · rw [show plD y m d = false from h]; rfl
  · rw [show plD y m d = true from h]; simp [dtP]
end Go.Proofs.YtpohhnihgegmfaaGreatDoor

namespace Go.Proofs.YtpohhnihgegmfaaGreatDoor
open Go.RowKit
set_option linter.unusedVariables false
set_option linter.unusedSimpArgs false

theorem capOf3 {w : World} {base : Nat} {e : TypeId} {size : Nat} {a : Option Addr} {n cap : Nat} {xs : List Value} (h : w.ownsRow base e size (.slice a n cap) n xs) : n ≤ cap ∧ cap ≤ maxLen := by
  rcases h.2 with ⟨h1, h2⟩ | ⟨g, cap', cur, h1, _, _, h2, h3, _⟩
  · simp only [Value.slice.injEq] at h1
    obtain ⟨_, h3, h4⟩ := h1
    subst h4; exact ⟨by omega, Nat.zero_le _⟩
  · simp only [Value.slice.injEq] at h1
    omega
theorem CB.v {w0 w : World} {gc : Nat} {C : Cl} {a1 a2 : Option Addr} {c1 c2 : Nat} (h : CB w0 w gc C a1 c1 a2 c2) (hM : C.M.length ≤ 1048576) (hR : C.R.length ≤ 1048576) (hz : Szs C) : CalV w C.nm a1 a2 c1 c2 (nmOf C.M) (calOf C.M C.R) := by
  have hc := capOf3 h.om
  refine ⟨hM, hR, hc.1, hc.2, Nat.le_trans hz.nm (by omega), fun i hi => ?_, own_calM h.om h.or⟩
  have hi' : i < C.M.length := hi
  have e : nmOf C.M i = C.M[i].1 := by simp [nmOf, List.getD_eq_getElem?_getD, List.getElem?_eq_getElem hi']
  rw [e]
  exact Nat.le_trans (hz.mo _ (List.getElem_mem hi')) (by omega)
/-- what reading a calendar returns -/
def RdC (w w' : World) (C : Cl) (b : Bool) (e : Ending) : Prop :=
  ∃ a1 c1 a2 c2, e = .returned (.tuple #[.agg #[.string C.nm, .slice a1 C.M.length c1, .slice a2 C.R.length c2, .int .i64 C.wk], .bool b]) ∧ Ext w w' ∧
    w'.ownsRow w.heap.size 99 3 (.slice a1 C.M.length c1) C.M.length (MT C.M) ∧ w'.ownsRow w.heap.size 101 3 (.slice a2 C.R.length c2) C.R.length (RT C.R)
theorem zero_rows (w : World) (B : Nat) (e : TypeId) : w.ownsRow B e 3 (.slice none 0 0) 0 [] := ⟨rfl, .inl ⟨rfl, rfl⟩⟩
theorem runI_take {Ps : List (List (List UInt8))} {j : Nat} {C D : Cl} (hj : j < Ps.length) (h : runI C (Ps.take j) = some D) :
    (∀ E, stepI D Ps[j] = some E → runI C (Ps.take (j + 1)) = some E) ∧ (stepI D Ps[j] = none → runI C Ps = none) := by
  have e1 : Ps.take (j + 1) = Ps.take j ++ [Ps[j]] := by rw [List.take_add_one, List.getElem?_eq_getElem hj]; rfl
  have e2 : Ps = Ps.take j ++ Ps[j] :: Ps.drop (j + 1) := by rw [← List.drop_eq_getElem_cons hj, List.take_append_drop]
  refine ⟨fun E hE => ?_, fun hE => ?_⟩
  · rw [e1, runI_app, h]; simp [runI, hE]
  · have e3 := congrArg (runI C) e2
    rw [e3, runI_app, h]; simp [runI, hE]
theorem blk_ne {w : World} {g h : Nat} {T U : TypeId} {A B : Array Value} (h1 : Blk w g T A) (h2 : Blk w h U B) (hT : T ≠ U) : g ≠ h := fun e => by
  subst e
  have h1' : w.heap[g]? = some (.cells A T (0, 0)) := h1
  have h2' : w.heap[g]? = some (.cells B U (0, 0)) := h2
  rw [h1'] at h2'
  simp only [Option.some.injEq, Obj.cells.injEq] at h2'
  exact hT h2'.2.1
theorem own_blk_ne {w : World} {g base z n : Nat} {e U : TypeId} {A : Array Value} {v : Value} {xs : List Value} (h1 : w.ownsRow base e z v n xs) (h2 : Blk w g U A) (hT : e ≠ U) : ∀ k, v.ownBlock = some k → k ≠ g := fun k hk => by
  rcases h1.2 with ⟨rfl, _⟩ | ⟨g1, c1, u1, rfl, _, k1, _⟩
  · simp [Value.ownBlock] at hk
  · simp only [Value.ownBlock, Option.some.injEq] at hk
    subst hk
    exact blk_ne (T := e) (A := u1) k1 h2 hT
theorem own_res {w : World} {B base z n : Nat} {e : TypeId} {v : Value} {xs : List Value} {x0 x1 x2 x3 : Value} (h : w.ownsRow B e z v n xs) (hb : base < B) :
    ((((w.setCell ⟨base, 0, none⟩ x0).setCell ⟨base, 1, none⟩ x1).setCell ⟨base, 2, none⟩ x2).setCell ⟨base, 3, none⟩ x3).ownsRow base e z v n xs := by
  have hne : v.ownBlock ≠ some base := fun e => by have := (h.lt _ e).1; omega
  have h1 := (((h.kept (grown_set base 0 x0) (.inr hne)).kept (grown_set base 1 x1) (.inr hne)).kept (grown_set base 2 x2) (.inr hne)).kept (grown_set base 3 x3) (.inr hne)
  refine ⟨h1.1, ?_⟩
  rcases h1.2 with h2 | ⟨g, c, u, e1, e2, e3⟩
  · exact .inl h2
  · exact .inr ⟨g, c, u, e1, by omega, e3⟩
/-- the loop's state: j lines read -/
def LpC (w2 wr : World) (L : List (List (List UInt8))) (j : Nat) : Prop := ∃ (D : Cl) (a1 : Option Addr) (c1 : Nat) (a2 : Option Addr) (c2 : Nat), runI Cl.z (L.take j) = some D ∧ D.M.length + D.R.length ≤ j ∧ Szs D ∧ CB w2 wr w2.heap.size D a1 c1 a2 c2
theorem LpC.start (w2 : World) (L : List (List (List UInt8))) : LpC w2 (w2.alloc (.cells #[.string ⟨#[]⟩, .slice none 0 0, .slice none 0 0, .int .i64 0] 27)) L 0 :=
  ⟨Cl.z, none, 0, none, 0, rfl, Nat.le_refl _, Szs.z, ⟨Nat.le_refl _, (Ext.refl _).alloc _, Blk.new _ _ _, zero_rows _ _ _, zero_rows _ _ _⟩⟩
set_option maxRecDepth 100000 in
set_option maxHeartbeats 4000000 in
theorem implReadCalendar_c (s : ByteArray) (w : World) (hs : s.size ≤ 1048576) (hg : Gl w) {C : Cl} {b : Bool} (r : CR s.data.toList C b) :
    Calls Tryz.prog 20 #[.string s] w fun e w' => RdC w w' C b e := by
  have HG := Lib.hid hg
  have HR := Lib.hid r
  have KD := Blk.new w #[.string ⟨#[]⟩, .slice none 0 0, .slice none 0 0, .int .i64 0] 27
  obtain ⟨w1', hw1'⟩ : ∃ W, W = w.alloc (.cells #[.string ⟨#[]⟩, .slice none 0 0, .slice none 0 0, .int .i64 0] 27) := ⟨_, rfl⟩
  have hx0 : Ext w w1' := by rw [hw1']; exact (Ext.refl w).alloc _
  rcases linesOf_any s w1' hs (hg.ext hx0) r with ⟨rfl, hl⟩ | hl
  · obtain ⟨rfl, -⟩ := r.no rfl
    have HL := Lib.hid (hw1' ▸ hl)
    clear hl hg r hx0 hw1'
    go_enter Tryz.func20, Tryz.ntmps20
    go_wp2_with fail
    refine (HL.out).mono ?_
    rintro e w2 ⟨rfl, hx2⟩
    have K2 := KD.ext hx2
    have l2 := K2.lt
    have d0 := K2.cell 0
    have d1 := K2.cell 1
    have d2 := K2.cell 2
    have d3 := K2.cell 3
    have f0 := K2.frozen 0
    have f1 := K2.frozen 1
    have f2 := K2.frozen 2
    have f3 := K2.frozen 3
    have e2 : Ext w w2 := Ext.trans ((Ext.refl w).alloc _) hx2
    clear K2 KD hx2
    go_wp2_with fail
    refine bodyPost_ret (v := .tuple #[.agg #[.string ⟨#[]⟩, .slice none 0 0, .slice none 0 0, .int .i64 0], .bool false]) (by simp [results, Tryz.results20, go_sem, d0, d1, d2, d3]) rfl ?_
    exact ⟨none, 0, none, 0, rfl, Ext.setAt (Ext.setAt (Ext.setAt (Ext.setAt e2 _ _ _ (Nat.le_refl _)) _ _ _ (Nat.le_refl _)) _ _ _ (Nat.le_refl _)) _ _ _ (Nat.le_refl _), zero_rows _ _ _, zero_rows _ _ _⟩
  · have HL := Lib.hid (hw1' ▸ hl)
    clear hl hg r hx0 hw1'
    go_enter Tryz.func20, Tryz.ntmps20
    go_wp2_with fail
    refine (HL.out).mono ?_
    rintro e w2 ⟨Ps, a, rfl, hx2, hln, hn, hz, hrun⟩
    have K2 := KD.ext hx2
    have e2 : Ext w w2 := Ext.trans ((Ext.refl w).alloc _) hx2
    have HLN := Lib.hid hln
    have HRUN := Lib.hid hrun
    have HK2 := Lib.hid K2
    have HZ := Lib.hid hz
    have l2 := K2.lt
    clear K2 KD hx2 hln hrun HL hz
    go_wp2_with fail
    obtain ⟨L, hL⟩ : ∃ L, L = lws (Ps.map (·.data.toList)) := ⟨_, rfl⟩
    rw [← hL] at HRUN
    have HLL := Lib.hid hL
    clear hL
    go_loopw [19] (fun i wr => ∃ j : Nat, j ≤ Ps.length ∧ i = .int .i64 (j : Int) ∧ LpC w2 wr L j) (fun i _ => Ps.length - (intOf i).toNat)
    case atStart => exact ⟨0, by omega, rfl, LpC.start w2 L⟩
    case round =>
      obtain ⟨j, hj, rfl, D, a1, c1, a2, c2, hr, hlen, hsz, cb⟩ := hrel
      have CBh := Lib.hid cb
      have HSZ := Lib.hid hsz
      have HRJ := Lib.hid hr
      have lc := cb.cal.lt
      have xx := Lib.hid cb.x
      clear hr hsz cb
      by_cases hlt : j < Ps.length
      · have x1 : (j : Int) < (Ps.length : Int) := by omega
        have x0 : (0 : Int) ≤ (j : Int) := by omega
        obtain ⟨p, hp⟩ : ∃ p, Ps[j]? = some p := ⟨_, List.getElem?_eq_getElem hlt⟩
        obtain ⟨g, rfl, hg2, hcell⟩ := (HLN.out.ext xx.out) j p hp
        have hpz : p.size ≤ 1048576 := HZ.out p (List.mem_of_getElem? hp)
        have hLj : ∃ h : j < L.length, L[j] = splitL 32 p.data.toList := by
          rw [HLL.out]
          refine ⟨by simp [lws]; omega, ?_⟩
          have : Ps[j] = p := by rw [List.getElem?_eq_getElem hlt] at hp; exact Option.some.inj hp
          simp [lws, this]
        have HLJ := Lib.hid hLj
        clear hp hLj
        go_wp2_with fail
        refine (wordsOf_c p _ hpz (HG.out.ext (Ext.trans e2 xx.out))).mono ?_
        rintro e w4 ⟨Ws, gw, rfl, hx4, kb, hpp⟩
        have CB4 := CBh.out.ext hx4
        have hWs : Ws ≠ [] := fun e => by
          subst e
          exact splitL_ne 32 p.data.toList (by rw [← hpp]; rfl)
        have HC := Lib.hid (line_c w2 w2.heap.size gw D a1 c1 a2 c2 Ws w4 CB4 (by omega) (by omega) kb hWs (fun q hq => Nat.le_trans (Parts.le hpp q hq) hpz) (blk_ne kb CB4.cal (by decide)) (own_blk_ne CB4.om kb (by decide)) (own_blk_ne CB4.or kb (by decide)) (HG.out.ext e2))
        have HPP := Lib.hid (show Ws.map (·.data.toList) = splitL 32 p.data.toList from hpp)
        have HCB4 := Lib.hid CB4
        clear hWs kb hpp CB4 hx4 hcell
        go_wp2_with fail
        refine (HC.out).mono ?_
        rintro e w5 hl
        cases hst : stepI D (Ws.map (·.data.toList)) with
        | none =>
          rw [hst] at hl
          obtain ⟨rfl, rfl⟩ := hl
          obtain ⟨hj', hLe⟩ := HLJ.out
          have hno := (runI_take hj' HRJ.out).2 (by rw [hLe, ← HPP.out]; exact hst)
          obtain rfl : b = false := by
            cases b
            · rfl
            · rw [HRUN.out rfl] at hno; cases hno
          obtain ⟨rfl, -⟩ := HR.out.no rfl
          have e5 : Ext w w5 := Ext.trans e2 HCB4.out.x
          have K5 := HK2.out.ext HCB4.out.x
          have l5 := K5.lt
          have d0 := K5.cell 0
          have d1 := K5.cell 1
          have d2 := K5.cell 2
          have d3 := K5.cell 3
          have f0 := K5.frozen 0
          have f1 := K5.frozen 1
          have f2 := K5.frozen 2
          have f3 := K5.frozen 3
          clear K5 hst hno hLe hj'
          go_wp2_with fail
          refine bodyPost_ret (v := .tuple #[.agg #[.string ⟨#[]⟩, .slice none 0 0, .slice none 0 0, .int .i64 0], .bool false]) (by simp [results, Tryz.results20, go_sem, d0, d1, d2, d3]) rfl ?_
          exact ⟨none, 0, none, 0, rfl, Ext.setAt (Ext.setAt (Ext.setAt (Ext.setAt e5 _ _ _ (Nat.le_refl _)) _ _ _ (Nat.le_refl _)) _ _ _ (Nat.le_refl _)) _ _ _ (Nat.le_refl _), zero_rows _ _ _, zero_rows _ _ _⟩
        | some E =>
          rw [hst] at hl
          obtain ⟨rfl, a3, c3, a4, c4, cb5⟩ := hl
          have HCB5 := Lib.hid cb5
          have HST := Lib.hid hst
          clear hst cb5
          go_wp2_with fail
          obtain ⟨hj', hLe⟩ := HLJ.out
          have hst := HST.out
          refine ⟨⟨j + 1, by omega, by go_num, E, a3, c3, a4, c4, (runI_take hj' HRJ.out).1 E (by rw [hLe, ← HPP.out]; exact hst), by have := stepI_len hst; omega, HSZ.out.step hst (fun x hx => ?_), HCB5.out⟩, by simp [intOf]; omega⟩
          rw [HPP.out] at hx
          have := splitL_len 32 _ _ hx
          rw [ba_len] at this
          omega
      · obtain rfl : j = Ps.length := by omega
        have x1 : ¬ (Ps.length : Int) < (Ps.length : Int) := by omega
        have hall : runI Cl.z L = some D := by
          have h1 := HRJ.out
          rwa [List.take_of_length_le (by rw [HLL.out]; simp [lws])] at h1
        have hD : b = true → D = C := fun e => by
          have h1 := HRUN.out e
          rw [hall] at h1; exact Option.some.inj h1
        have HD := Lib.hid hD
        have HT := Lib.hid (HR.out.test hD)
        have hv := CBh.out.v (by omega) (by omega) HSZ.out
        obtain ⟨V, hV⟩ : ∃ V, V = calB D.nm (nmOf D.M) (calOf D.M D.R) D.wk := ⟨_, rfl⟩
        have hV' : V = D.ok := hV
        obtain ⟨T, hTx⟩ : ∃ T, T = calTx D.nm (nmOf D.M) (calOf D.M D.R) D.wk := ⟨_, rfl⟩
        rw [← hTx, ← hV'] at HT
        have HVC := Lib.hid (hV ▸ validCalendar_c D.nm a1 a2 c1 c2 D.wk (nmOf D.M) (calOf D.M D.R) _ hv.nb hv.rb hv.mb hv.mx hv.sz hv.nz hv.mem : Calls Tryz.prog 31 #[.agg #[.string D.nm, .slice a1 D.M.length c1, .slice a2 D.R.length c2, .int .i64 D.wk]] _ fun e w' => e = .returned (.bool V) ∧ Ext _ w')
        have HCT := Lib.hid (fun W (hq : Ext _ W) hW => (hTx ▸ implCalendarText_c D.wk (hv.ext hq) hW : Calls Tryz.prog 21 #[.agg #[.string D.nm, .slice a1 D.M.length c1, .slice a2 D.R.length c2, .int .i64 D.wk]] W fun e w' => e = .returned (.string ⟨T.toArray⟩) ∧ Ext W w'))
        have q0 := CBh.out.cal.cell 0
        have q1 := CBh.out.cal.cell 1
        have q2 := CBh.out.cal.cell 2
        have q3 := CBh.out.cal.cell 3
        clear hall hD hv hV hV' hTx
        go_wp2_with fail
        refine (HVC.out).mono ?_
        rintro e w5 ⟨rfl, hx5⟩
        have CB5 := Lib.hid (CBh.out.ext hx5)
        clear q0 q1 q2 q3
        have q0 := CB5.out.cal.cell 0
        have q1 := CB5.out.cal.cell 1
        have q2 := CB5.out.cal.cell 2
        have q3 := CB5.out.cal.cell 3
        have lq := CB5.out.cal.lt
        cases V
        · obtain rfl : b = false := by
            cases b
            · rfl
            · have := (HT.out.2 rfl).1; cases this
          obtain ⟨rfl, -⟩ := HR.out.no rfl
          have e5 : Ext w w5 := Ext.trans e2 CB5.out.x
          have K5 := HK2.out.ext CB5.out.x
          have l5 := K5.lt
          have d0 := K5.cell 0
          have f0 := K5.frozen 0
          have d1 := K5.cell 1
          have f1 := K5.frozen 1
          have d2 := K5.cell 2
          have f2 := K5.frozen 2
          have d3 := K5.cell 3
          have f3 := K5.frozen 3
          clear K5
          go_wp2_with fail
          refine bodyPost_ret (v := .tuple #[.agg #[.string ⟨#[]⟩, .slice none 0 0, .slice none 0 0, .int .i64 0], .bool false]) (by simp [results, Tryz.results20, go_sem, d0, d1, d2, d3]) rfl ?_
          exact ⟨none, 0, none, 0, rfl, Ext.setAt (Ext.setAt (Ext.setAt (Ext.setAt e5 _ _ _ (Nat.le_refl _)) _ _ _ (Nat.le_refl _)) _ _ _ (Nat.le_refl _)) _ _ _ (Nat.le_refl _), zero_rows _ _ _, zero_rows _ _ _⟩
        · go_wp2_with fail
          refine (HCT.out _ hx5 (HG.out.tab.ext (Ext.trans e2 CB5.out.x))).mono ?_
          rintro e w6 ⟨rfl, hx6⟩
          have CB6 := Lib.hid (CB5.out.ext hx6)
          clear q0 q1 q2 q3
          have q0 := CB6.out.cal.cell 0
          have q1 := CB6.out.cal.cell 1
          have q2 := CB6.out.cal.cell 2
          have q3 := CB6.out.cal.cell 3
          have lq := CB6.out.cal.lt
          have e5 : Ext w w6 := Ext.trans e2 CB6.out.x
          have K5 := HK2.out.ext CB6.out.x
          have l5 := K5.lt
          have d0 := K5.cell 0
          have f0 := K5.frozen 0
          have d1 := K5.cell 1
          have f1 := K5.frozen 1
          have d2 := K5.cell 2
          have f2 := K5.frozen 2
          have d3 := K5.cell 3
          have f3 := K5.frozen 3
          have HK6 := Lib.hid K5
          clear K5
          cases b
          · obtain ⟨rfl, -⟩ := HR.out.no rfl
            have z1 : (T == s.toList) = false := by
              rw [beq_eq_false_iff_ne]
              exact fun e => by cases HT.out.1 ⟨by first | rfl | trivial, e.trans (ByteArray.toList_eq s)⟩
            go_wp2_with fail
            refine bodyPost_ret (v := .tuple #[.agg #[.string ⟨#[]⟩, .slice none 0 0, .slice none 0 0, .int .i64 0], .bool false]) (by simp [results, Tryz.results20, go_sem, d0, d1, d2, d3]) rfl ?_
            exact ⟨none, 0, none, 0, rfl, Ext.setAt (Ext.setAt (Ext.setAt (Ext.setAt e5 _ _ _ (Nat.le_refl _)) _ _ _ (Nat.le_refl _)) _ _ _ (Nat.le_refl _)) _ _ _ (Nat.le_refl _), zero_rows _ _ _, zero_rows _ _ _⟩
          · obtain rfl := HD.out rfl
            have z1 : (T == s.toList) = true := by
              rw [(HT.out.2 rfl).2, ByteArray.toList_eq]; simp
            go_wp2_with fail
            refine bodyPost_ret (v := .tuple #[.agg #[.string D.nm, .slice a1 D.M.length c1, .slice a2 D.R.length c2, .int .i64 D.wk], .bool true]) (by simp [results, Tryz.results20, go_sem, d0, d1, d2, d3]) rfl ?_
            exact ⟨a1, c1, a2, c2, rfl, Ext.setAt (Ext.setAt (Ext.setAt (Ext.setAt e5 _ _ _ (Nat.le_refl _)) _ _ _ (Nat.le_refl _)) _ _ _ (Nat.le_refl _)) _ _ _ (Nat.le_refl _), own_res CB6.out.om (by omega), own_res CB6.out.or (by omega)⟩
end Go.Proofs.YtpohhnihgegmfaaGreatDoor

namespace Go.Proofs.YtpohhnihgegmfaaGreatDoor
open Go.RowKit
set_option linter.unusedVariables false
set_option linter.unusedSimpArgs false

theorem own4 {w : World} {B g n cp : Nat} {e : TypeId} {xs : List Value} (h : w.ownsRow B e 1 (.slice (some ⟨g, 0, none⟩) n cp) n xs) (j : Nat) (hj : j < n) : w.cell? ⟨g, j, none⟩ = xs[j]? := by
  obtain ⟨g', e, _, _, hc⟩ := own_atK h (by omega)
  obtain rfl : g = g' := by simpa using e
  exact (hc j (by omega)).1
end Go.Proofs.YtpohhnihgegmfaaGreatDoor

namespace Go.Proofs.YtpohhnihgegmfaaGreatDoor
open Go.RowKit
set_option linter.unusedVariables false
set_option linter.unusedSimpArgs false

theorem own_row_ne {w : World} {B1 B2 z1 z2 g c n1 n2 : Nat} {e1 e2 : TypeId} {v : Value} {xs ys : List Value} (h1 : w.ownsRow B1 e1 z1 v n1 xs) (h2 : w.ownsRow B2 e2 z2 (.slice (some ⟨g, 0, none⟩) n2 c) n2 ys) (he : e2 ≠ e1) : ∀ k, v.ownBlock = some k → k ≠ g := fun k hk => by
  rcases own_apart h2 h1 he with h | h
  · rw [h] at hk; cases hk
  · intro e; subst e; exact h (hk.trans rfl)
end Go.Proofs.YtpohhnihgegmfaaGreatDoor

namespace Go.Proofs.YtpohhnihgegmfaaGreatDoor
open Go.RowKit
set_option linter.unusedVariables false
set_option linter.unusedSimpArgs false

theorem own_init {w : World} {B n c : Nat} {e : TypeId} {a : Option Addr} {xs : List Value} (h : w.ownsRow B e 1 (.slice a (n + 1) c) (n + 1) xs) : w.ownsRow B e 1 (.slice a n c) n (xs.take n) := by
  rcases h.2 with ⟨_, h2⟩ | ⟨g, cap', cur, h1, hb, hg, h2, h3, h4, h5⟩
  · omega
  · simp only [Value.slice.injEq] at h1
    obtain ⟨rfl, _, rfl⟩ := h1
    have hx := h.1
    refine ⟨by rw [List.length_take]; omega, .inr ⟨g, _, cur, rfl, hb, hg, by omega, h3, h4, ?_⟩⟩
    rw [← h5, List.take_take]; congr 1; omega
theorem stepS_len (C : Cl) (ws : List (List UInt8)) : (stepS C ws).1.M.length + (stepS C ws).1.R.length ≤ C.M.length + C.R.length + 1 := by
  match ws with
  | [k, a, b, c] =>
    simp only [stepS]
    split
    · simp; omega
    · split
      · simp; omega
      · simp
  | [] => simp [stepS]
  | [_] => simp [stepS]
  | [_, _] => simp [stepS]
  | [_, _, _] => simp [stepS]
  | _ :: _ :: _ :: _ :: _ :: _ => simp [stepS]
theorem Szs.stepS {C : Cl} {ws : List (List UInt8)} (h : Szs C) (hw : ∀ x ∈ ws, x.length ≤ 1048576) : Szs (stepS C ws).1 := by
  match ws, hw with
  | [k, a, b, c], hw =>
    simp only [Proofs.YtpohhnihgegmfaaGreatDoor.stepS]
    split
    · refine ⟨h.nm, fun q hq => ?_⟩
      rcases List.mem_append.1 hq with hq | hq
      · exact h.mo q hq
      · rw [List.mem_singleton.1 hq]; exact sz_of (hw a (by simp))
    · split
      · exact ⟨h.nm, h.mo⟩
      · exact h
  | [], _ => exact h
  | [_], _ => exact h
  | [_, _], _ => exact h
  | [_, _, _], _ => exact h
  | _ :: _ :: _ :: _ :: _ :: _, _ => exact h
theorem runS_step {C D : Cl} {b : Bool} {L X : List (List (List UInt8))} {i : Nat} (h : runS C b X = runS D true (L.drop i)) (hi : i < L.length) : runS C b X = runS (stepS D L[i]).1 (stepS D L[i]).2 (L.drop (i + 1)) := by
  rw [h, List.drop_eq_getElem_cons hi, runS, if_pos rfl]
theorem readS_far {L : List (List (List UInt8))} (h : ¬ (1 ≤ L.length ∧ L.length ≤ 27)) : readS L = (Cl.z, false) := by unfold readS; rw [if_neg h]
theorem readS_bad {ws : List (List UInt8)} {r : List (List (List UInt8))} (h : ¬ (ws.length = 3 ∧ ws[0]? = some calK)) : readS (ws :: r) = (Cl.z, false) := by
  unfold readS
  split
  · match ws, h with
    | [k, a, b], h =>
      dsimp only
      rw [if_neg (fun e => h ⟨rfl, by rw [e]; rfl⟩)]
    | [], _ => rfl
    | [_], _ => rfl
    | [_, _], _ => rfl
    | _ :: _ :: _ :: _ :: _, _ => rfl
  · rfl
theorem readS_on {a b : List UInt8} {r : List (List (List UInt8))} (h : 1 ≤ ([calK, a, b] :: r).length ∧ ([calK, a, b] :: r).length ≤ 27) {D : Cl} {ok : Bool} (hr : runS ⟨⟨a.toArray⟩, nv b, [], []⟩ (nb b) r = (D, ok)) :
    readS ([calK, a, b] :: r) = (D, ok && D.ok) := by
  unfold readS
  rw [if_pos h]
  dsimp only
  rw [if_pos rfl, hr]
/-- the reference's loop's state: lines up to j read -/
def LpS (w0 wr : World) (gc : Nat) (C0 : Cl) (b0 : Bool) (L : List (List (List UInt8))) (j : Nat) (ok : Bool) : Prop :=
  ∃ (D : Cl) (a1 : Option Addr) (c1 : Nat) (a2 : Option Addr) (c2 : Nat), runS C0 b0 (L.drop 1) = runS D ok (L.drop j) ∧ D.M.length + D.R.length ≤ j ∧ Szs D ∧ CB w0 wr gc D a1 c1 a2 c2
theorem runS_end {C D : Cl} {b ok : Bool} {L X : List (List (List UInt8))} {i : Nat} (h : runS C b X = runS D ok (L.drop i)) (hi : L.length ≤ i ∨ ok = false) : runS C b X = (D, ok) := by
  rw [h]
  rcases hi with hi | rfl
  · rw [List.drop_of_length_le hi]; rfl
  · exact runS_f _ _
theorem CB.p {w0 w : World} {gc : Nat} {C : Cl} {a1 a2 : Option Addr} {c1 c2 : Nat} (h : CB w0 w gc C a1 c1 a2 c2) : CalP w gc C.nm a1 a2 c1 c2 C.wk (nmOf C.M) (calOf C.M C.R) :=
  ⟨h.cal.lt, h.cal.cell 0, h.cal.cell 1, h.cal.cell 2, h.cal.cell 3, own_calM h.om h.or⟩
theorem CB.ok {w0 w : World} {gc : Nat} {C : Cl} {a1 a2 : Option Addr} {c1 c2 : Nat} (h : CB w0 w gc C a1 c1 a2 c2) (hM : C.M.length ≤ 1048576) (hR : C.R.length ≤ 1048576) (hz : Szs C) :
    Calls Tryz.prog 44 #[.pointer (some ⟨gc, 0, none⟩)] w fun e w' => e = .returned (.bool C.ok) ∧ Ext w w' :=
  l15Ok_c gc C.nm a1 a2 c1 c2 C.wk (nmOf C.M) (calOf C.M C.R) w hM hR (Nat.le_trans hz.nm (by omega)) (fun i hi => by
    have hi' : i < C.M.length := hi
    have e : nmOf C.M i = C.M[i].1 := by simp [nmOf, List.getD_eq_getElem?_getD, List.getElem?_eq_getElem hi']
    rw [e]
    exact Nat.le_trans (hz.mo _ (List.getElem_mem hi')) (by omega)) h.p
end Go.Proofs.YtpohhnihgegmfaaGreatDoor

namespace Go.Proofs.YtpohhnihgegmfaaGreatDoor
open Go.RowKit
set_option linter.unusedVariables false
set_option linter.unusedSimpArgs false

theorem zero_rd {w w' : World} (hx : Ext w w') : RdC w (((((w'.setCell ⟨w.heap.size, 0, none⟩ (.string ⟨#[]⟩)).setCell ⟨w.heap.size, 1, none⟩ (.slice none 0 0)).setCell ⟨w.heap.size, 2, none⟩ (.slice none 0 0)).setCell ⟨w.heap.size, 3, none⟩ (.int .i64 0))) Cl.z false (.returned (.tuple #[.agg #[.string ⟨#[]⟩, .slice none 0 0, .slice none 0 0, .int .i64 0], .bool false])) :=
  ⟨none, 0, none, 0, rfl, Ext.setAt (Ext.setAt (Ext.setAt (Ext.setAt hx _ _ _ (Nat.le_refl _)) _ _ _ (Nat.le_refl _)) _ _ _ (Nat.le_refl _)) _ _ _ (Nat.le_refl _), zero_rows _ _ _, zero_rows _ _ _⟩
theorem RdC.drew {w w' : World} {C : Cl} {b : Bool} {e : Ending} (h : RdC w w' C b e) : RdC w w'.drew C b e := by
  obtain ⟨a1, c1, a2, c2, h1, h2, h3, h4⟩ := h
  exact ⟨a1, c1, a2, c2, h1, h2.drew, own_ext h3 (Ext.refl _).drew, own_ext h4 (Ext.refl _).drew⟩
theorem CB.rd {w w2 wr : World} {gc : Nat} {D : Cl} {a1 a2 : Option Addr} {c1 c2 : Nat} (e : Ext w wr) (h : CB w2 wr gc D a1 c1 a2 c2) (hl : w.heap.size < gc + 1) (b : Bool) :
    RdC w ((((wr.setCell ⟨w.heap.size, 0, none⟩ (.string D.nm)).setCell ⟨w.heap.size, 1, none⟩ (.slice a1 D.M.length c1)).setCell ⟨w.heap.size, 2, none⟩ (.slice a2 D.R.length c2)).setCell ⟨w.heap.size, 3, none⟩ (.int .i64 D.wk)) D b (.returned (.tuple #[.agg #[.string D.nm, .slice a1 D.M.length c1, .slice a2 D.R.length c2, .int .i64 D.wk], .bool b])) :=
  ⟨a1, c1, a2, c2, rfl, Ext.setAt (Ext.setAt (Ext.setAt (Ext.setAt e _ _ _ (Nat.le_refl _)) _ _ _ (Nat.le_refl _)) _ _ _ (Nat.le_refl _)) _ _ _ (Nat.le_refl _), own_res h.om hl, own_res h.or hl⟩
end Go.Proofs.YtpohhnihgegmfaaGreatDoor

namespace Go.Proofs.YtpohhnihgegmfaaGreatDoor
open Go.RowKit
set_option linter.unusedVariables false
set_option linter.unusedSimpArgs false

theorem RdC.alloc {w w' : World} {C : Cl} {b : Bool} {e : Ending} (h : RdC w w' C b e) (o : Obj) : RdC w (w'.alloc o) C b e := by
  obtain ⟨a1, c1, a2, c2, h1, h2, h3, h4⟩ := h
  exact ⟨a1, c1, a2, c2, h1, h2.alloc _, own_ext h3 ((Ext.refl _).alloc _), own_ext h4 ((Ext.refl _).alloc _)⟩
end Go.Proofs.YtpohhnihgegmfaaGreatDoor

namespace Go.Proofs.YtpohhnihgegmfaaGreatDoor
open Go.RowKit
set_option linter.unusedVariables false
set_option linter.unusedSimpArgs false

theorem magnitude_c (n : Int) (w : World) (h0 : 0 ≤ n) (h1 : n ≤ 1000000000000) :
    Calls Tryz.prog 103 #[.int .i64 n] w fun e w' => e = .returned (.int .u64 n) ∧ w = w' := by
  go_enter Tryz.func103, Tryz.ntmps103
  go_wp2_with fail
  go_ret
  exact ⟨rfl, rfl⟩
set_option maxHeartbeats 1000000 in
theorem reduced_c (n d : Int) (w : World) (n0 : 1 ≤ n) (n1 : n ≤ 1000000000) (d0 : 1 ≤ d) (d1 : d ≤ 1000000000) :
    Calls Tryz.prog 82 #[.int .i64 n, .int .i64 d] w fun e w' => e = .returned (.tuple #[.agg #[.int .i64 (n / gcdI n d), .int .i64 (d / gcdI n d)], .bool true]) ∧ Ext w w' := by
  go_enter Tryz.func82, Tryz.ntmps82
  go_wp2_with (go_at_call 103; ((with_reducible refine (magnitude_c _ _ (by omega) (by omega)).mono ?_); rintro e w' ⟨rfl, rfl⟩))
  go_loopw [8, 9] (fun x y wr => ∃ p q : Int, x = .int .u64 p ∧ y = .int .u64 q ∧ 0 ≤ p ∧ p ≤ 1000000000000 ∧ 0 ≤ q ∧ q ≤ 1000000000000 ∧ Ext (w.alloc (.cells #[.int .i64 0, .int .i64 0] 50)) wr ∧ gcdI p q = gcdI n d) (fun _ y _ => (intOf y).toNat)
  case atStart => exact ⟨n, d, rfl, rfl, by omega, by omega, by omega, by omega, (by repeat (first | with_reducible exact Ext.refl _ | with_reducible assumption | with_reducible refine Ext.alloc ?_ _ | with_reducible refine Ext.drew ?_ | (with_reducible refine Ext.setAt ?_ _ _ _ ?_; rotate_left; omega) | with_reducible refine Ext.trans ?_ (by assumption) | with_reducible exact Past.bel _ | with_reducible refine Ext.trans ?_ (Past.bel _))), rfl⟩
  case round =>
    obtain ⟨p, q, rfl, rfl, p0, p1, q0, q1, hbl, hg⟩ := hrel
    have HG := Lib.hid hg
    clear hg
    by_cases h : 0 < q
    · obtain ⟨t0, t1, t2⟩ := tmod_bd p0 h
      have hs := gcdI_step p0 h
      rw [← t0] at hs
      have HSS := Lib.hid hs
      have e0 : (q != 0) = true := by simp; omega
      clear hs t0
      go_wp2_with fail
      refine wp_region_past (by kernel_rfl) (by kernel_rfl) ?_
      repeat (go_big_quiet_step (fail))
      refine wpQuiet_nil ?_
      rintro _ ⟨wx, rfl⟩
      go_wp2_with fail
      exact ⟨⟨q, p % q, rfl, by go_num, by omega, by omega, by omega, by omega, (by repeat (first | with_reducible exact Ext.refl _ | with_reducible assumption | with_reducible refine Ext.alloc ?_ _ | with_reducible refine Ext.drew ?_ | (with_reducible refine Ext.setAt ?_ _ _ _ ?_; rotate_left; omega) | with_reducible refine Ext.trans ?_ (by assumption) | with_reducible exact Past.bel _ | with_reducible refine Ext.trans ?_ (Past.bel _))), HSS.out.trans HG.out⟩, by simp [intOf]; omega⟩
    · obtain rfl : q = 0 := by omega
      have hp : p = gcdI n d := by rw [← HG.out, gcdI_zero p0]
      obtain ⟨u0, u1, u2⟩ := gcdI_bd n0 d0
      rw [← hp] at u0 u1 u2
      have HP := Lib.hid hp
      have v0 : 0 ≤ n / p := Int.ediv_nonneg (by omega) (by omega)
      have v1 : n / p ≤ 1000000000 := Int.le_trans (Int.ediv_le_self p (show 0 ≤ n by omega)) n1
      have v2 : 0 ≤ d / p := Int.ediv_nonneg (by omega) (by omega)
      have v3 : d / p ≤ 1000000000 := Int.le_trans (Int.ediv_le_self p (show 0 ≤ d by omega)) d1
      have RR : (wr.cell? ⟨w.heap.size, 0, none⟩ = some (.int .i64 0) ∧ wr.cell? ⟨w.heap.size, 1, none⟩ = some (.int .i64 0)) ∧ wr.frozen? ⟨w.heap.size, 0, none⟩ = false ∧ wr.frozen? ⟨w.heap.size, 1, none⟩ = false := by
        refine ⟨⟨?_, ?_⟩, ?_, ?_⟩
        · rw [hbl.cell (by simp)]; simp [go_sem]
        · rw [hbl.cell (by simp)]; simp [go_sem]
        · rw [Below.frozen (p := ⟨w.heap.size, 0, none⟩) hbl (by simp)]; simp [go_sem]
        · rw [Below.frozen (p := ⟨w.heap.size, 1, none⟩) hbl (by simp)]; simp [go_sem]
      obtain ⟨⟨r0, r1⟩, s0, s1⟩ := RR
      have gk := hbl.size
      simp only [World.size_alloc] at gk
      have gk1 : w.heap.size < wr.heap.size := by omega
      have gk2 : ¬ wr.heap.size = w.heap.size := by omega
      have gk3 : ¬ w.heap.size = wr.heap.size := by omega
      have hb0 : Ext w wr := Ext.trans (by repeat (first | with_reducible exact Ext.refl _ | with_reducible assumption | with_reducible refine Ext.alloc ?_ _ | with_reducible refine Ext.drew ?_ | (with_reducible refine Ext.setAt ?_ _ _ _ ?_; rotate_left; omega) | with_reducible refine Ext.trans ?_ (by assumption) | with_reducible exact Past.bel _ | with_reducible refine Ext.trans ?_ (Past.bel _))) hbl
      have dn : decide (n < 0) = false := by simpa using (show 0 ≤ n by omega)
      have dd : decide (d < 0) = false := by simpa using (show 0 ≤ d by omega)
      have dnd : (decide (n < 0) == decide (d < 0)) = true := by rw [dn, dd]; rfl
      clear hp
      go_wp2_with fail
      refine wp_region_past (by kernel_rfl) (by kernel_rfl) ?_
      repeat (go_big_quiet_step (fail))
      refine wpQuiet_nil ?_
      rintro _ ⟨wx, rfl⟩
      have gk4 := wx.bel.size
      have gk5 : w.heap.size < wx.out.heap.size := by omega
      have gk6 : ¬ wx.out.heap.size = w.heap.size := by omega
      have gk7 : ¬ w.heap.size = wx.out.heap.size := by omega
      go_wp2_with fail
      have hb3 : Ext w wx.out := Ext.trans hb0 (Past.bel wx)
      exact bodyPost_ret (v := .tuple #[.agg #[.int .i64 (n / p), .int .i64 (d / p)], .bool true]) (by simp [results, Tryz.results82, go_sem, gk1, gk5, gk6, gk7, r0, r1]) rfl ⟨by rw [HP.out], (by repeat (first | with_reducible exact Ext.refl _ | with_reducible assumption | with_reducible refine Ext.alloc ?_ _ | with_reducible refine Ext.drew ?_ | (with_reducible refine Ext.setAt ?_ _ _ _ ?_; rotate_left; omega) | with_reducible refine Ext.trans ?_ (by assumption) | with_reducible exact Past.bel _ | with_reducible refine Ext.trans ?_ (Past.bel _)))⟩
theorem implMakeRatio_c (n d : Int) (w : World) (n0 : 1 ≤ n) (n1 : n ≤ 1000000000) (d0 : 1 ≤ d) (d1 : d ≤ 1000000000) :
    Calls Tryz.prog 48 #[.int .i64 n, .int .i64 d] w fun e w' => e = .returned (.tuple #[.agg #[.int .i64 (n / gcdI n d), .int .i64 (d / gcdI n d)], .int .i64 0]) ∧ Ext w w' := by
  have e0 : (d == 0) = false := by simp; omega
  go_enter Tryz.func48, Tryz.ntmps48
  go_wp2_with (first | (go_at_call 82; ((with_reducible refine (reduced_c _ _ _ n0 n1 d0 d1).mono ?_); rintro e w' ⟨rfl, hx⟩; (first | (obtain ⟨wx, rfl⟩ := Past.again hx) | (obtain ⟨wx, rfl⟩ := Past.ofd hx) | (obtain ⟨wx, rfl⟩ := Past.of hx)))))
  exact bodyPost_ret (v := .tuple #[.agg #[.int .i64 (n / gcdI n d), .int .i64 (d / gcdI n d)], .int .i64 0]) (by simp [results, Tryz.results48, go_sem]) rfl ⟨rfl, (by repeat (first | with_reducible exact Ext.refl _ | with_reducible assumption | with_reducible refine Ext.alloc ?_ _ | with_reducible refine Ext.drew ?_ | (with_reducible refine Ext.setAt ?_ _ _ _ ?_; rotate_left; omega) | with_reducible refine Ext.trans ?_ (by assumption) | with_reducible exact Past.bel _ | with_reducible refine Ext.trans ?_ (Past.bel _)))⟩
section
variable {s : ByteArray} {ma ra : Option Addr} {mc rc : Nat} {nm : Nat → ByteArray} {c : CalN} {w : World}
/-- the mean year -/
def mnN (s : ByteArray) (nm : Nat → ByteArray) (c : CalN) (wk : Int) : Int := if calB s nm c wk then c.bef c.cyc.toNat / gcdI (c.bef c.cyc.toNat) c.cyc else 0
def mnD (s : ByteArray) (nm : Nat → ByteArray) (c : CalN) (wk : Int) : Int := if calB s nm c wk then c.cyc / gcdI (c.bef c.cyc.toNat) c.cyc else 0
theorem CalB.mean (b : CalB c) : 1 ≤ c.bef c.cyc.toNat ∧ c.bef c.cyc.toNat ≤ 1000000000 ∧ 1 ≤ c.cyc ∧ c.cyc ≤ 1000000000 := by
  have h1 := b.cyc1
  have h2 := b.bef c.cyc.toNat
  omega
set_option maxHeartbeats 1000000 in
theorem implMeanYear_c (wk : Int) (h : CalV w s ma ra mc rc nm c) :
    Calls Tryz.prog 19 #[.agg #[.string s, .slice ma c.n mc, .slice ra c.nr rc, .int .i64 wk]] w fun e w' => e = .returned (.tuple #[.agg #[.int .i64 (mnN s nm c wk), .int .i64 (mnD s nm c wk)], .int .i64 (caC s nm c wk)]) ∧ Ext w w' := by
  have H := Lib.hid h
  clear h
  cases h1 : calB s nm c wk
  · have hcy : ∀ W, Ext w W → Calls Tryz.prog 18 #[.agg #[.string s, .slice ma c.n mc, .slice ra c.nr rc, .int .i64 wk]] W fun e w' => e = .returned (.tuple #[.int .i64 0, .int .i64 0, .int .i64 1]) ∧ Ext W w' := fun W hq => by
      have := implCycleOf_c wk (H.out.ext hq)
      simpa [cyV, cyD, caC, h1] using this
    have HCY := Lib.hid hcy
    clear hcy
    go_enter Tryz.func19, Tryz.ntmps19
    go_wp2_with (go_at_call 18; ((with_reducible refine (HCY.out _ (by repeat (first | with_reducible exact Ext.refl _ | with_reducible assumption | with_reducible refine Ext.alloc ?_ _ | with_reducible refine Ext.drew ?_ | (with_reducible refine Ext.setAt ?_ _ _ _ ?_; rotate_left; omega) | with_reducible refine Ext.trans ?_ (by assumption) | with_reducible exact Past.bel _ | with_reducible refine Ext.trans ?_ (Past.bel _)))).mono ?_); rintro e w' ⟨rfl, hx⟩; (first | (obtain ⟨wx, rfl⟩ := Past.again hx) | (obtain ⟨wx, rfl⟩ := Past.ofd hx) | (obtain ⟨wx, rfl⟩ := Past.of hx))))
    exact bodyPost_ret (v := .tuple #[.agg #[.int .i64 0, .int .i64 0], .int .i64 1]) (by simp [results, Tryz.results19, go_sem]) rfl ⟨by simp [mnN, mnD, caC, h1], (by repeat (first | with_reducible exact Ext.refl _ | with_reducible assumption | with_reducible refine Ext.alloc ?_ _ | with_reducible refine Ext.drew ?_ | (with_reducible refine Ext.setAt ?_ _ _ _ ?_; rotate_left; omega) | with_reducible refine Ext.trans ?_ (by assumption) | with_reducible exact Past.bel _ | with_reducible refine Ext.trans ?_ (Past.bel _)))⟩
  · obtain ⟨a0, a1, a2, a3⟩ := (calB_b h1).mean
    have hcy : ∀ W, Ext w W → Calls Tryz.prog 18 #[.agg #[.string s, .slice ma c.n mc, .slice ra c.nr rc, .int .i64 wk]] W fun e w' => e = .returned (.tuple #[.int .i64 c.cyc, .int .i64 (c.bef c.cyc.toNat), .int .i64 0]) ∧ Ext W w' := fun W hq => by
      have := implCycleOf_c wk (H.out.ext hq)
      simpa [cyV, cyD, caC, h1] using this
    have HCY := Lib.hid hcy
    clear hcy
    go_enter Tryz.func19, Tryz.ntmps19
    go_wp2_with (first | (go_at_call 18; ((with_reducible refine (HCY.out _ (by repeat (first | with_reducible exact Ext.refl _ | with_reducible assumption | with_reducible refine Ext.alloc ?_ _ | with_reducible refine Ext.drew ?_ | (with_reducible refine Ext.setAt ?_ _ _ _ ?_; rotate_left; omega) | with_reducible refine Ext.trans ?_ (by assumption) | with_reducible exact Past.bel _ | with_reducible refine Ext.trans ?_ (Past.bel _)))).mono ?_); rintro e w' ⟨rfl, hx⟩; (first | (obtain ⟨wx, rfl⟩ := Past.again hx) | (obtain ⟨wx, rfl⟩ := Past.ofd hx) | (obtain ⟨wx, rfl⟩ := Past.of hx)))) | (go_at_call 48; ((with_reducible refine (implMakeRatio_c _ _ _ a0 a1 a2 a3).mono ?_); rintro e w' ⟨rfl, hx⟩; (first | (obtain ⟨wx, rfl⟩ := Past.again hx) | (obtain ⟨wx, rfl⟩ := Past.ofd hx) | (obtain ⟨wx, rfl⟩ := Past.of hx)))))
    exact bodyPost_ret (v := .tuple #[.agg #[.int .i64 (c.bef c.cyc.toNat / gcdI (c.bef c.cyc.toNat) c.cyc), .int .i64 (c.cyc / gcdI (c.bef c.cyc.toNat) c.cyc)], .int .i64 0]) (by simp [results, Tryz.results19, go_sem]) rfl ⟨by simp [mnN, mnD, caC, h1], (by repeat (first | with_reducible exact Ext.refl _ | with_reducible assumption | with_reducible refine Ext.alloc ?_ _ | with_reducible refine Ext.drew ?_ | (with_reducible refine Ext.setAt ?_ _ _ _ ?_; rotate_left; omega) | with_reducible refine Ext.trans ?_ (by assumption) | with_reducible exact Past.bel _ | with_reducible refine Ext.trans ?_ (Past.bel _)))⟩
end
end Go.Proofs.YtpohhnihgegmfaaGreatDoor

namespace Go.Proofs.YtpohhnihgegmfaaGreatDoor
open Go.RowKit
set_option linter.unusedVariables false
set_option linter.unusedSimpArgs false

end Go.Proofs.YtpohhnihgegmfaaGreatDoor

namespace Go.Proofs.YtpohhnihgegmfaaGreatDoor
open Go.RowKit
set_option linter.unusedVariables false
set_option linter.unusedSimpArgs false

end Go.Proofs.YtpohhnihgegmfaaGreatDoor

namespace Go.Proofs.YtpohhnihgegmfaaGreatDoor
open Go.ChangeShapes Go.WideShapes Go.RowKit Go.Deep
set_option linter.unusedVariables false

/-- what a calendar's arguments hold -/
structure CalA (w : World) (s : ByteArray) (ma ra : Option Addr) (mc rc : Nat) (nm : Nat → ByteArray) (c : CalN) : Prop where
  sz : s.size ≤ 9223372036854775807
  nz : ∀ i, i < c.n → (nm i).size ≤ 9223372036854775807
  nb : c.n ≤ maxLen
  rb : c.nr ≤ maxLen
  mem : CalM w ma ra nm c
section
variable {H : Type} {enc : TypeId × Value → H} {P : Program} {w : World} {base : Nat} {spare : Nat → Bool} {held : Bool}
theorem fld {fs : Array Field} {j : Nat} {u : TypeDesc} (h : (fs[j]?).bind (fun f => P.underlying f.type) = some u) : ∃ f, fs[j]? = some f ∧ P.underlying f.type = some u := by
  cases e : fs[j]? with
  | none => rw [e] at h; simp at h
  | some f => rw [e] at h; exact ⟨f, rfl, h⟩
theorem fldT {fs : Array Field} {j : Nat} (hj : j < fs.size) {u : TypeDesc} (h : (fs[j]?).bind (fun f => P.underlying f.type) = some u) : P.underlying fs[j].type = some u := by
  rw [Array.getElem?_eq_getElem hj] at h; exact h
theorem down_cal {t em er : TypeId} {fs fm fr : Array Field} {v : Value} {d : DataW H} {p : List MemPlace} {r : Reach} {b0 : Nat}
    (hs : P.underlying t = some (.struct fs)) (hone : oneCellFields P fs = true) (hC : P.cellsOf t = fs.size) (h4 : fs.size = 4)
    (k0 : (fs[0]?).bind (fun f => P.underlying f.type) = some .string) (k1 : (fs[1]?).bind (fun f => P.underlying f.type) = some (.slice em)) (k2 : (fs[2]?).bind (fun f => P.underlying f.type) = some (.slice er)) (k3 : (fs[3]?).bind (fun f => P.underlying f.type) = some (.int .i64))
    (hm : P.underlying em = some (.struct fm)) (honem : oneCellFields P fm = true) (hCm : P.cellsOf em = fm.size) (hm3 : fm.size = 3)
    (m0 : (fm[0]?).bind (fun f => P.underlying f.type) = some .string) (m1 : (fm[1]?).bind (fun f => P.underlying f.type) = some (.int .i64)) (m2 : (fm[2]?).bind (fun f => P.underlying f.type) = some (.int .i64))
    (hr : P.underlying er = some (.struct fr)) (honer : oneCellFields P fr = true) (hCr : P.cellsOf er = fr.size) (hr3 : fr.size = 3)
    (r0 : (fr[0]?).bind (fun f => P.underlying f.type) = some (.int .i64)) (r1 : (fr[1]?).bind (fun f => P.underlying f.type) = some (.int .i64)) (r2 : (fr[2]?).bind (fun f => P.underlying f.type) = some .bool)
    (hv : Value.okWide P w r b0 t v) (h : DataW.Trod enc P w base spare held t v d p) :
    ∃ (s : ByteArray) (ma ra : Option Addr) (mc rc : Nat) (wk : Int) (nm : Nat → ByteArray) (c : CalN), v = .agg #[.string s, .slice ma c.n mc, .slice ra c.nr rc, .int .i64 wk] ∧ (Lit.int .i64 wk).wf = true ∧ CalA w s ma ra mc rc nm c := by
  obtain ⟨cs, rfl, hsz⟩ := okWide_struct hs hv
  obtain ⟨fuel, hf⟩ := h
  obtain ⟨n, hl, hfl⟩ := down_struct hs hone hC (cs := cs.toList) (by simpa [Value.cells] using hf)
  obtain ⟨f0, e0, u0⟩ := fld k0
  obtain ⟨f1, e1, u1⟩ := fld k1
  obtain ⟨f2, e2, u2⟩ := fld k2
  obtain ⟨f3, e3, u3⟩ := fld k3
  obtain ⟨v0, y0, g0, t0⟩ := hfl 0 f0 e0
  obtain ⟨v1, y1, g1, t1⟩ := hfl 1 f1 e1
  obtain ⟨v2, y2, g2, t2⟩ := hfl 2 f2 e2
  obtain ⟨v3, y3, g3, t3⟩ := hfl 3 f3 e3
  obtain ⟨s, hs0, _, hss⟩ := DataW.trod_string u0 t0
  obtain ⟨wk, hs3, _, hwk⟩ := DataW.trod_int u3 t3
  obtain ⟨ma, n1, mc, z, hv1, nc1, mx1, hz⟩ := down_rows u1 hm honem hCm (by omega) t1
  obtain ⟨ra, n2, rc, y, hv2, nc2, mx2, hy⟩ := down_rows u2 hr honer hCr (by omega) t2
  simp only [List.cons.injEq, and_true] at hs0 hs3
  subst hs0; subst hs3; subst hv1; subst hv2
  have hcs : cs = #[.string s, .slice ma n1 mc, .slice ra n2 rc, .int .i64 wk] := by
    apply Array.toList_inj.1
    apply List.ext_getElem?
    intro j
    obtain rfl | rfl | rfl | rfl | hj : j = 0 ∨ j = 1 ∨ j = 2 ∨ j = 3 ∨ 4 ≤ j := by omega
    · rw [g0]; rfl
    · rw [g1]; rfl
    · rw [g2]; rfl
    · rw [g3]; rfl
    · rw [List.getElem?_eq_none (by omega), List.getElem?_eq_none (by simpa using hj)]
  subst hcs
  -- the months
  have hM : ∀ i, i < n1 → ∃ q : ByteArray × Int × Int, q.1.size ≤ maxLen ∧ (0 < n1 → z i 0 = .string q.1 ∧ z i 1 = .int .i64 q.2.1 ∧ z i 2 = .int .i64 q.2.2) := fun i hi => by
    obtain ⟨b, off, ha, hb, hc⟩ := hz (by omega)
    obtain ⟨_, a0, _, c0⟩ := hc i hi 0 (by omega)
    obtain ⟨_, a1, _, c1⟩ := hc i hi 1 (by omega)
    obtain ⟨_, a2, _, c2⟩ := hc i hi 2 (by omega)
    obtain ⟨s', d0, _, hs'⟩ := DataW.trod_string (fldT (by omega) m0) c0
    obtain ⟨x1, d1, _, _⟩ := DataW.trod_int (fldT (by omega) m1) c1
    obtain ⟨x2, d2, _, _⟩ := DataW.trod_int (fldT (by omega) m2) c2
    simp only [List.cons.injEq, and_true] at d0 d1 d2
    exact ⟨(s', x1, x2), hs', fun _ => ⟨d0, d1, d2⟩⟩
  have hR : ∀ i, i < n2 → ∃ q : Int × Int × Bool, (0 < n2 → y i 0 = .int .i64 q.1 ∧ y i 1 = .int .i64 q.2.1 ∧ y i 2 = .bool q.2.2) := fun i hi => by
    obtain ⟨b, off, ha, hb, hc⟩ := hy (by omega)
    obtain ⟨_, a0, _, c0⟩ := hc i hi 0 (by omega)
    obtain ⟨_, a1, _, c1⟩ := hc i hi 1 (by omega)
    obtain ⟨_, a2, _, c2⟩ := hc i hi 2 (by omega)
    obtain ⟨x0, d0, _, _⟩ := DataW.trod_int (fldT (by omega) r0) c0
    obtain ⟨x1, d1, _, _⟩ := DataW.trod_int (fldT (by omega) r1) c1
    obtain ⟨x2, d2, _⟩ := DataW.trod_bool (fldT (by omega) r2) c2
    simp only [List.cons.injEq, and_true] at d0 d1 d2
    exact ⟨(x0, x1, x2), fun _ => ⟨d0, d1, d2⟩⟩
  obtain ⟨q, hq⟩ := choose_lt hM
  obtain ⟨p, hp⟩ := choose_lt hR
  refine ⟨s, ma, ra, mc, rc, wk, fun i => (q i).1, ⟨n2, fun i => (p i).1, fun i => (p i).2.1, fun i => (p i).2.2, n1, fun i => (q i).2.1, fun i => (q i).2.2⟩, rfl, hwk, ⟨by unfold maxLen at hss; omega, fun i hi => by have := (hq i hi).1; unfold maxLen at this; exact Nat.le_trans this (by decide), by dsimp only; omega, by dsimp only; omega, ?_, ?_⟩⟩
  · intro h0
    obtain ⟨b, off, ha, hb, hc⟩ := hz h0
    refine ⟨b, off, ha, hb, fun i hi => ?_⟩
    obtain ⟨d0, d1, d2⟩ := (hq i hi).2 h0
    have e0 := (hc i hi 0 (by omega)).1
    have e1 := (hc i hi 1 (by omega)).1
    have e2 := (hc i hi 2 (by omega)).1
    rw [hm3, d0] at e0; rw [hm3, d1] at e1; rw [hm3, d2] at e2
    exact ⟨e0, e1, e2⟩
  · intro h0
    obtain ⟨b, off, ha, hb, hc⟩ := hy h0
    refine ⟨b, off, ha, hb, fun i hi => ?_⟩
    obtain ⟨d0, d1, d2⟩ := hp i hi h0
    have e0 := (hc i hi 0 (by omega)).1
    have e1 := (hc i hi 1 (by omega)).1
    have e2 := (hc i hi 2 (by omega)).1
    rw [hr3, d0] at e0; rw [hr3, d1] at e1; rw [hr3, d2] at e2
    exact ⟨e0, e1, e2⟩
end
end Go.Proofs.YtpohhnihgegmfaaGreatDoor

namespace Go.Proofs.YtpohhnihgegmfaaGreatDoor
open Go.RowKit
set_option linter.unusedVariables false
set_option linter.unusedSimpArgs false

end Go.Proofs.YtpohhnihgegmfaaGreatDoor

namespace Go.Proofs.YtpohhnihgegmfaaGreatDoor
open Go.RowKit
set_option linter.unusedVariables false
set_option linter.unusedSimpArgs false

theorem CalA.v {w W : World} {s : ByteArray} {ma ra : Option Addr} {mc rc : Nat} {nm : Nat → ByteArray} {c : CalN} (h : CalA w s ma ra mc rc nm c) (hm : c.n ≤ 1048576) (hr : c.nr ≤ 1048576) {m2 r2 : Option Addr} (k : CalM W m2 r2 nm c) : CalV W s m2 r2 c.n c.nr nm c :=
  ⟨hm, hr, Nat.le_refl _, by unfold maxLen; omega, h.sz, h.nz, k⟩
end Go.Proofs.YtpohhnihgegmfaaGreatDoor

namespace Go.Proofs.YtpohhnihgegmfaaGreatDoor
open Go.RowKit
set_option linter.unusedVariables false
set_option linter.unusedSimpArgs false

@[go_sem] theorem fM_fields : Tryz.prog.underlying 99 = some (.struct (Tryz.prog.fieldsOf 99)) := by kernel_rfl
@[go_sem] theorem fM_held : Tryz.prog.stoodInHeld 99 = false := by kernel_rfl
@[go_sem] theorem fM_guard : Tryz.prog.eqGuardType Tryz.prog.depth 99 = false := by kernel_rfl
@[go_sem] theorem fR_fields : Tryz.prog.underlying 101 = some (.struct (Tryz.prog.fieldsOf 101)) := by kernel_rfl
@[go_sem] theorem fR_held : Tryz.prog.stoodInHeld 101 = false := by kernel_rfl
@[go_sem] theorem fR_guard : Tryz.prog.eqGuardType Tryz.prog.depth 101 = false := by kernel_rfl
theorem beqI_t {a b : Int} (h : a = b) : (a == b) = true := by simpa using h
theorem beqI_f {a b : Int} (h : ¬ a = b) : (a == b) = false := by simpa using h
theorem bneI_t {a b : Int} (h : ¬ a = b) : (a != b) = true := by simpa using h
theorem bneI_f {a b : Int} (h : a = b) : (a != b) = false := by simpa using h
theorem beqB_t {a b : Bool} (h : a = b) : (a == b) = true := by simpa using h
theorem beqB_f {a b : Bool} (h : ¬ a = b) : (a == b) = false := by simpa using h
end Go.Proofs.YtpohhnihgegmfaaGreatDoor
