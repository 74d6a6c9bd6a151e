/- Calendars read: the program's, the loop. Calendars read: one line, by the reference. Calendars read: the reference's lines. Calendars read: the reference's, plain parts. Calendars read: the reference's, the loop. Calendars read: the reference's answer. The texts of marks. No program in sight. The texts of marks; lists of texts. Lists of texts: compared, marked; the names of calendars. Months and rules marked; marks held. -/
import Derived.Test.YtpohhnihgegmfaaDoorBe
import Derived.Test.YtpohhnihgegmfaaDoorBc
import Derived.Test.YtpohhnihgegmfaaDoorBa
import Derived.Test.YtpohhnihgegmfaaDoorBb
import Derived.Laws.IdiomStrings
import Derived.Laws.Concat

namespace Go.Proofs.YtpohhnihgegmfaaDoor
open Go.RowKit
set_option linter.unusedVariables false
set_option linter.unusedSimpArgs false

theorem capOf3 {w : World} {base : Nat} {e : TypeId} {size : Nat} {a : Option Addr} {n cap : Nat} {xs : List Value} (h : w.ownsRow base e size (.slice a n cap) n xs) : n ≤ cap ∧ cap ≤ maxLen := by
  rcases h.2 with ⟨h1, h2⟩ | ⟨g, cap', cur, h1, _, _, h2, h3, _⟩
  · simp only [Value.slice.injEq] at h1
    obtain ⟨_, h3, h4⟩ := h1
    subst h4; exact ⟨by omega, Nat.zero_le _⟩
  · simp only [Value.slice.injEq] at h1
    omega
theorem CB.v {w0 w : World} {gc : Nat} {C : Cl} {a1 a2 : Option Addr} {c1 c2 : Nat} (h : CB w0 w gc C a1 c1 a2 c2) (hM : C.M.length ≤ 1048576) (hR : C.R.length ≤ 1048576) (hz : Szs C) : CalV w C.nm a1 a2 c1 c2 (nmOf C.M) (calOf C.M C.R) := by
  have hc := capOf3 h.om
  refine ⟨hM, hR, hc.1, hc.2, Nat.le_trans hz.nm (by omega), fun i hi => ?_, own_calM h.om h.or⟩
  have hi' : i < C.M.length := hi
  have e : nmOf C.M i = C.M[i].1 := by simp [nmOf, List.getD_eq_getElem?_getD, List.getElem?_eq_getElem hi']
  rw [e]
  exact Nat.le_trans (hz.mo _ (List.getElem_mem hi')) (by omega)
/-- what reading a calendar returns -/
def RdC (w w' : World) (C : Cl) (b : Bool) (e : Ending) : Prop :=
  ∃ a1 c1 a2 c2, e = .returned (.tuple #[.agg #[.string C.nm, .slice a1 C.M.length c1, .slice a2 C.R.length c2, .int .i64 C.wk], .bool b]) ∧ Ext w w' ∧
    w'.ownsRow w.heap.size 68 3 (.slice a1 C.M.length c1) C.M.length (MT C.M) ∧ w'.ownsRow w.heap.size 70 3 (.slice a2 C.R.length c2) C.R.length (RT C.R)
theorem zero_rows (w : World) (B : Nat) (e : TypeId) : w.ownsRow B e 3 (.slice none 0 0) 0 [] := ⟨rfl, .inl ⟨rfl, rfl⟩⟩
theorem runI_take {Ps : List (List (List UInt8))} {j : Nat} {C D : Cl} (hj : j < Ps.length) (h : runI C (Ps.take j) = some D) :
    (∀ E, stepI D Ps[j] = some E → runI C (Ps.take (j + 1)) = some E) ∧ (stepI D Ps[j] = none → runI C Ps = none) := by
  have e1 : Ps.take (j + 1) = Ps.take j ++ [Ps[j]] := by rw [List.take_add_one, List.getElem?_eq_getElem hj]; rfl
  have e2 : Ps = Ps.take j ++ Ps[j] :: Ps.drop (j + 1) := by rw [← List.drop_eq_getElem_cons hj, List.take_append_drop]
  refine ⟨fun E hE => ?_, fun hE => ?_⟩
  · rw [e1, runI_app, h]; simp [runI, hE]
  · have e3 := congrArg (runI C) e2
    rw [e3, runI_app, h]; simp [runI, hE]
theorem blk_ne {w : World} {g h : Nat} {T U : TypeId} {A B : Array Value} (h1 : Blk w g T A) (h2 : Blk w h U B) (hT : T ≠ U) : g ≠ h := fun e => by
  subst e
  have h1' : w.heap[g]? = some (.cells A T (0, 0)) := h1
  have h2' : w.heap[g]? = some (.cells B U (0, 0)) := h2
  rw [h1'] at h2'
  simp only [Option.some.injEq, Obj.cells.injEq] at h2'
  exact hT h2'.2.1
theorem own_blk_ne {w : World} {g base z n : Nat} {e U : TypeId} {A : Array Value} {v : Value} {xs : List Value} (h1 : w.ownsRow base e z v n xs) (h2 : Blk w g U A) (hT : e ≠ U) : ∀ k, v.ownBlock = some k → k ≠ g := fun k hk => by
  rcases h1.2 with ⟨rfl, _⟩ | ⟨g1, c1, u1, rfl, _, k1, _⟩
  · simp [Value.ownBlock] at hk
  · simp only [Value.ownBlock, Option.some.injEq] at hk
    subst hk
    exact blk_ne (T := e) (A := u1) k1 h2 hT
theorem own_res {w : World} {B base z n : Nat} {e : TypeId} {v : Value} {xs : List Value} {x0 x1 x2 x3 : Value} (h : w.ownsRow B e z v n xs) (hb : base < B) :
    ((((w.setCell ⟨base, 0, none⟩ x0).setCell ⟨base, 1, none⟩ x1).setCell ⟨base, 2, none⟩ x2).setCell ⟨base, 3, none⟩ x3).ownsRow base e z v n xs := by
  have hne : v.ownBlock ≠ some base := fun e => by have := (h.lt _ e).1; omega
  have h1 := (((h.kept (grown_set base 0 x0) (.inr hne)).kept (grown_set base 1 x1) (.inr hne)).kept (grown_set base 2 x2) (.inr hne)).kept (grown_set base 3 x3) (.inr hne)
  refine ⟨h1.1, ?_⟩
  rcases h1.2 with h2 | ⟨g, c, u, e1, e2, e3⟩
  · exact .inl h2
  · exact .inr ⟨g, c, u, e1, by omega, e3⟩
/-- the loop's state: j lines read -/
def LpC (w2 wr : World) (L : List (List (List UInt8))) (j : Nat) : Prop := ∃ (D : Cl) (a1 : Option Addr) (c1 : Nat) (a2 : Option Addr) (c2 : Nat), runI Cl.z (L.take j) = some D ∧ D.M.length + D.R.length ≤ j ∧ Szs D ∧ CB w2 wr w2.heap.size D a1 c1 a2 c2
theorem LpC.start (w2 : World) (L : List (List (List UInt8))) : LpC w2 (w2.alloc (.cells #[.string ⟨#[]⟩, .slice none 0 0, .slice none 0 0, .int .i64 0] 31)) L 0 :=
  ⟨Cl.z, none, 0, none, 0, rfl, Nat.le_refl _, Szs.z, ⟨Nat.le_refl _, (Ext.refl _).alloc _, Blk.new _ _ _, zero_rows _ _ _, zero_rows _ _ _⟩⟩
set_option maxRecDepth 100000 in
set_option maxHeartbeats 4000000 in
theorem implReadCalendar_c (s : ByteArray) (w : World) (hs : s.size ≤ 1048576) (hg : Gl w) {C : Cl} {b : Bool} (r : CR s.data.toList C b) :
    Calls Tryd.prog 9 #[.string s] w fun e w' => RdC w w' C b e := by
  have HG := Lib.hid hg
  have HR := Lib.hid r
  have KD := Blk.new w #[.string ⟨#[]⟩, .slice none 0 0, .slice none 0 0, .int .i64 0] 31
  obtain ⟨w1', hw1'⟩ : ∃ W, W = w.alloc (.cells #[.string ⟨#[]⟩, .slice none 0 0, .slice none 0 0, .int .i64 0] 31) := ⟨_, rfl⟩
  have hx0 : Ext w w1' := by rw [hw1']; exact (Ext.refl w).alloc _
  rcases linesOf_any s w1' hs (hg.ext hx0) r with ⟨rfl, hl⟩ | hl
  · obtain ⟨rfl, -⟩ := r.no rfl
    have HL := Lib.hid (hw1' ▸ hl)
    clear hl hg r hx0 hw1'
    go_enter Tryd.func9, Tryd.ntmps9
    go_wp2_with fail
    refine (HL.out).mono ?_
    rintro e w2 ⟨rfl, hx2⟩
    have K2 := KD.ext hx2
    have l2 := K2.lt
    have d0 := K2.cell 0
    have d1 := K2.cell 1
    have d2 := K2.cell 2
    have d3 := K2.cell 3
    have f0 := K2.frozen 0
    have f1 := K2.frozen 1
    have f2 := K2.frozen 2
    have f3 := K2.frozen 3
    have e2 : Ext w w2 := Ext.trans ((Ext.refl w).alloc _) hx2
    clear K2 KD hx2
    go_wp2_with fail
    refine bodyPost_ret (v := .tuple #[.agg #[.string ⟨#[]⟩, .slice none 0 0, .slice none 0 0, .int .i64 0], .bool false]) (by simp [results, Tryd.results9, go_sem, d0, d1, d2, d3]) rfl ?_
    exact ⟨none, 0, none, 0, rfl, Ext.setAt (Ext.setAt (Ext.setAt (Ext.setAt e2 _ _ _ (Nat.le_refl _)) _ _ _ (Nat.le_refl _)) _ _ _ (Nat.le_refl _)) _ _ _ (Nat.le_refl _), zero_rows _ _ _, zero_rows _ _ _⟩
  · have HL := Lib.hid (hw1' ▸ hl)
    clear hl hg r hx0 hw1'
    go_enter Tryd.func9, Tryd.ntmps9
    go_wp2_with fail
    refine (HL.out).mono ?_
    rintro e w2 ⟨Ps, a, rfl, hx2, hln, hn, hz, hrun⟩
    have K2 := KD.ext hx2
    have e2 : Ext w w2 := Ext.trans ((Ext.refl w).alloc _) hx2
    have HLN := Lib.hid hln
    have HRUN := Lib.hid hrun
    have HK2 := Lib.hid K2
    have HZ := Lib.hid hz
    have l2 := K2.lt
    clear K2 KD hx2 hln hrun HL hz
    go_wp2_with fail
    obtain ⟨L, hL⟩ : ∃ L, L = lws (Ps.map (·.data.toList)) := ⟨_, rfl⟩
    rw [← hL] at HRUN
    have HLL := Lib.hid hL
    clear hL
    go_loopw [19] (fun i wr => ∃ j : Nat, j ≤ Ps.length ∧ i = .int .i64 (j : Int) ∧ LpC w2 wr L j) (fun i _ => Ps.length - (intOf i).toNat)
    case atStart => exact ⟨0, by omega, rfl, LpC.start w2 L⟩
    case round =>
      obtain ⟨j, hj, rfl, D, a1, c1, a2, c2, hr, hlen, hsz, cb⟩ := hrel
      have CBh := Lib.hid cb
      have HSZ := Lib.hid hsz
      have HRJ := Lib.hid hr
      have lc := cb.cal.lt
      have xx := Lib.hid cb.x
      clear hr hsz cb
      by_cases hlt : j < Ps.length
      · have x1 : (j : Int) < (Ps.length : Int) := by omega
        have x0 : (0 : Int) ≤ (j : Int) := by omega
        obtain ⟨p, hp⟩ : ∃ p, Ps[j]? = some p := ⟨_, List.getElem?_eq_getElem hlt⟩
        obtain ⟨g, rfl, hg2, hcell⟩ := (HLN.out.ext xx.out) j p hp
        have hpz : p.size ≤ 1048576 := HZ.out p (List.mem_of_getElem? hp)
        have hLj : ∃ h : j < L.length, L[j] = splitL 32 p.data.toList := by
          rw [HLL.out]
          refine ⟨by simp [lws]; omega, ?_⟩
          have : Ps[j] = p := by rw [List.getElem?_eq_getElem hlt] at hp; exact Option.some.inj hp
          simp [lws, this]
        have HLJ := Lib.hid hLj
        clear hp hLj
        go_wp2_with fail
        refine (wordsOf_c p _ hpz (HG.out.ext (Ext.trans e2 xx.out))).mono ?_
        rintro e w4 ⟨Ws, gw, rfl, hx4, kb, hpp⟩
        have CB4 := CBh.out.ext hx4
        have hWs : Ws ≠ [] := fun e => by
          subst e
          exact splitL_ne 32 p.data.toList (by rw [← hpp]; rfl)
        have HC := Lib.hid (line_c w2 w2.heap.size gw D a1 c1 a2 c2 Ws w4 CB4 (by omega) (by omega) kb hWs (fun q hq => Nat.le_trans (Parts.le hpp q hq) hpz) (blk_ne kb CB4.cal (by decide)) (own_blk_ne CB4.om kb (by decide)) (own_blk_ne CB4.or kb (by decide)) (HG.out.ext e2))
        have HPP := Lib.hid (show Ws.map (·.data.toList) = splitL 32 p.data.toList from hpp)
        have HCB4 := Lib.hid CB4
        clear hWs kb hpp CB4 hx4 hcell
        go_wp2_with fail
        refine (HC.out).mono ?_
        rintro e w5 hl
        cases hst : stepI D (Ws.map (·.data.toList)) with
        | none =>
          rw [hst] at hl
          obtain ⟨rfl, rfl⟩ := hl
          obtain ⟨hj', hLe⟩ := HLJ.out
          have hno := (runI_take hj' HRJ.out).2 (by rw [hLe, ← HPP.out]; exact hst)
          obtain rfl : b = false := by
            cases b
            · rfl
            · rw [HRUN.out rfl] at hno; cases hno
          obtain ⟨rfl, -⟩ := HR.out.no rfl
          have e5 : Ext w w5 := Ext.trans e2 HCB4.out.x
          have K5 := HK2.out.ext HCB4.out.x
          have l5 := K5.lt
          have d0 := K5.cell 0
          have d1 := K5.cell 1
          have d2 := K5.cell 2
          have d3 := K5.cell 3
          have f0 := K5.frozen 0
          have f1 := K5.frozen 1
          have f2 := K5.frozen 2
          have f3 := K5.frozen 3
          clear K5 hst hno hLe hj'
          go_wp2_with fail
          refine bodyPost_ret (v := .tuple #[.agg #[.string ⟨#[]⟩, .slice none 0 0, .slice none 0 0, .int .i64 0], .bool false]) (by simp [results, Tryd.results9, go_sem, d0, d1, d2, d3]) rfl ?_
          exact ⟨none, 0, none, 0, rfl, Ext.setAt (Ext.setAt (Ext.setAt (Ext.setAt e5 _ _ _ (Nat.le_refl _)) _ _ _ (Nat.le_refl _)) _ _ _ (Nat.le_refl _)) _ _ _ (Nat.le_refl _), zero_rows _ _ _, zero_rows _ _ _⟩
        | some E =>
          rw [hst] at hl
          obtain ⟨rfl, a3, c3, a4, c4, cb5⟩ := hl
          have HCB5 := Lib.hid cb5
          have HST := Lib.hid hst
          clear hst cb5
          go_wp2_with fail
          obtain ⟨hj', hLe⟩ := HLJ.out
          have hst := HST.out
          refine ⟨⟨j + 1, by omega, by go_num, E, a3, c3, a4, c4, (runI_take hj' HRJ.out).1 E (by rw [hLe, ← HPP.out]; exact hst), by have := stepI_len hst; omega, HSZ.out.step hst (fun x hx => ?_), HCB5.out⟩, by simp [intOf]; omega⟩
          rw [HPP.out] at hx
          have := splitL_len 32 _ _ hx
          rw [ba_len] at this
          omega
      · obtain rfl : j = Ps.length := by omega
        have x1 : ¬ (Ps.length : Int) < (Ps.length : Int) := by omega
        have hall : runI Cl.z L = some D := by
          have h1 := HRJ.out
          rwa [List.take_of_length_le (by rw [HLL.out]; simp [lws])] at h1
        have hD : b = true → D = C := fun e => by
          have h1 := HRUN.out e
          rw [hall] at h1; exact Option.some.inj h1
        have HD := Lib.hid hD
        have HT := Lib.hid (HR.out.test hD)
        have hv := CBh.out.v (by omega) (by omega) HSZ.out
        obtain ⟨V, hV⟩ : ∃ V, V = calB D.nm (nmOf D.M) (calOf D.M D.R) D.wk := ⟨_, rfl⟩
        have hV' : V = D.ok := hV
        obtain ⟨T, hTx⟩ : ∃ T, T = calTx D.nm (nmOf D.M) (calOf D.M D.R) D.wk := ⟨_, rfl⟩
        rw [← hTx, ← hV'] at HT
        have HVC := Lib.hid (hV ▸ validCalendar_c D.nm a1 a2 c1 c2 D.wk (nmOf D.M) (calOf D.M D.R) _ hv.nb hv.rb hv.mb hv.mx hv.sz hv.nz hv.mem : Calls Tryd.prog 22 #[.agg #[.string D.nm, .slice a1 D.M.length c1, .slice a2 D.R.length c2, .int .i64 D.wk]] _ fun e w' => e = .returned (.bool V) ∧ Ext _ w')
        have HCT := Lib.hid (fun W (hq : Ext _ W) hW => (hTx ▸ implCalendarText_c D.wk (hv.ext hq) hW : Calls Tryd.prog 23 #[.agg #[.string D.nm, .slice a1 D.M.length c1, .slice a2 D.R.length c2, .int .i64 D.wk]] W fun e w' => e = .returned (.string ⟨T.toArray⟩) ∧ Ext W w'))
        have q0 := CBh.out.cal.cell 0
        have q1 := CBh.out.cal.cell 1
        have q2 := CBh.out.cal.cell 2
        have q3 := CBh.out.cal.cell 3
        clear hall hD hv hV hV' hTx
        go_wp2_with fail
        refine (HVC.out).mono ?_
        rintro e w5 ⟨rfl, hx5⟩
        have CB5 := Lib.hid (CBh.out.ext hx5)
        clear q0 q1 q2 q3
        have q0 := CB5.out.cal.cell 0
        have q1 := CB5.out.cal.cell 1
        have q2 := CB5.out.cal.cell 2
        have q3 := CB5.out.cal.cell 3
        have lq := CB5.out.cal.lt
        cases V
        · obtain rfl : b = false := by
            cases b
            · rfl
            · have := (HT.out.2 rfl).1; cases this
          obtain ⟨rfl, -⟩ := HR.out.no rfl
          have e5 : Ext w w5 := Ext.trans e2 CB5.out.x
          have K5 := HK2.out.ext CB5.out.x
          have l5 := K5.lt
          have d0 := K5.cell 0
          have f0 := K5.frozen 0
          have d1 := K5.cell 1
          have f1 := K5.frozen 1
          have d2 := K5.cell 2
          have f2 := K5.frozen 2
          have d3 := K5.cell 3
          have f3 := K5.frozen 3
          clear K5
          go_wp2_with fail
          refine bodyPost_ret (v := .tuple #[.agg #[.string ⟨#[]⟩, .slice none 0 0, .slice none 0 0, .int .i64 0], .bool false]) (by simp [results, Tryd.results9, go_sem, d0, d1, d2, d3]) rfl ?_
          exact ⟨none, 0, none, 0, rfl, Ext.setAt (Ext.setAt (Ext.setAt (Ext.setAt e5 _ _ _ (Nat.le_refl _)) _ _ _ (Nat.le_refl _)) _ _ _ (Nat.le_refl _)) _ _ _ (Nat.le_refl _), zero_rows _ _ _, zero_rows _ _ _⟩
        · go_wp2_with fail
          refine (HCT.out _ hx5 (HG.out.tab.ext (Ext.trans e2 CB5.out.x))).mono ?_
          rintro e w6 ⟨rfl, hx6⟩
          have CB6 := Lib.hid (CB5.out.ext hx6)
          clear q0 q1 q2 q3
          have q0 := CB6.out.cal.cell 0
          have q1 := CB6.out.cal.cell 1
          have q2 := CB6.out.cal.cell 2
          have q3 := CB6.out.cal.cell 3
          have lq := CB6.out.cal.lt
          have e5 : Ext w w6 := Ext.trans e2 CB6.out.x
          have K5 := HK2.out.ext CB6.out.x
          have l5 := K5.lt
          have d0 := K5.cell 0
          have f0 := K5.frozen 0
          have d1 := K5.cell 1
          have f1 := K5.frozen 1
          have d2 := K5.cell 2
          have f2 := K5.frozen 2
          have d3 := K5.cell 3
          have f3 := K5.frozen 3
          have HK6 := Lib.hid K5
          clear K5
          cases b
          · obtain ⟨rfl, -⟩ := HR.out.no rfl
            have z1 : (T == s.toList) = false := by
              rw [beq_eq_false_iff_ne]
              exact fun e => by cases HT.out.1 ⟨by first | rfl | trivial, e.trans (ByteArray.toList_eq s)⟩
            go_wp2_with fail
            refine bodyPost_ret (v := .tuple #[.agg #[.string ⟨#[]⟩, .slice none 0 0, .slice none 0 0, .int .i64 0], .bool false]) (by simp [results, Tryd.results9, go_sem, d0, d1, d2, d3]) rfl ?_
            exact ⟨none, 0, none, 0, rfl, Ext.setAt (Ext.setAt (Ext.setAt (Ext.setAt e5 _ _ _ (Nat.le_refl _)) _ _ _ (Nat.le_refl _)) _ _ _ (Nat.le_refl _)) _ _ _ (Nat.le_refl _), zero_rows _ _ _, zero_rows _ _ _⟩
          · obtain rfl := HD.out rfl
            have z1 : (T == s.toList) = true := by
              rw [(HT.out.2 rfl).2, ByteArray.toList_eq]; simp
            go_wp2_with fail
            refine bodyPost_ret (v := .tuple #[.agg #[.string D.nm, .slice a1 D.M.length c1, .slice a2 D.R.length c2, .int .i64 D.wk], .bool true]) (by simp [results, Tryd.results9, go_sem, d0, d1, d2, d3]) rfl ?_
            exact ⟨a1, c1, a2, c2, rfl, Ext.setAt (Ext.setAt (Ext.setAt (Ext.setAt e5 _ _ _ (Nat.le_refl _)) _ _ _ (Nat.le_refl _)) _ _ _ (Nat.le_refl _)) _ _ _ (Nat.le_refl _), own_res CB6.out.om (by omega), own_res CB6.out.or (by omega)⟩
end Go.Proofs.YtpohhnihgegmfaaDoor

namespace Go.Proofs.YtpohhnihgegmfaaDoor
open Go.RowKit
set_option linter.unusedVariables false
set_option linter.unusedSimpArgs false

theorem own4 {w : World} {B g n cp : Nat} {e : TypeId} {xs : List Value} (h : w.ownsRow B e 1 (.slice (some ⟨g, 0, none⟩) n cp) n xs) (j : Nat) (hj : j < n) : w.cell? ⟨g, j, none⟩ = xs[j]? := by
  obtain ⟨g', e, _, _, hc⟩ := own_atK h (by omega)
  obtain rfl : g = g' := by simpa using e
  exact (hc j (by omega)).1
set_option maxRecDepth 100000 in
set_option maxHeartbeats 4000000 in
theorem lineS_mon (w0 : World) (gc g B cp : Nat) (C : Cl) (a1 : Option Addr) (c1 : Nat) (a2 : Option Addr) (c2 : Nat) (p1 p2 p3 : ByteArray) (w : World) (h : CB w0 w gc C a1 c1 a2 c2) (hn : C.M.length ≤ 1048576)
    (hw : w.ownsRow B 9 1 (.slice (some ⟨g, 0, none⟩) 4 cp) 4 [.string ⟨#[109, 111, 110, 116, 104]⟩, .string p1, .string p2, .string p3]) (hz : p2.size ≤ 1048576) (hz3 : p3.size ≤ 1048576) (hgc : g ≠ gc) (hgm : ∀ k, (Value.slice a1 C.M.length c1).ownBlock = some k → k ≠ g) :
    Calls Tryd.prog 38 #[.pointer (some ⟨gc, 0, none⟩), .slice (some ⟨g, 0, none⟩) 4 cp] w fun e w' => e = .returned (.bool (nb p2.data.toList && (nb p3.data.toList && decide (C.R.length = 0)))) ∧ ∃ a1' c1', CB w0 w' gc ⟨C.nm, C.wk, C.M ++ [(p1, nv p2.data.toList, nv p3.data.toList)], C.R⟩ a1' c1' a2 c2 := by
  obtain ⟨x, hx⟩ : ∃ x, x = nv p2.data.toList := ⟨_, rfl⟩
  obtain ⟨y, hy⟩ : ∃ y, y = nv p3.data.toList := ⟨_, rfl⟩
  rw [← hx, ← hy]
  have N2 := Lib.hid (fun W => (hx ▸ l01Number_c p2 W hz (nv_r _) : Calls Tryd.prog 30 #[.string p2] W fun e w' => e = .returned (.tuple #[.int .i64 x, .bool (nb p2.data.toList)]) ∧ Ext W w'))
  have N3 := Lib.hid (fun W => (hy ▸ l01Number_c p3 W hz3 (nv_r _) : Calls Tryd.prog 30 #[.string p3] W fun e w' => e = .returned (.tuple #[.int .i64 y, .bool (nb p3.data.toList)]) ∧ Ext W w'))
  have H := Lib.hid h
  have HW := Lib.hid hw
  have s0 := own4 hw 0 (by decide)
  have s2 := own4 hw 2 (by decide)
  have s3 := own4 hw 3 (by decide)
  have lo := h.lo
  clear hx hy h hw
  generalize nb p2.data.toList = n2 at N2 ⊢
  generalize nb p3.data.toList = n3 at N3 ⊢
  obtain ⟨z, hz0⟩ : ∃ z, z = decide (C.R.length = 0) := ⟨_, rfl⟩
  rw [← hz0]
  have zz : ((C.R.length : Int) == 0) = z := by rw [hz0]; by_cases hh : C.R.length = 0 <;> simp [hh]
  clear hz0
  go_enter Tryd.func38, Tryd.ntmps38
  go_wp2_with fail
  refine (N2.out _).mono ?_
  rintro e w2 ⟨rfl, hx2⟩
  have H2 := Lib.hid (H.out.ext hx2)
  have HW2 := Lib.hid (own_ext HW.out hx2)
  have s3 := own4 HW2.out 3 (by decide)
  clear hx2 H HW s0 s2
  go_wp2_with fail
  refine (N3.out _).mono ?_
  rintro e w3 ⟨rfl, hx3⟩
  have H3 := Lib.hid (H2.out.ext hx3)
  have HW3 := Lib.hid (own_ext HW2.out hx3)
  have l3 := H3.out.cal.lt
  have lg := (HW3.out.lt g rfl).2
  obtain ⟨v1, hv1⟩ : ∃ v, v = Value.slice a1 C.M.length c1 := ⟨_, rfl⟩
  have OM := Lib.hid (show w3.ownsRow (gc + 1) 68 3 v1 C.M.length (MT C.M) from hv1 ▸ H3.out.om)
  have SK : ∀ w', Ext w3 w' → w'.cell? ⟨gc, 1, none⟩ = some v1 ∧ w'.cell? ⟨g, 1, none⟩ = some (.string p1) ∧ w'.frozen? ⟨gc, 1, none⟩ = false := fun w' hq => by
    refine ⟨?_, (hq.cell lg).trans (own4 HW3.out 1 (by decide)), (H3.out.cal.ext hq).frozen 1⟩
    rw [hv1]; exact (hq.cell l3).trans (H3.out.cal.cell 1)
  have SK' := Lib.hid SK
  have ng1 : v1.ownBlock ≠ some gc := hv1 ▸ H3.out.far1
  have ng2 : v1.ownBlock ≠ some g := fun e => hgm g (by rw [← hv1]; exact e) rfl
  have HV1 := Lib.hid hv1
  clear SK H2 HW2 hx3 s3 hv1
  obtain ⟨r1, r2, r3⟩ := SK'.out w3 (Ext.refl _)
  go_upto_region 7 with fail
  go_region_law ((refine appGs 28 68 _ _ _ 3 32 (by rfl) (by rfl) Tryd.underlying28 info_month rfl (by decide) (by decide) (gc + 1) v1 C.M.length (MT C.M) 1 [.string p1, .int .i64 x, .int .i64 y] _ 1 (by rfl) (by rfl) (own_ext OM.out (by repeat (first | with_reducible exact Ext.refl _ | with_reducible assumption | with_reducible refine Ext.alloc ?_ _ | with_reducible refine Ext.drew ?_ | (with_reducible refine Ext.setAt ?_ _ _ _ ?_; rotate_left; omega) | with_reducible refine Ext.trans ?_ (by assumption) | with_reducible exact Past.bel _ | with_reducible refine Ext.trans ?_ (Past.bel _)))) (Blk.new _ _ _) rfl (by intro u hu; simp at hu; rcases hu with rfl | rfl | rfl <;> rfl) (by omega) (by omega) hn (Nat.le_trans (show gc + 1 ≤ w3.heap.size from l3) (Ext.size (w := w3) (by repeat (first | with_reducible exact Ext.refl _ | with_reducible assumption | with_reducible refine Ext.alloc ?_ _ | with_reducible refine Ext.drew ?_ | (with_reducible refine Ext.setAt ?_ _ _ _ ?_; rotate_left; omega) | with_reducible refine Ext.trans ?_ (by assumption) | with_reducible exact Past.bel _ | with_reducible refine Ext.trans ?_ (Past.bel _))))) ?_; intro v6 w6 s6 s7 s8; obtain ⟨b6, c6, rfl⟩ := own_form s6; have q1 := (s8 gc 1 (Nat.lt_of_lt_of_le l3 (Ext.size (w := w3) (by repeat (first | with_reducible exact Ext.refl _ | with_reducible assumption | with_reducible refine Ext.alloc ?_ _ | with_reducible refine Ext.drew ?_ | (with_reducible refine Ext.setAt ?_ _ _ _ ?_; rotate_left; omega) | with_reducible refine Ext.trans ?_ (by assumption) | with_reducible exact Past.bel _ | with_reducible refine Ext.trans ?_ (Past.bel _))))) ng1).trans (SK'.out _ (by repeat (first | with_reducible exact Ext.refl _ | with_reducible assumption | with_reducible refine Ext.alloc ?_ _ | with_reducible refine Ext.drew ?_ | (with_reducible refine Ext.setAt ?_ _ _ _ ?_; rotate_left; omega) | with_reducible refine Ext.trans ?_ (by assumption) | with_reducible exact Past.bel _ | with_reducible refine Ext.trans ?_ (Past.bel _)))).1; have q2 := ((H3.out.cal.ext (by repeat (first | with_reducible exact Ext.refl _ | with_reducible assumption | with_reducible refine Ext.alloc ?_ _ | with_reducible refine Ext.drew ?_ | (with_reducible refine Ext.setAt ?_ _ _ _ ?_; rotate_left; omega) | with_reducible refine Ext.trans ?_ (by assumption) | with_reducible exact Past.bel _ | with_reducible refine Ext.trans ?_ (Past.bel _)))).grown s7 (fun e => ng1 e.symm)).frozen 1))
  all_goals
    have hc6 := (H3.out.cal.ext (by repeat (first | with_reducible exact Ext.refl _ | with_reducible assumption | with_reducible refine Ext.alloc ?_ _ | with_reducible refine Ext.drew ?_ | (with_reducible refine Ext.setAt ?_ _ _ _ ?_; rotate_left; omega) | with_reducible refine Ext.trans ?_ (by assumption) | with_reducible exact Past.bel _ | with_reducible refine Ext.trans ?_ (Past.bel _)))).grown s7 (fun e => ng1 e.symm)
    have ho6 := (own_ext H3.out.or (by repeat (first | with_reducible exact Ext.refl _ | with_reducible assumption | with_reducible refine Ext.alloc ?_ _ | with_reducible refine Ext.drew ?_ | (with_reducible refine Ext.setAt ?_ _ _ _ ?_; rotate_left; omega) | with_reducible refine Ext.trans ?_ (by assumption) | with_reducible exact Past.bel _ | with_reducible refine Ext.trans ?_ (Past.bel _)))).kept s7 (by have := own_apart H3.out.om H3.out.or (by decide); rwa [← HV1.out] at this)
    have hx6 : Ext w0 _ := Ext.grown (Ext.trans H3.out.x (b := w3) (by repeat (first | with_reducible exact Ext.refl _ | with_reducible assumption | with_reducible refine Ext.alloc ?_ _ | with_reducible refine Ext.drew ?_ | (with_reducible refine Ext.setAt ?_ _ _ _ ?_; rotate_left; omega) | with_reducible refine Ext.trans ?_ (by assumption) | with_reducible exact Past.bel _ | with_reducible refine Ext.trans ?_ (Past.bel _)))) s7 (fun k hk => by have := (OM.out.lt k hk).1; omega)
    have n6 : (Value.slice b6 (C.M.length + 1) c6).ownBlock ≠ some gc := fun e => by have := (s6.lt _ e).1; omega
    have n7 : (Value.slice a2 C.R.length c2).ownBlock ≠ some gc := H3.out.far2
    have q3 : _ = some (Value.slice a2 C.R.length c2) := hc6.cell 2
    have lq := hc6.lt
    clear s8
    cases n2 <;> cases n3 <;> cases z <;> (go_wp2_with fail; go_ret; exact ⟨rfl, b6, c6, CB.addM (q := (p1, x, y)) lo hx6 hc6 s6 ho6 n6 n7⟩)
set_option maxRecDepth 100000 in
set_option maxHeartbeats 4000000 in
theorem lineS_lea (w0 : World) (gc g B cp : Nat) (C : Cl) (a1 : Option Addr) (c1 : Nat) (a2 : Option Addr) (c2 : Nat) (p1 p2 p3 : ByteArray) (w : World) (h : CB w0 w gc C a1 c1 a2 c2) (hn : C.R.length ≤ 1048576)
    (hw : w.ownsRow B 9 1 (.slice (some ⟨g, 0, none⟩) 4 cp) 4 [.string ⟨#[108, 101, 97, 112]⟩, .string p1, .string p2, .string p3]) (hz : p1.size ≤ 1048576) (hz3 : p2.size ≤ 1048576) (hgc : g ≠ gc) (hgm : ∀ k, (Value.slice a2 C.R.length c2).ownBlock = some k → k ≠ g) :
    Calls Tryd.prog 38 #[.pointer (some ⟨gc, 0, none⟩), .slice (some ⟨g, 0, none⟩) 4 cp] w fun e w' => e = .returned (.bool (nb p1.data.toList && (nb p2.data.toList && (decide (p3.data.toList = yesK) || decide (p3.data.toList = noK))))) ∧ ∃ a2' c2', CB w0 w' gc ⟨C.nm, C.wk, C.M, C.R ++ [(nv p1.data.toList, nv p2.data.toList, decide (p3.data.toList = yesK))]⟩ a1 c1 a2' c2' := by
  obtain ⟨x, hx⟩ : ∃ x, x = nv p1.data.toList := ⟨_, rfl⟩
  obtain ⟨y, hy⟩ : ∃ y, y = nv p2.data.toList := ⟨_, rfl⟩
  obtain ⟨b, hb⟩ : ∃ b, b = decide (p3.data.toList = yesK) := ⟨_, rfl⟩
  rw [← hx, ← hy, ← hb]
  have z1 : (p3.toList == [121, 101, 115]) = b := by rw [hb, ByteArray.toList_eq, yesK]; by_cases hh : p3.data.toList = [121, 101, 115] <;> simp [hh]
  have N2 := Lib.hid (fun W => (hx ▸ l01Number_c p1 W hz (nv_r _) : Calls Tryd.prog 30 #[.string p1] W fun e w' => e = .returned (.tuple #[.int .i64 x, .bool (nb p1.data.toList)]) ∧ Ext W w'))
  have N3 := Lib.hid (fun W => (hy ▸ l01Number_c p2 W hz3 (nv_r _) : Calls Tryd.prog 30 #[.string p2] W fun e w' => e = .returned (.tuple #[.int .i64 y, .bool (nb p2.data.toList)]) ∧ Ext W w'))
  have H := Lib.hid h
  have HW := Lib.hid hw
  have s0 := own4 hw 0 (by decide)
  have s2 := own4 hw 1 (by decide)
  have s3 := own4 hw 2 (by decide)
  have lo := h.lo
  clear hx hy hb h hw
  generalize nb p1.data.toList = n2 at N2 ⊢
  generalize nb p2.data.toList = n3 at N3 ⊢
  obtain ⟨z, hz0⟩ : ∃ z, z = decide (p3.data.toList = noK) := ⟨_, rfl⟩
  rw [← hz0]
  have zz : (p3.toList == [110, 111]) = z := by rw [hz0, ByteArray.toList_eq, noK]; by_cases hh : p3.data.toList = [110, 111] <;> simp [hh]
  clear hz0
  go_enter Tryd.func38, Tryd.ntmps38
  go_wp2_with fail
  refine (N2.out _).mono ?_
  rintro e w2 ⟨rfl, hx2⟩
  have H2 := Lib.hid (H.out.ext hx2)
  have HW2 := Lib.hid (own_ext HW.out hx2)
  have s3 := own4 HW2.out 2 (by decide)
  clear hx2 H HW s0 s2
  go_wp2_with fail
  refine (N3.out _).mono ?_
  rintro e w3 ⟨rfl, hx3⟩
  have H3 := Lib.hid (H2.out.ext hx3)
  have HW3 := Lib.hid (own_ext HW2.out hx3)
  have l3 := H3.out.cal.lt
  have lg := (HW3.out.lt g rfl).2
  obtain ⟨v1, hv1⟩ : ∃ v, v = Value.slice a2 C.R.length c2 := ⟨_, rfl⟩
  have OM := Lib.hid (show w3.ownsRow (gc + 1) 70 3 v1 C.R.length (RT C.R) from hv1 ▸ H3.out.or)
  have SK : ∀ w', Ext w3 w' → w'.cell? ⟨gc, 2, none⟩ = some v1 ∧ w'.cell? ⟨g, 3, none⟩ = some (.string p3) ∧ w'.frozen? ⟨gc, 2, none⟩ = false := fun w' hq => by
    refine ⟨?_, (hq.cell lg).trans (own4 HW3.out 3 (by decide)), (H3.out.cal.ext hq).frozen 2⟩
    rw [hv1]; exact (hq.cell l3).trans (H3.out.cal.cell 2)
  have SK' := Lib.hid SK
  have ng1 : v1.ownBlock ≠ some gc := hv1 ▸ H3.out.far2
  have ng2 : v1.ownBlock ≠ some g := fun e => hgm g (by rw [← hv1]; exact e) rfl
  have HV1 := Lib.hid hv1
  clear SK H2 HW2 hx3 s3 hv1
  obtain ⟨r1, r2, r3⟩ := SK'.out w3 (Ext.refl _)
  go_upto_region 12 with fail
  go_region_law ((refine appGs 29 70 _ _ _ 3 24 (by rfl) (by rfl) Tryd.underlying29 info_rule rfl (by decide) (by decide) (gc + 1) v1 C.R.length (RT C.R) 1 [.int .i64 x, .int .i64 y, .bool b] _ 1 (by rfl) (by rfl) (own_ext OM.out (by repeat (first | with_reducible exact Ext.refl _ | with_reducible assumption | with_reducible refine Ext.alloc ?_ _ | with_reducible refine Ext.drew ?_ | (with_reducible refine Ext.setAt ?_ _ _ _ ?_; rotate_left; omega) | with_reducible refine Ext.trans ?_ (by assumption) | with_reducible exact Past.bel _ | with_reducible refine Ext.trans ?_ (Past.bel _)))) (Blk.new _ _ _) rfl (by intro u hu; simp at hu; rcases hu with rfl | rfl | rfl <;> rfl) (by omega) (by omega) hn (Nat.le_trans (show gc + 1 ≤ w3.heap.size from l3) (Ext.size (w := w3) (by repeat (first | with_reducible exact Ext.refl _ | with_reducible assumption | with_reducible refine Ext.alloc ?_ _ | with_reducible refine Ext.drew ?_ | (with_reducible refine Ext.setAt ?_ _ _ _ ?_; rotate_left; omega) | with_reducible refine Ext.trans ?_ (by assumption) | with_reducible exact Past.bel _ | with_reducible refine Ext.trans ?_ (Past.bel _))))) ?_; intro v6 w6 s6 s7 s8; obtain ⟨b6, c6, rfl⟩ := own_form s6; have q1 := (s8 gc 2 (Nat.lt_of_lt_of_le l3 (Ext.size (w := w3) (by repeat (first | with_reducible exact Ext.refl _ | with_reducible assumption | with_reducible refine Ext.alloc ?_ _ | with_reducible refine Ext.drew ?_ | (with_reducible refine Ext.setAt ?_ _ _ _ ?_; rotate_left; omega) | with_reducible refine Ext.trans ?_ (by assumption) | with_reducible exact Past.bel _ | with_reducible refine Ext.trans ?_ (Past.bel _))))) ng1).trans (SK'.out _ (by repeat (first | with_reducible exact Ext.refl _ | with_reducible assumption | with_reducible refine Ext.alloc ?_ _ | with_reducible refine Ext.drew ?_ | (with_reducible refine Ext.setAt ?_ _ _ _ ?_; rotate_left; omega) | with_reducible refine Ext.trans ?_ (by assumption) | with_reducible exact Past.bel _ | with_reducible refine Ext.trans ?_ (Past.bel _)))).1; have q2 := ((H3.out.cal.ext (by repeat (first | with_reducible exact Ext.refl _ | with_reducible assumption | with_reducible refine Ext.alloc ?_ _ | with_reducible refine Ext.drew ?_ | (with_reducible refine Ext.setAt ?_ _ _ _ ?_; rotate_left; omega) | with_reducible refine Ext.trans ?_ (by assumption) | with_reducible exact Past.bel _ | with_reducible refine Ext.trans ?_ (Past.bel _)))).grown s7 (fun e => ng1 e.symm)).frozen 2))
  all_goals
    have hc6 := (H3.out.cal.ext (by repeat (first | with_reducible exact Ext.refl _ | with_reducible assumption | with_reducible refine Ext.alloc ?_ _ | with_reducible refine Ext.drew ?_ | (with_reducible refine Ext.setAt ?_ _ _ _ ?_; rotate_left; omega) | with_reducible refine Ext.trans ?_ (by assumption) | with_reducible exact Past.bel _ | with_reducible refine Ext.trans ?_ (Past.bel _)))).grown s7 (fun e => ng1 e.symm)
    have ho6 := (own_ext H3.out.om (by repeat (first | with_reducible exact Ext.refl _ | with_reducible assumption | with_reducible refine Ext.alloc ?_ _ | with_reducible refine Ext.drew ?_ | (with_reducible refine Ext.setAt ?_ _ _ _ ?_; rotate_left; omega) | with_reducible refine Ext.trans ?_ (by assumption) | with_reducible exact Past.bel _ | with_reducible refine Ext.trans ?_ (Past.bel _)))).kept s7 (by have := own_apart H3.out.or H3.out.om (by decide); rwa [← HV1.out] at this)
    have hx6 : Ext w0 _ := Ext.grown (Ext.trans H3.out.x (b := w3) (by repeat (first | with_reducible exact Ext.refl _ | with_reducible assumption | with_reducible refine Ext.alloc ?_ _ | with_reducible refine Ext.drew ?_ | (with_reducible refine Ext.setAt ?_ _ _ _ ?_; rotate_left; omega) | with_reducible refine Ext.trans ?_ (by assumption) | with_reducible exact Past.bel _ | with_reducible refine Ext.trans ?_ (Past.bel _)))) s7 (fun k hk => by have := (OM.out.lt k hk).1; omega)
    have n6 : (Value.slice b6 (C.R.length + 1) c6).ownBlock ≠ some gc := fun e => by have := (s6.lt _ e).1; omega
    have n7 : (Value.slice a1 C.M.length c1).ownBlock ≠ some gc := H3.out.far1
    have p9 := (s8 g 3 (Nat.lt_of_lt_of_le lg (Ext.size (w := w3) (by repeat (first | with_reducible exact Ext.refl _ | with_reducible assumption | with_reducible refine Ext.alloc ?_ _ | with_reducible refine Ext.drew ?_ | (with_reducible refine Ext.setAt ?_ _ _ _ ?_; rotate_left; omega) | with_reducible refine Ext.trans ?_ (by assumption) | with_reducible exact Past.bel _ | with_reducible refine Ext.trans ?_ (Past.bel _))))) ng2).trans (SK'.out _ (by repeat (first | with_reducible exact Ext.refl _ | with_reducible assumption | with_reducible refine Ext.alloc ?_ _ | with_reducible refine Ext.drew ?_ | (with_reducible refine Ext.setAt ?_ _ _ _ ?_; rotate_left; omega) | with_reducible refine Ext.trans ?_ (by assumption) | with_reducible exact Past.bel _ | with_reducible refine Ext.trans ?_ (Past.bel _)))).2.1
    have lq := hc6.lt
    clear s8
    cases n2 <;> cases n3 <;> cases z <;> (first | cases b | skip) <;> (go_wp2_with fail; go_ret; exact ⟨rfl, b6, c6, CB.addR (q := (x, y, _)) lo hx6 hc6 s6 ho6 n6 n7⟩)
end Go.Proofs.YtpohhnihgegmfaaDoor

namespace Go.Proofs.YtpohhnihgegmfaaDoor
open Go.RowKit
set_option linter.unusedVariables false
set_option linter.unusedSimpArgs false

theorem lineS_len (gc : Nat) (a : Option Addr) (n cp : Nat) (w : World) (h : n ≠ 4) :
    Calls Tryd.prog 38 #[.pointer (some ⟨gc, 0, none⟩), .slice a n cp] w fun e w' => e = .returned (.bool false) ∧ w' = w := by
  have x0 : ((n : Int) == 4) = false := by rw [beq_eq_false_iff_ne]; omega
  clear h
  go_enter Tryd.func38, Tryd.ntmps38
  go_wp2_with fail
  go_ret
  exact ⟨rfl, rfl⟩
theorem lineS_no (gc g cp : Nat) (p0 : ByteArray) (w : World) (hw : w.cell? ⟨g, 0, none⟩ = some (.string p0)) (h2 : p0.data.toList ≠ monK) (h3 : p0.data.toList ≠ leaK) :
    Calls Tryd.prog 38 #[.pointer (some ⟨gc, 0, none⟩), .slice (some ⟨g, 0, none⟩) 4 cp] w fun e w' => e = .returned (.bool false) ∧ w' = w := by
  have y2 : (p0.toList == [109, 111, 110, 116, 104]) = false := by rw [beq_eq_false_iff_ne, ByteArray.toList_eq]; exact h2
  have y3 : (p0.toList == [108, 101, 97, 112]) = false := by rw [beq_eq_false_iff_ne, ByteArray.toList_eq]; exact h3
  clear h2 h3
  go_enter Tryd.func38, Tryd.ntmps38
  go_wp2_with fail
  go_ret
  exact ⟨rfl, rfl⟩
theorem own_row_ne {w : World} {B1 B2 z1 z2 g c n1 n2 : Nat} {e1 e2 : TypeId} {v : Value} {xs ys : List Value} (h1 : w.ownsRow B1 e1 z1 v n1 xs) (h2 : w.ownsRow B2 e2 z2 (.slice (some ⟨g, 0, none⟩) n2 c) n2 ys) (he : e2 ≠ e1) : ∀ k, v.ownBlock = some k → k ≠ g := fun k hk => by
  rcases own_apart h2 h1 he with h | h
  · rw [h] at hk; cases hk
  · intro e; subst e; exact h (hk.trans rfl)
theorem lineS_c (w0 : World) (gc B cp : Nat) (a : Option Addr) (C : Cl) (a1 : Option Addr) (c1 : Nat) (a2 : Option Addr) (c2 : Nat) (Ps : List ByteArray) (w : World) (h : CB w0 w gc C a1 c1 a2 c2) (hM : C.M.length ≤ 1048576) (hR : C.R.length ≤ 1048576)
    (hw : w.ownsRow B 9 1 (.slice a Ps.length cp) Ps.length (Ps.map Value.string)) (hz : ∀ p ∈ Ps, p.size ≤ 1048576) (hgc : ∀ g, a = some ⟨g, 0, none⟩ → g ≠ gc) :
    Calls Tryd.prog 38 #[.pointer (some ⟨gc, 0, none⟩), .slice a Ps.length cp] w fun e w' => e = .returned (.bool (stepS C (Ps.map (·.data.toList))).2) ∧ ∃ a1 c1 a2 c2, CB w0 w' gc (stepS C (Ps.map (·.data.toList))).1 a1 c1 a2 c2 := by
  match Ps, hw, hz with
  | [p0, p1, p2, p3], hw, hz =>
    obtain ⟨g, rfl, _, _, _⟩ := own_atK hw (by simp)
    have hg := hgc g rfl
    by_cases hk : p0.data.toList = monK
    · have e : stepS C ([p0, p1, p2, p3].map (·.data.toList)) = (⟨C.nm, C.wk, C.M ++ [(p1, nv p2.data.toList, nv p3.data.toList)], C.R⟩, nb p2.data.toList && (nb p3.data.toList && decide (C.R.length = 0))) := by simp [stepS, hk]
      rw [e]
      obtain rfl := ba_of hk
      exact (lineS_mon w0 gc g B cp C a1 c1 a2 c2 p1 p2 p3 w h hM hw (hz p2 (by simp)) (hz p3 (by simp)) hg (own_row_ne h.om hw (by decide))).mono fun e w' ⟨k, x, y, k2⟩ => ⟨k, _, _, _, _, k2⟩
    · by_cases hl : p0.data.toList = leaK
      · have e : stepS C ([p0, p1, p2, p3].map (·.data.toList)) = (⟨C.nm, C.wk, C.M, C.R ++ [(nv p1.data.toList, nv p2.data.toList, decide (p3.data.toList = yesK))]⟩, nb p1.data.toList && (nb p2.data.toList && (decide (p3.data.toList = yesK) || decide (p3.data.toList = noK)))) := by
          simp [stepS, hl, show ¬ leaK = monK by decide]
        rw [e]
        obtain rfl := ba_of hl
        exact (lineS_lea w0 gc g B cp C a1 c1 a2 c2 p1 p2 p3 w h hR hw (hz p1 (by simp)) (hz p2 (by simp)) hg (own_row_ne h.or hw (by decide))).mono fun e w' ⟨k, x, y, k2⟩ => ⟨k, _, _, _, _, k2⟩
      · have e : stepS C ([p0, p1, p2, p3].map (·.data.toList)) = (C, false) := by simp [stepS, hk, hl]
        rw [e]
        refine (lineS_no gc g cp p0 w (own4 hw 0 (by simp)) hk hl).mono ?_
        rintro e w' ⟨rfl, rfl⟩
        exact ⟨rfl, _, _, _, _, h⟩
  | [], hw, hz => exact (lineS_len gc a 0 cp w (by decide)).mono fun e w' ⟨k1, k2⟩ => ⟨k1, _, _, _, _, k2 ▸ h⟩
  | [_], hw, hz => exact (lineS_len gc a 1 cp w (by decide)).mono fun e w' ⟨k1, k2⟩ => ⟨k1, _, _, _, _, k2 ▸ h⟩
  | [_, _], hw, hz => exact (lineS_len gc a 2 cp w (by decide)).mono fun e w' ⟨k1, k2⟩ => ⟨k1, _, _, _, _, k2 ▸ h⟩
  | [_, _, _], hw, hz => exact (lineS_len gc a 3 cp w (by decide)).mono fun e w' ⟨k1, k2⟩ => ⟨k1, _, _, _, _, k2 ▸ h⟩
  | _ :: _ :: _ :: _ :: _ :: r, hw, hz => exact (lineS_len gc a _ cp w (by simp)).mono fun e w' ⟨k1, k2⟩ => ⟨k1, _, _, _, _, k2 ▸ h⟩
end Go.Proofs.YtpohhnihgegmfaaDoor

namespace Go.Proofs.YtpohhnihgegmfaaDoor
open Go.RowKit
set_option linter.unusedVariables false
set_option linter.unusedSimpArgs false

theorem own_init {w : World} {B n c : Nat} {e : TypeId} {a : Option Addr} {xs : List Value} (h : w.ownsRow B e 1 (.slice a (n + 1) c) (n + 1) xs) : w.ownsRow B e 1 (.slice a n c) n (xs.take n) := by
  rcases h.2 with ⟨_, h2⟩ | ⟨g, cap', cur, h1, hb, hg, h2, h3, h4, h5⟩
  · omega
  · simp only [Value.slice.injEq] at h1
    obtain ⟨rfl, _, rfl⟩ := h1
    have hx := h.1
    refine ⟨by rw [List.length_take]; omega, .inr ⟨g, _, cur, rfl, hb, hg, by omega, h3, h4, ?_⟩⟩
    rw [← h5, List.take_take]; congr 1; omega
theorem stepS_len (C : Cl) (ws : List (List UInt8)) : (stepS C ws).1.M.length + (stepS C ws).1.R.length ≤ C.M.length + C.R.length + 1 := by
  match ws with
  | [k, a, b, c] =>
    simp only [stepS]
    split
    · simp; omega
    · split
      · simp; omega
      · simp
  | [] => simp [stepS]
  | [_] => simp [stepS]
  | [_, _] => simp [stepS]
  | [_, _, _] => simp [stepS]
  | _ :: _ :: _ :: _ :: _ :: _ => simp [stepS]
theorem Szs.stepS {C : Cl} {ws : List (List UInt8)} (h : Szs C) (hw : ∀ x ∈ ws, x.length ≤ 1048576) : Szs (stepS C ws).1 := by
  match ws, hw with
  | [k, a, b, c], hw =>
    simp only [Proofs.YtpohhnihgegmfaaDoor.stepS]
    split
    · refine ⟨h.nm, fun q hq => ?_⟩
      rcases List.mem_append.1 hq with hq | hq
      · exact h.mo q hq
      · rw [List.mem_singleton.1 hq]; exact sz_of (hw a (by simp))
    · split
      · exact ⟨h.nm, h.mo⟩
      · exact h
  | [], _ => exact h
  | [_], _ => exact h
  | [_, _], _ => exact h
  | [_, _, _], _ => exact h
  | _ :: _ :: _ :: _ :: _ :: _, _ => exact h
theorem runS_step {C D : Cl} {b : Bool} {L X : List (List (List UInt8))} {i : Nat} (h : runS C b X = runS D true (L.drop i)) (hi : i < L.length) : runS C b X = runS (stepS D L[i]).1 (stepS D L[i]).2 (L.drop (i + 1)) := by
  rw [h, List.drop_eq_getElem_cons hi, runS, if_pos rfl]
theorem readS_far {L : List (List (List UInt8))} (h : ¬ (1 ≤ L.length ∧ L.length ≤ 27)) : readS L = (Cl.z, false) := by unfold readS; rw [if_neg h]
theorem readS_bad {ws : List (List UInt8)} {r : List (List (List UInt8))} (h : ¬ (ws.length = 3 ∧ ws[0]? = some calK)) : readS (ws :: r) = (Cl.z, false) := by
  unfold readS
  split
  · match ws, h with
    | [k, a, b], h =>
      dsimp only
      rw [if_neg (fun e => h ⟨rfl, by rw [e]; rfl⟩)]
    | [], _ => rfl
    | [_], _ => rfl
    | [_, _], _ => rfl
    | _ :: _ :: _ :: _ :: _, _ => rfl
  · rfl
theorem readS_on {a b : List UInt8} {r : List (List (List UInt8))} (h : 1 ≤ ([calK, a, b] :: r).length ∧ ([calK, a, b] :: r).length ≤ 27) {D : Cl} {ok : Bool} (hr : runS ⟨⟨a.toArray⟩, nv b, [], []⟩ (nb b) r = (D, ok)) :
    readS ([calK, a, b] :: r) = (D, ok && D.ok) := by
  unfold readS
  rw [if_pos h]
  dsimp only
  rw [if_pos rfl, hr]
/-- the reference's loop's state: lines up to j read -/
def LpS (w0 wr : World) (gc : Nat) (C0 : Cl) (b0 : Bool) (L : List (List (List UInt8))) (j : Nat) (ok : Bool) : Prop :=
  ∃ (D : Cl) (a1 : Option Addr) (c1 : Nat) (a2 : Option Addr) (c2 : Nat), runS C0 b0 (L.drop 1) = runS D ok (L.drop j) ∧ D.M.length + D.R.length ≤ j ∧ Szs D ∧ CB w0 wr gc D a1 c1 a2 c2
theorem runS_end {C D : Cl} {b ok : Bool} {L X : List (List (List UInt8))} {i : Nat} (h : runS C b X = runS D ok (L.drop i)) (hi : L.length ≤ i ∨ ok = false) : runS C b X = (D, ok) := by
  rw [h]
  rcases hi with hi | rfl
  · rw [List.drop_of_length_le hi]; rfl
  · exact runS_f _ _
theorem CB.p {w0 w : World} {gc : Nat} {C : Cl} {a1 a2 : Option Addr} {c1 c2 : Nat} (h : CB w0 w gc C a1 c1 a2 c2) : CalP w gc C.nm a1 a2 c1 c2 C.wk (nmOf C.M) (calOf C.M C.R) :=
  ⟨h.cal.lt, h.cal.cell 0, h.cal.cell 1, h.cal.cell 2, h.cal.cell 3, own_calM h.om h.or⟩
theorem CB.ok {w0 w : World} {gc : Nat} {C : Cl} {a1 a2 : Option Addr} {c1 c2 : Nat} (h : CB w0 w gc C a1 c1 a2 c2) (hM : C.M.length ≤ 1048576) (hR : C.R.length ≤ 1048576) (hz : Szs C) :
    Calls Tryd.prog 39 #[.pointer (some ⟨gc, 0, none⟩)] w fun e w' => e = .returned (.bool C.ok) ∧ Ext w w' :=
  l15Ok_c gc C.nm a1 a2 c1 c2 C.wk (nmOf C.M) (calOf C.M C.R) w hM hR (Nat.le_trans hz.nm (by omega)) (fun i hi => by
    have hi' : i < C.M.length := hi
    have e : nmOf C.M i = C.M[i].1 := by simp [nmOf, List.getD_eq_getElem?_getD, List.getElem?_eq_getElem hi']
    rw [e]
    exact Nat.le_trans (hz.mo _ (List.getElem_mem hi')) (by omega)) h.p
end Go.Proofs.YtpohhnihgegmfaaDoor

namespace Go.Proofs.YtpohhnihgegmfaaDoor
open Go.RowKit
set_option linter.unusedVariables false
set_option linter.unusedSimpArgs false

theorem zero_rd {w w' : World} (hx : Ext w w') : RdC w (((((w'.setCell ⟨w.heap.size, 0, none⟩ (.string ⟨#[]⟩)).setCell ⟨w.heap.size, 1, none⟩ (.slice none 0 0)).setCell ⟨w.heap.size, 2, none⟩ (.slice none 0 0)).setCell ⟨w.heap.size, 3, none⟩ (.int .i64 0))) Cl.z false (.returned (.tuple #[.agg #[.string ⟨#[]⟩, .slice none 0 0, .slice none 0 0, .int .i64 0], .bool false])) :=
  ⟨none, 0, none, 0, rfl, Ext.setAt (Ext.setAt (Ext.setAt (Ext.setAt hx _ _ _ (Nat.le_refl _)) _ _ _ (Nat.le_refl _)) _ _ _ (Nat.le_refl _)) _ _ _ (Nat.le_refl _), zero_rows _ _ _, zero_rows _ _ _⟩
theorem RdC.drew {w w' : World} {C : Cl} {b : Bool} {e : Ending} (h : RdC w w' C b e) : RdC w w'.drew C b e := by
  obtain ⟨a1, c1, a2, c2, h1, h2, h3, h4⟩ := h
  exact ⟨a1, c1, a2, c2, h1, h2.drew, own_ext h3 (Ext.refl _).drew, own_ext h4 (Ext.refl _).drew⟩
theorem CB.rd {w w2 wr : World} {gc : Nat} {D : Cl} {a1 a2 : Option Addr} {c1 c2 : Nat} (e : Ext w wr) (h : CB w2 wr gc D a1 c1 a2 c2) (hl : w.heap.size < gc + 1) (b : Bool) :
    RdC w ((((wr.setCell ⟨w.heap.size, 0, none⟩ (.string D.nm)).setCell ⟨w.heap.size, 1, none⟩ (.slice a1 D.M.length c1)).setCell ⟨w.heap.size, 2, none⟩ (.slice a2 D.R.length c2)).setCell ⟨w.heap.size, 3, none⟩ (.int .i64 D.wk)) D b (.returned (.tuple #[.agg #[.string D.nm, .slice a1 D.M.length c1, .slice a2 D.R.length c2, .int .i64 D.wk], .bool b])) :=
  ⟨a1, c1, a2, c2, rfl, Ext.setAt (Ext.setAt (Ext.setAt (Ext.setAt e _ _ _ (Nat.le_refl _)) _ _ _ (Nat.le_refl _)) _ _ _ (Nat.le_refl _)) _ _ _ (Nat.le_refl _), own_res h.om hl, own_res h.or hl⟩
set_option maxRecDepth 100000 in
set_option maxHeartbeats 4000000 in
theorem l15Read_c (Ps : List ByteArray) (a : Option Addr) (cp B : Nat) (w : World) (hw : w.ownsRow B 9 1 (.slice a Ps.length cp) Ps.length (Ps.map Value.string)) (hz : ∀ p ∈ Ps, p.size ≤ 1048576) :
    Calls Tryd.prog 18 #[.slice a Ps.length cp] w fun e w' => RdC w w' (readS (lws (Ps.map (·.data.toList)))).1 (readS (lws (Ps.map (·.data.toList)))).2 e := by
  have KD := Blk.new w #[.string ⟨#[]⟩, .slice none 0 0, .slice none 0 0, .int .i64 0] 31
  obtain ⟨q, hq⟩ : ∃ q, q = inB (Ps.length : Int) 1 27 := ⟨_, rfl⟩
  have HI := Lib.hid (fun W => (hq ▸ l00In_c (Ps.length : Int) 1 27 W : Calls Tryd.prog 37 #[.int .i64 (Ps.length : Int), .int .i64 1, .int .i64 27] W fun e w' => e = .returned (.bool q) ∧ W = w'))
  cases q
  · have hn : ¬ (1 ≤ (lws (Ps.map (·.data.toList))).length ∧ (lws (Ps.map (·.data.toList))).length ≤ 27) := by
      have := inB_f.1 hq.symm
      simp only [lws, List.length_map]
      omega
    rw [readS_far hn]
    clear hn hq hw hz
    have d0 := KD.cell 0
    have d1 := KD.cell 1
    have d2 := KD.cell 2
    have d3 := KD.cell 3
    go_enter Tryd.func18, Tryd.ntmps18
    go_wp2_with (go_at_call 37; ((with_reducible refine (HI.out _).mono ?_); rintro e w' ⟨rfl, rfl⟩))
    refine bodyPost_ret (v := .tuple #[.agg #[.string ⟨#[]⟩, .slice none 0 0, .slice none 0 0, .int .i64 0], .bool false]) (by simp [results, Tryd.results18, go_sem]) rfl ?_
    exact ⟨none, 0, none, 0, rfl, (by repeat (first | with_reducible exact Ext.refl _ | with_reducible assumption | with_reducible refine Ext.alloc ?_ _ | with_reducible refine Ext.drew ?_ | (with_reducible refine Ext.setAt ?_ _ _ _ ?_; rotate_left; omega) | with_reducible refine Ext.trans ?_ (by assumption) | with_reducible exact Past.bel _ | with_reducible refine Ext.trans ?_ (Past.bel _))), zero_rows _ _ _, zero_rows _ _ _⟩
  · have hn : 1 ≤ Ps.length ∧ Ps.length ≤ 27 := by
      have := inB_t.1 hq.symm
      omega
    clear hq
    obtain ⟨p0, Pr, rfl⟩ := List.exists_cons_of_length_pos (show 0 < Ps.length by omega)
    obtain ⟨g, rfl, hgB, hgl, hcells⟩ := own_atK hw (by simp)
    have s0 : w.cell? ⟨g, 0, none⟩ = some (.string p0) := (hcells 0 (by simp)).1
    have HW := Lib.hid hw
    have HCS := Lib.hid hcells
    have HZ := Lib.hid hz
    have hz0 : p0.size ≤ 1048576 := hz p0 (by simp)
    obtain ⟨n, hnn⟩ : ∃ n, n = (p0 :: Pr).length := ⟨_, rfl⟩
    have HN := Lib.hid hnn
    have xn0 : (0 : Int) < (n : Int) := by omega
    rw [← hnn] at HI hn ⊢
    obtain ⟨L, hL⟩ : ∃ L, L = lws ((p0 :: Pr).map (·.data.toList)) := ⟨_, rfl⟩
    rw [← hL]
    have HL := Lib.hid hL
    clear hw hz hcells hnn hL
    go_enter Tryd.func18, Tryd.ntmps18
    go_wp2_with (go_at_call 37; ((with_reducible refine (HI.out _).mono ?_); rintro e w' ⟨rfl, rfl⟩))
    refine (l01Split_c p0 32 _ hz0).mono ?_
    rintro e w1 ⟨Ws, a1, cap1, rfl, hx1, ho1, hp1⟩
    have KD1 := KD.ext hx1
    have e1 : Ext w w1 := Ext.trans (by repeat (first | with_reducible exact Ext.refl _ | with_reducible assumption | with_reducible refine Ext.alloc ?_ _ | with_reducible refine Ext.drew ?_ | (with_reducible refine Ext.setAt ?_ _ _ _ ?_; rotate_left; omega) | with_reducible refine Ext.trans ?_ (by assumption) | with_reducible exact Past.bel _ | with_reducible refine Ext.trans ?_ (Past.bel _))) hx1
    have l1 := KD1.lt
    have d0 := KD1.cell 0
    have d1 := KD1.cell 1
    have d2 := KD1.cell 2
    have d3 := KD1.cell 3
    have f0 := KD1.frozen 0
    have f1 := KD1.frozen 1
    have f2 := KD1.frozen 2
    have f3 := KD1.frozen 3
    have HKD := Lib.hid KD1
    have hL0 : L = Ws.map (·.data.toList) :: lws (Pr.map (·.data.toList)) := by
      rw [HL.out]; simp [lws]; exact hp1.symm
    have HLL := Lib.hid hL0
    have HP := Lib.hid hp1
    clear KD KD1 s0 hx1 hp1 hL0
    by_cases h3 : Ws.length = 3
    · obtain ⟨k0, q1, q2, rfl⟩ := three_of h3
      obtain ⟨g1, rfl, _, hg1, hc1⟩ := own_atK ho1 (by simp)
      have r0 : w1.cell? ⟨g1, 0, none⟩ = some (.string k0) := (hc1 0 (by simp)).1
      have r1 : w1.cell? ⟨g1, 1, none⟩ = some (.string q1) := (hc1 1 (by simp)).1
      have r2 : w1.cell? ⟨g1, 2, none⟩ = some (.string q2) := (hc1 2 (by simp)).1
      have z2 : q2.size ≤ 1048576 := Nat.le_trans (HP.out.le q2 (by simp)) hz0
      have z1' : q1.size ≤ 1048576 := Nat.le_trans (HP.out.le q1 (by simp)) hz0
      clear h3 ho1 hc1
      by_cases hk : k0.data.toList = calK
      · have z1 : (k0.toList == [99, 97, 108, 101, 110, 100, 97, 114]) = true := by rw [ByteArray.toList_eq, hk]; rfl
        obtain rfl := ba_of hk
        obtain ⟨x, hx⟩ : ∃ x, x = nv q2.data.toList := ⟨_, rfl⟩
        obtain ⟨b0, hb0⟩ : ∃ b, b = nb q2.data.toList := ⟨_, rfl⟩
        have N2 := Lib.hid (fun W => (hx ▸ hb0 ▸ l01Number_c q2 W z2 (nv_r _) : Calls Tryd.prog 30 #[.string q2] W fun e w' => e = .returned (.tuple #[.int .i64 x, .bool b0]) ∧ Ext W w'))
        have HXB := Lib.hid (And.intro hx hb0)
        clear hk hx hb0
        go_wp2_with fail
        refine (N2.out _).mono ?_
        rintro e w2 ⟨rfl, hx2⟩
        have e2 : Ext w w2 := Ext.trans e1 hx2
        have r1 : w2.cell? ⟨g1, 1, none⟩ = some (.string q1) := (hx2.cell hg1).trans r1
        have hg2 : g1 < w2.heap.size := Nat.lt_of_lt_of_le hg1 hx2.size
        have HKD2 := Lib.hid (HKD.out.ext hx2)
        have hz2 := e2.size
        clear r0 r2 d0 d1 d2 d3 f0 f1 f2 f3 hx2 l1 HKD
        go_wp2_with fail
        clear r1
        obtain ⟨C0, hC0⟩ : ∃ C : Cl, C = ⟨q1, x, [], []⟩ := ⟨_, rfl⟩
        have HC0 := Lib.hid hC0
        have hst : LpS w2 (w2.alloc (.cells #[.string q1, .slice none 0 0, .slice none 0 0, .int .i64 x] 31)) w2.heap.size C0 b0 L 1 b0 := by
          refine ⟨C0, none, 0, none, 0, rfl, ?_, ?_, ?_⟩
          · rw [hC0]; exact Nat.zero_le _
          · rw [hC0]; exact ⟨z1', fun q hq => by simp at hq⟩
          · rw [hC0]; exact ⟨Nat.le_refl _, (Ext.refl _).alloc _, Blk.new _ _ _, zero_rows _ _ _, zero_rows _ _ _⟩
        have HST := Lib.hid hst
        clear hC0 hst
        go_loopw [6, 8] (fun v6 v8 wr => ∃ (j : Nat) (ok : Bool), 1 ≤ j ∧ j ≤ n ∧ v6 = .bool ok ∧ v8 = .int .i64 (j : Int) ∧ LpS w2 wr w2.heap.size C0 b0 L j ok) (fun _ v8 _ => n - (intOf v8).toNat)
        case atStart => exact ⟨1, b0, by omega, by omega, rfl, rfl, HST.out⟩
        case round =>
          obtain ⟨j, ok, h1j, hjn, rfl, rfl, D, a1, c1, a2, c2, hr, hlen, hsz, cb⟩ := hrel
          have CBh := Lib.hid cb
          have HSZ := Lib.hid hsz
          have HRJ := Lib.hid hr
          have xx := Lib.hid cb.x
          have lc := cb.cal.lt
          clear hr hsz cb
          have x0 : (0 : Int) ≤ (j : Int) := by omega
          have hread : (n ≤ j ∨ ok = false) → readS L = (D, ok && D.ok) := fun h => by
            have hLn : L.length = n := by rw [HL.out, HN.out]; simp [lws]
            have h1 := runS_end HRJ.out (by rw [hLn]; exact h)
            have h2 : L.drop 1 = lws (Pr.map (·.data.toList)) := by rw [HLL.out]; rfl
            rw [h2, HC0.out, HXB.out.1, HXB.out.2] at h1
            have h3 : 1 ≤ L.length ∧ L.length ≤ 27 := by rw [hLn]; exact hn
            rw [HLL.out] at h3 ⊢
            exact readS_on h3 h1
          have HRD := Lib.hid hread
          have d0 := CBh.out.cal.cell 0
          have d1 := CBh.out.cal.cell 1
          have d2 := CBh.out.cal.cell 2
          have d3 := CBh.out.cal.cell 3
          have K2 := HKD2.out.ext xx.out
          have l2 := K2.lt
          have f0 := K2.frozen 0
          have f1 := K2.frozen 1
          have f2 := K2.frozen 2
          have f3 := K2.frozen 3
          have u0 := K2.cell 0
          have u1 := K2.cell 1
          have u2 := K2.cell 2
          have u3 := K2.cell 3
          have HK2 := Lib.hid K2
          clear hread K2
          cases ok
          · have HRD2 := Lib.hid (HRD.out (.inr rfl))
            clear HRD
            by_cases hlt : j < n
            · have x1 : (j : Int) < (n : Int) := by omega
              go_wp2_with fail
              go_region_with (fail)
              all_goals
                go_wp2_with fail
                refine bodyPost_ret (v := .tuple #[.agg #[.string D.nm, .slice a1 D.M.length c1, .slice a2 D.R.length c2, .int .i64 D.wk], .bool false]) (by simp [results, Tryd.results18, go_sem, d0, d1, d2, d3, u0, u1, u2, u3]) rfl ?_
                rw [HRD2.out]
                first | exact RdC.drew (CBh.out.rd (Ext.trans e2 xx.out) (by omega) _) | exact CBh.out.rd (Ext.trans e2 xx.out) (by omega) _
            · have x1 : ¬ (j : Int) < (n : Int) := by omega
              go_wp2_with fail
              go_region_with (fail)
              all_goals
                go_wp2_with fail
                refine bodyPost_ret (v := .tuple #[.agg #[.string D.nm, .slice a1 D.M.length c1, .slice a2 D.R.length c2, .int .i64 D.wk], .bool false]) (by simp [results, Tryd.results18, go_sem, d0, d1, d2, d3, u0, u1, u2, u3]) rfl ?_
                rw [HRD2.out]
                first | exact RdC.drew (CBh.out.rd (Ext.trans e2 xx.out) (by omega) _) | exact CBh.out.rd (Ext.trans e2 xx.out) (by omega) _
          · by_cases hlt : j < n
            · have x1 : (j : Int) < (n : Int) := by omega
              have hjl : j < (p0 :: Pr).length := by rw [← HN.out]; exact hlt
              obtain ⟨p, hp⟩ : ∃ p, (p0 :: Pr)[j]? = some p := ⟨_, List.getElem?_eq_getElem hjl⟩
              have hcell : wr.cell? ⟨g, j, none⟩ = some (.string p) := by
                rw [(Ext.trans e2 xx.out).cell hgl, (HCS.out j (by omega)).1, List.getElem?_map, hp]; rfl
              have hpz : p.size ≤ 1048576 := HZ.out p (List.mem_of_getElem? hp)
              have hLj : ∃ h : j < L.length, L[j] = splitL 32 p.data.toList := by
                rw [HL.out]
                refine ⟨by simp only [lws, List.length_map]; exact hjl, ?_⟩
                have : (p0 :: Pr)[j] = p := by rw [List.getElem?_eq_getElem hjl] at hp; exact Option.some.inj hp
                simp only [lws, List.getElem_map, this]
              have HLJ := Lib.hid hLj
              clear d0 d1 d2 d3 f0 f1 f2 f3 u0 u1 u2 u3 hp hLj hjl
              go_wp2_with fail
              refine (l01Split_c p 32 _ hpz).mono ?_
              rintro e w4 ⟨Us, a5, c5, rfl, hx4, ho4, hp4⟩
              have CB4 := CBh.out.ext hx4
              have hgc : ∀ g5, a5 = some ⟨g5, 0, none⟩ → g5 ≠ w2.heap.size := fun g5 e => by have := (own_in ho4 e).1; simp only at this; omega
              have HC := Lib.hid (lineS_c w2 w2.heap.size _ c5 a5 D a1 c1 a2 c2 Us w4 CB4 (by omega) (by omega) ho4 (fun q hq => Nat.le_trans (hp4.le q hq) hpz) hgc)
              have HPP := Lib.hid (show Us.map (·.data.toList) = splitL 32 p.data.toList from hp4)
              clear hp4 CB4 ho4 hgc hcell
              obtain ⟨ok2, hok2⟩ : ∃ b, b = (stepS D (Us.map (·.data.toList))).2 := ⟨_, rfl⟩
              rw [← hok2] at HC
              have HOK := Lib.hid hok2
              clear hok2
              go_wp2_with fail
              refine (HC.out).mono ?_
              rintro e w5 ⟨rfl, a3, c3, a4, c4, cb5⟩
              have HCB5 := Lib.hid cb5
              clear cb5
              go_wp2_with fail
              obtain ⟨hj', hLe⟩ := HLJ.out
              have hst := runS_step HRJ.out hj'
              rw [hLe, ← HPP.out] at hst
              refine ⟨⟨j + 1, ok2, by omega, by omega, rfl, by go_num, _, a3, c3, a4, c4, by rw [HOK.out]; exact hst, ?_, HSZ.out.stepS (fun x hx => ?_), HCB5.out⟩, by simp [intOf]; omega⟩
              · have := stepS_len D (Us.map (·.data.toList)); omega
              · rw [HPP.out] at hx
                have := splitL_len 32 _ _ hx
                rw [ba_len] at this
                omega
            · have x1 : ¬ (j : Int) < (n : Int) := by omega
              have HRD2 := Lib.hid (HRD.out (.inl (by omega)))
              obtain ⟨V, hV⟩ : ∃ V, V = D.ok := ⟨_, rfl⟩
              have hok : ∀ W, Ext wr W → Calls Tryd.prog 39 #[.pointer (some ⟨w2.heap.size, 0, none⟩)] W fun e w' => e = .returned (.bool V) ∧ Ext W w' := fun W hq => by
                rw [hV]; exact (CBh.out.ext hq).ok (by omega) (by omega) HSZ.out
              rw [← hV] at HRD2
              have HOKC := Lib.hid hok
              clear hok hV HRD
              go_wp2_with fail
              go_region_with ((go_at_call 39; ((with_reducible refine (HOKC.out _ (by repeat (first | with_reducible exact Ext.refl _ | with_reducible assumption | with_reducible refine Ext.alloc ?_ _ | with_reducible refine Ext.drew ?_ | (with_reducible refine Ext.setAt ?_ _ _ _ ?_; rotate_left; omega) | with_reducible refine Ext.trans ?_ (by assumption) | with_reducible exact Past.bel _ | with_reducible refine Ext.trans ?_ (Past.bel _)))).mono ?_); rintro e w' ⟨rfl, hx⟩; (first | (obtain ⟨wx, rfl⟩ := Past.again hx) | (obtain ⟨wx, rfl⟩ := Past.ofd hx) | (obtain ⟨wx, rfl⟩ := Past.of hx)))))
              all_goals
                have xq : Ext wr wx.out := Ext.trans (by first | exact Ext.refl _ | exact (Ext.refl _).drew) (Past.bel wx)
                have K5 := HK2.out.ext xq
                have l5 := K5.lt
                have f0 := K5.frozen 0
                have f1 := K5.frozen 1
                have f2 := K5.frozen 2
                have f3 := K5.frozen 3
                have u0 := K5.cell 0
                have u1 := K5.cell 1
                have u2 := K5.cell 2
                have u3 := K5.cell 3
                go_wp2_with fail
                refine bodyPost_ret (v := .tuple #[.agg #[.string D.nm, .slice a1 D.M.length c1, .slice a2 D.R.length c2, .int .i64 D.wk], .bool V]) (by simp [results, Tryd.results18, go_sem, u0, u1, u2, u3]) rfl ?_
                rw [HRD2.out, Bool.true_and]
                first | exact RdC.drew ((CBh.out.ext xq).rd (Ext.trans (Ext.trans e2 xx.out) xq) (by omega) _) | exact (CBh.out.ext xq).rd (Ext.trans (Ext.trans e2 xx.out) xq) (by omega) _
      · have z1 : (k0.toList == [99, 97, 108, 101, 110, 100, 97, 114]) = false := by rw [beq_eq_false_iff_ne, ByteArray.toList_eq]; exact hk
        have hbad := readS_bad (r := lws (Pr.map (·.data.toList))) (ws := [k0, q1, q2].map (·.data.toList)) (by rintro ⟨_, e⟩; exact hk (by simpa using e))
        have HBAD := Lib.hid (show readS L = (Cl.z, false) by rw [HLL.out]; exact hbad)
        clear hk hbad
        go_wp2_with fail
        refine bodyPost_ret (v := .tuple #[.agg #[.string ⟨#[]⟩, .slice none 0 0, .slice none 0 0, .int .i64 0], .bool false]) (by simp [results, Tryd.results18, go_sem, d0, d1, d2, d3]) rfl ?_
        rw [HBAD.out]
        exact zero_rd e1
    · have z1 : ((Ws.length : Int) != 3) = true := by simp; omega
      have hbad := readS_bad (r := lws (Pr.map (·.data.toList))) (ws := Ws.map (·.data.toList)) (by rintro ⟨e, _⟩; exact h3 (by simpa using e))
      have HBAD := Lib.hid (show readS L = (Cl.z, false) by rw [HLL.out]; exact hbad)
      clear h3 hbad ho1
      go_wp2_with fail
      refine bodyPost_ret (v := .tuple #[.agg #[.string ⟨#[]⟩, .slice none 0 0, .slice none 0 0, .int .i64 0], .bool false]) (by simp [results, Tryd.results18, go_sem, d0, d1, d2, d3]) rfl ?_
      rw [HBAD.out]
      exact zero_rd e1
end Go.Proofs.YtpohhnihgegmfaaDoor

namespace Go.Proofs.YtpohhnihgegmfaaDoor
open Go.RowKit
set_option linter.unusedVariables false
set_option linter.unusedSimpArgs false

theorem RdC.alloc {w w' : World} {C : Cl} {b : Bool} {e : Ending} (h : RdC w w' C b e) (o : Obj) : RdC w (w'.alloc o) C b e := by
  obtain ⟨a1, c1, a2, c2, h1, h2, h3, h4⟩ := h
  exact ⟨a1, c1, a2, c2, h1, h2.alloc _, own_ext h3 ((Ext.refl _).alloc _), own_ext h4 ((Ext.refl _).alloc _)⟩
set_option maxRecDepth 100000 in
set_option maxHeartbeats 4000000 in
theorem specReadCalendar_c (s : ByteArray) (w : World) (hs : s.size ≤ 1048576) {C : Cl} {b : Bool} (r : CR s.data.toList C b) :
    Calls Tryd.prog 8 #[.string s] w fun e w' => RdC w w' C b e := by
  have HR := Lib.hid r
  have KD := Blk.new w #[.string ⟨#[]⟩, .slice none 0 0, .slice none 0 0, .int .i64 0] 31
  clear r
  go_enter Tryd.func8, Tryd.ntmps8
  go_wp2_with fail
  refine (l01Split_c s 10 _ hs).mono ?_
  rintro e w1 ⟨Ps, a, cap, rfl, hx1, ho, hp⟩
  have KD1 := KD.ext hx1
  have e1 : Ext w w1 := Ext.trans (by repeat (first | with_reducible exact Ext.refl _ | with_reducible assumption | with_reducible refine Ext.alloc ?_ _ | with_reducible refine Ext.drew ?_ | (with_reducible refine Ext.setAt ?_ _ _ _ ?_; rotate_left; omega) | with_reducible refine Ext.trans ?_ (by assumption) | with_reducible exact Past.bel _ | with_reducible refine Ext.trans ?_ (Past.bel _))) hx1
  have l1 := KD1.lt
  have d0 := KD1.cell 0
  have d1 := KD1.cell 1
  have d2 := KD1.cell 2
  have d3 := KD1.cell 3
  have f0 := KD1.frozen 0
  have f1 := KD1.frozen 1
  have f2 := KD1.frozen 2
  have f3 := KD1.frozen 3
  have HKD := Lib.hid KD1
  have hpos := hp.sz
  have hcap := capOf3 ho
  obtain ⟨X, x, rfl⟩ : ∃ X x, Ps = X ++ [x] := by
    rcases List.eq_nil_or_concat Ps with rfl | ⟨A, a, rfl⟩
    · simp at hpos
    · exact ⟨A, a, List.concat_eq_append⟩
  have hlen : (X ++ [x]).length = X.length + 1 := by simp
  rw [hlen] at ho hpos hcap ⊢
  obtain ⟨m, hm⟩ : ∃ m, m = X.length := ⟨_, rfl⟩
  have hmz : m ≤ 1048577 := by
    have h1 := congrArg List.length hp
    rw [List.length_map, hlen, ← hm] at h1
    have h2 := splitL_many 10 s.data.toList
    rw [ba_len] at h2
    omega
  rw [← hm] at ho hpos hcap ⊢
  obtain ⟨g, rfl, hgB, hgl, hcells⟩ := own_atK ho (by omega)
  have s0 : w1.cell? ⟨g, m, none⟩ = some (.string x) := by
    rw [(hcells m (by omega)).1, hm]; simp
  have hsp := HR.out.spec (X := X.map (·.data.toList)) (x := x.data.toList) (by rw [← hp]; simp)
  have HSP := Lib.hid hsp
  have HO := Lib.hid (own_init ho)
  have HM := Lib.hid hm
  have HP := Lib.hid hp
  have xm : ((m + 1 : Nat) : Int) - 1 = (m : Int) := by omega
  have xw : IntKind.i64.wrap (((m + 1 : Nat) : Int) - 1) = (m : Int) := by rw [xm]; exact IntWalk.i64_in _ (by omega)
  have x0 : (0 : Int) ≤ (m : Int) := by omega
  have x1 : (m : Int) < ((m + 1 : Nat) : Int) := by omega
  have x2 : (m : Int) ≤ (cap : Int) := by omega
  clear KD KD1 ho hp hlen hpos hcells hsp hm hx1
  by_cases h0 : x.data.toList = []
  · have z1 : (x.toList == []) = true := by rw [ByteArray.toList_eq, h0]; rfl
    obtain ⟨k1, k2⟩ := HSP.out.2 h0
    have hR : ∀ W, Ext w1 W → Calls Tryd.prog 18 #[.slice (some ⟨g, 0, none⟩) m cap] W fun e w' => RdC W w' (readS (lws (X.map (·.data.toList)))).1 b e := fun W hq => by
      have h1 := own_ext HO.out hq
      have e3 : (List.map Value.string (X ++ [x])).take m = X.map Value.string := by rw [HM.out]; simp
      rw [e3] at h1
      rw [← k1]
      rw [HM.out] at h1 ⊢
      refine l15Read_c X (some ⟨g, 0, none⟩) cap _ W h1 (fun p hp => Nat.le_trans (HP.out.le p (by simp [hp])) hs)
    obtain ⟨D, hD⟩ : ∃ D, D = (readS (lws (X.map (·.data.toList)))).1 := ⟨_, rfl⟩
    rw [← hD] at hR k2
    have HRD := Lib.hid hR
    have HK2 := Lib.hid k2
    clear hR k1 k2 hD h0
    go_wp2_with fail
    refine (HRD.out _ (Ext.refl _)).mono ?_
    rintro e w2 ⟨a1, c1, a2, c2, rfl, hx2, om, or⟩
    have K2 := HKD.out.ext hx2
    have l2 := K2.lt
    clear d0 d1 d2 d3 f0 f1 f2 f3
    have d0 := K2.cell 0
    have d1 := K2.cell 1
    have d2 := K2.cell 2
    have d3 := K2.cell 3
    have f0 := K2.frozen 0
    have f1 := K2.frozen 1
    have f2 := K2.frozen 2
    have f3 := K2.frozen 3
    have e2 : Ext w w2 := Ext.trans e1 hx2
    have OM := Lib.hid om
    have OR := Lib.hid or
    clear K2 om or hx2 HRD
    cases b
    · obtain ⟨rfl, -⟩ := HR.out.no rfl
      go_wp2_with fail
      refine bodyPost_ret (v := .tuple #[.agg #[.string ⟨#[]⟩, .slice none 0 0, .slice none 0 0, .int .i64 0], .bool false]) (by simp [results, Tryd.results8, go_sem, d0, d1, d2, d3, l2]) rfl ?_
      exact (zero_rd e2).alloc _
    · obtain rfl := HK2.out rfl
      go_wp2_with fail
      refine bodyPost_ret (v := .tuple #[.agg #[.string D.nm, .slice a1 D.M.length c1, .slice a2 D.R.length c2, .int .i64 D.wk], .bool true]) (by simp [results, Tryd.results8, go_sem, d0, d1, d2, d3, l2]) rfl ?_
      refine RdC.alloc ⟨a1, c1, a2, c2, rfl, Ext.setAt (Ext.setAt (Ext.setAt (Ext.setAt e2 _ _ _ (Nat.le_refl _)) _ _ _ (Nat.le_refl _)) _ _ _ (Nat.le_refl _)) _ _ _ (Nat.le_refl _), own_res OM.out l1, own_res OR.out l1⟩ _
  · have z1 : (x.toList == []) = false := by rw [beq_eq_false_iff_ne, ByteArray.toList_eq]; exact h0
    obtain rfl := HSP.out.1 h0
    obtain ⟨rfl, -⟩ := HR.out.no rfl
    clear h0
    go_wp2_with fail
    refine bodyPost_ret (v := .tuple #[.agg #[.string ⟨#[]⟩, .slice none 0 0, .slice none 0 0, .int .i64 0], .bool false]) (by simp [results, Tryd.results8, go_sem, d0, d1, d2, d3]) rfl ?_
    exact zero_rd e1
end Go.Proofs.YtpohhnihgegmfaaDoor

namespace Go.Proofs.YtpohhnihgegmfaaDoor
set_option linter.unusedVariables false
/-- the decimal digits of k, none of 0 -/
def mdigs (k : Nat) : List UInt8 := if h : k = 0 then [] else mdigs (k / 10) ++ [UInt8.ofNat (48 + k % 10)]
  termination_by k
  decreasing_by omega
theorem mdigs_zero : mdigs 0 = [] := by rw [mdigs]; simp
theorem mdigs_step {k : Nat} (h : k ≠ 0) : mdigs k = mdigs (k / 10) ++ [UInt8.ofNat (48 + k % 10)] := by rw [mdigs]; simp [h]
theorem mdigs_len (k : Nat) (m : Nat) (h : k < 10 ^ m) : (mdigs k).length ≤ m := by
  induction m generalizing k with
  | zero => have : k = 0 := by omega
            subst this; rw [mdigs_zero]; simp
  | succ m ih =>
    by_cases e : k = 0
    · subst e; rw [mdigs_zero]; simp
    · rw [mdigs_step e, List.length_append, List.length_singleton]
      have := ih (k / 10) (by rw [Nat.pow_succ] at h; omega)
      omega
/-- the text of mark k -/
def markT (k : Nat) : ByteArray := if k = 0 then ⟨#[109, 48]⟩ else ⟨#[109]⟩ ++ ⟨(mdigs k).toArray⟩
end Go.Proofs.YtpohhnihgegmfaaDoor

namespace Go.Proofs.YtpohhnihgegmfaaDoor
open Go.RowKit
set_option linter.unusedVariables false
set_option linter.unusedSimpArgs false

theorem u8_mdig {k : Nat} : ((UInt8.ofNat (48 + k % 10)).toNat : Int) = 48 + ((k % 10 : Nat) : Int) := by
  have h : (48 + k % 10) % 256 = 48 + k % 10 := Nat.mod_eq_of_lt (by omega)
  rw [UInt8.toNat_ofNat', h]; omega
set_option maxHeartbeats 1000000 in
theorem markText_c (k : Nat) (w : World) (hk : k ≤ 100000000) :
    Calls Tryd.prog 51 #[.int .i64 (k : Nat)] w fun e w' => e = .returned (.string (markT k)) ∧ Ext w w' := by
  by_cases h0 : k = 0
  · subst h0
    go_enter Tryd.func51, Tryd.ntmps51
    go_wp2
    go_ret
    exact ⟨rfl, (by repeat (first | with_reducible exact Ext.refl _ | with_reducible assumption | with_reducible refine Ext.alloc ?_ _ | with_reducible refine Ext.drew ?_ | (with_reducible refine Ext.setAt ?_ _ _ _ ?_; rotate_left; omega) | with_reducible refine Ext.trans ?_ (by assumption) | with_reducible exact Past.bel _ | with_reducible refine Ext.trans ?_ (Past.bel _)))⟩
  · have hl := mdigs_len k 9 (by omega)
    have HL := Lib.hid hl
    clear hl
    have x0 : ¬ (k : Int) ≤ 0 := by omega
    go_enter Tryd.func51, Tryd.ntmps51
    go_wp2_with fail
    go_loopw [0, 3] (fun i s wr => ∃ (j : Nat) (B : ByteArray), i = .int .i64 (j : Nat) ∧ j ≤ k ∧ s = .string B ∧ Ext w wr ∧ mdigs k = mdigs j ++ B.data.toList) (fun i _ _ => (intOf i).toNat)
    case atStart => exact ⟨k, ⟨#[]⟩, rfl, by omega, rfl, (by repeat (first | with_reducible exact Ext.refl _ | with_reducible assumption | with_reducible refine Ext.alloc ?_ _ | with_reducible refine Ext.drew ?_ | (with_reducible refine Ext.setAt ?_ _ _ _ ?_; rotate_left; omega) | with_reducible refine Ext.trans ?_ (by assumption) | with_reducible exact Past.bel _ | with_reducible refine Ext.trans ?_ (Past.bel _))), by simp⟩
    case round =>
      obtain ⟨j, B, rfl, hj, rfl, hbl, hd⟩ := hrel
      by_cases hlt : 0 < j
      · have hll : B.size ≤ 9 := by
          have h1 := HL.out
          rw [hd, List.length_append] at h1
          have h2 : B.size = B.data.toList.length := Array.length_toList.symm
          omega
        have hd2 : mdigs k = mdigs (j / 10) ++ (UInt8.ofNat (48 + j % 10) :: B.data.toList) := by rw [hd, mdigs_step (by omega)]; simp
        have HD := Lib.hid hd2
        clear hd hd2
        have y0 : (0 : Int) < (j : Int) := by omega
        have hcv : Sem.run Tryd.prog (convert 75 9 (Value.slice (some ⟨wr.heap.size, 0, none⟩) 1 1)) (wr.alloc (.cells #[.int .u8 (48 + (j : Int) % 10)] 5)) = .ok (.string ⟨#[UInt8.ofNat (48 + j % 10)]⟩) (wr.alloc (.cells #[.int .u8 (48 + (j : Int) % 10)] 5)) := by
          refine run_convert_bytes_back _ _ _ 5 _ 1 [UInt8.ofNat (48 + j % 10)] (by kernel_rfl) (by kernel_rfl) (by kernel_rfl) fun i hi => ?_
          obtain rfl : i = 0 := by simpa using hi
          simp only [List.getElem_cons_zero, u8_mdig]
          simp [Addr.add, go_sem]
        go_wp2_with fail
        exact ⟨⟨j / 10, _, by go_num, by omega, rfl, (by repeat (first | with_reducible exact Ext.refl _ | with_reducible assumption | with_reducible refine Ext.alloc ?_ _ | with_reducible refine Ext.drew ?_ | (with_reducible refine Ext.setAt ?_ _ _ _ ?_; rotate_left; omega) | with_reducible refine Ext.trans ?_ (by assumption) | with_reducible exact Past.bel _ | with_reducible refine Ext.trans ?_ (Past.bel _))), by rw [HD.out]; simp [ByteArray.data_append]⟩, by simp [intOf]; omega⟩
      · obtain rfl : j = 0 := by omega
        have e1 : mdigs k = B.data.toList := by rw [hd, mdigs_zero]; rfl
        have hll : B.size ≤ 9 := by
          have h1 := HL.out
          rw [e1] at h1
          have h2 : B.size = B.data.toList.length := Array.length_toList.symm
          omega
        have E1 := Lib.hid e1
        clear hd e1
        go_wp2_with fail
        go_ret
        refine ⟨?_, (by repeat (first | with_reducible exact Ext.refl _ | with_reducible assumption | with_reducible refine Ext.alloc ?_ _ | with_reducible refine Ext.drew ?_ | (with_reducible refine Ext.setAt ?_ _ _ _ ?_; rotate_left; omega) | with_reducible refine Ext.trans ?_ (by assumption) | with_reducible exact Past.bel _ | with_reducible refine Ext.trans ?_ (Past.bel _)))⟩
        have h3 : markT k = ⟨#[109]⟩ ++ B := by
          rw [markT, if_neg h0, E1.out]
        rw [h3]; rfl
end Go.Proofs.YtpohhnihgegmfaaDoor

namespace Go.Proofs.YtpohhnihgegmfaaDoor
open Go.RowKit
set_option linter.unusedVariables false
set_option linter.unusedSimpArgs false

theorem grown_weak {w w' : World} {row : Option Nat} (h : w.grownBy w' none) : w.grownBy w' row := ⟨h.os, h.tape, h.output, h.size, fun k hk _ => h.block k hk (by simp)⟩
/-- A slice of texts. -/
def SS (w : World) (a : Option Addr) (n : Nat) (s : Nat → ByteArray) : Prop :=
  0 < n → ∃ b off, a = some ⟨b, off, none⟩ ∧ b < w.heap.size ∧ ∀ j, j < n → w.cell? ⟨b, off + j, none⟩ = some (.string (s j))
theorem SS.ext {w w' : World} {a : Option Addr} {n : Nat} {s : Nat → ByteArray} (h : SS w a n s) (e : Ext w w') : SS w' a n s := fun hn => by
  obtain ⟨b, off, ha, hb, hc⟩ := h hn
  exact ⟨b, off, ha, Nat.lt_of_lt_of_le hb e.size, fun j hj => by rw [e.cell hb]; exact hc j hj⟩
theorem SS.at {w : World} {a : Option Addr} {n : Nat} {s : Nat → ByteArray} (h : SS w a n s) {j : Nat} (hj : j < n) :
    ∃ b off, a = some ⟨b, off, none⟩ ∧ b < w.heap.size ∧ w.cell? ⟨b, off + j, none⟩ = some (.string (s j)) := by
  obtain ⟨b, off, ha, hb, hc⟩ := h (by omega)
  exact ⟨b, off, ha, hb, hc j hj⟩
theorem own_ss {w : World} {base : Nat} {e : TypeId} {a : Option Addr} {n cap : Nat} {l : List ByteArray} (h : w.ownsRow base e 1 (.slice a n cap) n (l.map Value.string)) : SS w a n (fun j => l.getD j ⟨#[]⟩) := fun hn => by
  obtain ⟨g, rfl, _, hg, _⟩ := own_at h hn
  have hl : l.length = n := by simpa using h.1
  refine ⟨g, 0, rfl, hg, fun j hj => ?_⟩
  rw [Nat.zero_add, h.cellAt j (by omega)]
  simp [List.getD, show j < l.length by omega]
/-- the first j places of a list, marked -/
def markedF (F : Nat → Value) (xs : List Value) : Nat → List Value
  | 0 => xs
  | j + 1 => (markedF F xs j).set j (F j)
theorem markedF_length (F : Nat → Value) (xs : List Value) (j : Nat) : (markedF F xs j).length = xs.length := by
  induction j with
  | zero => rfl
  | succ j ih => simp [markedF, ih]
theorem markedF_at (F : Nat → Value) (xs : List Value) {j i : Nat} (hi : i < j) (hx : i < xs.length) : (markedF F xs j)[i]? = some (F i) := by
  induction j with
  | zero => omega
  | succ j ih =>
    simp only [markedF]
    by_cases e : i = j
    · subst e; rw [List.getElem?_set_self (by rw [markedF_length]; exact hx)]
    · rw [List.getElem?_set_ne (by omega)]; exact ih (by omega)
def mT (k : Nat) (j : Nat) : Value := .string (markT (k + j))
theorem markText_i (k j : Nat) (w : World) (hk : k + j ≤ 100000000) :
    Calls Tryd.prog 51 #[.int .i64 ((k : Int) + (j : Int))] w fun e w' => e = .returned (.string (markT (k + j))) ∧ Ext w w' := by
  have := markText_c (k + j) w hk
  simpa using this
def calNames : List ByteArray := [⟨#[101, 103, 121, 112, 116, 105, 97, 110]⟩, ⟨#[102, 105, 120, 101, 100]⟩, ⟨#[103, 114, 101, 103, 111, 114, 105, 97, 110]⟩, ⟨#[106, 117, 108, 105, 97, 110]⟩]
end Go.Proofs.YtpohhnihgegmfaaDoor

namespace Go.Proofs.YtpohhnihgegmfaaDoor
open Go.RowKit
set_option linter.unusedVariables false
set_option linter.unusedSimpArgs false

/-- the mark at place i of months, of rules -/
def mM (k0 : Nat) (i : Nat) : Value := if i % 3 = 0 then .string (markT (k0 + i)) else .int .i64 ((k0 + i : Nat) : Int)
def mR (k0 : Nat) (i : Nat) : Value := if i % 3 = 2 then .bool (decide ((k0 + i) % 3 = 0)) else .int .i64 ((k0 + i : Nat) : Int)
theorem markedF_step3 (F : Nat → Value) (xs : List Value) (j : Nat) (a b c : Value) (ha : a = F (j * 3)) (hb : b = F (j * 3 + 1)) (hc : c = F (j * 3 + 2)) : (((markedF F xs (j * 3)).set (j * 3) a).set (j * 3 + 1) b).set (j * 3 + 2) c = markedF F xs ((j + 1) * 3) := by
  subst ha hb hc
  rw [show (j + 1) * 3 = j * 3 + 1 + 1 + 1 by omega]; rfl
theorem mM_0 (k0 j : Nat) : mM k0 (j * 3) = .string (markT (k0 + j * 3)) := by rw [mM, if_pos (by omega)]
theorem mM_1 (k0 j : Nat) : mM k0 (j * 3 + 1) = .int .i64 (((k0 + j * 3 : Nat) : Int) + 1) := by rw [mM, if_neg (by omega)]; congr 1
theorem mM_2 (k0 j : Nat) : mM k0 (j * 3 + 2) = .int .i64 (((k0 + j * 3 : Nat) : Int) + 1 + 1) := by rw [mM, if_neg (by omega)]; congr 1
theorem mR_0 (k0 j : Nat) : mR k0 (j * 3) = .int .i64 ((k0 + j * 3 : Nat) : Int) := by rw [mR, if_neg (by omega)]
theorem mR_1 (k0 j : Nat) : mR k0 (j * 3 + 1) = .int .i64 (((k0 + j * 3 : Nat) : Int) + 1) := by rw [mR, if_neg (by omega)]; congr 1
theorem mR_2 (k0 j : Nat) : mR k0 (j * 3 + 2) = .bool (((((k0 + j * 3 : Nat) : Int) + 1 + 1) % 3) == 0) := by
  rw [mR, if_pos (by omega)]; congr 1
  rw [Bool.eq_iff_iff]; simp; omega
set_option maxHeartbeats 1000000 in
theorem markMonthS_c (a : Option Addr) (n c base : Nat) (k0 : Nat) (xs : List Value) (w : World) (hn : n ≤ 1000) (h1 : k0 ≤ 1048576) (hs : w.ownsRow base 68 3 (.slice a n c) n xs) :
    Calls Tryd.prog 26 #[.slice a n c, .int .i64 (k0 : Nat)] w fun e w' => e = .returned (.int .i64 ((k0 + n * 3 : Nat) : Int)) ∧ w'.ownsRow base 68 3 (.slice a n c) n (markedF (mM k0) xs (n * 3)) ∧ w.grownBy w' (Value.slice a n c).ownBlock := by
  have HS := Lib.hid hs
  have hl : xs.length = n * 3 := by simpa using hs.1
  clear hs
  go_enter Tryd.func26, Tryd.ntmps26
  go_wp2_with fail
  go_loopw [1, 5] (fun q i wr => ∃ j : Nat, j ≤ n ∧ i = .int .i64 j ∧ q = .int .i64 ((k0 + j * 3 : Nat) : Int) ∧ wr.ownsRow base 68 3 (.slice a n c) n (markedF (mM k0) xs (j * 3)) ∧ w.grownBy wr (Value.slice a n c).ownBlock) (fun _ i _ => n - (intOf i).toNat)
  case atStart => exact ⟨0, by omega, rfl, by simp, HS.out, World.grownBy.refl _ _⟩
  case round =>
    obtain ⟨j, hj, rfl, rfl, ho, hg⟩ := hrel
    obtain ⟨K, hK⟩ : ∃ K, K = k0 + j * 3 := ⟨_, rfl⟩
    rw [← hK]
    have HK := Lib.hid hK
    by_cases hlt : j < n
    · obtain ⟨g, rfl, hb1, hb2, hc⟩ := own_atK ho (by omega)
      have HO := Lib.hid ho
      have HG := Lib.hid hg
      have hex : ∀ i, i < n * 3 → ∃ v, wr.cell? ⟨g, i, none⟩ = some v := fun i hi => ⟨(markedF (mM k0) xs (j * 3))[i]'(by rw [markedF_length]; omega), by rw [(hc i hi).1]; exact List.getElem?_eq_getElem _⟩
      obtain ⟨v0, q0⟩ := hex (j * 3) (by omega)
      obtain ⟨v1, q1⟩ := hex (j * 3 + 1) (by omega)
      obtain ⟨v2, q2⟩ := hex (j * 3 + 2) (by omega)
      have f0 := (hc (j * 3) (by omega)).2
      have f1 := (hc (j * 3 + 1) (by omega)).2
      have f2 := (hc (j * 3 + 2) (by omega)).2
      have hKb : K ≤ 2000000 := by omega
      clear hc hex ho hg hK
      go_wp2_with (go_at_call 51; ((with_reducible refine (markText_c _ _ (by omega)).mono ?_); rintro e w' ⟨rfl, hx⟩; (first | (obtain ⟨wx, rfl⟩ := Past.again hx) | (obtain ⟨wx, rfl⟩ := Past.ofd hx) | (obtain ⟨wx, rfl⟩ := Past.of hx))))
      refine ⟨⟨j + 1, by omega, by go_num, congrArg _ (by have := HK.out; omega), ?_, ?_⟩, by simp [intOf]; omega⟩
      · have := own_set (j := j * 3 + 2) (own_set (j := j * 3 + 1) (own_set (j := j * 3) (own_ext HO.out (Past.bel wx)) (.string (markT K))) (.int .i64 ((K : Int) + 1))) (.int .i64 ((K : Int) + 1 + 1))
        rw [markedF_step3 (mM k0) xs j _ _ _ (by rw [mM_0, HK.out]) (by rw [mM_1, HK.out]) (by rw [mM_2, HK.out])] at this
        exact this
      · exact grown_trans (grown_trans (grown_trans (grown_trans HG.out (grown_weak (ext_grown (Past.bel wx)))) (grown_set _ _ _)) (grown_set _ _ _)) (grown_set _ _ _)
    · obtain rfl : j = n := by omega
      have HO := Lib.hid ho
      have HG := Lib.hid hg
      clear ho hg hK
      go_wp2_with fail
      go_ret
      exact ⟨by have := HK.out; subst this; rfl, HO.out, HG.out⟩
set_option maxHeartbeats 1000000 in
theorem markLeapRuleS_c (a : Option Addr) (n c base : Nat) (k0 : Nat) (xs : List Value) (w : World) (hn : n ≤ 1000) (h1 : k0 ≤ 1048576) (hs : w.ownsRow base 70 3 (.slice a n c) n xs) :
    Calls Tryd.prog 27 #[.slice a n c, .int .i64 (k0 : Nat)] w fun e w' => e = .returned (.int .i64 ((k0 + n * 3 : Nat) : Int)) ∧ w'.ownsRow base 70 3 (.slice a n c) n (markedF (mR k0) xs (n * 3)) ∧ w.grownBy w' (Value.slice a n c).ownBlock := by
  have HS := Lib.hid hs
  have hl : xs.length = n * 3 := by simpa using hs.1
  clear hs
  go_enter Tryd.func27, Tryd.ntmps27
  go_wp2_with fail
  go_loopw [1, 5] (fun q i wr => ∃ j : Nat, j ≤ n ∧ i = .int .i64 j ∧ q = .int .i64 ((k0 + j * 3 : Nat) : Int) ∧ wr.ownsRow base 70 3 (.slice a n c) n (markedF (mR k0) xs (j * 3)) ∧ w.grownBy wr (Value.slice a n c).ownBlock) (fun _ i _ => n - (intOf i).toNat)
  case atStart => exact ⟨0, by omega, rfl, by simp, HS.out, World.grownBy.refl _ _⟩
  case round =>
    obtain ⟨j, hj, rfl, rfl, ho, hg⟩ := hrel
    obtain ⟨K, hK⟩ : ∃ K, K = k0 + j * 3 := ⟨_, rfl⟩
    rw [← hK]
    have HK := Lib.hid hK
    by_cases hlt : j < n
    · obtain ⟨g, rfl, hb1, hb2, hc⟩ := own_atK ho (by omega)
      have HO := Lib.hid ho
      have HG := Lib.hid hg
      have hex : ∀ i, i < n * 3 → ∃ v, wr.cell? ⟨g, i, none⟩ = some v := fun i hi => ⟨(markedF (mR k0) xs (j * 3))[i]'(by rw [markedF_length]; omega), by rw [(hc i hi).1]; exact List.getElem?_eq_getElem _⟩
      obtain ⟨v0, q0⟩ := hex (j * 3) (by omega)
      obtain ⟨v1, q1⟩ := hex (j * 3 + 1) (by omega)
      obtain ⟨v2, q2⟩ := hex (j * 3 + 2) (by omega)
      have f0 := (hc (j * 3) (by omega)).2
      have f1 := (hc (j * 3 + 1) (by omega)).2
      have f2 := (hc (j * 3 + 2) (by omega)).2
      have hKb : K ≤ 2000000 := by omega
      have hsz := hb2
      obtain ⟨B, hB⟩ : ∃ B, B = ((((K : Int) + 1 + 1) % 3) == 0) := ⟨_, rfl⟩
      have HB := Lib.hid hB
      clear hc hex ho hg hK hB
      go_wp2_with fail
      refine ⟨⟨j + 1, by omega, by go_num, congrArg _ (by have := HK.out; omega), ?_, ?_⟩, by simp [intOf]; omega⟩
      · have := own_set (j := j * 3 + 2) (own_set (j := j * 3 + 1) (own_set (j := j * 3) HO.out (.int .i64 (K : Int))) (.int .i64 ((K : Int) + 1))) (.bool ((((K : Int) + 1 + 1) % 3) == 0))
        rw [markedF_step3 (mR k0) xs j _ _ _ (by rw [mR_0, HK.out]) (by rw [mR_1, HK.out]) (by rw [mR_2, HK.out])] at this
        exact this
      · exact grown_trans (grown_trans (grown_trans HG.out (grown_set _ _ _)) (grown_set _ _ _)) (grown_set _ _ _)
    · obtain rfl : j = n := by omega
      have HO := Lib.hid ho
      have HG := Lib.hid hg
      clear ho hg hK
      go_wp2_with fail
      go_ret
      exact ⟨by have := HK.out; subst this; rfl, HO.out, HG.out⟩
set_option maxHeartbeats 1000000 in
theorem heldMonthS_c (a : Option Addr) (n c base : Nat) (k0 : Nat) (xs : List Value) (w : World) (hn : n ≤ 1000) (h1 : k0 ≤ 1048576) (hx : xs.length = n * 3) (hs : w.ownsRow base 68 3 (.slice a n c) n (markedF (mM k0) xs (n * 3))) :
    Calls Tryd.prog 28 #[.slice a n c, .int .i64 (k0 : Nat)] w fun e w' => e = .returned (.int .i64 ((k0 + n * 3 : Nat) : Int)) ∧ Ext w w' := by
  have HS := Lib.hid hs
  clear hs
  go_enter Tryd.func28, Tryd.ntmps28
  go_wp2_with fail
  go_loopw [1, 5] (fun q i wr => ∃ j : Nat, j ≤ n ∧ i = .int .i64 j ∧ q = .int .i64 ((k0 + j * 3 : Nat) : Int) ∧ Ext w wr) (fun _ i _ => n - (intOf i).toNat)
  case atStart => exact ⟨0, by omega, rfl, by simp, (by repeat (first | with_reducible exact Ext.refl _ | with_reducible assumption | with_reducible refine Ext.alloc ?_ _ | with_reducible refine Ext.drew ?_ | (with_reducible refine Ext.setAt ?_ _ _ _ ?_; rotate_left; omega) | with_reducible refine Ext.trans ?_ (by assumption) | with_reducible exact Past.bel _ | with_reducible refine Ext.trans ?_ (Past.bel _)))⟩
  case round =>
    obtain ⟨j, hj, rfl, rfl, hbl⟩ := hrel
    obtain ⟨K, hK⟩ : ∃ K, K = k0 + j * 3 := ⟨_, rfl⟩
    rw [← hK]
    have HK := Lib.hid hK
    by_cases hlt : j < n
    · obtain ⟨g, rfl, hb1, hb2, hc⟩ := own_atK (own_ext HS.out hbl) (by omega)
      have q0 : wr.cell? ⟨g, j * 3, none⟩ = some (.string (markT K)) := by rw [(hc _ (by omega)).1, markedF_at _ _ (by omega) (by omega), mM_0, ← hK]
      have q1 : wr.cell? ⟨g, j * 3 + 1, none⟩ = some (.int .i64 ((K : Int) + 1)) := by rw [(hc _ (by omega)).1, markedF_at _ _ (by omega) (by omega), mM_1, ← hK]
      have q2 : wr.cell? ⟨g, j * 3 + 2, none⟩ = some (.int .i64 ((K : Int) + 1 + 1)) := by rw [(hc _ (by omega)).1, markedF_at _ _ (by omega) (by omega), mM_2, ← hK]
      have hKb : K ≤ 2000000 := by omega
      clear hc hK
      go_wp2_with fail
      refine wp_region_past (by kernel_rfl) (by kernel_rfl) ?_
      repeat (go_big_quiet_step ((go_at_call 51; exact Calls.past (markText_c _ _ (by omega)))))
      refine wpQuiet_nil ?_
      rintro _ ⟨wx, rfl⟩
      go_wp2_with fail
      exact ⟨⟨j + 1, by omega, by go_num, congrArg _ (by have := HK.out; omega), (by repeat (first | with_reducible exact Ext.refl _ | with_reducible assumption | with_reducible refine Ext.alloc ?_ _ | with_reducible refine Ext.drew ?_ | (with_reducible refine Ext.setAt ?_ _ _ _ ?_; rotate_left; omega) | with_reducible refine Ext.trans ?_ (by assumption) | with_reducible exact Past.bel _ | with_reducible refine Ext.trans ?_ (Past.bel _)))⟩, by simp [intOf]; omega⟩
    · obtain rfl : j = n := by omega
      clear hK
      go_wp2_with fail
      go_ret
      exact ⟨by have := HK.out; subst this; rfl, (by repeat (first | with_reducible exact Ext.refl _ | with_reducible assumption | with_reducible refine Ext.alloc ?_ _ | with_reducible refine Ext.drew ?_ | (with_reducible refine Ext.setAt ?_ _ _ _ ?_; rotate_left; omega) | with_reducible refine Ext.trans ?_ (by assumption) | with_reducible exact Past.bel _ | with_reducible refine Ext.trans ?_ (Past.bel _)))⟩
set_option maxHeartbeats 1000000 in
theorem heldLeapRuleS_c (a : Option Addr) (n c base : Nat) (k0 : Nat) (xs : List Value) (w : World) (hn : n ≤ 1000) (h1 : k0 ≤ 1048576) (hx : xs.length = n * 3) (hs : w.ownsRow base 70 3 (.slice a n c) n (markedF (mR k0) xs (n * 3))) :
    Calls Tryd.prog 29 #[.slice a n c, .int .i64 (k0 : Nat)] w fun e w' => e = .returned (.int .i64 ((k0 + n * 3 : Nat) : Int)) ∧ w = w' := by
  have HS := Lib.hid hs
  clear hs
  go_enter Tryd.func29, Tryd.ntmps29
  go_wp2_with fail
  go_loop [1, 5] (fun q i => ∃ j : Nat, j ≤ n ∧ i = .int .i64 j ∧ q = .int .i64 ((k0 + j * 3 : Nat) : Int)) (fun _ i => n - (intOf i).toNat)
  case atStart => exact ⟨0, by omega, rfl, by simp⟩
  case round =>
    obtain ⟨j, hj, rfl, rfl⟩ := hrel
    obtain ⟨K, hK⟩ : ∃ K, K = k0 + j * 3 := ⟨_, rfl⟩
    rw [← hK]
    have HK := Lib.hid hK
    by_cases hlt : j < n
    · obtain ⟨g, rfl, hb1, hb2, hc⟩ := own_atK HS.out (by omega)
      have q0 : w.cell? ⟨g, j * 3, none⟩ = some (.int .i64 (K : Int)) := by rw [(hc _ (by omega)).1, markedF_at _ _ (by omega) (by omega), mR_0, ← hK]
      have q1 : w.cell? ⟨g, j * 3 + 1, none⟩ = some (.int .i64 ((K : Int) + 1)) := by rw [(hc _ (by omega)).1, markedF_at _ _ (by omega) (by omega), mR_1, ← hK]
      have q2 : w.cell? ⟨g, j * 3 + 2, none⟩ = some (.bool ((((K : Int) + 1 + 1) % 3) == 0)) := by rw [(hc _ (by omega)).1, markedF_at _ _ (by omega) (by omega), mR_2, ← hK]
      have hKb : K ≤ 2000000 := by omega
      clear hc hK
      go_wp2_with fail
      exact ⟨⟨j + 1, by omega, by go_num, congrArg _ (by have := HK.out; omega)⟩, by simp [intOf]; omega⟩
    · obtain rfl : j = n := by omega
      clear hK
      go_wp2_with fail
      go_ret
      exact ⟨by have := HK.out; subst this; rfl, rfl⟩
end Go.Proofs.YtpohhnihgegmfaaDoor
