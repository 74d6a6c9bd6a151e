/- Dates' texts. Months of equal length. The reference's given calendars: their months and rules. The reference's given calendars. Decimal numerals read: the program's. Decimal numerals read: the reference's. Lists of numbers compared; cams. No program in sight. Cams: checked. Cams' texts. Texts parted: the program's way and the reference's. Calendars read: lines and words. -/
import Derived.Test.YtpohhnihgegmfaaDoorBb
import Derived.Test.YtpohhnihgegmfaaDoorBc
import Derived.Test.YtpohhnihgegmfaaDoorBa
import Derived.Lib.AtoiErrMem
import Derived.Lib.ParseIntBTie
import Derived.Lib.Join

namespace Go.Proofs.YtpohhnihgegmfaaDoor
open Go.RowKit
set_option linter.unusedVariables false
set_option linter.unusedSimpArgs false

theorem isYear_d (y : Int) (w : World) : Calls Tryd.prog 36 #[.int .i64 y] w fun e w' => e = .returned (.bool (inB y 0 9999)) ∧ w = w' := by
  go_enter Tryd.func36, Tryd.ntmps36
  go_wp2_with (go_at_call 43; ((with_reducible refine (within_c _ _ _ _).mono ?_); rintro e w' ⟨rfl, rfl⟩))
  go_ret
  exact ⟨rfl, rfl⟩
theorem l15Year_d (y : Int) (w : World) : Calls Tryd.prog 54 #[.int .i64 y] w fun e w' => e = .returned (.bool (inB y 0 9999)) ∧ w = w' := by
  go_enter Tryd.func54, Tryd.ntmps54
  go_wp2_with (go_at_call 37; ((with_reducible refine (l00In_c _ _ _ _).mono ?_); rintro e w' ⟨rfl, rfl⟩))
  go_ret
  exact ⟨rfl, rfl⟩
/-- a date's text -/
def dtx (y m d : Int) : List UInt8 := if inB y 0 9999 && (inB m 0 9999 && inB d 0 9999) then Lib.itoa y ++ [45] ++ Lib.itoa m ++ [45] ++ Lib.itoa d else []
theorem b_of {n : Int} (h : inB n 0 9999 = true) : B64 n := by
  obtain ⟨h0, h1⟩ := inB_t.1 h
  exact ⟨by omega, by omega⟩
set_option maxRecDepth 100000 in
set_option maxHeartbeats 2000000 in
theorem implDateText_c (a b c : Int) (w : World) (ht : Tab w) :
    Calls Tryd.prog 16 #[.agg #[.int .i64 a, .int .i64 b, .int .i64 c]] w fun e w' => e = .returned (.string ⟨(dtx a b c).toArray⟩) ∧ Ext w w' := by
  cases ha : inB a 0 9999
  · have hd := Lib.hid (show dtx a b c = [] by simp [dtx, ha])
    go_enter Tryd.func16, Tryd.ntmps16
    go_wp2_with (go_at_call 36; ((with_reducible refine (isYear_d _ _).mono ?_); rintro e w' ⟨rfl, rfl⟩))
    go_ret
    exact ⟨by rw [hd.out]; rfl, (by repeat (first | with_reducible exact Ext.refl _ | with_reducible assumption | with_reducible refine Ext.alloc ?_ _ | with_reducible refine Ext.drew ?_ | (with_reducible refine Ext.setAt ?_ _ _ _ ?_; rotate_left; omega) | with_reducible refine Ext.trans ?_ (by assumption) | with_reducible exact Past.bel _ | with_reducible refine Ext.trans ?_ (Past.bel _)))⟩
  · cases hb : inB b 0 9999
    · have hd := Lib.hid (show dtx a b c = [] by simp [dtx, hb])
      go_enter Tryd.func16, Tryd.ntmps16
      go_wp2_with (go_at_call 36; ((with_reducible refine (isYear_d _ _).mono ?_); rintro e w' ⟨rfl, rfl⟩))
      go_ret
      exact ⟨by rw [hd.out]; rfl, (by repeat (first | with_reducible exact Ext.refl _ | with_reducible assumption | with_reducible refine Ext.alloc ?_ _ | with_reducible refine Ext.drew ?_ | (with_reducible refine Ext.setAt ?_ _ _ _ ?_; rotate_left; omega) | with_reducible refine Ext.trans ?_ (by assumption) | with_reducible exact Past.bel _ | with_reducible refine Ext.trans ?_ (Past.bel _)))⟩
    · cases hc : inB c 0 9999
      · have hd := Lib.hid (show dtx a b c = [] by simp [dtx, hc])
        go_enter Tryd.func16, Tryd.ntmps16
        go_wp2_with (go_at_call 36; ((with_reducible refine (isYear_d _ _).mono ?_); rintro e w' ⟨rfl, rfl⟩))
        go_ret
        exact ⟨by rw [hd.out]; rfl, (by repeat (first | with_reducible exact Ext.refl _ | with_reducible assumption | with_reducible refine Ext.alloc ?_ _ | with_reducible refine Ext.drew ?_ | (with_reducible refine Ext.setAt ?_ _ _ _ ?_; rotate_left; omega) | with_reducible refine Ext.trans ?_ (by assumption) | with_reducible exact Past.bel _ | with_reducible refine Ext.trans ?_ (Past.bel _)))⟩
      · have pa := b_of ha
        have pb := b_of hb
        have pc := b_of hc
        obtain ⟨A, hA⟩ : ∃ A, A = Lib.itoa a := ⟨_, rfl⟩
        obtain ⟨B, hB⟩ : ∃ A, A = Lib.itoa b := ⟨_, rfl⟩
        obtain ⟨C, hC⟩ : ∃ A, A = Lib.itoa c := ⟨_, rfl⟩
        have la : A.length ≤ 20 := by rw [hA]; exact itoa_len _ pa.lo pa.hi
        have lb : B.length ≤ 20 := by rw [hB]; exact itoa_len _ pb.lo pb.hi
        have lc : C.length ≤ 20 := by rw [hC]; exact itoa_len _ pc.lo pc.hi
        have TA := Lib.hid (fun (W : World) (hq : Ext w W) => (show Calls Tryd.prog 35 #[.int .i64 a] W (fun e w' => e = .returned (.string ⟨A.toArray⟩) ∧ Ext W w') from by rw [hA]; exact decimal_c a W pa.lo pa.hi (ht.ext hq)))
        have TB := Lib.hid (fun (W : World) (hq : Ext w W) => (show Calls Tryd.prog 35 #[.int .i64 b] W (fun e w' => e = .returned (.string ⟨B.toArray⟩) ∧ Ext W w') from by rw [hB]; exact decimal_c b W pb.lo pb.hi (ht.ext hq)))
        have TC := Lib.hid (fun (W : World) (hq : Ext w W) => (show Calls Tryd.prog 35 #[.int .i64 c] W (fun e w' => e = .returned (.string ⟨C.toArray⟩) ∧ Ext W w') from by rw [hC]; exact decimal_c c W pc.lo pc.hi (ht.ext hq)))
        have hft : dtx a b c = A ++ [45] ++ B ++ [45] ++ C := by rw [hA, hB, hC, dtx, ha, hb, hc]; rfl
        have HT := Lib.hid hft
        clear hA hB hC hft
        go_enter Tryd.func16, Tryd.ntmps16
        go_wp2_with (go_at_call 36; ((with_reducible refine (isYear_d _ _).mono ?_); rintro e w' ⟨rfl, rfl⟩))
        refine wp_region_past (by kernel_rfl) (by kernel_rfl) ?_
        repeat (go_big_quiet_step (first | (go_at_call 35; exact Calls.past (TA.out _ (by repeat (first | with_reducible exact Ext.refl _ | with_reducible assumption | with_reducible refine Ext.alloc ?_ _ | with_reducible refine Ext.drew ?_ | (with_reducible refine Ext.setAt ?_ _ _ _ ?_; rotate_left; omega) | with_reducible refine Ext.trans ?_ (by assumption) | with_reducible exact Past.bel _ | with_reducible refine Ext.trans ?_ (Past.bel _))))) | (go_at_call 35; exact Calls.past (TB.out _ (by repeat (first | with_reducible exact Ext.refl _ | with_reducible assumption | with_reducible refine Ext.alloc ?_ _ | with_reducible refine Ext.drew ?_ | (with_reducible refine Ext.setAt ?_ _ _ _ ?_; rotate_left; omega) | with_reducible refine Ext.trans ?_ (by assumption) | with_reducible exact Past.bel _ | with_reducible refine Ext.trans ?_ (Past.bel _))))) | (go_at_call 35; exact Calls.past (TC.out _ (by repeat (first | with_reducible exact Ext.refl _ | with_reducible assumption | with_reducible refine Ext.alloc ?_ _ | with_reducible refine Ext.drew ?_ | (with_reducible refine Ext.setAt ?_ _ _ _ ?_; rotate_left; omega) | with_reducible refine Ext.trans ?_ (by assumption) | with_reducible exact Past.bel _ | with_reducible refine Ext.trans ?_ (Past.bel _)))))))
        refine wpQuiet_nil ?_
        rintro _ ⟨wx, rfl⟩
        go_wp2_with fail
        go_ret
        exact ⟨by rw [HT.out, ← ba_app, ← ba_app, ← ba_app, ← ba_app]; rfl, (by repeat (first | with_reducible exact Ext.refl _ | with_reducible assumption | with_reducible refine Ext.alloc ?_ _ | with_reducible refine Ext.drew ?_ | (with_reducible refine Ext.setAt ?_ _ _ _ ?_; rotate_left; omega) | with_reducible refine Ext.trans ?_ (by assumption) | with_reducible exact Past.bel _ | with_reducible refine Ext.trans ?_ (Past.bel _)))⟩
theorem l16Plain_c (a b c : Int) (w : World) :
    Calls Tryd.prog 31 #[.agg #[.int .i64 a, .int .i64 b, .int .i64 c]] w fun e w' => e = .returned (.bool (inB a 0 9999 && (inB b 0 9999 && inB c 0 9999))) ∧ Ext w w' := by
  cases ha : inB a 0 9999 <;> cases hb : inB b 0 9999 <;> cases hc : inB c 0 9999
  all_goals
    go_enter Tryd.func31, Tryd.ntmps31
    go_wp2_with (go_at_call 54; ((with_reducible refine (l15Year_d _ _).mono ?_); rintro e w' ⟨rfl, rfl⟩))
    go_ret
    exact ⟨rfl, (by repeat (first | with_reducible exact Ext.refl _ | with_reducible assumption | with_reducible refine Ext.alloc ?_ _ | with_reducible refine Ext.drew ?_ | (with_reducible refine Ext.setAt ?_ _ _ _ ?_; rotate_left; omega) | with_reducible refine Ext.trans ?_ (by assumption) | with_reducible exact Past.bel _ | with_reducible refine Ext.trans ?_ (Past.bel _)))⟩
end Go.Proofs.YtpohhnihgegmfaaDoor

namespace Go.Proofs.YtpohhnihgegmfaaDoor
open Go.RowKit
set_option linter.unusedVariables false
set_option linter.unusedSimpArgs false

/-- months m1 and so on of d days -/
def eqM (d : Int) (k : Nat) : List Mo := (List.range k).map (fun j : Nat => ((⟨(109 :: Lib.itoa ((j : Int) + 1)).toArray⟩ : ByteArray), d, d))
theorem eqM_len (d : Int) (k : Nat) : (eqM d k).length = k := by simp [eqM]
theorem eqM_zero (d : Int) : MT (eqM d 0) = [] := rfl
theorem eqM_step (d : Int) (k : Nat) : eqM d (k + 1) = eqM d k ++ [((⟨(109 :: Lib.itoa ((k : Int) + 1)).toArray⟩ : ByteArray), d, d)] := by simp [eqM, List.range_succ]
theorem itoa_small (n : Int) (h0 : 0 ≤ n) (h1 : n ≤ 1000000) : (Lib.itoa n).length ≤ 7 := by
  obtain ⟨u, rfl⟩ : ∃ u : Nat, n = (u : Int) := ⟨n.toNat, by omega⟩
  by_cases h : u = 0
  · subst h; rw [show ((0 : Nat) : Int) = 0 from rfl, itoa_zero]; decide
  · rw [itoa_pos (by omega)]
    exact digs_len 7 u (by omega)
end Go.Proofs.YtpohhnihgegmfaaDoor

namespace Go.Proofs.YtpohhnihgegmfaaDoor
open Go.RowKit
set_option linter.unusedVariables false
set_option linter.unusedSimpArgs false

def romT : List (ByteArray × Int) := [(⟨#[106, 97, 110]⟩, 31), (⟨#[102, 101, 98]⟩, 28), (⟨#[109, 97, 114]⟩, 31), (⟨#[97, 112, 114]⟩, 30), (⟨#[109, 97, 121]⟩, 31), (⟨#[106, 117, 110]⟩, 30), (⟨#[106, 117, 108]⟩, 31), (⟨#[97, 117, 103]⟩, 31), (⟨#[115, 101, 112]⟩, 30), (⟨#[111, 99, 116]⟩, 31), (⟨#[110, 111, 118]⟩, 30), (⟨#[100, 101, 99]⟩, 31)]
/-- the first k months of the roman calendars, all years alike -/
def romP (k : Nat) : List Mo := (romT.take k).map fun q => (q.1, q.2, q.2)
theorem romP_len {k : Nat} (h : k ≤ 12) : (romP k).length = k := by simp [romP, romT]; omega
/-- the months of the roman calendars -/
def romM : List Mo := (romT.take 1).map (fun q => (q.1, q.2, q.2)) ++ [(⟨#[102, 101, 98]⟩, 28, 29)] ++ (romT.drop 2).map (fun q => (q.1, q.2, q.2))
theorem rom_set : (MT (romP 12)).set 5 (.int .i64 29) = MT romM := rfl
def gregR : List Ru := [(4, 0, true), (100, 0, false), (400, 0, true)]
def julR : List Ru := [(4, 0, true)]
theorem own_lit {w : World} {base : Nat} {e : TypeId} {size n : Nat} (cur : Array Value) (xs : List Value) (hx : cur.toList = xs) (hs : xs.length = n * size) (hn : n ≤ maxLen) (hb : base ≤ w.heap.size) : (w.alloc (.cells cur e)).ownsRow base e size (.slice (some ⟨w.heap.size, 0, none⟩) n n) n xs :=
  ⟨hs, .inr ⟨w.heap.size, n, cur, rfl, hb, heap_alloc_new w _, Nat.le_refl _, hn, by rw [← hs, ← hx]; simp, by rw [← hs, ← hx]; exact List.take_of_length_le (Nat.le_refl _)⟩⟩
theorem own_made {base g : Nat} {e : TypeId} {size : Nat} (w : World) (cur : Array Value) (cap : Nat) (hg : g = w.heap.size) (hb : base ≤ w.heap.size) (hm : cap ≤ maxLen) (hs : cur.size = cap * size) :
    (w.alloc (.cells cur e)).ownsRow base e size (.slice (some ⟨g, 0, none⟩) 0 cap) 0 [] := by
  subst hg; exact World.ownsRow_made w cur cap hb hm hs
end Go.Proofs.YtpohhnihgegmfaaDoor

namespace Go.Proofs.YtpohhnihgegmfaaDoor
open Go.RowKit
set_option linter.unusedVariables false
set_option linter.unusedSimpArgs false

def egyS : ByteArray := ⟨#[101, 103, 121, 112, 116, 105, 97, 110]⟩
def fixS : ByteArray := ⟨#[102, 105, 120, 101, 100]⟩
def greS : ByteArray := ⟨#[103, 114, 101, 103, 111, 114, 105, 97, 110]⟩
def julS : ByteArray := ⟨#[106, 117, 108, 105, 97, 110]⟩
def egyM : List Mo := eqM 30 12 ++ [(⟨#[109, 49, 51]⟩, 5, 5)]
def fixM : List Mo := eqM 28 12 ++ [(⟨#[109, 49, 51]⟩, 29, 30)]
/-- a calendar with a code, in memory of its own -/
def NmR (w w' : World) (M : List Mo) (R : List Ru) (wk k : Int) (s : ByteArray) (e : Ending) : Prop :=
  ∃ a1 c1 a2 c2, e = .returned (.tuple #[.agg #[.string s, .slice a1 M.length c1, .slice a2 R.length c2, .int .i64 wk], .int .i64 k]) ∧ Ext w w' ∧ w'.ownsRow w.heap.size 68 3 (.slice a1 M.length c1) M.length (MT M) ∧ w'.ownsRow w.heap.size 70 3 (.slice a2 R.length c2) R.length (RT R) ∧ ((Value.slice a1 M.length c1).ownBlock = none ∨ (Value.slice a1 M.length c1).ownBlock ≠ (Value.slice a2 R.length c2).ownBlock) ∧ ((Value.slice a2 R.length c2).ownBlock = none ∨ (Value.slice a2 R.length c2).ownBlock ≠ (Value.slice a1 M.length c1).ownBlock)
theorem Blk.grown {w w' : World} {g : Nat} {T : TypeId} {cur : Array Value} {row : Option Nat} (h : Blk w g T cur) (hg : w.grownBy w' row) (hne : some g ≠ row) : Blk w' g T cur := (hg.block g h.lt hne).trans h
/-- the cells of a calendar's block -/
structure Cel (w : World) (g : Nat) (a b c d : Value) : Prop where
  lt : g < w.heap.size
  c0 : w.cell? ⟨g, 0, none⟩ = some a
  c1 : w.cell? ⟨g, 1, none⟩ = some b
  c2 : w.cell? ⟨g, 2, none⟩ = some c
  c3 : w.cell? ⟨g, 3, none⟩ = some d
  f0 : w.frozen? ⟨g, 0, none⟩ = false
  f1 : w.frozen? ⟨g, 1, none⟩ = false
  f2 : w.frozen? ⟨g, 2, none⟩ = false
  f3 : w.frozen? ⟨g, 3, none⟩ = false
theorem Blk.cel {w : World} {g : Nat} {T : TypeId} {a b c d : Value} (h : Blk w g T #[a, b, c, d]) : Cel w g a b c d := ⟨h.lt, h.cell 0, h.cell 1, h.cell 2, h.cell 3, h.frozen 0, h.frozen 1, h.frozen 2, h.frozen 3⟩
/-- 'append' of one month to months of its own -/
theorem app_month {w : World} {ops : Array Oper} {rest : List Oper} {o : Oper} {A : Act} {Q : Exit → Act → World → Prop} (s x : Operand)
    (hop : o.op = .call { callee := .builtin .append, args := #[s, x], argTypes := #[28, 28] }) (hgd : o.guard = none)
    (B : Nat) (v : Value) (n m : Nat) (xs : List Value) (nm : ByteArray) (d l : Int) (gb c : Nat) (hm : m = n + 1) (hs : A.eval s = v) (hx : A.eval x = .slice (some ⟨gb, 0, none⟩) 1 c) (h : w.ownsRow B 68 3 v n xs)
    (hc : Blk w gb 68 #[.string nm, .int .i64 d, .int .i64 l]) (hl : n ≤ 1048576) (h0 : B ≤ w.heap.size)
    (hK : ∀ b' c' w', w'.ownsRow B 68 3 (.slice b' m c') m (xs ++ MT [(nm, d, l)]) → w.grownBy w' v.ownBlock → wpList Tryd.prog ops Q rest (A.put o.dst (.slice b' m c')) w') : wpList Tryd.prog ops Q (o :: rest) A w := by
  subst hm
  refine appG 28 68 s x _ 3 32 hop hgd Tryd.underlying28 info_month rfl (by decide) (by decide) B v n xs 1 [.string nm, .int .i64 d, .int .i64 l] gb c hs hx h hc rfl (by intro u hu; simp at hu; rcases hu with rfl | rfl | rfl <;> rfl) (by omega) hl h0 ?_
  intro v' w' s6 s7
  obtain ⟨b', c', rfl⟩ := own_form s6
  exact hK b' c' w' s6 s7
theorem own_litg {w : World} {base g : Nat} {e : TypeId} {size n : Nat} (cur : Array Value) (xs : List Value) (hx : cur.toList = xs) (hs : xs.length = n * size) (hn : n ≤ maxLen) (hb : base ≤ w.heap.size) (hg : g = w.heap.size) : (w.alloc (.cells cur e)).ownsRow base e size (.slice (some ⟨g, 0, none⟩) n n) n xs := by
  subst hg; exact own_lit cur xs hx hs hn hb
theorem str_ne {s : ByteArray} {l : List UInt8} (h : s ≠ ⟨l.toArray⟩) : (s.toList == l) = false := by
  rw [ByteArray.toList_eq]
  refine Bool.eq_false_iff.2 fun e => h ?_
  have e' : s.data.toList = l := by simpa using e
  apply ByteArray.ext; rw [← e']
theorem own_low {w : World} {base : Nat} {e : TypeId} {size : Nat} {v : Value} {n : Nat} {xs : List Value} (h : w.ownsRow base e size v n xs) {b : Nat} (hb : b < base) (o : Nat) (u : Value) : (w.setCell ⟨b, o, none⟩ u).ownsRow base e size v n xs :=
  h.kept (grown_set b o u) (by
    cases hv : v.ownBlock with
    | none => exact .inl rfl
    | some k => refine .inr fun e => ?_; have := h.lt k hv; simp at e; omega)
theorem own_four {w : World} {base : Nat} {e : TypeId} {size : Nat} {v : Value} {n : Nat} {xs : List Value} (h : w.ownsRow base e size v n xs) {b : Nat} (hb : b < base) (u0 u1 u2 u3 : Value) : ((((w.setCell ⟨b, 0, none⟩ u0).setCell ⟨b, 1, none⟩ u1).setCell ⟨b, 2, none⟩ u2).setCell ⟨b, 3, none⟩ u3).ownsRow base e size v n xs :=
  own_low (own_low (own_low (own_low h hb _ _) hb _ _) hb _ _) hb _ _
theorem apart_none (a : Option Nat) : (a = none ∨ a ≠ none) := by cases a <;> simp
/-- the four cells of the result stored -/
theorem NmR.mk4 {w wX : World} {M : List Mo} {R : List Ru} {wk k : Int} {s : ByteArray} {a1 a2 : Option Addr} {n1 n2 c1 c2 : Nat} (hn1 : M.length = n1) (hn2 : R.length = n2) (hx : Ext w wX) (h1 : wX.ownsRow (w.heap.size + 1) 68 3 (.slice a1 n1 c1) n1 (MT M)) (h2 : wX.ownsRow (w.heap.size + 1) 70 3 (.slice a2 n2 c2) n2 (RT R))
    (hp : ((Value.slice a1 n1 c1).ownBlock = none ∨ (Value.slice a1 n1 c1).ownBlock ≠ (Value.slice a2 n2 c2).ownBlock) ∧ ((Value.slice a2 n2 c2).ownBlock = none ∨ (Value.slice a2 n2 c2).ownBlock ≠ (Value.slice a1 n1 c1).ownBlock)) (u0 u1 u2 u3 : Value) :
    NmR w ((((wX.setCell ⟨w.heap.size, 0, none⟩ u0).setCell ⟨w.heap.size, 1, none⟩ u1).setCell ⟨w.heap.size, 2, none⟩ u2).setCell ⟨w.heap.size, 3, none⟩ u3) M R wk k s (.returned (.tuple #[.agg #[.string s, .slice a1 n1 c1, .slice a2 n2 c2, .int .i64 wk], .int .i64 k])) := by
  subst hn1 hn2
  exact ⟨a1, c1, a2, c2, rfl, Ext.setAt (Ext.setAt (Ext.setAt (Ext.setAt hx _ _ _ (Nat.le_refl _)) _ _ _ (Nat.le_refl _)) _ _ _ (Nat.le_refl _)) _ _ _ (Nat.le_refl _), own_base (own_four h1 (by omega) _ _ _ _) (by omega), own_base (own_four h2 (by omega) _ _ _ _) (by omega), hp.1, hp.2⟩
end Go.Proofs.YtpohhnihgegmfaaDoor

namespace Go.Proofs.YtpohhnihgegmfaaDoor
open Go.RowKit
set_option linter.unusedVariables false
set_option linter.unusedSimpArgs false

/-- what the library's listed variables hold, whatever is made new -/
structure Gl (w : World) : Prop where
  tab : Tab w
  ml : ∃ m : Int, ∀ w', Ext w w' → w'.cell? ⟨0, 0, none⟩ = some (.int .i64 m)
  es : ∃ ev, (ev = .nilIface ∨ ∃ tp pe, ev = .iface tp pe) ∧ ∀ w', Ext w w' → w'.cell? ⟨1, 0, none⟩ = some ev
  er : ∃ ev, (ev = .nilIface ∨ ∃ tp pe, ev = .iface tp pe) ∧ ∀ w', Ext w w' → w'.cell? ⟨2, 0, none⟩ = some ev
theorem Gl.ext {w w' : World} (h : Gl w) (x : Ext w w') : Gl w' := by
  obtain ⟨m, hm⟩ := h.ml
  obtain ⟨e1, h1, k1⟩ := h.es
  obtain ⟨e2, h2, k2⟩ := h.er
  exact ⟨h.tab.ext x, ⟨m, fun w2 x2 => hm w2 (Ext.trans x x2)⟩, ⟨e1, h1, fun w2 x2 => k1 w2 (Ext.trans x x2)⟩, ⟨e2, h2, fun w2 x2 => k2 w2 (Ext.trans x x2)⟩⟩
theorem ext_bworld {w w' : World} {T : TypeId} (h : w' = w ∨ ∃ t, w' = Lib.bytesWorld w T t) : Ext w w' := by
  rcases h with rfl | ⟨t, rfl⟩
  · exact Ext.refl _
  · exact Lib.bytesWorld_below _ _ _
theorem trim_c (s : ByteArray) (w : World) : Calls Tryd.prog 33 #[.string s, .string ⟨#[45]⟩] w fun e w' => e = .returned (.string ⟨(mag s.data.toList).toArray⟩) ∧ w = w' :=
  (Tryd.strings_TrimPrefix s ⟨#[45]⟩ w).mono fun e w' ⟨h1, h2⟩ => ⟨h1, h2.symm⟩
set_option maxRecDepth 100000 in
set_option maxHeartbeats 2000000 in
theorem implReadDecimal_c (s : ByteArray) (w : World) (hs : s.size ≤ 1048576) (hg : Gl w) {x : Int} {b : Bool} (r : RdR s.data.toList x b) :
    Calls Tryd.prog 15 #[.string s] w fun e w' => e = .returned (.tuple #[.int .i64 x, .bool b]) ∧ Ext w w' := by
  have HG := Lib.hid hg
  have HR := Lib.hid r
  obtain ⟨T, hT⟩ : ∃ T, T = mag s.data.toList := ⟨_, rfl⟩
  have HM := Lib.hid (fun W => (hT ▸ trim_c s W : Calls Tryd.prog 33 #[.string s, .string ⟨#[45]⟩] W fun e w' => e = .returned (.string ⟨T.toArray⟩) ∧ W = w'))
  have HT := Lib.hid hT
  clear hT hg r
  by_cases h1 : 1 ≤ T.length ∧ T.length ≤ 18
  · have x1 : ¬ (T.length : Int) < 1 := by omega
    have x2 : ¬ (18 : Int) < (T.length : Int) := by omega
    have sz : s.size ≤ 281474976710656 := by omega
    cases hp : Lib.parseIntB 64 s.data.toList with
    | ok v =>
      have HP := Lib.hid hp
      have hv := Lib.parseIntB_bounds hp
      have e4 : (2 : Nat) ^ (64 - 1) = 9223372036854775808 := by decide
      rw [e4] at hv
      obtain ⟨A, hA⟩ : ∃ A, A = Lib.itoa v := ⟨_, rfl⟩
      have HD := Lib.hid (fun (W : World) (hq : Ext w W) => (show Calls Tryd.prog 35 #[.int .i64 v] W (fun e w' => e = .returned (.string ⟨A.toArray⟩) ∧ Ext W w') from by rw [hA]; exact decimal_c v W (by omega) (by omega) (HG.out.tab.ext hq)))
      have HA := Lib.hid hA
      by_cases hq : A = s.data.toList
      · obtain rfl : s = ⟨A.toArray⟩ := by apply ByteArray.ext; rw [hq]
        obtain rfl : b = true := by
          cases b
          · exact absurd (by rw [← HA.out]) ((HR.out.no rfl).2 v (sm_of (by rw [← hA]) (by rw [← HT.out]; exact h1.2)))
          · rfl
        obtain rfl : x = v := itoa_inj ((HR.out.yes rfl).1.trans (by rw [← HA.out]))
        clear hq hA hp
        go_enter Tryd.func15, Tryd.ntmps15
        go_wp2_with (go_at_call 33; ((with_reducible refine (HM.out _).mono ?_); rintro e w' ⟨rfl, rfl⟩))
        refine (Tryd.strconv_ParseInt_10_at64_ok _ (by omega) x HP.out _).mono ?_
        rintro e w1 ⟨rfl, hx1⟩
        have e1 := ext_bworld hx1
        clear hx1
        go_wp2_with (go_at_call 35; ((with_reducible refine (HD.out _ (by repeat (first | with_reducible exact Ext.refl _ | with_reducible assumption | with_reducible refine Ext.alloc ?_ _ | with_reducible refine Ext.drew ?_ | (with_reducible refine Ext.setAt ?_ _ _ _ ?_; rotate_left; omega) | with_reducible refine Ext.trans ?_ (by assumption) | with_reducible exact Past.bel _ | with_reducible refine Ext.trans ?_ (Past.bel _)))).mono ?_); rintro e w' ⟨rfl, hx⟩; (first | (obtain ⟨wx, rfl⟩ := Past.again hx) | (obtain ⟨wx, rfl⟩ := Past.ofd hx) | (obtain ⟨wx, rfl⟩ := Past.of hx))))
        go_ret2
        exact ⟨rfl, (by repeat (first | with_reducible exact Ext.refl _ | with_reducible assumption | with_reducible refine Ext.alloc ?_ _ | with_reducible refine Ext.drew ?_ | (with_reducible refine Ext.setAt ?_ _ _ _ ?_; rotate_left; omega) | with_reducible refine Ext.trans ?_ (by assumption) | with_reducible exact Past.bel _ | with_reducible refine Ext.trans ?_ (Past.bel _)))⟩
      · obtain rfl : b = false := by
          cases b
          · rfl
          · have h2 := (HR.out.yes rfl)
            have h3 := parse_itoa h2.2
            rw [h2.1, hp] at h3
            injection h3 with h3
            exact absurd (by rw [hA, h3, h2.1]) hq
        obtain ⟨rfl, -⟩ := HR.out.no rfl
        have hne : (A == s.toList) = false := by rw [ByteArray.toList_eq]; simpa using hq
        have HQ := Lib.hid hq
        clear hq hA hp
        go_enter Tryd.func15, Tryd.ntmps15
        go_wp2_with (go_at_call 33; ((with_reducible refine (HM.out _).mono ?_); rintro e w' ⟨rfl, rfl⟩))
        refine (Tryd.strconv_ParseInt_10_at64_ok _ (by omega) v HP.out _).mono ?_
        rintro e w1 ⟨rfl, hx1⟩
        have e1 := ext_bworld hx1
        clear hx1
        go_wp2_with (go_at_call 35; ((with_reducible refine (HD.out _ (by repeat (first | with_reducible exact Ext.refl _ | with_reducible assumption | with_reducible refine Ext.alloc ?_ _ | with_reducible refine Ext.drew ?_ | (with_reducible refine Ext.setAt ?_ _ _ _ ?_; rotate_left; omega) | with_reducible refine Ext.trans ?_ (by assumption) | with_reducible exact Past.bel _ | with_reducible refine Ext.trans ?_ (Past.bel _)))).mono ?_); rintro e w' ⟨rfl, hx⟩; (first | (obtain ⟨wx, rfl⟩ := Past.again hx) | (obtain ⟨wx, rfl⟩ := Past.ofd hx) | (obtain ⟨wx, rfl⟩ := Past.of hx))))
        go_ret2
        exact ⟨rfl, (by repeat (first | with_reducible exact Ext.refl _ | with_reducible assumption | with_reducible refine Ext.alloc ?_ _ | with_reducible refine Ext.drew ?_ | (with_reducible refine Ext.setAt ?_ _ _ _ ?_; rotate_left; omega) | with_reducible refine Ext.trans ?_ (by assumption) | with_reducible exact Past.bel _ | with_reducible refine Ext.trans ?_ (Past.bel _)))⟩
    | range =>
      obtain rfl : b = false := by
        cases b
        · rfl
        · have h2 := (HR.out.yes rfl)
          have h3 := parse_itoa h2.2
          rw [h2.1, hp] at h3
          cases h3
      obtain ⟨rfl, -⟩ := HR.out.no rfl
      obtain ⟨ev, hev, hce⟩ := HG.out.er
      have HP := Lib.hid (fun W (hq : Ext w W) => Tryd.strconv_ParseInt_10_at64_range s sz hp ev W (hce W hq) hev)
      clear hp hce hev
      go_enter Tryd.func15, Tryd.ntmps15
      go_wp2_with (go_at_call 33; ((with_reducible refine (HM.out _).mono ?_); rintro e w' ⟨rfl, rfl⟩))
      refine (HP.out _ (Ext.refl _)).mono ?_
      rintro e w1 ⟨N, rfl, -, -, e1⟩
      have e1 : Ext w w1 := e1
      go_wp2_with fail
      go_ret2
      exact ⟨rfl, e1⟩
    | _ =>
      obtain rfl : b = false := by
        cases b
        · rfl
        · have h2 := (HR.out.yes rfl)
          have h3 := parse_itoa h2.2
          rw [h2.1, hp] at h3
          cases h3
      obtain ⟨rfl, -⟩ := HR.out.no rfl
      obtain ⟨ev, hev, hce⟩ := HG.out.es
      have HP := Lib.hid (fun W (hq : Ext w W) => Tryd.strconv_ParseInt_10_at64_bad s sz _ (by intro v hv; cases hv) (by intro hv; cases hv) hp ev W (hce W hq) hev)
      clear hp hce hev
      go_enter Tryd.func15, Tryd.ntmps15
      go_wp2_with (go_at_call 33; ((with_reducible refine (HM.out _).mono ?_); rintro e w' ⟨rfl, rfl⟩))
      refine (HP.out _ (Ext.refl _)).mono ?_
      rintro e w1 ⟨N, rfl, -, -, e1⟩
      have e1 : Ext w w1 := e1
      go_wp2_with fail
      go_ret2
      exact ⟨rfl, e1⟩
  · obtain rfl : b = false := by
      cases b
      · rfl
      · have h2 := (HR.out.yes rfl)
        have h3 := sm_mag h2.2 h2.1
        rw [← HT.out] at h3
        exact absurd h3.2 h1
    obtain ⟨rfl, -⟩ := HR.out.no rfl
    by_cases h2 : T.length < 1
    · have x1 : (T.length : Int) < 1 := by omega
      clear h1 h2
      go_enter Tryd.func15, Tryd.ntmps15
      go_wp2_with (go_at_call 33; ((with_reducible refine (HM.out _).mono ?_); rintro e w' ⟨rfl, rfl⟩))
      go_ret2
      exact ⟨rfl, (by repeat (first | with_reducible exact Ext.refl _ | with_reducible assumption | with_reducible refine Ext.alloc ?_ _ | with_reducible refine Ext.drew ?_ | (with_reducible refine Ext.setAt ?_ _ _ _ ?_; rotate_left; omega) | with_reducible refine Ext.trans ?_ (by assumption) | with_reducible exact Past.bel _ | with_reducible refine Ext.trans ?_ (Past.bel _)))⟩
    · have x1 : ¬ (T.length : Int) < 1 := by omega
      have x2 : (18 : Int) < (T.length : Int) := by omega
      clear h1 h2
      go_enter Tryd.func15, Tryd.ntmps15
      go_wp2_with (go_at_call 33; ((with_reducible refine (HM.out _).mono ?_); rintro e w' ⟨rfl, rfl⟩))
      go_ret2
      exact ⟨rfl, (by repeat (first | with_reducible exact Ext.refl _ | with_reducible assumption | with_reducible refine Ext.alloc ?_ _ | with_reducible refine Ext.drew ?_ | (with_reducible refine Ext.setAt ?_ _ _ _ ?_; rotate_left; omega) | with_reducible refine Ext.trans ?_ (by assumption) | with_reducible exact Past.bel _ | with_reducible refine Ext.trans ?_ (Past.bel _)))⟩
end Go.Proofs.YtpohhnihgegmfaaDoor

namespace Go.Proofs.YtpohhnihgegmfaaDoor
open Go.RowKit
set_option linter.unusedVariables false
set_option linter.unusedSimpArgs false

theorem byte_at {s : ByteArray} {j : Nat} (h : j < s.size) : s.data.toList[j]? = some s[j] := by
  have h' : j < s.data.size := h
  rw [List.getElem?_eq_getElem (by simpa using h')]; rfl
theorem decFrom_bad {l : List UInt8} {j : Nat} {b : UInt8} (h : l[j]? = some b) (hb : chD b.toNat = false) : ∀ u, Lib.decDigits u ≠ l := fun u e => by
  have h1 := decFrom_digits u
  rw [e] at h1
  obtain ⟨d, hd⟩ := Lib.digit_of_decFrom l 0 u h1 j b h
  have h2 := (digitVal_some hd).1
  simp [chD] at hb; omega
theorem digit_yes {b : UInt8} (h : chD b.toNat = true) : Lib.digitVal b = some (b.toNat - 48) ∧ 48 ≤ b.toNat ∧ b.toNat ≤ 57 := by
  simp [chD] at h
  exact ⟨by rw [Lib.digitVal, if_pos h], h.1, h.2⟩
theorem mag_cons (r : List UInt8) : mag (45 :: r) = r := rfl
theorem mag_other {c : UInt8} {r : List UInt8} (h : c ≠ 45) : mag (c :: r) = c :: r := by
  have : Lib.hasPrefix (c :: r) [45] = false := by
    unfold Lib.hasPrefix
    simp only [List.isPrefixOf, Bool.and_true, beq_eq_false_iff_ne]
    exact fun e => h e.symm
  rw [mag, Lib.trimPrefix, this]; rfl
/-- what a text's magnitude says of a number that it spells -/
theorem spell {l T : List UInt8} (hm : mag l = T) {n : Int} (e : Lib.itoa n = l) : Lib.decDigits n.natAbs = T := by rw [← hm, ← e, mag_itoa]
theorem sign_of {l T : List UInt8} (hm : mag l = T) {n : Int} (e : Lib.itoa n = l) : (n < 0 ↔ T.length < l.length) := by
  have h1 := spell hm e
  rcases itoa_cases n with ⟨a, b⟩ | ⟨a, b⟩
  · rw [← e, b, ← h1]; simp; omega
  · rw [← e, b, ← h1]; simp; omega
theorem num_bounds {acc D : Nat} (h : acc * 10 + D < 1000000000000000000) : IntKind.i64.wrap (10 * (acc : Int)) = 10 * (acc : Int) ∧ IntKind.i64.wrap (10 * (acc : Int) + (D : Int)) = 10 * (acc : Int) + (D : Int) ∧ wrap64 (10 * (acc : Int)) = 10 * (acc : Int) ∧ wrap64 (10 * (acc : Int) + (D : Int)) = 10 * (acc : Int) + (D : Int) :=
  ⟨IntWalk.i64_in _ (by omega), IntWalk.i64_in _ (by omega), IntWalk.wrap64_in _ (by omega), IntWalk.wrap64_in _ (by omega)⟩
theorem num_cast {acc D : Nat} (h : acc * 10 + D < 1000000000000000000) : wrap64 (10 * (acc : Int) + wrap64 (D : Int)) = ((acc * 10 + D : Nat) : Int) := by
  rw [IntWalk.wrap64_in (D : Int) (by omega), IntWalk.wrap64_in _ (by omega)]; omega
theorem u8_small {D : Nat} (h : D ≤ 9) : IntKind.u8.wrap (D : Int) = (D : Int) := by
  obtain rfl | rfl | rfl | rfl | rfl | rfl | rfl | rfl | rfl | rfl : D = 0 ∨ D = 1 ∨ D = 2 ∨ D = 3 ∨ D = 4 ∨ D = 5 ∨ D = 6 ∨ D = 7 ∨ D = 8 ∨ D = 9 := by omega
  all_goals decide
theorem ba_len' (s : ByteArray) : s.data.toList.length = s.size := Array.length_toList
set_option maxRecDepth 100000 in
set_option maxHeartbeats 4000000 in
theorem l01Number_c (s : ByteArray) (w : World) (hs : s.size ≤ 1048576) {x : Int} {b : Bool} (rd : RdR s.data.toList x b) :
    Calls Tryd.prog 30 #[.string s] w fun e w' => e = .returned (.tuple #[.int .i64 x, .bool b]) ∧ Ext w w' := by
  have HR := Lib.hid rd
  clear rd
  by_cases h0 : s.size = 0
  · obtain rfl : s = ⟨#[]⟩ := by
      obtain ⟨⟨l⟩⟩ := s
      cases l with
      | nil => rfl
      | cons x l => simp [ByteArray.size] at h0
    obtain rfl : b = false := by
      cases b
      · rfl
      · have h2 := HR.out.yes rfl
        have h3 := sm_mag h2.2 h2.1
        exact absurd h3.2.1 (by decide)
    obtain ⟨rfl, -⟩ := HR.out.no rfl
    go_enter Tryd.func30, Tryd.ntmps30
    go_wp2_with fail
    go_ret2
    exact ⟨rfl, (by repeat (first | with_reducible exact Ext.refl _ | with_reducible assumption | with_reducible refine Ext.alloc ?_ _ | with_reducible refine Ext.drew ?_ | (with_reducible refine Ext.setAt ?_ _ _ _ ?_; rotate_left; omega) | with_reducible refine Ext.trans ?_ (by assumption) | with_reducible exact Past.bel _ | with_reducible refine Ext.trans ?_ (Past.bel _)))⟩
  · have y0 : ¬ s.toList = [] := fun e => by have e2 := (toList_nil_iff_emptyBytes s).1 e; subst e2; exact h0 (by decide)
    have y1 : s.toList.isEmpty = false := by simpa using y0
    have y3 : (0 : Int) < s.size := by omega
    have y4 : 0 < s.size := by omega
    have hb0 := byte_at y4
    by_cases h45 : s[0] = 45
    · have z1 : s[0].toNat = 45 := by rw [h45]; rfl
      have z2 : ((s[0].toNat : Int) == 45) = true := by rw [z1]; rfl
      have hmag : mag s.data.toList = (s.extract 1 s.size).data.toList := by
        obtain ⟨⟨l⟩⟩ := s
        cases l with
        | nil => simp [ByteArray.size] at h0
        | cons c r =>
          obtain rfl : c = 45 := h45
          rw [mag_cons]; simp [ByteArray.extract_mk, ByteArray.size]
      have hz : (s.extract 1 s.size).size = s.size - 1 := by rw [ByteArray.size_extract]; omega
      have HMM := Lib.hid hmag
      have HZ := Lib.hid hz
      clear hmag hz h45 hb0
      go_enter Tryd.func30, Tryd.ntmps30
      go_upto_region 4 with fail
      generalize hT : s.extract 1 s.size = t at HMM HZ ⊢
      have HM := HMM
      have hts := HZ.out
      clear hT HMM HZ
      by_cases h1 : 1 ≤ t.size ∧ t.size ≤ 18
      · have x1 : ¬ (t.size : Int) < 1 := by omega
        have x2 : ¬ (18 : Int) < (t.size : Int) := by omega
        have x3 : (t.size : Int) < (s.size : Int) := by omega
        go_wp2_with fail
        go_loopw [5, 6] (fun v5 v6 wr => ∃ j acc : Nat, j ≤ t.size ∧ v5 = .int .i64 (acc : Int) ∧ v6 = .int .i64 (j : Int) ∧ Lib.decFrom 0 (t.data.toList.take j) = some acc ∧ Ext w wr) (fun _ v6 _ => t.size - (intOf v6).toNat)
        case atStart => exact ⟨0, 0, by omega, rfl, rfl, by simp [Lib.decFrom], (by repeat (first | with_reducible exact Ext.refl _ | with_reducible assumption | with_reducible refine Ext.alloc ?_ _ | with_reducible refine Ext.drew ?_ | (with_reducible refine Ext.setAt ?_ _ _ _ ?_; rotate_left; omega) | with_reducible refine Ext.trans ?_ (by assumption) | with_reducible exact Past.bel _ | with_reducible refine Ext.trans ?_ (Past.bel _)))⟩
        case round =>
          obtain ⟨j, acc, hj, rfl, rfl, hd, hx⟩ := hrel
          have hb := decFrom_18 hd (by have := ba_len' t; simp; omega)
          have HDF := Lib.hid hd
          have x0 : (0 : Int) ≤ (j : Int) := by omega
          clear hd
          by_cases hlt : j < t.size
          · have x4 : (j : Int) < (t.size : Int) := by omega
            have HBT := Lib.hid (byte_at hlt)
            cases hc : chD t[j].toNat
            · have HC := Lib.hid hc
              clear hc
              obtain rfl : b = false := by
                cases b
                · rfl
                · have h2 := (HR.out.yes rfl)
                  exact absurd (spell HM.out h2.1) (decFrom_bad HBT.out HC.out _)
              obtain ⟨rfl, -⟩ := HR.out.no rfl
              go_wp2_with (go_at_call 52; ((with_reducible refine (l01Digit_c _ _).mono ?_); rintro e w' ⟨rfl, rfl⟩; rw [HC.out]))
              go_ret2
              exact ⟨rfl, hx⟩
            · obtain ⟨hv, b1, b2⟩ := digit_yes hc
              have HC := Lib.hid hc
              have HV := Lib.hid hv
              obtain ⟨D, hD⟩ : ∃ D : Nat, t[j].toNat = 48 + D := ⟨t[j].toNat - 48, by omega⟩
              have hv' : Lib.digitVal t[j] = some D := by rw [hv, hD]; congr 1; omega
              have hst := Lib.decFrom_take _ j 0 acc _ _ HDF.out HBT.out hv'
              have hb4 := decFrom_18 hst (by have := ba_len' t; simp; omega)
              have hD9 : D ≤ 9 := by omega
              have y5 : ((t[j].toNat : Nat) : Int) - 48 = (D : Int) := by omega
              have HST := Lib.hid hst
              have HNC := Lib.hid (num_cast hb4)
              have HNC2 := Lib.hid (show 10 * (acc : Int) + (D : Int) = ((acc * 10 + D : Nat) : Int) from by omega)
              obtain ⟨y1, y2, y3, y4⟩ := num_bounds hb4
              have y6 : IntKind.u8.wrap (D : Int) = (D : Int) := u8_small hD9
              clear hc hv hv' hD hst b1 b2 hb4 hb
              go_wp2_with (go_at_call 52; ((with_reducible refine (l01Digit_c _ _).mono ?_); rintro e w' ⟨rfl, rfl⟩; rw [HC.out]))
              exact ⟨⟨j + 1, acc * 10 + D, by omega, congrArg (Value.int .i64) (by first | exact HNC.out | exact HNC2.out), by go_num, HST.out, (by repeat (first | with_reducible exact Ext.refl _ | with_reducible assumption | with_reducible refine Ext.alloc ?_ _ | with_reducible refine Ext.drew ?_ | (with_reducible refine Ext.setAt ?_ _ _ _ ?_; rotate_left; omega) | with_reducible refine Ext.trans ?_ (by assumption) | with_reducible exact Past.bel _ | with_reducible refine Ext.trans ?_ (Past.bel _)))⟩, by simp [intOf]; omega⟩
          · obtain rfl : j = t.size := by omega
            have x4 : ¬ (t.size : Int) < (t.size : Int) := by omega
            have hfull : Lib.decFrom 0 t.data.toList = some acc := by
              have h9 := HDF.out
              rwa [List.take_of_length_le (by have := ba_len' t; omega)] at h9
            have HF := Lib.hid hfull
            have y1 := IntWalk.i64_in (-(acc : Int)) (by omega)
            have y2 : wrap64 (-(acc : Int)) = -(acc : Int) := IntWalk.wrap64_in _ (by omega)
            obtain ⟨A, hA⟩ : ∃ A, A = Lib.itoa (-(acc : Int)) := ⟨_, rfl⟩
            have HD := Lib.hid (fun (W : World) => (show Calls Tryd.prog 53 #[.int .i64 (-(acc : Int))] W (fun e w' => e = .returned (.string ⟨A.toArray⟩) ∧ Ext W w') from by rw [hA]; exact l01Dec_c _ W (by omega) (by omega)))
            have HA := Lib.hid hA
            clear hfull
            by_cases hq : A = s.data.toList
            · have hq2 : (A == s.toList) = true := by rw [ByteArray.toList_eq]; simpa using hq
              have e1 : Lib.itoa (-(acc : Int)) = s.data.toList := by rw [← hA]; exact hq
              obtain rfl : b = true := by
                cases b
                · exact absurd e1 ((HR.out.no rfl).2 _ ⟨by omega, by omega⟩)
                · rfl
              obtain rfl : x = -(acc : Int) := itoa_inj ((HR.out.yes rfl).1.trans e1.symm)
              clear hq hA e1
              go_wp2_with (go_at_call 53; ((with_reducible refine (HD.out _).mono ?_); rintro e w' ⟨rfl, hx⟩; (first | (obtain ⟨wx, rfl⟩ := Past.again hx) | (obtain ⟨wx, rfl⟩ := Past.ofd hx) | (obtain ⟨wx, rfl⟩ := Past.of hx))))
              go_ret2
              exact ⟨rfl, (by repeat (first | with_reducible exact Ext.refl _ | with_reducible assumption | with_reducible refine Ext.alloc ?_ _ | with_reducible refine Ext.drew ?_ | (with_reducible refine Ext.setAt ?_ _ _ _ ?_; rotate_left; omega) | with_reducible refine Ext.trans ?_ (by assumption) | with_reducible exact Past.bel _ | with_reducible refine Ext.trans ?_ (Past.bel _)))⟩
            · have hq2 : (A == s.toList) = false := by rw [ByteArray.toList_eq]; simpa using hq
              obtain rfl : b = false := by
                cases b
                · rfl
                · have h2 := (HR.out.yes rfl)
                  have h3 := spell HM.out h2.1
                  have h4 : x.natAbs = acc := Option.some.inj ((decFrom_digits _).symm.trans ((congrArg (Lib.decFrom 0) h3).trans HF.out))
                  have h5 := sign_of HM.out h2.1
                  simp only [ba_len'] at h5
                  have h6 : x = -(acc : Int) := by omega
                  exact absurd (by rw [hA, ← h6]; exact h2.1) hq
              obtain ⟨rfl, -⟩ := HR.out.no rfl
              clear hq hA
              go_wp2_with (go_at_call 53; ((with_reducible refine (HD.out _).mono ?_); rintro e w' ⟨rfl, hx⟩; (first | (obtain ⟨wx, rfl⟩ := Past.again hx) | (obtain ⟨wx, rfl⟩ := Past.ofd hx) | (obtain ⟨wx, rfl⟩ := Past.of hx))))
              go_ret2
              exact ⟨rfl, (by repeat (first | with_reducible exact Ext.refl _ | with_reducible assumption | with_reducible refine Ext.alloc ?_ _ | with_reducible refine Ext.drew ?_ | (with_reducible refine Ext.setAt ?_ _ _ _ ?_; rotate_left; omega) | with_reducible refine Ext.trans ?_ (by assumption) | with_reducible exact Past.bel _ | with_reducible refine Ext.trans ?_ (Past.bel _)))⟩
      · obtain rfl : b = false := by
          cases b
          · rfl
          · have h2 := (HR.out.yes rfl)
            have h3 := sm_mag h2.2 h2.1
            rw [HM.out, ba_len'] at h3
            exact absurd h3.2 h1
        obtain ⟨rfl, -⟩ := HR.out.no rfl
        by_cases h2 : t.size < 1
        · have x1 : (t.size : Int) < 1 := by omega
          clear h1 h2
          go_wp2_with fail
          go_ret2
          exact ⟨rfl, (by repeat (first | with_reducible exact Ext.refl _ | with_reducible assumption | with_reducible refine Ext.alloc ?_ _ | with_reducible refine Ext.drew ?_ | (with_reducible refine Ext.setAt ?_ _ _ _ ?_; rotate_left; omega) | with_reducible refine Ext.trans ?_ (by assumption) | with_reducible exact Past.bel _ | with_reducible refine Ext.trans ?_ (Past.bel _)))⟩
        · have x1 : ¬ (t.size : Int) < 1 := by omega
          have x2 : (18 : Int) < (t.size : Int) := by omega
          clear h1 h2
          go_wp2_with fail
          go_ret2
          exact ⟨rfl, (by repeat (first | with_reducible exact Ext.refl _ | with_reducible assumption | with_reducible refine Ext.alloc ?_ _ | with_reducible refine Ext.drew ?_ | (with_reducible refine Ext.setAt ?_ _ _ _ ?_; rotate_left; omega) | with_reducible refine Ext.trans ?_ (by assumption) | with_reducible exact Past.bel _ | with_reducible refine Ext.trans ?_ (Past.bel _)))⟩
    · have z1 : ¬ s[0].toNat = 45 := fun e => h45 (UInt8.toNat.inj (by rw [e]; rfl))
      have z2 : ((s[0].toNat : Int) == 45) = false := by simpa using fun e : (s[0].toNat : Int) = 45 => z1 (by omega)
      have hmag : mag s.data.toList = s.data.toList := by
        obtain ⟨⟨l⟩⟩ := s
        cases l with
        | nil => simp [ByteArray.size] at h0
        | cons c r => exact mag_other h45
      have HM := Lib.hid hmag
      clear hmag h45 hb0
      obtain ⟨t, ht⟩ : ∃ t, t = s := ⟨_, rfl⟩
      go_enter Tryd.func30, Tryd.ntmps30
      go_upto_region 4 with fail
      by_cases h1 : 1 ≤ s.size ∧ s.size ≤ 18
      · have x1 : ¬ (s.size : Int) < 1 := by omega
        have x2 : ¬ (18 : Int) < (s.size : Int) := by omega
        have x3 : ¬ (s.size : Int) < (s.size : Int) := by omega
        go_wp2_with fail
        go_loopw [5, 6] (fun v5 v6 wr => ∃ j acc : Nat, j ≤ s.size ∧ v5 = .int .i64 (acc : Int) ∧ v6 = .int .i64 (j : Int) ∧ Lib.decFrom 0 (s.data.toList.take j) = some acc ∧ Ext w wr) (fun _ v6 _ => s.size - (intOf v6).toNat)
        case atStart => exact ⟨0, 0, by omega, rfl, rfl, by simp [Lib.decFrom], (by repeat (first | with_reducible exact Ext.refl _ | with_reducible assumption | with_reducible refine Ext.alloc ?_ _ | with_reducible refine Ext.drew ?_ | (with_reducible refine Ext.setAt ?_ _ _ _ ?_; rotate_left; omega) | with_reducible refine Ext.trans ?_ (by assumption) | with_reducible exact Past.bel _ | with_reducible refine Ext.trans ?_ (Past.bel _)))⟩
        case round =>
          obtain ⟨j, acc, hj, rfl, rfl, hd, hx⟩ := hrel
          have hb := decFrom_18 hd (by have := ba_len' s; simp; omega)
          have HDF := Lib.hid hd
          have x0 : (0 : Int) ≤ (j : Int) := by omega
          clear hd
          by_cases hlt : j < s.size
          · have x4 : (j : Int) < (s.size : Int) := by omega
            have HBT := Lib.hid (byte_at hlt)
            cases hc : chD s[j].toNat
            · have HC := Lib.hid hc
              clear hc
              obtain rfl : b = false := by
                cases b
                · rfl
                · have h2 := (HR.out.yes rfl)
                  exact absurd (spell HM.out h2.1) (decFrom_bad HBT.out HC.out _)
              obtain ⟨rfl, -⟩ := HR.out.no rfl
              go_wp2_with (go_at_call 52; ((with_reducible refine (l01Digit_c _ _).mono ?_); rintro e w' ⟨rfl, rfl⟩; rw [HC.out]))
              go_ret2
              exact ⟨rfl, hx⟩
            · obtain ⟨hv, b1, b2⟩ := digit_yes hc
              have HC := Lib.hid hc
              have HV := Lib.hid hv
              obtain ⟨D, hD⟩ : ∃ D : Nat, s[j].toNat = 48 + D := ⟨s[j].toNat - 48, by omega⟩
              have hv' : Lib.digitVal s[j] = some D := by rw [hv, hD]; congr 1; omega
              have hst := Lib.decFrom_take _ j 0 acc _ _ HDF.out HBT.out hv'
              have hb4 := decFrom_18 hst (by have := ba_len' s; simp; omega)
              have hD9 : D ≤ 9 := by omega
              have y5 : ((s[j].toNat : Nat) : Int) - 48 = (D : Int) := by omega
              have HST := Lib.hid hst
              have HNC := Lib.hid (num_cast hb4)
              have HNC2 := Lib.hid (show 10 * (acc : Int) + (D : Int) = ((acc * 10 + D : Nat) : Int) from by omega)
              obtain ⟨y1, y2, y3, y4⟩ := num_bounds hb4
              have y6 : IntKind.u8.wrap (D : Int) = (D : Int) := u8_small hD9
              clear hc hv hv' hD hst b1 b2 hb4 hb
              go_wp2_with (go_at_call 52; ((with_reducible refine (l01Digit_c _ _).mono ?_); rintro e w' ⟨rfl, rfl⟩; rw [HC.out]))
              exact ⟨⟨j + 1, acc * 10 + D, by omega, congrArg (Value.int .i64) (by first | exact HNC.out | exact HNC2.out), by go_num, HST.out, (by repeat (first | with_reducible exact Ext.refl _ | with_reducible assumption | with_reducible refine Ext.alloc ?_ _ | with_reducible refine Ext.drew ?_ | (with_reducible refine Ext.setAt ?_ _ _ _ ?_; rotate_left; omega) | with_reducible refine Ext.trans ?_ (by assumption) | with_reducible exact Past.bel _ | with_reducible refine Ext.trans ?_ (Past.bel _)))⟩, by simp [intOf]; omega⟩
          · obtain rfl : j = s.size := by omega
            have x4 : ¬ (s.size : Int) < (s.size : Int) := by omega
            have hfull : Lib.decFrom 0 s.data.toList = some acc := by
              have h9 := HDF.out
              rwa [List.take_of_length_le (by have := ba_len' s; omega)] at h9
            have HF := Lib.hid hfull
            have y1 := IntWalk.i64_in ((acc : Int)) (by omega)
            have y2 : wrap64 ((acc : Int)) = (acc : Int) := IntWalk.wrap64_in _ (by omega)
            obtain ⟨A, hA⟩ : ∃ A, A = Lib.itoa ((acc : Int)) := ⟨_, rfl⟩
            have HD := Lib.hid (fun (W : World) => (show Calls Tryd.prog 53 #[.int .i64 ((acc : Int))] W (fun e w' => e = .returned (.string ⟨A.toArray⟩) ∧ Ext W w') from by rw [hA]; exact l01Dec_c _ W (by omega) (by omega)))
            have HA := Lib.hid hA
            clear hfull
            by_cases hq : A = s.data.toList
            · have hq2 : (A == s.toList) = true := by rw [ByteArray.toList_eq]; simpa using hq
              have e1 : Lib.itoa ((acc : Int)) = s.data.toList := by rw [← hA]; exact hq
              obtain rfl : b = true := by
                cases b
                · exact absurd e1 ((HR.out.no rfl).2 _ ⟨by omega, by omega⟩)
                · rfl
              obtain rfl : x = (acc : Int) := itoa_inj ((HR.out.yes rfl).1.trans e1.symm)
              clear hq hA e1
              go_wp2_with (go_at_call 53; ((with_reducible refine (HD.out _).mono ?_); rintro e w' ⟨rfl, hx⟩; (first | (obtain ⟨wx, rfl⟩ := Past.again hx) | (obtain ⟨wx, rfl⟩ := Past.ofd hx) | (obtain ⟨wx, rfl⟩ := Past.of hx))))
              go_ret2
              exact ⟨rfl, (by repeat (first | with_reducible exact Ext.refl _ | with_reducible assumption | with_reducible refine Ext.alloc ?_ _ | with_reducible refine Ext.drew ?_ | (with_reducible refine Ext.setAt ?_ _ _ _ ?_; rotate_left; omega) | with_reducible refine Ext.trans ?_ (by assumption) | with_reducible exact Past.bel _ | with_reducible refine Ext.trans ?_ (Past.bel _)))⟩
            · have hq2 : (A == s.toList) = false := by rw [ByteArray.toList_eq]; simpa using hq
              obtain rfl : b = false := by
                cases b
                · rfl
                · have h2 := (HR.out.yes rfl)
                  have h3 := spell HM.out h2.1
                  have h4 : x.natAbs = acc := Option.some.inj ((decFrom_digits _).symm.trans ((congrArg (Lib.decFrom 0) h3).trans HF.out))
                  have h5 := sign_of HM.out h2.1
                  simp only [ba_len'] at h5
                  have h6 : x = (acc : Int) := by omega
                  exact absurd (by rw [hA, ← h6]; exact h2.1) hq
              obtain ⟨rfl, -⟩ := HR.out.no rfl
              clear hq hA
              go_wp2_with (go_at_call 53; ((with_reducible refine (HD.out _).mono ?_); rintro e w' ⟨rfl, hx⟩; (first | (obtain ⟨wx, rfl⟩ := Past.again hx) | (obtain ⟨wx, rfl⟩ := Past.ofd hx) | (obtain ⟨wx, rfl⟩ := Past.of hx))))
              go_ret2
              exact ⟨rfl, (by repeat (first | with_reducible exact Ext.refl _ | with_reducible assumption | with_reducible refine Ext.alloc ?_ _ | with_reducible refine Ext.drew ?_ | (with_reducible refine Ext.setAt ?_ _ _ _ ?_; rotate_left; omega) | with_reducible refine Ext.trans ?_ (by assumption) | with_reducible exact Past.bel _ | with_reducible refine Ext.trans ?_ (Past.bel _)))⟩
      · obtain rfl : b = false := by
          cases b
          · rfl
          · have h2 := (HR.out.yes rfl)
            have h3 := sm_mag h2.2 h2.1
            rw [HM.out, ba_len'] at h3
            exact absurd h3.2 h1
        obtain ⟨rfl, -⟩ := HR.out.no rfl
        by_cases h2 : s.size < 1
        · have x1 : (s.size : Int) < 1 := by omega
          clear h1 h2
          go_wp2_with fail
          go_ret2
          exact ⟨rfl, (by repeat (first | with_reducible exact Ext.refl _ | with_reducible assumption | with_reducible refine Ext.alloc ?_ _ | with_reducible refine Ext.drew ?_ | (with_reducible refine Ext.setAt ?_ _ _ _ ?_; rotate_left; omega) | with_reducible refine Ext.trans ?_ (by assumption) | with_reducible exact Past.bel _ | with_reducible refine Ext.trans ?_ (Past.bel _)))⟩
        · have x1 : ¬ (s.size : Int) < 1 := by omega
          have x2 : (18 : Int) < (s.size : Int) := by omega
          clear h1 h2
          go_wp2_with fail
          go_ret2
          exact ⟨rfl, (by repeat (first | with_reducible exact Ext.refl _ | with_reducible assumption | with_reducible refine Ext.alloc ?_ _ | with_reducible refine Ext.drew ?_ | (with_reducible refine Ext.setAt ?_ _ _ _ ?_; rotate_left; omega) | with_reducible refine Ext.trans ?_ (by assumption) | with_reducible exact Past.bel _ | with_reducible refine Ext.trans ?_ (Past.bel _)))⟩
end Go.Proofs.YtpohhnihgegmfaaDoor

namespace Go.Proofs.YtpohhnihgegmfaaDoor
set_option linter.unusedVariables false
def eq1To (f g : Nat → Int) : Nat → Bool
  | 0 => true
  | k + 1 => eq1To f g k && (f k == g k)
theorem eq1To_ff {f g : Nat → Int} {k n : Nat} (hk : k < n) (hh : f k ≠ g k) : eq1To f g n = false := by
  induction n with
  | zero => omega
  | succ n ih =>
    by_cases e : k = n
    · subst e; simp [eq1To, hh]
    · simp only [eq1To, ih (by omega), Bool.false_and]
theorem eq1To_self {f : Nat → Int} {n : Nat} : eq1To f f n = true := by
  induction n with
  | zero => rfl
  | succ n ih => simp [eq1To, ih]
/-- the first k notches of a cam are valid -/
def camTo (z : Nat → Int) : Nat → Bool
  | 0 => true
  | k + 1 => camTo z k && inB (z k) 1 60
theorem camTo_ff {z : Nat → Int} {k n : Nat} (hk : k < n) (hh : inB (z k) 1 60 = false) : camTo z n = false := by
  induction n with
  | zero => omega
  | succ n ih =>
    by_cases e : k = n
    · subst e; simp only [camTo, hh, Bool.and_false]
    · simp only [camTo, ih (by omega), Bool.false_and]
theorem camTo_at {z : Nat → Int} {k n : Nat} (h : camTo z n = true) (hk : k < n) : inB (z k) 1 60 = true := by
  induction n with
  | zero => omega
  | succ n ih =>
    simp only [camTo, Bool.and_eq_true] at h
    by_cases e : k = n
    · subst e; exact h.2
    · exact ih h.1 (by omega)
def camV (n : Nat) (z : Nat → Int) : Bool := camTo z n && inB (n : Int) 1 260
theorem camV_ff {z : Nat → Int} {k n : Nat} (hk : k < n) (hh : inB (z k) 1 60 = false) : false = camV n z := by rw [camV, camTo_ff hk hh]; rfl
end Go.Proofs.YtpohhnihgegmfaaDoor

namespace Go.Proofs.YtpohhnihgegmfaaDoor
open Go.RowKit
set_option linter.unusedVariables false
set_option linter.unusedSimpArgs false

end Go.Proofs.YtpohhnihgegmfaaDoor

namespace Go.Proofs.YtpohhnihgegmfaaDoor
open Go.RowKit
set_option linter.unusedVariables false
set_option linter.unusedSimpArgs false

def ctx (n : Nat) (z : Nat → Int) : List UInt8 := if camV n z then txt z n else []
structure CamB (n : Nat) (z : Nat → Int) : Prop where
  n1 : 1 ≤ n
  n2 : n ≤ 260
  b : ∀ j, j < n → 1 ≤ z j ∧ z j ≤ 60
theorem camB_of {n : Nat} {z : Nat → Int} (h : camV n z = true) : CamB n z := by
  rw [camV, Bool.and_eq_true] at h
  have := inB_t.1 h.2
  exact ⟨by omega, by omega, fun j hj => inB_t.1 (camTo_at h.1 hj)⟩
/-- the words -/
def wds (z : Nat → Int) : Nat → List ByteArray
  | 0 => []
  | j + 1 => wds z j ++ [⟨(Lib.itoa (z j)).toArray⟩]
theorem wds_len (z : Nat → Int) (n : Nat) : (wds z n).length = n := by
  induction n with
  | zero => rfl
  | succ n ih => simp [wds, ih]
theorem wds_txt (z : Nat → Int) (n : Nat) : Lib.join ((wds z (n + 1)).map (·.data.toList)) [32] = txt z (n + 1) := by
  induction n with
  | zero => rw [txt_one]; exact Lib.join_one _ _
  | succ n ih =>
    rw [txt_app z (by omega), ← ih]
    obtain ⟨x, r, hx⟩ : ∃ x r, (wds z (n + 1)).map (·.data.toList) = x :: r := by
      cases h : (wds z (n + 1)).map (·.data.toList) with
      | nil => have := wds_len z (n + 1); have h2 := congrArg List.length h; simp [this] at h2
      | cons x r => exact ⟨x, r, rfl⟩
    have e1 : (wds z (n + 1 + 1)).map (·.data.toList) = x :: (r ++ [Lib.itoa (z (n + 1))]) := by
      rw [wds, List.map_append, hx]; simp
    rw [e1, hx, Lib.join_cons, Lib.join_cons]
    simp [Lib.joinTail, List.append_assoc]
theorem info_str : (Tryd.prog.info? 9).map (fun i => (i.zero, i.size, i.bytes)) = some (some (.string ⟨#[]⟩), 1, 16) := by kernel_rfl
/-- 'own = append(own, s)' of texts -/
theorem appt {P : Program} {w : World} {ops : Array Oper} {rest : List Oper} {o : Oper} {A : Act} {Q : Exit → Act → World → Prop} (t e : TypeId) (s x : Operand)
    (hop : o.op = .call { callee := .builtin .append, args := #[s, x], argTypes := #[t, t] }) (hgd : o.guard = none)
    (ht : P.underlying t = some (.slice e)) (hinfo : (P.info? e).map (fun i => (i.zero, i.size, i.bytes)) = some (some (.string ⟨#[]⟩), 1, 16))
    (B : Nat) (v : Value) (n : Nat) (l : List Value) (u : ByteArray) (g : Nat) (hs : A.eval s = v) (hx : A.eval x = .slice (some ⟨g, 0, none⟩) 1 1) (hown : w.ownsRow B e 1 v n l)
    (hc : w.cell? ⟨g, 0, none⟩ = some (.string u)) (hl : n ≤ 1048576) (h0 : B ≤ w.heap.size)
    (hK : ∀ v' w', w'.ownsRow B e 1 v' (n + 1) (l ++ [.string u]) → w.grownBy w' v.ownBlock → wpList P ops Q rest (A.put o.dst v') w') : wpList P ops Q (o :: rest) A w := by
  obtain ⟨i, hi, hz', hsz, hb⟩ := info_parts hinfo
  refine wpList_append_own (P := P) w hgd s x t hop B e i _ 1 16 ht hi hz' hsz hb rfl (by decide) v n l hs hown ⟨g, 0, none⟩ 1 1 [.string u] hx rfl ?_ ?_ (by unfold maxLen; omega) (by omega) h0 ?_
  · intro j z hz
    cases j with
    | zero => simp at hz; subst hz; simpa [Addr.add] using hc
    | succ j => simp at hz
  · intro z hz
    simp at hz; subst hz; rfl
  · intro v' w' h1 h2 _
    exact hK v' w' h1 h2
end Go.Proofs.YtpohhnihgegmfaaDoor

namespace Go.Proofs.YtpohhnihgegmfaaDoor
open Go.RowKit
set_option linter.unusedVariables false
set_option linter.unusedSimpArgs false

theorem extr (s : ByteArray) (a b : Nat) : (s.extract a b).data.toList = (s.data.toList.drop a).take (b - a) := by
  obtain ⟨⟨l⟩⟩ := s
  rw [ByteArray.extract_mk]; first | simp | skip
/-- parts of a text -/
def Parts (c : UInt8) (s : ByteArray) (Ps : List ByteArray) : Prop := Ps.map (·.data.toList) = splitL c s.data.toList
theorem Parts.sz {c : UInt8} {s : ByteArray} {Ps : List ByteArray} (h : Parts c s Ps) : 1 ≤ Ps.length := by
  have h1 := congrArg List.length h
  rw [List.length_map] at h1
  have h2 := List.length_pos_iff.2 (splitL_ne c s.data.toList)
  omega
theorem Parts.len {c : UInt8} {s : ByteArray} {Ps Qs : List ByteArray} (h : Parts c s Ps) (k : Parts c s Qs) : Ps = Qs := by
  have e : Ps.map (·.data.toList) = Qs.map (·.data.toList) := h.trans k.symm
  have hi : ∀ (a b : ByteArray), a.data.toList = b.data.toList → a = b := fun a b e => by apply ByteArray.ext; exact Array.toList_inj.1 e
  clear h k
  induction Ps generalizing Qs with
  | nil => cases Qs with
    | nil => rfl
    | cons q qs => cases e
  | cons p ps ih => cases Qs with
    | nil => cases e
    | cons q qs =>
      rw [List.map_cons, List.map_cons] at e
      injection e with e1 e2
      rw [hi _ _ e1, ih e2]
theorem splitI_c (s : ByteArray) (c : UInt8) (w : World) (hs : s.size ≤ 1048576) (hg : Gl w) :
    Calls Tryd.prog 14 #[.string s, .string ⟨#[c]⟩] w fun e w' => ∃ (Ps : List ByteArray) (g : Nat), e = .returned (.slice (some ⟨g, 0, none⟩) Ps.length Ps.length) ∧ Ext w w' ∧ Blk w' g 9 (Ps.map Value.string).toArray ∧ Parts c s Ps := by
  obtain ⟨m, hm⟩ := hg.ml
  refine (Tryd.strings_Split s ⟨#[c]⟩ m w (by omega) (hm w (Ext.refl _)) (Nat.le_refl 1)).mono ?_
  rintro e w' ⟨rfl, rfl⟩
  have hlen := Lib.splitB_all ⟨#[c]⟩ (Nat.le_refl 1) 0 _ s rfl
  refine ⟨Lib.splitB ⟨#[c]⟩ 0 (Lib.countB s ⟨#[c]⟩) s, w.heap.size, by rw [hlen], (Ext.refl w).alloc _, Blk.new _ _ _, splitB_eq c s⟩
theorem drop_hit {l : List UInt8} {fr i : Nat} {c : UInt8} (h : l[i]? = some c) (hf : fr ≤ i) : l.drop fr = (l.drop fr).take (i - fr) ++ c :: l.drop (i + 1) := by
  have h1 : i < l.length := (List.getElem?_eq_some_iff.1 h).1
  have h2 : (l.drop fr).drop (i - fr) = c :: l.drop (i + 1) := by
    rw [List.drop_drop, show fr + (i - fr) = i by omega, List.drop_eq_getElem_cons h1]
    rw [(List.getElem?_eq_some_iff.1 h).2]
  rw [← h2, List.take_append_drop]
set_option maxRecDepth 100000 in
set_option maxHeartbeats 4000000 in
theorem l01Split_c (s : ByteArray) (c : UInt8) (w : World) (hs : s.size ≤ 1048576) :
    Calls Tryd.prog 17 #[.string s, .int .u8 (c.toNat : Nat)] w fun e w' => ∃ (Ps : List ByteArray) (a : Option Addr) (cap : Nat), e = .returned (.slice a Ps.length cap) ∧ Ext w w' ∧ w'.ownsRow w.heap.size 9 1 (.slice a Ps.length cap) Ps.length (Ps.map Value.string) ∧ Parts c s Ps := by
  go_enter Tryd.func17, Tryd.ntmps17
  go_wp2_with fail
  go_loopw [5, 6, 7] (fun v5 v6 v7 wr => ∃ (i fr : Nat) (Ps : List ByteArray), v6 = .int .i64 (fr : Int) ∧ v7 = .int .i64 (i : Int) ∧ fr ≤ i ∧ i ≤ s.size ∧ Ps.length ≤ i ∧ wr.ownsRow w.heap.size 9 1 v5 Ps.length (Ps.map Value.string) ∧ splitL c s.data.toList = Ps.map (·.data.toList) ++ splitL c (s.data.toList.drop fr) ∧ c ∉ (s.data.toList.drop fr).take (i - fr) ∧ Ext w wr) (fun _ _ v7 _ => s.size - (intOf v7).toNat)
  case atStart => exact ⟨0, 0, [], rfl, rfl, by omega, by omega, by simp, World.ownsRow_made _ #[] 0 (Nat.le_refl _) (Nat.zero_le _) rfl, by simp, by simp, (by repeat (first | with_reducible exact Ext.refl _ | with_reducible assumption | with_reducible refine Ext.alloc ?_ _ | with_reducible refine Ext.drew ?_ | (with_reducible refine Ext.setAt ?_ _ _ _ ?_; rotate_left; omega) | with_reducible refine Ext.trans ?_ (by assumption) | with_reducible exact Past.bel _ | with_reducible refine Ext.trans ?_ (Past.bel _)))⟩
  case round =>
    obtain ⟨i, fr, Ps, rfl, rfl, hf, hi, hp, ho, hsp, hno, hx⟩ := hrel
    have HO := Lib.hid ho
    have HSP := Lib.hid hsp
    have HNO := Lib.hid hno
    have x0 : (0 : Int) ≤ (i : Int) := by omega
    have x5 : (fr : Int) ≤ (i : Int) := by omega
    have x6 : (0 : Int) ≤ (fr : Int) := by omega
    have hsz := hx.size
    clear ho hsp hno
    by_cases hlt : i < s.size
    · have x1 : (i : Int) < (s.size : Int) := by omega
      have x7 : (i : Int) ≤ (s.size : Int) := by omega
      have HB := Lib.hid (byte_at hlt)
      by_cases hc : s[i] = c
      · have z1 : ((s[i].toNat : Int) == (c.toNat : Int)) = true := by rw [hc]; simp
        have HC := Lib.hid hc
        clear hc
        go_wp2_with (at_builtin; refine appt 36 9 _ _ rfl rfl Tryd.underlying36 info_str w.heap.size _ Ps.length (Ps.map Value.string) (s.extract fr i) _ rfl rfl (own_ext HO.out (by repeat (first | with_reducible exact Ext.refl _ | with_reducible assumption | with_reducible refine Ext.alloc ?_ _ | with_reducible refine Ext.drew ?_ | (with_reducible refine Ext.setAt ?_ _ _ _ ?_; rotate_left; omega) | with_reducible refine Ext.trans ?_ (by assumption) | with_reducible exact Past.bel _ | with_reducible refine Ext.trans ?_ (Past.bel _)))) (by simp [go_sem]) (by omega) (Ext.size (by repeat (first | with_reducible exact Ext.refl _ | with_reducible assumption | with_reducible refine Ext.alloc ?_ _ | with_reducible refine Ext.drew ?_ | (with_reducible refine Ext.setAt ?_ _ _ _ ?_; rotate_left; omega) | with_reducible refine Ext.trans ?_ (by assumption) | with_reducible exact Past.bel _ | with_reducible refine Ext.trans ?_ (Past.bel _)))) ?_; intro v6 w6 s6 s7)
        have hx6 : Ext w w6 := by
          refine Ext.grown ?_ s7 (fun q hq => (HO.out.lt q hq).1)
          ((repeat (first | with_reducible exact Ext.refl _ | with_reducible assumption | with_reducible refine Ext.alloc ?_ _ | with_reducible refine Ext.drew ?_ | (with_reducible refine Ext.setAt ?_ _ _ _ ?_; rotate_left; omega) | with_reducible refine Ext.trans ?_ (by assumption) | with_reducible exact Past.bel _ | with_reducible refine Ext.trans ?_ (Past.bel _))); done)
        refine ⟨⟨i + 1, i + 1, Ps ++ [s.extract fr i], by go_num, by go_num, by omega, by omega, by simp; omega, by simpa using s6, ?_, by simp, hx6⟩, by simp [intOf]; omega⟩
        have hh := HB.out
        rw [HC.out] at hh
        rw [HSP.out, List.map_append, List.append_assoc]
        congr 1
        have h9 := drop_hit hh hf
        have h10 := splitL_app c _ (s.data.toList.drop (i + 1)) HNO.out
        rw [← h9] at h10
        rw [h10]; simp [extr]
      · have z1 : ((s[i].toNat : Int) == (c.toNat : Int)) = false := by
          rw [beq_eq_false_iff_ne]; exact fun e => hc (UInt8.toNat.inj (by omega))
        have HC := Lib.hid hc
        clear hc
        go_wp2_with fail
        refine ⟨⟨i + 1, fr, Ps, rfl, by go_num, by omega, by omega, by omega, HO.out, HSP.out, ?_, (by repeat (first | with_reducible exact Ext.refl _ | with_reducible assumption | with_reducible refine Ext.alloc ?_ _ | with_reducible refine Ext.drew ?_ | (with_reducible refine Ext.setAt ?_ _ _ _ ?_; rotate_left; omega) | with_reducible refine Ext.trans ?_ (by assumption) | with_reducible exact Past.bel _ | with_reducible refine Ext.trans ?_ (Past.bel _)))⟩, by simp [intOf]; omega⟩
        have hh := HB.out
        have h9 : (s.data.toList.drop fr)[i - fr]? = some s[i] := by rw [List.getElem?_drop, show fr + (i - fr) = i by omega]; exact hh
        rw [show i + 1 - fr = (i - fr) + 1 by omega, List.take_add_one, h9]
        simp only [List.mem_append, not_or]
        exact ⟨HNO.out, by simpa using fun e => HC.out e.symm⟩
    · obtain rfl : i = s.size := by omega
      have x1 : ¬ (s.size : Int) < (s.size : Int) := by omega
      go_wp2_with (at_builtin; refine appt 36 9 _ _ rfl rfl Tryd.underlying36 info_str w.heap.size _ Ps.length (Ps.map Value.string) (s.extract fr s.size) _ rfl rfl (own_ext HO.out (by repeat (first | with_reducible exact Ext.refl _ | with_reducible assumption | with_reducible refine Ext.alloc ?_ _ | with_reducible refine Ext.drew ?_ | (with_reducible refine Ext.setAt ?_ _ _ _ ?_; rotate_left; omega) | with_reducible refine Ext.trans ?_ (by assumption) | with_reducible exact Past.bel _ | with_reducible refine Ext.trans ?_ (Past.bel _)))) (by simp [go_sem]) (by omega) (Ext.size (by repeat (first | with_reducible exact Ext.refl _ | with_reducible assumption | with_reducible refine Ext.alloc ?_ _ | with_reducible refine Ext.drew ?_ | (with_reducible refine Ext.setAt ?_ _ _ _ ?_; rotate_left; omega) | with_reducible refine Ext.trans ?_ (by assumption) | with_reducible exact Past.bel _ | with_reducible refine Ext.trans ?_ (Past.bel _)))) ?_; intro v6 w6 s6 s7)
      have hx6 : Ext w w6 := by
        refine Ext.grown ?_ s7 (fun q hq => (HO.out.lt q hq).1)
        ((repeat (first | with_reducible exact Ext.refl _ | with_reducible assumption | with_reducible refine Ext.alloc ?_ _ | with_reducible refine Ext.drew ?_ | (with_reducible refine Ext.setAt ?_ _ _ _ ?_; rotate_left; omega) | with_reducible refine Ext.trans ?_ (by assumption) | with_reducible exact Past.bel _ | with_reducible refine Ext.trans ?_ (Past.bel _))); done)
      obtain ⟨b6, c6, rfl⟩ := own_form s6
      go_ret
      refine ⟨Ps ++ [s.extract fr s.size], b6, c6, by simp, hx6, by simpa using s6, ?_⟩
      rw [Parts, HSP.out, List.map_append]
      congr 1
      have hl : s.data.toList.length = s.size := ba_len' s
      have h9 : (s.data.toList.drop fr).take (s.size - fr) = s.data.toList.drop fr := List.take_of_length_le (by rw [List.length_drop]; omega)
      have h10 := HNO.out
      rw [h9] at h10
      rw [splitL_one c _ h10]; simp [extr, h9]
end Go.Proofs.YtpohhnihgegmfaaDoor

namespace Go.Proofs.YtpohhnihgegmfaaDoor
open Go.RowKit
set_option linter.unusedVariables false
set_option linter.unusedSimpArgs false

theorem wordsOf_c (s : ByteArray) (w : World) (hs : s.size ≤ 1048576) (hg : Gl w) :
    Calls Tryd.prog 21 #[.string s] w fun e w' => ∃ (Ps : List ByteArray) (g : Nat), e = .returned (.slice (some ⟨g, 0, none⟩) Ps.length Ps.length) ∧ Ext w w' ∧ Blk w' g 9 (Ps.map Value.string).toArray ∧ Parts 32 s Ps := by
  have HG := Lib.hid hg
  clear hg
  go_enter Tryd.func21, Tryd.ntmps21
  go_wp2_with fail
  refine (splitI_c s 32 _ hs HG.out).mono ?_
  rintro e w1 ⟨Ps, g, rfl, hx1, kb, hp⟩
  go_wp2_with fail
  go_ret
  exact ⟨Ps, g, rfl, hx1, kb, hp⟩
theorem suf_yes {l t : List UInt8} (h : l = t ++ [10]) : Lib.hasSuffix l [10] = true ∧ Lib.trimSuffix l [10] = t := by
  subst h
  constructor <;> simp [Lib.hasSuffix, Lib.trimSuffix]
theorem suf_no {l : List UInt8} (h : ∀ t, l ≠ t ++ [10]) : Lib.hasSuffix l [10] = false := by
  rcases List.eq_nil_or_concat l with rfl | ⟨A, a, rfl⟩
  · simp [Lib.hasSuffix]
  · rw [List.concat_eq_append] at h ⊢
    have : a ≠ 10 := fun e => h A (by rw [e])
    have h2 : ((10 : UInt8) == a) = false := by rw [beq_eq_false_iff_ne]; exact fun e => this e.symm
    simp [Lib.hasSuffix, List.isSuffixOf, List.isPrefixOf, h2]
theorem linesOf_0 (w : World) : Calls Tryd.prog 19 #[.string ⟨#[]⟩] w fun e w' => e = .returned (.tuple #[.slice none 0 0, .bool true]) ∧ Ext w w' := by
  go_enter Tryd.func19, Tryd.ntmps19
  go_wp2_with fail
  go_ret2
  exact ⟨rfl, Ext.refl _⟩
theorem linesOf_no (s : ByteArray) (w : World) (hs : s.size ≤ 1048576) (h0 : s.data.toList ≠ []) (h : ∀ t, s.data.toList ≠ t ++ [10]) :
    Calls Tryd.prog 19 #[.string s] w fun e w' => e = .returned (.tuple #[.slice none 0 0, .bool false]) ∧ Ext w w' := by
  obtain ⟨b, hb⟩ : ∃ b, b = Lib.hasSuffix s.data.toList [10] := ⟨_, rfl⟩
  have HS := Lib.hid (fun W => (hb ▸ Tryd.strings_HasSuffix s ⟨#[10]⟩ W (by omega) : Calls Tryd.prog 40 #[.string s, .string ⟨#[10]⟩] W fun e w' => e = .returned (.bool b) ∧ w' = W))
  obtain rfl : b = false := by rw [hb]; exact suf_no h
  have z1 : (s.toList == []) = false := by rw [ByteArray.toList_eq]; simpa using h0
  clear hb h h0
  go_enter Tryd.func19, Tryd.ntmps19
  go_wp2_with fail
  refine (HS.out _).mono ?_
  rintro e w1 ⟨rfl, rfl⟩
  go_wp2_with fail
  go_ret2
  exact ⟨rfl, Ext.refl _⟩
theorem linesOf_yes (s : ByteArray) (t : List UInt8) (w : World) (hs : s.size ≤ 1048576) (h : s.data.toList = t ++ [10]) (hg : Gl w) :
    Calls Tryd.prog 19 #[.string s] w fun e w' => ∃ (Ps : List ByteArray) (g : Nat), e = .returned (.tuple #[.slice (some ⟨g, 0, none⟩) Ps.length Ps.length, .bool true]) ∧ Ext w w' ∧ Blk w' g 9 (Ps.map Value.string).toArray ∧ Ps.map (·.data.toList) = splitL 10 t := by
  have HG := Lib.hid hg
  have q := suf_yes h
  have HS := Lib.hid (fun W => (q.1 ▸ Tryd.strings_HasSuffix s ⟨#[10]⟩ W (by omega) : Calls Tryd.prog 40 #[.string s, .string ⟨#[10]⟩] W fun e w' => e = .returned (.bool true) ∧ w' = W))
  have HT := Lib.hid (fun W => (q.2 ▸ Tryd.strings_TrimSuffix s ⟨#[10]⟩ W (by omega) : Calls Tryd.prog 41 #[.string s, .string ⟨#[10]⟩] W fun e w' => e = .returned (.string ⟨t.toArray⟩) ∧ w' = W))
  have hl : t.length + 1 = s.size := by
    have := congrArg List.length h
    rw [List.length_append, ba_len] at this; simpa using this.symm
  have z1 : (s.toList == []) = false := by rw [ByteArray.toList_eq, h]; simp
  have HSP := Lib.hid (fun W hW => splitI_c ⟨t.toArray⟩ 10 W (by simp only [ByteArray.size, List.size_toArray]; omega) hW)
  clear q h hl hg
  go_enter Tryd.func19, Tryd.ntmps19
  go_wp2_with fail
  refine (HS.out _).mono ?_
  rintro e w1 ⟨rfl, rfl⟩
  go_wp2_with fail
  refine (HT.out _).mono ?_
  rintro e w1 ⟨rfl, rfl⟩
  go_wp2_with fail
  refine (HSP.out _ HG.out).mono ?_
  rintro e w1 ⟨Ps, g, rfl, hx1, kb, hp⟩
  go_wp2_with fail
  go_ret2
  exact ⟨Ps, g, rfl, hx1, kb, hp⟩
end Go.Proofs.YtpohhnihgegmfaaDoor
