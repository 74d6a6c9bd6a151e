/- Texts of lists of numbers, of faults. Calendars: rules, leap years, cycles. No program in sight. Calendars: days of years and months, numbers of days. No program in sight. Comparisons of dates. No program in sight. Dates compared. Lists of numbers compared; cams. No program in sight. Cams: checked. Cams' texts. Cams' texts: the program's; the law. What the cards' listed variables give the walks. What arguments of plain data hold: slices of mixed structs, slices of numbers. No program in sight. -/
import Derived.Test.YtppphpnimecgpaaDoorBa
import Derived.Test.YtppphpnimecgpaaDoorProg
import Derived.ProofKit
import Derived.Deep.DeepCutAuto
import Derived.Lib.Join
import Derived.Test.YtppphpnimecgpaaDoorRows
import Derived.LaidMore
import Derived.OpenShut
import Derived.Stop.Joined
import Derived.Lib.LaidTab

namespace Go.Proofs.YtppphpnimecgpaaDoor
open Go.RowKit
set_option linter.unusedVariables false
set_option linter.unusedSimpArgs false

theorem itoa_len (n : Int) (h0 : -9223372036854775808 ≤ n) (h1 : n ≤ 9223372036854775807) : (Lib.itoa n).length ≤ 20 := by
  by_cases h : n = 0
  · rw [h, itoa_zero]; decide
  · by_cases hn : n < 0
    · obtain ⟨u, hu⟩ : ∃ u : Nat, n = -(u : Int) := ⟨n.natAbs, by omega⟩
      rw [hu, itoa_neg (by omega)]
      have := digs_len 19 u (by omega)
      simp; omega
    · obtain ⟨u, hu⟩ : ∃ u : Nat, n = (u : Int) := ⟨n.natAbs, by omega⟩
      rw [hu, itoa_pos (by omega)]
      have := digs_len 19 u (by omega)
      omega
/-- numbers with a blank between -/
def txt (f : Nat → Int) : Nat → List UInt8
  | 0 => []
  | j + 1 => (if j = 0 then [] else txt f j ++ [32]) ++ Lib.itoa (f j)
theorem txt_len {f : Nat → Int} {n : Nat} (h : ∀ j, j < n → -9223372036854775808 ≤ f j ∧ f j ≤ 9223372036854775807) : (txt f n).length ≤ 21 * n := by
  induction n with
  | zero => simp [txt]
  | succ n ih =>
    have h1 := ih (fun j hj => h j (by omega))
    have h2 := itoa_len (f n) (h n (by omega)).1 (h n (by omega)).2
    rw [txt]
    split
    · simp; omega
    · simp; omega
theorem txt_app (f : Nat → Int) {j : Nat} (h : 0 < j) : txt f (j + 1) = txt f j ++ [32] ++ Lib.itoa (f j) := by rw [txt, if_neg (by omega)]
theorem txt_one (f : Nat → Int) : txt f 1 = Lib.itoa (f 0) := by rw [txt, if_pos rfl]; rfl
set_option maxRecDepth 100000 in
set_option maxHeartbeats 2000000 in
theorem l17Text_c (a : Option Addr) (n c : Nat) (f : Nat → Int) (w : World) (hn : n ≤ 1048576) (hs : S1 w a n f) (hf : ∀ j, j < n → -9223372036854775808 ≤ f j ∧ f j ≤ 9223372036854775807) :
    Calls Tryd.prog 33 #[.slice a n c] w fun e w' => e = .returned (.string ⟨(txt f n).toArray⟩) ∧ Ext w w' := by
  have HS := Lib.hid hs
  have HF := Lib.hid hf
  clear hs hf
  go_enter Tryd.func33, Tryd.ntmps33
  go_wp2_with fail
  go_loopw [3, 4] (fun v3 v4 wr => ∃ (j : Nat) (L : List UInt8), j ≤ n ∧ v3 = .string ⟨L.toArray⟩ ∧ v4 = .int .i64 j ∧ L = txt f j ∧ Ext w wr) (fun _ v4 _ => n - (intOf v4).toNat)
  case atStart => exact ⟨0, [], by omega, rfl, rfl, rfl, Ext.refl _⟩
  case round =>
    obtain ⟨j, L, hj, rfl, rfl, hL, hx⟩ := hrel
    have x0 : (0 : Int) ≤ (j : Int) := by omega
    have hlen : L.length ≤ 22020096 := by rw [hL]; have := txt_len (f := f) (n := j) (fun i hi => HF.out i (by omega)); omega
    have HL := Lib.hid hL
    clear hL
    by_cases hlt : j < n
    · have x1 : (j : Int) < (n : Int) := by omega
      obtain ⟨b1, o1, rfl, hb1, q1⟩ := (HS.out.ext hx).at hlt
      obtain ⟨f0, f1⟩ := HF.out j hlt
      obtain ⟨A, hA⟩ : ∃ A, A = Lib.itoa (f j) := ⟨_, rfl⟩
      have hAl : A.length ≤ 20 := by rw [hA]; exact itoa_len _ f0 f1
      have HD := Lib.hid (fun (W : World) => (show Calls Tryd.prog 57 #[.int .i64 (f j)] W (fun e w' => e = .returned (.string ⟨A.toArray⟩) ∧ Ext W w') from by rw [hA]; exact l01Dec_c (f j) W f0 f1))
      have HA := Lib.hid hA
      clear hA
      by_cases hj0 : j = 0
      · subst hj0
        rw [Nat.add_zero] at q1
        go_wp2_with (go_at_call 57; ((with_reducible refine (HD.out _).mono ?_); rintro e w' ⟨rfl, hx⟩; (first | (obtain ⟨wx, rfl⟩ := Past.again hx) | (obtain ⟨wx, rfl⟩ := Past.ofd hx) | (obtain ⟨wx, rfl⟩ := Past.of hx))))
        exact ⟨⟨1, A, by omega, by (have e := HL.out; rw [txt] at e; subst e; exact congrArg Value.string (ba_app [] A)), by go_num, by rw [txt_one]; exact HA.out, (by repeat (first | with_reducible exact Ext.refl _ | with_reducible assumption | with_reducible refine Ext.alloc ?_ _ | with_reducible refine Ext.drew ?_ | (with_reducible refine Ext.setAt ?_ _ _ _ ?_; rotate_left; omega) | with_reducible refine Ext.trans ?_ (by assumption) | with_reducible exact Past.bel _ | with_reducible refine Ext.trans ?_ (Past.bel _)))⟩, by simp [intOf]; omega⟩
      · have hj1 : (0 : Int) < (j : Int) := by omega
        go_wp2_with (go_at_call 57; ((with_reducible refine (HD.out _).mono ?_); rintro e w' ⟨rfl, hx⟩; (first | (obtain ⟨wx, rfl⟩ := Past.again hx) | (obtain ⟨wx, rfl⟩ := Past.ofd hx) | (obtain ⟨wx, rfl⟩ := Past.of hx))))
        exact ⟨⟨j + 1, L ++ [32] ++ A, by omega, by rw [← ba_app, ← ba_app], by go_num, by rw [txt_app f (by omega), HL.out, HA.out], (by repeat (first | with_reducible exact Ext.refl _ | with_reducible assumption | with_reducible refine Ext.alloc ?_ _ | with_reducible refine Ext.drew ?_ | (with_reducible refine Ext.setAt ?_ _ _ _ ?_; rotate_left; omega) | with_reducible refine Ext.trans ?_ (by assumption) | with_reducible exact Past.bel _ | with_reducible refine Ext.trans ?_ (Past.bel _)))⟩, by simp [intOf]; omega⟩
    · have x1 : ¬ (j : Int) < (n : Int) := by omega
      obtain rfl : j = n := by omega
      go_wp2_with fail
      go_ret
      exact ⟨by rw [HL.out]; rfl, hx⟩
theorem s1_four {w : World} {g : Nat} {T : TypeId} {a b c d : Int} (h : Blk w g T #[.int .i64 a, .int .i64 b, .int .i64 c, .int .i64 d]) (z : Nat → Int) (z0 : z 0 = a) (z1 : z 1 = b) (z2 : z 2 = c) (z3 : z 3 = d) : S1 w (some ⟨g, 0, none⟩) 4 z := fun _ =>
  ⟨g, 0, rfl, h.lt, fun j hj => by
    rw [Nat.zero_add, h.cell]
    (obtain rfl | rfl | rfl | rfl : j = 0 ∨ j = 1 ∨ j = 2 ∨ j = 3 := by omega) <;> simp [z0, z1, z2, z3]⟩
theorem two_new' (w : World) (T U : TypeId) (c1 c2 : Array Value) : Blk ((w.alloc (.cells c1 T)).alloc (.cells c2 U)) (w.heap.size + 1) U c2 := by
  have := Blk.new (w.alloc (.cells c1 T)) c2 U
  rwa [World.size_alloc] at this
/-- a fault's text -/
def ft (a b c d : Int) : List UInt8 := Lib.itoa a ++ [32] ++ Lib.itoa b ++ [32] ++ Lib.itoa c ++ [32] ++ Lib.itoa d
structure B64 (n : Int) : Prop where
  lo : -9223372036854775808 ≤ n
  hi : n ≤ 9223372036854775807
set_option maxRecDepth 100000 in
set_option maxHeartbeats 2000000 in
theorem specFaultText_c (a b c d : Int) (w : World) (ha : B64 a) (hb : B64 b) (hc : B64 c) (hd : B64 d) :
    Calls Tryd.prog 8 #[.agg #[.int .i64 a, .int .i64 b, .int .i64 c, .int .i64 d]] w fun e w' => e = .returned (.string ⟨(ft a b c d).toArray⟩) ∧ Ext w w' := by
  obtain ⟨z, z0, z1, z2, z3⟩ : ∃ z : Nat → Int, z 0 = a ∧ z 1 = b ∧ z 2 = c ∧ z 3 = d := ⟨(fun j => if j = 0 then a else if j = 1 then b else if j = 2 then c else d), rfl, rfl, rfl, rfl⟩
  have e4 : txt z 4 = ft a b c d := by
    rw [txt_app z (by decide), txt_app z (by decide), txt_app z (by decide), txt_one, z0, z1, z2, z3]; rfl
  have HZ := Lib.hid (And.intro z0 (And.intro z1 (And.intro z2 (And.intro z3 e4))))
  have HL := Lib.hid (fun (j : Nat) (hj : j < 4) => (show -9223372036854775808 ≤ z j ∧ z j ≤ 9223372036854775807 from by
    (obtain rfl | rfl | rfl | rfl : j = 0 ∨ j = 1 ∨ j = 2 ∨ j = 3 := by omega)
    · rw [z0]; exact ⟨ha.lo, ha.hi⟩
    · rw [z1]; exact ⟨hb.lo, hb.hi⟩
    · rw [z2]; exact ⟨hc.lo, hc.hi⟩
    · rw [z3]; exact ⟨hd.lo, hd.hi⟩))
  clear z0 z1 z2 z3 e4
  have HT := Lib.hid (fun (W : World) => (show Calls Tryd.prog 27 #[.agg #[.int .i64 a, .int .i64 b, .int .i64 c, .int .i64 d]] W (fun e w' => e = .returned (.string ⟨(ft a b c d).toArray⟩) ∧ Ext W w') from by
    go_enter Tryd.func27, Tryd.ntmps27
    go_wp2_with fail
    refine (l17Text_c (some ⟨W.heap.size + 1, 0, none⟩) 4 4 z ((W.alloc (.cells #[.int .i64 a, .int .i64 b, .int .i64 c, .int .i64 d] 25)).alloc (.cells #[.int .i64 a, .int .i64 b, .int .i64 c, .int .i64 d] 2)) (by omega) (s1_four (two_new' W _ _ _ _) z HZ.out.1 HZ.out.2.1 HZ.out.2.2.1 HZ.out.2.2.2.1) HL.out).mono ?_
    rintro e w' ⟨rfl, hx⟩
    go_wp2_with fail
    go_ret
    exact ⟨by rw [HZ.out.2.2.2.2]; rfl, Ext.trans (by repeat (first | with_reducible exact Ext.refl _ | with_reducible assumption | with_reducible refine Ext.alloc ?_ _ | with_reducible refine Ext.drew ?_ | (with_reducible refine Ext.setAt ?_ _ _ _ ?_; rotate_left; omega) | with_reducible refine Ext.trans ?_ (by assumption) | with_reducible exact Past.bel _ | with_reducible refine Ext.trans ?_ (Past.bel _))) hx⟩))
  go_enter Tryd.func8, Tryd.ntmps8
  go_wp2_with (go_at_call 27; ((with_reducible refine (HT.out _).mono ?_); rintro e w' ⟨rfl, hx⟩; (first | (obtain ⟨wx, rfl⟩ := Past.again hx) | (obtain ⟨wx, rfl⟩ := Past.ofd hx) | (obtain ⟨wx, rfl⟩ := Past.of hx))))
  go_ret
  exact ⟨rfl, (by repeat (first | with_reducible exact Ext.refl _ | with_reducible assumption | with_reducible refine Ext.alloc ?_ _ | with_reducible refine Ext.drew ?_ | (with_reducible refine Ext.setAt ?_ _ _ _ ?_; rotate_left; omega) | with_reducible refine Ext.trans ?_ (by assumption) | with_reducible exact Past.bel _ | with_reducible refine Ext.trans ?_ (Past.bel _)))⟩
set_option maxRecDepth 100000 in
set_option maxHeartbeats 2000000 in
theorem implFaultText_c (a b c d : Int) (w : World) (ht : Tab w) (ha : B64 a) (hb : B64 b) (hc : B64 c) (hd : B64 d) :
    Calls Tryd.prog 10 #[.agg #[.int .i64 a, .int .i64 b, .int .i64 c, .int .i64 d]] w fun e w' => e = .returned (.string ⟨(ft a b c d).toArray⟩) ∧ Ext w w' := by
  obtain ⟨A, hA⟩ : ∃ A, A = Lib.itoa a := ⟨_, rfl⟩
  obtain ⟨B, hB⟩ : ∃ A, A = Lib.itoa b := ⟨_, rfl⟩
  obtain ⟨C, hC⟩ : ∃ A, A = Lib.itoa c := ⟨_, rfl⟩
  obtain ⟨D, hD⟩ : ∃ A, A = Lib.itoa d := ⟨_, rfl⟩
  have la : A.length ≤ 20 := by rw [hA]; exact itoa_len _ ha.lo ha.hi
  have lb : B.length ≤ 20 := by rw [hB]; exact itoa_len _ hb.lo hb.hi
  have lc : C.length ≤ 20 := by rw [hC]; exact itoa_len _ hc.lo hc.hi
  have ld : D.length ≤ 20 := by rw [hD]; exact itoa_len _ hd.lo hd.hi
  have TA := Lib.hid (fun (W : World) (hq : Ext w W) => (show Calls Tryd.prog 28 #[.int .i64 a] W (fun e w' => e = .returned (.string ⟨A.toArray⟩) ∧ Ext W w') from by rw [hA]; exact decimal_c a W ha.lo ha.hi (ht.ext hq)))
  have TB := Lib.hid (fun (W : World) (hq : Ext w W) => (show Calls Tryd.prog 28 #[.int .i64 b] W (fun e w' => e = .returned (.string ⟨B.toArray⟩) ∧ Ext W w') from by rw [hB]; exact decimal_c b W hb.lo hb.hi (ht.ext hq)))
  have TC := Lib.hid (fun (W : World) (hq : Ext w W) => (show Calls Tryd.prog 28 #[.int .i64 c] W (fun e w' => e = .returned (.string ⟨C.toArray⟩) ∧ Ext W w') from by rw [hC]; exact decimal_c c W hc.lo hc.hi (ht.ext hq)))
  have TD := Lib.hid (fun (W : World) (hq : Ext w W) => (show Calls Tryd.prog 28 #[.int .i64 d] W (fun e w' => e = .returned (.string ⟨D.toArray⟩) ∧ Ext W w') from by rw [hD]; exact decimal_c d W hd.lo hd.hi (ht.ext hq)))
  have hft : ft a b c d = A ++ [32] ++ B ++ [32] ++ C ++ [32] ++ D := by rw [hA, hB, hC, hD]; rfl
  have HT := Lib.hid hft
  clear hA hB hC hD hft
  go_enter Tryd.func10, Tryd.ntmps10
  go_wp2_with fail
  refine wp_region_past (by kernel_rfl) (by kernel_rfl) ?_
  repeat (go_big_quiet_step (first | (go_at_call 28; exact Calls.past (TA.out _ (by repeat (first | with_reducible exact Ext.refl _ | with_reducible assumption | with_reducible refine Ext.alloc ?_ _ | with_reducible refine Ext.drew ?_ | (with_reducible refine Ext.setAt ?_ _ _ _ ?_; rotate_left; omega) | with_reducible refine Ext.trans ?_ (by assumption) | with_reducible exact Past.bel _ | with_reducible refine Ext.trans ?_ (Past.bel _))))) | (go_at_call 28; exact Calls.past (TB.out _ (by repeat (first | with_reducible exact Ext.refl _ | with_reducible assumption | with_reducible refine Ext.alloc ?_ _ | with_reducible refine Ext.drew ?_ | (with_reducible refine Ext.setAt ?_ _ _ _ ?_; rotate_left; omega) | with_reducible refine Ext.trans ?_ (by assumption) | with_reducible exact Past.bel _ | with_reducible refine Ext.trans ?_ (Past.bel _))))) | (go_at_call 28; exact Calls.past (TC.out _ (by repeat (first | with_reducible exact Ext.refl _ | with_reducible assumption | with_reducible refine Ext.alloc ?_ _ | with_reducible refine Ext.drew ?_ | (with_reducible refine Ext.setAt ?_ _ _ _ ?_; rotate_left; omega) | with_reducible refine Ext.trans ?_ (by assumption) | with_reducible exact Past.bel _ | with_reducible refine Ext.trans ?_ (Past.bel _))))) | (go_at_call 28; exact Calls.past (TD.out _ (by repeat (first | with_reducible exact Ext.refl _ | with_reducible assumption | with_reducible refine Ext.alloc ?_ _ | with_reducible refine Ext.drew ?_ | (with_reducible refine Ext.setAt ?_ _ _ _ ?_; rotate_left; omega) | with_reducible refine Ext.trans ?_ (by assumption) | with_reducible exact Past.bel _ | with_reducible refine Ext.trans ?_ (Past.bel _)))))))
  refine wpQuiet_nil ?_
  rintro _ ⟨wx, rfl⟩
  go_wp2_with fail
  go_ret
  exact ⟨by rw [HT.out, ← ba_app, ← ba_app, ← ba_app, ← ba_app, ← ba_app, ← ba_app]; rfl, (by repeat (first | with_reducible exact Ext.refl _ | with_reducible assumption | with_reducible refine Ext.alloc ?_ _ | with_reducible refine Ext.drew ?_ | (with_reducible refine Ext.setAt ?_ _ _ _ ?_; rotate_left; omega) | with_reducible refine Ext.trans ?_ (by assumption) | with_reducible exact Past.bel _ | with_reducible refine Ext.trans ?_ (Past.bel _)))⟩
end Go.Proofs.YtppphpnimecgpaaDoor

namespace Go.Proofs.YtppphpnimecgpaaDoor
set_option linter.unusedVariables false

/-- n lies from l to h -/
def inB (n l h : Int) : Bool := decide (l ≤ n) && decide (n ≤ h)
theorem inB_t {n l h : Int} : inB n l h = true ↔ l ≤ n ∧ n ≤ h := by simp [inB]
theorem inB_f {n l h : Int} : inB n l h = false ↔ ¬ (l ≤ n ∧ n ≤ h) := by rw [← inB_t]; simp

/-- the greatest common divisor -/
def gcdI (a b : Int) : Int := (Int.gcd a b : Nat)
theorem gcdI_step {a b : Int} (ha : 0 ≤ a) (hb : 0 < b) : gcdI b (a.tmod b) = gcdI a b := by
  obtain ⟨m, rfl⟩ := Int.eq_ofNat_of_zero_le ha
  obtain ⟨n, rfl⟩ := Int.eq_ofNat_of_zero_le (Int.le_of_lt hb)
  have h1 : (m : Int).tmod n = ((m % n : Nat) : Int) := by rw [Int.tmod_eq_emod_of_nonneg (by omega)]; rfl
  rw [h1]
  simp only [gcdI, Int.gcd, Int.natAbs_natCast]
  rw [Nat.gcd_comm n (m % n), ← Nat.gcd_rec, Nat.gcd_comm]
theorem gcdI_zero {a : Int} (ha : 0 ≤ a) : gcdI a 0 = a := by
  simp only [gcdI, Int.gcd, Int.natAbs_zero, Nat.gcd_zero_right]; omega
theorem gcdI_bd {a b : Int} (ha : 1 ≤ a) (hb : 1 ≤ b) : 1 ≤ gcdI a b ∧ gcdI a b ≤ b ∧ gcdI a b ≤ a := by
  have h1 : 0 < Int.gcd a b := Int.gcd_pos_of_ne_zero_left _ (by omega)
  have h2 : (Int.gcd a b : Int) ≤ b := Int.le_of_dvd (by omega) (Int.gcd_dvd_right ..)
  have h3 : (Int.gcd a b : Int) ≤ a := Int.le_of_dvd (by omega) (Int.gcd_dvd_left ..)
  exact ⟨by unfold gcdI; omega, h2, h3⟩
theorem gcdI_dl {a b : Int} : gcdI a b ∣ a := Int.gcd_dvd_left ..
theorem gcdI_dr {a b : Int} : gcdI a b ∣ b := Int.gcd_dvd_right ..

/-- the years of the cycle of the first k rules; more than 2000 if there are more -/
def cyY (ev : Nat → Int) : Nat → Int
  | 0 => 1
  | k + 1 => if cyY ev k ≤ 2000 then cyY ev k / gcdI (cyY ev k) (ev k) * ev k else cyY ev k
theorem cyY_bd {ev : Nat → Int} {k : Nat} (he : ∀ j, j < k → 1 ≤ ev j ∧ ev j ≤ 1000) : 1 ≤ cyY ev k ∧ cyY ev k ≤ 2000000 := by
  induction k with
  | zero => simp [cyY]
  | succ k ih =>
    have h1 := ih fun j hj => he j (by omega)
    have h2 := he k (by omega)
    simp only [cyY]
    split
    · have h3 := gcdI_bd h1.1 h2.1
      have h4 : 1 ≤ cyY ev k / gcdI (cyY ev k) (ev k) := by
        apply Int.le_ediv_of_mul_le (by omega); omega
      have h5 : cyY ev k / gcdI (cyY ev k) (ev k) ≤ 2000 := by
        have := Int.ediv_le_self (gcdI (cyY ev k) (ev k)) (show 0 ≤ cyY ev k by omega); omega
      have h6 := Int.mul_le_mul h5 h2.2 (by omega) (by omega)
      have h7 := Int.mul_le_mul h4 h2.1 (by omega) (by omega)
      omega
    · exact h1
/-- the step, as both programs reckon it -/
structure CyS (ev : Nat → Int) (k : Nat) : Prop where
  y0 : 1 ≤ cyY ev k
  y1 : cyY ev k ≤ 2000000
  g0 : 1 ≤ gcdI (cyY ev k) (ev k)
  q0 : 0 ≤ cyY ev k / gcdI (cyY ev k) (ev k)
  q1 : cyY ev k ≤ 2000 → cyY ev k / gcdI (cyY ev k) (ev k) ≤ 2000
  p0 : 0 ≤ cyY ev k / gcdI (cyY ev k) (ev k) * ev k
  p1 : cyY ev k ≤ 2000 → cyY ev k / gcdI (cyY ev k) (ev k) * ev k ≤ 2000000
theorem cyS {ev : Nat → Int} {k : Nat} (he : ∀ j, j < k + 1 → 1 ≤ ev j ∧ ev j ≤ 1000) : CyS ev k := by
  have h1 := cyY_bd (ev := ev) (k := k) fun j hj => he j (by omega)
  have h2 := he k (by omega)
  have h3 := gcdI_bd h1.1 h2.1
  have h4 : 0 ≤ cyY ev k / gcdI (cyY ev k) (ev k) := Int.ediv_nonneg (by omega) (by omega)
  have h5 := Int.ediv_le_self (gcdI (cyY ev k) (ev k)) (show 0 ≤ cyY ev k by omega)
  refine ⟨h1.1, h1.2, h3.1, h4, fun h => by omega, Int.mul_nonneg h4 (by omega), fun h => ?_⟩
  have := Int.mul_le_mul (show cyY ev k / gcdI (cyY ev k) (ev k) ≤ 2000 by omega) h2.2 (by omega) (by omega)
  omega
/-- behind more than 2000 years nothing changes -/
theorem cyY_stuck {ev : Nat → Int} {k : Nat} (h : 2000 < cyY ev k) (n : Nat) (hn : k ≤ n) : 2000 < cyY ev n := by
  induction n with
  | zero => have : k = 0 := by omega
            subst this; exact h
  | succ n ih =>
    by_cases e : k = n + 1
    · subst e; exact h
    · have := ih (by omega)
      simp only [cyY]; rw [if_neg (by omega)]; exact this
theorem cyY_dvd {ev : Nat → Int} {n : Nat} (h : cyY ev n ≤ 2000) {k : Nat} (hk : k < n) : ev k ∣ cyY ev n := by
  induction n with
  | zero => omega
  | succ n ih =>
    have h1 : cyY ev n ≤ 2000 := by
      rcases Int.lt_or_le 2000 (cyY ev n) with h2 | h2
      · have := cyY_stuck h2 (n + 1) (by omega); omega
      · exact h2
    have h3 : cyY ev (n + 1) = cyY ev n / gcdI (cyY ev n) (ev n) * ev n := by simp only [cyY]; rw [if_pos h1]
    by_cases e : k = n
    · subst e; rw [h3]; exact Int.dvd_mul_left _ _
    · have h4 := ih h1 (by omega)
      refine Int.dvd_trans h4 ?_
      rw [h3]
      obtain ⟨c, hc⟩ := gcdI_dr (a := cyY ev n) (b := ev n)
      have h5 : cyY ev n / gcdI (cyY ev n) (ev n) * gcdI (cyY ev n) (ev n) = cyY ev n := Int.ediv_mul_cancel gcdI_dl
      refine ⟨c, ?_⟩
      calc cyY ev n / gcdI (cyY ev n) (ev n) * ev n = cyY ev n / gcdI (cyY ev n) (ev n) * (gcdI (cyY ev n) (ev n) * c) := by rw [← hc]
        _ = cyY ev n / gcdI (cyY ev n) (ev n) * gcdI (cyY ev n) (ev n) * c := by rw [Int.mul_assoc]
        _ = cyY ev n * c := by rw [h5]
/-- all of the first k rules are valid -/
def rulTo (ev rs : Nat → Int) : Nat → Bool
  | 0 => true
  | k + 1 => rulTo ev rs k && (inB (ev k) 1 1000 && inB (rs k) 0 (ev k - 1))
theorem rulTo_at {ev rs : Nat → Int} {n k : Nat} (h : rulTo ev rs n = true) (hk : k < n) : (1 ≤ ev k ∧ ev k ≤ 1000) ∧ 0 ≤ rs k ∧ rs k ≤ ev k - 1 := by
  induction n with
  | zero => omega
  | succ n ih =>
    simp only [rulTo, Bool.and_eq_true, inB_t] at h
    by_cases e : k = n
    · subst e; exact h.2
    · exact ih h.1 (by omega)
theorem rulTo_ff {ev rs : Nat → Int} {n k : Nat} (hk : k < n) (hb : (inB (ev k) 1 1000 && inB (rs k) 0 (ev k - 1)) = false) : rulTo ev rs n = false := by
  induction n with
  | zero => omega
  | succ n ih =>
    by_cases e : k = n
    · subst e; simp only [rulTo, hb, Bool.and_false]
    · simp only [rulTo, ih (by omega), Bool.false_and]
theorem rulTo_le {ev rs : Nat → Int} {n k : Nat} (h : rulTo ev rs n = true) (hk : k ≤ n) : rulTo ev rs k = true := by
  induction n with
  | zero => have : k = 0 := by omega
            subst this; exact h
  | succ n ih =>
    by_cases e : k = n + 1
    · subst e; exact h
    · simp only [rulTo, Bool.and_eq_true] at h
      exact ih h.1 (by omega)
/-- a leap year, by the first k rules -/
def lpTo (ev rs : Nat → Int) (lf : Nat → Bool) (y : Int) : Nat → Bool
  | 0 => false
  | k + 1 => if y % ev k = rs k then lf k else lpTo ev rs lf y k
theorem lpTo_add {ev rs : Nat → Int} {lf : Nat → Bool} {n : Nat} {c : Int} (hd : ∀ k, k < n → ev k ∣ c) (y : Int) : lpTo ev rs lf (y + c) n = lpTo ev rs lf y n := by
  induction n with
  | zero => rfl
  | succ n ih =>
    have h1 := hd n (by omega)
    have h2 : (y + c) % ev n = y % ev n := by
      obtain ⟨d, rfl⟩ := h1
      exact Int.add_mul_emod_self_left y (ev n) d
    simp only [lpTo, h2]
    rw [ih fun k hk => hd k (by omega)]
end Go.Proofs.YtppphpnimecgpaaDoor

namespace Go.Proofs.YtppphpnimecgpaaDoor
set_option linter.unusedVariables false

/-- a sum -/
def sm (f : Nat → Int) : Nat → Int
  | 0 => 0
  | k + 1 => sm f k + f k
theorem sm_bd {f : Nat → Int} {A B : Int} {k : Nat} (hf : ∀ j, j < k → A ≤ f j ∧ f j ≤ B) : A * k ≤ sm f k ∧ sm f k ≤ B * k := by
  induction k with
  | zero => simp [sm]
  | succ k ih =>
    have h1 := ih (fun j hj => hf j (by omega))
    have h2 := hf k (by omega)
    have h3 : A * ((k + 1 : Nat) : Int) = A * k + A := by rw [Int.natCast_add, Int.mul_add]; simp
    have h4 : B * ((k + 1 : Nat) : Int) = B * k + B := by rw [Int.natCast_add, Int.mul_add]; simp
    simp only [sm]
    omega
theorem sm_add (f : Nat → Int) (m k : Nat) : sm f (m + k) = sm f m + sm (fun i => f (m + i)) k := by
  induction k with
  | zero => simp [sm]
  | succ k ih =>
    rw [← Nat.add_assoc]
    simp only [sm, ih]; omega
theorem sm_congr {f g : Nat → Int} {k : Nat} (h : ∀ j, j < k → f j = g j) : sm f k = sm g k := by
  induction k with
  | zero => rfl
  | succ k ih => simp only [sm, ih fun j hj => h j (by omega), h k (by omega)]
theorem sm_mono {f : Nat → Int} {i k : Nat} (hk : i ≤ k) (hf : ∀ j, j < k → 0 ≤ f j) : sm f i ≤ sm f k := by
  induction k with
  | zero => have : i = 0 := by omega
            subst this; exact Int.le_refl _
  | succ k ih =>
    by_cases e : i = k + 1
    · subst e; exact Int.le_refl _
    · have := ih (by omega) fun j hj => hf j (by omega)
      have := hf k (by omega)
      simp only [sm]; omega
theorem sm_lt {f : Nat → Int} {i k : Nat} (hk : i < k) (hf : ∀ j, j < k → 1 ≤ f j) : sm f i < sm f k := by
  have h1 := sm_mono (f := f) (i := i + 1) (k := k) hk fun j hj => by have := hf j hj; omega
  have h2 := hf i hk
  simp only [sm] at h1; omega
/-- a place is told by its sum -/
theorem sm_place {f : Nat → Int} {i j n : Nat} {x : Int} (hf : ∀ k, k < n → 1 ≤ f k) (hi : i < n) (hj : j < n) (h1 : sm f i ≤ x) (h2 : x < sm f (i + 1)) (h3 : sm f j ≤ x) (h4 : x < sm f (j + 1)) : i = j := by
  rcases Nat.lt_trichotomy i j with h | h | h
  · have := sm_mono (f := f) (i := i + 1) (k := j) h fun k hk => by have := hf k (by omega); omega
    omega
  · exact h
  · have := sm_mono (f := f) (i := j + 1) (k := i) h fun k hk => by have := hf k (by omega); omega
    omega
/-- a calendar: rules and months, as numbers -/
structure CalN where
  nr : Nat
  ev : Nat → Int
  rs : Nat → Int
  lf : Nat → Bool
  n : Nat
  dy : Nat → Int
  lp : Nat → Int
/-- what a valid one bounds -/
structure CalB (c : CalN) : Prop where
  nr6 : c.nr ≤ 6
  n1 : 1 ≤ c.n
  n20 : c.n ≤ 20
  ev : ∀ j, j < c.nr → 1 ≤ c.ev j ∧ c.ev j ≤ 1000
  rs : ∀ j, j < c.nr → 0 ≤ c.rs j ∧ c.rs j ≤ c.ev j - 1
  dy : ∀ j, j < c.n → 1 ≤ c.dy j ∧ c.dy j ≤ 60
  lp : ∀ j, j < c.n → 1 ≤ c.lp j ∧ c.lp j ≤ 60
  cy : cyY c.ev c.nr ≤ 2000
/-- a leap year -/
def CalN.leap (c : CalN) (y : Int) : Bool := lpTo c.ev c.rs c.lf y c.nr
/-- the days of month j (from 0 on) of year y -/
def CalN.mo (c : CalN) (y : Int) (j : Nat) : Int := if c.leap y then c.lp j else c.dy j
/-- the days of a year -/
def CalN.yl (c : CalN) (y : Int) : Int := sm (c.mo y) c.n
/-- the days of the years before year k -/
def CalN.bef (c : CalN) (k : Nat) : Int := sm (fun i => c.yl (i : Int)) k
/-- the years of the cycle -/
def CalN.cyc (c : CalN) : Int := cyY c.ev c.nr
theorem CalB.cyc1 {c : CalN} (b : CalB c) : 1 ≤ c.cyc ∧ c.cyc ≤ 2000 := ⟨(cyY_bd b.ev).1, b.cy⟩
theorem CalB.mo {c : CalN} (b : CalB c) (y : Int) {j : Nat} (hj : j < c.n) : 1 ≤ c.mo y j ∧ c.mo y j ≤ 60 := by
  unfold CalN.mo; split
  · exact b.lp j hj
  · exact b.dy j hj
theorem CalB.yl {c : CalN} (b : CalB c) (y : Int) : 1 ≤ c.yl y ∧ c.yl y ≤ 1200 := by
  have h1 := sm_bd (f := c.mo y) (A := 1) (B := 60) (k := c.n) fun j hj => b.mo y hj
  have := b.n1; have := b.n20
  unfold CalN.yl; omega
theorem CalB.bef {c : CalN} (b : CalB c) (k : Nat) : (k : Int) ≤ c.bef k ∧ c.bef k ≤ 1200 * k := by
  have h1 := sm_bd (f := fun i => c.yl (i : Int)) (A := 1) (B := 1200) (k := k) fun j _ => b.yl _
  unfold CalN.bef; omega
theorem CalB.leap_add {c : CalN} (b : CalB c) (y : Int) : c.leap (y + c.cyc) = c.leap y :=
  lpTo_add (fun k hk => cyY_dvd b.cy hk) y
theorem CalB.yl_add {c : CalN} (b : CalB c) (y : Int) : c.yl (y + c.cyc) = c.yl y := by
  have h : c.mo (y + c.cyc) = c.mo y := by funext j; unfold CalN.mo; rw [b.leap_add]
  unfold CalN.yl; rw [h]
theorem CalB.leap_mul {c : CalN} (b : CalB c) (y : Int) (q : Nat) : c.leap (y + q * c.cyc) = c.leap y := by
  induction q with
  | zero => simp
  | succ q ih =>
    have h1 : y + ((q + 1 : Nat) : Int) * c.cyc = (y + q * c.cyc) + c.cyc := by rw [Int.natCast_add, Int.add_mul]; simp; omega
    rw [h1, b.leap_add, ih]
theorem CalB.yl_mul {c : CalN} (b : CalB c) (y : Int) (q : Nat) : c.yl (y + q * c.cyc) = c.yl y := by
  have h : c.mo (y + q * c.cyc) = c.mo y := by funext j; unfold CalN.mo; rw [b.leap_mul]
  unfold CalN.yl; rw [h]
/-- the years of the cycle, as a natural number -/
theorem CalB.cycN {c : CalN} (b : CalB c) : ∃ C : Nat, c.cyc = C ∧ 1 ≤ C ∧ C ≤ 2000 := by
  have h := b.cyc1
  exact ⟨c.cyc.toNat, by omega, by omega, by omega⟩
/-- the days before a year, by cycles -/
theorem CalB.bef_mul {c : CalN} (b : CalB c) {C : Nat} (hC : c.cyc = C) (q r : Nat) : c.bef (q * C + r) = q * c.bef C + c.bef r := by
  have h0 : ∀ q, c.bef (q * C) = q * c.bef C := by
    intro q
    induction q with
    | zero => simp [CalN.bef, sm]
    | succ q ih =>
      have h1 : c.bef ((q + 1) * C) = c.bef (q * C) + c.bef C := by
        unfold CalN.bef
        rw [Nat.add_mul, Nat.one_mul, sm_add]
        congr 1
        refine sm_congr fun j _ => ?_
        show c.yl ((q * C + j : Nat) : Int) = c.yl (j : Int)
        have h2 : ((q * C + j : Nat) : Int) = (j : Int) + q * c.cyc := by rw [hC, Int.natCast_add, Int.natCast_mul]; omega
        rw [h2, b.yl_mul]
      rw [h1, ih, Int.natCast_add, Int.add_mul]; simp
  unfold CalN.bef at h0 ⊢
  rw [sm_add, h0]
  congr 1
  refine sm_congr fun j _ => ?_
  show c.yl ((q * C + j : Nat) : Int) = c.yl (j : Int)
  have h2 : ((q * C + j : Nat) : Int) = (j : Int) + q * c.cyc := by rw [hC, Int.natCast_add, Int.natCast_mul]; omega
  rw [h2, b.yl_mul]
/-- the number of a day -/
def CalN.num (c : CalN) (y : Nat) (m : Nat) (d : Int) : Int := c.bef y + sm (c.mo (y : Int)) m + d - 1
/-- year y, month m (from 0 on), day d is the day with number x -/
structure Loc (c : CalN) (x : Int) (y m : Nat) (d : Int) : Prop where
  y0 : c.bef y ≤ x
  y1 : x < c.bef (y + 1)
  mn : m < c.n
  m0 : sm (c.mo (y : Int)) m ≤ x - c.bef y
  m1 : x - c.bef y < sm (c.mo (y : Int)) (m + 1)
  dd : d = x - c.bef y - sm (c.mo (y : Int)) m + 1
theorem Loc.one {c : CalN} (b : CalB c) {x : Int} {y m y' m' : Nat} {d d' : Int} (h : Loc c x y m d) (k : Loc c x y' m' d') : y = y' ∧ m = m' ∧ d = d' := by
  have e1 : y = y' := sm_place (f := fun i => c.yl (i : Int)) (n := y + y' + 1) (fun j _ => (b.yl _).1) (by omega) (by omega) h.y0 h.y1 k.y0 k.y1
  subst e1
  have e2 : m = m' := sm_place (fun j hj => (b.mo (y : Int) hj).1) h.mn k.mn h.m0 h.m1 k.m0 k.m1
  subst e2
  exact ⟨rfl, rfl, by rw [h.dd, k.dd]⟩
end Go.Proofs.YtppphpnimecgpaaDoor

namespace Go.Proofs.YtppphpnimecgpaaDoor
set_option linter.unusedVariables false
def sgn (a b : Int) : Int := if a < b then -1 else if b < a then 1 else 0
/-- the first number that is not 0, or 0 -/
def orV (z : Nat → Int) : Nat → Int
  | 0 => 0
  | n + 1 => if orV z n ≠ 0 then orV z n else z n
theorem orV_zero {z : Nat → Int} {n : Nat} (h : ∀ k, k < n → z k = 0) : orV z n = 0 := by
  induction n with
  | zero => rfl
  | succ n ih => simp only [orV, ih fun k hk => h k (by omega)]; simpa using h n (by omega)
theorem orV_hit {z : Nat → Int} {j n : Nat} (hj : j < n) (h : ∀ k, k < j → z k = 0) (h1 : z j ≠ 0) : orV z n = z j := by
  induction n with
  | zero => omega
  | succ n ih =>
    by_cases e : j = n
    · subst e; simp only [orV, orV_zero h]; simp
    · have := ih (by omega); simp only [orV, this]; simp [h1]
def cmpD (y m d y' m' d' : Int) : Int := if y ≠ y' then sgn y y' else if m ≠ m' then sgn m m' else sgn d d'
theorem sgn_zero {a b : Int} : sgn a b = 0 ↔ a = b := by unfold sgn; split <;> (try split) <;> omega
theorem cmpD_or {y m d y' m' d' : Int} {z : Nat → Int} (h0 : z 0 = sgn y y') (h1 : z 1 = sgn m m') (h2 : z 2 = sgn d d') : orV z 3 = cmpD y m d y' m' d' := by
  unfold cmpD
  by_cases a : y = y'
  · by_cases b : m = m'
    · have e0 : z 0 = 0 := by rw [h0, sgn_zero]; exact a
      have e1 : z 1 = 0 := by rw [h1, sgn_zero]; exact b
      simp only [orV, e0, e1]; simp [a, b, h2]
    · have e0 : z 0 = 0 := by rw [h0, sgn_zero]; exact a
      have e1 : z 1 ≠ 0 := by rw [h1, Ne, sgn_zero]; exact b
      simp only [orV, e0]; simp [e1]; simp [a, b, h1]
  · have e0 : z 0 ≠ 0 := by rw [h0, Ne, sgn_zero]; exact a
    simp only [orV]; simp [e0]; simp [a, h0]
end Go.Proofs.YtppphpnimecgpaaDoor

namespace Go.Proofs.YtppphpnimecgpaaDoor
open Go.RowKit
set_option linter.unusedVariables false
set_option linter.unusedSimpArgs false

theorem within_c (n l h : Int) (w : World) :
    Calls Tryd.prog 58 #[.int .i64 n, .int .i64 l, .int .i64 h] w fun e w' => e = .returned (.bool (inB n l h)) ∧ w = w' := by
  go_enter Tryd.func58, Tryd.ntmps58
  go_wp2
  all_goals (go_ret; refine ⟨ret_bool ?_, rfl⟩; rw [Bool.eq_iff_iff]; simp [inB]; try omega)
theorem l00In_c (n l h : Int) (w : World) :
    Calls Tryd.prog 59 #[.int .i64 n, .int .i64 l, .int .i64 h] w fun e w' => e = .returned (.bool (inB n l h)) ∧ w = w' := by
  go_enter Tryd.func59, Tryd.ntmps59
  go_wp2
  all_goals (go_ret; refine ⟨ret_bool ?_, rfl⟩; rw [Bool.eq_iff_iff]; simp [inB]; try omega)
theorem toDate_c (y m d : Int) (w : World) :
    Calls Tryd.prog 12 #[.agg #[.int .i64 y, .int .i64 m, .int .i64 d]] w fun e w' => e = .returned (.agg #[.int .i64 y, .int .i64 m, .int .i64 d]) ∧ Ext w w' := by
  go_enter Tryd.func12, Tryd.ntmps12
  go_wp2
  exact bodyPost_ret (v := .agg #[.int .i64 y, .int .i64 m, .int .i64 d]) (by simp [results, Tryd.results12, go_sem]) rfl ⟨rfl, (by repeat (first | with_reducible exact Ext.refl _ | with_reducible assumption | with_reducible refine Ext.alloc ?_ _ | with_reducible refine Ext.drew ?_ | (with_reducible refine Ext.setAt ?_ _ _ _ ?_; rotate_left; omega) | with_reducible refine Ext.trans ?_ (by assumption) | with_reducible exact Past.bel _ | with_reducible refine Ext.trans ?_ (Past.bel _)))⟩
end Go.Proofs.YtppphpnimecgpaaDoor

namespace Go.Proofs.YtppphpnimecgpaaDoor
set_option linter.unusedVariables false
def eq1To (f g : Nat → Int) : Nat → Bool
  | 0 => true
  | k + 1 => eq1To f g k && (f k == g k)
theorem eq1To_ff {f g : Nat → Int} {k n : Nat} (hk : k < n) (hh : f k ≠ g k) : eq1To f g n = false := by
  induction n with
  | zero => omega
  | succ n ih =>
    by_cases e : k = n
    · subst e; simp [eq1To, hh]
    · simp only [eq1To, ih (by omega), Bool.false_and]
theorem eq1To_self {f : Nat → Int} {n : Nat} : eq1To f f n = true := by
  induction n with
  | zero => rfl
  | succ n ih => simp [eq1To, ih]
/-- the first k notches of a cam are valid -/
def camTo (z : Nat → Int) : Nat → Bool
  | 0 => true
  | k + 1 => camTo z k && inB (z k) 1 60
theorem camTo_ff {z : Nat → Int} {k n : Nat} (hk : k < n) (hh : inB (z k) 1 60 = false) : camTo z n = false := by
  induction n with
  | zero => omega
  | succ n ih =>
    by_cases e : k = n
    · subst e; simp only [camTo, hh, Bool.and_false]
    · simp only [camTo, ih (by omega), Bool.false_and]
theorem camTo_at {z : Nat → Int} {k n : Nat} (h : camTo z n = true) (hk : k < n) : inB (z k) 1 60 = true := by
  induction n with
  | zero => omega
  | succ n ih =>
    simp only [camTo, Bool.and_eq_true] at h
    by_cases e : k = n
    · subst e; exact h.2
    · exact ih h.1 (by omega)
def camV (n : Nat) (z : Nat → Int) : Bool := camTo z n && inB (n : Int) 1 260
theorem camV_ff {z : Nat → Int} {k n : Nat} (hk : k < n) (hh : inB (z k) 1 60 = false) : false = camV n z := by rw [camV, camTo_ff hk hh]; rfl
end Go.Proofs.YtppphpnimecgpaaDoor

namespace Go.Proofs.YtppphpnimecgpaaDoor
open Go.RowKit
set_option linter.unusedVariables false
set_option linter.unusedSimpArgs false

set_option maxHeartbeats 400000 in
theorem eqInt64S_c (aa ab : Option Addr) (n m ca cb : Nat) (f g : Nat → Int) (w : World) (hn : n ≤ 1048576) (hm : m ≤ 1048576) (ha : S1 w aa n f) (hb : S1 w ab m g) :
    Calls Tryd.prog 17 #[.slice aa n ca, .slice ab m cb] w fun e w' => e = .returned (.bool (n == m && eq1To f g n)) ∧ Ext w w' := by
  have HA := Lib.hid ha
  have HB := Lib.hid hb
  clear ha hb
  by_cases hnm : n = m
  · subst hnm
    go_enter Tryd.func17, Tryd.ntmps17
    go_wp2_with fail
    go_loopw [5] (fun i wr => ∃ k : Nat, k ≤ n ∧ i = .int .i64 k ∧ Ext w wr ∧ eq1To f g k = true) (fun i _ => n - (intOf i).toNat)
    case atStart => exact ⟨0, by omega, rfl, Ext.refl _, rfl⟩
    case round =>
      obtain ⟨k, hk, rfl, hbl, heq⟩ := hrel
      have HE := Lib.hid heq
      clear heq
      by_cases hlt : k < n
      · obtain ⟨b1, o1, rfl, hb1, q1⟩ := (S1.ext HA.out hbl).at hlt
        obtain ⟨b2, o2, rfl, hb2, q3⟩ := (S1.ext HB.out hbl).at hlt
        by_cases hne : f k = g k
        · have hb0 : (f k != g k) = false := by simpa using hne
          have HN := Lib.hid hne
          clear hne
          go_wp2_with fail
          refine wp_region_past (by kernel_rfl) (by kernel_rfl) ?_
          repeat (go_big_quiet_step (fail))
          refine wpQuiet_nil ?_
          rintro _ ⟨wx, rfl⟩
          go_wp2_with fail
          exact ⟨⟨k + 1, by omega, by go_num, (by repeat (first | with_reducible exact Ext.refl _ | with_reducible assumption | with_reducible refine Ext.alloc ?_ _ | with_reducible refine Ext.drew ?_ | (with_reducible refine Ext.setAt ?_ _ _ _ ?_; rotate_left; omega) | with_reducible refine Ext.trans ?_ (by assumption) | with_reducible exact Past.bel _ | with_reducible refine Ext.trans ?_ (Past.bel _))), by simp [eq1To, HE.out, HN.out]⟩, by simp [intOf]; omega⟩
        · have hb0 : (f k != g k) = true := by simpa using hne
          have HN := Lib.hid hne
          clear hne
          go_wp2_with fail
          refine wp_region_past (by kernel_rfl) (by kernel_rfl) ?_
          repeat (go_big_quiet_step (fail))
          refine wpQuiet_nil ?_
          rintro _ ⟨wx, rfl⟩
          go_wp2_with fail
          go_ret
          exact ⟨ret_bool (by rw [eq1To_ff hlt HN.out]; simp), (by repeat (first | with_reducible exact Ext.refl _ | with_reducible assumption | with_reducible refine Ext.alloc ?_ _ | with_reducible refine Ext.drew ?_ | (with_reducible refine Ext.setAt ?_ _ _ _ ?_; rotate_left; omega) | with_reducible refine Ext.trans ?_ (by assumption) | with_reducible exact Past.bel _ | with_reducible refine Ext.trans ?_ (Past.bel _)))⟩
      · obtain rfl : k = n := by omega
        go_wp2_with fail
        go_ret
        exact ⟨ret_bool (by simp [HE.out]), hbl⟩
  · have hne : ((n : Int) != (m : Int)) = true := by simp; omega
    go_enter Tryd.func17, Tryd.ntmps17
    go_wp2_with fail
    go_ret
    exact ⟨ret_bool (by simp [hnm]), Ext.refl _⟩
theorem eqInt64S_self (aa ab : Option Addr) (n ca cb : Nat) (f : Nat → Int) (w : World) (hn : n ≤ 1048576) (ha : S1 w aa n f) (hb : S1 w ab n f) :
    Calls Tryd.prog 17 #[.slice aa n ca, .slice ab n cb] w fun e w' => e = .returned (.bool true) ∧ Ext w w' :=
  (eqInt64S_c aa ab n n ca cb f f w hn hn ha hb).mono fun e w' ⟨he, hx⟩ => ⟨by rw [he, eq1To_self]; simp, hx⟩
set_option maxHeartbeats 400000 in
theorem toInt64S_c (a : Option Addr) (n c : Nat) (z : Nat → Int) (w : World) (hn : n ≤ 1048576) (hs : S1 w a n z) :
    Calls Tryd.prog 15 #[.slice a n c] w fun e w' => ∃ cur, e = .returned (.slice (some ⟨w.heap.size, 0, none⟩) n n) ∧ Ext w w' ∧ Blk w' w.heap.size 2 cur ∧ cur.size = n ∧ C1 cur n z := by
  have HS := Lib.hid hs
  clear hs
  have hmk := make_run (P := Tryd.prog) 34 2 (.int .i64 0) 1 8 Tryd.underlying34 (by kernel_rfl) n (by omega) (by omega)
  go_enter Tryd.func15, Tryd.ntmps15
  go_wp2_with fail
  clear hmk
  go_loopw [4] (fun i wr => ∃ (k : Nat) (cur : Array Value), k ≤ n ∧ i = .int .i64 k ∧ Ext w wr ∧ Blk wr w.heap.size 2 cur ∧ cur.size = n ∧ C1 cur k z) (fun i _ => n - (intOf i).toNat)
  case atStart => exact ⟨0, _, by omega, rfl, (by repeat (first | with_reducible exact Ext.refl _ | with_reducible assumption | with_reducible refine Ext.alloc ?_ _ | with_reducible refine Ext.drew ?_ | (with_reducible refine Ext.setAt ?_ _ _ _ ?_; rotate_left; omega) | with_reducible refine Ext.trans ?_ (by assumption) | with_reducible exact Past.bel _ | with_reducible refine Ext.trans ?_ (Past.bel _))), Blk.new _ _ _, by simp [Mk.size], C1.zero _ _⟩
  case round =>
    obtain ⟨k, cur, hk, rfl, hext, hblk, hcs, hc2⟩ := hrel
    have HB := Lib.hid hblk
    have HC := Lib.hid hc2
    have HZ := Lib.hid hcs
    have hgs := hblk.lt
    by_cases hlt : k < n
    · obtain ⟨b1, o1, rfl, hb1, q1⟩ := (S1.ext HS.out hext).at hlt
      obtain ⟨v1, e1⟩ : ∃ v, wr.cell? ⟨w.heap.size, k, none⟩ = some v := ⟨cur[k]'(by omega), by rw [hblk.cell]; simp⟩
      have f1 := hblk.frozen k
      clear hblk hcs hc2
      go_wp2_with fail
      exact ⟨⟨k + 1, _, by omega, by go_num, (by repeat (first | with_reducible exact Ext.refl _ | with_reducible assumption | with_reducible refine Ext.alloc ?_ _ | with_reducible refine Ext.drew ?_ | (with_reducible refine Ext.setAt ?_ _ _ _ ?_; rotate_left; omega) | with_reducible refine Ext.trans ?_ (by assumption) | with_reducible exact Past.bel _ | with_reducible refine Ext.trans ?_ (Past.bel _))), HB.out.set _ _, by simp [HZ.out], HC.out.step (by rw [HZ.out]; omega)⟩, by simp [intOf]; omega⟩
    · clear hblk hcs hc2
      obtain rfl : k = n := by omega
      go_wp2_with fail
      go_ret
      exact ⟨cur, rfl, hext, HB.out, HZ.out, HC.out⟩
theorem toInt64S_r (a : Option Addr) (n c : Nat) (z : Nat → Int) (w : World) (hn : n ≤ 1048576) (hs : S1 w a n z) :
    Calls Tryd.prog 15 #[.slice a n c] w fun e w' => ∃ g, e = .returned (.slice (some ⟨g, 0, none⟩) n n) ∧ Ext w w' ∧ S1 w' (some ⟨g, 0, none⟩) n z :=
  (toInt64S_c a n c z w hn hs).mono fun e w' ⟨cur, he, hx, hb, _, hc⟩ => ⟨_, he, hx, C1.s1 hb hc⟩
set_option maxHeartbeats 400000 in
theorem validCam_c (a : Option Addr) (n c : Nat) (z : Nat → Int) (w : World) (hn : n ≤ 1048576) (hs : S1 w a n z) :
    Calls Tryd.prog 34 #[.slice a n c] w fun e w' => e = .returned (.bool (camV n z)) ∧ w = w' := by
  have HS := Lib.hid hs
  clear hs
  go_enter Tryd.func34, Tryd.ntmps34
  go_wp2_with fail
  go_loop [7] (fun i => ∃ j : Nat, j ≤ n ∧ i = .int .i64 j ∧ camTo z j = true) (fun i => n - (intOf i).toNat)
  case atStart => exact ⟨0, by omega, rfl, rfl⟩
  case round =>
    obtain ⟨j, hj, rfl, hz⟩ := hrel
    have HZ := Lib.hid hz
    clear hz
    by_cases hlt : j < n
    · obtain ⟨b, off, rfl, hb, hc⟩ := HS.out.at hlt
      by_cases h0 : inB (z j) 1 60 = true
      · go_wp2_with (go_at_call 58; ((with_reducible refine (within_c _ _ _ _).mono ?_); rintro e w' ⟨rfl, rfl⟩))
        exact ⟨⟨j + 1, by omega, by go_num, by simp [camTo, HZ.out, h0]⟩, by simp [intOf]; omega⟩
      · have h1 : inB (z j) 1 60 = false := by simpa using h0
        clear h0
        go_wp2_with (go_at_call 58; ((with_reducible refine (within_c _ _ _ _).mono ?_); rintro e w' ⟨rfl, rfl⟩))
        go_ret
        exact ⟨ret_bool (camV_ff hlt h1), rfl⟩
    · obtain rfl : j = n := by omega
      go_wp2_with (go_at_call 58; ((with_reducible refine (within_c _ _ _ _).mono ?_); rintro e w' ⟨rfl, rfl⟩))
      all_goals go_ret
      all_goals exact ⟨ret_bool (by rw [camV, HZ.out]; rw [Bool.eq_iff_iff]; simp [inB] <;> omega), rfl⟩
set_option maxHeartbeats 400000 in
theorem l17Ok_c (a : Option Addr) (n c : Nat) (z : Nat → Int) (w : World) (hn : n ≤ 1048576) (hs : S1 w a n z) :
    Calls Tryd.prog 32 #[.slice a n c] w fun e w' => e = .returned (.bool (camV n z)) ∧ w = w' := by
  have HS := Lib.hid hs
  clear hs
  go_enter Tryd.func32, Tryd.ntmps32
  go_wp2_with fail
  go_loop [3] (fun i => ∃ j : Nat, j ≤ n ∧ i = .int .i64 j ∧ camTo z j = true) (fun i => n - (intOf i).toNat)
  case atStart => exact ⟨0, by omega, rfl, rfl⟩
  case round =>
    obtain ⟨j, hj, rfl, hz⟩ := hrel
    have HZ := Lib.hid hz
    clear hz
    by_cases hlt : j < n
    · obtain ⟨b, off, rfl, hb, hc⟩ := HS.out.at hlt
      by_cases h0 : inB (z j) 1 60 = true
      · go_wp2_with (go_at_call 59; ((with_reducible refine (l00In_c _ _ _ _).mono ?_); rintro e w' ⟨rfl, rfl⟩))
        exact ⟨⟨j + 1, by omega, by go_num, by simp [camTo, HZ.out, h0]⟩, by simp [intOf]; omega⟩
      · have h1 : inB (z j) 1 60 = false := by simpa using h0
        clear h0
        go_wp2_with (go_at_call 59; ((with_reducible refine (l00In_c _ _ _ _).mono ?_); rintro e w' ⟨rfl, rfl⟩))
        go_ret
        exact ⟨ret_bool (camV_ff hlt h1), rfl⟩
    · obtain rfl : j = n := by omega
      go_wp2_with (go_at_call 59; ((with_reducible refine (l00In_c _ _ _ _).mono ?_); rintro e w' ⟨rfl, rfl⟩))
      all_goals go_ret
      all_goals exact ⟨ret_bool (by rw [camV, HZ.out]; rw [Bool.eq_iff_iff]; simp [inB] <;> omega), rfl⟩
end Go.Proofs.YtppphpnimecgpaaDoor

namespace Go.Proofs.YtppphpnimecgpaaDoor
open Go.RowKit
set_option linter.unusedVariables false
set_option linter.unusedSimpArgs false

def ctx (n : Nat) (z : Nat → Int) : List UInt8 := if camV n z then txt z n else []
structure CamB (n : Nat) (z : Nat → Int) : Prop where
  n1 : 1 ≤ n
  n2 : n ≤ 260
  b : ∀ j, j < n → 1 ≤ z j ∧ z j ≤ 60
theorem camB_of {n : Nat} {z : Nat → Int} (h : camV n z = true) : CamB n z := by
  rw [camV, Bool.and_eq_true] at h
  have := inB_t.1 h.2
  exact ⟨by omega, by omega, fun j hj => inB_t.1 (camTo_at h.1 hj)⟩
/-- the words -/
def wds (z : Nat → Int) : Nat → List ByteArray
  | 0 => []
  | j + 1 => wds z j ++ [⟨(Lib.itoa (z j)).toArray⟩]
theorem wds_len (z : Nat → Int) (n : Nat) : (wds z n).length = n := by
  induction n with
  | zero => rfl
  | succ n ih => simp [wds, ih]
theorem wds_txt (z : Nat → Int) (n : Nat) : Lib.join ((wds z (n + 1)).map (·.data.toList)) [32] = txt z (n + 1) := by
  induction n with
  | zero => rw [txt_one]; exact Lib.join_one _ _
  | succ n ih =>
    rw [txt_app z (by omega), ← ih]
    obtain ⟨x, r, hx⟩ : ∃ x r, (wds z (n + 1)).map (·.data.toList) = x :: r := by
      cases h : (wds z (n + 1)).map (·.data.toList) with
      | nil => have := wds_len z (n + 1); have h2 := congrArg List.length h; simp [this] at h2
      | cons x r => exact ⟨x, r, rfl⟩
    have e1 : (wds z (n + 1 + 1)).map (·.data.toList) = x :: (r ++ [Lib.itoa (z (n + 1))]) := by
      rw [wds, List.map_append, hx]; simp
    rw [e1, hx, Lib.join_cons, Lib.join_cons]
    simp [Lib.joinTail, List.append_assoc]
theorem specCamText_c (a : Option Addr) (n c : Nat) (z : Nat → Int) (w : World) (hn : n ≤ 1048576) (hs : S1 w a n z) :
    Calls Tryd.prog 14 #[.slice a n c] w fun e w' => e = .returned (.string ⟨(ctx n z).toArray⟩) ∧ Ext w w' := by
  have HS := Lib.hid hs
  clear hs
  cases hv : camV n z
  · have HV := Lib.hid (fun (W : World) (hq : Ext w W) => (hv ▸ l17Ok_c a n c z W hn (HS.out.ext hq) : Calls Tryd.prog 32 #[.slice a n c] W fun e w' => e = .returned (.bool false) ∧ W = w'))
    have HC := Lib.hid (show ctx n z = [] by rw [ctx, hv]; rfl)
    clear hv
    go_enter Tryd.func14, Tryd.ntmps14
    go_wp2_with (go_at_call 32; ((with_reducible refine (HV.out _ (by repeat (first | with_reducible exact Ext.refl _ | with_reducible assumption | with_reducible refine Ext.alloc ?_ _ | with_reducible refine Ext.drew ?_ | (with_reducible refine Ext.setAt ?_ _ _ _ ?_; rotate_left; omega) | with_reducible refine Ext.trans ?_ (by assumption) | with_reducible exact Past.bel _ | with_reducible refine Ext.trans ?_ (Past.bel _)))).mono ?_); rintro e w' ⟨rfl, rfl⟩))
    go_ret
    exact ⟨by rw [HC.out]; rfl, (by repeat (first | with_reducible exact Ext.refl _ | with_reducible assumption | with_reducible refine Ext.alloc ?_ _ | with_reducible refine Ext.drew ?_ | (with_reducible refine Ext.setAt ?_ _ _ _ ?_; rotate_left; omega) | with_reducible refine Ext.trans ?_ (by assumption) | with_reducible exact Past.bel _ | with_reducible refine Ext.trans ?_ (Past.bel _)))⟩
  · have HV := Lib.hid (fun (W : World) (hq : Ext w W) => (hv ▸ l17Ok_c a n c z W hn (HS.out.ext hq) : Calls Tryd.prog 32 #[.slice a n c] W fun e w' => e = .returned (.bool true) ∧ W = w'))
    have HC := Lib.hid (show ctx n z = txt z n by rw [ctx, hv]; rfl)
    have cb := camB_of hv
    clear hv
    go_enter Tryd.func14, Tryd.ntmps14
    go_wp2_with (go_at_call 32; ((with_reducible refine (HV.out _ (by repeat (first | with_reducible exact Ext.refl _ | with_reducible assumption | with_reducible refine Ext.alloc ?_ _ | with_reducible refine Ext.drew ?_ | (with_reducible refine Ext.setAt ?_ _ _ _ ?_; rotate_left; omega) | with_reducible refine Ext.trans ?_ (by assumption) | with_reducible exact Past.bel _ | with_reducible refine Ext.trans ?_ (Past.bel _)))).mono ?_); rintro e w' ⟨rfl, rfl⟩))
    refine (l17Text_c a n c z w hn HS.out (fun j hj => by have := cb.b j hj; omega)).mono ?_
    rintro e w' ⟨rfl, hx⟩
    go_wp2_with fail
    go_ret
    exact ⟨by rw [HC.out]; rfl, hx⟩
theorem info_str : (Tryd.prog.info? 9).map (fun i => (i.zero, i.size, i.bytes)) = some (some (.string ⟨#[]⟩), 1, 16) := by kernel_rfl
/-- 'own = append(own, s)' of texts -/
theorem appt {P : Program} {w : World} {ops : Array Oper} {rest : List Oper} {o : Oper} {A : Act} {Q : Exit → Act → World → Prop} (t e : TypeId) (s x : Operand)
    (hop : o.op = .call { callee := .builtin .append, args := #[s, x], argTypes := #[t, t] }) (hgd : o.guard = none)
    (ht : P.underlying t = some (.slice e)) (hinfo : (P.info? e).map (fun i => (i.zero, i.size, i.bytes)) = some (some (.string ⟨#[]⟩), 1, 16))
    (B : Nat) (v : Value) (n : Nat) (l : List Value) (u : ByteArray) (g : Nat) (hs : A.eval s = v) (hx : A.eval x = .slice (some ⟨g, 0, none⟩) 1 1) (hown : w.ownsRow B e 1 v n l)
    (hc : w.cell? ⟨g, 0, none⟩ = some (.string u)) (hl : n ≤ 1048576) (h0 : B ≤ w.heap.size)
    (hK : ∀ v' w', w'.ownsRow B e 1 v' (n + 1) (l ++ [.string u]) → w.grownBy w' v.ownBlock → wpList P ops Q rest (A.put o.dst v') w') : wpList P ops Q (o :: rest) A w := by
  obtain ⟨i, hi, hz', hsz, hb⟩ := info_parts hinfo
  refine wpList_append_own (P := P) w hgd s x t hop B e i _ 1 16 ht hi hz' hsz hb rfl (by decide) v n l hs hown ⟨g, 0, none⟩ 1 1 [.string u] hx rfl ?_ ?_ (by unfold maxLen; omega) (by omega) h0 ?_
  · intro j z hz
    cases j with
    | zero => simp at hz; subst hz; simpa [Addr.add] using hc
    | succ j => simp at hz
  · intro z hz
    simp at hz; subst hz; rfl
  · intro v' w' h1 h2 _
    exact hK v' w' h1 h2
end Go.Proofs.YtppphpnimecgpaaDoor

namespace Go.Proofs.YtppphpnimecgpaaDoor
open Go.RowKit
set_option linter.unusedVariables false
set_option linter.unusedSimpArgs false

theorem own_cap2 {w : World} {base : Nat} {e : TypeId} {size : Nat} {a : Option Addr} {n cap : Nat} {xs : List Value} (h : w.ownsRow base e size (.slice a n cap) n xs) : n ≤ cap ∧ cap ≤ maxLen := by
  rcases h.2 with ⟨h1, h2⟩ | ⟨g, cap', cur, h1, _, _, h2, h3, _⟩
  · simp only [Value.slice.injEq] at h1
    obtain ⟨_, h3, h4⟩ := h1
    subst h4; exact ⟨by omega, Nat.zero_le _⟩
  · simp only [Value.slice.injEq] at h1
    omega
set_option maxHeartbeats 4000000 in
theorem implCamText_c (a : Option Addr) (n c : Nat) (z : Nat → Int) (w : World) (hn : n ≤ 1048576) (hs : S1 w a n z) (ht : Tab w) :
    Calls Tryd.prog 16 #[.slice a n c] w fun e w' => e = .returned (.string ⟨(ctx n z).toArray⟩) ∧ Ext w w' := by
  have HS := Lib.hid hs
  have HT := Lib.hid ht
  clear hs ht
  cases hv : camV n z
  · have HV := Lib.hid (fun (W : World) (hq : Ext w W) => (hv ▸ validCam_c a n c z W hn (HS.out.ext hq) : Calls Tryd.prog 34 #[.slice a n c] W fun e w' => e = .returned (.bool false) ∧ W = w'))
    have HC := Lib.hid (show ctx n z = [] by rw [ctx, hv]; rfl)
    clear hv
    go_enter Tryd.func16, Tryd.ntmps16
    go_wp2_with (go_at_call 34; ((with_reducible refine (HV.out _ (by repeat (first | with_reducible exact Ext.refl _ | with_reducible assumption | with_reducible refine Ext.alloc ?_ _ | with_reducible refine Ext.drew ?_ | (with_reducible refine Ext.setAt ?_ _ _ _ ?_; rotate_left; omega) | with_reducible refine Ext.trans ?_ (by assumption) | with_reducible exact Past.bel _ | with_reducible refine Ext.trans ?_ (Past.bel _)))).mono ?_); rintro e w' ⟨rfl, rfl⟩))
    go_ret
    exact ⟨by rw [HC.out]; rfl, (by repeat (first | with_reducible exact Ext.refl _ | with_reducible assumption | with_reducible refine Ext.alloc ?_ _ | with_reducible refine Ext.drew ?_ | (with_reducible refine Ext.setAt ?_ _ _ _ ?_; rotate_left; omega) | with_reducible refine Ext.trans ?_ (by assumption) | with_reducible exact Past.bel _ | with_reducible refine Ext.trans ?_ (Past.bel _)))⟩
  · have HV := Lib.hid (fun (W : World) (hq : Ext w W) => (hv ▸ validCam_c a n c z W hn (HS.out.ext hq) : Calls Tryd.prog 34 #[.slice a n c] W fun e w' => e = .returned (.bool true) ∧ W = w'))
    have HC := Lib.hid (show ctx n z = txt z n by rw [ctx, hv]; rfl)
    have cb := camB_of hv
    have CB := Lib.hid cb.b
    have n1 := cb.n1
    have n2 := cb.n2
    clear hv cb
    go_enter Tryd.func16, Tryd.ntmps16
    go_wp2_with (go_at_call 34; ((with_reducible refine (HV.out _ (by repeat (first | with_reducible exact Ext.refl _ | with_reducible assumption | with_reducible refine Ext.alloc ?_ _ | with_reducible refine Ext.drew ?_ | (with_reducible refine Ext.setAt ?_ _ _ _ ?_; rotate_left; omega) | with_reducible refine Ext.trans ?_ (by assumption) | with_reducible exact Past.bel _ | with_reducible refine Ext.trans ?_ (Past.bel _)))).mono ?_); rintro e w' ⟨rfl, rfl⟩))
    go_loopw [3, 5, 11] (fun v3 v5 v11 wr => ∃ j : Nat, j ≤ n ∧ v11 = .int .i64 j ∧ wr.ownsRow w.heap.size 9 1 v3 j ((wds z j).map Value.string) ∧ Ext w wr) (fun _ _ v11 _ => n - (intOf v11).toNat)
    case atStart => exact ⟨0, by omega, rfl, World.ownsRow_nil _ _ _ _, Ext.refl _⟩
    case round =>
      obtain ⟨j, hj, rfl, ho, hx⟩ := hrel
      have HO := Lib.hid ho
      have x0 : (0 : Int) ≤ (j : Int) := by omega
      have hsz := hx.size
      clear ho
      by_cases hlt : j < n
      · have x1 : (j : Int) < (n : Int) := by omega
        obtain ⟨b1, o1, rfl, hb1, q1⟩ := (HS.out.ext hx).at hlt
        have hz := CB.out j hlt
        obtain ⟨s, hsv⟩ : ∃ s : ByteArray, s = ⟨(Lib.itoa (z j)).toArray⟩ := ⟨_, rfl⟩
        have HD := Lib.hid (fun (W : World) (hq : Ext w W) => (show Calls Tryd.prog 28 #[.int .i64 (z j)] W (fun e w' => e = .returned (.string s) ∧ Ext W w') from by rw [hsv]; exact decimal_c (z j) W (by omega) (by omega) (HT.out.ext hq)))
        have HSV := Lib.hid hsv
        clear hsv
        go_wp2_with (first | (go_at_call 28; ((with_reducible refine (HD.out _ (by repeat (first | with_reducible exact Ext.refl _ | with_reducible assumption | with_reducible refine Ext.alloc ?_ _ | with_reducible refine Ext.drew ?_ | (with_reducible refine Ext.setAt ?_ _ _ _ ?_; rotate_left; omega) | with_reducible refine Ext.trans ?_ (by assumption) | with_reducible exact Past.bel _ | with_reducible refine Ext.trans ?_ (Past.bel _)))).mono ?_); rintro e w' ⟨rfl, hx⟩; (first | (obtain ⟨wx, rfl⟩ := Past.again hx) | (obtain ⟨wx, rfl⟩ := Past.ofd hx) | (obtain ⟨wx, rfl⟩ := Past.of hx)))) | (at_builtin; refine appt 59 9 _ _ rfl rfl Tryd.underlying59 info_str w.heap.size _ j ((wds z j).map Value.string) s _ rfl rfl (own_ext HO.out (by repeat (first | with_reducible exact Ext.refl _ | with_reducible assumption | with_reducible refine Ext.alloc ?_ _ | with_reducible refine Ext.drew ?_ | (with_reducible refine Ext.setAt ?_ _ _ _ ?_; rotate_left; omega) | with_reducible refine Ext.trans ?_ (by assumption) | with_reducible exact Past.bel _ | with_reducible refine Ext.trans ?_ (Past.bel _)))) (by simp [go_sem]) (by omega) (Ext.size (by repeat (first | with_reducible exact Ext.refl _ | with_reducible assumption | with_reducible refine Ext.alloc ?_ _ | with_reducible refine Ext.drew ?_ | (with_reducible refine Ext.setAt ?_ _ _ _ ?_; rotate_left; omega) | with_reducible refine Ext.trans ?_ (by assumption) | with_reducible exact Past.bel _ | with_reducible refine Ext.trans ?_ (Past.bel _)))) ?_; intro v6 w6 s6 s7))
        have hx6 : Ext w w6 := by
          refine Ext.grown ?_ s7 (fun q hq => (HO.out.lt q hq).1)
          ((repeat (first | with_reducible exact Ext.refl _ | with_reducible assumption | with_reducible refine Ext.alloc ?_ _ | with_reducible refine Ext.drew ?_ | (with_reducible refine Ext.setAt ?_ _ _ _ ?_; rotate_left; omega) | with_reducible refine Ext.trans ?_ (by assumption) | with_reducible exact Past.bel _ | with_reducible refine Ext.trans ?_ (Past.bel _))); done)
        exact ⟨⟨j + 1, by omega, by go_num, (by rw [wds, List.map_append, ← HSV.out]; exact s6), hx6⟩, by simp [intOf]; omega⟩
      · have x1 : ¬ (j : Int) < (n : Int) := by omega
        obtain rfl : j = n := by omega
        obtain ⟨b9, c9, rfl⟩ := own_form HO.out
        obtain ⟨g, rfl, _, hg, _⟩ := own_at HO.out (j := 0) (by omega)
        have hcells : ∀ (i : Nat) x, (wds z j)[i]? = some x → wr.cell? ⟨g, 0 + i, none⟩ = some (.string x) := fun i x hi => by
          have hij : i < j := by have := (List.getElem?_eq_some_iff.1 hi).1; rwa [wds_len] at this
          obtain ⟨g', e', _, _, h2, _⟩ := own_at HO.out hij
          obtain rfl : g = g' := by simpa using e'
          rw [Nat.zero_add, h2, List.getElem?_map, hi]; rfl
        have hcap := own_cap2 HO.out
        have htx : Lib.join ((wds z j).map (·.data.toList)) [32] = txt z j := by obtain ⟨k, rfl⟩ : ∃ k, j = k + 1 := ⟨j - 1, by omega⟩; exact wds_txt z k
        have hlen : (txt z j).length ≤ 140737488355328 := by have := txt_len (f := z) (n := j) (fun i hi => by have := CB.out i hi; omega); omega
        have hjoin := Tryd.strings_Join g 0 c9 (wds z j) ⟨#[32]⟩ wr hcells hg (by rw [wds_len]; omega) (by rw [wds_len]; exact hcap.1) (by show (Lib.join ((wds z j).map (·.data.toList)) [32]).length ≤ _; rw [htx]; exact hlen)
        rw [wds_len] at hjoin
        have HJ := Lib.hid hjoin
        have HTX := Lib.hid htx
        clear hjoin hcells htx
        go_wp2_with fail
        refine HJ.out.mono ?_
        rintro e w' ⟨rfl, hx'⟩
        have hxx := Ext.trans hx hx'
        go_wp2_with fail
        go_ret
        exact ⟨by rw [HC.out, ← HTX.out]; rfl, hxx⟩
set_option maxHeartbeats 2000000 in
theorem walkCamText (a : Option Addr) (n c : Nat) (z : Nat → Int) (hm : n ≤ maxLen) (w : World) (ht : Tab w) (hs : S1 w a n z) :
    Calls Tryd.prog 5 #[.slice a n c] w fun e w' => e = .returned (.bool true) ∧ Ext w w' := by
  have HS := Lib.hid hs
  have HT := Lib.hid ht
  clear hs ht
  have hm' : (n : Int) ≤ 9223372036854775807 := by unfold maxLen at hm; omega
  clear hm
  by_cases hn : n ≤ 1048576
  · have h1 : ¬ (1048576 : Int) < n := by omega
    obtain ⟨L, hL⟩ : ∃ L, L = ctx n z := ⟨_, rfl⟩
    go_enter Tryd.func5, Tryd.ntmps5
    go_wp2_with fail
    refine (toInt64S_r _ _ _ _ _ hn HS.out).mono ?_
    rintro e w1 ⟨g1, rfl, hx1, hs1⟩
    have HS1 := Lib.hid hs1
    clear hs1
    go_wp2_with fail
    refine (specCamText_c _ _ _ _ _ hn HS1.out).mono ?_
    rw [← hL]
    rintro e w2 ⟨rfl, hx2⟩
    have hw2 := Ext.trans hx1 hx2
    go_wp2_with fail
    refine (toInt64S_r _ _ _ _ _ hn (HS.out.ext hw2)).mono ?_
    rintro e w3 ⟨g3, rfl, hx3, hs3⟩
    have HS3 := Lib.hid hs3
    clear hs3
    have hw3 := Ext.trans hw2 hx3
    go_wp2_with fail
    refine (implCamText_c _ _ _ _ _ hn HS3.out (HT.out.ext hw3)).mono ?_
    rw [← hL]
    rintro e w4 ⟨rfl, hx4⟩
    have hw4 := Ext.trans hw3 hx4
    clear hL
    go_wp2_with fail
    refine (toInt64S_r _ _ _ _ _ hn (HS.out.ext hw4)).mono ?_
    rintro e w5 ⟨g5, rfl, hx5, hs5⟩
    have HS5 := Lib.hid hs5
    have HS3' := Lib.hid (HS3.out.ext (Ext.trans hx4 hx5))
    clear hs5
    have hw5 := Ext.trans hw4 hx5
    go_wp2_with fail
    refine (eqInt64S_self _ _ _ _ _ _ _ hn HS3'.out HS5.out).mono ?_
    rintro e w6 ⟨rfl, hx6⟩
    go_wp2_with fail
    go_ret
    first | exact ⟨rfl, Ext.trans hw5 hx6⟩ | (subst hx6; exact ⟨rfl, hw5⟩)
  · have h1 : (1048576 : Int) < n := by omega
    go_enter Tryd.func5, Tryd.ntmps5
    go_wp2_with fail
    go_ret
    exact ⟨rfl, (by repeat (first | with_reducible exact Ext.refl _ | with_reducible assumption | with_reducible refine Ext.alloc ?_ _ | with_reducible refine Ext.drew ?_ | (with_reducible refine Ext.setAt ?_ _ _ _ ?_; rotate_left; omega) | with_reducible refine Ext.trans ?_ (by assumption) | with_reducible exact Past.bel _ | with_reducible refine Ext.trans ?_ (Past.bel _)))⟩
end Go.Proofs.YtppphpnimecgpaaDoor

namespace Go.Proofs.YtppphpnimecgpaaDoor
open Go.ChangeShapes Go.WideShapes Go.ChangeAt Go.WideMaps Go.WideElems Go.RowKit
set_option linter.unusedVariables false

theorem b64 {n : Int} (h : (Lit.int .i64 n).wf = true) : B64 n := ⟨(wf_bd h).1, (wf_bd h).2⟩
def laid3 {H : Type} : List (String × DataW H) := [("math/bits.deBruijn32tab", Rows.laid_math_bits_deBruijn32tab), ("math/bits.deBruijn64tab", Rows.laid_math_bits_deBruijn64tab), ("internal/strconv.uint64pow10", Rows.laid_internal_strconv_uint64pow10)]
theorem door_met (os : Os) (args : Array Value) : laidMetH Tryd.prog laid3 ((World.doorLaid Tryd.prog 24 os).forCall (fun _ _ => 0) ⟨#[], args, []⟩).memory :=
  laidMetH_of_parts3 (fuel := 8) (laidMet_of_run' 8 (by kernel_rfl) (by kernel_rfl)) (by kernel_rfl) (by kernel_rfl)
theorem tab_of {W : World} (h : laidMetH Tryd.prog laid3 W) : Tab W := by
  rw [MakeChecks.laidMetH_plain _ _ _ (by kernel_rfl)] at h
  obtain ⟨ps, ⟨g0, t0, cs0, f0, p0, q0, hg0, ht0, hv0, hd0, ⟨g1, t1, cs1, f1, p1, q1, hg1, ht1, hv1, hd1, ⟨g2, t2, cs2, f2, p2, q2, hg2, ht2, hv2, hd2, _, _⟩, _⟩, _⟩, _, _⟩ := h
  have k1 : Tryd.prog.globalNamed "internal/strconv.uint64pow10" = some 0 := by kernel_rfl
  have k2 : (Tryd.prog.globals[0]?).map (·.type) = some 124 := by kernel_rfl
  obtain rfl := Option.some.inj (k1.symm.trans hg2)
  obtain rfl := Option.some.inj (k2.symm.trans ht2)
  refine Lib.tabBelow_of_tabIs ?_
  unfold Lib.TabIs
  rw [hv2, ← Lib.cells_of_tab (k := .u64) (zs := Lib.pow10Tab) (n := 20) Tryd.underlying124 Tryd.underlying116 (by kernel_rfl) (by kernel_rfl) hd2]
end Go.Proofs.YtppphpnimecgpaaDoor

namespace Go.Proofs.YtppphpnimecgpaaDoor
open Go.ChangeShapes Go.WideShapes Go.RowKit Go.Deep
set_option linter.unusedVariables false
section
variable {H : Type} {enc : TypeId × Value → H} {P : Program} {w : World} {base : Nat} {spare : Nat → Bool} {held : Bool}
/-- a slice of structs of one cell a field, at whatever depth -/
theorem down_rows {t e : TypeId} {fs : Array Field} {fuel : Nat} {v : Value} {x : DataW H × List MemPlace} (ht : P.underlying t = some (.slice e)) (hs : P.underlying e = some (.struct fs)) (hone : oneCellFields P fs = true) (hC : P.cellsOf e = fs.size) (hpos : 0 < fs.size)
    (hf : DataW.trod enc P w base spare held fuel t [v] = some x) :
    ∃ (a : Option Addr) (n cap : Nat) (z : Nat → Nat → Value), v = .slice a n cap ∧ n ≤ cap ∧ cap ≤ maxLen ∧
      (0 < n → ∃ b off, a = some ⟨b, off, none⟩ ∧ b < w.heap.size ∧ ∀ i, i < n → ∀ j (hj : j < fs.size), w.cell? ⟨b, off + i * fs.size + j, none⟩ = some (z i j) ∧ ∃ m y, DataW.trod enc P w base spare held m fs[j].type [z i j] = some y) := by
  rcases open_slice ht hf with ⟨hcs, _⟩ | ⟨a', len', cap', m, n', D, Pl, hcs, hb, hl, hm, hmm, hx, hcell⟩
  · simp at hcs
    subst hcs
    exact ⟨none, 0, 0, fun _ _ => .bool false, rfl, Nat.le_refl _, Nat.zero_le _, fun h => absurd h (Nat.lt_irrefl 0)⟩
  · simp at hcs
    subst hcs
    have hlm : len' ≤ m := by rw [hmm]; split <;> omega
    have hel : ∀ i, i < len' → ∃ z : Nat → Value, ∀ j (hj : j < fs.size), w.cell? (a'.add (i * fs.size + j)) = some (z j) ∧ ∃ m y, DataW.trod enc P w base spare held m fs[j].type [z j] = some y := fun i hi' => by
      obtain ⟨cs', hc, ht'⟩ := hcell i (by omega)
      rw [hC] at hc
      obtain ⟨_, hcl, hat⟩ := World.cells?_some hc
      obtain ⟨k, hl', hfl⟩ := down_struct hs hone hC ht'
      refine ⟨fun j => cs'.getD j (.bool false), fun j hj => ?_⟩
      obtain ⟨v', y, hv', hy⟩ := hfl j fs[j] (Array.getElem?_eq_getElem hj)
      have e1 : cs'.getD j (.bool false) = v' := by simp [List.getD, hv']
      refine ⟨?_, k, y, by show DataW.trod enc P w base spare held k fs[j].type [cs'.getD j (.bool false)] = some y; rw [e1]; exact hy⟩
      show w.cell? (a'.add (i * fs.size + j)) = some (cs'.getD j (.bool false))
      rw [← Go.Deep.add_add, hat j hj, e1]; exact hv'
    obtain ⟨z, hz⟩ := choose_lt hel
    refine ⟨some a', len', cap', z, rfl, hl, hm, fun hn => ?_⟩
    obtain ⟨b, off, spot⟩ := a'
    have h0 := (hz 0 hn 0 hpos).1
    have hspot : spot = none := by simpa [Addr.add] using World.cell?_spot h0
    subst hspot
    refine ⟨b, off, rfl, World.block_lt_of_cell? w ⟨b, off, none⟩ (by simpa [Addr.add] using h0), fun i hi' j hj => ?_⟩
    have h1 := hz i hi' j hj
    rw [Addr.add_lit] at h1
    rw [Nat.add_assoc]; exact h1
/-- a slice of int64s -/
theorem down_i64s {t e : TypeId} {fuel : Nat} {v : Value} {x : DataW H × List MemPlace} (ht : P.underlying t = some (.slice e)) (he : P.underlying e = some (.int .i64)) (hC : P.cellsOf e = 1)
    (hf : DataW.trod enc P w base spare held fuel t [v] = some x) :
    ∃ (a : Option Addr) (n cap : Nat) (z : Nat → Int), v = .slice a n cap ∧ n ≤ cap ∧ cap ≤ maxLen ∧ S1 w a n z ∧ ∀ j, j < n → (Lit.int .i64 (z j)).wf = true := by
  rcases open_slice ht hf with ⟨hcs, _⟩ | ⟨a', len', cap', m, n', D, Pl, hcs, hb, hl, hm, hmm, hx, hcell⟩
  · simp at hcs
    subst hcs
    exact ⟨none, 0, 0, fun _ => 0, rfl, Nat.le_refl _, Nat.zero_le _, (fun h => absurd h (Nat.lt_irrefl 0)), fun j hj => absurd hj (Nat.not_lt_zero j)⟩
  · simp at hcs
    subst hcs
    have hlm : len' ≤ m := by rw [hmm]; split <;> omega
    have hel : ∀ i, i < len' → ∃ z : Int, w.cell? (a'.add i) = some (.int .i64 z) ∧ (Lit.int .i64 z).wf = true := fun i hi' => by
      obtain ⟨cs', hc, ht'⟩ := hcell i (by omega)
      rw [hC] at hc
      obtain ⟨_, hcl, hat⟩ := World.cells?_some hc
      obtain ⟨z, hz, _, hw⟩ := DataW.trod_int he ht'
      subst hz
      have := hat 0 (by omega)
      refine ⟨z, ?_, hw⟩
      have e1 : a'.add i = (a'.add (i * 1)).add 0 := by rw [Go.Deep.add_add]; simp
      rw [e1, this]; rfl
    obtain ⟨z, hz⟩ := choose_lt hel
    refine ⟨some a', len', cap', z, rfl, hl, hm, fun hn => ?_, fun j hj => (hz j hj).2⟩
    obtain ⟨b, off, spot⟩ := a'
    have h0 := (hz 0 hn).1
    have hspot : spot = none := by simpa [Addr.add] using World.cell?_spot h0
    subst hspot
    refine ⟨b, off, rfl, World.block_lt_of_cell? w ⟨b, off, none⟩ (by simpa [Addr.add] using h0), fun i hi' => ?_⟩
    have h1 := (hz i hi').1
    rw [Addr.add_lit] at h1
    exact h1
theorem arg_i64s {r : Reach} {b0 : Nat} {t e : TypeId} {v : Value} {d : DataW H} {p : List MemPlace} (ht : P.underlying t = some (.slice e)) (he : P.underlying e = some (.int .i64)) (hC : P.cellsOf e = 1)
    (hv : Value.okWide P w r b0 t v) (h : DataW.Trod enc P w base spare held t v d p) :
    ∃ (a : Option Addr) (n cap : Nat) (z : Nat → Int), v = .slice a n cap ∧ n ≤ cap ∧ cap ≤ maxLen ∧ S1 w a n z ∧ ∀ j, j < n → (Lit.int .i64 (z j)).wf = true := by
  obtain ⟨a, n, cap, rfl⟩ := okWide_slice ht hv
  obtain ⟨fuel, hf⟩ := h
  exact down_i64s ht he hC (fuel := fuel) (by simpa [Value.cells] using hf)
end
/-- A slice of structs of 'k' cells: cell j of element i is 'z i j'. -/
def SK (w : World) (a : Option Addr) (n k : Nat) (z : Nat → Nat → Value) : Prop :=
  0 < n → ∃ b off, a = some ⟨b, off, none⟩ ∧ b < w.heap.size ∧ ∀ i, i < n → ∀ j, j < k → w.cell? ⟨b, off + i * k + j, none⟩ = some (z i j)
/-- Months: a name and two numbers each. -/
def S3 (w : World) (a : Option Addr) (n : Nat) (nm : Nat → ByteArray) (dy lp : Nat → Int) : Prop :=
  0 < n → ∃ b off, a = some ⟨b, off, none⟩ ∧ b < w.heap.size ∧ ∀ i, i < n → w.cell? ⟨b, off + i * 3, none⟩ = some (.string (nm i)) ∧ w.cell? ⟨b, off + i * 3 + 1, none⟩ = some (.int .i64 (dy i)) ∧ w.cell? ⟨b, off + i * 3 + 2, none⟩ = some (.int .i64 (lp i))
/-- Rules: two numbers and a truth value each. -/
def R3 (w : World) (a : Option Addr) (n : Nat) (ev rs : Nat → Int) (lf : Nat → Bool) : Prop :=
  0 < n → ∃ b off, a = some ⟨b, off, none⟩ ∧ b < w.heap.size ∧ ∀ i, i < n → w.cell? ⟨b, off + i * 3, none⟩ = some (.int .i64 (ev i)) ∧ w.cell? ⟨b, off + i * 3 + 1, none⟩ = some (.int .i64 (rs i)) ∧ w.cell? ⟨b, off + i * 3 + 2, none⟩ = some (.bool (lf i))
theorem S3.ext {w w' : World} {a : Option Addr} {n : Nat} {nm : Nat → ByteArray} {dy lp : Nat → Int} (s : S3 w a n nm dy lp) (e : Ext w w') : S3 w' a n nm dy lp := fun hn => by
  obtain ⟨b, off, ha, hb, hc⟩ := s hn
  exact ⟨b, off, ha, Nat.lt_of_lt_of_le hb e.size, fun j hj => by rw [e.cell hb, e.cell hb, e.cell hb]; exact hc j hj⟩
theorem S3.at {w : World} {a : Option Addr} {n : Nat} {nm : Nat → ByteArray} {dy lp : Nat → Int} (s : S3 w a n nm dy lp) {j : Nat} (hj : j < n) :
    ∃ b off, a = some ⟨b, off, none⟩ ∧ b < w.heap.size ∧ w.cell? ⟨b, off + j * 3, none⟩ = some (.string (nm j)) ∧ w.cell? ⟨b, off + j * 3 + 1, none⟩ = some (.int .i64 (dy j)) ∧ w.cell? ⟨b, off + j * 3 + 2, none⟩ = some (.int .i64 (lp j)) := by
  obtain ⟨b, off, ha, hb, hc⟩ := s (by omega)
  exact ⟨b, off, ha, hb, hc j hj⟩
theorem R3.ext {w w' : World} {a : Option Addr} {n : Nat} {ev rs : Nat → Int} {lf : Nat → Bool} (s : R3 w a n ev rs lf) (e : Ext w w') : R3 w' a n ev rs lf := fun hn => by
  obtain ⟨b, off, ha, hb, hc⟩ := s hn
  exact ⟨b, off, ha, Nat.lt_of_lt_of_le hb e.size, fun j hj => by rw [e.cell hb, e.cell hb, e.cell hb]; exact hc j hj⟩
theorem R3.at {w : World} {a : Option Addr} {n : Nat} {ev rs : Nat → Int} {lf : Nat → Bool} (s : R3 w a n ev rs lf) {j : Nat} (hj : j < n) :
    ∃ b off, a = some ⟨b, off, none⟩ ∧ b < w.heap.size ∧ w.cell? ⟨b, off + j * 3, none⟩ = some (.int .i64 (ev j)) ∧ w.cell? ⟨b, off + j * 3 + 1, none⟩ = some (.int .i64 (rs j)) ∧ w.cell? ⟨b, off + j * 3 + 2, none⟩ = some (.bool (lf j)) := by
  obtain ⟨b, off, ha, hb, hc⟩ := s (by omega)
  exact ⟨b, off, ha, hb, hc j hj⟩
end Go.Proofs.YtppphpnimecgpaaDoor
