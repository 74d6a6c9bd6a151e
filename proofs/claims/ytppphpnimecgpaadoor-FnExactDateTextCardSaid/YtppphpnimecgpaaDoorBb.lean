/- Texts of lists of numbers, of faults. Calendars: rules, leap years, cycles. No program in sight. Calendars: days of years and months, numbers of days. No program in sight. Comparisons of dates. No program in sight. Dates compared. Dates' texts. What the cards' listed variables give the walks. -/
import Derived.Test.YtppphpnimecgpaaDoorBa
import Derived.Test.YtppphpnimecgpaaDoorProg
import Derived.ProofKit
import Derived.Deep.DeepCutAuto
import Derived.Test.YtppphpnimecgpaaDoorRows
import Derived.LaidMore
import Derived.OpenShut
import Derived.Stop.Joined
import Derived.Lib.LaidTab

namespace Go.Proofs.YtppphpnimecgpaaDoor
open Go.RowKit
set_option linter.unusedVariables false
set_option linter.unusedSimpArgs false

theorem itoa_len (n : Int) (h0 : -9223372036854775808 ≤ n) (h1 : n ≤ 9223372036854775807) : (Lib.itoa n).length ≤ 20 := by
  by_cases h : n = 0
  · rw [h, itoa_zero]; decide
  · by_cases hn : n < 0
    · obtain ⟨u, hu⟩ : ∃ u : Nat, n = -(u : Int) := ⟨n.natAbs, by omega⟩
      rw [hu, itoa_neg (by omega)]
      have := digs_len 19 u (by omega)
      simp; omega
    · obtain ⟨u, hu⟩ : ∃ u : Nat, n = (u : Int) := ⟨n.natAbs, by omega⟩
      rw [hu, itoa_pos (by omega)]
      have := digs_len 19 u (by omega)
      omega
/-- numbers with a blank between -/
def txt (f : Nat → Int) : Nat → List UInt8
  | 0 => []
  | j + 1 => (if j = 0 then [] else txt f j ++ [32]) ++ Lib.itoa (f j)
theorem txt_len {f : Nat → Int} {n : Nat} (h : ∀ j, j < n → -9223372036854775808 ≤ f j ∧ f j ≤ 9223372036854775807) : (txt f n).length ≤ 21 * n := by
  induction n with
  | zero => simp [txt]
  | succ n ih =>
    have h1 := ih (fun j hj => h j (by omega))
    have h2 := itoa_len (f n) (h n (by omega)).1 (h n (by omega)).2
    rw [txt]
    split
    · simp; omega
    · simp; omega
theorem txt_app (f : Nat → Int) {j : Nat} (h : 0 < j) : txt f (j + 1) = txt f j ++ [32] ++ Lib.itoa (f j) := by rw [txt, if_neg (by omega)]
theorem txt_one (f : Nat → Int) : txt f 1 = Lib.itoa (f 0) := by rw [txt, if_pos rfl]; rfl
set_option maxRecDepth 100000 in
set_option maxHeartbeats 2000000 in
theorem l17Text_c (a : Option Addr) (n c : Nat) (f : Nat → Int) (w : World) (hn : n ≤ 1048576) (hs : S1 w a n f) (hf : ∀ j, j < n → -9223372036854775808 ≤ f j ∧ f j ≤ 9223372036854775807) :
    Calls Tryd.prog 33 #[.slice a n c] w fun e w' => e = .returned (.string ⟨(txt f n).toArray⟩) ∧ Ext w w' := by
  have HS := Lib.hid hs
  have HF := Lib.hid hf
  clear hs hf
  go_enter Tryd.func33, Tryd.ntmps33
  go_wp2_with fail
  go_loopw [3, 4] (fun v3 v4 wr => ∃ (j : Nat) (L : List UInt8), j ≤ n ∧ v3 = .string ⟨L.toArray⟩ ∧ v4 = .int .i64 j ∧ L = txt f j ∧ Ext w wr) (fun _ v4 _ => n - (intOf v4).toNat)
  case atStart => exact ⟨0, [], by omega, rfl, rfl, rfl, Ext.refl _⟩
  case round =>
    obtain ⟨j, L, hj, rfl, rfl, hL, hx⟩ := hrel
    have x0 : (0 : Int) ≤ (j : Int) := by omega
    have hlen : L.length ≤ 22020096 := by rw [hL]; have := txt_len (f := f) (n := j) (fun i hi => HF.out i (by omega)); omega
    have HL := Lib.hid hL
    clear hL
    by_cases hlt : j < n
    · have x1 : (j : Int) < (n : Int) := by omega
      obtain ⟨b1, o1, rfl, hb1, q1⟩ := (HS.out.ext hx).at hlt
      obtain ⟨f0, f1⟩ := HF.out j hlt
      obtain ⟨A, hA⟩ : ∃ A, A = Lib.itoa (f j) := ⟨_, rfl⟩
      have hAl : A.length ≤ 20 := by rw [hA]; exact itoa_len _ f0 f1
      have HD := Lib.hid (fun (W : World) => (show Calls Tryd.prog 57 #[.int .i64 (f j)] W (fun e w' => e = .returned (.string ⟨A.toArray⟩) ∧ Ext W w') from by rw [hA]; exact l01Dec_c (f j) W f0 f1))
      have HA := Lib.hid hA
      clear hA
      by_cases hj0 : j = 0
      · subst hj0
        rw [Nat.add_zero] at q1
        go_wp2_with (go_at_call 57; ((with_reducible refine (HD.out _).mono ?_); rintro e w' ⟨rfl, hx⟩; (first | (obtain ⟨wx, rfl⟩ := Past.again hx) | (obtain ⟨wx, rfl⟩ := Past.ofd hx) | (obtain ⟨wx, rfl⟩ := Past.of hx))))
        exact ⟨⟨1, A, by omega, by (have e := HL.out; rw [txt] at e; subst e; exact congrArg Value.string (ba_app [] A)), by go_num, by rw [txt_one]; exact HA.out, (by repeat (first | with_reducible exact Ext.refl _ | with_reducible assumption | with_reducible refine Ext.alloc ?_ _ | with_reducible refine Ext.drew ?_ | (with_reducible refine Ext.setAt ?_ _ _ _ ?_; rotate_left; omega) | with_reducible refine Ext.trans ?_ (by assumption) | with_reducible exact Past.bel _ | with_reducible refine Ext.trans ?_ (Past.bel _)))⟩, by simp [intOf]; omega⟩
      · have hj1 : (0 : Int) < (j : Int) := by omega
        go_wp2_with (go_at_call 57; ((with_reducible refine (HD.out _).mono ?_); rintro e w' ⟨rfl, hx⟩; (first | (obtain ⟨wx, rfl⟩ := Past.again hx) | (obtain ⟨wx, rfl⟩ := Past.ofd hx) | (obtain ⟨wx, rfl⟩ := Past.of hx))))
        exact ⟨⟨j + 1, L ++ [32] ++ A, by omega, by rw [← ba_app, ← ba_app], by go_num, by rw [txt_app f (by omega), HL.out, HA.out], (by repeat (first | with_reducible exact Ext.refl _ | with_reducible assumption | with_reducible refine Ext.alloc ?_ _ | with_reducible refine Ext.drew ?_ | (with_reducible refine Ext.setAt ?_ _ _ _ ?_; rotate_left; omega) | with_reducible refine Ext.trans ?_ (by assumption) | with_reducible exact Past.bel _ | with_reducible refine Ext.trans ?_ (Past.bel _)))⟩, by simp [intOf]; omega⟩
    · have x1 : ¬ (j : Int) < (n : Int) := by omega
      obtain rfl : j = n := by omega
      go_wp2_with fail
      go_ret
      exact ⟨by rw [HL.out]; rfl, hx⟩
theorem s1_four {w : World} {g : Nat} {T : TypeId} {a b c d : Int} (h : Blk w g T #[.int .i64 a, .int .i64 b, .int .i64 c, .int .i64 d]) (z : Nat → Int) (z0 : z 0 = a) (z1 : z 1 = b) (z2 : z 2 = c) (z3 : z 3 = d) : S1 w (some ⟨g, 0, none⟩) 4 z := fun _ =>
  ⟨g, 0, rfl, h.lt, fun j hj => by
    rw [Nat.zero_add, h.cell]
    (obtain rfl | rfl | rfl | rfl : j = 0 ∨ j = 1 ∨ j = 2 ∨ j = 3 := by omega) <;> simp [z0, z1, z2, z3]⟩
theorem two_new' (w : World) (T U : TypeId) (c1 c2 : Array Value) : Blk ((w.alloc (.cells c1 T)).alloc (.cells c2 U)) (w.heap.size + 1) U c2 := by
  have := Blk.new (w.alloc (.cells c1 T)) c2 U
  rwa [World.size_alloc] at this
/-- a fault's text -/
def ft (a b c d : Int) : List UInt8 := Lib.itoa a ++ [32] ++ Lib.itoa b ++ [32] ++ Lib.itoa c ++ [32] ++ Lib.itoa d
structure B64 (n : Int) : Prop where
  lo : -9223372036854775808 ≤ n
  hi : n ≤ 9223372036854775807
set_option maxRecDepth 100000 in
set_option maxHeartbeats 2000000 in
theorem specFaultText_c (a b c d : Int) (w : World) (ha : B64 a) (hb : B64 b) (hc : B64 c) (hd : B64 d) :
    Calls Tryd.prog 8 #[.agg #[.int .i64 a, .int .i64 b, .int .i64 c, .int .i64 d]] w fun e w' => e = .returned (.string ⟨(ft a b c d).toArray⟩) ∧ Ext w w' := by
  obtain ⟨z, z0, z1, z2, z3⟩ : ∃ z : Nat → Int, z 0 = a ∧ z 1 = b ∧ z 2 = c ∧ z 3 = d := ⟨(fun j => if j = 0 then a else if j = 1 then b else if j = 2 then c else d), rfl, rfl, rfl, rfl⟩
  have e4 : txt z 4 = ft a b c d := by
    rw [txt_app z (by decide), txt_app z (by decide), txt_app z (by decide), txt_one, z0, z1, z2, z3]; rfl
  have HZ := Lib.hid (And.intro z0 (And.intro z1 (And.intro z2 (And.intro z3 e4))))
  have HL := Lib.hid (fun (j : Nat) (hj : j < 4) => (show -9223372036854775808 ≤ z j ∧ z j ≤ 9223372036854775807 from by
    (obtain rfl | rfl | rfl | rfl : j = 0 ∨ j = 1 ∨ j = 2 ∨ j = 3 := by omega)
    · rw [z0]; exact ⟨ha.lo, ha.hi⟩
    · rw [z1]; exact ⟨hb.lo, hb.hi⟩
    · rw [z2]; exact ⟨hc.lo, hc.hi⟩
    · rw [z3]; exact ⟨hd.lo, hd.hi⟩))
  clear z0 z1 z2 z3 e4
  have HT := Lib.hid (fun (W : World) => (show Calls Tryd.prog 27 #[.agg #[.int .i64 a, .int .i64 b, .int .i64 c, .int .i64 d]] W (fun e w' => e = .returned (.string ⟨(ft a b c d).toArray⟩) ∧ Ext W w') from by
    go_enter Tryd.func27, Tryd.ntmps27
    go_wp2_with fail
    refine (l17Text_c (some ⟨W.heap.size + 1, 0, none⟩) 4 4 z ((W.alloc (.cells #[.int .i64 a, .int .i64 b, .int .i64 c, .int .i64 d] 25)).alloc (.cells #[.int .i64 a, .int .i64 b, .int .i64 c, .int .i64 d] 2)) (by omega) (s1_four (two_new' W _ _ _ _) z HZ.out.1 HZ.out.2.1 HZ.out.2.2.1 HZ.out.2.2.2.1) HL.out).mono ?_
    rintro e w' ⟨rfl, hx⟩
    go_wp2_with fail
    go_ret
    exact ⟨by rw [HZ.out.2.2.2.2]; rfl, Ext.trans (by repeat (first | with_reducible exact Ext.refl _ | with_reducible assumption | with_reducible refine Ext.alloc ?_ _ | with_reducible refine Ext.drew ?_ | (with_reducible refine Ext.setAt ?_ _ _ _ ?_; rotate_left; omega) | with_reducible refine Ext.trans ?_ (by assumption) | with_reducible exact Past.bel _ | with_reducible refine Ext.trans ?_ (Past.bel _))) hx⟩))
  go_enter Tryd.func8, Tryd.ntmps8
  go_wp2_with (go_at_call 27; ((with_reducible refine (HT.out _).mono ?_); rintro e w' ⟨rfl, hx⟩; (first | (obtain ⟨wx, rfl⟩ := Past.again hx) | (obtain ⟨wx, rfl⟩ := Past.ofd hx) | (obtain ⟨wx, rfl⟩ := Past.of hx))))
  go_ret
  exact ⟨rfl, (by repeat (first | with_reducible exact Ext.refl _ | with_reducible assumption | with_reducible refine Ext.alloc ?_ _ | with_reducible refine Ext.drew ?_ | (with_reducible refine Ext.setAt ?_ _ _ _ ?_; rotate_left; omega) | with_reducible refine Ext.trans ?_ (by assumption) | with_reducible exact Past.bel _ | with_reducible refine Ext.trans ?_ (Past.bel _)))⟩
set_option maxRecDepth 100000 in
set_option maxHeartbeats 2000000 in
theorem implFaultText_c (a b c d : Int) (w : World) (ht : Tab w) (ha : B64 a) (hb : B64 b) (hc : B64 c) (hd : B64 d) :
    Calls Tryd.prog 10 #[.agg #[.int .i64 a, .int .i64 b, .int .i64 c, .int .i64 d]] w fun e w' => e = .returned (.string ⟨(ft a b c d).toArray⟩) ∧ Ext w w' := by
  obtain ⟨A, hA⟩ : ∃ A, A = Lib.itoa a := ⟨_, rfl⟩
  obtain ⟨B, hB⟩ : ∃ A, A = Lib.itoa b := ⟨_, rfl⟩
  obtain ⟨C, hC⟩ : ∃ A, A = Lib.itoa c := ⟨_, rfl⟩
  obtain ⟨D, hD⟩ : ∃ A, A = Lib.itoa d := ⟨_, rfl⟩
  have la : A.length ≤ 20 := by rw [hA]; exact itoa_len _ ha.lo ha.hi
  have lb : B.length ≤ 20 := by rw [hB]; exact itoa_len _ hb.lo hb.hi
  have lc : C.length ≤ 20 := by rw [hC]; exact itoa_len _ hc.lo hc.hi
  have ld : D.length ≤ 20 := by rw [hD]; exact itoa_len _ hd.lo hd.hi
  have TA := Lib.hid (fun (W : World) (hq : Ext w W) => (show Calls Tryd.prog 28 #[.int .i64 a] W (fun e w' => e = .returned (.string ⟨A.toArray⟩) ∧ Ext W w') from by rw [hA]; exact decimal_c a W ha.lo ha.hi (ht.ext hq)))
  have TB := Lib.hid (fun (W : World) (hq : Ext w W) => (show Calls Tryd.prog 28 #[.int .i64 b] W (fun e w' => e = .returned (.string ⟨B.toArray⟩) ∧ Ext W w') from by rw [hB]; exact decimal_c b W hb.lo hb.hi (ht.ext hq)))
  have TC := Lib.hid (fun (W : World) (hq : Ext w W) => (show Calls Tryd.prog 28 #[.int .i64 c] W (fun e w' => e = .returned (.string ⟨C.toArray⟩) ∧ Ext W w') from by rw [hC]; exact decimal_c c W hc.lo hc.hi (ht.ext hq)))
  have TD := Lib.hid (fun (W : World) (hq : Ext w W) => (show Calls Tryd.prog 28 #[.int .i64 d] W (fun e w' => e = .returned (.string ⟨D.toArray⟩) ∧ Ext W w') from by rw [hD]; exact decimal_c d W hd.lo hd.hi (ht.ext hq)))
  have hft : ft a b c d = A ++ [32] ++ B ++ [32] ++ C ++ [32] ++ D := by rw [hA, hB, hC, hD]; rfl
  have HT := Lib.hid hft
  clear hA hB hC hD hft
  go_enter Tryd.func10, Tryd.ntmps10
  go_wp2_with fail
  refine wp_region_past (by kernel_rfl) (by kernel_rfl) ?_
  repeat (go_big_quiet_step (first | (go_at_call 28; exact Calls.past (TA.out _ (by repeat (first | with_reducible exact Ext.refl _ | with_reducible assumption | with_reducible refine Ext.alloc ?_ _ | with_reducible refine Ext.drew ?_ | (with_reducible refine Ext.setAt ?_ _ _ _ ?_; rotate_left; omega) | with_reducible refine Ext.trans ?_ (by assumption) | with_reducible exact Past.bel _ | with_reducible refine Ext.trans ?_ (Past.bel _))))) | (go_at_call 28; exact Calls.past (TB.out _ (by repeat (first | with_reducible exact Ext.refl _ | with_reducible assumption | with_reducible refine Ext.alloc ?_ _ | with_reducible refine Ext.drew ?_ | (with_reducible refine Ext.setAt ?_ _ _ _ ?_; rotate_left; omega) | with_reducible refine Ext.trans ?_ (by assumption) | with_reducible exact Past.bel _ | with_reducible refine Ext.trans ?_ (Past.bel _))))) | (go_at_call 28; exact Calls.past (TC.out _ (by repeat (first | with_reducible exact Ext.refl _ | with_reducible assumption | with_reducible refine Ext.alloc ?_ _ | with_reducible refine Ext.drew ?_ | (with_reducible refine Ext.setAt ?_ _ _ _ ?_; rotate_left; omega) | with_reducible refine Ext.trans ?_ (by assumption) | with_reducible exact Past.bel _ | with_reducible refine Ext.trans ?_ (Past.bel _))))) | (go_at_call 28; exact Calls.past (TD.out _ (by repeat (first | with_reducible exact Ext.refl _ | with_reducible assumption | with_reducible refine Ext.alloc ?_ _ | with_reducible refine Ext.drew ?_ | (with_reducible refine Ext.setAt ?_ _ _ _ ?_; rotate_left; omega) | with_reducible refine Ext.trans ?_ (by assumption) | with_reducible exact Past.bel _ | with_reducible refine Ext.trans ?_ (Past.bel _)))))))
  refine wpQuiet_nil ?_
  rintro _ ⟨wx, rfl⟩
  go_wp2_with fail
  go_ret
  exact ⟨by rw [HT.out, ← ba_app, ← ba_app, ← ba_app, ← ba_app, ← ba_app, ← ba_app]; rfl, (by repeat (first | with_reducible exact Ext.refl _ | with_reducible assumption | with_reducible refine Ext.alloc ?_ _ | with_reducible refine Ext.drew ?_ | (with_reducible refine Ext.setAt ?_ _ _ _ ?_; rotate_left; omega) | with_reducible refine Ext.trans ?_ (by assumption) | with_reducible exact Past.bel _ | with_reducible refine Ext.trans ?_ (Past.bel _)))⟩
end Go.Proofs.YtppphpnimecgpaaDoor

namespace Go.Proofs.YtppphpnimecgpaaDoor
set_option linter.unusedVariables false

/-- n lies from l to h -/
def inB (n l h : Int) : Bool := decide (l ≤ n) && decide (n ≤ h)
theorem inB_t {n l h : Int} : inB n l h = true ↔ l ≤ n ∧ n ≤ h := by simp [inB]
theorem inB_f {n l h : Int} : inB n l h = false ↔ ¬ (l ≤ n ∧ n ≤ h) := by rw [← inB_t]; simp

/-- the greatest common divisor -/
def gcdI (a b : Int) : Int := (Int.gcd a b : Nat)
theorem gcdI_step {a b : Int} (ha : 0 ≤ a) (hb : 0 < b) : gcdI b (a.tmod b) = gcdI a b := by
  obtain ⟨m, rfl⟩ := Int.eq_ofNat_of_zero_le ha
  obtain ⟨n, rfl⟩ := Int.eq_ofNat_of_zero_le (Int.le_of_lt hb)
  have h1 : (m : Int).tmod n = ((m % n : Nat) : Int) := by rw [Int.tmod_eq_emod_of_nonneg (by omega)]; rfl
  rw [h1]
  simp only [gcdI, Int.gcd, Int.natAbs_natCast]
  rw [Nat.gcd_comm n (m % n), ← Nat.gcd_rec, Nat.gcd_comm]
theorem gcdI_zero {a : Int} (ha : 0 ≤ a) : gcdI a 0 = a := by
  simp only [gcdI, Int.gcd, Int.natAbs_zero, Nat.gcd_zero_right]; omega
theorem gcdI_bd {a b : Int} (ha : 1 ≤ a) (hb : 1 ≤ b) : 1 ≤ gcdI a b ∧ gcdI a b ≤ b ∧ gcdI a b ≤ a := by
  have h1 : 0 < Int.gcd a b := Int.gcd_pos_of_ne_zero_left _ (by omega)
  have h2 : (Int.gcd a b : Int) ≤ b := Int.le_of_dvd (by omega) (Int.gcd_dvd_right ..)
  have h3 : (Int.gcd a b : Int) ≤ a := Int.le_of_dvd (by omega) (Int.gcd_dvd_left ..)
  exact ⟨by unfold gcdI; omega, h2, h3⟩
theorem gcdI_dl {a b : Int} : gcdI a b ∣ a := Int.gcd_dvd_left ..
theorem gcdI_dr {a b : Int} : gcdI a b ∣ b := Int.gcd_dvd_right ..

/-- the years of the cycle of the first k rules; more than 2000 if there are more -/
def cyY (ev : Nat → Int) : Nat → Int
  | 0 => 1
  | k + 1 => if cyY ev k ≤ 2000 then cyY ev k / gcdI (cyY ev k) (ev k) * ev k else cyY ev k
theorem cyY_bd {ev : Nat → Int} {k : Nat} (he : ∀ j, j < k → 1 ≤ ev j ∧ ev j ≤ 1000) : 1 ≤ cyY ev k ∧ cyY ev k ≤ 2000000 := by
  induction k with
  | zero => simp [cyY]
  | succ k ih =>
    have h1 := ih fun j hj => he j (by omega)
    have h2 := he k (by omega)
    simp only [cyY]
    split
    · have h3 := gcdI_bd h1.1 h2.1
      have h4 : 1 ≤ cyY ev k / gcdI (cyY ev k) (ev k) := by
        apply Int.le_ediv_of_mul_le (by omega); omega
      have h5 : cyY ev k / gcdI (cyY ev k) (ev k) ≤ 2000 := by
        have := Int.ediv_le_self (gcdI (cyY ev k) (ev k)) (show 0 ≤ cyY ev k by omega); omega
      have h6 := Int.mul_le_mul h5 h2.2 (by omega) (by omega)
      have h7 := Int.mul_le_mul h4 h2.1 (by omega) (by omega)
      omega
    · exact h1
/-- the step, as both programs reckon it -/
structure CyS (ev : Nat → Int) (k : Nat) : Prop where
  y0 : 1 ≤ cyY ev k
  y1 : cyY ev k ≤ 2000000
  g0 : 1 ≤ gcdI (cyY ev k) (ev k)
  q0 : 0 ≤ cyY ev k / gcdI (cyY ev k) (ev k)
  q1 : cyY ev k ≤ 2000 → cyY ev k / gcdI (cyY ev k) (ev k) ≤ 2000
  p0 : 0 ≤ cyY ev k / gcdI (cyY ev k) (ev k) * ev k
  p1 : cyY ev k ≤ 2000 → cyY ev k / gcdI (cyY ev k) (ev k) * ev k ≤ 2000000
theorem cyS {ev : Nat → Int} {k : Nat} (he : ∀ j, j < k + 1 → 1 ≤ ev j ∧ ev j ≤ 1000) : CyS ev k := by
  have h1 := cyY_bd (ev := ev) (k := k) fun j hj => he j (by omega)
  have h2 := he k (by omega)
  have h3 := gcdI_bd h1.1 h2.1
  have h4 : 0 ≤ cyY ev k / gcdI (cyY ev k) (ev k) := Int.ediv_nonneg (by omega) (by omega)
  have h5 := Int.ediv_le_self (gcdI (cyY ev k) (ev k)) (show 0 ≤ cyY ev k by omega)
  refine ⟨h1.1, h1.2, h3.1, h4, fun h => by omega, Int.mul_nonneg h4 (by omega), fun h => ?_⟩
  have := Int.mul_le_mul (show cyY ev k / gcdI (cyY ev k) (ev k) ≤ 2000 by omega) h2.2 (by omega) (by omega)
  omega
/-- behind more than 2000 years nothing changes -/
theorem cyY_stuck {ev : Nat → Int} {k : Nat} (h : 2000 < cyY ev k) (n : Nat) (hn : k ≤ n) : 2000 < cyY ev n := by
  induction n with
  | zero => have : k = 0 := by omega
            subst this; exact h
  | succ n ih =>
    by_cases e : k = n + 1
    · subst e; exact h
    · have := ih (by omega)
      simp only [cyY]; rw [if_neg (by omega)]; exact this
theorem cyY_dvd {ev : Nat → Int} {n : Nat} (h : cyY ev n ≤ 2000) {k : Nat} (hk : k < n) : ev k ∣ cyY ev n := by
  induction n with
  | zero => omega
  | succ n ih =>
    have h1 : cyY ev n ≤ 2000 := by
      rcases Int.lt_or_le 2000 (cyY ev n) with h2 | h2
      · have := cyY_stuck h2 (n + 1) (by omega); omega
      · exact h2
    have h3 : cyY ev (n + 1) = cyY ev n / gcdI (cyY ev n) (ev n) * ev n := by simp only [cyY]; rw [if_pos h1]
    by_cases e : k = n
    · subst e; rw [h3]; exact Int.dvd_mul_left _ _
    · have h4 := ih h1 (by omega)
      refine Int.dvd_trans h4 ?_
      rw [h3]
      obtain ⟨c, hc⟩ := gcdI_dr (a := cyY ev n) (b := ev n)
      have h5 : cyY ev n / gcdI (cyY ev n) (ev n) * gcdI (cyY ev n) (ev n) = cyY ev n := Int.ediv_mul_cancel gcdI_dl
      refine ⟨c, ?_⟩
      calc cyY ev n / gcdI (cyY ev n) (ev n) * ev n = cyY ev n / gcdI (cyY ev n) (ev n) * (gcdI (cyY ev n) (ev n) * c) := by rw [← hc]
        _ = cyY ev n / gcdI (cyY ev n) (ev n) * gcdI (cyY ev n) (ev n) * c := by rw [Int.mul_assoc]
        _ = cyY ev n * c := by rw [h5]
/-- all of the first k rules are valid -/
def rulTo (ev rs : Nat → Int) : Nat → Bool
  | 0 => true
  | k + 1 => rulTo ev rs k && (inB (ev k) 1 1000 && inB (rs k) 0 (ev k - 1))
theorem rulTo_at {ev rs : Nat → Int} {n k : Nat} (h : rulTo ev rs n = true) (hk : k < n) : (1 ≤ ev k ∧ ev k ≤ 1000) ∧ 0 ≤ rs k ∧ rs k ≤ ev k - 1 := by
  induction n with
  | zero => omega
  | succ n ih =>
    simp only [rulTo, Bool.and_eq_true, inB_t] at h
    by_cases e : k = n
    · subst e; exact h.2
    · exact ih h.1 (by omega)
theorem rulTo_ff {ev rs : Nat → Int} {n k : Nat} (hk : k < n) (hb : (inB (ev k) 1 1000 && inB (rs k) 0 (ev k - 1)) = false) : rulTo ev rs n = false := by
  induction n with
  | zero => omega
  | succ n ih =>
    by_cases e : k = n
    · subst e; simp only [rulTo, hb, Bool.and_false]
    · simp only [rulTo, ih (by omega), Bool.false_and]
theorem rulTo_le {ev rs : Nat → Int} {n k : Nat} (h : rulTo ev rs n = true) (hk : k ≤ n) : rulTo ev rs k = true := by
  induction n with
  | zero => have : k = 0 := by omega
            subst this; exact h
  | succ n ih =>
    by_cases e : k = n + 1
    · subst e; exact h
    · simp only [rulTo, Bool.and_eq_true] at h
      exact ih h.1 (by omega)
/-- a leap year, by the first k rules -/
def lpTo (ev rs : Nat → Int) (lf : Nat → Bool) (y : Int) : Nat → Bool
  | 0 => false
  | k + 1 => if y % ev k = rs k then lf k else lpTo ev rs lf y k
theorem lpTo_add {ev rs : Nat → Int} {lf : Nat → Bool} {n : Nat} {c : Int} (hd : ∀ k, k < n → ev k ∣ c) (y : Int) : lpTo ev rs lf (y + c) n = lpTo ev rs lf y n := by
  induction n with
  | zero => rfl
  | succ n ih =>
    have h1 := hd n (by omega)
    have h2 : (y + c) % ev n = y % ev n := by
      obtain ⟨d, rfl⟩ := h1
      exact Int.add_mul_emod_self_left y (ev n) d
    simp only [lpTo, h2]
    rw [ih fun k hk => hd k (by omega)]
end Go.Proofs.YtppphpnimecgpaaDoor

namespace Go.Proofs.YtppphpnimecgpaaDoor
set_option linter.unusedVariables false

/-- a sum -/
def sm (f : Nat → Int) : Nat → Int
  | 0 => 0
  | k + 1 => sm f k + f k
theorem sm_bd {f : Nat → Int} {A B : Int} {k : Nat} (hf : ∀ j, j < k → A ≤ f j ∧ f j ≤ B) : A * k ≤ sm f k ∧ sm f k ≤ B * k := by
  induction k with
  | zero => simp [sm]
  | succ k ih =>
    have h1 := ih (fun j hj => hf j (by omega))
    have h2 := hf k (by omega)
    have h3 : A * ((k + 1 : Nat) : Int) = A * k + A := by rw [Int.natCast_add, Int.mul_add]; simp
    have h4 : B * ((k + 1 : Nat) : Int) = B * k + B := by rw [Int.natCast_add, Int.mul_add]; simp
    simp only [sm]
    omega
theorem sm_add (f : Nat → Int) (m k : Nat) : sm f (m + k) = sm f m + sm (fun i => f (m + i)) k := by
  induction k with
  | zero => simp [sm]
  | succ k ih =>
    rw [← Nat.add_assoc]
    simp only [sm, ih]; omega
theorem sm_congr {f g : Nat → Int} {k : Nat} (h : ∀ j, j < k → f j = g j) : sm f k = sm g k := by
  induction k with
  | zero => rfl
  | succ k ih => simp only [sm, ih fun j hj => h j (by omega), h k (by omega)]
theorem sm_mono {f : Nat → Int} {i k : Nat} (hk : i ≤ k) (hf : ∀ j, j < k → 0 ≤ f j) : sm f i ≤ sm f k := by
  induction k with
  | zero => have : i = 0 := by omega
            subst this; exact Int.le_refl _
  | succ k ih =>
    by_cases e : i = k + 1
    · subst e; exact Int.le_refl _
    · have := ih (by omega) fun j hj => hf j (by omega)
      have := hf k (by omega)
      simp only [sm]; omega
theorem sm_lt {f : Nat → Int} {i k : Nat} (hk : i < k) (hf : ∀ j, j < k → 1 ≤ f j) : sm f i < sm f k := by
  have h1 := sm_mono (f := f) (i := i + 1) (k := k) hk fun j hj => by have := hf j hj; omega
  have h2 := hf i hk
  simp only [sm] at h1; omega
/-- a place is told by its sum -/
theorem sm_place {f : Nat → Int} {i j n : Nat} {x : Int} (hf : ∀ k, k < n → 1 ≤ f k) (hi : i < n) (hj : j < n) (h1 : sm f i ≤ x) (h2 : x < sm f (i + 1)) (h3 : sm f j ≤ x) (h4 : x < sm f (j + 1)) : i = j := by
  rcases Nat.lt_trichotomy i j with h | h | h
  · have := sm_mono (f := f) (i := i + 1) (k := j) h fun k hk => by have := hf k (by omega); omega
    omega
  · exact h
  · have := sm_mono (f := f) (i := j + 1) (k := i) h fun k hk => by have := hf k (by omega); omega
    omega
/-- a calendar: rules and months, as numbers -/
structure CalN where
  nr : Nat
  ev : Nat → Int
  rs : Nat → Int
  lf : Nat → Bool
  n : Nat
  dy : Nat → Int
  lp : Nat → Int
/-- what a valid one bounds -/
structure CalB (c : CalN) : Prop where
  nr6 : c.nr ≤ 6
  n1 : 1 ≤ c.n
  n20 : c.n ≤ 20
  ev : ∀ j, j < c.nr → 1 ≤ c.ev j ∧ c.ev j ≤ 1000
  rs : ∀ j, j < c.nr → 0 ≤ c.rs j ∧ c.rs j ≤ c.ev j - 1
  dy : ∀ j, j < c.n → 1 ≤ c.dy j ∧ c.dy j ≤ 60
  lp : ∀ j, j < c.n → 1 ≤ c.lp j ∧ c.lp j ≤ 60
  cy : cyY c.ev c.nr ≤ 2000
/-- a leap year -/
def CalN.leap (c : CalN) (y : Int) : Bool := lpTo c.ev c.rs c.lf y c.nr
/-- the days of month j (from 0 on) of year y -/
def CalN.mo (c : CalN) (y : Int) (j : Nat) : Int := if c.leap y then c.lp j else c.dy j
/-- the days of a year -/
def CalN.yl (c : CalN) (y : Int) : Int := sm (c.mo y) c.n
/-- the days of the years before year k -/
def CalN.bef (c : CalN) (k : Nat) : Int := sm (fun i => c.yl (i : Int)) k
/-- the years of the cycle -/
def CalN.cyc (c : CalN) : Int := cyY c.ev c.nr
theorem CalB.cyc1 {c : CalN} (b : CalB c) : 1 ≤ c.cyc ∧ c.cyc ≤ 2000 := ⟨(cyY_bd b.ev).1, b.cy⟩
theorem CalB.mo {c : CalN} (b : CalB c) (y : Int) {j : Nat} (hj : j < c.n) : 1 ≤ c.mo y j ∧ c.mo y j ≤ 60 := by
  unfold CalN.mo; split
  · exact b.lp j hj
  · exact b.dy j hj
theorem CalB.yl {c : CalN} (b : CalB c) (y : Int) : 1 ≤ c.yl y ∧ c.yl y ≤ 1200 := by
  have h1 := sm_bd (f := c.mo y) (A := 1) (B := 60) (k := c.n) fun j hj => b.mo y hj
  have := b.n1; have := b.n20
  unfold CalN.yl; omega
theorem CalB.bef {c : CalN} (b : CalB c) (k : Nat) : (k : Int) ≤ c.bef k ∧ c.bef k ≤ 1200 * k := by
  have h1 := sm_bd (f := fun i => c.yl (i : Int)) (A := 1) (B := 1200) (k := k) fun j _ => b.yl _
  unfold CalN.bef; omega
theorem CalB.leap_add {c : CalN} (b : CalB c) (y : Int) : c.leap (y + c.cyc) = c.leap y :=
  lpTo_add (fun k hk => cyY_dvd b.cy hk) y
theorem CalB.yl_add {c : CalN} (b : CalB c) (y : Int) : c.yl (y + c.cyc) = c.yl y := by
  have h : c.mo (y + c.cyc) = c.mo y := by funext j; unfold CalN.mo; rw [b.leap_add]
  unfold CalN.yl; rw [h]
theorem CalB.leap_mul {c : CalN} (b : CalB c) (y : Int) (q : Nat) : c.leap (y + q * c.cyc) = c.leap y := by
  induction q with
  | zero => simp
  | succ q ih =>
    have h1 : y + ((q + 1 : Nat) : Int) * c.cyc = (y + q * c.cyc) + c.cyc := by rw [Int.natCast_add, Int.add_mul]; simp; omega
    rw [h1, b.leap_add, ih]
theorem CalB.yl_mul {c : CalN} (b : CalB c) (y : Int) (q : Nat) : c.yl (y + q * c.cyc) = c.yl y := by
  have h : c.mo (y + q * c.cyc) = c.mo y := by funext j; unfold CalN.mo; rw [b.leap_mul]
  unfold CalN.yl; rw [h]
/-- the years of the cycle, as a natural number -/
theorem CalB.cycN {c : CalN} (b : CalB c) : ∃ C : Nat, c.cyc = C ∧ 1 ≤ C ∧ C ≤ 2000 := by
  have h := b.cyc1
  exact ⟨c.cyc.toNat, by omega, by omega, by omega⟩
/-- the days before a year, by cycles -/
theorem CalB.bef_mul {c : CalN} (b : CalB c) {C : Nat} (hC : c.cyc = C) (q r : Nat) : c.bef (q * C + r) = q * c.bef C + c.bef r := by
  have h0 : ∀ q, c.bef (q * C) = q * c.bef C := by
    intro q
    induction q with
    | zero => simp [CalN.bef, sm]
    | succ q ih =>
      have h1 : c.bef ((q + 1) * C) = c.bef (q * C) + c.bef C := by
        unfold CalN.bef
        rw [Nat.add_mul, Nat.one_mul, sm_add]
        congr 1
        refine sm_congr fun j _ => ?_
        show c.yl ((q * C + j : Nat) : Int) = c.yl (j : Int)
        have h2 : ((q * C + j : Nat) : Int) = (j : Int) + q * c.cyc := by rw [hC, Int.natCast_add, Int.natCast_mul]; omega
        rw [h2, b.yl_mul]
      rw [h1, ih, Int.natCast_add, Int.add_mul]; simp
  unfold CalN.bef at h0 ⊢
  rw [sm_add, h0]
  congr 1
  refine sm_congr fun j _ => ?_
  show c.yl ((q * C + j : Nat) : Int) = c.yl (j : Int)
  have h2 : ((q * C + j : Nat) : Int) = (j : Int) + q * c.cyc := by rw [hC, Int.natCast_add, Int.natCast_mul]; omega
  rw [h2, b.yl_mul]
/-- the number of a day -/
def CalN.num (c : CalN) (y : Nat) (m : Nat) (d : Int) : Int := c.bef y + sm (c.mo (y : Int)) m + d - 1
/-- year y, month m (from 0 on), day d is the day with number x -/
structure Loc (c : CalN) (x : Int) (y m : Nat) (d : Int) : Prop where
  y0 : c.bef y ≤ x
  y1 : x < c.bef (y + 1)
  mn : m < c.n
  m0 : sm (c.mo (y : Int)) m ≤ x - c.bef y
  m1 : x - c.bef y < sm (c.mo (y : Int)) (m + 1)
  dd : d = x - c.bef y - sm (c.mo (y : Int)) m + 1
theorem Loc.one {c : CalN} (b : CalB c) {x : Int} {y m y' m' : Nat} {d d' : Int} (h : Loc c x y m d) (k : Loc c x y' m' d') : y = y' ∧ m = m' ∧ d = d' := by
  have e1 : y = y' := sm_place (f := fun i => c.yl (i : Int)) (n := y + y' + 1) (fun j _ => (b.yl _).1) (by omega) (by omega) h.y0 h.y1 k.y0 k.y1
  subst e1
  have e2 : m = m' := sm_place (fun j hj => (b.mo (y : Int) hj).1) h.mn k.mn h.m0 h.m1 k.m0 k.m1
  subst e2
  exact ⟨rfl, rfl, by rw [h.dd, k.dd]⟩
end Go.Proofs.YtppphpnimecgpaaDoor

namespace Go.Proofs.YtppphpnimecgpaaDoor
set_option linter.unusedVariables false
def sgn (a b : Int) : Int := if a < b then -1 else if b < a then 1 else 0
/-- the first number that is not 0, or 0 -/
def orV (z : Nat → Int) : Nat → Int
  | 0 => 0
  | n + 1 => if orV z n ≠ 0 then orV z n else z n
theorem orV_zero {z : Nat → Int} {n : Nat} (h : ∀ k, k < n → z k = 0) : orV z n = 0 := by
  induction n with
  | zero => rfl
  | succ n ih => simp only [orV, ih fun k hk => h k (by omega)]; simpa using h n (by omega)
theorem orV_hit {z : Nat → Int} {j n : Nat} (hj : j < n) (h : ∀ k, k < j → z k = 0) (h1 : z j ≠ 0) : orV z n = z j := by
  induction n with
  | zero => omega
  | succ n ih =>
    by_cases e : j = n
    · subst e; simp only [orV, orV_zero h]; simp
    · have := ih (by omega); simp only [orV, this]; simp [h1]
def cmpD (y m d y' m' d' : Int) : Int := if y ≠ y' then sgn y y' else if m ≠ m' then sgn m m' else sgn d d'
theorem sgn_zero {a b : Int} : sgn a b = 0 ↔ a = b := by unfold sgn; split <;> (try split) <;> omega
theorem cmpD_or {y m d y' m' d' : Int} {z : Nat → Int} (h0 : z 0 = sgn y y') (h1 : z 1 = sgn m m') (h2 : z 2 = sgn d d') : orV z 3 = cmpD y m d y' m' d' := by
  unfold cmpD
  by_cases a : y = y'
  · by_cases b : m = m'
    · have e0 : z 0 = 0 := by rw [h0, sgn_zero]; exact a
      have e1 : z 1 = 0 := by rw [h1, sgn_zero]; exact b
      simp only [orV, e0, e1]; simp [a, b, h2]
    · have e0 : z 0 = 0 := by rw [h0, sgn_zero]; exact a
      have e1 : z 1 ≠ 0 := by rw [h1, Ne, sgn_zero]; exact b
      simp only [orV, e0]; simp [e1]; simp [a, b, h1]
  · have e0 : z 0 ≠ 0 := by rw [h0, Ne, sgn_zero]; exact a
    simp only [orV]; simp [e0]; simp [a, h0]
end Go.Proofs.YtppphpnimecgpaaDoor

namespace Go.Proofs.YtppphpnimecgpaaDoor
open Go.RowKit
set_option linter.unusedVariables false
set_option linter.unusedSimpArgs false

theorem within_c (n l h : Int) (w : World) :
    Calls Tryd.prog 58 #[.int .i64 n, .int .i64 l, .int .i64 h] w fun e w' => e = .returned (.bool (inB n l h)) ∧ w = w' := by
  go_enter Tryd.func58, Tryd.ntmps58
  go_wp2
  all_goals (go_ret; refine ⟨ret_bool ?_, rfl⟩; rw [Bool.eq_iff_iff]; simp [inB]; try omega)
theorem l00In_c (n l h : Int) (w : World) :
    Calls Tryd.prog 59 #[.int .i64 n, .int .i64 l, .int .i64 h] w fun e w' => e = .returned (.bool (inB n l h)) ∧ w = w' := by
  go_enter Tryd.func59, Tryd.ntmps59
  go_wp2
  all_goals (go_ret; refine ⟨ret_bool ?_, rfl⟩; rw [Bool.eq_iff_iff]; simp [inB]; try omega)
theorem toDate_c (y m d : Int) (w : World) :
    Calls Tryd.prog 12 #[.agg #[.int .i64 y, .int .i64 m, .int .i64 d]] w fun e w' => e = .returned (.agg #[.int .i64 y, .int .i64 m, .int .i64 d]) ∧ Ext w w' := by
  go_enter Tryd.func12, Tryd.ntmps12
  go_wp2
  exact bodyPost_ret (v := .agg #[.int .i64 y, .int .i64 m, .int .i64 d]) (by simp [results, Tryd.results12, go_sem]) rfl ⟨rfl, (by repeat (first | with_reducible exact Ext.refl _ | with_reducible assumption | with_reducible refine Ext.alloc ?_ _ | with_reducible refine Ext.drew ?_ | (with_reducible refine Ext.setAt ?_ _ _ _ ?_; rotate_left; omega) | with_reducible refine Ext.trans ?_ (by assumption) | with_reducible exact Past.bel _ | with_reducible refine Ext.trans ?_ (Past.bel _)))⟩
end Go.Proofs.YtppphpnimecgpaaDoor

namespace Go.Proofs.YtppphpnimecgpaaDoor
open Go.RowKit
set_option linter.unusedVariables false
set_option linter.unusedSimpArgs false

theorem isYear_d (y : Int) (w : World) : Calls Tryd.prog 31 #[.int .i64 y] w fun e w' => e = .returned (.bool (inB y 0 9999)) ∧ w = w' := by
  go_enter Tryd.func31, Tryd.ntmps31
  go_wp2_with (go_at_call 58; ((with_reducible refine (within_c _ _ _ _).mono ?_); rintro e w' ⟨rfl, rfl⟩))
  go_ret
  exact ⟨rfl, rfl⟩
theorem l15Year_d (y : Int) (w : World) : Calls Tryd.prog 56 #[.int .i64 y] w fun e w' => e = .returned (.bool (inB y 0 9999)) ∧ w = w' := by
  go_enter Tryd.func56, Tryd.ntmps56
  go_wp2_with (go_at_call 59; ((with_reducible refine (l00In_c _ _ _ _).mono ?_); rintro e w' ⟨rfl, rfl⟩))
  go_ret
  exact ⟨rfl, rfl⟩
/-- a date's text -/
def dtx (y m d : Int) : List UInt8 := if inB y 0 9999 && (inB m 0 9999 && inB d 0 9999) then Lib.itoa y ++ [45] ++ Lib.itoa m ++ [45] ++ Lib.itoa d else []
theorem b_of {n : Int} (h : inB n 0 9999 = true) : B64 n := by
  obtain ⟨h0, h1⟩ := inB_t.1 h
  exact ⟨by omega, by omega⟩
set_option maxRecDepth 100000 in
set_option maxHeartbeats 2000000 in
theorem implDateText_c (a b c : Int) (w : World) (ht : Tab w) :
    Calls Tryd.prog 13 #[.agg #[.int .i64 a, .int .i64 b, .int .i64 c]] w fun e w' => e = .returned (.string ⟨(dtx a b c).toArray⟩) ∧ Ext w w' := by
  cases ha : inB a 0 9999
  · have hd := Lib.hid (show dtx a b c = [] by simp [dtx, ha])
    go_enter Tryd.func13, Tryd.ntmps13
    go_wp2_with (go_at_call 31; ((with_reducible refine (isYear_d _ _).mono ?_); rintro e w' ⟨rfl, rfl⟩))
    go_ret
    exact ⟨by rw [hd.out]; rfl, (by repeat (first | with_reducible exact Ext.refl _ | with_reducible assumption | with_reducible refine Ext.alloc ?_ _ | with_reducible refine Ext.drew ?_ | (with_reducible refine Ext.setAt ?_ _ _ _ ?_; rotate_left; omega) | with_reducible refine Ext.trans ?_ (by assumption) | with_reducible exact Past.bel _ | with_reducible refine Ext.trans ?_ (Past.bel _)))⟩
  · cases hb : inB b 0 9999
    · have hd := Lib.hid (show dtx a b c = [] by simp [dtx, hb])
      go_enter Tryd.func13, Tryd.ntmps13
      go_wp2_with (go_at_call 31; ((with_reducible refine (isYear_d _ _).mono ?_); rintro e w' ⟨rfl, rfl⟩))
      go_ret
      exact ⟨by rw [hd.out]; rfl, (by repeat (first | with_reducible exact Ext.refl _ | with_reducible assumption | with_reducible refine Ext.alloc ?_ _ | with_reducible refine Ext.drew ?_ | (with_reducible refine Ext.setAt ?_ _ _ _ ?_; rotate_left; omega) | with_reducible refine Ext.trans ?_ (by assumption) | with_reducible exact Past.bel _ | with_reducible refine Ext.trans ?_ (Past.bel _)))⟩
    · cases hc : inB c 0 9999
      · have hd := Lib.hid (show dtx a b c = [] by simp [dtx, hc])
        go_enter Tryd.func13, Tryd.ntmps13
        go_wp2_with (go_at_call 31; ((with_reducible refine (isYear_d _ _).mono ?_); rintro e w' ⟨rfl, rfl⟩))
        go_ret
        exact ⟨by rw [hd.out]; rfl, (by repeat (first | with_reducible exact Ext.refl _ | with_reducible assumption | with_reducible refine Ext.alloc ?_ _ | with_reducible refine Ext.drew ?_ | (with_reducible refine Ext.setAt ?_ _ _ _ ?_; rotate_left; omega) | with_reducible refine Ext.trans ?_ (by assumption) | with_reducible exact Past.bel _ | with_reducible refine Ext.trans ?_ (Past.bel _)))⟩
      · have pa := b_of ha
        have pb := b_of hb
        have pc := b_of hc
        obtain ⟨A, hA⟩ : ∃ A, A = Lib.itoa a := ⟨_, rfl⟩
        obtain ⟨B, hB⟩ : ∃ A, A = Lib.itoa b := ⟨_, rfl⟩
        obtain ⟨C, hC⟩ : ∃ A, A = Lib.itoa c := ⟨_, rfl⟩
        have la : A.length ≤ 20 := by rw [hA]; exact itoa_len _ pa.lo pa.hi
        have lb : B.length ≤ 20 := by rw [hB]; exact itoa_len _ pb.lo pb.hi
        have lc : C.length ≤ 20 := by rw [hC]; exact itoa_len _ pc.lo pc.hi
        have TA := Lib.hid (fun (W : World) (hq : Ext w W) => (show Calls Tryd.prog 28 #[.int .i64 a] W (fun e w' => e = .returned (.string ⟨A.toArray⟩) ∧ Ext W w') from by rw [hA]; exact decimal_c a W pa.lo pa.hi (ht.ext hq)))
        have TB := Lib.hid (fun (W : World) (hq : Ext w W) => (show Calls Tryd.prog 28 #[.int .i64 b] W (fun e w' => e = .returned (.string ⟨B.toArray⟩) ∧ Ext W w') from by rw [hB]; exact decimal_c b W pb.lo pb.hi (ht.ext hq)))
        have TC := Lib.hid (fun (W : World) (hq : Ext w W) => (show Calls Tryd.prog 28 #[.int .i64 c] W (fun e w' => e = .returned (.string ⟨C.toArray⟩) ∧ Ext W w') from by rw [hC]; exact decimal_c c W pc.lo pc.hi (ht.ext hq)))
        have hft : dtx a b c = A ++ [45] ++ B ++ [45] ++ C := by rw [hA, hB, hC, dtx, ha, hb, hc]; rfl
        have HT := Lib.hid hft
        clear hA hB hC hft
        go_enter Tryd.func13, Tryd.ntmps13
        go_wp2_with (go_at_call 31; ((with_reducible refine (isYear_d _ _).mono ?_); rintro e w' ⟨rfl, rfl⟩))
        refine wp_region_past (by kernel_rfl) (by kernel_rfl) ?_
        repeat (go_big_quiet_step (first | (go_at_call 28; exact Calls.past (TA.out _ (by repeat (first | with_reducible exact Ext.refl _ | with_reducible assumption | with_reducible refine Ext.alloc ?_ _ | with_reducible refine Ext.drew ?_ | (with_reducible refine Ext.setAt ?_ _ _ _ ?_; rotate_left; omega) | with_reducible refine Ext.trans ?_ (by assumption) | with_reducible exact Past.bel _ | with_reducible refine Ext.trans ?_ (Past.bel _))))) | (go_at_call 28; exact Calls.past (TB.out _ (by repeat (first | with_reducible exact Ext.refl _ | with_reducible assumption | with_reducible refine Ext.alloc ?_ _ | with_reducible refine Ext.drew ?_ | (with_reducible refine Ext.setAt ?_ _ _ _ ?_; rotate_left; omega) | with_reducible refine Ext.trans ?_ (by assumption) | with_reducible exact Past.bel _ | with_reducible refine Ext.trans ?_ (Past.bel _))))) | (go_at_call 28; exact Calls.past (TC.out _ (by repeat (first | with_reducible exact Ext.refl _ | with_reducible assumption | with_reducible refine Ext.alloc ?_ _ | with_reducible refine Ext.drew ?_ | (with_reducible refine Ext.setAt ?_ _ _ _ ?_; rotate_left; omega) | with_reducible refine Ext.trans ?_ (by assumption) | with_reducible exact Past.bel _ | with_reducible refine Ext.trans ?_ (Past.bel _)))))))
        refine wpQuiet_nil ?_
        rintro _ ⟨wx, rfl⟩
        go_wp2_with fail
        go_ret
        exact ⟨by rw [HT.out, ← ba_app, ← ba_app, ← ba_app, ← ba_app]; rfl, (by repeat (first | with_reducible exact Ext.refl _ | with_reducible assumption | with_reducible refine Ext.alloc ?_ _ | with_reducible refine Ext.drew ?_ | (with_reducible refine Ext.setAt ?_ _ _ _ ?_; rotate_left; omega) | with_reducible refine Ext.trans ?_ (by assumption) | with_reducible exact Past.bel _ | with_reducible refine Ext.trans ?_ (Past.bel _)))⟩
theorem l16Plain_c (a b c : Int) (w : World) :
    Calls Tryd.prog 29 #[.agg #[.int .i64 a, .int .i64 b, .int .i64 c]] w fun e w' => e = .returned (.bool (inB a 0 9999 && (inB b 0 9999 && inB c 0 9999))) ∧ Ext w w' := by
  cases ha : inB a 0 9999 <;> cases hb : inB b 0 9999 <;> cases hc : inB c 0 9999
  all_goals
    go_enter Tryd.func29, Tryd.ntmps29
    go_wp2_with (go_at_call 56; ((with_reducible refine (l15Year_d _ _).mono ?_); rintro e w' ⟨rfl, rfl⟩))
    go_ret
    exact ⟨rfl, (by repeat (first | with_reducible exact Ext.refl _ | with_reducible assumption | with_reducible refine Ext.alloc ?_ _ | with_reducible refine Ext.drew ?_ | (with_reducible refine Ext.setAt ?_ _ _ _ ?_; rotate_left; omega) | with_reducible refine Ext.trans ?_ (by assumption) | with_reducible exact Past.bel _ | with_reducible refine Ext.trans ?_ (Past.bel _)))⟩
set_option maxRecDepth 100000 in
set_option maxHeartbeats 2000000 in
theorem specDateText_c (a b c : Int) (w : World) :
    Calls Tryd.prog 11 #[.agg #[.int .i64 a, .int .i64 b, .int .i64 c]] w fun e w' => e = .returned (.string ⟨(dtx a b c).toArray⟩) ∧ Ext w w' := by
  cases hp : (inB a 0 9999 && (inB b 0 9999 && inB c 0 9999))
  · have hd := Lib.hid (show dtx a b c = [] by rw [dtx, hp]; rfl)
    have HP := Lib.hid (fun (W : World) => (hp ▸ l16Plain_c a b c W : Calls Tryd.prog 29 #[.agg #[.int .i64 a, .int .i64 b, .int .i64 c]] W fun e w' => e = .returned (.bool false) ∧ Ext W w'))
    clear hp
    go_enter Tryd.func11, Tryd.ntmps11
    go_wp2_with (go_at_call 29; ((with_reducible refine (HP.out _).mono ?_); rintro e w' ⟨rfl, hx⟩; (first | (obtain ⟨wx, rfl⟩ := Past.again hx) | (obtain ⟨wx, rfl⟩ := Past.ofd hx) | (obtain ⟨wx, rfl⟩ := Past.of hx))))
    go_ret
    exact ⟨by rw [hd.out]; rfl, (by repeat (first | with_reducible exact Ext.refl _ | with_reducible assumption | with_reducible refine Ext.alloc ?_ _ | with_reducible refine Ext.drew ?_ | (with_reducible refine Ext.setAt ?_ _ _ _ ?_; rotate_left; omega) | with_reducible refine Ext.trans ?_ (by assumption) | with_reducible exact Past.bel _ | with_reducible refine Ext.trans ?_ (Past.bel _)))⟩
  · have HP := Lib.hid (fun (W : World) => (hp ▸ l16Plain_c a b c W : Calls Tryd.prog 29 #[.agg #[.int .i64 a, .int .i64 b, .int .i64 c]] W fun e w' => e = .returned (.bool true) ∧ Ext W w'))
    have hp' := hp
    rw [Bool.and_eq_true, Bool.and_eq_true] at hp
    obtain ⟨ha, hb, hc⟩ := hp
    have pa := b_of ha
    have pb := b_of hb
    have pc := b_of hc
    obtain ⟨A, hA⟩ : ∃ A, A = Lib.itoa a := ⟨_, rfl⟩
    obtain ⟨B, hB⟩ : ∃ A, A = Lib.itoa b := ⟨_, rfl⟩
    obtain ⟨C, hC⟩ : ∃ A, A = Lib.itoa c := ⟨_, rfl⟩
    have la : A.length ≤ 20 := by rw [hA]; exact itoa_len _ pa.lo pa.hi
    have lb : B.length ≤ 20 := by rw [hB]; exact itoa_len _ pb.lo pb.hi
    have lc : C.length ≤ 20 := by rw [hC]; exact itoa_len _ pc.lo pc.hi
    have TA := Lib.hid (fun (W : World) => (show Calls Tryd.prog 57 #[.int .i64 a] W (fun e w' => e = .returned (.string ⟨A.toArray⟩) ∧ Ext W w') from by rw [hA]; exact l01Dec_c a W pa.lo pa.hi))
    have TB := Lib.hid (fun (W : World) => (show Calls Tryd.prog 57 #[.int .i64 b] W (fun e w' => e = .returned (.string ⟨B.toArray⟩) ∧ Ext W w') from by rw [hB]; exact l01Dec_c b W pb.lo pb.hi))
    have TC := Lib.hid (fun (W : World) => (show Calls Tryd.prog 57 #[.int .i64 c] W (fun e w' => e = .returned (.string ⟨C.toArray⟩) ∧ Ext W w') from by rw [hC]; exact l01Dec_c c W pc.lo pc.hi))
    have hft : dtx a b c = A ++ [45] ++ B ++ [45] ++ C := by rw [hA, hB, hC, dtx, hp']; rfl
    have HT := Lib.hid hft
    clear hA hB hC hft ha hb hc hp'
    have HX := Lib.hid (fun (W : World) => (show Calls Tryd.prog 30 #[.agg #[.int .i64 a, .int .i64 b, .int .i64 c]] W (fun e w' => e = .returned (.string ⟨(dtx a b c).toArray⟩) ∧ Ext W w') from by
      go_enter Tryd.func30, Tryd.ntmps30
      go_wp2_with fail
      refine wp_region_past (by kernel_rfl) (by kernel_rfl) ?_
      repeat (go_big_quiet_step (first | (go_at_call 57; with_reducible exact Calls.past (TA.out _)) | (go_at_call 57; with_reducible exact Calls.past (TB.out _)) | (go_at_call 57; with_reducible exact Calls.past (TC.out _))))
      refine wpQuiet_nil ?_
      rintro _ ⟨wx, rfl⟩
      go_wp2_with fail
      go_ret
      exact ⟨by rw [HT.out, ← ba_app, ← ba_app, ← ba_app, ← ba_app]; rfl, (by repeat (first | with_reducible exact Ext.refl _ | with_reducible assumption | with_reducible refine Ext.alloc ?_ _ | with_reducible refine Ext.drew ?_ | (with_reducible refine Ext.setAt ?_ _ _ _ ?_; rotate_left; omega) | with_reducible refine Ext.trans ?_ (by assumption) | with_reducible exact Past.bel _ | with_reducible refine Ext.trans ?_ (Past.bel _)))⟩))
    go_enter Tryd.func11, Tryd.ntmps11
    go_wp2_with (first | (go_at_call 29; ((with_reducible refine (HP.out _).mono ?_); rintro e w' ⟨rfl, hx⟩; (first | (obtain ⟨wx, rfl⟩ := Past.again hx) | (obtain ⟨wx, rfl⟩ := Past.ofd hx) | (obtain ⟨wx, rfl⟩ := Past.of hx)))) | (go_at_call 30; ((with_reducible refine (HX.out _).mono ?_); rintro e w' ⟨rfl, hx⟩; (first | (obtain ⟨wx, rfl⟩ := Past.again hx) | (obtain ⟨wx, rfl⟩ := Past.ofd hx) | (obtain ⟨wx, rfl⟩ := Past.of hx)))))
    go_ret
    exact ⟨rfl, (by repeat (first | with_reducible exact Ext.refl _ | with_reducible assumption | with_reducible refine Ext.alloc ?_ _ | with_reducible refine Ext.drew ?_ | (with_reducible refine Ext.setAt ?_ _ _ _ ?_; rotate_left; omega) | with_reducible refine Ext.trans ?_ (by assumption) | with_reducible exact Past.bel _ | with_reducible refine Ext.trans ?_ (Past.bel _)))⟩
set_option maxRecDepth 100000 in
set_option maxHeartbeats 2000000 in
theorem walkDateText (a b c : Int) (ha : B64 a) (hb : B64 b) (hc : B64 c) (w : World) (ht : Tab w) :
    Calls Tryd.prog 4 #[.agg #[.int .i64 a, .int .i64 b, .int .i64 c]] w fun e w' => e = .returned (.bool true) ∧ Ext w w' := by
  have HT := Lib.hid ht
  clear ht
  obtain ⟨L, hL⟩ : ∃ L, L = dtx a b c := ⟨_, rfl⟩
  have HS := Lib.hid (fun (W : World) => (hL ▸ specDateText_c a b c W : Calls Tryd.prog 11 #[.agg #[.int .i64 a, .int .i64 b, .int .i64 c]] W fun e w' => e = .returned (.string ⟨L.toArray⟩) ∧ Ext W w'))
  have HI := Lib.hid (fun (W : World) (hq : Ext w W) => (hL ▸ implDateText_c a b c W (HT.out.ext hq) : Calls Tryd.prog 13 #[.agg #[.int .i64 a, .int .i64 b, .int .i64 c]] W fun e w' => e = .returned (.string ⟨L.toArray⟩) ∧ Ext W w'))
  clear hL
  go_enter Tryd.func4, Tryd.ntmps4
  go_wp2_with (first | (go_at_call 12; ((with_reducible refine (toDate_c _ _ _ _).mono ?_); rintro e w' ⟨rfl, hx⟩; (first | (obtain ⟨wx, rfl⟩ := Past.again hx) | (obtain ⟨wx, rfl⟩ := Past.ofd hx) | (obtain ⟨wx, rfl⟩ := Past.of hx)))) | (go_at_call 11; ((with_reducible refine (HS.out _).mono ?_); rintro e w' ⟨rfl, hx⟩; (first | (obtain ⟨wx, rfl⟩ := Past.again hx) | (obtain ⟨wx, rfl⟩ := Past.ofd hx) | (obtain ⟨wx, rfl⟩ := Past.of hx)))) | (go_at_call 13; ((with_reducible refine (HI.out _ (by repeat (first | with_reducible exact Ext.refl _ | with_reducible assumption | with_reducible refine Ext.alloc ?_ _ | with_reducible refine Ext.drew ?_ | (with_reducible refine Ext.setAt ?_ _ _ _ ?_; rotate_left; omega) | with_reducible refine Ext.trans ?_ (by assumption) | with_reducible exact Past.bel _ | with_reducible refine Ext.trans ?_ (Past.bel _)))).mono ?_); rintro e w' ⟨rfl, hx⟩; (first | (obtain ⟨wx, rfl⟩ := Past.again hx) | (obtain ⟨wx, rfl⟩ := Past.ofd hx) | (obtain ⟨wx, rfl⟩ := Past.of hx)))))
  go_ret
  exact ⟨rfl, (by repeat (first | with_reducible exact Ext.refl _ | with_reducible assumption | with_reducible refine Ext.alloc ?_ _ | with_reducible refine Ext.drew ?_ | (with_reducible refine Ext.setAt ?_ _ _ _ ?_; rotate_left; omega) | with_reducible refine Ext.trans ?_ (by assumption) | with_reducible exact Past.bel _ | with_reducible refine Ext.trans ?_ (Past.bel _)))⟩
end Go.Proofs.YtppphpnimecgpaaDoor

namespace Go.Proofs.YtppphpnimecgpaaDoor
open Go.ChangeShapes Go.WideShapes Go.ChangeAt Go.WideMaps Go.WideElems Go.RowKit
set_option linter.unusedVariables false

theorem b64 {n : Int} (h : (Lit.int .i64 n).wf = true) : B64 n := ⟨(wf_bd h).1, (wf_bd h).2⟩
def laid3 {H : Type} : List (String × DataW H) := [("math/bits.deBruijn32tab", Rows.laid_math_bits_deBruijn32tab), ("math/bits.deBruijn64tab", Rows.laid_math_bits_deBruijn64tab), ("internal/strconv.uint64pow10", Rows.laid_internal_strconv_uint64pow10)]
theorem door_met (os : Os) (args : Array Value) : laidMetH Tryd.prog laid3 ((World.doorLaid Tryd.prog 24 os).forCall (fun _ _ => 0) ⟨#[], args, []⟩).memory :=
  laidMetH_of_parts3 (fuel := 8) (laidMet_of_run' 8 (by kernel_rfl) (by kernel_rfl)) (by kernel_rfl) (by kernel_rfl)
theorem tab_of {W : World} (h : laidMetH Tryd.prog laid3 W) : Tab W := by
  rw [MakeChecks.laidMetH_plain _ _ _ (by kernel_rfl)] at h
  obtain ⟨ps, ⟨g0, t0, cs0, f0, p0, q0, hg0, ht0, hv0, hd0, ⟨g1, t1, cs1, f1, p1, q1, hg1, ht1, hv1, hd1, ⟨g2, t2, cs2, f2, p2, q2, hg2, ht2, hv2, hd2, _, _⟩, _⟩, _⟩, _, _⟩ := h
  have k1 : Tryd.prog.globalNamed "internal/strconv.uint64pow10" = some 0 := by kernel_rfl
  have k2 : (Tryd.prog.globals[0]?).map (·.type) = some 124 := by kernel_rfl
  obtain rfl := Option.some.inj (k1.symm.trans hg2)
  obtain rfl := Option.some.inj (k2.symm.trans ht2)
  refine Lib.tabBelow_of_tabIs ?_
  unfold Lib.TabIs
  rw [hv2, ← Lib.cells_of_tab (k := .u64) (zs := Lib.pow10Tab) (n := 20) Tryd.underlying124 Tryd.underlying116 (by kernel_rfl) (by kernel_rfl) hd2]
end Go.Proofs.YtppphpnimecgpaaDoor
