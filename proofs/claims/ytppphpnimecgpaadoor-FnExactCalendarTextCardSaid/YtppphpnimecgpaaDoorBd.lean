/- Lists of months and rules in memory of their own; appends of whole structs. No program in sight. Months of equal length. The reference's given calendars: their months and rules. The reference's given calendars. Calendars' texts: the program's. Calendars: compared. Calendars: compared as wholes. What an argument that is a calendar holds. The law ValidCalendar's walk. Calendars: what is asked of years, months and days. No program in sight. Days of months: the functions as they are called. Days of years: the functions as they are called. -/
import Derived.Test.YtppphpnimecgpaaDoorBb
import Derived.Test.YtppphpnimecgpaaDoorBa
import Derived.Test.YtppphpnimecgpaaDoorBc
import Derived.Deep.RegionHeld3

namespace Go.Proofs.YtppphpnimecgpaaDoor
open Go.RowKit
set_option linter.unusedVariables false
set_option linter.unusedSimpArgs false

abbrev Mo := ByteArray × Int × Int
abbrev Ru := Int × Int × Bool
/-- months, cell by cell -/
def MT (l : List Mo) : List Value := l.flatMap fun q => [.string q.1, .int .i64 q.2.1, .int .i64 q.2.2]
/-- rules, cell by cell -/
def RT (l : List Ru) : List Value := l.flatMap fun q => [.int .i64 q.1, .int .i64 q.2.1, .bool q.2.2]
theorem MT_app (l r : List Mo) : MT (l ++ r) = MT l ++ MT r := by simp [MT]
theorem RT_app (l r : List Ru) : RT (l ++ r) = RT l ++ RT r := by simp [RT]
theorem MT_len (l : List Mo) : (MT l).length = l.length * 3 := by
  induction l with
  | nil => rfl
  | cons q l ih => have e : MT (q :: l) = [.string q.1, .int .i64 q.2.1, .int .i64 q.2.2] ++ MT l := rfl
                   rw [e, List.length_append, ih]; simp; omega
theorem RT_len (l : List Ru) : (RT l).length = l.length * 3 := by
  induction l with
  | nil => rfl
  | cons q l ih => have e : RT (q :: l) = [.int .i64 q.1, .int .i64 q.2.1, .bool q.2.2] ++ RT l := rfl
                   rw [e, List.length_append, ih]; simp; omega
theorem flat3_at {α : Type} (A B C : α → Value) : ∀ (l : List α) (j : Nat) (q : α), l[j]? = some q →
    (l.flatMap fun q => [A q, B q, C q])[j * 3]? = some (A q) ∧ (l.flatMap fun q => [A q, B q, C q])[j * 3 + 1]? = some (B q) ∧ (l.flatMap fun q => [A q, B q, C q])[j * 3 + 2]? = some (C q)
  | [], j, q, h => by simp at h
  | x :: l, 0, q, h => by
    obtain rfl : x = q := by simpa using h
    exact ⟨rfl, rfl, rfl⟩
  | x :: l, j + 1, q, h => by
    have ih := flat3_at A B C l j q (by simpa using h)
    have e1 : (j + 1) * 3 = 3 + j * 3 := by omega
    rw [List.flatMap_cons, e1, Nat.add_assoc, Nat.add_assoc]
    have e : ∀ i, ([A x, B x, C x] ++ l.flatMap fun q => [A q, B q, C q])[3 + i]? = (l.flatMap fun q => [A q, B q, C q])[i]? := fun i => by
      rw [List.getElem?_append_right (by simp)]; simp
    rw [e, e, e]; exact ih
/-- the calendar that months and rules make -/
def calOf (M : List Mo) (R : List Ru) : CalN := ⟨R.length, fun i => (R.getD i (0, 0, false)).1, fun i => (R.getD i (0, 0, false)).2.1, fun i => (R.getD i (0, 0, false)).2.2, M.length, fun i => (M.getD i (⟨#[]⟩, 0, 0)).2.1, fun i => (M.getD i (⟨#[]⟩, 0, 0)).2.2⟩
def nmOf (M : List Mo) : Nat → ByteArray := fun i => (M.getD i (⟨#[]⟩, 0, 0)).1
section
variable {w w' : World} {base : Nat} {e : TypeId} {size : Nat} {v : Value} {n : Nat} {xs : List Value}
theorem own_atK {a : Option Addr} {cap : Nat} (h : w.ownsRow base e size (.slice a n cap) n xs) (hn : 0 < n) :
    ∃ g, a = some ⟨g, 0, none⟩ ∧ base ≤ g ∧ g < w.heap.size ∧ ∀ j, j < n * size → w.cell? ⟨g, j, none⟩ = xs[j]? ∧ w.frozen? ⟨g, j, none⟩ = false := by
  rcases h.2 with ⟨h1, h2⟩ | ⟨g, cap', cur, h1, hb, hg, h2, h3, h4, h5⟩
  · omega
  · simp only [Value.slice.injEq, true_and] at h1
    obtain ⟨rfl, rfl⟩ := h1
    exact ⟨g, rfl, hb, (Array.getElem?_eq_some_iff.1 hg).1, fun j hj => ⟨h.cellAt j (by omega), h.frozenAt j⟩⟩
theorem own_s3 {a : Option Addr} {cap : Nat} {M : List Mo} (h : w.ownsRow base e 3 (.slice a n cap) n (MT M)) : S3 w a n (nmOf M) (calOf M []).dy (calOf M []).lp := fun hn => by
  obtain ⟨g, rfl, _, hg, hc⟩ := own_atK h hn
  have hl : M.length = n := by have := h.1; rw [MT_len] at this; omega
  refine ⟨g, 0, rfl, hg, fun j hj => ?_⟩
  have hq : M[j]? = some (M.getD j (⟨#[]⟩, 0, 0)) := by rw [List.getD_eq_getElem?_getD, List.getElem?_eq_getElem (by omega)]; rfl
  obtain ⟨q1, q2, q3⟩ := flat3_at (fun q : Mo => Value.string q.1) (fun q => .int .i64 q.2.1) (fun q => .int .i64 q.2.2) M j _ hq
  rw [Nat.zero_add, (hc _ (by omega)).1, (hc _ (by omega)).1, (hc _ (by omega)).1]
  exact ⟨q1, q2, q3⟩
theorem own_r3 {a : Option Addr} {cap : Nat} {R : List Ru} (h : w.ownsRow base e 3 (.slice a n cap) n (RT R)) : R3 w a n (calOf [] R).ev (calOf [] R).rs (calOf [] R).lf := fun hn => by
  obtain ⟨g, rfl, _, hg, hc⟩ := own_atK h hn
  have hl : R.length = n := by have := h.1; rw [RT_len] at this; omega
  refine ⟨g, 0, rfl, hg, fun j hj => ?_⟩
  have hq : R[j]? = some (R.getD j (0, 0, false)) := by rw [List.getD_eq_getElem?_getD, List.getElem?_eq_getElem (by omega)]; rfl
  obtain ⟨q1, q2, q3⟩ := flat3_at (fun q : Ru => Value.int .i64 q.1) (fun q => .int .i64 q.2.1) (fun q => .bool q.2.2) R j _ hq
  rw [Nat.zero_add, (hc _ (by omega)).1, (hc _ (by omega)).1, (hc _ (by omega)).1]
  exact ⟨q1, q2, q3⟩
end
/-- months and rules owned: a calendar in memory -/
theorem own_calM {w : World} {b1 b2 : Nat} {e1 e2 : TypeId} {a1 a2 : Option Addr} {c1 c2 : Nat} {M : List Mo} {R : List Ru} (h1 : w.ownsRow b1 e1 3 (.slice a1 M.length c1) M.length (MT M)) (h2 : w.ownsRow b2 e2 3 (.slice a2 R.length c2) R.length (RT R)) : CalM w a1 a2 (nmOf M) (calOf M R) :=
  ⟨own_s3 h1, own_r3 h2⟩
theorem news_block {w : World} {gb : Nat} {T : TypeId} {ys : List Value} (h : Blk w gb T ys.toArray) : ∀ j u, ys[j]? = some u → w.cell? ((⟨gb, 0, none⟩ : Addr).add j) = some u := fun j u hu => by
  rw [addr_add, Nat.zero_add, h.cell]; simpa using hu
/-- 'own = append(own, q, ..)', the q's of several cells -/
theorem appG {P : Program} {w : World} {ops : Array Oper} {rest : List Oper} {o : Oper} {A : Act} {Q : Exit → Act → World → Prop} (t T : TypeId) (s x : Operand) (z : Value) (sz by8 : Nat)
    (hop : o.op = .call { callee := .builtin .append, args := #[s, x], argTypes := #[t, t] }) (hgd : o.guard = none)
    (ht : P.underlying t = some (.slice T)) (hinfo : (P.info? T).map (fun i => (i.zero, i.size, i.bytes)) = some (some z, sz, by8)) (hz : z.cells.size = sz) (hz0 : 0 < sz) (h64 : by8 ≤ 64)
    (B : Nat) (v : Value) (n : Nat) (xs : List Value) (m : Nat) (ys : List Value) (gb c : Nat) (hs : A.eval s = v) (hx : A.eval x = .slice (some ⟨gb, 0, none⟩) m c) (h : w.ownsRow B T sz v n xs)
    (hc : Blk w gb T ys.toArray) (hy : ys.length = m * sz) (ho : ∀ u ∈ ys, u.oneCell' = true) (hm : m ≤ 100) (hl : n ≤ 1048576) (h0 : B ≤ w.heap.size)
    (hK : ∀ v' w', w'.ownsRow B T sz v' (n + m) (xs ++ ys) → w.grownBy w' v.ownBlock → wpList P ops Q rest (A.put o.dst v') w') : wpList P ops Q (o :: rest) A w := by
  obtain ⟨i, hi, hz', hsz, hb⟩ := info_parts hinfo
  refine wpList_append_own (P := P) w hgd s x t hop B T i z sz by8 ht hi hz' hsz hb hz hz0 v n xs hs h ⟨gb, 0, none⟩ m c ys hx hy (news_block hc) ho (by unfold maxLen; omega) ?_ h0 ?_
  · have : (n + m) * by8 ≤ (n + m) * 64 := Nat.mul_le_mul_left _ h64
    omega
  · intro v' w' h1 h2 _
    exact hK v' w' h1 h2
/-- the same at a step of a region that draws its order -/
theorem appGs {P : Program} {w : World} {ops : Array Oper} {o : Oper} {A : Act} {K : Act → World → Prop} {Q : Exit → Act → World → Prop} {E : Prop} (t T : TypeId) (s x : Operand) (z : Value) (sz by8 : Nat)
    (hop : o.op = .call { callee := .builtin .append, args := #[s, x], argTypes := #[t, t] }) (hgd : o.guard = none)
    (ht : P.underlying t = some (.slice T)) (hinfo : (P.info? T).map (fun i => (i.zero, i.size, i.bytes)) = some (some z, sz, by8)) (hz : z.cells.size = sz) (hz0 : 0 < sz) (h64 : by8 ≤ 64)
    (B : Nat) (v : Value) (n : Nat) (xs : List Value) (m : Nat) (ys : List Value) (gb c : Nat) (hs : A.eval s = v) (hx : A.eval x = .slice (some ⟨gb, 0, none⟩) m c) (h : w.ownsRow B T sz v n xs)
    (hc : Blk w gb T ys.toArray) (hy : ys.length = m * sz) (ho : ∀ u ∈ ys, u.oneCell' = true) (hm0 : 0 < m) (hm : m ≤ 100) (hl : n ≤ 1048576) (h0 : B ≤ w.heap.size)
    (hK : ∀ v' w', w'.ownsRow B T sz v' (n + m) (xs ++ ys) → w.grownBy w' v.ownBlock → (∀ b i, b < w.heap.size → v.ownBlock ≠ some b → w'.cell? ⟨b, i, none⟩ = w.cell? ⟨b, i, none⟩) → K (A.put o.dst v') w') :
    if Region.wanted o (yielded ops A.tmps) = true then Oper.wp P o A w K Q else E := by
  obtain ⟨i, hi, hz', hsz, hb⟩ := info_parts hinfo
  refine step_append_lies w hgd s x t hop B T i z sz by8 ht hi hz' hsz hb hz hz0 v n xs hs h ⟨gb, 0, none⟩ m c ys hx hy (news_block hc) ho hm0 (by unfold maxLen; omega) ?_ h0 _ rfl ?_
  · have : (n + m) * by8 ≤ (n + m) * 64 := Nat.mul_le_mul_left _ h64
    omega
  · intro g' cap w' h1 h2 _ _
    exact hK _ w' h1 h2 (fun b i hb hne => h2.cell_far ⟨b, i, none⟩ hb (fun e => hne e.symm))
theorem info_month : (Tryd.prog.info? 63).map (fun i => (i.zero, i.size, i.bytes)) = some (some (.agg #[.string ⟨#[]⟩, .int .i64 0, .int .i64 0]), 3, 32) := by kernel_rfl
theorem info_rule : (Tryd.prog.info? 67).map (fun i => (i.zero, i.size, i.bytes)) = some (some (.agg #[.int .i64 0, .int .i64 0, .bool false]), 3, 24) := by kernel_rfl
end Go.Proofs.YtppphpnimecgpaaDoor

namespace Go.Proofs.YtppphpnimecgpaaDoor
open Go.RowKit
set_option linter.unusedVariables false
set_option linter.unusedSimpArgs false

/-- months m1 and so on of d days -/
def eqM (d : Int) (k : Nat) : List Mo := (List.range k).map (fun j : Nat => ((⟨(109 :: Lib.itoa ((j : Int) + 1)).toArray⟩ : ByteArray), d, d))
theorem eqM_len (d : Int) (k : Nat) : (eqM d k).length = k := by simp [eqM]
theorem eqM_zero (d : Int) : MT (eqM d 0) = [] := rfl
theorem eqM_step (d : Int) (k : Nat) : eqM d (k + 1) = eqM d k ++ [((⟨(109 :: Lib.itoa ((k : Int) + 1)).toArray⟩ : ByteArray), d, d)] := by simp [eqM, List.range_succ]
theorem itoa_small (n : Int) (h0 : 0 ≤ n) (h1 : n ≤ 1000000) : (Lib.itoa n).length ≤ 7 := by
  obtain ⟨u, rfl⟩ : ∃ u : Nat, n = (u : Int) := ⟨n.toNat, by omega⟩
  by_cases h : u = 0
  · subst h; rw [show ((0 : Nat) : Int) = 0 from rfl, itoa_zero]; decide
  · rw [itoa_pos (by omega)]
    exact digs_len 7 u (by omega)
set_option maxRecDepth 100000 in
set_option maxHeartbeats 2000000 in
theorem l15Equal_c (m : Nat) (d : Int) (w : World) (hm : m ≤ 1000) :
    Calls Tryd.prog 36 #[.int .i64 (m : Nat), .int .i64 d] w fun e w' => ∃ b cap, e = .returned (.slice b m cap) ∧ Ext w w' ∧ w'.ownsRow w.heap.size 63 3 (.slice b m cap) m (MT (eqM d m)) := by
  go_enter Tryd.func36, Tryd.ntmps36
  go_wp2_with fail
  go_loopw [5, 6] (fun v i wr => ∃ j : Nat, j ≤ m ∧ i = .int .i64 ((j : Int) + 1) ∧ wr.ownsRow w.heap.size 63 3 v j (MT (eqM d j)) ∧ Ext w wr) (fun _ i _ => m + 1 - (intOf i).toNat)
  case atStart => exact ⟨0, by omega, rfl, (by rw [eqM_zero]; exact World.ownsRow_made _ #[] 0 (Nat.le_refl _) (Nat.zero_le _) rfl), (by repeat (first | with_reducible exact Ext.refl _ | with_reducible assumption | with_reducible refine Ext.alloc ?_ _ | with_reducible refine Ext.drew ?_ | (with_reducible refine Ext.setAt ?_ _ _ _ ?_; rotate_left; omega) | with_reducible refine Ext.trans ?_ (by assumption) | with_reducible exact Past.bel _ | with_reducible refine Ext.trans ?_ (Past.bel _)))⟩
  case round =>
    obtain ⟨j, hj, rfl, ho, hx⟩ := hrel
    have HO := Lib.hid ho
    clear ho
    have hsz := hx.size
    by_cases hlt : j < m
    · have x1 : (j : Int) + 1 ≤ (m : Int) := by omega
      obtain ⟨A, hA⟩ : ∃ A, A = Lib.itoa ((j : Int) + 1) := ⟨_, rfl⟩
      have la : A.length ≤ 7 := by rw [hA]; exact itoa_small _ (by omega) (by omega)
      have HD := Lib.hid (fun (W : World) => (show Calls Tryd.prog 57 #[.int .i64 ((j : Int) + 1)] W (fun e w' => e = .returned (.string ⟨A.toArray⟩) ∧ Ext W w') from by rw [hA]; exact l01Dec_c _ W (by omega) (by omega)))
      have HA := Lib.hid hA
      clear hA
      go_wp2_with (first | (go_at_call 57; ((with_reducible refine (HD.out _).mono ?_); rintro e w' ⟨rfl, hx⟩; (first | (obtain ⟨wx, rfl⟩ := Past.again hx) | (obtain ⟨wx, rfl⟩ := Past.ofd hx) | (obtain ⟨wx, rfl⟩ := Past.of hx)))) | (at_builtin; refine appG 39 63 _ _ _ 3 32 rfl rfl Tryd.underlying39 info_month rfl (by decide) (by decide) w.heap.size _ j (MT (eqM d j)) 1 [.string (⟨#[109]⟩ ++ ⟨A.toArray⟩), .int .i64 d, .int .i64 d] _ 1 rfl rfl (own_ext HO.out (by repeat (first | with_reducible exact Ext.refl _ | with_reducible assumption | with_reducible refine Ext.alloc ?_ _ | with_reducible refine Ext.drew ?_ | (with_reducible refine Ext.setAt ?_ _ _ _ ?_; rotate_left; omega) | with_reducible refine Ext.trans ?_ (by assumption) | with_reducible exact Past.bel _ | with_reducible refine Ext.trans ?_ (Past.bel _)))) (Blk.new _ _ _) rfl (by intro u hu; simp at hu; rcases hu with rfl | rfl <;> rfl) (by omega) (by omega) (Ext.size (by repeat (first | with_reducible exact Ext.refl _ | with_reducible assumption | with_reducible refine Ext.alloc ?_ _ | with_reducible refine Ext.drew ?_ | (with_reducible refine Ext.setAt ?_ _ _ _ ?_; rotate_left; omega) | with_reducible refine Ext.trans ?_ (by assumption) | with_reducible exact Past.bel _ | with_reducible refine Ext.trans ?_ (Past.bel _)))) ?_; intro v6 w6 s6 s7))
      have hx6 : Ext w w6 := by
        refine Ext.grown ?_ s7 (fun q hq => (HO.out.lt q hq).1)
        ((repeat (first | with_reducible exact Ext.refl _ | with_reducible assumption | with_reducible refine Ext.alloc ?_ _ | with_reducible refine Ext.drew ?_ | (with_reducible refine Ext.setAt ?_ _ _ _ ?_; rotate_left; omega) | with_reducible refine Ext.trans ?_ (by assumption) | with_reducible exact Past.bel _ | with_reducible refine Ext.trans ?_ (Past.bel _))); done)
      refine ⟨⟨j + 1, by omega, by go_num, ?_, hx6⟩, by simp [intOf]; omega⟩
      rw [eqM_step, MT_app, ← HA.out]
      exact s6
    · have x1 : ¬ (j : Int) + 1 ≤ (m : Int) := by omega
      obtain rfl : j = m := by omega
      obtain ⟨b, cap, rfl⟩ := own_form HO.out
      go_wp2_with fail
      go_ret
      exact ⟨b, cap, rfl, hx, HO.out⟩
end Go.Proofs.YtppphpnimecgpaaDoor

namespace Go.Proofs.YtppphpnimecgpaaDoor
open Go.RowKit
set_option linter.unusedVariables false
set_option linter.unusedSimpArgs false

def romT : List (ByteArray × Int) := [(⟨#[106, 97, 110]⟩, 31), (⟨#[102, 101, 98]⟩, 28), (⟨#[109, 97, 114]⟩, 31), (⟨#[97, 112, 114]⟩, 30), (⟨#[109, 97, 121]⟩, 31), (⟨#[106, 117, 110]⟩, 30), (⟨#[106, 117, 108]⟩, 31), (⟨#[97, 117, 103]⟩, 31), (⟨#[115, 101, 112]⟩, 30), (⟨#[111, 99, 116]⟩, 31), (⟨#[110, 111, 118]⟩, 30), (⟨#[100, 101, 99]⟩, 31)]
/-- the first k months of the roman calendars, all years alike -/
def romP (k : Nat) : List Mo := (romT.take k).map fun q => (q.1, q.2, q.2)
theorem romP_len {k : Nat} (h : k ≤ 12) : (romP k).length = k := by simp [romP, romT]; omega
/-- the months of the roman calendars -/
def romM : List Mo := (romT.take 1).map (fun q => (q.1, q.2, q.2)) ++ [(⟨#[102, 101, 98]⟩, 28, 29)] ++ (romT.drop 2).map (fun q => (q.1, q.2, q.2))
theorem rom_set : (MT (romP 12)).set 5 (.int .i64 29) = MT romM := rfl
def gregR : List Ru := [(4, 0, true), (100, 0, false), (400, 0, true)]
def julR : List Ru := [(4, 0, true)]
theorem own_lit {w : World} {base : Nat} {e : TypeId} {size n : Nat} (cur : Array Value) (xs : List Value) (hx : cur.toList = xs) (hs : xs.length = n * size) (hn : n ≤ maxLen) (hb : base ≤ w.heap.size) : (w.alloc (.cells cur e)).ownsRow base e size (.slice (some ⟨w.heap.size, 0, none⟩) n n) n xs :=
  ⟨hs, .inr ⟨w.heap.size, n, cur, rfl, hb, heap_alloc_new w _, Nat.le_refl _, hn, by rw [← hs, ← hx]; simp, by rw [← hs, ← hx]; exact List.take_of_length_le (Nat.le_refl _)⟩⟩
theorem own_made {base g : Nat} {e : TypeId} {size : Nat} (w : World) (cur : Array Value) (cap : Nat) (hg : g = w.heap.size) (hb : base ≤ w.heap.size) (hm : cap ≤ maxLen) (hs : cur.size = cap * size) :
    (w.alloc (.cells cur e)).ownsRow base e size (.slice (some ⟨g, 0, none⟩) 0 cap) 0 [] := by
  subst hg; exact World.ownsRow_made w cur cap hb hm hs
set_option maxHeartbeats 1000000 in
theorem l15Gregorian_c (w : World) :
    Calls Tryd.prog 37 #[] w fun e w' => ∃ b, e = .returned (.slice b 3 3) ∧ Ext w w' ∧ w'.ownsRow w.heap.size 67 3 (.slice b 3 3) 3 (RT gregR) := by
  go_enter Tryd.func37, Tryd.ntmps37
  go_wp2
  go_ret
  exact ⟨_, rfl, (by repeat (first | with_reducible exact Ext.refl _ | with_reducible assumption | with_reducible refine Ext.alloc ?_ _ | with_reducible refine Ext.drew ?_ | (with_reducible refine Ext.setAt ?_ _ _ _ ?_; rotate_left; omega) | with_reducible refine Ext.trans ?_ (by assumption) | with_reducible exact Past.bel _ | with_reducible refine Ext.trans ?_ (Past.bel _))), own_lit _ _ rfl rfl (by decide) (Nat.le_refl _)⟩
set_option maxRecDepth 100000 in
set_option maxHeartbeats 4000000 in
theorem l15Roman_c (w : World) :
    Calls Tryd.prog 38 #[] w fun e w' => ∃ b cap, e = .returned (.slice b 12 cap) ∧ Ext w w' ∧ w'.ownsRow w.heap.size 63 3 (.slice b 12 cap) 12 (MT romM) := by
  go_enter Tryd.func38, Tryd.ntmps38
  go_wp2_with fail
  go_loopw [3, 4] (fun v i wr => ∃ j : Nat, j ≤ 12 ∧ i = .int .i64 (j : Int) ∧ wr.ownsRow (w.heap.size + 1 + 1) 63 3 v j (MT (romP j)) ∧ Ext w wr ∧ (∀ k q, romT[k]? = some q → wr.cell? ⟨w.heap.size, k, none⟩ = some (.string q.1) ∧ wr.cell? ⟨w.heap.size + 1, k, none⟩ = some (.int .i64 q.2)) ∧ w.heap.size + 1 < wr.heap.size) (fun _ i _ => 12 - (intOf i).toNat)
  case atStart => 
    refine ⟨0, by omega, rfl, (by rw [show MT (romP 0) = [] from rfl]; exact own_made _ #[] 0 (by simp) (by simp) (Nat.zero_le _) rfl), (by repeat (first | with_reducible exact Ext.refl _ | with_reducible assumption | with_reducible refine Ext.alloc ?_ _ | with_reducible refine Ext.drew ?_ | (with_reducible refine Ext.setAt ?_ _ _ _ ?_; rotate_left; omega) | with_reducible refine Ext.trans ?_ (by assumption) | with_reducible exact Past.bel _ | with_reducible refine Ext.trans ?_ (Past.bel _))), fun k q hq => ?_, by simp⟩
    have hk : k < 12 := (List.getElem?_eq_some_iff.1 hq).1
    obtain rfl | rfl | rfl | rfl | rfl | rfl | rfl | rfl | rfl | rfl | rfl | rfl : k = 0 ∨ k = 1 ∨ k = 2 ∨ k = 3 ∨ k = 4 ∨ k = 5 ∨ k = 6 ∨ k = 7 ∨ k = 8 ∨ k = 9 ∨ k = 10 ∨ k = 11 := by omega
    all_goals (obtain rfl : q = _ := Option.some.inj (hq.symm.trans rfl); simp [go_sem])
  case round =>
    obtain ⟨j, hj, rfl, ho, hx, hcl, hlt2⟩ := hrel
    have HO := Lib.hid ho
    have HC := Lib.hid hcl
    clear ho hcl
    have hsz := hx.size
    by_cases hlt : j < 12
    · have x1 : (j : Int) < 12 := by omega
      have x0 : (0 : Int) ≤ (j : Int) := by omega
      obtain ⟨q, hq⟩ : ∃ q, romT[j]? = some q := ⟨romT[j]'(by simpa [romT] using hlt), List.getElem?_eq_getElem _⟩
      obtain ⟨q1, q2⟩ := HC.out j q hq
      have SK : ∀ w', Ext wr w' → w'.cell? ⟨w.heap.size, j, none⟩ = some (.string q.1) ∧ w'.cell? ⟨w.heap.size + 1, j, none⟩ = some (.int .i64 q.2) := fun w' hq => by
        rw [hq.cell (by omega), hq.cell (by omega)]; exact ⟨q1, q2⟩
      have SK' := Lib.hid SK
      have SK2 := Lib.hid (show ∀ (W' W'' : World), Ext wr W' → (∀ b i, b < W'.heap.size → u3.ownBlock ≠ some b → W''.cell? ⟨b, i, none⟩ = W'.cell? ⟨b, i, none⟩) → W''.cell? ⟨w.heap.size, j, none⟩ = some (.string q.1) ∧ W''.cell? ⟨w.heap.size + 1, j, none⟩ = some (.int .i64 q.2) from fun W' W'' h1 h2 => by
        have hz1 := h1.size
        rw [h2 _ _ (by omega) (fun e => by have := (HO.out.lt _ e).1; omega), h2 _ _ (by omega) (fun e => by have := (HO.out.lt _ e).1; omega)]
        exact SK W' h1)
      have HQ := Lib.hid hq
      clear SK q1 q2 hq
      go_wp2_with fail
      go_region_held3 (fun w' => w'.cell? ⟨w.heap.size, j, none⟩ = some (.string q.1) ∧ w'.cell? ⟨w.heap.size + 1, j, none⟩ = some (.int .i64 q.2)) (first | (refine SK'.out _ ?_; ((repeat (first | with_reducible exact Ext.refl _ | with_reducible assumption | with_reducible refine Ext.alloc ?_ _ | with_reducible refine Ext.drew ?_ | (with_reducible refine Ext.setAt ?_ _ _ _ ?_; rotate_left; omega) | with_reducible refine Ext.trans ?_ (by assumption) | with_reducible exact Past.bel _ | with_reducible refine Ext.trans ?_ (Past.bel _))); done)) | exact SK2.out _ _ (by repeat (first | with_reducible exact Ext.refl _ | with_reducible assumption | with_reducible refine Ext.alloc ?_ _ | with_reducible refine Ext.drew ?_ | (with_reducible refine Ext.setAt ?_ _ _ _ ?_; rotate_left; omega) | with_reducible refine Ext.trans ?_ (by assumption) | with_reducible exact Past.bel _ | with_reducible refine Ext.trans ?_ (Past.bel _))) s8) ((refine appGs 39 63 _ _ _ 3 32 (by rfl) (by rfl) Tryd.underlying39 info_month rfl (by decide) (by decide) (w.heap.size + 1 + 1) _ j (MT (romP j)) 1 [.string q.1, .int .i64 q.2, .int .i64 q.2] _ 1 (by rfl) (by rfl) (own_ext HO.out (by repeat (first | with_reducible exact Ext.refl _ | with_reducible assumption | with_reducible refine Ext.alloc ?_ _ | with_reducible refine Ext.drew ?_ | (with_reducible refine Ext.setAt ?_ _ _ _ ?_; rotate_left; omega) | with_reducible refine Ext.trans ?_ (by assumption) | with_reducible exact Past.bel _ | with_reducible refine Ext.trans ?_ (Past.bel _)))) (Blk.new _ _ _) rfl (by intro u hu; simp at hu; rcases hu with rfl | rfl <;> rfl) (by omega) (by omega) (by omega) (Nat.le_trans (by omega) (Ext.size (w := wr) (by repeat (first | with_reducible exact Ext.refl _ | with_reducible assumption | with_reducible refine Ext.alloc ?_ _ | with_reducible refine Ext.drew ?_ | (with_reducible refine Ext.setAt ?_ _ _ _ ?_; rotate_left; omega) | with_reducible refine Ext.trans ?_ (by assumption) | with_reducible exact Past.bel _ | with_reducible refine Ext.trans ?_ (Past.bel _))))) ?_; intro v6 w6 s6 s7 s8))
      all_goals (go_wp2_with fail)
      have e6 : Ext w w6 := by
        refine Ext.grown ?_ s7 (fun q hq => by have := (HO.out.lt q hq).1; omega)
        ((repeat (first | with_reducible exact Ext.refl _ | with_reducible assumption | with_reducible refine Ext.alloc ?_ _ | with_reducible refine Ext.drew ?_ | (with_reducible refine Ext.setAt ?_ _ _ _ ?_; rotate_left; omega) | with_reducible refine Ext.trans ?_ (by assumption) | with_reducible exact Past.bel _ | with_reducible refine Ext.trans ?_ (Past.bel _))); done)
      have z6 := s7.size
      simp only [World.size_alloc, World.size_drew] at z6
      refine ⟨⟨j + 1, by omega, by go_num, ?_, e6, fun k q' hq' => ?_, by omega⟩, by simp [intOf]; omega⟩
      · have e1 : MT (romP (j + 1)) = MT (romP j) ++ [.string q.1, .int .i64 q.2, .int .i64 q.2] := by
          rw [romP, List.take_add_one, HQ.out, List.map_append, MT_app]; rfl
        rw [e1]; exact s6
      · obtain ⟨r1, r2⟩ := HC.out k q' hq'
        have hne1 : u3.ownBlock ≠ some w.heap.size := fun e => by have := (HO.out.lt _ e).1; omega
        have hne2 : u3.ownBlock ≠ some (w.heap.size + 1) := fun e => by have := (HO.out.lt _ e).1; omega
        rw [s8 _ _ (by simp only [World.size_alloc, World.size_drew]; omega) hne1, s8 _ _ (by simp only [World.size_alloc, World.size_drew]; omega) hne2]
        have hE : ∀ W, Ext wr W → W.cell? ⟨w.heap.size, k, none⟩ = some (.string q'.1) ∧ W.cell? ⟨w.heap.size + 1, k, none⟩ = some (.int .i64 q'.2) := fun W hq => by rw [hq.cell (by omega), hq.cell (by omega)]; exact ⟨r1, r2⟩
        exact hE _ (by repeat (first | with_reducible exact Ext.refl _ | with_reducible assumption | with_reducible refine Ext.alloc ?_ _ | with_reducible refine Ext.drew ?_ | (with_reducible refine Ext.setAt ?_ _ _ _ ?_; rotate_left; omega) | with_reducible refine Ext.trans ?_ (by assumption) | with_reducible exact Past.bel _ | with_reducible refine Ext.trans ?_ (Past.bel _)))
    · have x1 : ¬ (j : Int) < 12 := by omega
      obtain rfl : j = 12 := by omega
      obtain ⟨b, cap, rfl⟩ := own_form HO.out
      obtain ⟨g, rfl, hb1, hb2, hc⟩ := own_atK HO.out (by omega)
      obtain ⟨z1, z2⟩ := hc 5 (by omega)
      have z3 : wr.cell? ⟨g, 5, none⟩ = some (.int .i64 28) := z1
      clear hc z1
      go_wp2_with fail
      go_ret
      have := own_set (j := 5) HO.out (.int .i64 29)
      rw [rom_set] at this
      refine ⟨_, cap, rfl, ?_, own_base this (by omega)⟩
      exact Ext.setAt hx _ _ _ (by omega)
end Go.Proofs.YtppphpnimecgpaaDoor

namespace Go.Proofs.YtppphpnimecgpaaDoor
open Go.RowKit
set_option linter.unusedVariables false
set_option linter.unusedSimpArgs false

def egyS : ByteArray := ⟨#[101, 103, 121, 112, 116, 105, 97, 110]⟩
def fixS : ByteArray := ⟨#[102, 105, 120, 101, 100]⟩
def greS : ByteArray := ⟨#[103, 114, 101, 103, 111, 114, 105, 97, 110]⟩
def julS : ByteArray := ⟨#[106, 117, 108, 105, 97, 110]⟩
def egyM : List Mo := eqM 30 12 ++ [(⟨#[109, 49, 51]⟩, 5, 5)]
def fixM : List Mo := eqM 28 12 ++ [(⟨#[109, 49, 51]⟩, 29, 30)]
/-- a calendar with a code, in memory of its own -/
def NmR (w w' : World) (M : List Mo) (R : List Ru) (wk k : Int) (s : ByteArray) (e : Ending) : Prop :=
  ∃ a1 c1 a2 c2, e = .returned (.tuple #[.agg #[.string s, .slice a1 M.length c1, .slice a2 R.length c2, .int .i64 wk], .int .i64 k]) ∧ Ext w w' ∧ w'.ownsRow w.heap.size 63 3 (.slice a1 M.length c1) M.length (MT M) ∧ w'.ownsRow w.heap.size 67 3 (.slice a2 R.length c2) R.length (RT R) ∧ ((Value.slice a1 M.length c1).ownBlock = none ∨ (Value.slice a1 M.length c1).ownBlock ≠ (Value.slice a2 R.length c2).ownBlock) ∧ ((Value.slice a2 R.length c2).ownBlock = none ∨ (Value.slice a2 R.length c2).ownBlock ≠ (Value.slice a1 M.length c1).ownBlock)
theorem Blk.grown {w w' : World} {g : Nat} {T : TypeId} {cur : Array Value} {row : Option Nat} (h : Blk w g T cur) (hg : w.grownBy w' row) (hne : some g ≠ row) : Blk w' g T cur := (hg.block g h.lt hne).trans h
/-- the cells of a calendar's block -/
structure Cel (w : World) (g : Nat) (a b c d : Value) : Prop where
  lt : g < w.heap.size
  c0 : w.cell? ⟨g, 0, none⟩ = some a
  c1 : w.cell? ⟨g, 1, none⟩ = some b
  c2 : w.cell? ⟨g, 2, none⟩ = some c
  c3 : w.cell? ⟨g, 3, none⟩ = some d
  f0 : w.frozen? ⟨g, 0, none⟩ = false
  f1 : w.frozen? ⟨g, 1, none⟩ = false
  f2 : w.frozen? ⟨g, 2, none⟩ = false
  f3 : w.frozen? ⟨g, 3, none⟩ = false
theorem Blk.cel {w : World} {g : Nat} {T : TypeId} {a b c d : Value} (h : Blk w g T #[a, b, c, d]) : Cel w g a b c d := ⟨h.lt, h.cell 0, h.cell 1, h.cell 2, h.cell 3, h.frozen 0, h.frozen 1, h.frozen 2, h.frozen 3⟩
/-- 'append' of one month to months of its own -/
theorem app_month {w : World} {ops : Array Oper} {rest : List Oper} {o : Oper} {A : Act} {Q : Exit → Act → World → Prop} (s x : Operand)
    (hop : o.op = .call { callee := .builtin .append, args := #[s, x], argTypes := #[39, 39] }) (hgd : o.guard = none)
    (B : Nat) (v : Value) (n m : Nat) (xs : List Value) (nm : ByteArray) (d l : Int) (gb c : Nat) (hm : m = n + 1) (hs : A.eval s = v) (hx : A.eval x = .slice (some ⟨gb, 0, none⟩) 1 c) (h : w.ownsRow B 63 3 v n xs)
    (hc : Blk w gb 63 #[.string nm, .int .i64 d, .int .i64 l]) (hl : n ≤ 1048576) (h0 : B ≤ w.heap.size)
    (hK : ∀ b' c' w', w'.ownsRow B 63 3 (.slice b' m c') m (xs ++ MT [(nm, d, l)]) → w.grownBy w' v.ownBlock → wpList Tryd.prog ops Q rest (A.put o.dst (.slice b' m c')) w') : wpList Tryd.prog ops Q (o :: rest) A w := by
  subst hm
  refine appG 39 63 s x _ 3 32 hop hgd Tryd.underlying39 info_month rfl (by decide) (by decide) B v n xs 1 [.string nm, .int .i64 d, .int .i64 l] gb c hs hx h hc rfl (by intro u hu; simp at hu; rcases hu with rfl | rfl | rfl <;> rfl) (by omega) hl h0 ?_
  intro v' w' s6 s7
  obtain ⟨b', c', rfl⟩ := own_form s6
  exact hK b' c' w' s6 s7
theorem own_litg {w : World} {base g : Nat} {e : TypeId} {size n : Nat} (cur : Array Value) (xs : List Value) (hx : cur.toList = xs) (hs : xs.length = n * size) (hn : n ≤ maxLen) (hb : base ≤ w.heap.size) (hg : g = w.heap.size) : (w.alloc (.cells cur e)).ownsRow base e size (.slice (some ⟨g, 0, none⟩) n n) n xs := by
  subst hg; exact own_lit cur xs hx hs hn hb
theorem str_ne {s : ByteArray} {l : List UInt8} (h : s ≠ ⟨l.toArray⟩) : (s.toList == l) = false := by
  rw [ByteArray.toList_eq]
  refine Bool.eq_false_iff.2 fun e => h ?_
  have e' : s.data.toList = l := by simpa using e
  apply ByteArray.ext; rw [← e']
theorem own_low {w : World} {base : Nat} {e : TypeId} {size : Nat} {v : Value} {n : Nat} {xs : List Value} (h : w.ownsRow base e size v n xs) {b : Nat} (hb : b < base) (o : Nat) (u : Value) : (w.setCell ⟨b, o, none⟩ u).ownsRow base e size v n xs :=
  h.kept (grown_set b o u) (by
    cases hv : v.ownBlock with
    | none => exact .inl rfl
    | some k => refine .inr fun e => ?_; have := h.lt k hv; simp at e; omega)
theorem own_four {w : World} {base : Nat} {e : TypeId} {size : Nat} {v : Value} {n : Nat} {xs : List Value} (h : w.ownsRow base e size v n xs) {b : Nat} (hb : b < base) (u0 u1 u2 u3 : Value) : ((((w.setCell ⟨b, 0, none⟩ u0).setCell ⟨b, 1, none⟩ u1).setCell ⟨b, 2, none⟩ u2).setCell ⟨b, 3, none⟩ u3).ownsRow base e size v n xs :=
  own_low (own_low (own_low (own_low h hb _ _) hb _ _) hb _ _) hb _ _
theorem apart_none (a : Option Nat) : (a = none ∨ a ≠ none) := by cases a <;> simp
/-- the four cells of the result stored -/
theorem NmR.mk4 {w wX : World} {M : List Mo} {R : List Ru} {wk k : Int} {s : ByteArray} {a1 a2 : Option Addr} {n1 n2 c1 c2 : Nat} (hn1 : M.length = n1) (hn2 : R.length = n2) (hx : Ext w wX) (h1 : wX.ownsRow (w.heap.size + 1) 63 3 (.slice a1 n1 c1) n1 (MT M)) (h2 : wX.ownsRow (w.heap.size + 1) 67 3 (.slice a2 n2 c2) n2 (RT R))
    (hp : ((Value.slice a1 n1 c1).ownBlock = none ∨ (Value.slice a1 n1 c1).ownBlock ≠ (Value.slice a2 n2 c2).ownBlock) ∧ ((Value.slice a2 n2 c2).ownBlock = none ∨ (Value.slice a2 n2 c2).ownBlock ≠ (Value.slice a1 n1 c1).ownBlock)) (u0 u1 u2 u3 : Value) :
    NmR w ((((wX.setCell ⟨w.heap.size, 0, none⟩ u0).setCell ⟨w.heap.size, 1, none⟩ u1).setCell ⟨w.heap.size, 2, none⟩ u2).setCell ⟨w.heap.size, 3, none⟩ u3) M R wk k s (.returned (.tuple #[.agg #[.string s, .slice a1 n1 c1, .slice a2 n2 c2, .int .i64 wk], .int .i64 k])) := by
  subst hn1 hn2
  exact ⟨a1, c1, a2, c2, rfl, Ext.setAt (Ext.setAt (Ext.setAt (Ext.setAt hx _ _ _ (Nat.le_refl _)) _ _ _ (Nat.le_refl _)) _ _ _ (Nat.le_refl _)) _ _ _ (Nat.le_refl _), own_base (own_four h1 (by omega) _ _ _ _) (by omega), own_base (own_four h2 (by omega) _ _ _ _) (by omega), hp.1, hp.2⟩
set_option maxRecDepth 100000 in
set_option maxHeartbeats 4000000 in
theorem specNamed_egy (w : World) :
    Calls Tryd.prog 18 #[.string egyS] w fun e w' => NmR w w' egyM [] 10 0 egyS e := by
  rw [egyS]
  go_enter Tryd.func18, Tryd.ntmps18
  go_wp2_with fail
  have K0 := Blk.new w #[.string ⟨#[]⟩, .slice none 0 0, .slice none 0 0, .int .i64 0] 42
  refine (l15Equal_c 12 30 _ (by omega)).mono ?_
  rintro e w1 ⟨b, cap, rfl, hx1, ho1⟩
  have z1 := hx1.size
  simp only [World.size_alloc] at ho1 z1
  have HO := Lib.hid ho1
  have K1 := Lib.hid (K0.ext hx1)
  clear ho1 K0
  go_wp2_with (at_builtin; refine app_month _ _ rfl rfl (w.heap.size + 1) _ 12 13 (MT (eqM 30 12)) ⟨#[109, 49, 51]⟩ 5 5 _ 1 rfl rfl rfl (own_ext HO.out (by repeat (first | with_reducible exact Ext.refl _ | with_reducible assumption | with_reducible refine Ext.alloc ?_ _ | with_reducible refine Ext.drew ?_ | (with_reducible refine Ext.setAt ?_ _ _ _ ?_; rotate_left; omega) | with_reducible refine Ext.trans ?_ (by assumption) | with_reducible exact Past.bel _ | with_reducible refine Ext.trans ?_ (Past.bel _)))) (Blk.new _ _ _) (by omega) (Nat.le_trans z1 (Ext.size (w := w1) (by repeat (first | with_reducible exact Ext.refl _ | with_reducible assumption | with_reducible refine Ext.alloc ?_ _ | with_reducible refine Ext.drew ?_ | (with_reducible refine Ext.setAt ?_ _ _ _ ?_; rotate_left; omega) | with_reducible refine Ext.trans ?_ (by assumption) | with_reducible exact Past.bel _ | with_reducible refine Ext.trans ?_ (Past.bel _))))) ?_; intro b6 c6 w6 s6 s7; have K6 := (Blk.grown (K1.out.ext (w' := w1.alloc _) (by repeat (first | with_reducible exact Ext.refl _ | with_reducible assumption | with_reducible refine Ext.alloc ?_ _ | with_reducible refine Ext.drew ?_ | (with_reducible refine Ext.setAt ?_ _ _ _ ?_; rotate_left; omega) | with_reducible refine Ext.trans ?_ (by assumption) | with_reducible exact Past.bel _ | with_reducible refine Ext.trans ?_ (Past.bel _)))) s7 (fun e => by have := (HO.out.lt _ e.symm).1; omega)).cel; obtain ⟨k1, k2, k3, k4, k5, k6, k7, k8, k9⟩ := K6; have S6 := Lib.hid s6; have S7 := Lib.hid s7; clear s6 s7)
  have e6 : Ext w w6 := by
    refine Ext.grown ?_ S7.out (fun q hq => by have := (HO.out.lt q hq).1; omega)
    ((repeat (first | with_reducible exact Ext.refl _ | with_reducible assumption | with_reducible refine Ext.alloc ?_ _ | with_reducible refine Ext.drew ?_ | (with_reducible refine Ext.setAt ?_ _ _ _ ?_; rotate_left; omega) | with_reducible refine Ext.trans ?_ (by assumption) | with_reducible exact Past.bel _ | with_reducible refine Ext.trans ?_ (Past.bel _))); done)
  exact bodyPost_ret (v := .tuple #[.agg #[.string ⟨#[101, 103, 121, 112, 116, 105, 97, 110]⟩, .slice b6 13 c6, .slice none 0 0, .int .i64 10], .int .i64 0]) (by simp [results, Tryd.results18, go_sem, k2, k3, k4, k5]) rfl (NmR.mk4 rfl rfl e6 (by rw [egyM, MT_app]; exact S6.out) (World.ownsRow_nil _ _ _ _) ⟨apart_none _, .inl rfl⟩ _ _ _ _)
set_option maxRecDepth 100000 in
set_option maxHeartbeats 4000000 in
theorem specNamed_fix (w : World) :
    Calls Tryd.prog 18 #[.string fixS] w fun e w' => NmR w w' fixM gregR 7 0 fixS e := by
  rw [fixS]
  go_enter Tryd.func18, Tryd.ntmps18
  go_wp2_with fail
  have K0 := Blk.new w #[.string ⟨#[]⟩, .slice none 0 0, .slice none 0 0, .int .i64 0] 42
  refine (l15Equal_c 12 28 _ (by omega)).mono ?_
  rintro e w1 ⟨b, cap, rfl, hx1, ho1⟩
  have z1 := hx1.size
  simp only [World.size_alloc] at ho1 z1
  have HO := Lib.hid ho1
  have K1 := Lib.hid (K0.ext hx1)
  clear ho1 K0
  go_wp2_with (at_builtin; refine app_month _ _ rfl rfl (w.heap.size + 1) _ 12 13 (MT (eqM 28 12)) ⟨#[109, 49, 51]⟩ 29 30 _ 1 rfl rfl rfl (own_ext HO.out (by repeat (first | with_reducible exact Ext.refl _ | with_reducible assumption | with_reducible refine Ext.alloc ?_ _ | with_reducible refine Ext.drew ?_ | (with_reducible refine Ext.setAt ?_ _ _ _ ?_; rotate_left; omega) | with_reducible refine Ext.trans ?_ (by assumption) | with_reducible exact Past.bel _ | with_reducible refine Ext.trans ?_ (Past.bel _)))) (Blk.new _ _ _) (by omega) (Nat.le_trans z1 (Ext.size (w := w1) (by repeat (first | with_reducible exact Ext.refl _ | with_reducible assumption | with_reducible refine Ext.alloc ?_ _ | with_reducible refine Ext.drew ?_ | (with_reducible refine Ext.setAt ?_ _ _ _ ?_; rotate_left; omega) | with_reducible refine Ext.trans ?_ (by assumption) | with_reducible exact Past.bel _ | with_reducible refine Ext.trans ?_ (Past.bel _))))) ?_; intro b6 c6 w6 s6 s7; have K6 := Lib.hid (Blk.grown (K1.out.ext (w' := w1.alloc _) (by repeat (first | with_reducible exact Ext.refl _ | with_reducible assumption | with_reducible refine Ext.alloc ?_ _ | with_reducible refine Ext.drew ?_ | (with_reducible refine Ext.setAt ?_ _ _ _ ?_; rotate_left; omega) | with_reducible refine Ext.trans ?_ (by assumption) | with_reducible exact Past.bel _ | with_reducible refine Ext.trans ?_ (Past.bel _)))) s7 (fun e => by have := (HO.out.lt _ e.symm).1; omega)); have S6 := Lib.hid s6; have S7 := Lib.hid s7; clear s6 s7)
  have e6 : Ext w w6 := by
    refine Ext.grown ?_ S7.out (fun q hq => by have := (HO.out.lt q hq).1; omega)
    ((repeat (first | with_reducible exact Ext.refl _ | with_reducible assumption | with_reducible refine Ext.alloc ?_ _ | with_reducible refine Ext.drew ?_ | (with_reducible refine Ext.setAt ?_ _ _ _ ?_; rotate_left; omega) | with_reducible refine Ext.trans ?_ (by assumption) | with_reducible exact Past.bel _ | with_reducible refine Ext.trans ?_ (Past.bel _))); done)
  refine (l15Gregorian_c _).mono ?_
  rintro e w7 ⟨b7, rfl, hx7, ho7⟩
  have NE := Lib.hid (own_ne2 S6.out ho7 (Nat.le_refl _))
  have z7 := e6.size
  have z8 := K6.out.lt
  have O7 := Lib.hid (own_base (b0 := w.heap.size + 1) ho7 (by omega))
  have O6 := Lib.hid (own_ext S6.out hx7)
  obtain ⟨k1, k2, k3, k4, k5, k6, k7, k8, k9⟩ := (K6.out.ext hx7).cel
  have e7 := Ext.trans e6 hx7
  clear ho7
  go_wp2_with fail
  exact bodyPost_ret (v := .tuple #[.agg #[.string ⟨#[102, 105, 120, 101, 100]⟩, .slice b6 13 c6, .slice b7 3 3, .int .i64 7], .int .i64 0]) (by simp [results, Tryd.results18, go_sem, k2, k3, k4, k5]) rfl (NmR.mk4 rfl rfl e7 (by rw [fixM, MT_app]; exact O6.out) O7.out NE.out _ _ _ _)
set_option maxRecDepth 100000 in
set_option maxHeartbeats 4000000 in
theorem specNamed_gre (w : World) :
    Calls Tryd.prog 18 #[.string greS] w fun e w' => NmR w w' romM gregR 7 0 greS e := by
  rw [greS]
  go_enter Tryd.func18, Tryd.ntmps18
  go_wp2_with fail
  have K0 := Blk.new w #[.string ⟨#[]⟩, .slice none 0 0, .slice none 0 0, .int .i64 0] 42
  refine (l15Roman_c _).mono ?_
  rintro e w1 ⟨b6, c6, rfl, hx1, ho1⟩
  have z1 := hx1.size
  simp only [World.size_alloc] at ho1 z1
  have S6 := Lib.hid ho1
  have K6 := Lib.hid (K0.ext hx1)
  have e6 : Ext w w1 := Ext.trans (by repeat (first | with_reducible exact Ext.refl _ | with_reducible assumption | with_reducible refine Ext.alloc ?_ _ | with_reducible refine Ext.drew ?_ | (with_reducible refine Ext.setAt ?_ _ _ _ ?_; rotate_left; omega) | with_reducible refine Ext.trans ?_ (by assumption) | with_reducible exact Past.bel _ | with_reducible refine Ext.trans ?_ (Past.bel _))) hx1
  clear ho1 K0
  go_wp2_with fail
  refine (l15Gregorian_c _).mono ?_
  rintro e w7 ⟨b7, rfl, hx7, ho7⟩
  have NE := Lib.hid (own_ne2 S6.out ho7 (Nat.le_refl _))
  have O7 := Lib.hid (own_base (b0 := w.heap.size + 1) ho7 (by omega))
  have O6 := Lib.hid (own_ext S6.out hx7)
  obtain ⟨k1, k2, k3, k4, k5, k6, k7, k8, k9⟩ := (K6.out.ext hx7).cel
  have e7 := Ext.trans e6 hx7
  clear ho7
  go_wp2_with fail
  exact bodyPost_ret (v := .tuple #[.agg #[.string ⟨#[103, 114, 101, 103, 111, 114, 105, 97, 110]⟩, .slice b6 12 c6, .slice b7 3 3, .int .i64 7], .int .i64 0]) (by simp [results, Tryd.results18, go_sem, k2, k3, k4, k5]) rfl (NmR.mk4 rfl rfl e7 O6.out O7.out NE.out _ _ _ _)
set_option maxRecDepth 100000 in
set_option maxHeartbeats 4000000 in
theorem specNamed_jul (w : World) :
    Calls Tryd.prog 18 #[.string julS] w fun e w' => NmR w w' romM julR 7 0 julS e := by
  rw [julS]
  go_enter Tryd.func18, Tryd.ntmps18
  go_wp2_with fail
  have K0 := Blk.new w #[.string ⟨#[]⟩, .slice none 0 0, .slice none 0 0, .int .i64 0] 42
  refine (l15Roman_c _).mono ?_
  rintro e w1 ⟨b6, c6, rfl, hx1, ho1⟩
  have z1 := hx1.size
  simp only [World.size_alloc] at ho1 z1
  have S6 := Lib.hid ho1
  have K6 := Lib.hid (K0.ext hx1)
  have e6 : Ext w w1 := Ext.trans (by repeat (first | with_reducible exact Ext.refl _ | with_reducible assumption | with_reducible refine Ext.alloc ?_ _ | with_reducible refine Ext.drew ?_ | (with_reducible refine Ext.setAt ?_ _ _ _ ?_; rotate_left; omega) | with_reducible refine Ext.trans ?_ (by assumption) | with_reducible exact Past.bel _ | with_reducible refine Ext.trans ?_ (Past.bel _))) hx1
  clear ho1 K0
  obtain ⟨k1, k2, k3, k4, k5, k6, k7, k8, k9⟩ := K6.out.cel
  go_wp2_with fail
  refine bodyPost_ret (v := .tuple #[.agg #[.string ⟨#[106, 117, 108, 105, 97, 110]⟩, .slice b6 12 c6, .slice (some ⟨w1.heap.size, 0, none⟩) 1 1, .int .i64 7], .int .i64 0]) ?_ rfl ⟨b6, c6, some ⟨w1.heap.size, 0, none⟩, 1, rfl, ?_, own_base (own_ext (own_four S6.out (by omega) _ _ _ _) (Ext.alloc (Ext.refl _) _)) (by omega), own_litg _ (RT julR) rfl rfl (by decide) (by simp; omega) (by simp), ?_, ?_⟩
  · simp [results, Tryd.results18, go_sem, k1, k2, k3, k4, k5]
  · exact Ext.alloc (Ext.setAt (Ext.setAt (Ext.setAt (Ext.setAt e6 _ _ _ (Nat.le_refl _)) _ _ _ (Nat.le_refl _)) _ _ _ (Nat.le_refl _)) _ _ _ (Nat.le_refl _)) _
  · cases hv : (Value.slice b6 12 c6).ownBlock with
    | none => exact .inl hv
    | some k => exact .inr fun e => by have := (S6.out.lt k hv).2; have e' : (Value.slice b6 12 c6).ownBlock = some w1.heap.size := e; rw [hv] at e'; simp at e'; omega
  · exact .inr fun e => by have e' : (Value.slice b6 12 c6).ownBlock = some w1.heap.size := e.symm; have := (S6.out.lt _ e').2; omega
set_option maxRecDepth 100000 in
set_option maxHeartbeats 4000000 in
theorem specNamed_no (s : ByteArray) (w : World) (h1 : s ≠ egyS) (h2 : s ≠ fixS) (h3 : s ≠ greS) (h4 : s ≠ julS) :
    Calls Tryd.prog 18 #[.string s] w fun e w' => NmR w w' [] [] 0 3 ⟨#[]⟩ e := by
  have x1 := str_ne (l := [101, 103, 121, 112, 116, 105, 97, 110]) h1
  have x2 := str_ne (l := [102, 105, 120, 101, 100]) h2
  have x3 := str_ne (l := [103, 114, 101, 103, 111, 114, 105, 97, 110]) h3
  have x4 := str_ne (l := [106, 117, 108, 105, 97, 110]) h4
  clear h1 h2 h3 h4
  go_enter Tryd.func18, Tryd.ntmps18
  go_wp2_with fail
  refine bodyPost_ret (v := .tuple #[.agg #[.string ⟨#[]⟩, .slice none 0 0, .slice none 0 0, .int .i64 0], .int .i64 3]) (by simp [results, Tryd.results18, go_sem]) rfl ⟨none, 0, none, 0, rfl, ?_, World.ownsRow_nil _ _ _ _, World.ownsRow_nil _ _ _ _, .inl rfl, .inl rfl⟩
  ((repeat (first | with_reducible exact Ext.refl _ | with_reducible assumption | with_reducible refine Ext.alloc ?_ _ | with_reducible refine Ext.drew ?_ | (with_reducible refine Ext.setAt ?_ _ _ _ ?_; rotate_left; omega) | with_reducible refine Ext.trans ?_ (by assumption) | with_reducible exact Past.bel _ | with_reducible refine Ext.trans ?_ (Past.bel _))); done)
end Go.Proofs.YtppphpnimecgpaaDoor

namespace Go.Proofs.YtppphpnimecgpaaDoor
open Go.RowKit
set_option linter.unusedVariables false
set_option linter.unusedSimpArgs false

/-- a builder of the call's own in block b holds the bytes L -/
def Bd (w : World) (b : Nat) (L : List UInt8) : Prop := Lib.IsBuilder 83 5 b b (Lib.byteCells L) w
theorem Bd.cast {w : World} {b : Nat} {L L' : List UInt8} (h : Bd w b L) (e : L = L') : Bd w b L' := e ▸ h
theorem Bd.lt {w : World} {b : Nat} {L : List UInt8} (h : Bd w b L) : b < w.heap.size := h.elim (fun x => x.lt) (fun x => x.lt)
theorem Bd.ext {w w' : World} {b : Nat} {L : List UInt8} (h : Bd w b L) (x : Ext w w') : Bd w' b L := by
  have hk : ∀ p, Lib.BuilderAt 83 5 b b p (Lib.byteCells L) w → Lib.BuilderAt 83 5 b b p (Lib.byteCells L) w' := fun p hp => by
    have hlt := hp.lt
    obtain ⟨hB, v, hb, hown, hne⟩ := hp
    exact ⟨hB, v, (x.block hlt).trans hb, own_ext hown x, hne⟩
  exact h.elim (fun y => .inl (hk _ y)) (fun y => .inr (hk _ y))
theorem Bd.new (w : World) : Bd (w.alloc (.cells #[.pointer none, .slice none 0 0] 83)) w.heap.size [] :=
  .inl ⟨Nat.le_refl _, .slice none 0 0, heap_alloc_new w _, World.ownsRow_nil _ _ _ _, by simp [Value.ownBlock]⟩
theorem writeS_c (b : Nat) (L : List UInt8) (s : ByteArray) (w : World) (h : Bd w b L) (hl : L.length + s.size ≤ 1000000) :
    Calls Tryd.prog 53 #[.pointer (some ⟨b, 0, none⟩), .string s] w fun e w' => e = .returned (.tuple #[.int .i64 s.size, .nilIface]) ∧ Bd w' b (L ++ s.data.toList) ∧ Below b w w' ∧ Lib.OthersKept 5 (some b) w w' := by
  refine (writeString_c b b (Lib.byteCells L) s w h (by rw [Lib.byteCells_length]; omega) (Nat.le_of_lt h.lt)).mono ?_
  rintro e w' ⟨rfl, h1, h2, h3⟩
  refine ⟨rfl, ?_, h2, h3⟩
  unfold Bd
  rw [Lib.byteCells_append, ← Lib.strCells_eq]
  exact .inr h1
theorem ba_sz (l : List UInt8) : (⟨l.toArray⟩ : ByteArray).size = l.length := by simp [ByteArray.size]
/-- a block of another type is kept by writing -/
theorem kept_cell {w w' : World} {b g : Nat} {T : TypeId} {cur : Array Value} (h : Blk w g T cur) (hk : Lib.OthersKept 5 (some b) w w') (hb : g ≠ b) (hT : T ≠ 5) : Blk w' g T cur :=
  hk g _ h (by simpa using hb) (fun c fz e => by simp only [Obj.cells.injEq] at e; exact hT e.2.1)
set_option maxRecDepth 100000 in
set_option maxHeartbeats 8000000 in
theorem implCalendarText_c {s : ByteArray} {ma ra : Option Addr} {mc rc : Nat} (wk : Int) {nm : Nat → ByteArray} {c : CalN} {w : World} (h : CalV w s ma ra mc rc nm c) (ht : Tab w) :
    Calls Tryd.prog 26 #[.agg #[.string s, .slice ma c.n mc, .slice ra c.nr rc, .int .i64 wk]] w fun e w' => e = .returned (.string ⟨(calTx s nm c wk).toArray⟩) ∧ Ext w w' := by
  have H := Lib.hid h
  have HT := Lib.hid ht
  clear h ht
  cases hv : calB s nm c wk
  · have HX := Lib.hid (show calTx s nm c wk = [] by rw [calTx, hv]; rfl)
    have HV := Lib.hid (fun (W : World) (hq : Ext w W) => (hv ▸ validCalendar_v wk (H.out.ext hq) : Calls Tryd.prog 52 #[.agg #[.string s, .slice ma c.n mc, .slice ra c.nr rc, .int .i64 wk]] W fun e w' => e = .returned (.bool false) ∧ Ext W w'))
    clear hv
    go_enter Tryd.func26, Tryd.ntmps26
    go_wp2_with (go_at_call 52; ((with_reducible refine (HV.out _ (by repeat (first | with_reducible exact Ext.refl _ | with_reducible assumption | with_reducible refine Ext.alloc ?_ _ | with_reducible refine Ext.drew ?_ | (with_reducible refine Ext.setAt ?_ _ _ _ ?_; rotate_left; omega) | with_reducible refine Ext.trans ?_ (by assumption) | with_reducible exact Past.bel _ | with_reducible refine Ext.trans ?_ (Past.bel _)))).mono ?_); rintro e w' ⟨rfl, hx⟩; (first | (obtain ⟨wx, rfl⟩ := Past.again hx) | (obtain ⟨wx, rfl⟩ := Past.ofd hx) | (obtain ⟨wx, rfl⟩ := Past.of hx))))
    go_ret
    exact ⟨by rw [HX.out]; rfl, (by repeat (first | with_reducible exact Ext.refl _ | with_reducible assumption | with_reducible refine Ext.alloc ?_ _ | with_reducible refine Ext.drew ?_ | (with_reducible refine Ext.setAt ?_ _ _ _ ?_; rotate_left; omega) | with_reducible refine Ext.trans ?_ (by assumption) | with_reducible exact Past.bel _ | with_reducible refine Ext.trans ?_ (Past.bel _)))⟩
  · have HX := Lib.hid (show calTx s nm c wk = calL s nm c wk by rw [calTx, hv]; rfl)
    have HV := Lib.hid (fun (W : World) (hq : Ext w W) => (hv ▸ validCalendar_v wk (H.out.ext hq) : Calls Tryd.prog 52 #[.agg #[.string s, .slice ma c.n mc, .slice ra c.nr rc, .int .i64 wk]] W fun e w' => e = .returned (.bool true) ∧ Ext W w'))
    have b := txB_of hv
    have B := Lib.hid b
    have n20 := b.n20
    have nr6 := b.nr6
    have sz := b.sz
    obtain ⟨A, hA⟩ : ∃ A, A = Lib.itoa wk := ⟨_, rfl⟩
    have la : A.length ≤ 20 := by rw [hA]; exact itoa_len _ b.wk.lo b.wk.hi
    have TA := Lib.hid (fun (W : World) (hq : Ext w W) => (show Calls Tryd.prog 28 #[.int .i64 wk] W (fun e w' => e = .returned (.string ⟨A.toArray⟩) ∧ Ext W w') from by rw [hA]; exact decimal_c _ W b.wk.lo b.wk.hi (HT.out.ext hq)))
    have HA := Lib.hid hA
    have PC := CalP.new 42 s ma ra mc rc wk H.out.mem
    clear hv b hA
    go_enter Tryd.func26, Tryd.ntmps26
    go_wp2_with fail
    refine (HV.out _ (by repeat (first | with_reducible exact Ext.refl _ | with_reducible assumption | with_reducible refine Ext.alloc ?_ _ | with_reducible refine Ext.drew ?_ | (with_reducible refine Ext.setAt ?_ _ _ _ ?_; rotate_left; omega) | with_reducible refine Ext.trans ?_ (by assumption) | with_reducible exact Past.bel _ | with_reducible refine Ext.trans ?_ (Past.bel _)))).mono ?_
    rintro e w1 ⟨rfl, hx1⟩
    have PC1 := PC.ext hx1
    have e1 : Ext w w1 := Ext.trans (by repeat (first | with_reducible exact Ext.refl _ | with_reducible assumption | with_reducible refine Ext.alloc ?_ _ | with_reducible refine Ext.drew ?_ | (with_reducible refine Ext.setAt ?_ _ _ _ ?_; rotate_left; omega) | with_reducible refine Ext.trans ?_ (by assumption) | with_reducible exact Past.bel _ | with_reducible refine Ext.trans ?_ (Past.bel _))) hx1
    have g0 := PC1.lt
    have p0 := PC1.c0
    have p1 := PC1.c1
    have p2 := PC1.c2
    have p3 := PC1.c3
    have HP := Lib.hid PC1
    clear PC PC1 hx1
    go_upto_region 4 with fail
    have B0 := Lib.hid (Bd.new w1)
    have SK := Lib.hid (show ∀ w', Ext w1 w' → (w'.cell? ⟨w.heap.size, 0, none⟩ = some (.string s) ∧ w'.cell? ⟨w.heap.size, 3, none⟩ = some (.int .i64 wk)) from fun w' hq => ⟨(hq.cell g0).trans p0, (hq.cell g0).trans p3⟩)
    have y1 : ¬ 9223372036854775807 < 9 + s.size := by omega
    have y2 : ¬ 9223372036854775807 < 9 + s.size + 1 := by omega
    have y3 : ¬ 9223372036854775807 < 9 + s.size + 1 + A.length := by omega
    have y4 : ¬ 9223372036854775807 < 9 + s.size + 1 + A.length + 1 := by omega
    clear p0 p3
    go_cut [] (fun wx => Ext w1 wx ∧ Bd wx w1.heap.size (hdL s wk))
    case first =>
      go_region_held3 (fun w' => w'.cell? ⟨w.heap.size, 0, none⟩ = some (.string s) ∧ w'.cell? ⟨w.heap.size, 3, none⟩ = some (.int .i64 wk))
        (first | (refine SK.out _ ?_; ((repeat (first | with_reducible exact Ext.refl _ | with_reducible assumption | with_reducible refine Ext.alloc ?_ _ | with_reducible refine Ext.drew ?_ | (with_reducible refine Ext.setAt ?_ _ _ _ ?_; rotate_left; omega) | with_reducible refine Ext.trans ?_ (by assumption) | with_reducible exact Past.bel _ | with_reducible refine Ext.trans ?_ (Past.bel _))); done)) | exact SK.out _ (Below.trans (show Ext w1 _ from (by repeat (first | with_reducible exact Ext.refl _ | with_reducible assumption | with_reducible refine Ext.alloc ?_ _ | with_reducible refine Ext.drew ?_ | (with_reducible refine Ext.setAt ?_ _ _ _ ?_; rotate_left; omega) | with_reducible refine Ext.trans ?_ (by assumption) | with_reducible exact Past.bel _ | with_reducible refine Ext.trans ?_ (Past.bel _)))) hbl))
        (first | (go_at_call 28; ((with_reducible refine (TA.out _ (by repeat (first | with_reducible exact Ext.refl _ | with_reducible assumption | with_reducible refine Ext.alloc ?_ _ | with_reducible refine Ext.drew ?_ | (with_reducible refine Ext.setAt ?_ _ _ _ ?_; rotate_left; omega) | with_reducible refine Ext.trans ?_ (by assumption) | with_reducible exact Past.bel _ | with_reducible refine Ext.trans ?_ (Past.bel _)))).mono ?_); rintro e w' ⟨rfl, hx⟩; (first | (obtain ⟨wx, rfl⟩ := Past.again hx) | (obtain ⟨wx, rfl⟩ := Past.ofd hx) | (obtain ⟨wx, rfl⟩ := Past.of hx)))) | (go_at_call 53; ((with_reducible refine (writeS_c w1.heap.size [] _ _ (B0.out.ext (by repeat (first | with_reducible exact Ext.refl _ | with_reducible assumption | with_reducible refine Ext.alloc ?_ _ | with_reducible refine Ext.drew ?_ | (with_reducible refine Ext.setAt ?_ _ _ _ ?_; rotate_left; omega) | with_reducible refine Ext.trans ?_ (by assumption) | with_reducible exact Past.bel _ | with_reducible refine Ext.trans ?_ (Past.bel _)))) (by simp [ByteArray.size_append, ba_sz]; omega)).mono ?_); rintro e w' ⟨rfl, hbd, hbl, hok⟩)))
      all_goals (go_wp2_with fail; go_meet; exact ⟨Below.trans (show Ext w1 _ from (by repeat (first | with_reducible exact Ext.refl _ | with_reducible assumption | with_reducible refine Ext.alloc ?_ _ | with_reducible refine Ext.drew ?_ | (with_reducible refine Ext.setAt ?_ _ _ _ ?_; rotate_left; omega) | with_reducible refine Ext.trans ?_ (by assumption) | with_reducible exact Past.bel _ | with_reducible refine Ext.trans ?_ (Past.bel _)))) hbl, hbd.cast (by simp [ByteArray.data_append, hdL, HA.out])⟩)
    case rest =>
      obtain ⟨hx, hbd⟩ := hcut
      obtain ⟨v0, rfl⟩ : ∃ v0 : World, v0 = wc := ⟨_, rfl⟩
      clear y1 y2 y3 y4 TA
      have h0 := HP.out.ext hx
      have g0' := h0.lt
      have p1' := h0.c1
      have HB := Lib.hid hbd
      clear h0 hbd
      go_wp2_with fail
      go_loopw [25] (fun i wr => ∃ j : Nat, j ≤ c.n ∧ i = .int .i64 j ∧ Ext w1 wr ∧ Bd wr w1.heap.size (ttM s nm c wk j)) (fun i _ => c.n - (intOf i).toNat)
      case atStart => exact ⟨0, by omega, rfl, hx, HB.out⟩
      case round =>
        clear HB hx g0' p1'
        obtain ⟨j, hj, rfl, hx, hbd⟩ := hrel
        have HB := Lib.hid hbd
        have blt := hbd.lt
        have h0 := HP.out.ext hx
        have g0' := h0.lt
        have p1' := h0.c1
        have p2' := h0.c2
        clear hbd h0
        by_cases hlt : j < c.n
        · have x1 : (j : Int) < (c.n : Int) := by omega
          have x0 : (0 : Int) ≤ (j : Int) := by omega
          have hmm := (H.out.mem.mo.ext (Ext.trans e1 hx)).at hlt
          obtain ⟨b1, o1, e9, hb1, q1, q2, q3⟩ := hmm
          subst e9
          have ln := B.out.nz j hlt
          have LL := ttM_len B.out hj
          have bd := B.out.dy j hlt
          have bl := B.out.lp j hlt
          obtain ⟨D, hD⟩ : ∃ D, D = Lib.itoa (c.dy j) := ⟨_, rfl⟩
          obtain ⟨E, hE⟩ : ∃ E, E = Lib.itoa (c.lp j) := ⟨_, rfl⟩
          have ld : D.length ≤ 20 := by rw [hD]; exact itoa_len _ bd.lo bd.hi
          have le : E.length ≤ 20 := by rw [hE]; exact itoa_len _ bl.lo bl.hi
          have TD := Lib.hid (fun (W : World) (hq : Ext w W) => (show Calls Tryd.prog 28 #[.int .i64 (c.dy j)] W (fun e w' => e = .returned (.string ⟨D.toArray⟩) ∧ Ext W w') from by rw [hD]; exact decimal_c _ W bd.lo bd.hi (HT.out.ext hq)))
          have TE := Lib.hid (fun (W : World) (hq : Ext w W) => (show Calls Tryd.prog 28 #[.int .i64 (c.lp j)] W (fun e w' => e = .returned (.string ⟨E.toArray⟩) ∧ Ext W w') from by rw [hE]; exact decimal_c _ W bl.lo bl.hi (HT.out.ext hq)))
          have HD := Lib.hid hD
          have HE := Lib.hid hE
          have hxw := Ext.trans e1 hx
          have BM := Blk.new wr #[(.string (nm j)), (.int .i64 (c.dy j)), (.int .i64 (c.lp j))] 63
          have hz : w1.heap.size < wr.heap.size := blt
          have SK := Lib.hid (show ∀ w', Ext (wr.alloc (.cells #[.string (nm j), .int .i64 (c.dy j), .int .i64 (c.lp j)] 63)) w' → (w'.cell? ⟨wr.heap.size, 0, none⟩ = some (.string (nm j)) ∧ w'.cell? ⟨wr.heap.size, 1, none⟩ = some (.int .i64 (c.dy j)) ∧ w'.cell? ⟨wr.heap.size, 2, none⟩ = some (.int .i64 (c.lp j))) from fun w' hq => by
            have h := BM.ext hq
            exact ⟨h.cell 0, h.cell 1, h.cell 2⟩)
          have SK2 := Lib.hid (show ∀ W W' : World, Ext (wr.alloc (.cells #[.string (nm j), .int .i64 (c.dy j), .int .i64 (c.lp j)] 63)) W → Lib.OthersKept 5 (some w1.heap.size) W W' → (W'.cell? ⟨wr.heap.size, 0, none⟩ = some (.string (nm j)) ∧ W'.cell? ⟨wr.heap.size, 1, none⟩ = some (.int .i64 (c.dy j)) ∧ W'.cell? ⟨wr.heap.size, 2, none⟩ = some (.int .i64 (c.lp j))) from fun W W' hq hk => by
            have h := kept_cell (BM.ext hq) hk (by omega) (by decide)
            exact ⟨h.cell 0, h.cell 1, h.cell 2⟩)
          clear hD hE bd bl BM
          have y1 : ¬ 9223372036854775807 < 6 + (nm j).size := by omega
          have y2 : ¬ 9223372036854775807 < 6 + (nm j).size + 1 := by omega
          have y3 : ¬ 9223372036854775807 < 6 + (nm j).size + 1 + D.length := by omega
          have y4 : ¬ 9223372036854775807 < 6 + (nm j).size + 1 + D.length + 1 := by omega
          have y5 : ¬ 9223372036854775807 < 6 + (nm j).size + 1 + D.length + 1 + E.length := by omega
          have y6 : ¬ 9223372036854775807 < 6 + (nm j).size + 1 + D.length + 1 + E.length + 1 := by omega
          go_upto_region 8 with fail
          go_region_held3 (fun w' => w'.cell? ⟨wr.heap.size, 0, none⟩ = some (.string (nm j)) ∧ w'.cell? ⟨wr.heap.size, 1, none⟩ = some (.int .i64 (c.dy j)) ∧ w'.cell? ⟨wr.heap.size, 2, none⟩ = some (.int .i64 (c.lp j)))
            (first | (refine SK.out _ ?_; ((repeat (first | with_reducible exact Ext.refl _ | with_reducible assumption | with_reducible refine Ext.alloc ?_ _ | with_reducible refine Ext.drew ?_ | (with_reducible refine Ext.setAt ?_ _ _ _ ?_; rotate_left; omega) | with_reducible refine Ext.trans ?_ (by assumption) | with_reducible exact Past.bel _ | with_reducible refine Ext.trans ?_ (Past.bel _))); done)) | exact SK2.out _ _ (by repeat (first | with_reducible exact Ext.refl _ | with_reducible assumption | with_reducible refine Ext.alloc ?_ _ | with_reducible refine Ext.drew ?_ | (with_reducible refine Ext.setAt ?_ _ _ _ ?_; rotate_left; omega) | with_reducible refine Ext.trans ?_ (by assumption) | with_reducible exact Past.bel _ | with_reducible refine Ext.trans ?_ (Past.bel _))) hok)
            (first | (go_at_call 28; ((with_reducible refine (TD.out _ (by repeat (first | with_reducible exact Ext.refl _ | with_reducible assumption | with_reducible refine Ext.alloc ?_ _ | with_reducible refine Ext.drew ?_ | (with_reducible refine Ext.setAt ?_ _ _ _ ?_; rotate_left; omega) | with_reducible refine Ext.trans ?_ (by assumption) | with_reducible exact Past.bel _ | with_reducible refine Ext.trans ?_ (Past.bel _)))).mono ?_); rintro e w' ⟨rfl, hx⟩; (first | (obtain ⟨wx, rfl⟩ := Past.again hx) | (obtain ⟨wx, rfl⟩ := Past.ofd hx) | (obtain ⟨wx, rfl⟩ := Past.of hx)))) | (go_at_call 28; ((with_reducible refine (TE.out _ (by repeat (first | with_reducible exact Ext.refl _ | with_reducible assumption | with_reducible refine Ext.alloc ?_ _ | with_reducible refine Ext.drew ?_ | (with_reducible refine Ext.setAt ?_ _ _ _ ?_; rotate_left; omega) | with_reducible refine Ext.trans ?_ (by assumption) | with_reducible exact Past.bel _ | with_reducible refine Ext.trans ?_ (Past.bel _)))).mono ?_); rintro e w' ⟨rfl, hx⟩; (first | (obtain ⟨wx, rfl⟩ := Past.again hx) | (obtain ⟨wx, rfl⟩ := Past.ofd hx) | (obtain ⟨wx, rfl⟩ := Past.of hx)))) | (go_at_call 53; ((with_reducible refine (writeS_c w1.heap.size (ttM s nm c wk j) _ _ (HB.out.ext (by repeat (first | with_reducible exact Ext.refl _ | with_reducible assumption | with_reducible refine Ext.alloc ?_ _ | with_reducible refine Ext.drew ?_ | (with_reducible refine Ext.setAt ?_ _ _ _ ?_; rotate_left; omega) | with_reducible refine Ext.trans ?_ (by assumption) | with_reducible exact Past.bel _ | with_reducible refine Ext.trans ?_ (Past.bel _)))) (by simp [ByteArray.size_append, ba_sz]; omega)).mono ?_); rintro e w' ⟨rfl, hbd, hbl, hok⟩)))
          all_goals (go_wp2_with fail; exact ⟨⟨j + 1, by omega, by go_num, Below.trans (show Ext w1 _ from (by repeat (first | with_reducible exact Ext.refl _ | with_reducible assumption | with_reducible refine Ext.alloc ?_ _ | with_reducible refine Ext.drew ?_ | (with_reducible refine Ext.setAt ?_ _ _ _ ?_; rotate_left; omega) | with_reducible refine Ext.trans ?_ (by assumption) | with_reducible exact Past.bel _ | with_reducible refine Ext.trans ?_ (Past.bel _)))) hbl, hbd.cast (by rw [ttM]; simp [ByteArray.data_append, moL, HD.out, HE.out])⟩, by simp [intOf]; omega⟩)
        · have x1 : ¬ (j : Int) < (c.n : Int) := by omega
          obtain rfl : j = c.n := by omega
          go_wp2_with fail
          go_loopw [48] (fun i wr => ∃ j : Nat, j ≤ c.nr ∧ i = .int .i64 j ∧ Ext w1 wr ∧ Bd wr w1.heap.size (ttR s nm c wk j)) (fun i _ => c.nr - (intOf i).toNat)
          case atStart => exact ⟨0, by omega, rfl, hx, HB.out⟩
          case round =>
            clear HB hx g0' p1' p2' blt
            obtain ⟨j, hj, rfl, hx, hbd⟩ := hrel
            have HB := Lib.hid hbd
            have blt := hbd.lt
            have h0 := HP.out.ext hx
            have g0' := h0.lt
            have p2' := h0.c2
            clear hbd h0
            by_cases hlt : j < c.nr
            · have x1 : (j : Int) < (c.nr : Int) := by omega
              have x0 : (0 : Int) ≤ (j : Int) := by omega
              have hmm := (H.out.mem.ru.ext (Ext.trans e1 hx)).at hlt
              obtain ⟨b1, o1, e9, hb1, q1, q2, q3⟩ := hmm
              subst e9
              obtain ⟨lfv, hlf⟩ : ∃ b, b = c.lf j := ⟨_, rfl⟩
              rw [← hlf] at q3
              have HF := Lib.hid hlf
              have LL := ttR_len B.out hj
              clear hlf
              have bd := B.out.ev j hlt
              have bl := B.out.rs j hlt
              obtain ⟨D, hD⟩ : ∃ D, D = Lib.itoa (c.ev j) := ⟨_, rfl⟩
              obtain ⟨E, hE⟩ : ∃ E, E = Lib.itoa (c.rs j) := ⟨_, rfl⟩
              have ld : D.length ≤ 20 := by rw [hD]; exact itoa_len _ bd.lo bd.hi
              have le : E.length ≤ 20 := by rw [hE]; exact itoa_len _ bl.lo bl.hi
              have TD := Lib.hid (fun (W : World) (hq : Ext w W) => (show Calls Tryd.prog 28 #[.int .i64 (c.ev j)] W (fun e w' => e = .returned (.string ⟨D.toArray⟩) ∧ Ext W w') from by rw [hD]; exact decimal_c _ W bd.lo bd.hi (HT.out.ext hq)))
              have TE := Lib.hid (fun (W : World) (hq : Ext w W) => (show Calls Tryd.prog 28 #[.int .i64 (c.rs j)] W (fun e w' => e = .returned (.string ⟨E.toArray⟩) ∧ Ext W w') from by rw [hE]; exact decimal_c _ W bl.lo bl.hi (HT.out.ext hq)))
              have HD := Lib.hid hD
              have HE := Lib.hid hE
              have hxw := Ext.trans e1 hx
              have BM := Blk.new wr #[(.int .i64 (c.ev j)), (.int .i64 (c.rs j)), (.bool lfv)] 67
              have hz : w1.heap.size < wr.heap.size := blt
              have SK := Lib.hid (show ∀ w', Ext (wr.alloc (.cells #[.int .i64 (c.ev j), .int .i64 (c.rs j), .bool lfv] 67)) w' → (w'.cell? ⟨wr.heap.size, 0, none⟩ = some (.int .i64 (c.ev j)) ∧ w'.cell? ⟨wr.heap.size, 1, none⟩ = some (.int .i64 (c.rs j)) ∧ w'.cell? ⟨wr.heap.size, 2, none⟩ = some (.bool lfv)) from fun w' hq => by
                have h := BM.ext hq
                exact ⟨h.cell 0, h.cell 1, h.cell 2⟩)
              have SK2 := Lib.hid (show ∀ W W' : World, Ext (wr.alloc (.cells #[.int .i64 (c.ev j), .int .i64 (c.rs j), .bool lfv] 67)) W → Lib.OthersKept 5 (some w1.heap.size) W W' → (W'.cell? ⟨wr.heap.size, 0, none⟩ = some (.int .i64 (c.ev j)) ∧ W'.cell? ⟨wr.heap.size, 1, none⟩ = some (.int .i64 (c.rs j)) ∧ W'.cell? ⟨wr.heap.size, 2, none⟩ = some (.bool lfv)) from fun W W' hq hk => by
                have h := kept_cell (BM.ext hq) hk (by omega) (by decide)
                exact ⟨h.cell 0, h.cell 1, h.cell 2⟩)
              clear hD hE bd bl BM
              have y1 : ¬ 9223372036854775807 < 5 + D.length := by omega
              have y2 : ¬ 9223372036854775807 < 5 + D.length + 1 := by omega
              have y3 : ¬ 9223372036854775807 < 5 + D.length + 1 + E.length := by omega
              have y4 : ¬ 9223372036854775807 < 5 + D.length + 1 + E.length + 1 := by omega
              have y5 : ¬ 9223372036854775807 < 5 + D.length + 1 + E.length + 1 + 3 := by omega
              have y6 : ¬ 9223372036854775807 < 5 + D.length + 1 + E.length + 1 + 3 + 1 := by omega
              have y7 : ¬ 9223372036854775807 < 5 + D.length + 1 + E.length + 1 + 2 := by omega
              have y8 : ¬ 9223372036854775807 < 5 + D.length + 1 + E.length + 1 + 2 + 1 := by omega
              cases lfv
              · go_upto_region 16 with fail
                go_region_held3 (fun w' => w'.cell? ⟨wr.heap.size, 0, none⟩ = some (.int .i64 (c.ev j)) ∧ w'.cell? ⟨wr.heap.size, 1, none⟩ = some (.int .i64 (c.rs j)) ∧ w'.cell? ⟨wr.heap.size, 2, none⟩ = some (.bool false))
                  (first | (refine SK.out _ ?_; ((repeat (first | with_reducible exact Ext.refl _ | with_reducible assumption | with_reducible refine Ext.alloc ?_ _ | with_reducible refine Ext.drew ?_ | (with_reducible refine Ext.setAt ?_ _ _ _ ?_; rotate_left; omega) | with_reducible refine Ext.trans ?_ (by assumption) | with_reducible exact Past.bel _ | with_reducible refine Ext.trans ?_ (Past.bel _))); done)) | exact SK2.out _ _ (by repeat (first | with_reducible exact Ext.refl _ | with_reducible assumption | with_reducible refine Ext.alloc ?_ _ | with_reducible refine Ext.drew ?_ | (with_reducible refine Ext.setAt ?_ _ _ _ ?_; rotate_left; omega) | with_reducible refine Ext.trans ?_ (by assumption) | with_reducible exact Past.bel _ | with_reducible refine Ext.trans ?_ (Past.bel _))) hok)
                  (first | (go_at_call 28; ((with_reducible refine (TD.out _ (by repeat (first | with_reducible exact Ext.refl _ | with_reducible assumption | with_reducible refine Ext.alloc ?_ _ | with_reducible refine Ext.drew ?_ | (with_reducible refine Ext.setAt ?_ _ _ _ ?_; rotate_left; omega) | with_reducible refine Ext.trans ?_ (by assumption) | with_reducible exact Past.bel _ | with_reducible refine Ext.trans ?_ (Past.bel _)))).mono ?_); rintro e w' ⟨rfl, hx⟩; (first | (obtain ⟨wx, rfl⟩ := Past.again hx) | (obtain ⟨wx, rfl⟩ := Past.ofd hx) | (obtain ⟨wx, rfl⟩ := Past.of hx)))) | (go_at_call 28; ((with_reducible refine (TE.out _ (by repeat (first | with_reducible exact Ext.refl _ | with_reducible assumption | with_reducible refine Ext.alloc ?_ _ | with_reducible refine Ext.drew ?_ | (with_reducible refine Ext.setAt ?_ _ _ _ ?_; rotate_left; omega) | with_reducible refine Ext.trans ?_ (by assumption) | with_reducible exact Past.bel _ | with_reducible refine Ext.trans ?_ (Past.bel _)))).mono ?_); rintro e w' ⟨rfl, hx⟩; (first | (obtain ⟨wx, rfl⟩ := Past.again hx) | (obtain ⟨wx, rfl⟩ := Past.ofd hx) | (obtain ⟨wx, rfl⟩ := Past.of hx)))) | (go_at_call 53; ((with_reducible refine (writeS_c w1.heap.size (ttR s nm c wk j) _ _ (HB.out.ext (by repeat (first | with_reducible exact Ext.refl _ | with_reducible assumption | with_reducible refine Ext.alloc ?_ _ | with_reducible refine Ext.drew ?_ | (with_reducible refine Ext.setAt ?_ _ _ _ ?_; rotate_left; omega) | with_reducible refine Ext.trans ?_ (by assumption) | with_reducible exact Past.bel _ | with_reducible refine Ext.trans ?_ (Past.bel _)))) (by simp [ByteArray.size_append, ba_sz]; omega)).mono ?_); rintro e w' ⟨rfl, hbd, hbl, hok⟩)))
                all_goals (go_wp2_with fail; exact ⟨⟨j + 1, by omega, by go_num, Below.trans (show Ext w1 _ from (by repeat (first | with_reducible exact Ext.refl _ | with_reducible assumption | with_reducible refine Ext.alloc ?_ _ | with_reducible refine Ext.drew ?_ | (with_reducible refine Ext.setAt ?_ _ _ _ ?_; rotate_left; omega) | with_reducible refine Ext.trans ?_ (by assumption) | with_reducible exact Past.bel _ | with_reducible refine Ext.trans ?_ (Past.bel _)))) hbl, hbd.cast (by rw [ttR]; simp [ByteArray.data_append, ruL, HD.out, HE.out, ← HF.out, yn])⟩, by simp [intOf]; omega⟩)
              · go_upto_region 16 with fail
                go_region_held3 (fun w' => w'.cell? ⟨wr.heap.size, 0, none⟩ = some (.int .i64 (c.ev j)) ∧ w'.cell? ⟨wr.heap.size, 1, none⟩ = some (.int .i64 (c.rs j)) ∧ w'.cell? ⟨wr.heap.size, 2, none⟩ = some (.bool true))
                  (first | (refine SK.out _ ?_; ((repeat (first | with_reducible exact Ext.refl _ | with_reducible assumption | with_reducible refine Ext.alloc ?_ _ | with_reducible refine Ext.drew ?_ | (with_reducible refine Ext.setAt ?_ _ _ _ ?_; rotate_left; omega) | with_reducible refine Ext.trans ?_ (by assumption) | with_reducible exact Past.bel _ | with_reducible refine Ext.trans ?_ (Past.bel _))); done)) | exact SK2.out _ _ (by repeat (first | with_reducible exact Ext.refl _ | with_reducible assumption | with_reducible refine Ext.alloc ?_ _ | with_reducible refine Ext.drew ?_ | (with_reducible refine Ext.setAt ?_ _ _ _ ?_; rotate_left; omega) | with_reducible refine Ext.trans ?_ (by assumption) | with_reducible exact Past.bel _ | with_reducible refine Ext.trans ?_ (Past.bel _))) hok)
                  (first | (go_at_call 28; ((with_reducible refine (TD.out _ (by repeat (first | with_reducible exact Ext.refl _ | with_reducible assumption | with_reducible refine Ext.alloc ?_ _ | with_reducible refine Ext.drew ?_ | (with_reducible refine Ext.setAt ?_ _ _ _ ?_; rotate_left; omega) | with_reducible refine Ext.trans ?_ (by assumption) | with_reducible exact Past.bel _ | with_reducible refine Ext.trans ?_ (Past.bel _)))).mono ?_); rintro e w' ⟨rfl, hx⟩; (first | (obtain ⟨wx, rfl⟩ := Past.again hx) | (obtain ⟨wx, rfl⟩ := Past.ofd hx) | (obtain ⟨wx, rfl⟩ := Past.of hx)))) | (go_at_call 28; ((with_reducible refine (TE.out _ (by repeat (first | with_reducible exact Ext.refl _ | with_reducible assumption | with_reducible refine Ext.alloc ?_ _ | with_reducible refine Ext.drew ?_ | (with_reducible refine Ext.setAt ?_ _ _ _ ?_; rotate_left; omega) | with_reducible refine Ext.trans ?_ (by assumption) | with_reducible exact Past.bel _ | with_reducible refine Ext.trans ?_ (Past.bel _)))).mono ?_); rintro e w' ⟨rfl, hx⟩; (first | (obtain ⟨wx, rfl⟩ := Past.again hx) | (obtain ⟨wx, rfl⟩ := Past.ofd hx) | (obtain ⟨wx, rfl⟩ := Past.of hx)))) | (go_at_call 53; ((with_reducible refine (writeS_c w1.heap.size (ttR s nm c wk j) _ _ (HB.out.ext (by repeat (first | with_reducible exact Ext.refl _ | with_reducible assumption | with_reducible refine Ext.alloc ?_ _ | with_reducible refine Ext.drew ?_ | (with_reducible refine Ext.setAt ?_ _ _ _ ?_; rotate_left; omega) | with_reducible refine Ext.trans ?_ (by assumption) | with_reducible exact Past.bel _ | with_reducible refine Ext.trans ?_ (Past.bel _)))) (by simp [ByteArray.size_append, ba_sz]; omega)).mono ?_); rintro e w' ⟨rfl, hbd, hbl, hok⟩)))
                all_goals (go_wp2_with fail; exact ⟨⟨j + 1, by omega, by go_num, Below.trans (show Ext w1 _ from (by repeat (first | with_reducible exact Ext.refl _ | with_reducible assumption | with_reducible refine Ext.alloc ?_ _ | with_reducible refine Ext.drew ?_ | (with_reducible refine Ext.setAt ?_ _ _ _ ?_; rotate_left; omega) | with_reducible refine Ext.trans ?_ (by assumption) | with_reducible exact Past.bel _ | with_reducible refine Ext.trans ?_ (Past.bel _)))) hbl, hbd.cast (by rw [ttR]; simp [ByteArray.data_append, ruL, HD.out, HE.out, ← HF.out, yn])⟩, by simp [intOf]; omega⟩)
            · have x1 : ¬ (j : Int) < (c.nr : Int) := by omega
              obtain rfl : j = c.nr := by omega
              go_wp2_with fail
              refine (Tryd.Builder_String_any w1.heap.size w1.heap.size _ _ HB.out (Nat.le_of_lt blt)).mono ?_
              rintro e w' ⟨rfl, hbl⟩
              have hxx := Ext.trans e1 (Below.trans hx hbl)
              go_wp2_with fail
              go_ret
              exact ⟨by rw [HX.out, calL]; rfl, hxx⟩
end Go.Proofs.YtppphpnimecgpaaDoor

namespace Go.Proofs.YtppphpnimecgpaaDoor
open Go.RowKit
set_option linter.unusedVariables false
set_option linter.unusedSimpArgs false

theorem eqMonth_self (s : ByteArray) (a b : Int) (w : World) :
    Calls Tryd.prog 61 #[.agg #[.string s, .int .i64 a, .int .i64 b], .agg #[.string s, .int .i64 a, .int .i64 b]] w fun e w' => e = .returned (.bool true) ∧ Ext w w' := by
  go_enter Tryd.func61, Tryd.ntmps61
  go_wp2
  go_ret
  exact ⟨rfl, (by repeat (first | with_reducible exact Ext.refl _ | with_reducible assumption | with_reducible refine Ext.alloc ?_ _ | with_reducible refine Ext.drew ?_ | (with_reducible refine Ext.setAt ?_ _ _ _ ?_; rotate_left; omega) | with_reducible refine Ext.trans ?_ (by assumption) | with_reducible exact Past.bel _ | with_reducible refine Ext.trans ?_ (Past.bel _)))⟩
theorem eqLeapRule_self (a b : Int) (l : Bool) (w : World) :
    Calls Tryd.prog 62 #[.agg #[.int .i64 a, .int .i64 b, .bool l], .agg #[.int .i64 a, .int .i64 b, .bool l]] w fun e w' => e = .returned (.bool true) ∧ Ext w w' := by
  go_enter Tryd.func62, Tryd.ntmps62
  go_wp2
  go_ret
  exact ⟨rfl, (by repeat (first | with_reducible exact Ext.refl _ | with_reducible assumption | with_reducible refine Ext.alloc ?_ _ | with_reducible refine Ext.drew ?_ | (with_reducible refine Ext.setAt ?_ _ _ _ ?_; rotate_left; omega) | with_reducible refine Ext.trans ?_ (by assumption) | with_reducible exact Past.bel _ | with_reducible refine Ext.trans ?_ (Past.bel _)))⟩
set_option maxHeartbeats 400000 in
theorem eqMonthS_self (aa ab : Option Addr) (n ca cb : Nat) (nm : Nat → ByteArray) (dy lp : Nat → Int) (w : World) (hn : n ≤ 1048576) (ha : S3 w aa n nm dy lp) (hb : S3 w ab n nm dy lp) :
    Calls Tryd.prog 40 #[.slice aa n ca, .slice ab n cb] w fun e w' => e = .returned (.bool true) ∧ Ext w w' := by
  have HA := Lib.hid ha
  have HB := Lib.hid hb
  clear ha hb
  go_enter Tryd.func40, Tryd.ntmps40
  go_wp2_with fail
  go_loopw [5] (fun i wr => ∃ k : Nat, k ≤ n ∧ i = .int .i64 k ∧ Ext w wr) (fun i _ => n - (intOf i).toNat)
  case atStart => exact ⟨0, by omega, rfl, Ext.refl _⟩
  case round =>
    obtain ⟨k, hk, rfl, hbl⟩ := hrel
    by_cases hlt : k < n
    · obtain ⟨b1, o1, rfl, hb1, q1, q2, q3⟩ := (S3.ext HA.out hbl).at hlt
      obtain ⟨b2, o2, rfl, hb2, q4, q5, q6⟩ := (S3.ext HB.out hbl).at hlt
      go_wp2_with fail
      refine wp_region_past (by kernel_rfl) (by kernel_rfl) ?_
      repeat (go_big_quiet_step ((go_at_call 61; exact Calls.past (eqMonth_self _ _ _ _))))
      refine wpQuiet_nil ?_
      rintro _ ⟨wx, rfl⟩
      go_wp2_with fail
      exact ⟨⟨k + 1, by omega, by go_num, (by repeat (first | with_reducible exact Ext.refl _ | with_reducible assumption | with_reducible refine Ext.alloc ?_ _ | with_reducible refine Ext.drew ?_ | (with_reducible refine Ext.setAt ?_ _ _ _ ?_; rotate_left; omega) | with_reducible refine Ext.trans ?_ (by assumption) | with_reducible exact Past.bel _ | with_reducible refine Ext.trans ?_ (Past.bel _)))⟩, by simp [intOf]; omega⟩
    · obtain rfl : k = n := by omega
      go_wp2_with fail
      go_ret
      exact ⟨rfl, hbl⟩
set_option maxHeartbeats 400000 in
theorem eqLeapRuleS_self (aa ab : Option Addr) (n ca cb : Nat) (ev rs : Nat → Int) (lf : Nat → Bool) (w : World) (hn : n ≤ 1048576) (ha : R3 w aa n ev rs lf) (hb : R3 w ab n ev rs lf) :
    Calls Tryd.prog 41 #[.slice aa n ca, .slice ab n cb] w fun e w' => e = .returned (.bool true) ∧ Ext w w' := by
  have HA := Lib.hid ha
  have HB := Lib.hid hb
  clear ha hb
  go_enter Tryd.func41, Tryd.ntmps41
  go_wp2_with fail
  go_loopw [5] (fun i wr => ∃ k : Nat, k ≤ n ∧ i = .int .i64 k ∧ Ext w wr) (fun i _ => n - (intOf i).toNat)
  case atStart => exact ⟨0, by omega, rfl, Ext.refl _⟩
  case round =>
    obtain ⟨k, hk, rfl, hbl⟩ := hrel
    by_cases hlt : k < n
    · obtain ⟨b1, o1, rfl, hb1, q1, q2, q3⟩ := (R3.ext HA.out hbl).at hlt
      obtain ⟨b2, o2, rfl, hb2, q4, q5, q6⟩ := (R3.ext HB.out hbl).at hlt
      go_wp2_with fail
      refine wp_region_past (by kernel_rfl) (by kernel_rfl) ?_
      repeat (go_big_quiet_step ((go_at_call 62; exact Calls.past (eqLeapRule_self _ _ _ _))))
      refine wpQuiet_nil ?_
      rintro _ ⟨wx, rfl⟩
      go_wp2_with fail
      exact ⟨⟨k + 1, by omega, by go_num, (by repeat (first | with_reducible exact Ext.refl _ | with_reducible assumption | with_reducible refine Ext.alloc ?_ _ | with_reducible refine Ext.drew ?_ | (with_reducible refine Ext.setAt ?_ _ _ _ ?_; rotate_left; omega) | with_reducible refine Ext.trans ?_ (by assumption) | with_reducible exact Past.bel _ | with_reducible refine Ext.trans ?_ (Past.bel _)))⟩, by simp [intOf]; omega⟩
    · obtain rfl : k = n := by omega
      go_wp2_with fail
      go_ret
      exact ⟨rfl, hbl⟩
end Go.Proofs.YtppphpnimecgpaaDoor

namespace Go.Proofs.YtppphpnimecgpaaDoor
open Go.RowKit
set_option linter.unusedVariables false
set_option linter.unusedSimpArgs false

set_option maxHeartbeats 400000 in
theorem eqCalendar_self (s : ByteArray) (m1 r1 m2 r2 : Option Addr) (c1 d1 c2 d2 : Nat) (wk : Int) (nm : Nat → ByteArray) (c : CalN) (w : World) (hm : c.n ≤ 1048576) (hr : c.nr ≤ 1048576) (h1 : CalM w m1 r1 nm c) (h2 : CalM w m2 r2 nm c) :
    Calls Tryd.prog 20 #[.agg #[.string s, .slice m1 c.n c1, .slice r1 c.nr d1, .int .i64 wk], .agg #[.string s, .slice m2 c.n c2, .slice r2 c.nr d2, .int .i64 wk]] w fun e w' => e = .returned (.bool true) ∧ Ext w w' := by
  have H1 := Lib.hid h1
  have H2 := Lib.hid h2
  clear h1 h2
  go_enter Tryd.func20, Tryd.ntmps20
  go_wp2_with fail
  refine (eqMonthS_self _ _ _ _ _ _ _ _ _ hm (H1.out.mo.ext (by repeat (first | with_reducible exact Ext.refl _ | with_reducible assumption | with_reducible refine Ext.alloc ?_ _ | with_reducible refine Ext.drew ?_ | (with_reducible refine Ext.setAt ?_ _ _ _ ?_; rotate_left; omega) | with_reducible refine Ext.trans ?_ (by assumption) | with_reducible exact Past.bel _ | with_reducible refine Ext.trans ?_ (Past.bel _)))) (H2.out.mo.ext (by repeat (first | with_reducible exact Ext.refl _ | with_reducible assumption | with_reducible refine Ext.alloc ?_ _ | with_reducible refine Ext.drew ?_ | (with_reducible refine Ext.setAt ?_ _ _ _ ?_; rotate_left; omega) | with_reducible refine Ext.trans ?_ (by assumption) | with_reducible exact Past.bel _ | with_reducible refine Ext.trans ?_ (Past.bel _))))).mono ?_
  rintro e w1 ⟨rfl, hx1⟩
  have e1 : ∀ k v, k < 4 → ((w.alloc (.cells #[.string s, .slice m1 c.n c1, .slice r1 c.nr d1, .int .i64 wk] 42)).alloc (.cells #[.string s, .slice m2 c.n c2, .slice r2 c.nr d2, .int .i64 wk] 42)).cell? ⟨w.heap.size, k, none⟩ = some v → w1.cell? ⟨w.heap.size, k, none⟩ = some v := fun k v _ h => by rw [hx1.cell (by simp <;> omega)]; exact h
  have e2 : ∀ k v, k < 4 → ((w.alloc (.cells #[.string s, .slice m1 c.n c1, .slice r1 c.nr d1, .int .i64 wk] 42)).alloc (.cells #[.string s, .slice m2 c.n c2, .slice r2 c.nr d2, .int .i64 wk] 42)).cell? ⟨w.heap.size + 1, k, none⟩ = some v → w1.cell? ⟨w.heap.size + 1, k, none⟩ = some v := fun k v _ h => by rw [hx1.cell (by simp <;> omega)]; exact h
  have a2 := e1 2 (.slice r1 c.nr d1) (by omega) (by simp [go_sem])
  have a3 := e1 3 (.int .i64 wk) (by omega) (by simp [go_sem])
  have b2 := e2 2 (.slice r2 c.nr d2) (by omega) (by simp [go_sem])
  have b3 := e2 3 (.int .i64 wk) (by omega) (by simp [go_sem])
  have z1 := hx1.size
  simp only [World.size_alloc] at z1
  have hxw : Ext w w1 := Ext.trans (by repeat (first | with_reducible exact Ext.refl _ | with_reducible assumption | with_reducible refine Ext.alloc ?_ _ | with_reducible refine Ext.drew ?_ | (with_reducible refine Ext.setAt ?_ _ _ _ ?_; rotate_left; omega) | with_reducible refine Ext.trans ?_ (by assumption) | with_reducible exact Past.bel _ | with_reducible refine Ext.trans ?_ (Past.bel _))) hx1
  clear e1 e2 hx1
  have g0 : w.heap.size < w1.heap.size := by omega
  have g1 : w.heap.size + 1 < w1.heap.size := by omega
  go_wp2_with fail
  refine (eqLeapRuleS_self _ _ _ _ _ _ _ _ _ hr (H1.out.ru.ext (by repeat (first | with_reducible exact Ext.refl _ | with_reducible assumption | with_reducible refine Ext.alloc ?_ _ | with_reducible refine Ext.drew ?_ | (with_reducible refine Ext.setAt ?_ _ _ _ ?_; rotate_left; omega) | with_reducible refine Ext.trans ?_ (by assumption) | with_reducible exact Past.bel _ | with_reducible refine Ext.trans ?_ (Past.bel _)))) (H2.out.ru.ext (by repeat (first | with_reducible exact Ext.refl _ | with_reducible assumption | with_reducible refine Ext.alloc ?_ _ | with_reducible refine Ext.drew ?_ | (with_reducible refine Ext.setAt ?_ _ _ _ ?_; rotate_left; omega) | with_reducible refine Ext.trans ?_ (by assumption) | with_reducible exact Past.bel _ | with_reducible refine Ext.trans ?_ (Past.bel _))))).mono ?_
  rintro e w2 ⟨rfl, hx2⟩
  have u3 : w2.cell? ⟨w.heap.size, 3, none⟩ = some (.int .i64 wk) := by rw [hx2.cell g0]; exact a3
  have v3 : w2.cell? ⟨w.heap.size + 1, 3, none⟩ = some (.int .i64 wk) := by rw [hx2.cell g1]; exact b3
  go_wp2_with fail
  go_ret
  exact ⟨rfl, (by repeat (first | with_reducible exact Ext.refl _ | with_reducible assumption | with_reducible refine Ext.alloc ?_ _ | with_reducible refine Ext.drew ?_ | (with_reducible refine Ext.setAt ?_ _ _ _ ?_; rotate_left; omega) | with_reducible refine Ext.trans ?_ (by assumption) | with_reducible exact Past.bel _ | with_reducible refine Ext.trans ?_ (Past.bel _)))⟩
end Go.Proofs.YtppphpnimecgpaaDoor

namespace Go.Proofs.YtppphpnimecgpaaDoor
open Go.ChangeShapes Go.WideShapes Go.RowKit Go.Deep
set_option linter.unusedVariables false

/-- what a calendar's arguments hold -/
structure CalA (w : World) (s : ByteArray) (ma ra : Option Addr) (mc rc : Nat) (nm : Nat → ByteArray) (c : CalN) : Prop where
  sz : s.size ≤ 9223372036854775807
  nz : ∀ i, i < c.n → (nm i).size ≤ 9223372036854775807
  nb : c.n ≤ maxLen
  rb : c.nr ≤ maxLen
  mem : CalM w ma ra nm c
section
variable {H : Type} {enc : TypeId × Value → H} {P : Program} {w : World} {base : Nat} {spare : Nat → Bool} {held : Bool}
theorem fld {fs : Array Field} {j : Nat} {u : TypeDesc} (h : (fs[j]?).bind (fun f => P.underlying f.type) = some u) : ∃ f, fs[j]? = some f ∧ P.underlying f.type = some u := by
  cases e : fs[j]? with
  | none => rw [e] at h; simp at h
  | some f => rw [e] at h; exact ⟨f, rfl, h⟩
theorem fldT {fs : Array Field} {j : Nat} (hj : j < fs.size) {u : TypeDesc} (h : (fs[j]?).bind (fun f => P.underlying f.type) = some u) : P.underlying fs[j].type = some u := by
  rw [Array.getElem?_eq_getElem hj] at h; exact h
theorem down_cal {t em er : TypeId} {fs fm fr : Array Field} {v : Value} {d : DataW H} {p : List MemPlace} {r : Reach} {b0 : Nat}
    (hs : P.underlying t = some (.struct fs)) (hone : oneCellFields P fs = true) (hC : P.cellsOf t = fs.size) (h4 : fs.size = 4)
    (k0 : (fs[0]?).bind (fun f => P.underlying f.type) = some .string) (k1 : (fs[1]?).bind (fun f => P.underlying f.type) = some (.slice em)) (k2 : (fs[2]?).bind (fun f => P.underlying f.type) = some (.slice er)) (k3 : (fs[3]?).bind (fun f => P.underlying f.type) = some (.int .i64))
    (hm : P.underlying em = some (.struct fm)) (honem : oneCellFields P fm = true) (hCm : P.cellsOf em = fm.size) (hm3 : fm.size = 3)
    (m0 : (fm[0]?).bind (fun f => P.underlying f.type) = some .string) (m1 : (fm[1]?).bind (fun f => P.underlying f.type) = some (.int .i64)) (m2 : (fm[2]?).bind (fun f => P.underlying f.type) = some (.int .i64))
    (hr : P.underlying er = some (.struct fr)) (honer : oneCellFields P fr = true) (hCr : P.cellsOf er = fr.size) (hr3 : fr.size = 3)
    (r0 : (fr[0]?).bind (fun f => P.underlying f.type) = some (.int .i64)) (r1 : (fr[1]?).bind (fun f => P.underlying f.type) = some (.int .i64)) (r2 : (fr[2]?).bind (fun f => P.underlying f.type) = some .bool)
    (hv : Value.okWide P w r b0 t v) (h : DataW.Trod enc P w base spare held t v d p) :
    ∃ (s : ByteArray) (ma ra : Option Addr) (mc rc : Nat) (wk : Int) (nm : Nat → ByteArray) (c : CalN), v = .agg #[.string s, .slice ma c.n mc, .slice ra c.nr rc, .int .i64 wk] ∧ (Lit.int .i64 wk).wf = true ∧ CalA w s ma ra mc rc nm c := by
  obtain ⟨cs, rfl, hsz⟩ := okWide_struct hs hv
  obtain ⟨fuel, hf⟩ := h
  obtain ⟨n, hl, hfl⟩ := down_struct hs hone hC (cs := cs.toList) (by simpa [Value.cells] using hf)
  obtain ⟨f0, e0, u0⟩ := fld k0
  obtain ⟨f1, e1, u1⟩ := fld k1
  obtain ⟨f2, e2, u2⟩ := fld k2
  obtain ⟨f3, e3, u3⟩ := fld k3
  obtain ⟨v0, y0, g0, t0⟩ := hfl 0 f0 e0
  obtain ⟨v1, y1, g1, t1⟩ := hfl 1 f1 e1
  obtain ⟨v2, y2, g2, t2⟩ := hfl 2 f2 e2
  obtain ⟨v3, y3, g3, t3⟩ := hfl 3 f3 e3
  obtain ⟨s, hs0, _, hss⟩ := DataW.trod_string u0 t0
  obtain ⟨wk, hs3, _, hwk⟩ := DataW.trod_int u3 t3
  obtain ⟨ma, n1, mc, z, hv1, nc1, mx1, hz⟩ := down_rows u1 hm honem hCm (by omega) t1
  obtain ⟨ra, n2, rc, y, hv2, nc2, mx2, hy⟩ := down_rows u2 hr honer hCr (by omega) t2
  simp only [List.cons.injEq, and_true] at hs0 hs3
  subst hs0; subst hs3; subst hv1; subst hv2
  have hcs : cs = #[.string s, .slice ma n1 mc, .slice ra n2 rc, .int .i64 wk] := by
    apply Array.toList_inj.1
    apply List.ext_getElem?
    intro j
    obtain rfl | rfl | rfl | rfl | hj : j = 0 ∨ j = 1 ∨ j = 2 ∨ j = 3 ∨ 4 ≤ j := by omega
    · rw [g0]; rfl
    · rw [g1]; rfl
    · rw [g2]; rfl
    · rw [g3]; rfl
    · rw [List.getElem?_eq_none (by omega), List.getElem?_eq_none (by simpa using hj)]
  subst hcs
  -- the months
  have hM : ∀ i, i < n1 → ∃ q : ByteArray × Int × Int, q.1.size ≤ maxLen ∧ (0 < n1 → z i 0 = .string q.1 ∧ z i 1 = .int .i64 q.2.1 ∧ z i 2 = .int .i64 q.2.2) := fun i hi => by
    obtain ⟨b, off, ha, hb, hc⟩ := hz (by omega)
    obtain ⟨_, a0, _, c0⟩ := hc i hi 0 (by omega)
    obtain ⟨_, a1, _, c1⟩ := hc i hi 1 (by omega)
    obtain ⟨_, a2, _, c2⟩ := hc i hi 2 (by omega)
    obtain ⟨s', d0, _, hs'⟩ := DataW.trod_string (fldT (by omega) m0) c0
    obtain ⟨x1, d1, _, _⟩ := DataW.trod_int (fldT (by omega) m1) c1
    obtain ⟨x2, d2, _, _⟩ := DataW.trod_int (fldT (by omega) m2) c2
    simp only [List.cons.injEq, and_true] at d0 d1 d2
    exact ⟨(s', x1, x2), hs', fun _ => ⟨d0, d1, d2⟩⟩
  have hR : ∀ i, i < n2 → ∃ q : Int × Int × Bool, (0 < n2 → y i 0 = .int .i64 q.1 ∧ y i 1 = .int .i64 q.2.1 ∧ y i 2 = .bool q.2.2) := fun i hi => by
    obtain ⟨b, off, ha, hb, hc⟩ := hy (by omega)
    obtain ⟨_, a0, _, c0⟩ := hc i hi 0 (by omega)
    obtain ⟨_, a1, _, c1⟩ := hc i hi 1 (by omega)
    obtain ⟨_, a2, _, c2⟩ := hc i hi 2 (by omega)
    obtain ⟨x0, d0, _, _⟩ := DataW.trod_int (fldT (by omega) r0) c0
    obtain ⟨x1, d1, _, _⟩ := DataW.trod_int (fldT (by omega) r1) c1
    obtain ⟨x2, d2, _⟩ := DataW.trod_bool (fldT (by omega) r2) c2
    simp only [List.cons.injEq, and_true] at d0 d1 d2
    exact ⟨(x0, x1, x2), fun _ => ⟨d0, d1, d2⟩⟩
  obtain ⟨q, hq⟩ := choose_lt hM
  obtain ⟨p, hp⟩ := choose_lt hR
  refine ⟨s, ma, ra, mc, rc, wk, fun i => (q i).1, ⟨n2, fun i => (p i).1, fun i => (p i).2.1, fun i => (p i).2.2, n1, fun i => (q i).2.1, fun i => (q i).2.2⟩, rfl, hwk, ⟨by unfold maxLen at hss; omega, fun i hi => by have := (hq i hi).1; unfold maxLen at this; exact Nat.le_trans this (by decide), by dsimp only; omega, by dsimp only; omega, ?_, ?_⟩⟩
  · intro h0
    obtain ⟨b, off, ha, hb, hc⟩ := hz h0
    refine ⟨b, off, ha, hb, fun i hi => ?_⟩
    obtain ⟨d0, d1, d2⟩ := (hq i hi).2 h0
    have e0 := (hc i hi 0 (by omega)).1
    have e1 := (hc i hi 1 (by omega)).1
    have e2 := (hc i hi 2 (by omega)).1
    rw [hm3, d0] at e0; rw [hm3, d1] at e1; rw [hm3, d2] at e2
    exact ⟨e0, e1, e2⟩
  · intro h0
    obtain ⟨b, off, ha, hb, hc⟩ := hy h0
    refine ⟨b, off, ha, hb, fun i hi => ?_⟩
    obtain ⟨d0, d1, d2⟩ := hp i hi h0
    have e0 := (hc i hi 0 (by omega)).1
    have e1 := (hc i hi 1 (by omega)).1
    have e2 := (hc i hi 2 (by omega)).1
    rw [hr3, d0] at e0; rw [hr3, d1] at e1; rw [hr3, d2] at e2
    exact ⟨e0, e1, e2⟩
end
end Go.Proofs.YtppphpnimecgpaaDoor

namespace Go.Proofs.YtppphpnimecgpaaDoor
open Go.RowKit
set_option linter.unusedVariables false
set_option linter.unusedSimpArgs false

end Go.Proofs.YtppphpnimecgpaaDoor

namespace Go.Proofs.YtppphpnimecgpaaDoor
set_option linter.unusedVariables false
/-- codes and values -/
def ymC (s : ByteArray) (nm : Nat → ByteArray) (c : CalN) (wk y m : Int) : Int := if calB s nm c wk then (if inB y 0 9999 && inB m 1 (c.n : Int) then 0 else 2) else 1
def ymV (s : ByteArray) (nm : Nat → ByteArray) (c : CalN) (wk y m : Int) : Int := if ymC s nm c wk y m = 0 then c.mo y (m - 1).toNat else 0
def yrC (s : ByteArray) (nm : Nat → ByteArray) (c : CalN) (wk y : Int) : Int := if calB s nm c wk then (if inB y 0 9999 then 0 else 2) else 1
def yrV (s : ByteArray) (nm : Nat → ByteArray) (c : CalN) (wk y : Int) : Int := if yrC s nm c wk y = 0 then c.yl y else 0
/-- a date is a day of a valid calendar -/
def dtB (c : CalN) (y m d : Int) : Bool := inB y 0 9999 && (inB m 1 (c.n : Int) && inB d 1 (c.mo y (m - 1).toNat))
def vdR (s : ByteArray) (nm : Nat → ByteArray) (c : CalN) (wk y m d : Int) : Bool := calB s nm c wk && dtB c y m d
theorem mon_nat {n : Nat} {m : Int} (h : inB m 1 (n : Int) = true) : ∃ j : Nat, m = (j : Int) + 1 ∧ j < n := by
  have := inB_t.1 h
  exact ⟨(m - 1).toNat, by omega, by omega⟩
theorem succ_pred (j : Nat) : ((j : Int) + 1 - 1).toNat = j := by omega
end Go.Proofs.YtppphpnimecgpaaDoor

namespace Go.Proofs.YtppphpnimecgpaaDoor
open Go.RowKit
set_option linter.unusedVariables false
set_option linter.unusedSimpArgs false

end Go.Proofs.YtppphpnimecgpaaDoor

namespace Go.Proofs.YtppphpnimecgpaaDoor
open Go.RowKit
set_option linter.unusedVariables false
set_option linter.unusedSimpArgs false

theorem yl_t {c : CalN} {y : Int} (h : c.leap y = true) : c.yl y = sm c.lp c.n := by rw [yl_if, h]; rfl
theorem yl_f {c : CalN} {y : Int} (h : c.leap y = false) : c.yl y = sm c.dy c.n := by rw [yl_if, h]; rfl
end Go.Proofs.YtppphpnimecgpaaDoor
