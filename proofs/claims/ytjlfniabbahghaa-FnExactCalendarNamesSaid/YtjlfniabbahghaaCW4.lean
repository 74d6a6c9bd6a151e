/- The texts of marks; lists of texts. -/
import Derived.Test.YtjlfniabbahghaaCW1
import Derived.Test.YtjlfniabbahghaaCPlain6
import Derived.Laws.IdiomStrings
import Derived.Laws.Concat
namespace Go.Proofs.Ytjlfniabbahghaa
open Go.RowKit
set_option linter.unusedVariables false
set_option linter.unusedSimpArgs false

theorem u8_dig {k : Nat} : ((UInt8.ofNat (48 + k % 10)).toNat : Int) = 48 + ((k % 10 : Nat) : Int) := by
  have h : (48 + k % 10) % 256 = 48 + k % 10 := Nat.mod_eq_of_lt (by omega)
  rw [UInt8.toNat_ofNat', h]; omega
set_option maxHeartbeats 1000000 in
theorem markText_c (k : Nat) (w : World) (hk : k ≤ 100000000) :
    Calls Try.prog 23 #[.int .i64 (k : Nat)] w fun e w' => e = .returned (.string (markT k)) ∧ Ext w w' := by
  by_cases h0 : k = 0
  · subst h0
    go_enter Try.func23, Try.ntmps23
    go_wp2
    go_ret
    exact ⟨rfl, (by repeat (first | with_reducible exact Ext.refl _ | with_reducible assumption | with_reducible refine Ext.alloc ?_ _ | with_reducible refine Ext.drew ?_ | (with_reducible refine Ext.setAt ?_ _ _ _ ?_; rotate_left; omega) | with_reducible refine Ext.trans ?_ (by assumption) | with_reducible exact Past.bel _ | with_reducible refine Ext.trans ?_ (Past.bel _)))⟩
  · have hl := digs_len k 9 (by omega)
    have HL := Lib.hid hl
    clear hl
    have x0 : ¬ (k : Int) ≤ 0 := by omega
    go_enter Try.func23, Try.ntmps23
    go_wp2_with fail
    go_loopw [0, 3] (fun i s wr => ∃ (j : Nat) (B : ByteArray), i = .int .i64 (j : Nat) ∧ j ≤ k ∧ s = .string B ∧ Ext w wr ∧ digs k = digs j ++ B.data.toList) (fun i _ _ => (intOf i).toNat)
    case atStart => exact ⟨k, ⟨#[]⟩, rfl, by omega, rfl, (by repeat (first | with_reducible exact Ext.refl _ | with_reducible assumption | with_reducible refine Ext.alloc ?_ _ | with_reducible refine Ext.drew ?_ | (with_reducible refine Ext.setAt ?_ _ _ _ ?_; rotate_left; omega) | with_reducible refine Ext.trans ?_ (by assumption) | with_reducible exact Past.bel _ | with_reducible refine Ext.trans ?_ (Past.bel _))), by simp⟩
    case round =>
      obtain ⟨j, B, rfl, hj, rfl, hbl, hd⟩ := hrel
      by_cases hlt : 0 < j
      · have hll : B.size ≤ 9 := by
          have h1 := HL.out
          rw [hd, List.length_append] at h1
          have h2 : B.size = B.data.toList.length := Array.length_toList.symm
          omega
        have hd2 : digs k = digs (j / 10) ++ (UInt8.ofNat (48 + j % 10) :: B.data.toList) := by rw [hd, digs_step (by omega)]; simp
        have HD := Lib.hid hd2
        clear hd hd2
        have y0 : (0 : Int) < (j : Int) := by omega
        have hcv : Sem.run Try.prog (convert 44 9 (Value.slice (some ⟨wr.heap.size, 0, none⟩) 1 1)) (wr.alloc (.cells #[.int .u8 (48 + (j : Int) % 10)] 5)) = .ok (.string ⟨#[UInt8.ofNat (48 + j % 10)]⟩) (wr.alloc (.cells #[.int .u8 (48 + (j : Int) % 10)] 5)) := by
          refine run_convert_bytes_back _ _ _ 5 _ 1 [UInt8.ofNat (48 + j % 10)] (by kernel_rfl) (by kernel_rfl) (by kernel_rfl) fun i hi => ?_
          obtain rfl : i = 0 := by simpa using hi
          simp only [List.getElem_cons_zero, u8_dig]
          simp [Addr.add, go_sem]
        go_wp2_with fail
        exact ⟨⟨j / 10, _, by go_num, by omega, rfl, (by repeat (first | with_reducible exact Ext.refl _ | with_reducible assumption | with_reducible refine Ext.alloc ?_ _ | with_reducible refine Ext.drew ?_ | (with_reducible refine Ext.setAt ?_ _ _ _ ?_; rotate_left; omega) | with_reducible refine Ext.trans ?_ (by assumption) | with_reducible exact Past.bel _ | with_reducible refine Ext.trans ?_ (Past.bel _))), by rw [HD.out]; simp [ByteArray.data_append]⟩, by simp [intOf]; omega⟩
      · obtain rfl : j = 0 := by omega
        have e1 : digs k = B.data.toList := by rw [hd, digs_zero]; rfl
        have hll : B.size ≤ 9 := by
          have h1 := HL.out
          rw [e1] at h1
          have h2 : B.size = B.data.toList.length := Array.length_toList.symm
          omega
        have E1 := Lib.hid e1
        clear hd e1
        go_wp2_with fail
        go_ret
        refine ⟨?_, (by repeat (first | with_reducible exact Ext.refl _ | with_reducible assumption | with_reducible refine Ext.alloc ?_ _ | with_reducible refine Ext.drew ?_ | (with_reducible refine Ext.setAt ?_ _ _ _ ?_; rotate_left; omega) | with_reducible refine Ext.trans ?_ (by assumption) | with_reducible exact Past.bel _ | with_reducible refine Ext.trans ?_ (Past.bel _)))⟩
        have h3 : markT k = ⟨#[109]⟩ ++ B := by
          rw [markT, if_neg h0, E1.out]
        rw [h3]; rfl
end Go.Proofs.Ytjlfniabbahghaa
