/- Rates between readings, residuals. No program in sight. -/
import Derived.Test.YtfpbmceflpohnaaPlain9
import Derived.Test.YtfpbmceflpohnaaPlain5
namespace Go.Proofs.Ytfpbmceflpohnaa
set_option linter.unusedVariables false
/-- a function's first j values -/
def outs (F : Nat → Int) : Nat → List Int
  | 0 => []
  | j + 1 => outs F j ++ [F j]
theorem outs_len (F : Nat → Int) (j : Nat) : (outs F j).length = j := by
  induction j with
  | zero => rfl
  | succ j ih => simp [outs, ih]
def rateFn (h o : Nat → Int) (j : Nat) : Int := nearD (24000 * (o (j + 1) - o j)) (h (j + 1) - h j)
def rateCode (n : Nat) (h o : Nat → Int) : Int := if rdV n h o then 0 else 1
def rateRes (n : Nat) (h o : Nat → Int) : List Int := if rdV n h o then outs (rateFn h o) (n - 1) else []
theorem rateRes_len (n : Nat) (h o : Nat → Int) : (rateRes n h o).length ≤ n := by
  unfold rateRes; split
  · rw [outs_len]; omega
  · simp
end Go.Proofs.Ytfpbmceflpohnaa
