/- Days before a year: the program's. -/
import Derived.Test.YtaamnmpbkdinpaaCW16
namespace Go.Proofs.Ytaamnmpbkdinpaa
open Go.RowKit
set_option linter.unusedVariables false
set_option linter.unusedSimpArgs false

theorem yl_if (c : CalN) (y : Int) : c.yl y = if c.leap y then sm c.lp c.n else sm c.dy c.n := by
  unfold CalN.yl CalN.mo
  cases c.leap y <;> rfl
end Go.Proofs.Ytaamnmpbkdinpaa
