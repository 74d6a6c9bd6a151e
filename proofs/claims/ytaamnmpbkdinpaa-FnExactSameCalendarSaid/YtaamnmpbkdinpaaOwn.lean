/- Two closed facts on the loaded program that each row's frame uses. -/
import Derived.Test.YtaamnmpbkdinpaaRows
import Derived.KernelRfl
namespace Go.Proofs.Ytaamnmpbkdinpaa
theorem own : ownKnob Try.prog.godebug = none := by kernel_rfl
theorem laidOut : laidOutB Try.prog = true := by kernel_rfl
end Go.Proofs.Ytaamnmpbkdinpaa
