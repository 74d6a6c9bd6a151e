/- Values that the functions on fits hand back. -/
import Derived.WalkKit
import Derived.Test.YtfpbmceflpohnaaPlain
namespace Go.Proofs.Ytfpbmceflpohnaa
set_option linter.unusedVariables false
/-- a fit as a value -/
def fitV (c x y xx xy : Int) : Value := .agg #[.int .i64 c, .int .i64 x, .int .i64 y, .int .i64 xx, .int .i64 xy]
def addV (c x y xx xy c' x' y' xx' xy' : Int) : Value := if addCode c x y xx xy c' x' y' xx' xy' = 0 then .agg #[.int .i64 (c + c'), .int .i64 (x + x'), .int .i64 (y + y'), .int .i64 (xx + xx'), .int .i64 (xy + xy')] else .agg #[.int .i64 0, .int .i64 0, .int .i64 0, .int .i64 0, .int .i64 0]
end Go.Proofs.Ytfpbmceflpohnaa
