/- FnExactPiecesOf: for every input the law's function returns true: the walk, and the plain law that it comes to. -/
import Derived.Test.YtjmnbikaijphlaaLawPo
import Derived.Test.YtjmnbikaijphlaaOpenStock
set_option linter.unusedVariables false
namespace Go.Proofs.Ytjmnbikaijphlaa.fnExactPiecesOf
open Go.RowKit Go.Proofs.Ytjmnbikaijphlaa.X Go.Proofs.YtjmnbikaijphlaaW.PrintWords Go.Proofs.YtjmnbikaijphlaaW.PrintLast

theorem walk (a0 : List Int) (r0 : Int) (w : World) (n0 : a0.length = 24) (w0 : stkR a0 r0) :
    Calls Try.prog 4 #[.agg (stk a0 r0).toArray] w fun e w' => e = .returned (.bool true) ∧ Below w.heap.size w w' := by
  exact lawPO_calls a0 n0 r0 w0 w

end Go.Proofs.Ytjmnbikaijphlaa.fnExactPiecesOf
