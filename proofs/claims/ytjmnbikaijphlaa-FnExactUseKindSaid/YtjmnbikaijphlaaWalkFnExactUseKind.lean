/- FnExactUseKind: for every input the law's function returns true: the walk, and the plain law that it comes to. -/
import Derived.Test.YtjmnbikaijphlaaHLawUk
import Derived.Test.YtjmnbikaijphlaaOpenStock
set_option linter.unusedVariables false
namespace Go.Proofs.Ytjmnbikaijphlaa.fnExactUseKind
open Go.RowKit Go.Proofs.Ytjmnbikaijphlaa.X Go.Proofs.YtjmnbikaijphlaaW.PrintWords Go.Proofs.YtjmnbikaijphlaaW.PrintLast

theorem walk (a0 : List Int) (r0 : Int) (a1 : Int) (w : World) (n0 : a0.length = 24) (w0 : stkR a0 r0) (w1 : (Lit.int .i64 a1).wf = true) :
    Calls Try.prog 8 #[.agg (stk a0 r0).toArray, .int .i64 a1] w fun e w' => e = .returned (.bool true) ∧ Below w.heap.size w w' := by
  exact lawUKs_calls a0 r0 n0 w0 a1 w

end Go.Proofs.Ytjmnbikaijphlaa.fnExactUseKind
