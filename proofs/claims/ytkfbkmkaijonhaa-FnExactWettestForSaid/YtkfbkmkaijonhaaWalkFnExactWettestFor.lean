/- FnExactWettestFor: for every input the law's function returns true: the walk, and the plain law that it comes to. -/
import Derived.Test.YtkfbkmkaijonhaaWst
import Derived.Test.YtkfbkmkaijonhaaOpenDay
set_option linter.unusedVariables false
namespace Go.Proofs.Ytkfbkmkaijonhaa.fnExactWettestFor
open Go.RowKit Go.Proofs.Ytkfbkmkaijonhaa.X Go.Proofs.YtkfbkmkaijonhaaW.PrintWords Go.Proofs.YtkfbkmkaijonhaaW.PrintLast

theorem walk (a0 : List Int) (a1 : Int) (a2 : Int) (a3 : Int) (a4 : Bool) (w : World) (n0 : a0.length = 72) (w0 : i8All a0) (w1 : (Lit.int .i64 a1).wf = true) (w2 : (Lit.int .i64 a2).wf = true) (w3 : (Lit.int .i64 a3).wf = true) :
    Calls Try.prog 6 #[.agg (nums .i8 a0).toArray, .int .i64 a1, .int .i64 a2, .int .i64 a3, .bool a4] w fun e w' => e = .returned (.bool true) ∧ Below w.heap.size w w' := by
  exact lawWst_calls a0 n0 w0 a1 a2 a3 a4 w

end Go.Proofs.Ytkfbkmkaijonhaa.fnExactWettestFor
