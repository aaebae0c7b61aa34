/- FnExactRainFrom: for every input the law's function returns true: the walk, and the plain law that it comes to. -/
import Derived.Test.YtkfbkmkaijonhaaRain
import Derived.Test.YtkfbkmkaijonhaaOpenDay
set_option linter.unusedVariables false
namespace Go.Proofs.Ytkfbkmkaijonhaa.fnExactRainFrom
open Go.RowKit Go.Proofs.Ytkfbkmkaijonhaa.X Go.Proofs.YtkfbkmkaijonhaaW.PrintWords Go.Proofs.YtkfbkmkaijonhaaW.PrintLast

theorem walk (a0 : List Int) (a1 : Int) (w : World) (n0 : a0.length = 72) (w0 : i8All a0) (w1 : (Lit.int .i64 a1).wf = true) :
    Calls Try.prog 4 #[.agg (nums .i8 a0).toArray, .int .i64 a1] w fun e w' => e = .returned (.bool true) ∧ Below w.heap.size w w' := by
  exact lawRain_calls a0 n0 w0 a1 w

end Go.Proofs.Ytkfbkmkaijonhaa.fnExactRainFrom
