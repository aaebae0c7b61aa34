/- FnExactCourseOf: for every input the law's function returns true: the walk, and the plain law that it comes to. -/
import Derived.Test.YtkfbkmkaijonhaaCrsLaw
import Derived.Test.YtkfbkmkaijonhaaOpenDay
set_option linter.unusedVariables false
namespace Go.Proofs.Ytkfbkmkaijonhaa.fnExactCourseOf
open Go.RowKit Go.ChangeShapes Go.Proofs.Ytkfbkmkaijonhaa.X Go.Proofs.YtkfbkmkaijonhaaW.PrintWords Go.Proofs.YtkfbkmkaijonhaaW.PrintLast

theorem walk (a0 : List Int) (a1 : S37) (a2 : Int) (a3 : Bool) (w : World) (n0 : a0.length = 72) (w0 : i8All a0) (w1 : (Lit.int .i16 a1.f0).wf = true ∧ (Lit.int .i8 a1.f1).wf = true) (w2 : (Lit.int .i64 a2).wf = true) :
    Calls Try.prog 8 #[.agg (nums .i8 a0).toArray, .agg #[.int .i16 a1.f0, .int .i8 a1.f1], .int .i64 a2, .bool a3] w fun e w' => e = .returned (.bool true) ∧ Below w.heap.size w w' := by
  exact lawCrs_calls a0 n0 w0 a1.f0 a1.f1 ⟨⟨(bounds_i16 w1.1).1, (bounds_i16 w1.1).2⟩, (bounds_i8 w1.2).1, (bounds_i8 w1.2).2⟩ a2 a3 w

end Go.Proofs.Ytkfbkmkaijonhaa.fnExactCourseOf
