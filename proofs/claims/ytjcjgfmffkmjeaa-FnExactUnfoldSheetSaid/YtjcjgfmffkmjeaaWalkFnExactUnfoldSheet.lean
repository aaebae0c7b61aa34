/- FnExactUnfoldSheet: for every input the law's function returns true: the walk, and the plain law that it comes to. -/
import Derived.Test.YtjcjgfmffkmjeaaX0
import Derived.Test.YtjcjgfmffkmjeaaX5
import Derived.Test.YtjcjgfmffkmjeaaX26
import Derived.Test.YtjcjgfmffkmjeaaFacts3b
import Derived.Test.YtjcjgfmffkmjeaaFacts6a
set_option linter.unusedVariables false
set_option linter.unusedSimpArgs false
namespace Go.Proofs.Ytjcjgfmffkmjeaa.fnExactUnfoldSheet
open Go.RowKit Go.Proofs.Ytjcjgfmffkmjeaa.X Go.Proofs.YtjcjgfmffkmjeaaW.PrintWords Go.Proofs.YtjcjgfmffkmjeaaW.PrintLast

theorem walk (a0 : S24) (a1 : Int) (w : World) (w0 : (Lit.int .i16 a0.f0).wf = true ∧ (Lit.int .i16 a0.f1).wf = true ∧ (Lit.int .i16 a0.f2).wf = true) (w1 : (Lit.int .i64 a1).wf = true) :
    Calls Try.prog 7 #[.agg #[.int .i16 a0.f0, .int .i16 a0.f1, .int .i16 a0.f2], .int .i64 a1] w fun e w' => e = .returned (.bool true) ∧ Below w.heap.size w w' := by
  obtain ⟨ha, hb, hc⟩ := w0
  have ha := wf16 ha
  have hb := wf16 hb
  have hc := wf16 hc
  refine laws_FnExactUnfoldSheet.calls _ _ _ _ true w ?_
  unfold laws_FnExactUnfoldSheet.f laws_toSheet.f
  simp only [Option.bind_some, implUnfold_f ha hb hc, specUnfold_f ha hb hc, eqSheet_f, and_self, decide_true, if_true]

end Go.Proofs.Ytjcjgfmffkmjeaa.fnExactUnfoldSheet
