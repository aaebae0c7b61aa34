/- FnExactFitsShelf: for every input the law's function returns true: the walk, and the plain law that it comes to. -/
import Derived.Test.YtjcjgfmffkmjeaaX11
import Derived.Test.YtjcjgfmffkmjeaaFacts5
set_option linter.unusedVariables false
namespace Go.Proofs.Ytjcjgfmffkmjeaa.fnExactFitsShelf
open Go.RowKit Go.Proofs.Ytjcjgfmffkmjeaa.X Go.Proofs.YtjcjgfmffkmjeaaW.PrintWords Go.Proofs.YtjcjgfmffkmjeaaW.PrintLast

theorem walk (a0 : S24) (a1 : Int) (a2 : Int) (a3 : Int) (w : World) (w0 : (Lit.int .i16 a0.f0).wf = true ∧ (Lit.int .i16 a0.f1).wf = true ∧ (Lit.int .i16 a0.f2).wf = true) (w1 : (Lit.int .i64 a1).wf = true) (w2 : (Lit.int .i64 a2).wf = true) (w3 : (Lit.int .i64 a3).wf = true) :
    Calls Try.prog 6 #[.agg #[.int .i16 a0.f0, .int .i16 a0.f1, .int .i16 a0.f2], .int .i64 a1, .int .i64 a2, .int .i64 a3] w fun e w' => e = .returned (.bool true) ∧ Below w.heap.size w w' := by
  obtain ⟨ha, hb, hc⟩ := w0
  have ha := wf16 ha
  have hb := wf16 hb
  have hc := wf16 hc
  refine laws_FnExactFitsShelf.calls 3 _ _ _ _ _ _ true w ?_
  unfold laws_FnExactFitsShelf.f laws_toSheet.f
  simp only [Option.bind_some, implFits_f ha hb hc a1 a2 a3 (show 2 < 3 by omega), specFits_f ha hb hc a1 a2 a3]
  simp
end Go.Proofs.Ytjcjgfmffkmjeaa.fnExactFitsShelf
