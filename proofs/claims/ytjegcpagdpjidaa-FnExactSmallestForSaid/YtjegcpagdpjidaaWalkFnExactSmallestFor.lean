/- FnExactSmallestFor: for every input the law's function returns true: the walk, and the plain law that it comes to. -/
import Derived.Test.YtjegcpagdpjidaaSmL
set_option linter.unusedVariables false
namespace Go.Proofs.Ytjegcpagdpjidaa.fnExactSmallestFor
open Go.RowKit Go.Proofs.Ytjegcpagdpjidaa.X Go.Proofs.YtjegcpagdpjidaaW.PrintWords Go.Proofs.YtjegcpagdpjidaaW.PrintLast

theorem walk (a0 : S24) (a1 : Int) (w : World) (w0 : (Lit.int .i16 a0.f0).wf = true ∧ (Lit.int .i16 a0.f1).wf = true ∧ (Lit.int .i16 a0.f2).wf = true) (w1 : (Lit.int .i64 a1).wf = true) :
    Calls Try.prog 3 #[.agg #[.int .i16 a0.f0, .int .i16 a0.f1, .int .i16 a0.f2], .int .i64 a1] w fun e w' => e = .returned (.bool true) ∧ Below w.heap.size w w' := by
  exact lawSm_calls a0.f0 a0.f1 a0.f2 a1 w0.1 w0.2.1 w0.2.2 w

end Go.Proofs.Ytjegcpagdpjidaa.fnExactSmallestFor
