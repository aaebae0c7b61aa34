/- FnExactEdgesAfter: for every input the law's function returns true: the walk, and the plain law that it comes to. -/
import Derived.Test.YtjcjgfmffkmjeaaEdgesLaw
set_option linter.unusedVariables false
namespace Go.Proofs.Ytjcjgfmffkmjeaa.fnExactEdgesAfter
open Go.RowKit Go.Proofs.Ytjcjgfmffkmjeaa.X Go.Proofs.YtjcjgfmffkmjeaaW.PrintWords Go.Proofs.YtjcjgfmffkmjeaaW.PrintLast

theorem walk (A0 : Option Addr) (c0 : Nat) (l0 : (List Int)) (w : World) (hr0 : Kd.C (Kd.int .i64) w A0 l0.length l0) (hc0 : l0.length ≤ c0) (w0 : ∀ x_ ∈ l0, (Lit.int .i64 x_).wf = true) :
    Calls Try.prog 9 #[.slice A0 l0.length c0] w fun e w' => e = .returned (.bool true) ∧ Below w.heap.size w w' := by
  exact lawEdges A0 c0 l0 w hr0 hc0
end Go.Proofs.Ytjcjgfmffkmjeaa.fnExactEdgesAfter
