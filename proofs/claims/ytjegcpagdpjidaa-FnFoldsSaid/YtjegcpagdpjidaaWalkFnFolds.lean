/- FnFolds: for every input the law's function returns true: the walk, and the plain law that it comes to. -/
import Derived.Test.YtjegcpagdpjidaaFnF
set_option linter.unusedVariables false
namespace Go.Proofs.Ytjegcpagdpjidaa.fnFolds
open Go.RowKit Go.Proofs.Ytjegcpagdpjidaa.X Go.Proofs.YtjegcpagdpjidaaW.PrintWords Go.Proofs.YtjegcpagdpjidaaW.PrintLast

theorem walk (A0 : Option Addr) (c0 : Nat) (l0 : (List Int)) (A1 : Option Addr) (c1 : Nat) (l1 : (List Int)) (w : World) (hr0 : Kd.C (Kd.int .u8) w A0 l0.length l0) (hc0 : l0.length ≤ c0) (w0 : ∀ x_ ∈ l0, (Lit.int .u8 x_).wf = true) (hr1 : Kd.C (Kd.int .u8) w A1 l1.length l1) (hc1 : l1.length ≤ c1) (w1 : ∀ x_ ∈ l1, (Lit.int .u8 x_).wf = true) :
    Calls Try.prog 5 #[.slice A0 l0.length c0, .slice A1 l1.length c1] w fun e w' => e = .returned (.bool true) ∧ Below w.heap.size w w' := by
  exact lawFnFolds_calls A0 c0 l0 A1 c1 l1 w hr0 hc0 w0 hr1 hc1 w1

end Go.Proofs.Ytjegcpagdpjidaa.fnFolds
