/- FnExactNewHouse: for every input the law's function returns true: the walk, and the plain law that it comes to. -/
import Derived.Test.YtjmnbikaijphlaaHLawNh
set_option linter.unusedVariables false
namespace Go.Proofs.Ytjmnbikaijphlaa.fnExactNewHouse
open Go.RowKit Go.Proofs.Ytjmnbikaijphlaa.X Go.Proofs.YtjmnbikaijphlaaW.PrintWords Go.Proofs.YtjmnbikaijphlaaW.PrintLast

theorem walk (A0 : Option Addr) (c0 : Nat) (l0 : (List Int)) (a1 : Int) (a2 : Int) (w : World) (hr0 : Kd.C (Kd.int .i64) w A0 l0.length l0) (hc0 : l0.length ≤ c0) (w0 : ∀ x_ ∈ l0, (Lit.int .i64 x_).wf = true) (w1 : (Lit.int .i64 a1).wf = true) (w2 : (Lit.int .i64 a2).wf = true) :
    Calls Try.prog 7 #[.slice A0 l0.length c0, .int .i64 a1, .int .i64 a2] w fun e w' => e = .returned (.bool true) ∧ Below w.heap.size w w' := by
  exact lawNH_calls A0 c0 l0 a1 a2 hc0 w hr0

end Go.Proofs.Ytjmnbikaijphlaa.fnExactNewHouse
