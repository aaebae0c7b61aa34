/- FnExactLeastStock: for every input the law's function returns true: the walk, and the plain law that it comes to. -/
import Derived.Test.YtjmnbikaijphlaaHLawLs
set_option linter.unusedVariables false
namespace Go.Proofs.Ytjmnbikaijphlaa.fnExactLeastStock
open Go.RowKit Go.Proofs.Ytjmnbikaijphlaa.X Go.Proofs.YtjmnbikaijphlaaW.PrintWords Go.Proofs.YtjmnbikaijphlaaW.PrintLast

theorem walk (a0 : Int) (a1 : Int) (a2 : Int) (A3 : Option Addr) (c3 : Nat) (l3 : (List (List Int))) (w : World) (w0 : (Lit.int .i64 a0).wf = true) (w1 : (Lit.int .i64 a1).wf = true) (w2 : (Lit.int .i64 a2).wf = true) (hr3 : Kd.C (Kd.slice 2 (Kd.int .i64)) w A3 l3.length l3) (hc3 : l3.length ≤ c3) (w3 : ∀ x_ ∈ l3, ∀ y_ ∈ x_, (Lit.int .i64 y_).wf = true) :
    Calls Try.prog 9 #[.int .i64 a0, .int .i64 a1, .int .i64 a2, .slice A3 l3.length c3] w fun e w' => e = .returned (.bool true) ∧ Below w.heap.size w w' := by
  exact lawLS_calls A3 c3 l3 a0 a1 a2 hc3 w hr3

end Go.Proofs.Ytjmnbikaijphlaa.fnExactLeastStock
