/- FnExactOldestFirst: for every input the law's function returns true: the walk, and the plain law that it comes to. -/
import Derived.Test.YtkjligoamechkaaOlL
set_option linter.unusedVariables false
namespace Go.Proofs.Ytkjligoamechkaa.fnExactOldestFirst
open Go.RowKit Go.Proofs.Ytkjligoamechkaa.X Go.Proofs.YtkjligoamechkaaW.PrintWords Go.Proofs.YtkjligoamechkaaW.PrintLast

theorem walk (A0 : Option Addr) (c0 : Nat) (l0 : (List (List Int))) (a1 : Int) (w : World) (hr0 : Kd.C (Kd.slice 2 (Kd.int .i64)) w A0 l0.length l0) (hc0 : l0.length ≤ c0) (w0 : ∀ x_ ∈ l0, ∀ y_ ∈ x_, (Lit.int .i64 y_).wf = true) (w1 : (Lit.int .i64 a1).wf = true) :
    Calls Try.prog 6 #[.slice A0 l0.length c0, .int .i64 a1] w fun e w' => e = .returned (.bool true) ∧ Below w.heap.size w w' := by
  exact lawOl_calls A0 c0 l0 a1 (wf64x w1).2 hc0 w hr0

end Go.Proofs.Ytkjligoamechkaa.fnExactOldestFirst
