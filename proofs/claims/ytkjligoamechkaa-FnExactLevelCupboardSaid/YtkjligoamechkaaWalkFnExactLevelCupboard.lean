/- FnExactLevelCupboard: for every input the law's function returns true: the walk, and the plain law that it comes to. -/
import Derived.Test.YtkjligoamechkaaLvL
set_option linter.unusedVariables false
namespace Go.Proofs.Ytkjligoamechkaa.fnExactLevelCupboard
open Go.RowKit Go.Proofs.Ytkjligoamechkaa.X Go.Proofs.YtkjligoamechkaaW.PrintWords Go.Proofs.YtkjligoamechkaaW.PrintLast

theorem walk (A0 : Option Addr) (c0 : Nat) (l0 : (List (List Int))) (w : World) (hr0 : Kd.C (Kd.slice 2 (Kd.int .i64)) w A0 l0.length l0) (hc0 : l0.length ≤ c0) (w0 : ∀ x_ ∈ l0, ∀ y_ ∈ x_, (Lit.int .i64 y_).wf = true) :
    Calls Try.prog 7 #[.slice A0 l0.length c0] w fun e w' => e = .returned (.bool true) ∧ Below w.heap.size w w' := by
  exact lawLv_calls A0 c0 l0 hc0 w hr0

end Go.Proofs.Ytkjligoamechkaa.fnExactLevelCupboard
