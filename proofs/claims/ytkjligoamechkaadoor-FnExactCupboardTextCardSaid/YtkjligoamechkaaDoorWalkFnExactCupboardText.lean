/- FnExactCupboardText: for every input the law's function returns true: the walk, and the plain law that it comes to. -/
import Derived.Test.YtkjligoamechkaaDoorTxf
set_option linter.unusedVariables false
namespace Go.Proofs.YtkjligoamechkaaDoor.fnExactCupboardText
open Go.RowKit Go.Proofs.YtkjligoamechkaaDoor.X Go.Proofs.YtkjligoamechkaaDoorW.PrintWords Go.Proofs.YtkjligoamechkaaDoorW.PrintLast

theorem walk (A0 : Option Addr) (c0 : Nat) (l0 : (List (List Int))) (w : World) (hr0 : Kd.C (Kd.slice 2 (Kd.int .i64)) w A0 l0.length l0) (hc0 : l0.length ≤ c0) (w0 : ∀ x_ ∈ l0, ∀ y_ ∈ x_, (Lit.int .i64 y_).wf = true) (ht : TabP w) :
    Calls Tryd.prog 3 #[.slice A0 l0.length c0] w fun e w' => e = .returned (.bool true) ∧ Below w.heap.size w w' := by
  exact laws_FnExactCupboardText.calls 5000000000 A0 c0 l0 true w hr0 hc0 (lawCt (Kd.C_max hr0) (rows_max hr0)) ht

end Go.Proofs.YtkjligoamechkaaDoor.fnExactCupboardText
