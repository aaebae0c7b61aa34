/- FnExactWhoGetsSun: for every input the law's function returns true: the walk, and the plain law that it comes to. -/
import Derived.Test.YtdepnieanfjhjaaDoorG28
set_option linter.unusedVariables false
namespace Go.Proofs.YtdepnieanfjhjaaDoor.fnExactWhoGetsSun
open Go.RowKit Go.Proofs.YtdepnieanfjhjaaDoor.X Go.Proofs.YtdepnieanfjhjaaDoorW.PrintWords Go.Proofs.YtdepnieanfjhjaaDoorW.PrintLast

theorem walk (a0 : List Int) (A1 : Option Addr) (c1 : Nat) (l1 : (List S56)) (a2 : Int) (a3 : Int) (a4 : Int) (w : World) (n0 : a0.length = 72) (w0 : i8All a0) (hr1 : Kd.C k56 w A1 l1.length l1) (hc1 : l1.length ≤ c1) (w1 : ∀ x_ ∈ l1, (Lit.int .i16 x_.f0).wf = true ∧ (Lit.int .i8 x_.f1).wf = true) (w2 : (Lit.int .i64 a2).wf = true) (w3 : (Lit.int .i64 a3).wf = true) (w4 : (Lit.int .i64 a4).wf = true) (ht : TabD w) :
    Calls Tryd.prog 3 #[.agg (nums .i8 a0).toArray, .slice A1 l1.length c1, .int .i64 a2, .int .i64 a3, .int .i64 a4] w fun e w' => e = .returned (.bool true) ∧ Below w.heap.size w w' := by
  exact lawWhoGetsSun_calls a0 n0 w0 A1 c1 l1 a2 a3 a4 w hr1 hc1 w1 ht

end Go.Proofs.YtdepnieanfjhjaaDoor.fnExactWhoGetsSun
