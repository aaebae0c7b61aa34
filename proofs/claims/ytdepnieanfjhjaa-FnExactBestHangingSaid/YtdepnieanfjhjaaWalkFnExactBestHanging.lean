/- FnExactBestHanging: for every input the law's function returns true: the walk, and the plain law that it comes to. -/
import Derived.Test.YtdepnieanfjhjaaLBh
import Derived.Test.YtdepnieanfjhjaaG30
set_option linter.unusedVariables false
namespace Go.Proofs.Ytdepnieanfjhjaa.fnExactBestHanging
open Go.RowKit Go.Proofs.Ytdepnieanfjhjaa.X Go.Proofs.YtdepnieanfjhjaaW.PrintWords Go.Proofs.YtdepnieanfjhjaaW.PrintLast

theorem walk (a0 : List Int) (A1 : Option Addr) (c1 : Nat) (l1 : (List S54)) (a2 : Int) (w : World) (n0 : a0.length = 72) (w0 : i8All a0) (hr1 : Kd.C k54 w A1 l1.length l1) (hc1 : l1.length ≤ c1) (w1 : ∀ x_ ∈ l1, (Lit.int .i16 x_.f0).wf = true ∧ (Lit.int .i8 x_.f1).wf = true) (w2 : (Lit.int .i64 a2).wf = true) :
    Calls Try.prog 3 #[.agg (nums .i8 a0).toArray, .slice A1 l1.length c1, .int .i64 a2] w fun e w' => e = .returned (.bool true) ∧ Below w.heap.size w w' := by
  exact lawBestHanging_calls a0 n0 w0 A1 c1 l1 a2 w hr1 hc1 w1

end Go.Proofs.Ytdepnieanfjhjaa.fnExactBestHanging
