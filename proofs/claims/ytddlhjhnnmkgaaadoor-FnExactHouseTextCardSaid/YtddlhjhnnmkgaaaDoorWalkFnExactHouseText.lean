/- FnExactHouseText: for every input the law's function returns true: the walk, and the plain law that it comes to. -/
import Derived.Test.YtddlhjhnnmkgaaaDoorHtLaw
import Derived.Test.YtddlhjhnnmkgaaaDoorOpenHouse
set_option linter.unusedVariables false
namespace Go.Proofs.YtddlhjhnnmkgaaaDoor.fnExactHouseText
open Go.RowKit Go.Proofs.YtddlhjhnnmkgaaaDoor.X Go.Proofs.YtddlhjhnnmkgaaaDoorW.PrintWords Go.Proofs.YtddlhjhnnmkgaaaDoorW.PrintLast

theorem walk (A0 : Option Addr) (n0 c0 : Nat) (f0 : Nat → Int) (t0 v0 d0 : Int) (w : World) (hm0 : (n0 : Int) ≤ 9223372036854775807) (hA0 : Arg w n0 f0 A0) (hR0 : Rng f0 n0) (ht0 : -32768 ≤ t0 ∧ t0 ≤ 32767) (hv0 : -128 ≤ v0 ∧ v0 ≤ 127) (hd0 : -32768 ≤ d0 ∧ d0 ≤ 32767) (ht : TabP w) :
    Calls Tryd.prog 3 #[.agg #[.slice A0 n0 c0, .int .i16 t0, .int .i8 v0, .int .i16 d0]] w fun e w' => e = .returned (.bool true) ∧ Below w.heap.size w w' := by
  exact lawHT_calls A0 f0 n0 c0 t0 v0 d0 hm0 hR0 ht0 hv0 hd0 w hA0 ht

end Go.Proofs.YtddlhjhnnmkgaaaDoor.fnExactHouseText
