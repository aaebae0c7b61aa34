/- FnExactSameHouse: for every input the law's function returns true: the walk, and the plain law that it comes to. -/
import Derived.Test.YtjmnbikaijphlaaHLawSh
import Derived.Test.YtjmnbikaijphlaaOpenHouse
set_option linter.unusedVariables false
namespace Go.Proofs.Ytjmnbikaijphlaa.fnExactSameHouse
open Go.RowKit Go.Proofs.Ytjmnbikaijphlaa.X Go.Proofs.YtjmnbikaijphlaaW.PrintWords Go.Proofs.YtjmnbikaijphlaaW.PrintLast

theorem walk (A0 : Option Addr) (n0 c0 : Nat) (f0 : Nat → Int) (t0 v0 d0 : Int) (A1 : Option Addr) (n1 c1 : Nat) (f1 : Nat → Int) (t1 v1 d1 : Int) (w : World) (hm0 : (n0 : Int) ≤ 9223372036854775807) (hA0 : Arg w n0 f0 A0) (hR0 : Rng f0 n0) (ht0 : -32768 ≤ t0 ∧ t0 ≤ 32767) (hv0 : -128 ≤ v0 ∧ v0 ≤ 127) (hd0 : -32768 ≤ d0 ∧ d0 ≤ 32767) (hm1 : (n1 : Int) ≤ 9223372036854775807) (hA1 : Arg w n1 f1 A1) (hR1 : Rng f1 n1) (ht1 : -32768 ≤ t1 ∧ t1 ≤ 32767) (hv1 : -128 ≤ v1 ∧ v1 ≤ 127) (hd1 : -32768 ≤ d1 ∧ d1 ≤ 32767) :
    Calls Try.prog 5 #[.agg #[.slice A0 n0 c0, .int .i16 t0, .int .i8 v0, .int .i16 d0], .agg #[.slice A1 n1 c1, .int .i16 t1, .int .i8 v1, .int .i16 d1]] w fun e w' => e = .returned (.bool true) ∧ Below w.heap.size w w' := by
  exact lawSH_calls A0 A1 f0 f1 n0 c0 n1 c1 t0 v0 d0 t1 v1 d1 hm0 hm1 w hA0 hA1

end Go.Proofs.Ytjmnbikaijphlaa.fnExactSameHouse
