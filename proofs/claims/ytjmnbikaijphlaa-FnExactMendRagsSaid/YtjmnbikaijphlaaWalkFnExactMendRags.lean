/- FnExactMendRags: for every input the law's function returns true: the walk, and the plain law that it comes to. -/
import Derived.Test.YtjmnbikaijphlaaHLawMr
import Derived.Test.YtjmnbikaijphlaaOpenHouse
set_option linter.unusedVariables false
namespace Go.Proofs.Ytjmnbikaijphlaa.fnExactMendRags
open Go.RowKit Go.Proofs.Ytjmnbikaijphlaa.X Go.Proofs.YtjmnbikaijphlaaW.PrintWords Go.Proofs.YtjmnbikaijphlaaW.PrintLast

theorem walk (A0 : Option Addr) (n0 c0 : Nat) (f0 : Nat → Int) (t0 v0 d0 : Int) (a1 : Int) (a2 : Int) (a3 : Int) (w : World) (hm0 : (n0 : Int) ≤ 9223372036854775807) (hA0 : Arg w n0 f0 A0) (hR0 : Rng f0 n0) (ht0 : -32768 ≤ t0 ∧ t0 ≤ 32767) (hv0 : -128 ≤ v0 ∧ v0 ≤ 127) (hd0 : -32768 ≤ d0 ∧ d0 ≤ 32767) (w1 : (Lit.int .i64 a1).wf = true) (w2 : (Lit.int .i64 a2).wf = true) (w3 : (Lit.int .i64 a3).wf = true) :
    Calls Try.prog 12 #[.agg #[.slice A0 n0 c0, .int .i16 t0, .int .i8 v0, .int .i16 d0], .int .i64 a1, .int .i64 a2, .int .i64 a3] w fun e w' => e = .returned (.bool true) ∧ Below w.heap.size w w' := by
  exact lawMR_calls A0 f0 n0 c0 t0 v0 d0 a1 a2 a3 hm0 hR0 ht0 hv0 hd0 w hA0

end Go.Proofs.Ytjmnbikaijphlaa.fnExactMendRags
