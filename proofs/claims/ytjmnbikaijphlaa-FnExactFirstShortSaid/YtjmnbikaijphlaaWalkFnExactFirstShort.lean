/- FnExactFirstShort: for every input the law's function returns true: the walk, and the plain law that it comes to. -/
import Derived.Test.YtjmnbikaijphlaaHLawFs
import Derived.Test.YtjmnbikaijphlaaOpenHouse
set_option linter.unusedVariables false
namespace Go.Proofs.Ytjmnbikaijphlaa.fnExactFirstShort
open Go.RowKit Go.Proofs.Ytjmnbikaijphlaa.X Go.Proofs.YtjmnbikaijphlaaW.PrintWords Go.Proofs.YtjmnbikaijphlaaW.PrintLast

theorem walk (A0 : Option Addr) (n0 c0 : Nat) (f0 : Nat → Int) (t0 v0 d0 : Int) (A1 : Option Addr) (c1 : Nat) (l1 : (List (List Int))) (w : World) (hm0 : (n0 : Int) ≤ 9223372036854775807) (hA0 : Arg w n0 f0 A0) (hR0 : Rng f0 n0) (ht0 : -32768 ≤ t0 ∧ t0 ≤ 32767) (hv0 : -128 ≤ v0 ∧ v0 ≤ 127) (hd0 : -32768 ≤ d0 ∧ d0 ≤ 32767) (hr1 : Kd.C (Kd.slice 2 (Kd.int .i64)) w A1 l1.length l1) (hc1 : l1.length ≤ c1) (w1 : ∀ x_ ∈ l1, ∀ y_ ∈ x_, (Lit.int .i64 y_).wf = true) :
    Calls Try.prog 15 #[.agg #[.slice A0 n0 c0, .int .i16 t0, .int .i8 v0, .int .i16 d0], .slice A1 l1.length c1] w fun e w' => e = .returned (.bool true) ∧ Below w.heap.size w w' := by
  exact lawFS_calls A0 A1 f0 n0 c0 c1 l1 t0 v0 d0 hm0 hR0 ht0 hv0 hd0 hc1 w hA0 hr1

end Go.Proofs.Ytjmnbikaijphlaa.fnExactFirstShort
