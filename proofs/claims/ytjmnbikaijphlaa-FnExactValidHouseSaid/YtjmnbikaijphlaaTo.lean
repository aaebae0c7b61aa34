/- Contracts of functions over blocks of cells: what each call answers, and what it leaves as it was. -/
import Derived.Test.YtjmnbikaijphlaaRows3
import Derived.Test.YtjmnbikaijphlaaSeq
import Derived.Test.YtjmnbikaijphlaaEqs
set_option linter.unusedVariables false
set_option linter.unusedSimpArgs false
namespace Go.Proofs.Ytjmnbikaijphlaa.X
open Go.RowKit Go.Proofs.YtjmnbikaijphlaaW.PrintWords Go.Proofs.YtjmnbikaijphlaaW.PrintLast Go.Proofs.YtjmnbikaijphlaaW.PrintMore
attribute [local go_sem] max2_int min2_int max_two min_two max_three min_three max_four min_four
theorem toStockA_calls (f : Nat → Int) (o : Nat) (w : World) : Calls Try.prog 18 #[.agg (cellsAt f o).toArray] w fun e w' => e = .returned (.agg (cellsAt f o).toArray) ∧ Below w.heap.size w w' := by
  rw [cellsAt_stk]; exact toStock_calls _ _ (kOf_len f o) w
set_option maxHeartbeats 8000000 in
set_option maxRecDepth 100000 in
theorem szStockS_calls (A : Option Addr) (n c : Nat) (L : Int) (hn : (n : Int) ≤ 9223372036854775807) (hL : 0 ≤ L ∧ L ≤ 1048576) (w : World) :
    Calls Try.prog 65 #[.slice A n c, .int .i64 L] w fun e w' => e = .returned (.int .i64 (if L - n < 0 then -1 else L - n)) ∧ w' = w := by
  have h1 : IntKind.i64.wrap (L - (n : Int)) = L - n := IntWalk.i64_in _ ⟨by omega, by omega⟩
  by_cases hc : L - (n : Int) < 0
  · rw [if_pos hc]
    go_enter Try.func65, Try.ntmps65
    go_wp2
    go_ret
    exact ⟨rfl, rfl⟩
  · rw [if_neg hc]
    go_enter Try.func65, Try.ntmps65
    go_wp2
    go_ret
    exact ⟨rfl, rfl⟩
set_option maxHeartbeats 8000000 in
set_option maxRecDepth 100000 in
theorem szHouse_calls (A : Option Addr) (n c : Nat) (tub every today : Int) (L : Int) (hn : (n : Int) ≤ 9223372036854775807) (hL : 0 ≤ L ∧ L ≤ 1048576) (w : World) :
    Calls Try.prog 22 #[.agg #[.slice A n c, .int .i16 tub, .int .i8 every, .int .i16 today], .int .i64 L] w fun e w' => e = .returned (.int .i64 (if L - n < 0 then -1 else L - n)) ∧ Below w.heap.size w w' := by
  have HC := Aside0.mk (fun W => szStockS_calls A n c L hn hL W)
  by_cases hc : L - (n : Int) < 0
  · rw [if_pos hc] at HC ⊢
    go_enter Try.func22, Try.ntmps22
    go_wp2_with (go_at_call 65; refine (HC.out _).mono ?_; rintro e w1 ⟨rfl, rfl⟩)
    go_ret
    exact ⟨rfl, by repeat (first | exact Below.refl _ _ | apply below_alloc)⟩
  · rw [if_neg hc] at HC ⊢
    go_enter Try.func22, Try.ntmps22
    go_wp2_with (go_at_call 65; refine (HC.out _).mono ?_; rintro e w1 ⟨rfl, rfl⟩)
    go_ret
    exact ⟨rfl, by repeat (first | exact Below.refl _ _ | apply below_alloc)⟩

end Go.Proofs.Ytjmnbikaijphlaa.X
