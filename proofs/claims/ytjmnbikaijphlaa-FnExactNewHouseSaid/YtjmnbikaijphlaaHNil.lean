/- Contracts of functions, and plain facts: what each call answers, and what it leaves as it was. -/
import Derived.Test.YtjmnbikaijphlaaHMark
set_option linter.unusedVariables false
set_option linter.unusedSimpArgs false
namespace Go.Proofs.Ytjmnbikaijphlaa.X
open Go.RowKit Go.Proofs.YtjmnbikaijphlaaW.PrintWords Go.Proofs.YtjmnbikaijphlaaW.PrintLast Go.Proofs.YtjmnbikaijphlaaW.PrintMore
attribute [local go_sem] max2_int min2_int max_two min_two max_three min_three max_four min_four
section
variable {P : Program} {ops : Array Oper} {rest : List Oper} {o : Oper} {a : Act} {w : World} {Q : Exit → Act → World → Prop}
theorem wl_loadG (hgd : Region.wanted o (yielded ops a.tmps) = true) (ty : TypeId) (x : Operand) (ho : o.op = .load ty x) (g off : Nat) (hx : a.eval x = .pointer (some ⟨g, off, none⟩)) (t n : Nat) (cs seg : List Value)
    (hB : Blk w g t cs) (hs : (cs.drop off).take n = seg) (hn : seg.length = n) (d : TypeDesc) (hu : P.underlying ty = some d) (hd : d.isRow = true) (hi : (P.info? ty).map (·.size) = some n)
    (h : wpList P ops Q rest (a.put o.dst (.agg seg.toArray)) w) : wpList P ops Q (o :: rest) a w :=
  wpList_step fun K hK => by rw [if_pos hgd]; exact wp_load_mid ty x ho g off hx seg d (hB.rangeAt off (by rw [hn]; exact hs)) hu hd (by rw [hn]; exact hi) (hK _ _ h)
end
set_option maxHeartbeats 8000000 in
set_option maxRecDepth 100000 in
theorem markStockSN_calls (A : Option Addr) (c : Nat) (k : Int) (w : World) : Calls Try.prog 80 #[.slice A 0 c, .int .i64 k] w fun e w' => e = .returned (.int .i64 k) ∧ w' = w := by
  go_enter Try.func80, Try.ntmps80
  go_wp2
  go_loop [1, 5] (fun v1 v5 => v1 = .int .i64 k ∧ v5 = .int .i64 0) (fun _ v5 => (intOf v5).toNat)
  case atStart => exact ⟨rfl, rfl⟩
  case round =>
    obtain ⟨rfl, rfl⟩ := hrel
    go_wp2
    go_ret
    exact ⟨rfl, rfl⟩
set_option maxHeartbeats 8000000 in
set_option maxRecDepth 100000 in
theorem markHouseN_calls (A : Option Addr) (c : Nat) (tub every today k : Int) (hk : 0 ≤ k) (w : World) : Calls Try.prog 34 #[.agg #[.slice A 0 c, .int .i16 tub, .int .i8 every, .int .i16 today], .int .i64 k] w fun e w' => e = .returned (.int .i64 k) ∧ Below w.heap.size w w' := by
  go_enter Try.func34, Try.ntmps34
  go_wp2_with (go_at_call 80; refine (markStockSN_calls _ _ _ _).mono ?_; rintro e w' ⟨rfl, rfl⟩)
  go_ret
  exact ⟨rfl, by repeat (first | exact Below.refl _ _ | apply below_alloc)⟩
set_option maxHeartbeats 8000000 in
set_option maxRecDepth 100000 in
theorem heldStockSN_calls (A : Option Addr) (c : Nat) (k : Int) (w : World) : Calls Try.prog 81 #[.slice A 0 c, .int .i64 k] w fun e w' => e = .returned (.int .i64 k) ∧ w' = w := by
  go_enter Try.func81, Try.ntmps81
  go_wp2
  go_loop [1, 5] (fun v1 v5 => v1 = .int .i64 k ∧ v5 = .int .i64 0) (fun _ v5 => (intOf v5).toNat)
  case atStart => exact ⟨rfl, rfl⟩
  case round =>
    obtain ⟨rfl, rfl⟩ := hrel
    go_wp2
    go_ret
    exact ⟨rfl, rfl⟩
set_option maxHeartbeats 8000000 in
set_option maxRecDepth 100000 in
theorem heldHouseN_calls (A : Option Addr) (c : Nat) (tub every today k : Int) (hk : 0 ≤ k) (w : World) : Calls Try.prog 35 #[.agg #[.slice A 0 c, .int .i16 tub, .int .i8 every, .int .i16 today], .int .i64 k] w fun e w' => e = .returned (.int .i64 k) ∧ Below w.heap.size w w' := by
  go_enter Try.func35, Try.ntmps35
  go_wp2_with (go_at_call 81; refine (heldStockSN_calls _ _ _ _).mono ?_; rintro e w' ⟨rfl, rfl⟩)
  go_ret
  exact ⟨rfl, by repeat (first | exact Below.refl _ _ | apply below_alloc)⟩
end Go.Proofs.Ytjmnbikaijphlaa.X
