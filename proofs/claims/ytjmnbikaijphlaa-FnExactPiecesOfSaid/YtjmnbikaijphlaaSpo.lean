/- Contracts of functions over blocks of cells: what each call answers, and what it leaves as it was. -/
import Derived.Test.YtjmnbikaijphlaaPcs
set_option linter.unusedVariables false
set_option linter.unusedSimpArgs false
namespace Go.Proofs.Ytjmnbikaijphlaa.X
open Go.RowKit Go.Proofs.YtjmnbikaijphlaaW.PrintWords Go.Proofs.YtjmnbikaijphlaaW.PrintLast Go.Proofs.YtjmnbikaijphlaaW.PrintMore
attribute [local go_sem] max2_int min2_int max_two min_two max_three min_three max_four min_four
set_option maxHeartbeats 8000000 in
set_option maxRecDepth 100000 in
theorem specPO_calls (K : List Int) (hK : K.length = 24) (r : Int) (hR : stkR K r) (w : World) :
    Calls Try.prog 20 #[.agg (stk K r).toArray] w fun e w' => e = .returned (.tuple #[.int .i64 (if stkOk K r = true then sumP K r 8 else 0), .int .i64 (if stkOk K r = true then 0 else 1)]) ∧ Below w.heap.size w w' := by
  have HC := Aside0.mk (fun g W h => l05Stock_calls K hK r hR g W h)
  have HP := Aside0.mk (fun g W h => l05Pieces_calls K hK r hR g W h)
  have HB0 : Aside0 (Blk (w.alloc (.cells (stk K r).toArray 27)) w.heap.size 27 (stk K r)) := ⟨Blk.new w _ _⟩
  have HN : Aside0 ((stk K r).length = 25) := ⟨stk_len hK r⟩
  have HS : Aside0 (((stk K r).drop 0).take 25 = stk K r) := ⟨by rw [List.drop_zero, List.take_of_length_le (by rw [HN.out]; exact Nat.le_refl _)]⟩
  generalize stkOk K r = ok at *
  generalize sumP K r 8 = s at *
  generalize fineP K r 8 = f at *
  obtain ⟨R1, HR1⟩ : ∃ R1, Aside0 (R1 = if ok = true then s else 0) := ⟨_, ⟨rfl⟩⟩
  obtain ⟨R2, HR2⟩ : ∃ R2, Aside0 (R2 = if ok = true then (0 : Int) else 1) := ⟨_, ⟨rfl⟩⟩
  rw [← HR1.out, ← HR2.out]
  clear hK hR
  cases ok
  · go_enter Try.func20, Try.ntmps20
    go_wp2_with (go_at_call 59; refine (HC.out _ _ HB0.out).mono ?_; rintro e w1 ⟨rfl, hb⟩; have HB1 := Aside0.mk (below_step (below_alloc (Below.refl w.heap.size w) _) hb); clear hb)
    go_ret2
    exact ⟨by rw [HR1.out, HR2.out]; rfl, HB1.out⟩
  · go_enter Try.func20, Try.ntmps20
    go_wp2_with (first | (go_at_call 59; refine (HC.out _ _ HB0.out).mono ?_; rintro e w1 ⟨rfl, hb⟩; have HB1 := Aside0.mk (below_step (below_alloc (Below.refl w.heap.size w) _) hb); have HA1 := Aside0.mk (HB0.out.below hb); clear hb) | (go_at_call 64; refine (HP.out _ _ HA1.out).mono ?_; rintro e w2 ⟨rfl, hb⟩; have HB2 := Aside0.mk (below_step HB1.out hb); clear hb))
    go_ret2
    exact ⟨by rw [HR1.out, HR2.out]; rfl, HB2.out⟩

end Go.Proofs.Ytjmnbikaijphlaa.X
