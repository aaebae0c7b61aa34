/- Contracts of functions over blocks of cells: what each call answers, and what it leaves as it was. -/
import Derived.Test.YtjmnbikaijphlaaSpo
import Derived.Test.YtjmnbikaijphlaaIpo
set_option linter.unusedVariables false
set_option linter.unusedSimpArgs false
namespace Go.Proofs.Ytjmnbikaijphlaa.X
open Go.RowKit Go.Proofs.YtjmnbikaijphlaaW.PrintWords Go.Proofs.YtjmnbikaijphlaaW.PrintLast Go.Proofs.YtjmnbikaijphlaaW.PrintMore
attribute [local go_sem] max2_int min2_int max_two min_two max_three min_three max_four min_four
set_option maxHeartbeats 8000000 in
set_option maxRecDepth 100000 in
theorem lawPO_calls (K : List Int) (hK : K.length = 24) (r : Int) (hR : stkR K r) (w : World) :
    Calls Try.prog 4 #[.agg (stk K r).toArray] w fun e w' => e = .returned (.bool true) ∧ Below w.heap.size w w' := by
  have HTS := Aside0.mk (fun W => toStock_calls K r hK W)
  have HX := Aside0.mk (fun W => specPO_calls K hK r hR W)
  have HY := Aside0.mk (fun W => implPO_calls K hK r hR W)
  have HB0 : Aside0 (Blk (w.alloc (.cells (stk K r).toArray 25)) w.heap.size 25 (stk K r)) := ⟨Blk.new w _ _⟩
  have HN : Aside0 ((stk K r).length = 25) := ⟨stk_len hK r⟩
  have HS : Aside0 (((stk K r).drop 0).take 25 = stk K r) := ⟨by rw [List.drop_zero, List.take_of_length_le (by rw [HN.out]; exact Nat.le_refl _)]⟩
  generalize (if stkOk K r = true then sumP K r 8 else 0) = r1 at *
  generalize (if stkOk K r = true then (0 : Int) else 1) = r2 at *
  clear hK hR
  go_enter Try.func4, Try.ntmps4
  go_wp2_with (first | (refine wl_load (by rfl) 25 _ (by rfl) w.heap.size 0 (by rfl) 25 25 _ _ HA2.out HS.out HN.out _ Try.underlying25 (by rfl) (by kernel_rfl) ?_) | (refine wl_load (by rfl) 25 _ (by rfl) w.heap.size 0 (by rfl) 25 25 _ _ HB0.out HS.out HN.out _ Try.underlying25 (by rfl) (by kernel_rfl) ?_) | (go_at_call 18; refine (HTS.out _).mono ?_; rintro e w3 ⟨rfl, hb⟩; have HB3 := Aside0.mk (below_step HB2.out hb); have HA3 := Aside0.mk (HA2.out.below hb); clear hb) | (go_at_call 18; refine (HTS.out _).mono ?_; rintro e w1 ⟨rfl, hb⟩; have HB1 := Aside0.mk (below_step (below_alloc (Below.refl w.heap.size w) _) hb); have HA1 := Aside0.mk (HB0.out.below hb); clear hb) | (go_at_call 20; refine (HX.out _).mono ?_; rintro e w2 ⟨rfl, hb⟩; have HB2 := Aside0.mk (below_step HB1.out hb); have HA2 := Aside0.mk (HA1.out.below hb); clear hb HB1 HA1) | (go_at_call 21; refine (HY.out _).mono ?_; rintro e w4 ⟨rfl, hb⟩; have HB4 := Aside0.mk (below_step HB3.out hb); clear hb))
  go_ret
  exact ⟨rfl, HB4.out⟩

end Go.Proofs.Ytjmnbikaijphlaa.X
