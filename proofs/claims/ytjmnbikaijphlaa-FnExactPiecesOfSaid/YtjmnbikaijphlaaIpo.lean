/- Contracts of functions over blocks of cells: what each call answers, and what it leaves as it was. -/
import Derived.Test.YtjmnbikaijphlaaPcs
set_option linter.unusedVariables false
set_option linter.unusedSimpArgs false
namespace Go.Proofs.Ytjmnbikaijphlaa.X
open Go.RowKit Go.Proofs.YtjmnbikaijphlaaW.PrintWords Go.Proofs.YtjmnbikaijphlaaW.PrintLast Go.Proofs.YtjmnbikaijphlaaW.PrintMore
attribute [local go_sem] max2_int min2_int max_two min_two max_three min_three max_four min_four
set_option maxHeartbeats 8000000 in
set_option maxRecDepth 100000 in
theorem implPO_calls (K : List Int) (hK : K.length = 24) (r : Int) (hR : stkR K r) (w : World) :
    Calls Try.prog 21 #[.agg (stk K r).toArray] w fun e w' => e = .returned (.tuple #[.int .i64 (if stkOk K r = true then sumP K r 8 else 0), .int .i64 (if stkOk K r = true then 0 else 1)]) ∧ Below w.heap.size w w' := by
  have HC := Aside0.mk (fun W => implVS_calls K hK r hR W)
  have HNU : Aside0 (∀ W, Calls Try.prog 61 #[.agg (stk K r).toArray] W fun e w' => ∃ A c, e = .returned (.slice A 25 c) ∧ 25 ≤ c ∧ Aside0 (Kd.C (Kd.int .i64) w' A 25 (K ++ [r])) ∧ Below W.heap.size W w') := ⟨fun W => (numbersOf_calls K hK hR.1 r hR.2 W).mono (by
    rintro e w' ⟨v, rfl, h1, hb⟩
    obtain ⟨A, c, rfl, hc, hC⟩ := Kd.R_reads h1
    rw [show (K ++ [r]).length = 25 by simp [hK]] at hc hC ⊢
    exact ⟨A, c, rfl, hc, ⟨hC⟩, hb⟩)⟩
  have HSM : Aside0 (∀ A c W, Kd.C (Kd.int .i64) W A 25 (K ++ [r]) → 25 ≤ c → Calls Try.prog 63 #[.slice A 25 c] W fun e w' => e = .returned (.int .i64 (sumP K r 8)) ∧ Below W.heap.size W w') := ⟨fun A c W h1 h2 => by
    have := impl_sum.calls 1001 A c (K ++ [r]) (K ++ [r]).sum W
    rw [show (K ++ [r]).length = 25 by simp [hK]] at this
    rw [← sum_total hK]
    exact (this h1 h2 (sum_f _ (by simp [hK]) (row_range hR))).mono (fun e w' h => ⟨h.1, below_drawn h.2⟩)⟩
  have HB0 : Aside0 (Blk (w.alloc (.cells (stk K r).toArray 27)) w.heap.size 27 (stk K r)) := ⟨Blk.new w _ _⟩
  have HN : Aside0 ((stk K r).length = 25) := ⟨stk_len hK r⟩
  have HS : Aside0 (((stk K r).drop 0).take 25 = stk K r) := ⟨by rw [List.drop_zero, List.take_of_length_le (by rw [HN.out]; exact Nat.le_refl _)]⟩
  generalize stkOk K r = ok at *
  generalize sumP K r 8 = s at *
  obtain ⟨R1, HR1⟩ : ∃ R1, Aside0 (R1 = if ok = true then s else 0) := ⟨_, ⟨rfl⟩⟩
  obtain ⟨R2, HR2⟩ : ∃ R2, Aside0 (R2 = if ok = true then (0 : Int) else 1) := ⟨_, ⟨rfl⟩⟩
  rw [← HR1.out, ← HR2.out]
  clear hK hR
  cases ok
  · go_enter Try.func21, Try.ntmps21
    go_wp2_with (first | (refine wl_load (by rfl) 27 _ (by rfl) w.heap.size 0 (by rfl) 27 25 _ _ HB0.out HS.out HN.out _ Try.underlying27 (by rfl) (by kernel_rfl) ?_) | (go_at_call 19; refine (HC.out _).mono ?_; rintro e w1 ⟨rfl, hb⟩; have HB1 := Aside0.mk (below_step (below_alloc (Below.refl w.heap.size w) _) hb); clear hb))
    go_ret2
    exact ⟨by rw [HR1.out, HR2.out]; rfl, HB1.out⟩
  · go_enter Try.func21, Try.ntmps21
    go_wp2_with (first | (refine wl_load (by rfl) 27 _ (by rfl) w.heap.size 0 (by rfl) 27 25 _ _ HA1.out HS.out HN.out _ Try.underlying27 (by rfl) (by kernel_rfl) ?_) | (refine wl_load (by rfl) 27 _ (by rfl) w.heap.size 0 (by rfl) 27 25 _ _ HB0.out HS.out HN.out _ Try.underlying27 (by rfl) (by kernel_rfl) ?_) | (go_at_call 19; refine (HC.out _).mono ?_; rintro e w1 ⟨rfl, hb⟩; have HB1 := Aside0.mk (below_step (below_alloc (Below.refl w.heap.size w) _) hb); have HA1 := Aside0.mk (HB0.out.below hb); clear hb) | (go_at_call 61; refine (HNU.out _).mono ?_; rintro e w2 ⟨A, c, rfl, hc, HC1, hb⟩; have HB2 := Aside0.mk (below_step HB1.out hb); clear hb) | (go_at_call 63; refine (HSM.out _ _ _ HC1.out hc).mono ?_; rintro e w3 ⟨rfl, hb⟩; have HB3 := Aside0.mk (below_step HB2.out hb); clear hb))
    go_ret2
    exact ⟨by rw [HR1.out, HR2.out]; rfl, HB3.out⟩

end Go.Proofs.Ytjmnbikaijphlaa.X
