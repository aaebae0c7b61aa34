/- Contracts of functions over blocks of cells: what each call answers, and what it leaves as it was. -/
import Derived.Test.YtjmnbikaijphlaaPcr
import Derived.Test.YtjmnbikaijphlaaPcs
import Derived.Test.YtjmnbikaijphlaaQuiet
set_option linter.unusedVariables false
set_option linter.unusedSimpArgs false
namespace Go.Proofs.Ytjmnbikaijphlaa.X
open Go.RowKit Go.Proofs.YtjmnbikaijphlaaW.PrintWords Go.Proofs.YtjmnbikaijphlaaW.PrintLast Go.Proofs.YtjmnbikaijphlaaW.PrintMore
attribute [local go_sem] max2_int min2_int max_two min_two max_three min_three max_four min_four
theorem implVSA_calls (f : Nat → Int) (o : Nat) (hR : Rng1 f o) (w : World) : Calls Try.prog 19 #[.agg (cellsAt f o).toArray] w fun e w' => e = .returned (.bool (goodB f o)) ∧ Below w.heap.size w w' := by
  rw [cellsAt_stk, ← stkOk_goodB]; exact implVS_calls _ (kOf_len f o) _ (rng_stkR hR) w
set_option maxHeartbeats 8000000 in
set_option maxRecDepth 100000 in
theorem vh1_calls (f : Nat → Int) (o : Nat) (hR : Rng1 f o) (w : World) : Calls Try.prog 73 #[.agg (cellsAt f o).toArray] w fun e w' => e = .returned (.bool (!goodB f o)) ∧ Below w.heap.size w w' := by
  have HC := Aside0.mk (fun W => implVSA_calls f o hR W)
  have HB0 : Aside0 (Blk (w.alloc (.cells (cellsAt f o).toArray 27)) w.heap.size 27 (cellsAt f o)) := ⟨Blk.new w _ _⟩
  have HR : Aside0 ((w.alloc (.cells (cellsAt f o).toArray 27)).rangeAt w.heap.size 0 (cellsAt f o)) := ⟨HB0.out.rangeAt 0 (by rw [List.drop_zero, List.take_of_length_le (Nat.le_refl _)])⟩
  clear hR
  generalize goodB f o = b at *
  go_enter Try.func73, Try.ntmps73
  go_wp2_with (first | (refine rw_load (by rfl) 27 _ (by rfl) w.heap.size 0 (by rfl) f o HR.out _ Try.underlying27 (by rfl) (by kernel_rfl) ?_) | (go_at_call 19; refine (HC.out _).mono ?_; rintro e w1 ⟨rfl, hb⟩; have HB1 := Aside0.mk (below_step (below_alloc (Below.refl w.heap.size w) _) hb); clear hb))
  go_ret
  exact ⟨rfl, HB1.out⟩
set_option maxHeartbeats 8000000 in
set_option maxRecDepth 100000 in
theorem vhIdx_calls (f : Nat → Int) (n c g : Nat) (hn : n ≤ 1048576) (hR : Rng f n) (w : World) (hB : Rw w g n f) : Calls Try.prog 113 #[.slice (some ⟨g, 0, none⟩) n c, .func (.func 73) #[] #[]] w fun e w' => ∃ r : Int, e = .returned (.int .i64 r) ∧ Aside0 (decide (0 ≤ r) = !goodsB f n) ∧ Below w.heap.size w w' := by
  have HC := Aside0.mk (fun q (hq : q < n) W => vh1_calls f (25 * q) (hR.one hq) W)
  have HB := Aside0.mk hB
  clear hR hB
  go_enter Try.func113, Try.ntmps113
  go_wp2
  go_loopw [8] (fun v8 w' => ∃ k : Nat, k ≤ n ∧ v8 = .int .i64 k ∧ Aside0 (goodsB f k = true) ∧ Aside0 (Rw w' g n f) ∧ Aside0 (Below w.heap.size w w')) (fun v8 _ => n - (intOf v8).toNat)
  case atStart => exact ⟨0, by omega, rfl, ⟨rfl⟩, HB, ⟨Below.refl _ _⟩⟩
  case round =>
    clear HB
    obtain ⟨k, hk, rfl, HK, HB, HW⟩ := hrel
    by_cases hlt : k < n
    · have HCk := Aside0.mk (HC.out k hlt)
      have HR := Aside0.mk (HB.out.range (o := k * 25) (by omega) hlt)
      have HG : Aside0 (goodsB f (k + 1) = (goodsB f k && goodB f (25 * k))) := ⟨goodsB_succ f k⟩
      have HGF : Aside0 (goodB f (25 * k) = false → goodsB f n = false) := ⟨fun h => goodsB_false h hlt⟩
      have HE : Aside0 (cellsAt f (25 * k) = cellsAt f (k * 25)) := ⟨by rw [Nat.mul_comm]⟩
      rw [HE.out] at HCk
      generalize goodB f (25 * k) = b at *
      generalize hko : k * 25 = o at HR HCk
      have HKO := Aside0.mk hko
      clear hko HE
      cases b
      · go_wp2_with (first | (refine rw_load (by rfl) 27 _ (by rfl) g (k * 25) (by rfl) f o (by rw [HKO.out]; exact HR.out) _ Try.underlying27 (by rfl) (by kernel_rfl) ?_) | (go_at_call 73; refine (HCk.out _).mono ?_; rintro e w1 ⟨rfl, hb⟩; have HW1 := Aside0.mk (below_step HW.out hb); clear hb))
        go_ret
        exact ⟨k, rfl, ⟨by rw [HGF.out trivial]; simp⟩, HW1.out⟩
      · go_wp2_with (first | (refine rw_load (by rfl) 27 _ (by rfl) g (k * 25) (by rfl) f o (by rw [HKO.out]; exact HR.out) _ Try.underlying27 (by rfl) (by kernel_rfl) ?_) | (go_at_call 73; refine (HCk.out _).mono ?_; rintro e w1 ⟨rfl, hb⟩; have HW1 := Aside0.mk (below_step HW.out hb); have HB1 := Aside0.mk (HB.out.below hb); clear hb))
        go_roundw
        case rel => exact ⟨k + 1, by omega, by go_num, ⟨by rw [HG.out, HK.out]; rfl⟩, HB1, HW1⟩
        case measure => simp [intOf] <;> omega
    · have hkn : k = n := by omega
      have HK2 : Aside0 (goodsB f n = true) := ⟨by rw [← hkn]; exact HK.out⟩
      go_wp2
      go_ret
      exact ⟨-1, rfl, ⟨by rw [HK2.out]; rfl⟩, HW.out⟩
set_option maxHeartbeats 8000000 in
set_option maxRecDepth 100000 in
theorem vhHas_calls (f : Nat → Int) (n c g : Nat) (hn : n ≤ 1048576) (hR : Rng f n) (w : World) (hB : Rw w g n f) : Calls Try.prog 72 #[.slice (some ⟨g, 0, none⟩) n c, .func (.func 73) #[] #[]] w fun e w' => e = .returned (.bool (!goodsB f n)) ∧ Below w.heap.size w w' := by
  have HC := Aside0.mk (vhIdx_calls f n c g hn hR w hB)
  clear hR hB hn
  generalize (!goodsB f n) = b at *
  go_enter Try.func72, Try.ntmps72
  go_wp2_with (go_at_call 113; refine HC.out.mono ?_; rintro e w1 ⟨r, rfl, HRr, hb⟩; have HB1 := Aside0.mk hb; clear hb)
  go_ret
  exact ⟨by rw [← HRr.out]; rfl, HB1.out⟩

end Go.Proofs.Ytjmnbikaijphlaa.X
