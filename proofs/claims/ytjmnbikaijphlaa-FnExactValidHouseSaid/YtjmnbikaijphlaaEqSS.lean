/- Contracts of functions over blocks of cells: what each call answers, and what it leaves as it was. -/
import Derived.Test.YtjmnbikaijphlaaTo
set_option linter.unusedVariables false
set_option linter.unusedSimpArgs false
namespace Go.Proofs.Ytjmnbikaijphlaa.X
open Go.RowKit Go.Proofs.YtjmnbikaijphlaaW.PrintWords Go.Proofs.YtjmnbikaijphlaaW.PrintLast Go.Proofs.YtjmnbikaijphlaaW.PrintMore
attribute [local go_sem] max2_int min2_int max_two min_two max_three min_three max_four min_four
theorem eqStockA_calls (f f' : Nat → Int) (o o' : Nat) (h : cellsAt f o = cellsAt f' o') (w : World) : Calls Try.prog 38 #[.agg (cellsAt f o).toArray, .agg (cellsAt f' o').toArray] w fun e w' => e = .returned (.bool true) ∧ Below w.heap.size w w' := by
  rw [← h, cellsAt_stk]; exact eqStock_calls _ _ (kOf_len f o) w
set_option maxHeartbeats 8000000 in
set_option maxRecDepth 100000 in
theorem eqStockS_calls (A B : Option Addr) (n c c' : Nat) (f f' : Nat → Int) (w : World) (hn : n ≤ 1048576) (hA : Arg w n f A) (hB : Arg w n f' B) (he : ∀ i, i < 25 * n → f i = f' i) :
    Calls Try.prog 68 #[.slice A n c, .slice B n c'] w fun e w' => e = .returned (.bool true) ∧ Below w.heap.size w w' := by
  have HA := Aside0.mk hA
  have HC := Aside0.mk hB
  have HE := Aside0.mk (fun k (hk : k < n) W => eqStockA_calls f f' (25 * k) (25 * k) (cellsAt_congr fun j hj => he _ (by omega)) W)
  clear hA hB he
  go_enter Try.func68, Try.ntmps68
  go_wp2
  go_loopw [5] (fun v5 w' => ∃ k : Nat, k ≤ n ∧ v5 = .int .i64 k ∧ Aside0 (Below w.heap.size w w')) (fun v5 _ => n - (intOf v5).toNat)
  case atStart => exact ⟨0, by omega, rfl, ⟨Below.refl _ _⟩⟩
  case round =>
    obtain ⟨k, hk, rfl, HB⟩ := hrel
    by_cases hlt : k < n
    · obtain ⟨b, o, rfl, hr⟩ := HA.out.below HB.out (by omega)
      obtain ⟨b', o', rfl, hr'⟩ := HC.out.below HB.out (by omega)
      have HG := Aside0.mk (Arg.range (p := o + k * 25) hr hlt (by omega))
      have HG' := Aside0.mk (Arg.range (p := o' + k * 25) hr' hlt (by omega))
      clear hr hr'
      have HEk := Aside0.mk (HE.out k hlt)
      go_wp2_with fail
      refine seq_region 8 (by kernel_rfl) (by kernel_rfl) (fun w1 hw1 => ?_)
      have HR1 : Aside0 (w1.rangeAt b (o + k * 25) (cellsAt f (25 * k))) := ⟨by rw [hw1]; exact HG.out⟩
      have HR2 : Aside0 (w1.rangeAt b' (o' + k * 25) (cellsAt f' (25 * k))) := ⟨by rw [hw1]; exact HG'.out⟩
      have HB1 : Aside0 (Below w.heap.size w w1) := ⟨by rw [hw1]; exact below_drew HB.out⟩
      clear hw1 HG HG' HB
      simp only [List.take_succ_cons, List.take_zero, List.drop_succ_cons, List.drop_zero]
      repeat (first | (refine still_load rfl 27 _ rfl (.pointer (some ⟨b, o + k * 25, none⟩)) (.agg (cellsAt f (25 * k)).toArray) (by rfl) (run_loadAt_mid w1 b (o + k * 25) 27 _ _ HR1.out Try.underlying27 (by rfl) (by rw [cellsAt_len]; kernel_rfl)) ?_) | (refine still_load rfl 27 _ rfl (.pointer (some ⟨b', o' + k * 25, none⟩)) (.agg (cellsAt f' (25 * k)).toArray) (by rfl) (run_loadAt_mid w1 b' (o' + k * 25) 27 _ _ HR2.out Try.underlying27 (by rfl) (by rw [cellsAt_len]; kernel_rfl)) ?_) | still_step)
      try refine wpStill_nil ?_
      go_wp2_with (go_at_call 38; refine (HEk.out _).mono ?_; rintro e w2 ⟨rfl, hb⟩; have HB2 := Aside0.mk (below_step HB1.out hb); clear hb)
      go_roundw
      case rel => exact ⟨k + 1, by omega, by go_num, HB2⟩
      case measure => simp [intOf] <;> omega
    · obtain rfl : k = n := by omega
      go_wp2
      go_ret
      exact ⟨rfl, HB.out⟩

end Go.Proofs.Ytjmnbikaijphlaa.X
