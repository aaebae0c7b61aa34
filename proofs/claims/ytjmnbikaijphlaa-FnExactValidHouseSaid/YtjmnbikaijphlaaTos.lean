/- Contracts of functions over blocks of cells: what each call answers, and what it leaves as it was. -/
import Derived.Test.YtjmnbikaijphlaaTo
import Derived.Laws.MakeOwn
set_option linter.unusedVariables false
set_option linter.unusedSimpArgs false
namespace Go.Proofs.Ytjmnbikaijphlaa.X
open Go.RowKit Go.Proofs.YtjmnbikaijphlaaW.PrintWords Go.Proofs.YtjmnbikaijphlaaW.PrintLast Go.Proofs.YtjmnbikaijphlaaW.PrintMore
attribute [local go_sem] max2_int min2_int max_two min_two max_three min_three max_four min_four
theorem stockInfo : (Try.prog.info? 27).map (fun i => (i.zero, i.size, i.bytes)) = some (some (.agg (cellsAt (fun _ => 0) 0).toArray), 25, 52) := by kernel_rfl
theorem made_rw (w : World) (n t : Nat) : Rw (w.alloc (.cells (madeCells (cellsAt (fun _ => 0) 0).toArray (n * 25)) t)) w.heap.size n (fun _ => 0) := by
  refine ⟨_, t, heap_alloc_new w _, by rw [size_madeCells]; omega, fun i hi => ?_⟩
  have hm : i % 25 < 25 := Nat.mod_lt _ (by decide)
  unfold madeCells
  rw [Array.getElem?_map, Array.getElem?_range, if_pos (by omega), Option.map_some]
  have e : kd i = kd (i % 25) := by unfold kd; rw [Nat.mod_mod]
  congr 1
  have hs : (cellsAt (fun _ => 0) 0).toArray.size = 25 := by simp [cellsAt_len]
  rw [hs]
  have hg : (cellsAt (fun _ => 0) 0).toArray[i % 25]? = some (.int (kd (i % 25)) 0) := by simp [cellsAt, List.getElem?_range hm]
  rw [getElem!_def, hg, e]
set_option maxHeartbeats 8000000 in
set_option maxRecDepth 100000 in
theorem toStockS_calls (A : Option Addr) (n c : Nat) (f : Nat → Int) (hn : n ≤ 1048576) (w : World) (hA : Arg w n f A) :
    Calls Try.prog 66 #[.slice A n c] w fun e w' => e = .returned (.slice (some ⟨w.heap.size, 0, none⟩) n n) ∧ Rw w' w.heap.size n f ∧ Below w.heap.size w w' := by
  have HA := Aside0.mk hA
  have HT := Aside0.mk (fun o W => toStockA_calls f o W)
  obtain ⟨i0, hi, hz0, hz1, hz2⟩ := info_parts stockInfo
  have hmk : ∀ W, (Instr.makeSlice 38 (.int .i64 n) (.int .i64 n)).run Try.prog W = .ok (.slice (some ⟨W.heap.size, 0, none⟩) n n) (W.alloc (.cells (madeCells (cellsAt (fun _ => 0) 0).toArray (n * 25)) 27)) := fun W => by
    have := run_make (P := Try.prog) W 38 27 i0 _ Try.underlying38 hi hz0 .i64 .i64 n n (by omega) (by omega) (by rw [hz2]; omega) (by omega)
    rw [hz1] at this
    simpa [Value.cells] using this
  clear hA hi hz0 hz1 hz2
  have HM := Aside0.mk (made_rw w n 27)
  generalize madeCells (cellsAt (fun _ => 0) 0).toArray (n * 25) = M at *
  go_enter Try.func66, Try.ntmps66
  go_wp2
  go_loopw [4] (fun v4 w' => ∃ k : Nat, k ≤ n ∧ v4 = .int .i64 k ∧ Aside0 (Rw w' w.heap.size n (cut f k)) ∧ Aside0 (Below w.heap.size w w')) (fun v4 _ => n - (intOf v4).toNat)
  case atStart => exact ⟨0, by omega, rfl, ⟨HM.out.congr (fun i _ => if_neg (by omega))⟩, ⟨below_alloc (Below.refl _ _) _⟩⟩
  case round =>
    clear HM hmk
    obtain ⟨k, hk, rfl, HR, HB⟩ := hrel
    by_cases hlt : k < n
    · obtain ⟨b, o, rfl, hr⟩ := HA.out (by omega)
      have HG := Aside0.mk (Arg.range (q := k) (p := o + k * 25) (fun i hi => (Arg.below (fun _ => ⟨b, o, rfl, hr⟩) HB.out (by omega)).elim fun b' h1 => h1.elim fun o' h2 => by obtain ⟨e, h3⟩ := h2; injection e with e; injection e with e1 e2 e3; subst e1 e2; exact h3 i hi) hlt (by omega))
      clear hr
      go_wp2_with (first | (refine rw_load (by rfl) 25 _ (by rfl) b (o + k * 25) (by rfl) f (25 * k) HG.out _ Try.underlying25 (by rfl) (by kernel_rfl) ?_) | (go_at_call 18; refine (HT.out _ _).mono ?_; rintro e w1 ⟨rfl, hb⟩; have HR1 := Aside0.mk (HR.out.below hb); have HB1 := Aside0.mk (below_step HB.out hb); clear hb) | (refine rw_store (by rfl) 27 _ _ (by rfl) w.heap.size (k * 25) (by rfl) n k (cut f k) f (25 * k) (by rfl) HR1.out (by omega) hlt (by omega) (by kernel_rfl) ?_; intro w2 hw2 hg2; have HR2 := Aside0.mk (rw_cut hw2 (by omega)); have HB2 := Aside0.mk (below_grown HB1.out (Nat.le_refl _) HB1.out.size hg2); clear hw2 hg2))
      go_roundw
      case rel => exact ⟨k + 1, by omega, by go_num, HR2, HB2⟩
      case measure => simp [intOf] <;> omega
    · obtain rfl : k = n := by omega
      go_wp2
      go_ret
      exact ⟨rfl, HR.out.congr (fun i hi => by simp [cut, hi]), HB.out⟩

end Go.Proofs.Ytjmnbikaijphlaa.X
