/- Contracts of functions, and plain facts: what each call answers, and what it leaves as it was. -/
import Derived.Test.YtjmnbikaijphlaaHUk
set_option linter.unusedVariables false
set_option linter.unusedSimpArgs false
namespace Go.Proofs.Ytjmnbikaijphlaa.X
open Go.RowKit Go.Proofs.YtjmnbikaijphlaaW.PrintWords Go.Proofs.YtjmnbikaijphlaaW.PrintLast Go.Proofs.YtjmnbikaijphlaaW.PrintMore
attribute [local go_sem] max2_int min2_int max_two min_two max_three min_three max_four min_four
set_option maxHeartbeats 8000000 in
set_option maxRecDepth 100000 in
theorem lawUK_calls (f : Nat → Int) (hR : Rng1 f 0) (need : Int) (w : World) :
    Calls Try.prog 8 #[.agg (cellsAt f 0).toArray, .int .i64 need] w fun e w' => e = .returned (.bool true) ∧ Below w.heap.size w w' := by
  have HTS := Aside0.mk (fun W => toStockA_calls f 0 W)
  have HSP := Aside0.mk (fun W => specUK_calls f hR need W)
  have HIM := Aside0.mk (fun W => implUK_calls f hR need W)
  have HB0 : Aside0 (Rw (w.alloc (.cells (cellsAt f 0).toArray 25)) w.heap.size 1 f) := ⟨Rw.of_blk (Blk.new w _ _)⟩
  have HW0 : Aside0 (Below w.heap.size w (w.alloc (.cells (cellsAt f 0).toArray 25))) := ⟨below_alloc (Below.refl _ _) _⟩
  generalize ukF f need = F at *
  generalize ukS f need = s at *
  generalize ukC f need = c at *
  have HEQ := Aside0.mk (fun W => eqStockA_calls F F 0 0 rfl W)
  clear hR
  go_enter Try.func8, Try.ntmps8
  go_wp2_with (refine rw_load (by rfl) 25 _ (by rfl) (w.heap.size) 0 (by rfl) f 0 (HB0.out.range (o := 0) (q := 0) rfl (by decide)) _ Try.underlying25 (by rfl) (by kernel_rfl) ?_)
  refine (HTS.out _).mono ?_
  rintro e w1 ⟨rfl, hb⟩
  have HB1 := Aside0.mk (HB0.out.below hb)
  have HW1 := Aside0.mk (below_step HW0.out hb)
  clear hb HB0 HW0
  go_wp2_with fail
  refine (HSP.out _).mono ?_
  rintro e w2 ⟨rfl, hb⟩
  have HB2 := Aside0.mk (HB1.out.below hb)
  have HW2 := Aside0.mk (below_step HW1.out hb)
  clear hb HB1 HW1
  go_wp2_with (first | (refine rw_load (by rfl) 25 _ (by rfl) (w.heap.size) 0 (by rfl) f 0 (HB3.out.range (o := 0) (q := 0) rfl (by decide)) _ Try.underlying25 (by rfl) (by kernel_rfl) ?_) | (refine rw_store (by rfl) 27 _ _ (by rfl) (w2.heap.size) 0 (by rfl) 1 0 (fun _ => 0) F 0 (by rfl) (Rw.of_blk (Blk.at_ rfl rfl)) rfl (by decide) (by decide) (by kernel_rfl) ?_; intro w3 hw hg; have HO3 : Aside0 (Rw w3 (w2.heap.size) 1 F) := ⟨hw.congr (fun i hi => (put25_same _ 0 F i (by omega) (by omega)).symm)⟩; have HB3 : Aside0 (Rw w3 w.heap.size 1 f) := ⟨(HB2.out.alloc _).grown hg (by have := HW2.out.size; have := HB2.out.lt; simp <;> omega)⟩; have HW3 : Aside0 (Below w.heap.size w w3) := ⟨below_grown (below_alloc HW2.out _) (by have := HW2.out.size; omega) (by have := HW2.out.size; simp <;> omega) hg⟩; clear hw hg))
  refine (HTS.out _).mono ?_
  rintro e w4 ⟨rfl, hb⟩
  have HB4 := Aside0.mk (HB3.out.below hb)
  have HO4 := Aside0.mk (HO3.out.below hb)
  have HW4 := Aside0.mk (below_step HW3.out hb)
  clear hb HB3 HW3 HO3
  go_wp2_with fail
  refine (HIM.out _).mono ?_
  rintro e w5 ⟨rfl, hb⟩
  have HB5 := Aside0.mk (HB4.out.below hb)
  have HO5 := Aside0.mk (HO4.out.below hb)
  have HW5 := Aside0.mk (below_step HW4.out hb)
  clear hb HB4 HW4 HO4
  go_wp2_with (first | (refine rw_load (by rfl) 27 _ (by rfl) (w5.heap.size) 0 (by rfl) F 0 (HO6.out.range (o := 0) (q := 0) rfl (by decide)) _ Try.underlying27 (by rfl) (by kernel_rfl) ?_) | (refine rw_load (by rfl) 27 _ (by rfl) (w2.heap.size) 0 (by rfl) F 0 (HP6.out.range (o := 0) (q := 0) rfl (by decide)) _ Try.underlying27 (by rfl) (by kernel_rfl) ?_) | (refine rw_store (by rfl) 27 _ _ (by rfl) (w5.heap.size) 0 (by rfl) 1 0 (fun _ => 0) F 0 (by rfl) (Rw.of_blk (Blk.at_ rfl rfl)) rfl (by decide) (by decide) (by kernel_rfl) ?_; intro w6 hw hg; have HO6 : Aside0 (Rw w6 (w5.heap.size) 1 F) := ⟨hw.congr (fun i hi => (put25_same _ 0 F i (by omega) (by omega)).symm)⟩; have HB6 : Aside0 (Rw w6 w.heap.size 1 f) := ⟨(HB5.out.alloc _).grown hg (by have := HW5.out.size; have := HB5.out.lt; simp <;> omega)⟩; have HW6 : Aside0 (Below w.heap.size w w6) := ⟨below_grown (below_alloc HW5.out _) (by have := HW5.out.size; omega) (by have := HW5.out.size; simp <;> omega) hg⟩; have HP6 : Aside0 (Rw w6 (w2.heap.size) 1 F) := ⟨(HO5.out.alloc _).grown hg (by have := HO5.out.lt; simp <;> omega)⟩; clear hw hg))
  refine (HEQ.out _).mono ?_
  rintro e w7 ⟨rfl, hb⟩
  have HW7 := Aside0.mk (below_step HW6.out hb)
  clear hb
  go_wp2
  go_ret
  exact ⟨rfl, HW7.out⟩
theorem fOf_rng {K : List Int} {r : Int} (h : stkR K r) : Rng1 (fOf K r) 0 := by
  refine ⟨fun j hj => ?_, ?_⟩
  · unfold fOf; rw [if_pos (by omega), Nat.zero_add]; exact h.1 j
  · unfold fOf; rw [if_neg (by omega)]; exact h.2
theorem lawUKs_calls (K : List Int) (r : Int) (hK : K.length = 24) (hR : stkR K r) (need : Int) (w : World) :
    Calls Try.prog 8 #[.agg (stk K r).toArray, .int .i64 need] w fun e w' => e = .returned (.bool true) ∧ Below w.heap.size w w' := by
  rw [stk_cellsAt hK]; exact lawUK_calls _ (fOf_rng hR) need w
end Go.Proofs.Ytjmnbikaijphlaa.X
