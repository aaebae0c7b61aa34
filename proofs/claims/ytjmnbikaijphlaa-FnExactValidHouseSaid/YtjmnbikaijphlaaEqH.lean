/- Contracts of functions over blocks of cells: what each call answers, and what it leaves as it was. -/
import Derived.Test.YtjmnbikaijphlaaEqSS
set_option linter.unusedVariables false
set_option linter.unusedSimpArgs false
namespace Go.Proofs.Ytjmnbikaijphlaa.X
open Go.RowKit Go.Proofs.YtjmnbikaijphlaaW.PrintWords Go.Proofs.YtjmnbikaijphlaaW.PrintLast Go.Proofs.YtjmnbikaijphlaaW.PrintMore
attribute [local go_sem] max2_int min2_int max_two min_two max_three min_three max_four min_four
set_option maxHeartbeats 8000000 in
set_option maxRecDepth 100000 in
theorem eqHouse_calls (A B : Option Addr) (n c c' : Nat) (f f' : Nat → Int) (tub every today : Int) (w : World) (hn : n ≤ 1048576) (hA : Arg w n f A) (hB : Arg w n f' B) (he : ∀ i, i < 25 * n → f i = f' i) :
    Calls Try.prog 26 #[.agg #[.slice A n c, .int .i16 tub, .int .i8 every, .int .i16 today], .agg #[.slice B n c', .int .i16 tub, .int .i8 every, .int .i16 today]] w fun e w' => e = .returned (.bool true) ∧ Below w.heap.size w w' := by
  have HA := Aside0.mk hA
  have HC := Aside0.mk hB
  have HE := Aside0.mk (fun W h h' => eqStockS_calls A B n c c' f f' W hn h h' he)
  clear hA hB he
  go_enter Try.func26, Try.ntmps26
  go_wp2_with (go_at_call 68; refine (HE.out _ (HA.out.below (by repeat (first | exact Below.refl _ _ | apply below_alloc))) (HC.out.below (by repeat (first | exact Below.refl _ _ | apply below_alloc)))).mono ?_; rintro e w1 ⟨rfl, hb⟩; have HB0 : Aside0 (Blk w1 w.heap.size 40 (hcells A n c tub every today)) := ⟨(Blk.alloc (Blk.new w _ _) _).below hb⟩; have HB1 : Aside0 (Blk w1 (w.heap.size + 1) 40 (hcells B n c' tub every today)) := ⟨(Blk.at_ (by simp) (by rfl)).below hb⟩; have HW : Aside0 (Below w.heap.size w w1) := ⟨below_step (by repeat (first | exact Below.refl _ _ | apply below_alloc)) hb⟩; clear hb; have a1 := HB0.out.cell 1 (v := .int .i16 tub) rfl; have a2 := HB0.out.cell 2 (v := .int .i8 every) rfl; have a3 := HB0.out.cell 3 (v := .int .i16 today) rfl; have b1 := HB1.out.cell 1 (v := .int .i16 tub) rfl; have b2 := HB1.out.cell 2 (v := .int .i8 every) rfl; have b3 := HB1.out.cell 3 (v := .int .i16 today) rfl)
  go_ret
  exact ⟨rfl, HW.out⟩

end Go.Proofs.Ytjmnbikaijphlaa.X
