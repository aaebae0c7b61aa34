/- Contracts of functions over blocks of cells: what each call answers, and what it leaves as it was. -/
import Derived.Test.YtjmnbikaijphlaaTos
set_option linter.unusedVariables false
set_option linter.unusedSimpArgs false
namespace Go.Proofs.Ytjmnbikaijphlaa.X
open Go.RowKit Go.Proofs.YtjmnbikaijphlaaW.PrintWords Go.Proofs.YtjmnbikaijphlaaW.PrintLast Go.Proofs.YtjmnbikaijphlaaW.PrintMore
attribute [local go_sem] max2_int min2_int max_two min_two max_three min_three max_four min_four
set_option maxHeartbeats 8000000 in
set_option maxRecDepth 100000 in
theorem toHouse_calls (A : Option Addr) (n c : Nat) (f : Nat → Int) (tub every today : Int) (hn : n ≤ 1048576) (w : World) (hA : Arg w n f A) :
    Calls Try.prog 24 #[.agg #[.slice A n c, .int .i16 tub, .int .i8 every, .int .i16 today]] w fun e w' => ∃ g, e = .returned (.agg #[.slice (some ⟨g, 0, none⟩) n n, .int .i16 tub, .int .i8 every, .int .i16 today]) ∧ w.heap.size ≤ g ∧ Rw w' g n f ∧ Below w.heap.size w w' := by
  have HA := Aside0.mk hA
  have HT := Aside0.mk (fun W h => toStockS_calls A n c f hn W h)
  clear hA
  go_enter Try.func24, Try.ntmps24
  go_wp2_with (go_at_call 66; refine (HT.out _ (HA.out.below (by repeat (first | exact Below.refl _ _ | apply below_alloc)))).mono ?_; rintro e w1 ⟨rfl, hR, hb⟩; have HR : Aside0 (Rw w1 (w.heap.size + 1 + 1 + 1) n f) := ⟨by simpa using hR⟩; have HB0 : Aside0 (Blk w1 w.heap.size 35 (hcells A n c tub every today)) := ⟨(Blk.alloc (Blk.alloc (Blk.new w _ _) _) _).below hb⟩; have HB1 : Aside0 (Blk w1 (w.heap.size + 1) 40 (hcells none 0 0 0 0 0)) := ⟨(Blk.alloc (Blk.at_ (by simp) (by rfl)) _).below hb⟩; have HB2 : Aside0 (Blk w1 (w.heap.size + 1 + 1) 40 (hcells none 0 0 0 0 0)) := ⟨(Blk.at_ (by simp) (by rfl)).below hb⟩; have HW : Aside0 (Below w.heap.size w w1) := ⟨below_step (by repeat (first | exact Below.refl _ _ | apply below_alloc)) hb⟩; clear hR hb; have a1 := HB0.out.cell 1 (v := .int .i16 tub) rfl; have a2 := HB0.out.cell 2 (v := .int .i8 every) rfl; have a3 := HB0.out.cell 3 (v := .int .i16 today) rfl; have b0 := HB1.out.cell 0 (v := .slice none 0 0) rfl; have b1 := HB1.out.cell 1 (v := .int .i16 0) rfl; have b2 := HB1.out.cell 2 (v := .int .i8 0) rfl; have b3 := HB1.out.cell 3 (v := .int .i16 0) rfl; have c0 := HB2.out.cell 0 (v := .slice none 0 0) rfl; have c1 := HB2.out.cell 1 (v := .int .i16 0) rfl; have c2 := HB2.out.cell 2 (v := .int .i8 0) rfl; have c3 := HB2.out.cell 3 (v := .int .i16 0) rfl; have d0 := HB1.out.frozen 0; have d1 := HB1.out.frozen 1; have d2 := HB1.out.frozen 2; have d3 := HB1.out.frozen 3; have e0 := HB2.out.frozen 0; have e1 := HB2.out.frozen 1; have e2 := HB2.out.frozen 2; have e3 := HB2.out.frozen 3)
  refine bodyPost_ret (v := .agg (hcells (some ⟨w.heap.size + 1 + 1 + 1, 0, none⟩) n n tub every today).toArray) (Blk.result (by rfl) _ _ (w.heap.size + 1) 40 (hcells (some ⟨w.heap.size + 1 + 1 + 1, 0, none⟩) n n tub every today) _ rfl (((((blk_other (blk_other (blk_other (blk_other HB1.out (by omega)) (by omega)) (by omega)) (by omega)).set 0 _).set 1 _).set 2 _).set 3 _) Try.underlying40 rfl (by kernel_rfl)) rfl ⟨_, rfl, by omega, ?_, ?_⟩
  · repeat (first | with_reducible exact HR.out | refine Rw.other ?_ (by omega))
  · repeat (first | with_reducible exact HW.out | refine below_setc ?_ (by omega))

end Go.Proofs.Ytjmnbikaijphlaa.X
