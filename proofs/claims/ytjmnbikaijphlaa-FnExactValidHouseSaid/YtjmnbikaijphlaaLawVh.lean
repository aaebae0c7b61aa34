/- Contracts of functions over blocks of cells: what each call answers, and what it leaves as it was. -/
import Derived.Test.YtjmnbikaijphlaaIvh
import Derived.Test.YtjmnbikaijphlaaOk
import Derived.Test.YtjmnbikaijphlaaToh
import Derived.Test.YtjmnbikaijphlaaEqH
set_option linter.unusedVariables false
set_option linter.unusedSimpArgs false
namespace Go.Proofs.Ytjmnbikaijphlaa.X
open Go.RowKit Go.Proofs.YtjmnbikaijphlaaW.PrintWords Go.Proofs.YtjmnbikaijphlaaW.PrintLast Go.Proofs.YtjmnbikaijphlaaW.PrintMore
attribute [local go_sem] max2_int min2_int max_two min_two max_three min_three max_four min_four
set_option maxHeartbeats 8000000 in
set_option maxRecDepth 100000 in
theorem specVH_calls (f : Nat → Int) (n c g : Nat) (tub every today : Int) (hn : n ≤ 1048576) (hR : Rng f n) (ht : -32768 ≤ tub ∧ tub ≤ 32767) (hv : -128 ≤ every ∧ every ≤ 127) (hd : -32768 ≤ today ∧ today ≤ 32767) (w : World) (hB : Rw w g n f) :
    Calls Try.prog 27 #[.agg #[.slice (some ⟨g, 0, none⟩) n c, .int .i16 tub, .int .i8 every, .int .i16 today]] w fun e w' => e = .returned (.bool (houseB f n tub every today)) ∧ Below w.heap.size w w' := by
  have HC := Aside0.mk (l05Ok_calls f n c g w.heap.size tub every today hn hR ht hv hd _ (Blk.new w _ _) (hB.alloc _))
  generalize houseB f n tub every today = ok at *
  clear hR ht hv hd hB hn
  go_enter Try.func27, Try.ntmps27
  go_wp2_with fail
  refine HC.out.mono ?_
  rintro e w1 ⟨rfl, hb⟩
  have HB := Aside0.mk (below_step (below_alloc (Below.refl w.heap.size w) _) hb)
  clear hb
  go_wp2
  go_ret
  exact ⟨rfl, HB.out⟩
set_option maxHeartbeats 8000000 in
set_option maxRecDepth 100000 in
theorem lawVH_calls (A : Option Addr) (f : Nat → Int) (n c : Nat) (tub every today : Int) (hm : (n : Int) ≤ 9223372036854775807) (hR : Rng f n) (ht : -32768 ≤ tub ∧ tub ≤ 32767) (hv : -128 ≤ every ∧ every ≤ 127) (hd : -32768 ≤ today ∧ today ≤ 32767) (w : World) (hA : Arg w n f A) :
    Calls Try.prog 6 #[.agg #[.slice A n c, .int .i16 tub, .int .i8 every, .int .i16 today]] w fun e w' => e = .returned (.bool true) ∧ Below w.heap.size w w' := by
  have HSZ := Aside0.mk (fun W => szHouse_calls A n c tub every today 1048576 hm (by omega) W)
  have HA := Aside0.mk hA
  have HW : Aside0 (Below w.heap.size w (w.alloc (.cells #[.slice A n c, .int .i16 tub, .int .i8 every, .int .i16 today] 35))) := ⟨below_alloc (Below.refl _ _) _⟩
  have HB0 : Aside0 (Blk (w.alloc (.cells #[.slice A n c, .int .i16 tub, .int .i8 every, .int .i16 today] 35)) w.heap.size 35 [.slice A n c, .int .i16 tub, .int .i8 every, .int .i16 today]) := ⟨Blk.new w _ _⟩
  by_cases hn : n ≤ 1048576
  · have hn1 : ¬ ((1048576 : Int) - (n : Int) < 0) := by omega
    rw [if_neg hn1] at HSZ
    have hn2 : 0 ≤ (1048576 : Int) - (n : Int) := by omega
    have HTH := Aside0.mk (fun W h => toHouse_calls A n c f tub every today hn W h)
    have HSP := Aside0.mk (fun g c W h => specVH_calls f n c g tub every today hn hR ht hv hd W h)
    have HIM := Aside0.mk (fun g c W h => implVH_calls f n c g tub every today hn hR ht hv hd W h)
    have HEQ := Aside0.mk (fun g g' c c' W h h' => eqHouse_calls (some ⟨g, 0, none⟩) (some ⟨g', 0, none⟩) n c c' f f tub every today W hn h h' (fun i hi => rfl))
    generalize houseB f n tub every today = ok at *
    generalize (1048576 : Int) - (n : Int) = left at *
    clear hA hR ht hv hd hn hn1 hm
    go_enter Try.func6, Try.ntmps6
    go_wp2_with (first | (refine wl_load (by rfl) 35 _ (by rfl) (w.heap.size) 0 (by rfl) 35 4 _ [.slice A n c, .int .i16 tub, .int .i8 every, .int .i16 today] (by repeat (first | (with_reducible exact HB0.out) | refine Blk.alloc ?_ _ | refine Rw.alloc ?_ _ | refine Arg.alloc ?_ _ | apply below_alloc | refine Blk.drew ?_ | refine Rw.drew ?_ | refine Arg.drew ?_ | apply below_drew | refine Blk.drewN ?_ _ | refine Rw.drewN ?_ _ | refine Arg.drewN ?_ _ | apply pw_below_drewN)) (by rfl) (by rfl) _ Try.underlying35 (by rfl) (by kernel_rfl) ?_))
    refine (HSZ.out _).mono ?_
    rintro e w1 ⟨rfl, hb⟩
    replace HB0 : Aside0 (Blk w1 (w.heap.size) 35 [.slice A n c, .int .i16 tub, .int .i8 every, .int .i16 today]) := ⟨Blk.below (by repeat (first | (with_reducible exact HB0.out) | refine Blk.alloc ?_ _ | refine Rw.alloc ?_ _ | refine Arg.alloc ?_ _ | apply below_alloc | refine Blk.drew ?_ | refine Rw.drew ?_ | refine Arg.drew ?_ | apply below_drew | refine Blk.drewN ?_ _ | refine Rw.drewN ?_ _ | refine Arg.drewN ?_ _ | apply pw_below_drewN)) hb⟩
    replace HA : Aside0 (Arg w1 n f A) := ⟨Arg.below (by repeat (first | (with_reducible exact HA.out) | refine Blk.alloc ?_ _ | refine Rw.alloc ?_ _ | refine Arg.alloc ?_ _ | apply below_alloc | refine Blk.drew ?_ | refine Rw.drew ?_ | refine Arg.drew ?_ | apply below_drew | refine Blk.drewN ?_ _ | refine Rw.drewN ?_ _ | refine Arg.drewN ?_ _ | apply pw_below_drewN)) hb⟩
    replace HW : Aside0 (Below w.heap.size w w1) := ⟨below_step (by repeat (first | (with_reducible exact HW.out) | refine Blk.alloc ?_ _ | refine Rw.alloc ?_ _ | refine Arg.alloc ?_ _ | apply below_alloc | refine Blk.drew ?_ | refine Rw.drew ?_ | refine Arg.drew ?_ | apply below_drew | refine Blk.drewN ?_ _ | refine Rw.drewN ?_ _ | refine Arg.drewN ?_ _ | apply pw_below_drewN)) hb⟩
    clear hb
    go_wp2_with (first | (refine wl_load (by rfl) 35 _ (by rfl) (w.heap.size) 0 (by rfl) 35 4 _ [.slice A n c, .int .i16 tub, .int .i8 every, .int .i16 today] (by repeat (first | (with_reducible exact HB0.out) | refine Blk.alloc ?_ _ | refine Rw.alloc ?_ _ | refine Arg.alloc ?_ _ | apply below_alloc | refine Blk.drew ?_ | refine Rw.drew ?_ | refine Arg.drew ?_ | apply below_drew | refine Blk.drewN ?_ _ | refine Rw.drewN ?_ _ | refine Arg.drewN ?_ _ | apply pw_below_drewN)) (by rfl) (by rfl) _ Try.underlying35 (by rfl) (by kernel_rfl) ?_))
    refine (HTH.out _ (by repeat (first | (with_reducible exact HA.out) | refine Blk.alloc ?_ _ | refine Rw.alloc ?_ _ | refine Arg.alloc ?_ _ | apply below_alloc | refine Blk.drew ?_ | refine Rw.drew ?_ | refine Arg.drew ?_ | apply below_drew | refine Blk.drewN ?_ _ | refine Rw.drewN ?_ _ | refine Arg.drewN ?_ _ | apply pw_below_drewN))).mono ?_
    rintro e w2 ⟨g1, rfl, hg1, hR1, hb⟩
    replace HB0 : Aside0 (Blk w2 (w.heap.size) 35 [.slice A n c, .int .i16 tub, .int .i8 every, .int .i16 today]) := ⟨Blk.below (by repeat (first | (with_reducible exact HB0.out) | refine Blk.alloc ?_ _ | refine Rw.alloc ?_ _ | refine Arg.alloc ?_ _ | apply below_alloc | refine Blk.drew ?_ | refine Rw.drew ?_ | refine Arg.drew ?_ | apply below_drew | refine Blk.drewN ?_ _ | refine Rw.drewN ?_ _ | refine Arg.drewN ?_ _ | apply pw_below_drewN)) hb⟩
    replace HA : Aside0 (Arg w2 n f A) := ⟨Arg.below (by repeat (first | (with_reducible exact HA.out) | refine Blk.alloc ?_ _ | refine Rw.alloc ?_ _ | refine Arg.alloc ?_ _ | apply below_alloc | refine Blk.drew ?_ | refine Rw.drew ?_ | refine Arg.drew ?_ | apply below_drew | refine Blk.drewN ?_ _ | refine Rw.drewN ?_ _ | refine Arg.drewN ?_ _ | apply pw_below_drewN)) hb⟩
    replace HW : Aside0 (Below w.heap.size w w2) := ⟨below_step (by repeat (first | (with_reducible exact HW.out) | refine Blk.alloc ?_ _ | refine Rw.alloc ?_ _ | refine Arg.alloc ?_ _ | apply below_alloc | refine Blk.drew ?_ | refine Rw.drew ?_ | refine Arg.drew ?_ | apply below_drew | refine Blk.drewN ?_ _ | refine Rw.drewN ?_ _ | refine Arg.drewN ?_ _ | apply pw_below_drewN)) hb⟩
    clear hb
    have HR1 := Aside0.mk hR1
    clear hR1
    go_wp2_with (first | (refine wl_load (by rfl) 35 _ (by rfl) (w.heap.size) 0 (by rfl) 35 4 _ [.slice A n c, .int .i16 tub, .int .i8 every, .int .i16 today] (by repeat (first | (with_reducible exact HB0.out) | refine Blk.alloc ?_ _ | refine Rw.alloc ?_ _ | refine Arg.alloc ?_ _ | apply below_alloc | refine Blk.drew ?_ | refine Rw.drew ?_ | refine Arg.drew ?_ | apply below_drew | refine Blk.drewN ?_ _ | refine Rw.drewN ?_ _ | refine Arg.drewN ?_ _ | apply pw_below_drewN)) (by rfl) (by rfl) _ Try.underlying35 (by rfl) (by kernel_rfl) ?_))
    refine (HSP.out _ _ _ (by repeat (first | (with_reducible exact HR1.out) | refine Blk.alloc ?_ _ | refine Rw.alloc ?_ _ | refine Arg.alloc ?_ _ | apply below_alloc | refine Blk.drew ?_ | refine Rw.drew ?_ | refine Arg.drew ?_ | apply below_drew | refine Blk.drewN ?_ _ | refine Rw.drewN ?_ _ | refine Arg.drewN ?_ _ | apply pw_below_drewN))).mono ?_
    rintro e w3 ⟨rfl, hb⟩
    replace HB0 : Aside0 (Blk w3 (w.heap.size) 35 [.slice A n c, .int .i16 tub, .int .i8 every, .int .i16 today]) := ⟨Blk.below (by repeat (first | (with_reducible exact HB0.out) | refine Blk.alloc ?_ _ | refine Rw.alloc ?_ _ | refine Arg.alloc ?_ _ | apply below_alloc | refine Blk.drew ?_ | refine Rw.drew ?_ | refine Arg.drew ?_ | apply below_drew | refine Blk.drewN ?_ _ | refine Rw.drewN ?_ _ | refine Arg.drewN ?_ _ | apply pw_below_drewN)) hb⟩
    replace HR1 : Aside0 (Rw w3 g1 n f) := ⟨Rw.below (by repeat (first | (with_reducible exact HR1.out) | refine Blk.alloc ?_ _ | refine Rw.alloc ?_ _ | refine Arg.alloc ?_ _ | apply below_alloc | refine Blk.drew ?_ | refine Rw.drew ?_ | refine Arg.drew ?_ | apply below_drew | refine Blk.drewN ?_ _ | refine Rw.drewN ?_ _ | refine Arg.drewN ?_ _ | apply pw_below_drewN)) hb⟩
    replace HA : Aside0 (Arg w3 n f A) := ⟨Arg.below (by repeat (first | (with_reducible exact HA.out) | refine Blk.alloc ?_ _ | refine Rw.alloc ?_ _ | refine Arg.alloc ?_ _ | apply below_alloc | refine Blk.drew ?_ | refine Rw.drew ?_ | refine Arg.drew ?_ | apply below_drew | refine Blk.drewN ?_ _ | refine Rw.drewN ?_ _ | refine Arg.drewN ?_ _ | apply pw_below_drewN)) hb⟩
    replace HW : Aside0 (Below w.heap.size w w3) := ⟨below_step (by repeat (first | (with_reducible exact HW.out) | refine Blk.alloc ?_ _ | refine Rw.alloc ?_ _ | refine Arg.alloc ?_ _ | apply below_alloc | refine Blk.drew ?_ | refine Rw.drew ?_ | refine Arg.drew ?_ | apply below_drew | refine Blk.drewN ?_ _ | refine Rw.drewN ?_ _ | refine Arg.drewN ?_ _ | apply pw_below_drewN)) hb⟩
    clear hb
    go_wp2_with (first | (refine wl_load (by rfl) 35 _ (by rfl) (w.heap.size) 0 (by rfl) 35 4 _ [.slice A n c, .int .i16 tub, .int .i8 every, .int .i16 today] (by repeat (first | (with_reducible exact HB0.out) | refine Blk.alloc ?_ _ | refine Rw.alloc ?_ _ | refine Arg.alloc ?_ _ | apply below_alloc | refine Blk.drew ?_ | refine Rw.drew ?_ | refine Arg.drew ?_ | apply below_drew | refine Blk.drewN ?_ _ | refine Rw.drewN ?_ _ | refine Arg.drewN ?_ _ | apply pw_below_drewN)) (by rfl) (by rfl) _ Try.underlying35 (by rfl) (by kernel_rfl) ?_))
    refine (HTH.out _ (by repeat (first | (with_reducible exact HA.out) | refine Blk.alloc ?_ _ | refine Rw.alloc ?_ _ | refine Arg.alloc ?_ _ | apply below_alloc | refine Blk.drew ?_ | refine Rw.drew ?_ | refine Arg.drew ?_ | apply below_drew | refine Blk.drewN ?_ _ | refine Rw.drewN ?_ _ | refine Arg.drewN ?_ _ | apply pw_below_drewN))).mono ?_
    rintro e w4 ⟨g2, rfl, hg2, hR2, hb⟩
    replace HB0 : Aside0 (Blk w4 (w.heap.size) 35 [.slice A n c, .int .i16 tub, .int .i8 every, .int .i16 today]) := ⟨Blk.below (by repeat (first | (with_reducible exact HB0.out) | refine Blk.alloc ?_ _ | refine Rw.alloc ?_ _ | refine Arg.alloc ?_ _ | apply below_alloc | refine Blk.drew ?_ | refine Rw.drew ?_ | refine Arg.drew ?_ | apply below_drew | refine Blk.drewN ?_ _ | refine Rw.drewN ?_ _ | refine Arg.drewN ?_ _ | apply pw_below_drewN)) hb⟩
    replace HR1 : Aside0 (Rw w4 g1 n f) := ⟨Rw.below (by repeat (first | (with_reducible exact HR1.out) | refine Blk.alloc ?_ _ | refine Rw.alloc ?_ _ | refine Arg.alloc ?_ _ | apply below_alloc | refine Blk.drew ?_ | refine Rw.drew ?_ | refine Arg.drew ?_ | apply below_drew | refine Blk.drewN ?_ _ | refine Rw.drewN ?_ _ | refine Arg.drewN ?_ _ | apply pw_below_drewN)) hb⟩
    replace HA : Aside0 (Arg w4 n f A) := ⟨Arg.below (by repeat (first | (with_reducible exact HA.out) | refine Blk.alloc ?_ _ | refine Rw.alloc ?_ _ | refine Arg.alloc ?_ _ | apply below_alloc | refine Blk.drew ?_ | refine Rw.drew ?_ | refine Arg.drew ?_ | apply below_drew | refine Blk.drewN ?_ _ | refine Rw.drewN ?_ _ | refine Arg.drewN ?_ _ | apply pw_below_drewN)) hb⟩
    replace HW : Aside0 (Below w.heap.size w w4) := ⟨below_step (by repeat (first | (with_reducible exact HW.out) | refine Blk.alloc ?_ _ | refine Rw.alloc ?_ _ | refine Arg.alloc ?_ _ | apply below_alloc | refine Blk.drew ?_ | refine Rw.drew ?_ | refine Arg.drew ?_ | apply below_drew | refine Blk.drewN ?_ _ | refine Rw.drewN ?_ _ | refine Arg.drewN ?_ _ | apply pw_below_drewN)) hb⟩
    clear hb
    have HR2 := Aside0.mk hR2
    clear hR2
    go_wp2_with (first | (refine wl_load (by rfl) 35 _ (by rfl) (w.heap.size) 0 (by rfl) 35 4 _ [.slice A n c, .int .i16 tub, .int .i8 every, .int .i16 today] (by repeat (first | (with_reducible exact HB0.out) | refine Blk.alloc ?_ _ | refine Rw.alloc ?_ _ | refine Arg.alloc ?_ _ | apply below_alloc | refine Blk.drew ?_ | refine Rw.drew ?_ | refine Arg.drew ?_ | apply below_drew | refine Blk.drewN ?_ _ | refine Rw.drewN ?_ _ | refine Arg.drewN ?_ _ | apply pw_below_drewN)) (by rfl) (by rfl) _ Try.underlying35 (by rfl) (by kernel_rfl) ?_))
    refine (HIM.out _ _ _ (by repeat (first | (with_reducible exact HR2.out) | refine Blk.alloc ?_ _ | refine Rw.alloc ?_ _ | refine Arg.alloc ?_ _ | apply below_alloc | refine Blk.drew ?_ | refine Rw.drew ?_ | refine Arg.drew ?_ | apply below_drew | refine Blk.drewN ?_ _ | refine Rw.drewN ?_ _ | refine Arg.drewN ?_ _ | apply pw_below_drewN))).mono ?_
    rintro e w5 ⟨rfl, hb⟩
    replace HB0 : Aside0 (Blk w5 (w.heap.size) 35 [.slice A n c, .int .i16 tub, .int .i8 every, .int .i16 today]) := ⟨Blk.below (by repeat (first | (with_reducible exact HB0.out) | refine Blk.alloc ?_ _ | refine Rw.alloc ?_ _ | refine Arg.alloc ?_ _ | apply below_alloc | refine Blk.drew ?_ | refine Rw.drew ?_ | refine Arg.drew ?_ | apply below_drew | refine Blk.drewN ?_ _ | refine Rw.drewN ?_ _ | refine Arg.drewN ?_ _ | apply pw_below_drewN)) hb⟩
    replace HR1 : Aside0 (Rw w5 g1 n f) := ⟨Rw.below (by repeat (first | (with_reducible exact HR1.out) | refine Blk.alloc ?_ _ | refine Rw.alloc ?_ _ | refine Arg.alloc ?_ _ | apply below_alloc | refine Blk.drew ?_ | refine Rw.drew ?_ | refine Arg.drew ?_ | apply below_drew | refine Blk.drewN ?_ _ | refine Rw.drewN ?_ _ | refine Arg.drewN ?_ _ | apply pw_below_drewN)) hb⟩
    replace HR2 : Aside0 (Rw w5 g2 n f) := ⟨Rw.below (by repeat (first | (with_reducible exact HR2.out) | refine Blk.alloc ?_ _ | refine Rw.alloc ?_ _ | refine Arg.alloc ?_ _ | apply below_alloc | refine Blk.drew ?_ | refine Rw.drew ?_ | refine Arg.drew ?_ | apply below_drew | refine Blk.drewN ?_ _ | refine Rw.drewN ?_ _ | refine Arg.drewN ?_ _ | apply pw_below_drewN)) hb⟩
    replace HA : Aside0 (Arg w5 n f A) := ⟨Arg.below (by repeat (first | (with_reducible exact HA.out) | refine Blk.alloc ?_ _ | refine Rw.alloc ?_ _ | refine Arg.alloc ?_ _ | apply below_alloc | refine Blk.drew ?_ | refine Rw.drew ?_ | refine Arg.drew ?_ | apply below_drew | refine Blk.drewN ?_ _ | refine Rw.drewN ?_ _ | refine Arg.drewN ?_ _ | apply pw_below_drewN)) hb⟩
    have HX : Aside0 (Blk w5 (w4.heap.size) 40 [.slice (some ⟨g2, 0, none⟩) n n, .int .i16 tub, .int .i8 every, .int .i16 today]) := ⟨Blk.below (by repeat (first | exact Blk.at_ (by simp) rfl | refine Blk.alloc ?_ _)) hb⟩
    replace HW : Aside0 (Below w.heap.size w w5) := ⟨below_step (by repeat (first | (with_reducible exact HW.out) | refine Blk.alloc ?_ _ | refine Rw.alloc ?_ _ | refine Arg.alloc ?_ _ | apply below_alloc | refine Blk.drew ?_ | refine Rw.drew ?_ | refine Arg.drew ?_ | apply below_drew | refine Blk.drewN ?_ _ | refine Rw.drewN ?_ _ | refine Arg.drewN ?_ _ | apply pw_below_drewN)) hb⟩
    clear hb
    go_wp2_with fail
    have c0_0 := HX.out.cell 0 (v := .slice (some ⟨g2, 0, none⟩) n n) rfl
    have c0_1 := HX.out.cell 1 (v := .int .i16 tub) rfl
    have c0_2 := HX.out.cell 2 (v := .int .i8 every) rfl
    have c0_3 := HX.out.cell 3 (v := .int .i16 today) rfl
    have c1_0 := HB0.out.cell 0 (v := .slice A n c) rfl
    have c1_1 := HB0.out.cell 1 (v := .int .i16 tub) rfl
    have c1_2 := HB0.out.cell 2 (v := .int .i8 every) rfl
    have c1_3 := HB0.out.cell 3 (v := .int .i16 today) rfl
    go_region_held3 (fun w' => w'.cell? ⟨w4.heap.size, 0, none⟩ = some (.slice (some ⟨g2, 0, none⟩) n n) ∧ w'.cell? ⟨w4.heap.size, 1, none⟩ = some (.int .i16 tub) ∧ w'.cell? ⟨w4.heap.size, 2, none⟩ = some (.int .i8 every) ∧ w'.cell? ⟨w4.heap.size, 3, none⟩ = some (.int .i16 today) ∧ w'.cell? ⟨w.heap.size, 0, none⟩ = some (.slice A n c) ∧ w'.cell? ⟨w.heap.size, 1, none⟩ = some (.int .i16 tub) ∧ w'.cell? ⟨w.heap.size, 2, none⟩ = some (.int .i8 every) ∧ w'.cell? ⟨w.heap.size, 3, none⟩ = some (.int .i16 today)) (first | exact ⟨c0_0, c0_1, c0_2, c0_3, c1_0, c1_1, c1_2, c1_3⟩ | exact ⟨d1c0_0, d1c0_1, d1c0_2, d1c0_3, d1c1_0, d1c1_1, d1c1_2, d1c1_3⟩ | exact ⟨d0c0_0, d0c0_1, d0c0_2, d0c0_3, d0c1_0, d0c1_1, d0c1_2, d0c1_3⟩ | go_keep) ((first | (go_at_call 24; refine (HTH.out _ (by repeat (first | (with_reducible exact HA.out) | refine Blk.alloc ?_ _ | refine Rw.alloc ?_ _ | refine Arg.alloc ?_ _ | apply below_alloc | refine Blk.drew ?_ | refine Rw.drew ?_ | refine Arg.drew ?_ | apply below_drew | refine Blk.drewN ?_ _ | refine Rw.drewN ?_ _ | refine Arg.drewN ?_ _ | apply pw_below_drewN))).mono ?_; rintro e u0 ⟨g3, rfl, hg3, hR3, hb⟩; have q0 := below_step (w := w5) (by repeat (first | exact Below.refl _ _ | assumption | apply below_drew | apply pw_below_drewN | apply below_alloc)) hb; clear hb; have d0c0_0 := pw_cell_below q0 c0_0; have d0c0_1 := pw_cell_below q0 c0_1; have d0c0_2 := pw_cell_below q0 c0_2; have d0c0_3 := pw_cell_below q0 c0_3; have d0c1_0 := pw_cell_below q0 c1_0; have d0c1_1 := pw_cell_below q0 c1_1; have d0c1_2 := pw_cell_below q0 c1_2; have d0c1_3 := pw_cell_below q0 c1_3) | (go_at_call 26; refine (HEQ.out _ _ _ _ _ (Arg.of_rw (by repeat (first | (with_reducible exact (HR2.out.below q0)) | refine Blk.alloc ?_ _ | refine Rw.alloc ?_ _ | refine Arg.alloc ?_ _ | apply below_alloc | refine Blk.drew ?_ | refine Rw.drew ?_ | refine Arg.drew ?_ | apply below_drew | refine Blk.drewN ?_ _ | refine Rw.drewN ?_ _ | refine Arg.drewN ?_ _ | apply pw_below_drewN))) (Arg.of_rw (by repeat (first | (with_reducible exact hR3) | refine Blk.alloc ?_ _ | refine Rw.alloc ?_ _ | refine Arg.alloc ?_ _ | apply below_alloc | refine Blk.drew ?_ | refine Rw.drew ?_ | refine Arg.drew ?_ | apply below_drew | refine Blk.drewN ?_ _ | refine Rw.drewN ?_ _ | refine Arg.drewN ?_ _ | apply pw_below_drewN)))).mono ?_; rintro e u1 ⟨rfl, hb⟩; have q1 := below_step (w := w5) (by repeat (first | exact Below.refl _ _ | assumption | apply below_drew | apply pw_below_drewN | apply below_alloc)) hb; clear hb; have d1c0_0 := pw_cell_below q1 c0_0; have d1c0_1 := pw_cell_below q1 c0_1; have d1c0_2 := pw_cell_below q1 c0_2; have d1c0_3 := pw_cell_below q1 c0_3; have d1c1_0 := pw_cell_below q1 c1_0; have d1c1_1 := pw_cell_below q1 c1_1; have d1c1_2 := pw_cell_below q1 c1_2; have d1c1_3 := pw_cell_below q1 c1_3)))
    clear c0_0 c0_1 c0_2 c0_3 c1_0 c1_1 c1_2 c1_3 d0c0_0 d0c0_1 d0c0_2 d0c0_3 d0c1_0 d0c1_1 d0c1_2 d0c1_3 d1c0_0 d1c0_1 d1c0_2 d1c0_3 d1c1_0 d1c1_1 d1c1_2 d1c1_3 q0
    replace HB0 : Aside0 (Blk u1 (w.heap.size) 35 [.slice A n c, .int .i16 tub, .int .i8 every, .int .i16 today]) := ⟨Blk.below (by repeat (first | (with_reducible exact HB0.out) | refine Blk.alloc ?_ _ | refine Rw.alloc ?_ _ | refine Arg.alloc ?_ _ | apply below_alloc | refine Blk.drew ?_ | refine Rw.drew ?_ | refine Arg.drew ?_ | apply below_drew | refine Blk.drewN ?_ _ | refine Rw.drewN ?_ _ | refine Arg.drewN ?_ _ | apply pw_below_drewN)) q1⟩
    replace HX : Aside0 (Blk u1 (w4.heap.size) 40 [.slice (some ⟨g2, 0, none⟩) n n, .int .i16 tub, .int .i8 every, .int .i16 today]) := ⟨Blk.below (by repeat (first | (with_reducible exact HX.out) | refine Blk.alloc ?_ _ | refine Rw.alloc ?_ _ | refine Arg.alloc ?_ _ | apply below_alloc | refine Blk.drew ?_ | refine Rw.drew ?_ | refine Arg.drew ?_ | apply below_drew | refine Blk.drewN ?_ _ | refine Rw.drewN ?_ _ | refine Arg.drewN ?_ _ | apply pw_below_drewN)) q1⟩
    replace HR1 : Aside0 (Rw u1 g1 n f) := ⟨Rw.below (by repeat (first | (with_reducible exact HR1.out) | refine Blk.alloc ?_ _ | refine Rw.alloc ?_ _ | refine Arg.alloc ?_ _ | apply below_alloc | refine Blk.drew ?_ | refine Rw.drew ?_ | refine Arg.drew ?_ | apply below_drew | refine Blk.drewN ?_ _ | refine Rw.drewN ?_ _ | refine Arg.drewN ?_ _ | apply pw_below_drewN)) q1⟩
    replace HR2 : Aside0 (Rw u1 g2 n f) := ⟨Rw.below (by repeat (first | (with_reducible exact HR2.out) | refine Blk.alloc ?_ _ | refine Rw.alloc ?_ _ | refine Arg.alloc ?_ _ | apply below_alloc | refine Blk.drew ?_ | refine Rw.drew ?_ | refine Arg.drew ?_ | apply below_drew | refine Blk.drewN ?_ _ | refine Rw.drewN ?_ _ | refine Arg.drewN ?_ _ | apply pw_below_drewN)) q1⟩
    replace HA : Aside0 (Arg u1 n f A) := ⟨Arg.below (by repeat (first | (with_reducible exact HA.out) | refine Blk.alloc ?_ _ | refine Rw.alloc ?_ _ | refine Arg.alloc ?_ _ | apply below_alloc | refine Blk.drew ?_ | refine Rw.drew ?_ | refine Arg.drew ?_ | apply below_drew | refine Blk.drewN ?_ _ | refine Rw.drewN ?_ _ | refine Arg.drewN ?_ _ | apply pw_below_drewN)) q1⟩
    replace HW : Aside0 (Below w.heap.size w u1) := ⟨below_step (by repeat (first | (with_reducible exact HW.out) | refine Blk.alloc ?_ _ | refine Rw.alloc ?_ _ | refine Arg.alloc ?_ _ | apply below_alloc | refine Blk.drew ?_ | refine Rw.drew ?_ | refine Arg.drew ?_ | apply below_drew | refine Blk.drewN ?_ _ | refine Rw.drewN ?_ _ | refine Arg.drewN ?_ _ | apply pw_below_drewN)) q1⟩
    clear q1
    go_wp2
    go_ret
    exact ⟨rfl, HW.out⟩
  · have hn1 : (1048576 : Int) - (n : Int) < 0 := by omega
    rw [if_pos hn1] at HSZ
    clear hA hR ht hv hd hn hn1 hm
    go_enter Try.func6, Try.ntmps6
    go_wp2_with fail
    refine (HSZ.out _).mono ?_
    rintro e w1 ⟨rfl, hb⟩
    replace HW : Aside0 (Below w.heap.size w w1) := ⟨below_step (by repeat (first | (with_reducible exact HW.out) | refine Blk.alloc ?_ _ | refine Rw.alloc ?_ _ | refine Arg.alloc ?_ _ | apply below_alloc | refine Blk.drew ?_ | refine Rw.drew ?_ | refine Arg.drew ?_ | apply below_drew | refine Blk.drewN ?_ _ | refine Rw.drewN ?_ _ | refine Arg.drewN ?_ _ | apply pw_below_drewN)) hb⟩
    clear hb
    go_wp2
    go_ret
    exact ⟨rfl, HW.out⟩

end Go.Proofs.Ytjmnbikaijphlaa.X
