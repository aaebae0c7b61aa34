/- Contracts of functions, and plain facts: what each call answers, and what it leaves as it was. -/
import Derived.Test.YtjmnbikaijphlaaHLast
import Derived.Test.YtjmnbikaijphlaaHOnce
set_option linter.unusedVariables false
set_option linter.unusedSimpArgs false
namespace Go.Proofs.Ytjmnbikaijphlaa.X
open Go.RowKit Go.Proofs.YtjmnbikaijphlaaW.PrintWords Go.Proofs.YtjmnbikaijphlaaW.PrintLast Go.Proofs.YtjmnbikaijphlaaW.PrintMore
attribute [local go_sem] max2_int min2_int max_two min_two max_three min_three max_four min_four
set_option maxHeartbeats 8000000 in
set_option maxRecDepth 100000 in
theorem specLF_no (f N : Nat → Int) (n c g m cN : Nat) (A : Option Addr) (tub every today : Int) (hn : n ≤ 1048576) (hm : (m : Int) ≤ 1048576) (hmc : m ≤ cN) (hR : Rng f n) (ht : -32768 ≤ tub ∧ tub ≤ 32767) (hv : -128 ≤ every ∧ every ≤ 127) (hd : -32768 ≤ today ∧ today ≤ 32767) (hf : houseB f n tub every today = false) (w : World) (hB : Rw w g n f) (hA : NdA w A m N) :
    Calls Try.prog 50 #[.agg #[.slice (some ⟨g, 0, none⟩) n c, .int .i16 tub, .int .i8 every, .int .i16 today], .slice A m cN] w fun e w' => e = .returned (.tuple #[.int .i64 0, .int .i64 1]) ∧ Below w.heap.size w w' := by
  have HB0 : Aside0 (Blk (w.alloc (.cells #[.slice (some ⟨g, 0, none⟩) n c, .int .i16 tub, .int .i8 every, .int .i16 today] 40)) w.heap.size 40 [.slice (some ⟨g, 0, none⟩) n c, .int .i16 tub, .int .i8 every, .int .i16 today]) := ⟨Blk.new w _ _⟩
  have HW : Aside0 (Below w.heap.size w (w.alloc (.cells #[.slice (some ⟨g, 0, none⟩) n c, .int .i16 tub, .int .i8 every, .int .i16 today] 40))) := ⟨below_alloc (Below.refl _ _) _⟩
  have HR0 : Aside0 (Rw (w.alloc (.cells #[.slice (some ⟨g, 0, none⟩) n c, .int .i16 tub, .int .i8 every, .int .i16 today] 40)) g n f) := ⟨hB.alloc _⟩
  have hl0 := hB.lt
  have HAN := Aside0.mk hA
  have HK := Aside0.mk (fun W h h' => l05Ok_calls f n c g w.heap.size tub every today hn hR ht hv hd W h h')
  rw [hf] at HK
  clear hB hA hR ht hv hd hf hn hm hmc
  go_enter Try.func50, Try.ntmps50
  go_wp2_with (fail)
  refine (HK.out _ (by with_reducible repeat (first | exact HB0.out | refine Blk.alloc ?_ _ | refine Rw.alloc ?_ _ | refine Arg.alloc ?_ _ | apply below_alloc | refine Blk.drew ?_ | refine Rw.drew ?_ | refine Arg.drew ?_ | apply below_drew | refine Blk.drewN ?_ _ | refine Rw.drewN ?_ _ | refine Arg.drewN ?_ _ | apply pw_below_drewN)) (by with_reducible repeat (first | exact HR0.out | refine Blk.alloc ?_ _ | refine Rw.alloc ?_ _ | refine Arg.alloc ?_ _ | apply below_alloc | refine Blk.drew ?_ | refine Rw.drew ?_ | refine Arg.drew ?_ | apply below_drew | refine Blk.drewN ?_ _ | refine Rw.drewN ?_ _ | refine Arg.drewN ?_ _ | apply pw_below_drewN))).mono ?_
  rintro e w1 ⟨rfl, hb⟩
  have hs_w1 := Below.size hb
  (try simp at hs_w1)
  replace HB0 : Aside0 (Blk w1 (w.heap.size) 40 [.slice (some ⟨g, 0, none⟩) n c, .int .i16 tub, .int .i8 every, .int .i16 today]) := ⟨Blk.below (by with_reducible repeat (first | exact HB0.out | refine Blk.alloc ?_ _ | refine Rw.alloc ?_ _ | refine Arg.alloc ?_ _ | apply below_alloc | refine Blk.drew ?_ | refine Rw.drew ?_ | refine Arg.drew ?_ | apply below_drew | refine Blk.drewN ?_ _ | refine Rw.drewN ?_ _ | refine Arg.drewN ?_ _ | apply pw_below_drewN)) hb⟩
  replace HR0 : Aside0 (Rw w1 g n f) := ⟨Rw.below (by with_reducible repeat (first | exact HR0.out | refine Blk.alloc ?_ _ | refine Rw.alloc ?_ _ | refine Arg.alloc ?_ _ | apply below_alloc | refine Blk.drew ?_ | refine Rw.drew ?_ | refine Arg.drew ?_ | apply below_drew | refine Blk.drewN ?_ _ | refine Rw.drewN ?_ _ | refine Arg.drewN ?_ _ | apply pw_below_drewN)) hb⟩
  replace HW : Aside0 (Below w.heap.size w w1) := ⟨below_step (by with_reducible repeat (first | exact HW.out | refine Blk.alloc ?_ _ | refine Rw.alloc ?_ _ | refine Arg.alloc ?_ _ | apply below_alloc | refine Blk.drew ?_ | refine Rw.drew ?_ | refine Arg.drew ?_ | apply below_drew | refine Blk.drewN ?_ _ | refine Rw.drewN ?_ _ | refine Arg.drewN ?_ _ | apply pw_below_drewN)) hb⟩
  clear hb
  go_wp2
  go_ret2
  exact ⟨rfl, HW.out⟩
set_option maxHeartbeats 8000000 in
set_option maxRecDepth 100000 in
theorem specLF_bad (f N : Nat → Int) (n c g m cN : Nat) (A : Option Addr) (tub every today : Int) (hn : n ≤ 1048576) (hm : (m : Int) ≤ 1048576) (hmc : m ≤ cN) (hR : Rng f n) (ht : -32768 ≤ tub ∧ tub ≤ 32767) (hv : -128 ≤ every ∧ every ≤ 127) (hd : -32768 ≤ today ∧ today ≤ 32767) (hf : houseB f n tub every today = true) (hb : (needB N m && decide ((m : Int) = (n : Int))) = false) (w : World) (hB : Rw w g n f) (hA : NdA w A m N) :
    Calls Try.prog 50 #[.agg #[.slice (some ⟨g, 0, none⟩) n c, .int .i16 tub, .int .i8 every, .int .i16 today], .slice A m cN] w fun e w' => e = .returned (.tuple #[.int .i64 0, .int .i64 2]) ∧ Below w.heap.size w w' := by
  have HB0 : Aside0 (Blk (w.alloc (.cells #[.slice (some ⟨g, 0, none⟩) n c, .int .i16 tub, .int .i8 every, .int .i16 today] 40)) w.heap.size 40 [.slice (some ⟨g, 0, none⟩) n c, .int .i16 tub, .int .i8 every, .int .i16 today]) := ⟨Blk.new w _ _⟩
  have HW : Aside0 (Below w.heap.size w (w.alloc (.cells #[.slice (some ⟨g, 0, none⟩) n c, .int .i16 tub, .int .i8 every, .int .i16 today] 40))) := ⟨below_alloc (Below.refl _ _) _⟩
  have HR0 : Aside0 (Rw (w.alloc (.cells #[.slice (some ⟨g, 0, none⟩) n c, .int .i16 tub, .int .i8 every, .int .i16 today] 40)) g n f) := ⟨hB.alloc _⟩
  have hl0 := hB.lt
  have HAN := Aside0.mk hA
  have HK := Aside0.mk (fun W h h' => l05Ok_calls f n c g w.heap.size tub every today hn hR ht hv hd W h h')
  rw [hf] at HK
  have HNE := Aside0.mk (fun W h => l05Needs_b N m n A cN (by omega) W h)
  rw [hb] at HNE
  clear hb
  clear hB hA hR ht hv hd hf hn hm hmc
  go_enter Try.func50, Try.ntmps50
  go_wp2_with (fail)
  refine (HK.out _ (by with_reducible repeat (first | exact HB0.out | refine Blk.alloc ?_ _ | refine Rw.alloc ?_ _ | refine Arg.alloc ?_ _ | apply below_alloc | refine Blk.drew ?_ | refine Rw.drew ?_ | refine Arg.drew ?_ | apply below_drew | refine Blk.drewN ?_ _ | refine Rw.drewN ?_ _ | refine Arg.drewN ?_ _ | apply pw_below_drewN)) (by with_reducible repeat (first | exact HR0.out | refine Blk.alloc ?_ _ | refine Rw.alloc ?_ _ | refine Arg.alloc ?_ _ | apply below_alloc | refine Blk.drew ?_ | refine Rw.drew ?_ | refine Arg.drew ?_ | apply below_drew | refine Blk.drewN ?_ _ | refine Rw.drewN ?_ _ | refine Arg.drewN ?_ _ | apply pw_below_drewN))).mono ?_
  rintro e w1 ⟨rfl, hb⟩
  have hs_w1 := Below.size hb
  (try simp at hs_w1)
  replace HB0 : Aside0 (Blk w1 (w.heap.size) 40 [.slice (some ⟨g, 0, none⟩) n c, .int .i16 tub, .int .i8 every, .int .i16 today]) := ⟨Blk.below (by with_reducible repeat (first | exact HB0.out | refine Blk.alloc ?_ _ | refine Rw.alloc ?_ _ | refine Arg.alloc ?_ _ | apply below_alloc | refine Blk.drew ?_ | refine Rw.drew ?_ | refine Arg.drew ?_ | apply below_drew | refine Blk.drewN ?_ _ | refine Rw.drewN ?_ _ | refine Arg.drewN ?_ _ | apply pw_below_drewN)) hb⟩
  replace HR0 : Aside0 (Rw w1 g n f) := ⟨Rw.below (by with_reducible repeat (first | exact HR0.out | refine Blk.alloc ?_ _ | refine Rw.alloc ?_ _ | refine Arg.alloc ?_ _ | apply below_alloc | refine Blk.drew ?_ | refine Rw.drew ?_ | refine Arg.drew ?_ | apply below_drew | refine Blk.drewN ?_ _ | refine Rw.drewN ?_ _ | refine Arg.drewN ?_ _ | apply pw_below_drewN)) hb⟩
  replace HW : Aside0 (Below w.heap.size w w1) := ⟨below_step (by with_reducible repeat (first | exact HW.out | refine Blk.alloc ?_ _ | refine Rw.alloc ?_ _ | refine Arg.alloc ?_ _ | apply below_alloc | refine Blk.drew ?_ | refine Rw.drew ?_ | refine Arg.drew ?_ | apply below_drew | refine Blk.drewN ?_ _ | refine Rw.drewN ?_ _ | refine Arg.drewN ?_ _ | apply pw_below_drewN)) hb⟩
  clear hb
  have c0 := HB0.out.cell 0 (v := .slice (some ⟨g, 0, none⟩) n c) rfl
  go_wp2_with (fail)
  clear c0
  refine (HNE.out _ (HAN.out.below (by with_reducible repeat (first | exact HW.out | refine Blk.alloc ?_ _ | refine Rw.alloc ?_ _ | refine Arg.alloc ?_ _ | apply below_alloc | refine Blk.drew ?_ | refine Rw.drew ?_ | refine Arg.drew ?_ | apply below_drew | refine Blk.drewN ?_ _ | refine Rw.drewN ?_ _ | refine Arg.drewN ?_ _ | apply pw_below_drewN)))).mono ?_
  rintro e w2 ⟨rfl, hb⟩
  have hs_w2 := Below.size hb
  (try simp at hs_w2)
  replace HB0 : Aside0 (Blk w2 (w.heap.size) 40 [.slice (some ⟨g, 0, none⟩) n c, .int .i16 tub, .int .i8 every, .int .i16 today]) := ⟨Blk.below (by with_reducible repeat (first | exact HB0.out | refine Blk.alloc ?_ _ | refine Rw.alloc ?_ _ | refine Arg.alloc ?_ _ | apply below_alloc | refine Blk.drew ?_ | refine Rw.drew ?_ | refine Arg.drew ?_ | apply below_drew | refine Blk.drewN ?_ _ | refine Rw.drewN ?_ _ | refine Arg.drewN ?_ _ | apply pw_below_drewN)) hb⟩
  replace HR0 : Aside0 (Rw w2 g n f) := ⟨Rw.below (by with_reducible repeat (first | exact HR0.out | refine Blk.alloc ?_ _ | refine Rw.alloc ?_ _ | refine Arg.alloc ?_ _ | apply below_alloc | refine Blk.drew ?_ | refine Rw.drew ?_ | refine Arg.drew ?_ | apply below_drew | refine Blk.drewN ?_ _ | refine Rw.drewN ?_ _ | refine Arg.drewN ?_ _ | apply pw_below_drewN)) hb⟩
  replace HW : Aside0 (Below w.heap.size w w2) := ⟨below_step (by with_reducible repeat (first | exact HW.out | refine Blk.alloc ?_ _ | refine Rw.alloc ?_ _ | refine Arg.alloc ?_ _ | apply below_alloc | refine Blk.drew ?_ | refine Rw.drew ?_ | refine Arg.drew ?_ | apply below_drew | refine Blk.drewN ?_ _ | refine Rw.drewN ?_ _ | refine Arg.drewN ?_ _ | apply pw_below_drewN)) hb⟩
  clear hb
  go_wp2
  go_ret2
  exact ⟨rfl, HW.out⟩
set_option maxHeartbeats 8000000 in
set_option maxRecDepth 100000 in
theorem specLF_ok (f N : Nat → Int) (n c g m cN : Nat) (A : Option Addr) (tub every today : Int) (hn : n ≤ 1048576) (hm : (m : Int) ≤ 1048576) (hmc : m ≤ cN) (hR : Rng f n) (ht : -32768 ≤ tub ∧ tub ≤ 32767) (hv : -128 ≤ every ∧ every ≤ 127) (hd : -32768 ≤ today ∧ today ≤ 32767) (hmn : m = n) (hf : houseB f n tub every today = true) (hn4 : 0 < n ∧ n ≤ 4) (hG : Fine f n) (ht1 : 0 ≤ tub ∧ tub ≤ 1000) (hv1 : 1 ≤ every ∧ every ≤ 7) (hN : needB N n = true) (r : Nat) (hr : lastF f N n tub every 60 0 = r) (w : World) (hB : Rw w g n f) (hA : NdA w A m N) :
    Calls Try.prog 50 #[.agg #[.slice (some ⟨g, 0, none⟩) n c, .int .i16 tub, .int .i8 every, .int .i16 today], .slice A m cN] w fun e w' => e = .returned (.tuple #[.int .i64 r, .int .i64 0]) ∧ Below w.heap.size w w' := by
  have HB0 : Aside0 (Blk (w.alloc (.cells #[.slice (some ⟨g, 0, none⟩) n c, .int .i16 tub, .int .i8 every, .int .i16 today] 40)) w.heap.size 40 [.slice (some ⟨g, 0, none⟩) n c, .int .i16 tub, .int .i8 every, .int .i16 today]) := ⟨Blk.new w _ _⟩
  have HW : Aside0 (Below w.heap.size w (w.alloc (.cells #[.slice (some ⟨g, 0, none⟩) n c, .int .i16 tub, .int .i8 every, .int .i16 today] 40))) := ⟨below_alloc (Below.refl _ _) _⟩
  have HR0 : Aside0 (Rw (w.alloc (.cells #[.slice (some ⟨g, 0, none⟩) n c, .int .i16 tub, .int .i8 every, .int .i16 today] 40)) g n f) := ⟨hB.alloc _⟩
  have hl0 := hB.lt
  have HAN := Aside0.mk hA
  subst hmn
  obtain ⟨gN, rfl, hNd⟩ := hA (by omega)
  have HNd := Aside0.mk hNd
  have hgN := hNd.1
  have hNk := (needB_iff N m).1 hN
  have HK := Aside0.mk (fun W h h' => l05Ok_calls f m c g w.heap.size tub every today hn hR ht hv hd W h h')
  rw [hf] at HK
  have HOW := Aside0.mk (fun W h h' => l05Own_calls f m c g w.heap.size tub every today hn4 W h h')
  have HNE := Aside0.mk (fun W h => l05Needs_b N m m (some ⟨gN, 0, none⟩) cN (by omega) W h)
  rw [show (needB N m && decide ((m : Int) = (m : Int))) = true by rw [hN, decide_eq_true rfl]; rfl] at HNE
  have HDY : Aside0 (∀ (hb g1 c1 gN k : Nat), gN ≠ g1 → gN ≠ hb → hb ≠ g1 → k < 60 → ∀ W, Blk W hb 40 (hcells (some ⟨g1, 0, none⟩) m c1 tub every (k : Int)) → Rw W g1 m (lfF f N m tub every k) → Nd W gN m N → _) := ⟨fun hb g1 c1 gN k h1 h2 h3 hk W hH hB hNd => l05Day_nd (lfF f N m tub every k) N m c1 g1 hb gN cN tub every k hn4 (lfF_fine hG (fun k hk => (hNk k hk).1) ht1.1 k) hN ht1 hv1 ⟨by omega, by omega⟩ h1 h2 h3 W hH hB hNd⟩
  have HRR := Aside0.mk hr
  clear hB hA hR ht hv hd hf hn hm hmc hG ht1 hv1 hN hNd hNk hr
  go_enter Try.func50, Try.ntmps50
  go_wp2_with (fail)
  refine (HK.out _ (by with_reducible repeat (first | exact HB0.out | refine Blk.alloc ?_ _ | refine Rw.alloc ?_ _ | refine Arg.alloc ?_ _ | apply below_alloc | refine Blk.drew ?_ | refine Rw.drew ?_ | refine Arg.drew ?_ | apply below_drew | refine Blk.drewN ?_ _ | refine Rw.drewN ?_ _ | refine Arg.drewN ?_ _ | apply pw_below_drewN)) (by with_reducible repeat (first | exact HR0.out | refine Blk.alloc ?_ _ | refine Rw.alloc ?_ _ | refine Arg.alloc ?_ _ | apply below_alloc | refine Blk.drew ?_ | refine Rw.drew ?_ | refine Arg.drew ?_ | apply below_drew | refine Blk.drewN ?_ _ | refine Rw.drewN ?_ _ | refine Arg.drewN ?_ _ | apply pw_below_drewN))).mono ?_
  rintro e w1 ⟨rfl, hb⟩
  have hs_w1 := Below.size hb
  (try simp at hs_w1)
  replace HB0 : Aside0 (Blk w1 (w.heap.size) 40 [.slice (some ⟨g, 0, none⟩) m c, .int .i16 tub, .int .i8 every, .int .i16 today]) := ⟨Blk.below (by with_reducible repeat (first | exact HB0.out | refine Blk.alloc ?_ _ | refine Rw.alloc ?_ _ | refine Arg.alloc ?_ _ | apply below_alloc | refine Blk.drew ?_ | refine Rw.drew ?_ | refine Arg.drew ?_ | apply below_drew | refine Blk.drewN ?_ _ | refine Rw.drewN ?_ _ | refine Arg.drewN ?_ _ | apply pw_below_drewN)) hb⟩
  replace HR0 : Aside0 (Rw w1 g m f) := ⟨Rw.below (by with_reducible repeat (first | exact HR0.out | refine Blk.alloc ?_ _ | refine Rw.alloc ?_ _ | refine Arg.alloc ?_ _ | apply below_alloc | refine Blk.drew ?_ | refine Rw.drew ?_ | refine Arg.drew ?_ | apply below_drew | refine Blk.drewN ?_ _ | refine Rw.drewN ?_ _ | refine Arg.drewN ?_ _ | apply pw_below_drewN)) hb⟩
  replace HW : Aside0 (Below w.heap.size w w1) := ⟨below_step (by with_reducible repeat (first | exact HW.out | refine Blk.alloc ?_ _ | refine Rw.alloc ?_ _ | refine Arg.alloc ?_ _ | apply below_alloc | refine Blk.drew ?_ | refine Rw.drew ?_ | refine Arg.drew ?_ | apply below_drew | refine Blk.drewN ?_ _ | refine Rw.drewN ?_ _ | refine Arg.drewN ?_ _ | apply pw_below_drewN)) hb⟩
  clear hb
  have c0 := HB0.out.cell 0 (v := .slice (some ⟨g, 0, none⟩) m c) rfl
  go_wp2_with (fail)
  clear c0
  refine (HNE.out _ (HAN.out.below (by with_reducible repeat (first | exact HW.out | refine Blk.alloc ?_ _ | refine Rw.alloc ?_ _ | refine Arg.alloc ?_ _ | apply below_alloc | refine Blk.drew ?_ | refine Rw.drew ?_ | refine Arg.drew ?_ | apply below_drew | refine Blk.drewN ?_ _ | refine Rw.drewN ?_ _ | refine Arg.drewN ?_ _ | apply pw_below_drewN)))).mono ?_
  rintro e w2 ⟨rfl, hb⟩
  have hs_w2 := Below.size hb
  (try simp at hs_w2)
  replace HB0 : Aside0 (Blk w2 (w.heap.size) 40 [.slice (some ⟨g, 0, none⟩) m c, .int .i16 tub, .int .i8 every, .int .i16 today]) := ⟨Blk.below (by with_reducible repeat (first | exact HB0.out | refine Blk.alloc ?_ _ | refine Rw.alloc ?_ _ | refine Arg.alloc ?_ _ | apply below_alloc | refine Blk.drew ?_ | refine Rw.drew ?_ | refine Arg.drew ?_ | apply below_drew | refine Blk.drewN ?_ _ | refine Rw.drewN ?_ _ | refine Arg.drewN ?_ _ | apply pw_below_drewN)) hb⟩
  replace HR0 : Aside0 (Rw w2 g m f) := ⟨Rw.below (by with_reducible repeat (first | exact HR0.out | refine Blk.alloc ?_ _ | refine Rw.alloc ?_ _ | refine Arg.alloc ?_ _ | apply below_alloc | refine Blk.drew ?_ | refine Rw.drew ?_ | refine Arg.drew ?_ | apply below_drew | refine Blk.drewN ?_ _ | refine Rw.drewN ?_ _ | refine Arg.drewN ?_ _ | apply pw_below_drewN)) hb⟩
  replace HW : Aside0 (Below w.heap.size w w2) := ⟨below_step (by with_reducible repeat (first | exact HW.out | refine Blk.alloc ?_ _ | refine Rw.alloc ?_ _ | refine Arg.alloc ?_ _ | apply below_alloc | refine Blk.drew ?_ | refine Rw.drew ?_ | refine Arg.drew ?_ | apply below_drew | refine Blk.drewN ?_ _ | refine Rw.drewN ?_ _ | refine Arg.drewN ?_ _ | apply pw_below_drewN)) hb⟩
  clear hb
  go_wp2_with (fail)
  refine (HOW.out _ (by with_reducible repeat (first | exact HB0.out | refine Blk.alloc ?_ _ | refine Rw.alloc ?_ _ | refine Arg.alloc ?_ _ | apply below_alloc | refine Blk.drew ?_ | refine Rw.drew ?_ | refine Arg.drew ?_ | apply below_drew | refine Blk.drewN ?_ _ | refine Rw.drewN ?_ _ | refine Arg.drewN ?_ _ | apply pw_below_drewN)) (by with_reducible repeat (first | exact HR0.out | refine Blk.alloc ?_ _ | refine Rw.alloc ?_ _ | refine Arg.alloc ?_ _ | apply below_alloc | refine Blk.drew ?_ | refine Rw.drew ?_ | refine Arg.drew ?_ | apply below_drew | refine Blk.drewN ?_ _ | refine Rw.drewN ?_ _ | refine Arg.drewN ?_ _ | apply pw_below_drewN))).mono ?_
  rintro e w3 ⟨g1, c1, rfl, hg_, hR_, hb⟩
  have lo_g1 := hg_
  (try simp at lo_g1)
  have hi_g1 := Rw.lt hR_
  have hs_w3 := Below.size hb
  (try simp at hs_w3)
  replace HB0 : Aside0 (Blk w3 (w.heap.size) 40 [.slice (some ⟨g, 0, none⟩) m c, .int .i16 tub, .int .i8 every, .int .i16 today]) := ⟨Blk.below (by with_reducible repeat (first | exact HB0.out | refine Blk.alloc ?_ _ | refine Rw.alloc ?_ _ | refine Arg.alloc ?_ _ | apply below_alloc | refine Blk.drew ?_ | refine Rw.drew ?_ | refine Arg.drew ?_ | apply below_drew | refine Blk.drewN ?_ _ | refine Rw.drewN ?_ _ | refine Arg.drewN ?_ _ | apply pw_below_drewN)) hb⟩
  replace HR0 : Aside0 (Rw w3 g m f) := ⟨Rw.below (by with_reducible repeat (first | exact HR0.out | refine Blk.alloc ?_ _ | refine Rw.alloc ?_ _ | refine Arg.alloc ?_ _ | apply below_alloc | refine Blk.drew ?_ | refine Rw.drew ?_ | refine Arg.drew ?_ | apply below_drew | refine Blk.drewN ?_ _ | refine Rw.drewN ?_ _ | refine Arg.drewN ?_ _ | apply pw_below_drewN)) hb⟩
  replace HW : Aside0 (Below w.heap.size w w3) := ⟨below_step (by with_reducible repeat (first | exact HW.out | refine Blk.alloc ?_ _ | refine Rw.alloc ?_ _ | refine Arg.alloc ?_ _ | apply below_alloc | refine Blk.drew ?_ | refine Rw.drew ?_ | refine Arg.drew ?_ | apply below_drew | refine Blk.drewN ?_ _ | refine Rw.drewN ?_ _ | refine Arg.drewN ?_ _ | apply pw_below_drewN)) hb⟩
  clear hb
  have HR1 := Aside0.mk hR_
  clear hR_ hg_
  go_wp2_with fail
  obtain ⟨hb, hhb⟩ : ∃ hb, w3.heap.size = hb := ⟨_, rfl⟩
  have HX : Aside0 (Blk (w3.alloc (.cells #[.slice (some ⟨g1, 0, none⟩) m c1, .int .i16 tub, .int .i8 every, .int .i16 0] 40)) hb 40 (hcells (some ⟨g1, 0, none⟩) m c1 tub every ((0 : Nat) : Int))) := ⟨by subst hhb; exact Blk.new _ _ _⟩
  have hq1 : gN ≠ g1 := by omega
  have hq2 : gN ≠ hb := by omega
  have hq3 : hb ≠ g1 := by omega
  have hwb : w.heap.size ≤ hb := by omega
  have hwg : w.heap.size ≤ g1 := by omega
  rw [hhb]
  have HR2 : Aside0 (Rw (w3.alloc (.cells #[.slice (some ⟨g1, 0, none⟩) m c1, .int .i16 tub, .int .i8 every, .int .i16 0] 40)) g1 m (lfF f N m tub every 0)) := ⟨HR1.out.alloc _⟩
  have HD2 : Aside0 (Nd (w3.alloc (.cells #[.slice (some ⟨g1, 0, none⟩) m c1, .int .i16 tub, .int .i8 every, .int .i16 0] 40)) gN m N) := ⟨(HNd.out.below HW.out).alloc _⟩
  replace HW : Aside0 (Below w.heap.size w (w3.alloc (.cells #[.slice (some ⟨g1, 0, none⟩) m c1, .int .i16 tub, .int .i8 every, .int .i16 0] 40))) := ⟨below_alloc HW.out _⟩
  clear HB0 HR0 HR1 hhb HNE HOW HK HNd HAN lo_g1 hi_g1 hs_w1 hs_w2 hs_w3
  go_loopw [7] (fun v7 w' => ∃ k : Nat, k ≤ 60 ∧ v7 = .int .i64 k ∧ Aside0 (lastF f N m tub every (60 - k) k = r) ∧ Aside0 (Rw w' g1 m (lfF f N m tub every k)) ∧ Aside0 (Blk w' hb 40 (hcells (some ⟨g1, 0, none⟩) m c1 tub every (k : Int))) ∧ Aside0 (Nd w' gN m N) ∧ Aside0 (Below w.heap.size w w')) (fun v7 _ => 60 - (intOf v7).toNat)
  case atStart => exact ⟨0, by omega, rfl, HRR, HR2, HX, HD2, HW⟩
  case round =>
    clear HRR HR2 HX HD2 HW
    obtain ⟨k, hk, rfl, HRR, HR, HH, HD, HW⟩ := hrel
    obtain ⟨wo, rfl⟩ : ∃ wo : World, wo = wr := ⟨_, rfl⟩
    by_cases hlt : k < 60
    · have HC := Aside0.mk (HDY.out hb g1 c1 gN k hq1 hq2 hq3 hlt)
      have hki : (k : Int) < 60 := by omega
      have HP : Aside0 (posB (shL (lfF f N m tub every k) N m) = true → r = k) := ⟨lastF_yes hlt HRR.out⟩
      have HQ : Aside0 (posB (shL (lfF f N m tub every k) N m) = false → lastF f N m tub every (60 - (k + 1)) (k + 1) = r) := ⟨lastF_no hlt HRR.out⟩
      have HLL : Aside0 ((shL (lfF f N m tub every k) N m).length = m) := ⟨shL_len _ _ _⟩
      have HF : Aside0 (lfF f N m tub every (k + 1) = dayF (lfF f N m tub every k) N m tub every k) := ⟨rfl⟩
      generalize shL (lfF f N m tub every k) N m = Ls at *
      go_wp2_with fail
      refine (HC.out _ HH.out HR.out HD.out).mono ?_
      rintro e w5 ⟨gv, cv, S, rfl, hV_, hS_, hR_, hH_, hk_⟩
      have HV := Aside0.mk hV_
      have HS := Aside0.mk hS_
      have HR5 : Aside0 (Rw w5 g1 m (lfF f N m tub every (k + 1))) := ⟨by rw [HF.out]; exact hR_⟩
      have HH5 : Aside0 (Blk w5 hb 40 (hcells (some ⟨g1, 0, none⟩) m c1 tub every ((k : Int) + 1))) := ⟨hH_⟩
      have HD5 : Aside0 (Nd w5 gN m N) := ⟨HD.out.kept hk_.2 (by rintro (h_ | h_) <;> omega)⟩
      have HW5 : Aside0 (Below w.heap.size w w5) := ⟨below_kept HW.out hk_ (by rintro k_ (rfl | rfl) <;> omega)⟩
      clear hV_ hS_ hR_ hH_ hk_ HR HH HD HW HC
      have hk9 : IntKind.i64.wrap ((k : Int) + 1) = (k : Int) + 1 := IntWalk.i64_in _ ⟨by omega, by omega⟩
      go_wp2
      go_loop [10] (fun v10 => ∃ j : Nat, j ≤ m ∧ v10 = .int .i64 j ∧ Aside0 (∀ i, i < j → S i ≤ 0)) (fun v10 => m - (intOf v10).toNat)
      case atStart => exact ⟨0, by omega, rfl, ⟨fun i hi => by omega⟩⟩
      case round =>
        obtain ⟨j, hj, rfl, HZ⟩ := hrel
        by_cases hlj : j < m
        · have cn := HV.out.at (k := j) (j := j) hlj rfl
          have hj9 : IntKind.i64.wrap ((j : Int) + 1) = (j : Int) + 1 := IntWalk.i64_in _ ⟨by omega, by omega⟩
          by_cases hp : 0 < S j
          · have HPP : Aside0 (posB Ls = true) := ⟨posB_yes (i := j) (by rw [HLL.out]; exact hlj) (by rw [← HS.out]; exact hp)⟩
            go_wp2
            go_ret2
            exact ⟨by rw [HP.out HPP.out]; rfl, HW5.out⟩
          · have HZ2 : Aside0 (∀ i, i < j + 1 → S i ≤ 0) := ⟨fun i hi => by rcases Nat.lt_or_ge i j with h | h; exact HZ.out i h; (have : i = j := by omega); subst this; omega⟩
            go_wp2
            go_round
            case rel => exact ⟨j + 1, by omega, by go_num, HZ2⟩
            case measure => simp [intOf] <;> omega
        · have HNN : Aside0 (posB Ls = false) := ⟨posB_no (fun i hi => by rw [← HS.out]; exact HZ.out i (by rw [HLL.out] at hi; omega))⟩
          go_wp2
          go_roundw
          case rel => exact ⟨k + 1, by omega, by go_num, ⟨HQ.out HNN.out⟩, HR5, ⟨by push_cast; exact HH5.out⟩, HD5, HW5⟩
          case measure => simp [intOf] <;> omega
    · have ek : k = 60 := by omega
      subst ek
      have HE : Aside0 (r = 60) := ⟨HRR.out.symm⟩
      go_wp2
      go_ret2
      exact ⟨by rw [HE.out]; rfl, HW.out⟩
set_option maxHeartbeats 8000000 in
set_option maxRecDepth 100000 in
theorem implLF_bad (f N : Nat → Int) (n c g m cN : Nat) (A : Option Addr) (tub every today : Int) (hn : n ≤ 1048576) (hm : (m : Int) ≤ 1048576) (hmc : m ≤ cN) (hR : Rng f n) (ht : -32768 ≤ tub ∧ tub ≤ 32767) (hv : -128 ≤ every ∧ every ≤ 127) (hd : -32768 ≤ today ∧ today ≤ 32767) (code : Int) (hcode : firstL [if houseB f n tub every today = true then 0 else 1, if (needB N m && decide ((m : Int) = (n : Int))) = true then 0 else 2] = code) (hc0 : code ≠ 0) (w : World) (hB : Rw w g n f) (hA : NdA w A m N) :
    Calls Try.prog 51 #[.agg #[.slice (some ⟨g, 0, none⟩) n c, .int .i16 tub, .int .i8 every, .int .i16 today], .slice A m cN] w fun e w' => e = .returned (.tuple #[.int .i64 0, .int .i64 code]) ∧ Below w.heap.size w w' := by
  have HB0 : Aside0 (Blk (w.alloc (.cells #[.slice (some ⟨g, 0, none⟩) n c, .int .i16 tub, .int .i8 every, .int .i16 today] 40)) w.heap.size 40 [.slice (some ⟨g, 0, none⟩) n c, .int .i16 tub, .int .i8 every, .int .i16 today]) := ⟨Blk.new w _ _⟩
  have HW : Aside0 (Below w.heap.size w (w.alloc (.cells #[.slice (some ⟨g, 0, none⟩) n c, .int .i16 tub, .int .i8 every, .int .i16 today] 40))) := ⟨below_alloc (Below.refl _ _) _⟩
  have HR0 : Aside0 (Rw (w.alloc (.cells #[.slice (some ⟨g, 0, none⟩) n c, .int .i16 tub, .int .i8 every, .int .i16 today] 40)) g n f) := ⟨hB.alloc _⟩
  have hl0 := hB.lt
  have HAN := Aside0.mk hA
  have HVH := Aside0.mk (fun W h => implVH_calls f n c g tub every today hn hR ht hv hd W h)
  have HUN := Aside0.mk (fun W => unless_q (houseB f n tub every today) 1 W)
  have HDC := Aside0.mk (fun W h h' => needCode_calls N m n c g w.heap.size cN A tub every today (by omega) hmc W h h')
  have HFO := Aside0.mk (fun W gg => firstOf_two1 (if houseB f n tub every today = true then 0 else 1) (if (needB N m && decide ((m : Int) = (n : Int))) = true then 0 else 2) gg W)
  rw [hcode] at HFO
  generalize (if houseB f n tub every today = true then (0 : Int) else 1) = r1 at *
  generalize (if (needB N m && decide ((m : Int) = (n : Int))) = true then (0 : Int) else 2) = r2 at *
  generalize houseB f n tub every today = okb at *
  have hc1 : (code != 0) = true := by simpa using hc0
  have hc2 : (code == 0) = false := by simpa using hc0
  have hc3 : decide (code = 0) = false := decide_eq_false hc0
  clear hB hA hR ht hv hd hn hm hmc hcode hc0
  go_enter Try.func51, Try.ntmps51
  go_wp2_with (first | (refine wl_load (by rfl) 40 _ (by rfl) (w.heap.size) 0 (by rfl) 40 4 [.slice (some ⟨g, 0, none⟩) n c, .int .i16 tub, .int .i8 every, .int .i16 today] [.slice (some ⟨g, 0, none⟩) n c, .int .i16 tub, .int .i8 every, .int .i16 today] (by with_reducible repeat (first | exact HB0.out | refine Blk.alloc ?_ _ | refine Rw.alloc ?_ _ | refine Arg.alloc ?_ _ | apply below_alloc | refine Blk.drew ?_ | refine Rw.drew ?_ | refine Arg.drew ?_ | apply below_drew | refine Blk.drewN ?_ _ | refine Rw.drewN ?_ _ | refine Arg.drewN ?_ _ | apply pw_below_drewN)) (by rfl) (by rfl) _ Try.underlying40 (by rfl) (by kernel_rfl) ?_))
  refine (HVH.out _ (by with_reducible repeat (first | exact HR0.out | refine Blk.alloc ?_ _ | refine Rw.alloc ?_ _ | refine Arg.alloc ?_ _ | apply below_alloc | refine Blk.drew ?_ | refine Rw.drew ?_ | refine Arg.drew ?_ | apply below_drew | refine Blk.drewN ?_ _ | refine Rw.drewN ?_ _ | refine Arg.drewN ?_ _ | apply pw_below_drewN))).mono ?_
  rintro e w1 ⟨rfl, hb⟩
  have hs_w1 := Below.size hb
  (try simp at hs_w1)
  replace HB0 : Aside0 (Blk w1 (w.heap.size) 40 [.slice (some ⟨g, 0, none⟩) n c, .int .i16 tub, .int .i8 every, .int .i16 today]) := ⟨Blk.below (by with_reducible repeat (first | exact HB0.out | refine Blk.alloc ?_ _ | refine Rw.alloc ?_ _ | refine Arg.alloc ?_ _ | apply below_alloc | refine Blk.drew ?_ | refine Rw.drew ?_ | refine Arg.drew ?_ | apply below_drew | refine Blk.drewN ?_ _ | refine Rw.drewN ?_ _ | refine Arg.drewN ?_ _ | apply pw_below_drewN)) hb⟩
  replace HR0 : Aside0 (Rw w1 g n f) := ⟨Rw.below (by with_reducible repeat (first | exact HR0.out | refine Blk.alloc ?_ _ | refine Rw.alloc ?_ _ | refine Arg.alloc ?_ _ | apply below_alloc | refine Blk.drew ?_ | refine Rw.drew ?_ | refine Arg.drew ?_ | apply below_drew | refine Blk.drewN ?_ _ | refine Rw.drewN ?_ _ | refine Arg.drewN ?_ _ | apply pw_below_drewN)) hb⟩
  replace HW : Aside0 (Below w.heap.size w w1) := ⟨below_step (by with_reducible repeat (first | exact HW.out | refine Blk.alloc ?_ _ | refine Rw.alloc ?_ _ | refine Arg.alloc ?_ _ | apply below_alloc | refine Blk.drew ?_ | refine Rw.drew ?_ | refine Arg.drew ?_ | apply below_drew | refine Blk.drewN ?_ _ | refine Rw.drewN ?_ _ | refine Arg.drewN ?_ _ | apply pw_below_drewN)) hb⟩
  clear hb
  go_wp2_with (go_at_call 84; refine (HUN.out _).mono ?_; rintro e w' ⟨rfl, rfl⟩)
  refine (HDC.out _ (by with_reducible repeat (first | exact HB0.out | refine Blk.alloc ?_ _ | refine Rw.alloc ?_ _ | refine Arg.alloc ?_ _ | apply below_alloc | refine Blk.drew ?_ | refine Rw.drew ?_ | refine Arg.drew ?_ | apply below_drew | refine Blk.drewN ?_ _ | refine Rw.drewN ?_ _ | refine Arg.drewN ?_ _ | apply pw_below_drewN)) (HAN.out.below (by with_reducible repeat (first | exact HW.out | refine Blk.alloc ?_ _ | refine Rw.alloc ?_ _ | refine Arg.alloc ?_ _ | apply below_alloc | refine Blk.drew ?_ | refine Rw.drew ?_ | refine Arg.drew ?_ | apply below_drew | refine Blk.drewN ?_ _ | refine Rw.drewN ?_ _ | refine Arg.drewN ?_ _ | apply pw_below_drewN)))).mono ?_
  rintro e w2 ⟨rfl, hb⟩
  have hs_w2 := Below.size hb
  (try simp at hs_w2)
  replace HB0 : Aside0 (Blk w2 (w.heap.size) 40 [.slice (some ⟨g, 0, none⟩) n c, .int .i16 tub, .int .i8 every, .int .i16 today]) := ⟨Blk.below (by with_reducible repeat (first | exact HB0.out | refine Blk.alloc ?_ _ | refine Rw.alloc ?_ _ | refine Arg.alloc ?_ _ | apply below_alloc | refine Blk.drew ?_ | refine Rw.drew ?_ | refine Arg.drew ?_ | apply below_drew | refine Blk.drewN ?_ _ | refine Rw.drewN ?_ _ | refine Arg.drewN ?_ _ | apply pw_below_drewN)) hb⟩
  replace HR0 : Aside0 (Rw w2 g n f) := ⟨Rw.below (by with_reducible repeat (first | exact HR0.out | refine Blk.alloc ?_ _ | refine Rw.alloc ?_ _ | refine Arg.alloc ?_ _ | apply below_alloc | refine Blk.drew ?_ | refine Rw.drew ?_ | refine Arg.drew ?_ | apply below_drew | refine Blk.drewN ?_ _ | refine Rw.drewN ?_ _ | refine Arg.drewN ?_ _ | apply pw_below_drewN)) hb⟩
  replace HW : Aside0 (Below w.heap.size w w2) := ⟨below_step (by with_reducible repeat (first | exact HW.out | refine Blk.alloc ?_ _ | refine Rw.alloc ?_ _ | refine Arg.alloc ?_ _ | apply below_alloc | refine Blk.drew ?_ | refine Rw.drew ?_ | refine Arg.drew ?_ | apply below_drew | refine Blk.drewN ?_ _ | refine Rw.drewN ?_ _ | refine Arg.drewN ?_ _ | apply pw_below_drewN)) hb⟩
  clear hb
  go_wp2_with fail
  refine (HFO.out _ _ (fun j hj => by match j, hj with | 0, _ => (first | rfl | (simp; done)) | 1, _ => (first | rfl | (simp; done)))).mono ?_
  rintro e w3 ⟨rfl, hb⟩
  have hs_w3 := Below.size hb
  (try simp at hs_w3)
  replace HB0 : Aside0 (Blk w3 (w.heap.size) 40 [.slice (some ⟨g, 0, none⟩) n c, .int .i16 tub, .int .i8 every, .int .i16 today]) := ⟨Blk.below (by with_reducible repeat (first | exact HB0.out | refine Blk.alloc ?_ _ | refine Rw.alloc ?_ _ | refine Arg.alloc ?_ _ | apply below_alloc | refine Blk.drew ?_ | refine Rw.drew ?_ | refine Arg.drew ?_ | apply below_drew | refine Blk.drewN ?_ _ | refine Rw.drewN ?_ _ | refine Arg.drewN ?_ _ | apply pw_below_drewN)) hb⟩
  replace HR0 : Aside0 (Rw w3 g n f) := ⟨Rw.below (by with_reducible repeat (first | exact HR0.out | refine Blk.alloc ?_ _ | refine Rw.alloc ?_ _ | refine Arg.alloc ?_ _ | apply below_alloc | refine Blk.drew ?_ | refine Rw.drew ?_ | refine Arg.drew ?_ | apply below_drew | refine Blk.drewN ?_ _ | refine Rw.drewN ?_ _ | refine Arg.drewN ?_ _ | apply pw_below_drewN)) hb⟩
  replace HW : Aside0 (Below w.heap.size w w3) := ⟨below_step (by with_reducible repeat (first | exact HW.out | refine Blk.alloc ?_ _ | refine Rw.alloc ?_ _ | refine Arg.alloc ?_ _ | apply below_alloc | refine Blk.drew ?_ | refine Rw.drew ?_ | refine Arg.drew ?_ | apply below_drew | refine Blk.drewN ?_ _ | refine Rw.drewN ?_ _ | refine Arg.drewN ?_ _ | apply pw_below_drewN)) hb⟩
  clear hb
  go_wp2
  go_ret2
  exact ⟨rfl, HW.out⟩
set_option maxHeartbeats 8000000 in
set_option maxRecDepth 100000 in
theorem implLF_ok (f N : Nat → Int) (n c g m cN : Nat) (A : Option Addr) (tub every today : Int) (hn : n ≤ 1048576) (hm : (m : Int) ≤ 1048576) (hmc : m ≤ cN) (hR : Rng f n) (ht : -32768 ≤ tub ∧ tub ≤ 32767) (hv : -128 ≤ every ∧ every ≤ 127) (hd : -32768 ≤ today ∧ today ≤ 32767) (hmn : m = n) (hf : houseB f n tub every today = true) (hn4 : 0 < n ∧ n ≤ 4) (hG : Fine f n) (ht1 : 0 ≤ tub ∧ tub ≤ 1000) (hv1 : 1 ≤ every ∧ every ≤ 7) (hN : needB N n = true) (r : Nat) (hr : lastF f N n tub every 60 0 = r) (hcode : firstL [if houseB f n tub every today = true then 0 else 1, if (needB N m && decide ((m : Int) = (n : Int))) = true then 0 else 2] = 0) (w : World) (hB : Rw w g n f) (hA : NdA w A m N) :
    Calls Try.prog 51 #[.agg #[.slice (some ⟨g, 0, none⟩) n c, .int .i16 tub, .int .i8 every, .int .i16 today], .slice A m cN] w fun e w' => e = .returned (.tuple #[.int .i64 r, .int .i64 0]) ∧ Below w.heap.size w w' := by
  have HB0 : Aside0 (Blk (w.alloc (.cells #[.slice (some ⟨g, 0, none⟩) n c, .int .i16 tub, .int .i8 every, .int .i16 today] 40)) w.heap.size 40 [.slice (some ⟨g, 0, none⟩) n c, .int .i16 tub, .int .i8 every, .int .i16 today]) := ⟨Blk.new w _ _⟩
  have HW : Aside0 (Below w.heap.size w (w.alloc (.cells #[.slice (some ⟨g, 0, none⟩) n c, .int .i16 tub, .int .i8 every, .int .i16 today] 40))) := ⟨below_alloc (Below.refl _ _) _⟩
  have HR0 : Aside0 (Rw (w.alloc (.cells #[.slice (some ⟨g, 0, none⟩) n c, .int .i16 tub, .int .i8 every, .int .i16 today] 40)) g n f) := ⟨hB.alloc _⟩
  have hl0 := hB.lt
  have HAN := Aside0.mk hA
  subst hmn
  obtain ⟨gN, rfl, hNd⟩ := hA (by omega)
  have HNd := Aside0.mk hNd
  have hgN := hNd.1
  have hNk := (needB_iff N m).1 hN
  have HOW := Aside0.mk (fun W h => own_calls f m c g tub every today hn4 W h)
  have HDY : Aside0 (∀ (hb g1 c1 gN k : Nat), gN ≠ g1 → gN ≠ hb → hb ≠ g1 → k < 60 → ∀ W, Blk W hb 40 (hcells (some ⟨g1, 0, none⟩) m c1 tub every (k : Int)) → Rw W g1 m (lfF f N m tub every k) → Nd W gN m N → _) := ⟨fun hb g1 c1 gN k h1 h2 h3 hk W hH hB hNd => day_ir (lfF f N m tub every k) N m c1 g1 hb gN cN tub every k hn4 (lfF_fine hG (fun k hk => (hNk k hk).1) ht1.1 k) hN ht1 hv1 ⟨by omega, by omega⟩ h1 h2 h3 W hH hB hNd⟩
  have HMM : Aside0 (∀ k, ∀ x ∈ shL (lfF f N m tub every k) N m, 0 ≤ x ∧ x ≤ 500) := ⟨fun k => shL_mem (lfF_fine hG (fun k hk => (hNk k hk).1) ht1.1 k) hNk m (Nat.le_refl m)⟩
  have hm4 : m ≤ 4 := hn4.2
  have HRR := Aside0.mk hr
  have HVH := Aside0.mk (fun W h => implVH_calls f m c g tub every today hn hR ht hv hd W h)
  have HUN := Aside0.mk (fun W => unless_q (houseB f m tub every today) 1 W)
  have HDC := Aside0.mk (fun W h h' => needCode_calls N m m c g w.heap.size cN (some ⟨gN, 0, none⟩) tub every today (by omega) hmc W h h')
  have HFO := Aside0.mk (fun W gg => firstOf_two1 (if houseB f m tub every today = true then 0 else 1) (if (needB N m && decide ((m : Int) = (m : Int))) = true then 0 else 2) gg W)
  rw [hcode] at HFO
  generalize (if houseB f m tub every today = true then (0 : Int) else 1) = r1 at *
  generalize (if (needB N m && decide ((m : Int) = (m : Int))) = true then (0 : Int) else 2) = r2 at *
  generalize houseB f m tub every today = okb at *
  clear hB hA hR ht hv hd hf hn hm hmc hG ht1 hv1 hN hNd hNk hr hcode
  go_enter Try.func51, Try.ntmps51
  go_wp2_with (first | (refine wl_load (by rfl) 40 _ (by rfl) (w.heap.size) 0 (by rfl) 40 4 [.slice (some ⟨g, 0, none⟩) m c, .int .i16 tub, .int .i8 every, .int .i16 today] [.slice (some ⟨g, 0, none⟩) m c, .int .i16 tub, .int .i8 every, .int .i16 today] (by with_reducible repeat (first | exact HB0.out | refine Blk.alloc ?_ _ | refine Rw.alloc ?_ _ | refine Arg.alloc ?_ _ | apply below_alloc | refine Blk.drew ?_ | refine Rw.drew ?_ | refine Arg.drew ?_ | apply below_drew | refine Blk.drewN ?_ _ | refine Rw.drewN ?_ _ | refine Arg.drewN ?_ _ | apply pw_below_drewN)) (by rfl) (by rfl) _ Try.underlying40 (by rfl) (by kernel_rfl) ?_))
  refine (HVH.out _ (by with_reducible repeat (first | exact HR0.out | refine Blk.alloc ?_ _ | refine Rw.alloc ?_ _ | refine Arg.alloc ?_ _ | apply below_alloc | refine Blk.drew ?_ | refine Rw.drew ?_ | refine Arg.drew ?_ | apply below_drew | refine Blk.drewN ?_ _ | refine Rw.drewN ?_ _ | refine Arg.drewN ?_ _ | apply pw_below_drewN))).mono ?_
  rintro e w1 ⟨rfl, hb⟩
  have hs_w1 := Below.size hb
  (try simp at hs_w1)
  replace HB0 : Aside0 (Blk w1 (w.heap.size) 40 [.slice (some ⟨g, 0, none⟩) m c, .int .i16 tub, .int .i8 every, .int .i16 today]) := ⟨Blk.below (by with_reducible repeat (first | exact HB0.out | refine Blk.alloc ?_ _ | refine Rw.alloc ?_ _ | refine Arg.alloc ?_ _ | apply below_alloc | refine Blk.drew ?_ | refine Rw.drew ?_ | refine Arg.drew ?_ | apply below_drew | refine Blk.drewN ?_ _ | refine Rw.drewN ?_ _ | refine Arg.drewN ?_ _ | apply pw_below_drewN)) hb⟩
  replace HR0 : Aside0 (Rw w1 g m f) := ⟨Rw.below (by with_reducible repeat (first | exact HR0.out | refine Blk.alloc ?_ _ | refine Rw.alloc ?_ _ | refine Arg.alloc ?_ _ | apply below_alloc | refine Blk.drew ?_ | refine Rw.drew ?_ | refine Arg.drew ?_ | apply below_drew | refine Blk.drewN ?_ _ | refine Rw.drewN ?_ _ | refine Arg.drewN ?_ _ | apply pw_below_drewN)) hb⟩
  replace HW : Aside0 (Below w.heap.size w w1) := ⟨below_step (by with_reducible repeat (first | exact HW.out | refine Blk.alloc ?_ _ | refine Rw.alloc ?_ _ | refine Arg.alloc ?_ _ | apply below_alloc | refine Blk.drew ?_ | refine Rw.drew ?_ | refine Arg.drew ?_ | apply below_drew | refine Blk.drewN ?_ _ | refine Rw.drewN ?_ _ | refine Arg.drewN ?_ _ | apply pw_below_drewN)) hb⟩
  clear hb
  go_wp2_with (go_at_call 84; refine (HUN.out _).mono ?_; rintro e w' ⟨rfl, rfl⟩)
  refine (HDC.out _ (by with_reducible repeat (first | exact HB0.out | refine Blk.alloc ?_ _ | refine Rw.alloc ?_ _ | refine Arg.alloc ?_ _ | apply below_alloc | refine Blk.drew ?_ | refine Rw.drew ?_ | refine Arg.drew ?_ | apply below_drew | refine Blk.drewN ?_ _ | refine Rw.drewN ?_ _ | refine Arg.drewN ?_ _ | apply pw_below_drewN)) (HAN.out.below (by with_reducible repeat (first | exact HW.out | refine Blk.alloc ?_ _ | refine Rw.alloc ?_ _ | refine Arg.alloc ?_ _ | apply below_alloc | refine Blk.drew ?_ | refine Rw.drew ?_ | refine Arg.drew ?_ | apply below_drew | refine Blk.drewN ?_ _ | refine Rw.drewN ?_ _ | refine Arg.drewN ?_ _ | apply pw_below_drewN)))).mono ?_
  rintro e w2 ⟨rfl, hb⟩
  have hs_w2 := Below.size hb
  (try simp at hs_w2)
  replace HB0 : Aside0 (Blk w2 (w.heap.size) 40 [.slice (some ⟨g, 0, none⟩) m c, .int .i16 tub, .int .i8 every, .int .i16 today]) := ⟨Blk.below (by with_reducible repeat (first | exact HB0.out | refine Blk.alloc ?_ _ | refine Rw.alloc ?_ _ | refine Arg.alloc ?_ _ | apply below_alloc | refine Blk.drew ?_ | refine Rw.drew ?_ | refine Arg.drew ?_ | apply below_drew | refine Blk.drewN ?_ _ | refine Rw.drewN ?_ _ | refine Arg.drewN ?_ _ | apply pw_below_drewN)) hb⟩
  replace HR0 : Aside0 (Rw w2 g m f) := ⟨Rw.below (by with_reducible repeat (first | exact HR0.out | refine Blk.alloc ?_ _ | refine Rw.alloc ?_ _ | refine Arg.alloc ?_ _ | apply below_alloc | refine Blk.drew ?_ | refine Rw.drew ?_ | refine Arg.drew ?_ | apply below_drew | refine Blk.drewN ?_ _ | refine Rw.drewN ?_ _ | refine Arg.drewN ?_ _ | apply pw_below_drewN)) hb⟩
  replace HW : Aside0 (Below w.heap.size w w2) := ⟨below_step (by with_reducible repeat (first | exact HW.out | refine Blk.alloc ?_ _ | refine Rw.alloc ?_ _ | refine Arg.alloc ?_ _ | apply below_alloc | refine Blk.drew ?_ | refine Rw.drew ?_ | refine Arg.drew ?_ | apply below_drew | refine Blk.drewN ?_ _ | refine Rw.drewN ?_ _ | refine Arg.drewN ?_ _ | apply pw_below_drewN)) hb⟩
  clear hb
  go_wp2_with fail
  refine (HFO.out _ _ (fun j hj => by match j, hj with | 0, _ => (first | rfl | (simp; done)) | 1, _ => (first | rfl | (simp; done)))).mono ?_
  rintro e w3 ⟨rfl, hb⟩
  have hs_w3 := Below.size hb
  (try simp at hs_w3)
  replace HB0 : Aside0 (Blk w3 (w.heap.size) 40 [.slice (some ⟨g, 0, none⟩) m c, .int .i16 tub, .int .i8 every, .int .i16 today]) := ⟨Blk.below (by with_reducible repeat (first | exact HB0.out | refine Blk.alloc ?_ _ | refine Rw.alloc ?_ _ | refine Arg.alloc ?_ _ | apply below_alloc | refine Blk.drew ?_ | refine Rw.drew ?_ | refine Arg.drew ?_ | apply below_drew | refine Blk.drewN ?_ _ | refine Rw.drewN ?_ _ | refine Arg.drewN ?_ _ | apply pw_below_drewN)) hb⟩
  replace HR0 : Aside0 (Rw w3 g m f) := ⟨Rw.below (by with_reducible repeat (first | exact HR0.out | refine Blk.alloc ?_ _ | refine Rw.alloc ?_ _ | refine Arg.alloc ?_ _ | apply below_alloc | refine Blk.drew ?_ | refine Rw.drew ?_ | refine Arg.drew ?_ | apply below_drew | refine Blk.drewN ?_ _ | refine Rw.drewN ?_ _ | refine Arg.drewN ?_ _ | apply pw_below_drewN)) hb⟩
  replace HW : Aside0 (Below w.heap.size w w3) := ⟨below_step (by with_reducible repeat (first | exact HW.out | refine Blk.alloc ?_ _ | refine Rw.alloc ?_ _ | refine Arg.alloc ?_ _ | apply below_alloc | refine Blk.drew ?_ | refine Rw.drew ?_ | refine Arg.drew ?_ | apply below_drew | refine Blk.drewN ?_ _ | refine Rw.drewN ?_ _ | refine Arg.drewN ?_ _ | apply pw_below_drewN)) hb⟩
  clear hb
  go_wp2_with (first | (refine wl_load (by rfl) 40 _ (by rfl) (w.heap.size) 0 (by rfl) 40 4 [.slice (some ⟨g, 0, none⟩) m c, .int .i16 tub, .int .i8 every, .int .i16 today] [.slice (some ⟨g, 0, none⟩) m c, .int .i16 tub, .int .i8 every, .int .i16 today] (by with_reducible repeat (first | exact HB0.out | refine Blk.alloc ?_ _ | refine Rw.alloc ?_ _ | refine Arg.alloc ?_ _ | apply below_alloc | refine Blk.drew ?_ | refine Rw.drew ?_ | refine Arg.drew ?_ | apply below_drew | refine Blk.drewN ?_ _ | refine Rw.drewN ?_ _ | refine Arg.drewN ?_ _ | apply pw_below_drewN)) (by rfl) (by rfl) _ Try.underlying40 (by rfl) (by kernel_rfl) ?_))
  refine (HOW.out _ (by with_reducible repeat (first | exact HR0.out | refine Blk.alloc ?_ _ | refine Rw.alloc ?_ _ | refine Arg.alloc ?_ _ | apply below_alloc | refine Blk.drew ?_ | refine Rw.drew ?_ | refine Arg.drew ?_ | apply below_drew | refine Blk.drewN ?_ _ | refine Rw.drewN ?_ _ | refine Arg.drewN ?_ _ | apply pw_below_drewN))).mono ?_
  rintro e w4 ⟨g1, c1, rfl, hg_, hR_, hb⟩
  have lo_g1 := hg_
  (try simp at lo_g1)
  have hi_g1 := Rw.lt hR_
  have hs_w4 := Below.size hb
  (try simp at hs_w4)
  replace HB0 : Aside0 (Blk w4 (w.heap.size) 40 [.slice (some ⟨g, 0, none⟩) m c, .int .i16 tub, .int .i8 every, .int .i16 today]) := ⟨Blk.below (by with_reducible repeat (first | exact HB0.out | refine Blk.alloc ?_ _ | refine Rw.alloc ?_ _ | refine Arg.alloc ?_ _ | apply below_alloc | refine Blk.drew ?_ | refine Rw.drew ?_ | refine Arg.drew ?_ | apply below_drew | refine Blk.drewN ?_ _ | refine Rw.drewN ?_ _ | refine Arg.drewN ?_ _ | apply pw_below_drewN)) hb⟩
  replace HR0 : Aside0 (Rw w4 g m f) := ⟨Rw.below (by with_reducible repeat (first | exact HR0.out | refine Blk.alloc ?_ _ | refine Rw.alloc ?_ _ | refine Arg.alloc ?_ _ | apply below_alloc | refine Blk.drew ?_ | refine Rw.drew ?_ | refine Arg.drew ?_ | apply below_drew | refine Blk.drewN ?_ _ | refine Rw.drewN ?_ _ | refine Arg.drewN ?_ _ | apply pw_below_drewN)) hb⟩
  replace HW : Aside0 (Below w.heap.size w w4) := ⟨below_step (by with_reducible repeat (first | exact HW.out | refine Blk.alloc ?_ _ | refine Rw.alloc ?_ _ | refine Arg.alloc ?_ _ | apply below_alloc | refine Blk.drew ?_ | refine Rw.drew ?_ | refine Arg.drew ?_ | apply below_drew | refine Blk.drewN ?_ _ | refine Rw.drewN ?_ _ | refine Arg.drewN ?_ _ | apply pw_below_drewN)) hb⟩
  clear hb
  have HR1 := Aside0.mk hR_
  clear hR_ hg_
  go_wp2_with fail
  obtain ⟨hb, hhb⟩ : ∃ hb, w4.heap.size = hb := ⟨_, rfl⟩
  have HX : Aside0 (Blk (w4.alloc (.cells #[.slice (some ⟨g1, 0, none⟩) m c1, .int .i16 tub, .int .i8 every, .int .i16 0] 40)) hb 40 (hcells (some ⟨g1, 0, none⟩) m c1 tub every ((0 : Nat) : Int))) := ⟨by subst hhb; exact Blk.new _ _ _⟩
  have hq1 : gN ≠ g1 := by omega
  have hq2 : gN ≠ hb := by omega
  have hq3 : hb ≠ g1 := by omega
  have hwb : w.heap.size ≤ hb := by omega
  have hwg : w.heap.size ≤ g1 := by omega
  rw [hhb]
  have HR2 : Aside0 (Rw (w4.alloc (.cells #[.slice (some ⟨g1, 0, none⟩) m c1, .int .i16 tub, .int .i8 every, .int .i16 0] 40)) g1 m (lfF f N m tub every 0)) := ⟨HR1.out.alloc _⟩
  have HD2 : Aside0 (Nd (w4.alloc (.cells #[.slice (some ⟨g1, 0, none⟩) m c1, .int .i16 tub, .int .i8 every, .int .i16 0] 40)) gN m N) := ⟨(HNd.out.below HW.out).alloc _⟩
  replace HW : Aside0 (Below w.heap.size w (w4.alloc (.cells #[.slice (some ⟨g1, 0, none⟩) m c1, .int .i16 tub, .int .i8 every, .int .i16 0] 40))) := ⟨below_alloc HW.out _⟩
  clear HB0 HR0 HR1 hhb HVH HUN HDC HFO HOW HNd HAN lo_g1 hi_g1
  go_loopw [8] (fun v8 w' => ∃ k : Nat, k ≤ 60 ∧ v8 = .int .i64 k ∧ Aside0 (lastF f N m tub every (60 - k) k = r) ∧ Aside0 (Rw w' g1 m (lfF f N m tub every k)) ∧ Aside0 (Blk w' hb 40 (hcells (some ⟨g1, 0, none⟩) m c1 tub every (k : Int))) ∧ Aside0 (Nd w' gN m N) ∧ Aside0 (Below w.heap.size w w')) (fun v8 _ => 60 - (intOf v8).toNat)
  case atStart => exact ⟨0, by omega, rfl, HRR, HR2, HX, HD2, HW⟩
  case round =>
    clear HRR HR2 HX HD2 HW
    obtain ⟨k, hk, rfl, HRR, HR, HH, HD, HW⟩ := hrel
    obtain ⟨wo, rfl⟩ : ∃ wo : World, wo = wr := ⟨_, rfl⟩
    by_cases hlt : k < 60
    · have HC := Aside0.mk (HDY.out hb g1 c1 gN k hq1 hq2 hq3 hlt)
      have hki : (k : Int) < 60 := by omega
      have HP : Aside0 (posB (shL (lfF f N m tub every k) N m) = true → r = k) := ⟨lastF_yes hlt HRR.out⟩
      have HQ : Aside0 (posB (shL (lfF f N m tub every k) N m) = false → lastF f N m tub every (60 - (k + 1)) (k + 1) = r) := ⟨lastF_no hlt HRR.out⟩
      have HSU : Aside0 (∀ (v : Value) (b : Nat) (W : World), Ir W b v (shL (lfF f N m tub every k) N m) → Calls Try.prog 63 #[v] W fun e w' => e = .returned (.int .i64 (shL (lfF f N m tub every k) N m).sum) ∧ Below W.heap.size W w') := ⟨fun v b W h => sumI_calls v _ b (by rw [shL_len]; omega) (HMM.out k) W h⟩
      have HSZ : Aside0 (((shL (lfF f N m tub every k) N m).sum == 0) = !posB (shL (lfF f N m tub every k) N m)) := ⟨(sum_pos (HMM.out k)).2⟩
      have HF : Aside0 (lfF f N m tub every (k + 1) = dayF (lfF f N m tub every k) N m tub every k) := ⟨rfl⟩
      generalize shL (lfF f N m tub every k) N m = Ls at *
      go_wp2_with fail
      refine (HC.out _ HH.out HR.out HD.out).mono ?_
      rintro e w5 ⟨v, rfl, hI_, hR_, hH_, hk_⟩
      have HI5 := Aside0.mk hI_
      have HR5 : Aside0 (Rw w5 g1 m (lfF f N m tub every (k + 1))) := ⟨by rw [HF.out]; exact hR_⟩
      have HH5 : Aside0 (Blk w5 hb 40 (hcells (some ⟨g1, 0, none⟩) m c1 tub every ((k : Int) + 1))) := ⟨hH_⟩
      have HD5 : Aside0 (Nd w5 gN m N) := ⟨HD.out.kept hk_.2 (by rintro (h_ | h_) <;> omega)⟩
      have HW5 : Aside0 (Below w.heap.size w w5) := ⟨below_kept HW.out hk_ (by rintro k_ (rfl | rfl) <;> omega)⟩
      clear hI_ hR_ hH_ hk_ HR HH HD HW HC
      go_wp2_with fail
      refine (HSU.out _ _ _ HI5.out).mono ?_
      rintro e w6 ⟨rfl, hb_⟩
      replace HR5 := Aside0.mk (HR5.out.below hb_)
      replace HH5 := Aside0.mk (HH5.out.below hb_)
      replace HD5 := Aside0.mk (HD5.out.below hb_)
      replace HW5 : Aside0 (Below w.heap.size w w6) := ⟨below_step HW5.out hb_⟩
      clear hb_ HI5 HSU
      have hk9 : IntKind.i64.wrap ((k : Int) + 1) = (k : Int) + 1 := IntWalk.i64_in _ ⟨by omega, by omega⟩
      generalize Ls.sum = sm at *
      cases hp : posB Ls
      · have hz : (sm == 0) = true := by rw [HSZ.out, hp]; rfl
        have HQ2 := Aside0.mk (HQ.out hp)
        clear hp HP HQ HSZ
        have hz2 : sm = 0 := by simpa using hz
        subst hz2
        go_wp2
        go_roundw
        case rel => exact ⟨k + 1, by omega, by go_num, HQ2, HR5, ⟨by push_cast; exact HH5.out⟩, HD5, HW5⟩
        case measure => simp [intOf] <;> omega
      · have hz : (sm == 0) = false := by rw [HSZ.out, hp]; rfl
        have HP2 := Aside0.mk (HP.out hp)
        clear hp HP HQ HSZ
        go_wp2
        go_ret2
        exact ⟨by rw [HP2.out]; rfl, HW5.out⟩
    · have ek : k = 60 := by omega
      subst ek
      have HE : Aside0 (r = 60) := ⟨HRR.out.symm⟩
      go_wp2
      go_ret2
      exact ⟨by rw [HE.out]; rfl, HW.out⟩
end Go.Proofs.Ytjmnbikaijphlaa.X
