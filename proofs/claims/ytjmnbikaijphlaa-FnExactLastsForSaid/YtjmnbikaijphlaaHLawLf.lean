/- Contracts of functions, and plain facts: what each call answers, and what it leaves as it was. -/
import Derived.Test.YtjmnbikaijphlaaHLfS
import Derived.Test.YtjmnbikaijphlaaHMark
set_option linter.unusedVariables false
set_option linter.unusedSimpArgs false
namespace Go.Proofs.Ytjmnbikaijphlaa.X
open Go.RowKit Go.Proofs.YtjmnbikaijphlaaW.PrintWords Go.Proofs.YtjmnbikaijphlaaW.PrintLast Go.Proofs.YtjmnbikaijphlaaW.PrintMore
attribute [local go_sem] max2_int min2_int max_two min_two max_three min_three max_four min_four
set_option maxHeartbeats 8000000 in
set_option maxRecDepth 100000 in
theorem lawLF (A A1 : Option Addr) (f : Nat → Int) (n c c1 : Nat) (l : List Int) (tub every today : Int) (d code : Int) (hn : n ≤ 1048576) (hl : l.length ≤ 1048576) (hc1 : l.length ≤ c1)  (hsp : (∀ (g c : Nat) (A : Option Addr) (cN : Nat) (W : World), Rw W g n f → NdA W A l.length (fun k => l.getD k 0) → l.length ≤ cN → Calls Try.prog 50 #[.agg #[.slice (some ⟨g, 0, none⟩) n c, .int .i16 tub, .int .i8 every, .int .i16 today], .slice A l.length cN] W fun e w' => e = .returned (.tuple #[.int .i64 d, .int .i64 code]) ∧ Below W.heap.size W w')) (him : (∀ (g c : Nat) (A : Option Addr) (cN : Nat) (W : World), Rw W g n f → NdA W A l.length (fun k => l.getD k 0) → l.length ≤ cN → Calls Try.prog 51 #[.agg #[.slice (some ⟨g, 0, none⟩) n c, .int .i16 tub, .int .i8 every, .int .i16 today], .slice A l.length cN] W fun e w' => e = .returned (.tuple #[.int .i64 d, .int .i64 code]) ∧ Below W.heap.size W w')) (w : World) (hA : Arg w n f A) (hL : (Kd.int .i64).C w A1 l.length l) :
    Calls Try.prog 13 #[.agg #[.slice A n c, .int .i16 tub, .int .i8 every, .int .i16 today], .slice A1 l.length c1] w fun e w' => e = .returned (.bool true) ∧ Below w.heap.size w w' := by
  have HSZ := Aside0.mk (fun W => szHouse_calls A n c tub every today 1048576 (by omega) (by omega) W)
  have hn1 : ¬ ((1048576 : Int) - (n : Int) < 0) := by omega
  rw [if_neg hn1] at HSZ
  have hn2 : 0 ≤ (1048576 : Int) - (n : Int) := by omega
  have HA := Aside0.mk hA
  have HL := Aside0.mk hL
  have HW : Aside0 (Below w.heap.size w (w.alloc (.cells #[.slice A n c, .int .i16 tub, .int .i8 every, .int .i16 today] 35))) := ⟨below_alloc (Below.refl _ _) _⟩
  have HB0 : Aside0 (Blk (w.alloc (.cells #[.slice A n c, .int .i16 tub, .int .i8 every, .int .i16 today] 35)) w.heap.size 35 [.slice A n c, .int .i16 tub, .int .i8 every, .int .i16 today]) := ⟨Blk.new w _ _⟩
  have HTH := Aside0.mk (fun W h => toHouse_calls A n c f tub every today hn W h)
  have HTI := Aside0.mk (fun W h => toI2_calls A1 c1 l hl hc1 W h)
  have HEI := Aside0.mk (fun v v' b b' W h h' => eqI_calls v v' l b b' hl W h h')
  have HSP := Aside0.mk hsp
  have HIM := Aside0.mk him
  have HEA := Aside0.mk (fun g g' c c' W h h' => eqHouse_calls (some ⟨g, 0, none⟩) (some ⟨g', 0, none⟩) n c c' f f tub every today W hn h h' (fun i hi => rfl))
  obtain ⟨left, hleft⟩ : ∃ left, (1048576 : Int) - (n : Int) = left := ⟨_, rfl⟩
  rw [hleft] at HSZ hn2
  have hlen : ¬ ((1048576 : Int) < (l.length : Int)) := by omega
  have hlen2 : decide ((1048576 : Int) < (l.length : Int)) = false := decide_eq_false (by omega)
  clear hA hL hn1 hleft hsp him
  go_enter Try.func13, Try.ntmps13
  go_wp2_with (first | (refine wl_load (by rfl) 35 _ (by rfl) (w.heap.size) 0 (by rfl) 35 4 [.slice A n c, .int .i16 tub, .int .i8 every, .int .i16 today] [.slice A n c, .int .i16 tub, .int .i8 every, .int .i16 today] (by with_reducible repeat (first | exact HB0.out | refine Blk.alloc ?_ _ | refine Rw.alloc ?_ _ | refine Arg.alloc ?_ _ | apply below_alloc | refine Blk.drew ?_ | refine Rw.drew ?_ | refine Arg.drew ?_ | apply below_drew | refine Blk.drewN ?_ _ | refine Rw.drewN ?_ _ | refine Arg.drewN ?_ _ | apply pw_below_drewN)) (by rfl) (by rfl) _ Try.underlying35 (by rfl) (by kernel_rfl) ?_))
  refine (HSZ.out _).mono ?_
  rintro e w1 ⟨rfl, hb⟩
  have hs_w1 := Below.size hb
  (try simp at hs_w1)
  replace HB0 : Aside0 (Blk w1 (w.heap.size) 35 [.slice A n c, .int .i16 tub, .int .i8 every, .int .i16 today]) := ⟨Blk.below (by with_reducible repeat (first | exact HB0.out | refine Blk.alloc ?_ _ | refine Rw.alloc ?_ _ | refine Arg.alloc ?_ _ | apply below_alloc | refine Blk.drew ?_ | refine Rw.drew ?_ | refine Arg.drew ?_ | apply below_drew | refine Blk.drewN ?_ _ | refine Rw.drewN ?_ _ | refine Arg.drewN ?_ _ | apply pw_below_drewN)) hb⟩
  replace HW : Aside0 (Below w.heap.size w w1) := ⟨below_step (by with_reducible repeat (first | exact HW.out | refine Blk.alloc ?_ _ | refine Rw.alloc ?_ _ | refine Arg.alloc ?_ _ | apply below_alloc | refine Blk.drew ?_ | refine Rw.drew ?_ | refine Arg.drew ?_ | apply below_drew | refine Blk.drewN ?_ _ | refine Rw.drewN ?_ _ | refine Arg.drewN ?_ _ | apply pw_below_drewN)) hb⟩
  clear hb
  go_wp2_with (first | (refine wl_load (by rfl) 35 _ (by rfl) (w.heap.size) 0 (by rfl) 35 4 [.slice A n c, .int .i16 tub, .int .i8 every, .int .i16 today] [.slice A n c, .int .i16 tub, .int .i8 every, .int .i16 today] (by with_reducible repeat (first | exact HB0.out | refine Blk.alloc ?_ _ | refine Rw.alloc ?_ _ | refine Arg.alloc ?_ _ | apply below_alloc | refine Blk.drew ?_ | refine Rw.drew ?_ | refine Arg.drew ?_ | apply below_drew | refine Blk.drewN ?_ _ | refine Rw.drewN ?_ _ | refine Arg.drewN ?_ _ | apply pw_below_drewN)) (by rfl) (by rfl) _ Try.underlying35 (by rfl) (by kernel_rfl) ?_))
  refine (HTH.out _ (HA.out.below (by with_reducible repeat (first | exact HW.out | refine Blk.alloc ?_ _ | refine Rw.alloc ?_ _ | refine Arg.alloc ?_ _ | apply below_alloc | refine Blk.drew ?_ | refine Rw.drew ?_ | refine Arg.drew ?_ | apply below_drew | refine Blk.drewN ?_ _ | refine Rw.drewN ?_ _ | refine Arg.drewN ?_ _ | apply pw_below_drewN)))).mono ?_
  rintro e w2 ⟨g1, rfl, hg_, hR_, hb⟩
  have lo_g1 := hg_
  (try simp at lo_g1)
  have hi_g1 := Rw.lt hR_
  have hs_w2 := Below.size hb
  (try simp at hs_w2)
  replace HB0 : Aside0 (Blk w2 (w.heap.size) 35 [.slice A n c, .int .i16 tub, .int .i8 every, .int .i16 today]) := ⟨Blk.below (by with_reducible repeat (first | exact HB0.out | refine Blk.alloc ?_ _ | refine Rw.alloc ?_ _ | refine Arg.alloc ?_ _ | apply below_alloc | refine Blk.drew ?_ | refine Rw.drew ?_ | refine Arg.drew ?_ | apply below_drew | refine Blk.drewN ?_ _ | refine Rw.drewN ?_ _ | refine Arg.drewN ?_ _ | apply pw_below_drewN)) hb⟩
  replace HW : Aside0 (Below w.heap.size w w2) := ⟨below_step (by with_reducible repeat (first | exact HW.out | refine Blk.alloc ?_ _ | refine Rw.alloc ?_ _ | refine Arg.alloc ?_ _ | apply below_alloc | refine Blk.drew ?_ | refine Rw.drew ?_ | refine Arg.drew ?_ | apply below_drew | refine Blk.drewN ?_ _ | refine Rw.drewN ?_ _ | refine Arg.drewN ?_ _ | apply pw_below_drewN)) hb⟩
  clear hb
  have HR1 := Aside0.mk hR_
  clear hR_ hg_
  go_wp2_with fail
  refine (HTI.out _ (Kd.C_below HL.out (by with_reducible repeat (first | exact HW.out | refine Blk.alloc ?_ _ | refine Rw.alloc ?_ _ | refine Arg.alloc ?_ _ | apply below_alloc | refine Blk.drew ?_ | refine Rw.drew ?_ | refine Arg.drew ?_ | apply below_drew | refine Blk.drewN ?_ _ | refine Rw.drewN ?_ _ | refine Arg.drewN ?_ _ | apply pw_below_drewN)))).mono ?_
  rintro e w3 ⟨A2, cN1, rfl, hc_HI1, hI_, hb⟩
  have P_HI1 : Aside0 (∀ k_, Value.ownBlock (.slice A2 l.length cN1) = some k_ → w2.heap.size + 0 ≤ k_ ∧ k_ < w3.heap.size) := ⟨fun k_ e_ => ⟨by have h_ := own_base hI_ k_ e_; (try simp at h_); omega, own_lt hI_ k_ e_⟩⟩
  replace hI_ := Ir.lower hI_ (Below.size (by with_reducible repeat (first | exact HW.out | refine Blk.alloc ?_ _ | refine Rw.alloc ?_ _ | refine Arg.alloc ?_ _ | apply below_alloc | refine Blk.drew ?_ | refine Rw.drew ?_ | refine Arg.drew ?_ | apply below_drew | refine Blk.drewN ?_ _ | refine Rw.drewN ?_ _ | refine Arg.drewN ?_ _ | apply pw_below_drewN)))
  have hs_w3 := Below.size hb
  (try simp at hs_w3)
  replace HB0 : Aside0 (Blk w3 (w.heap.size) 35 [.slice A n c, .int .i16 tub, .int .i8 every, .int .i16 today]) := ⟨Blk.below (by with_reducible repeat (first | exact HB0.out | refine Blk.alloc ?_ _ | refine Rw.alloc ?_ _ | refine Arg.alloc ?_ _ | apply below_alloc | refine Blk.drew ?_ | refine Rw.drew ?_ | refine Arg.drew ?_ | apply below_drew | refine Blk.drewN ?_ _ | refine Rw.drewN ?_ _ | refine Arg.drewN ?_ _ | apply pw_below_drewN)) hb⟩
  replace HR1 : Aside0 (Rw w3 g1 n f) := ⟨Rw.below (by with_reducible repeat (first | exact HR1.out | refine Blk.alloc ?_ _ | refine Rw.alloc ?_ _ | refine Arg.alloc ?_ _ | apply below_alloc | refine Blk.drew ?_ | refine Rw.drew ?_ | refine Arg.drew ?_ | apply below_drew | refine Blk.drewN ?_ _ | refine Rw.drewN ?_ _ | refine Arg.drewN ?_ _ | apply pw_below_drewN)) hb⟩
  replace HW : Aside0 (Below w.heap.size w w3) := ⟨below_step (by with_reducible repeat (first | exact HW.out | refine Blk.alloc ?_ _ | refine Rw.alloc ?_ _ | refine Arg.alloc ?_ _ | apply below_alloc | refine Blk.drew ?_ | refine Rw.drew ?_ | refine Arg.drew ?_ | apply below_drew | refine Blk.drewN ?_ _ | refine Rw.drewN ?_ _ | refine Arg.drewN ?_ _ | apply pw_below_drewN)) hb⟩
  clear hb
  have HI1 : Aside0 (Ir w3 w.heap.size (.slice A2 l.length cN1) l) := ⟨hI_⟩
  clear hI_
  go_wp2_with (fail)
  refine (HSP.out _ _ _ _ _ (by with_reducible repeat (first | exact HR1.out | refine Blk.alloc ?_ _ | refine Rw.alloc ?_ _ | refine Arg.alloc ?_ _ | apply below_alloc | refine Blk.drew ?_ | refine Rw.drew ?_ | refine Arg.drew ?_ | apply below_drew | refine Blk.drewN ?_ _ | refine Rw.drewN ?_ _ | refine Arg.drewN ?_ _ | apply pw_below_drewN)) (Ir.nda (base := w.heap.size) (by with_reducible repeat (first | exact HI1.out | refine Ir.alloc ?_ _ | refine Ir.drew ?_ | refine Ir.drewN ?_ _))) hc_HI1).mono ?_
  rintro e w4 ⟨rfl, hb⟩
  have hs_w4 := Below.size hb
  (try simp at hs_w4)
  replace HI1 : Aside0 (Ir w4 w.heap.size (.slice A2 l.length cN1) l) := ⟨Ir.below (by with_reducible repeat (first | exact HI1.out | refine Ir.alloc ?_ _ | refine Ir.drew ?_ | refine Ir.drewN ?_ _)) hb⟩
  replace HB0 : Aside0 (Blk w4 (w.heap.size) 35 [.slice A n c, .int .i16 tub, .int .i8 every, .int .i16 today]) := ⟨Blk.below (by with_reducible repeat (first | exact HB0.out | refine Blk.alloc ?_ _ | refine Rw.alloc ?_ _ | refine Arg.alloc ?_ _ | apply below_alloc | refine Blk.drew ?_ | refine Rw.drew ?_ | refine Arg.drew ?_ | apply below_drew | refine Blk.drewN ?_ _ | refine Rw.drewN ?_ _ | refine Arg.drewN ?_ _ | apply pw_below_drewN)) hb⟩
  replace HR1 : Aside0 (Rw w4 g1 n f) := ⟨Rw.below (by with_reducible repeat (first | exact HR1.out | refine Blk.alloc ?_ _ | refine Rw.alloc ?_ _ | refine Arg.alloc ?_ _ | apply below_alloc | refine Blk.drew ?_ | refine Rw.drew ?_ | refine Arg.drew ?_ | apply below_drew | refine Blk.drewN ?_ _ | refine Rw.drewN ?_ _ | refine Arg.drewN ?_ _ | apply pw_below_drewN)) hb⟩
  replace HW : Aside0 (Below w.heap.size w w4) := ⟨below_step (by with_reducible repeat (first | exact HW.out | refine Blk.alloc ?_ _ | refine Rw.alloc ?_ _ | refine Arg.alloc ?_ _ | apply below_alloc | refine Blk.drew ?_ | refine Rw.drew ?_ | refine Arg.drew ?_ | apply below_drew | refine Blk.drewN ?_ _ | refine Rw.drewN ?_ _ | refine Arg.drewN ?_ _ | apply pw_below_drewN)) hb⟩
  clear hb
  go_wp2_with (first | (refine wl_load (by rfl) 35 _ (by rfl) (w.heap.size) 0 (by rfl) 35 4 [.slice A n c, .int .i16 tub, .int .i8 every, .int .i16 today] [.slice A n c, .int .i16 tub, .int .i8 every, .int .i16 today] (by with_reducible repeat (first | exact HB0.out | refine Blk.alloc ?_ _ | refine Rw.alloc ?_ _ | refine Arg.alloc ?_ _ | apply below_alloc | refine Blk.drew ?_ | refine Rw.drew ?_ | refine Arg.drew ?_ | apply below_drew | refine Blk.drewN ?_ _ | refine Rw.drewN ?_ _ | refine Arg.drewN ?_ _ | apply pw_below_drewN)) (by rfl) (by rfl) _ Try.underlying35 (by rfl) (by kernel_rfl) ?_))
  refine (HTH.out _ (HA.out.below (by with_reducible repeat (first | exact HW.out | refine Blk.alloc ?_ _ | refine Rw.alloc ?_ _ | refine Arg.alloc ?_ _ | apply below_alloc | refine Blk.drew ?_ | refine Rw.drew ?_ | refine Arg.drew ?_ | apply below_drew | refine Blk.drewN ?_ _ | refine Rw.drewN ?_ _ | refine Arg.drewN ?_ _ | apply pw_below_drewN)))).mono ?_
  rintro e w5 ⟨g3, rfl, hg_, hR_, hb⟩
  have lo_g3 := hg_
  (try simp at lo_g3)
  have hi_g3 := Rw.lt hR_
  have hs_w5 := Below.size hb
  (try simp at hs_w5)
  replace HI1 : Aside0 (Ir w5 w.heap.size (.slice A2 l.length cN1) l) := ⟨Ir.below (by with_reducible repeat (first | exact HI1.out | refine Ir.alloc ?_ _ | refine Ir.drew ?_ | refine Ir.drewN ?_ _)) hb⟩
  replace HB0 : Aside0 (Blk w5 (w.heap.size) 35 [.slice A n c, .int .i16 tub, .int .i8 every, .int .i16 today]) := ⟨Blk.below (by with_reducible repeat (first | exact HB0.out | refine Blk.alloc ?_ _ | refine Rw.alloc ?_ _ | refine Arg.alloc ?_ _ | apply below_alloc | refine Blk.drew ?_ | refine Rw.drew ?_ | refine Arg.drew ?_ | apply below_drew | refine Blk.drewN ?_ _ | refine Rw.drewN ?_ _ | refine Arg.drewN ?_ _ | apply pw_below_drewN)) hb⟩
  replace HR1 : Aside0 (Rw w5 g1 n f) := ⟨Rw.below (by with_reducible repeat (first | exact HR1.out | refine Blk.alloc ?_ _ | refine Rw.alloc ?_ _ | refine Arg.alloc ?_ _ | apply below_alloc | refine Blk.drew ?_ | refine Rw.drew ?_ | refine Arg.drew ?_ | apply below_drew | refine Blk.drewN ?_ _ | refine Rw.drewN ?_ _ | refine Arg.drewN ?_ _ | apply pw_below_drewN)) hb⟩
  replace HW : Aside0 (Below w.heap.size w w5) := ⟨below_step (by with_reducible repeat (first | exact HW.out | refine Blk.alloc ?_ _ | refine Rw.alloc ?_ _ | refine Arg.alloc ?_ _ | apply below_alloc | refine Blk.drew ?_ | refine Rw.drew ?_ | refine Arg.drew ?_ | apply below_drew | refine Blk.drewN ?_ _ | refine Rw.drewN ?_ _ | refine Arg.drewN ?_ _ | apply pw_below_drewN)) hb⟩
  clear hb
  have HR3 := Aside0.mk hR_
  clear hR_ hg_
  go_wp2_with fail
  refine (HTI.out _ (Kd.C_below HL.out (by with_reducible repeat (first | exact HW.out | refine Blk.alloc ?_ _ | refine Rw.alloc ?_ _ | refine Arg.alloc ?_ _ | apply below_alloc | refine Blk.drew ?_ | refine Rw.drew ?_ | refine Arg.drew ?_ | apply below_drew | refine Blk.drewN ?_ _ | refine Rw.drewN ?_ _ | refine Arg.drewN ?_ _ | apply pw_below_drewN)))).mono ?_
  rintro e w6 ⟨A4, cN3, rfl, hc_HI3, hI_, hb⟩
  have P_HI3 : Aside0 (∀ k_, Value.ownBlock (.slice A4 l.length cN3) = some k_ → w5.heap.size + 1 ≤ k_ ∧ k_ < w6.heap.size) := ⟨fun k_ e_ => ⟨by have h_ := own_base hI_ k_ e_; (try simp at h_); omega, own_lt hI_ k_ e_⟩⟩
  replace hI_ := Ir.lower hI_ (Below.size (by with_reducible repeat (first | exact HW.out | refine Blk.alloc ?_ _ | refine Rw.alloc ?_ _ | refine Arg.alloc ?_ _ | apply below_alloc | refine Blk.drew ?_ | refine Rw.drew ?_ | refine Arg.drew ?_ | apply below_drew | refine Blk.drewN ?_ _ | refine Rw.drewN ?_ _ | refine Arg.drewN ?_ _ | apply pw_below_drewN)))
  have hs_w6 := Below.size hb
  (try simp at hs_w6)
  replace HI1 : Aside0 (Ir w6 w.heap.size (.slice A2 l.length cN1) l) := ⟨Ir.below (by with_reducible repeat (first | exact HI1.out | refine Ir.alloc ?_ _ | refine Ir.drew ?_ | refine Ir.drewN ?_ _)) hb⟩
  replace HB0 : Aside0 (Blk w6 (w.heap.size) 35 [.slice A n c, .int .i16 tub, .int .i8 every, .int .i16 today]) := ⟨Blk.below (by with_reducible repeat (first | exact HB0.out | refine Blk.alloc ?_ _ | refine Rw.alloc ?_ _ | refine Arg.alloc ?_ _ | apply below_alloc | refine Blk.drew ?_ | refine Rw.drew ?_ | refine Arg.drew ?_ | apply below_drew | refine Blk.drewN ?_ _ | refine Rw.drewN ?_ _ | refine Arg.drewN ?_ _ | apply pw_below_drewN)) hb⟩
  replace HR1 : Aside0 (Rw w6 g1 n f) := ⟨Rw.below (by with_reducible repeat (first | exact HR1.out | refine Blk.alloc ?_ _ | refine Rw.alloc ?_ _ | refine Arg.alloc ?_ _ | apply below_alloc | refine Blk.drew ?_ | refine Rw.drew ?_ | refine Arg.drew ?_ | apply below_drew | refine Blk.drewN ?_ _ | refine Rw.drewN ?_ _ | refine Arg.drewN ?_ _ | apply pw_below_drewN)) hb⟩
  replace HR3 : Aside0 (Rw w6 g3 n f) := ⟨Rw.below (by with_reducible repeat (first | exact HR3.out | refine Blk.alloc ?_ _ | refine Rw.alloc ?_ _ | refine Arg.alloc ?_ _ | apply below_alloc | refine Blk.drew ?_ | refine Rw.drew ?_ | refine Arg.drew ?_ | apply below_drew | refine Blk.drewN ?_ _ | refine Rw.drewN ?_ _ | refine Arg.drewN ?_ _ | apply pw_below_drewN)) hb⟩
  have HVX : Aside0 (Blk w6 (w5.heap.size) 40 [.slice (some ⟨g3, 0, none⟩) n n, .int .i16 tub, .int .i8 every, .int .i16 today]) := ⟨Blk.below (by repeat (first | exact Blk.at_ (by simp) rfl | refine Blk.alloc ?_ _)) hb⟩
  replace HW : Aside0 (Below w.heap.size w w6) := ⟨below_step (by with_reducible repeat (first | exact HW.out | refine Blk.alloc ?_ _ | refine Rw.alloc ?_ _ | refine Arg.alloc ?_ _ | apply below_alloc | refine Blk.drew ?_ | refine Rw.drew ?_ | refine Arg.drew ?_ | apply below_drew | refine Blk.drewN ?_ _ | refine Rw.drewN ?_ _ | refine Arg.drewN ?_ _ | apply pw_below_drewN)) hb⟩
  clear hb
  have HI3 : Aside0 (Ir w6 w.heap.size (.slice A4 l.length cN3) l) := ⟨hI_⟩
  clear hI_
  go_wp2_with (first | (refine wl_load (by rfl) 40 _ (by rfl) (w5.heap.size) 0 (by rfl) 40 4 [.slice (some ⟨g3, 0, none⟩) n n, .int .i16 tub, .int .i8 every, .int .i16 today] [.slice (some ⟨g3, 0, none⟩) n n, .int .i16 tub, .int .i8 every, .int .i16 today] (by with_reducible repeat (first | exact HVX.out | refine Blk.alloc ?_ _ | refine Rw.alloc ?_ _ | refine Arg.alloc ?_ _ | apply below_alloc | refine Blk.drew ?_ | refine Rw.drew ?_ | refine Arg.drew ?_ | apply below_drew | refine Blk.drewN ?_ _ | refine Rw.drewN ?_ _ | refine Arg.drewN ?_ _ | apply pw_below_drewN)) (by rfl) (by rfl) _ Try.underlying40 (by rfl) (by kernel_rfl) ?_))
  refine (HIM.out _ _ _ _ _ (by with_reducible repeat (first | exact HR3.out | refine Blk.alloc ?_ _ | refine Rw.alloc ?_ _ | refine Arg.alloc ?_ _ | apply below_alloc | refine Blk.drew ?_ | refine Rw.drew ?_ | refine Arg.drew ?_ | apply below_drew | refine Blk.drewN ?_ _ | refine Rw.drewN ?_ _ | refine Arg.drewN ?_ _ | apply pw_below_drewN)) (Ir.nda (base := w.heap.size) (by with_reducible repeat (first | exact HI3.out | refine Ir.alloc ?_ _ | refine Ir.drew ?_ | refine Ir.drewN ?_ _))) hc_HI3).mono ?_
  rintro e w7 ⟨rfl, hb⟩
  have hs_w7 := Below.size hb
  (try simp at hs_w7)
  replace HI1 : Aside0 (Ir w7 w.heap.size (.slice A2 l.length cN1) l) := ⟨Ir.below (by with_reducible repeat (first | exact HI1.out | refine Ir.alloc ?_ _ | refine Ir.drew ?_ | refine Ir.drewN ?_ _)) hb⟩
  replace HI3 : Aside0 (Ir w7 w.heap.size (.slice A4 l.length cN3) l) := ⟨Ir.below (by with_reducible repeat (first | exact HI3.out | refine Ir.alloc ?_ _ | refine Ir.drew ?_ | refine Ir.drewN ?_ _)) hb⟩
  replace HB0 : Aside0 (Blk w7 (w.heap.size) 35 [.slice A n c, .int .i16 tub, .int .i8 every, .int .i16 today]) := ⟨Blk.below (by with_reducible repeat (first | exact HB0.out | refine Blk.alloc ?_ _ | refine Rw.alloc ?_ _ | refine Arg.alloc ?_ _ | apply below_alloc | refine Blk.drew ?_ | refine Rw.drew ?_ | refine Arg.drew ?_ | apply below_drew | refine Blk.drewN ?_ _ | refine Rw.drewN ?_ _ | refine Arg.drewN ?_ _ | apply pw_below_drewN)) hb⟩
  replace HVX : Aside0 (Blk w7 (w5.heap.size) 40 [.slice (some ⟨g3, 0, none⟩) n n, .int .i16 tub, .int .i8 every, .int .i16 today]) := ⟨Blk.below (by with_reducible repeat (first | exact HVX.out | refine Blk.alloc ?_ _ | refine Rw.alloc ?_ _ | refine Arg.alloc ?_ _ | apply below_alloc | refine Blk.drew ?_ | refine Rw.drew ?_ | refine Arg.drew ?_ | apply below_drew | refine Blk.drewN ?_ _ | refine Rw.drewN ?_ _ | refine Arg.drewN ?_ _ | apply pw_below_drewN)) hb⟩
  replace HR1 : Aside0 (Rw w7 g1 n f) := ⟨Rw.below (by with_reducible repeat (first | exact HR1.out | refine Blk.alloc ?_ _ | refine Rw.alloc ?_ _ | refine Arg.alloc ?_ _ | apply below_alloc | refine Blk.drew ?_ | refine Rw.drew ?_ | refine Arg.drew ?_ | apply below_drew | refine Blk.drewN ?_ _ | refine Rw.drewN ?_ _ | refine Arg.drewN ?_ _ | apply pw_below_drewN)) hb⟩
  replace HR3 : Aside0 (Rw w7 g3 n f) := ⟨Rw.below (by with_reducible repeat (first | exact HR3.out | refine Blk.alloc ?_ _ | refine Rw.alloc ?_ _ | refine Arg.alloc ?_ _ | apply below_alloc | refine Blk.drew ?_ | refine Rw.drew ?_ | refine Arg.drew ?_ | apply below_drew | refine Blk.drewN ?_ _ | refine Rw.drewN ?_ _ | refine Arg.drewN ?_ _ | apply pw_below_drewN)) hb⟩
  replace HW : Aside0 (Below w.heap.size w w7) := ⟨below_step (by with_reducible repeat (first | exact HW.out | refine Blk.alloc ?_ _ | refine Rw.alloc ?_ _ | refine Arg.alloc ?_ _ | apply below_alloc | refine Blk.drew ?_ | refine Rw.drew ?_ | refine Arg.drew ?_ | apply below_drew | refine Blk.drewN ?_ _ | refine Rw.drewN ?_ _ | refine Arg.drewN ?_ _ | apply pw_below_drewN)) hb⟩
  clear hb
  go_wp2_with (fail)
  have c0_0 := HVX.out.cell 0 (v := .slice (some ⟨g3, 0, none⟩) n n) rfl
  have c0_1 := HVX.out.cell 1 (v := .int .i16 tub) rfl
  have c0_2 := HVX.out.cell 2 (v := .int .i8 every) rfl
  have c0_3 := HVX.out.cell 3 (v := .int .i16 today) rfl
  have c1_0 := HB0.out.cell 0 (v := .slice A n c) rfl
  have c1_1 := HB0.out.cell 1 (v := .int .i16 tub) rfl
  have c1_2 := HB0.out.cell 2 (v := .int .i8 every) rfl
  have c1_3 := HB0.out.cell 3 (v := .int .i16 today) rfl
  go_region_held3 (fun w' => w'.cell? ⟨w5.heap.size, 0, none⟩ = some (.slice (some ⟨g3, 0, none⟩) n n) ∧ w'.cell? ⟨w5.heap.size, 1, none⟩ = some (.int .i16 tub) ∧ w'.cell? ⟨w5.heap.size, 2, none⟩ = some (.int .i8 every) ∧ w'.cell? ⟨w5.heap.size, 3, none⟩ = some (.int .i16 today) ∧ w'.cell? ⟨w.heap.size, 0, none⟩ = some (.slice A n c) ∧ w'.cell? ⟨w.heap.size, 1, none⟩ = some (.int .i16 tub) ∧ w'.cell? ⟨w.heap.size, 2, none⟩ = some (.int .i8 every) ∧ w'.cell? ⟨w.heap.size, 3, none⟩ = some (.int .i16 today)) (first | exact ⟨c0_0, c0_1, c0_2, c0_3, c1_0, c1_1, c1_2, c1_3⟩ | exact ⟨d1c0_0, d1c0_1, d1c0_2, d1c0_3, d1c1_0, d1c1_1, d1c1_2, d1c1_3⟩ | exact ⟨d0c0_0, d0c0_1, d0c0_2, d0c0_3, d0c1_0, d0c1_1, d0c1_2, d0c1_3⟩ | go_keep) ((first | (go_at_call 24; (with_reducible refine (HTH.out _ (HA.out.below (by with_reducible repeat (first | exact HW.out | refine Blk.alloc ?_ _ | refine Rw.alloc ?_ _ | refine Arg.alloc ?_ _ | apply below_alloc | refine Blk.drew ?_ | refine Rw.drew ?_ | refine Arg.drew ?_ | apply below_drew | refine Blk.drewN ?_ _ | refine Rw.drewN ?_ _ | refine Arg.drewN ?_ _ | apply pw_below_drewN)))).mono ?_); rintro e u1_0 ⟨y1, rfl, hy1, hY1, hb⟩; have q0 := below_step (w := w7) (by repeat (first | exact Below.refl _ _ | assumption | apply below_drew | apply pw_below_drewN | apply below_alloc)) hb; clear hb; have d0c0_0 := pw_cell_below q0 c0_0; have d0c0_1 := pw_cell_below q0 c0_1; have d0c0_2 := pw_cell_below q0 c0_2; have d0c0_3 := pw_cell_below q0 c0_3; have d0c1_0 := pw_cell_below q0 c1_0; have d0c1_1 := pw_cell_below q0 c1_1; have d0c1_2 := pw_cell_below q0 c1_2; have d0c1_3 := pw_cell_below q0 c1_3) | (go_at_call 26; (with_reducible refine (HEA.out _ _ _ _ _ (Arg.of_rw (by with_reducible repeat (first | exact (HR3.out.below q0) | refine Blk.alloc ?_ _ | refine Rw.alloc ?_ _ | refine Arg.alloc ?_ _ | apply below_alloc | refine Blk.drew ?_ | refine Rw.drew ?_ | refine Arg.drew ?_ | apply below_drew | refine Blk.drewN ?_ _ | refine Rw.drewN ?_ _ | refine Arg.drewN ?_ _ | apply pw_below_drewN))) (Arg.of_rw (by with_reducible repeat (first | exact hY1 | refine Blk.alloc ?_ _ | refine Rw.alloc ?_ _ | refine Arg.alloc ?_ _ | apply below_alloc | refine Blk.drew ?_ | refine Rw.drew ?_ | refine Arg.drew ?_ | apply below_drew | refine Blk.drewN ?_ _ | refine Rw.drewN ?_ _ | refine Arg.drewN ?_ _ | apply pw_below_drewN)))).mono ?_); rintro e u1_1 ⟨rfl, hb⟩; have q1 := below_step (w := w7) (by repeat (first | exact Below.refl _ _ | assumption | apply below_drew | apply pw_below_drewN | apply below_alloc)) hb; clear hb; have d1c0_0 := pw_cell_below q1 c0_0; have d1c0_1 := pw_cell_below q1 c0_1; have d1c0_2 := pw_cell_below q1 c0_2; have d1c0_3 := pw_cell_below q1 c0_3; have d1c1_0 := pw_cell_below q1 c1_0; have d1c1_1 := pw_cell_below q1 c1_1; have d1c1_2 := pw_cell_below q1 c1_2; have d1c1_3 := pw_cell_below q1 c1_3)))
  clear c0_0 c0_1 c0_2 c0_3 c1_0 c1_1 c1_2 c1_3 d0c0_0 d0c0_1 d0c0_2 d0c0_3 d0c1_0 d0c1_1 d0c1_2 d0c1_3 d1c0_0 d1c0_1 d1c0_2 d1c0_3 d1c1_0 d1c1_1 d1c1_2 d1c1_3 q0
  have hs_u1_1 := Below.size q1
  (try simp at hs_u1_1)
  replace HI1 : Aside0 (Ir u1_1 w.heap.size (.slice A2 l.length cN1) l) := ⟨Ir.below (by with_reducible repeat (first | exact HI1.out | refine Ir.alloc ?_ _ | refine Ir.drew ?_ | refine Ir.drewN ?_ _)) q1⟩
  replace HI3 : Aside0 (Ir u1_1 w.heap.size (.slice A4 l.length cN3) l) := ⟨Ir.below (by with_reducible repeat (first | exact HI3.out | refine Ir.alloc ?_ _ | refine Ir.drew ?_ | refine Ir.drewN ?_ _)) q1⟩
  replace HB0 : Aside0 (Blk u1_1 (w.heap.size) 35 [.slice A n c, .int .i16 tub, .int .i8 every, .int .i16 today]) := ⟨Blk.below (by with_reducible repeat (first | exact HB0.out | refine Blk.alloc ?_ _ | refine Rw.alloc ?_ _ | refine Arg.alloc ?_ _ | apply below_alloc | refine Blk.drew ?_ | refine Rw.drew ?_ | refine Arg.drew ?_ | apply below_drew | refine Blk.drewN ?_ _ | refine Rw.drewN ?_ _ | refine Arg.drewN ?_ _ | apply pw_below_drewN)) q1⟩
  replace HVX : Aside0 (Blk u1_1 (w5.heap.size) 40 [.slice (some ⟨g3, 0, none⟩) n n, .int .i16 tub, .int .i8 every, .int .i16 today]) := ⟨Blk.below (by with_reducible repeat (first | exact HVX.out | refine Blk.alloc ?_ _ | refine Rw.alloc ?_ _ | refine Arg.alloc ?_ _ | apply below_alloc | refine Blk.drew ?_ | refine Rw.drew ?_ | refine Arg.drew ?_ | apply below_drew | refine Blk.drewN ?_ _ | refine Rw.drewN ?_ _ | refine Arg.drewN ?_ _ | apply pw_below_drewN)) q1⟩
  replace HR1 : Aside0 (Rw u1_1 g1 n f) := ⟨Rw.below (by with_reducible repeat (first | exact HR1.out | refine Blk.alloc ?_ _ | refine Rw.alloc ?_ _ | refine Arg.alloc ?_ _ | apply below_alloc | refine Blk.drew ?_ | refine Rw.drew ?_ | refine Arg.drew ?_ | apply below_drew | refine Blk.drewN ?_ _ | refine Rw.drewN ?_ _ | refine Arg.drewN ?_ _ | apply pw_below_drewN)) q1⟩
  replace HR3 : Aside0 (Rw u1_1 g3 n f) := ⟨Rw.below (by with_reducible repeat (first | exact HR3.out | refine Blk.alloc ?_ _ | refine Rw.alloc ?_ _ | refine Arg.alloc ?_ _ | apply below_alloc | refine Blk.drew ?_ | refine Rw.drew ?_ | refine Arg.drew ?_ | apply below_drew | refine Blk.drewN ?_ _ | refine Rw.drewN ?_ _ | refine Arg.drewN ?_ _ | apply pw_below_drewN)) q1⟩
  replace HW : Aside0 (Below w.heap.size w u1_1) := ⟨below_step (by with_reducible repeat (first | exact HW.out | refine Blk.alloc ?_ _ | refine Rw.alloc ?_ _ | refine Arg.alloc ?_ _ | apply below_alloc | refine Blk.drew ?_ | refine Rw.drew ?_ | refine Arg.drew ?_ | apply below_drew | refine Blk.drewN ?_ _ | refine Rw.drewN ?_ _ | refine Arg.drewN ?_ _ | apply pw_below_drewN)) q1⟩
  clear q1
  clear hY1 hy1
  go_wp2_with (fail)
  refine (HTI.out _ (Kd.C_below HL.out (by with_reducible repeat (first | exact HW.out | refine Blk.alloc ?_ _ | refine Rw.alloc ?_ _ | refine Arg.alloc ?_ _ | apply below_alloc | refine Blk.drew ?_ | refine Rw.drew ?_ | refine Arg.drew ?_ | apply below_drew | refine Blk.drewN ?_ _ | refine Rw.drewN ?_ _ | refine Arg.drewN ?_ _ | apply pw_below_drewN)))).mono ?_
  rintro e w8 ⟨A5, cN5, rfl, hc_HI5, hI_, hb⟩
  have P_HI5 : Aside0 (∀ k_, Value.ownBlock (.slice A5 l.length cN5) = some k_ → u1_1.heap.size + 0 ≤ k_ ∧ k_ < w8.heap.size) := ⟨fun k_ e_ => ⟨by have h_ := own_base hI_ k_ e_; (try simp at h_); omega, own_lt hI_ k_ e_⟩⟩
  replace hI_ := Ir.lower hI_ (Below.size (by with_reducible repeat (first | exact HW.out | refine Blk.alloc ?_ _ | refine Rw.alloc ?_ _ | refine Arg.alloc ?_ _ | apply below_alloc | refine Blk.drew ?_ | refine Rw.drew ?_ | refine Arg.drew ?_ | apply below_drew | refine Blk.drewN ?_ _ | refine Rw.drewN ?_ _ | refine Arg.drewN ?_ _ | apply pw_below_drewN)))
  have hs_w8 := Below.size hb
  (try simp at hs_w8)
  replace HI1 : Aside0 (Ir w8 w.heap.size (.slice A2 l.length cN1) l) := ⟨Ir.below (by with_reducible repeat (first | exact HI1.out | refine Ir.alloc ?_ _ | refine Ir.drew ?_ | refine Ir.drewN ?_ _)) hb⟩
  replace HI3 : Aside0 (Ir w8 w.heap.size (.slice A4 l.length cN3) l) := ⟨Ir.below (by with_reducible repeat (first | exact HI3.out | refine Ir.alloc ?_ _ | refine Ir.drew ?_ | refine Ir.drewN ?_ _)) hb⟩
  replace HB0 : Aside0 (Blk w8 (w.heap.size) 35 [.slice A n c, .int .i16 tub, .int .i8 every, .int .i16 today]) := ⟨Blk.below (by with_reducible repeat (first | exact HB0.out | refine Blk.alloc ?_ _ | refine Rw.alloc ?_ _ | refine Arg.alloc ?_ _ | apply below_alloc | refine Blk.drew ?_ | refine Rw.drew ?_ | refine Arg.drew ?_ | apply below_drew | refine Blk.drewN ?_ _ | refine Rw.drewN ?_ _ | refine Arg.drewN ?_ _ | apply pw_below_drewN)) hb⟩
  replace HVX : Aside0 (Blk w8 (w5.heap.size) 40 [.slice (some ⟨g3, 0, none⟩) n n, .int .i16 tub, .int .i8 every, .int .i16 today]) := ⟨Blk.below (by with_reducible repeat (first | exact HVX.out | refine Blk.alloc ?_ _ | refine Rw.alloc ?_ _ | refine Arg.alloc ?_ _ | apply below_alloc | refine Blk.drew ?_ | refine Rw.drew ?_ | refine Arg.drew ?_ | apply below_drew | refine Blk.drewN ?_ _ | refine Rw.drewN ?_ _ | refine Arg.drewN ?_ _ | apply pw_below_drewN)) hb⟩
  replace HR1 : Aside0 (Rw w8 g1 n f) := ⟨Rw.below (by with_reducible repeat (first | exact HR1.out | refine Blk.alloc ?_ _ | refine Rw.alloc ?_ _ | refine Arg.alloc ?_ _ | apply below_alloc | refine Blk.drew ?_ | refine Rw.drew ?_ | refine Arg.drew ?_ | apply below_drew | refine Blk.drewN ?_ _ | refine Rw.drewN ?_ _ | refine Arg.drewN ?_ _ | apply pw_below_drewN)) hb⟩
  replace HR3 : Aside0 (Rw w8 g3 n f) := ⟨Rw.below (by with_reducible repeat (first | exact HR3.out | refine Blk.alloc ?_ _ | refine Rw.alloc ?_ _ | refine Arg.alloc ?_ _ | apply below_alloc | refine Blk.drew ?_ | refine Rw.drew ?_ | refine Arg.drew ?_ | apply below_drew | refine Blk.drewN ?_ _ | refine Rw.drewN ?_ _ | refine Arg.drewN ?_ _ | apply pw_below_drewN)) hb⟩
  replace HW : Aside0 (Below w.heap.size w w8) := ⟨below_step (by with_reducible repeat (first | exact HW.out | refine Blk.alloc ?_ _ | refine Rw.alloc ?_ _ | refine Arg.alloc ?_ _ | apply below_alloc | refine Blk.drew ?_ | refine Rw.drew ?_ | refine Arg.drew ?_ | apply below_drew | refine Blk.drewN ?_ _ | refine Rw.drewN ?_ _ | refine Arg.drewN ?_ _ | apply pw_below_drewN)) hb⟩
  clear hb
  have HI5 : Aside0 (Ir w8 w.heap.size (.slice A5 l.length cN5) l) := ⟨hI_⟩
  clear hI_
  go_wp2_with (fail)
  refine (HEI.out _ _ w.heap.size w.heap.size _ (by with_reducible repeat (first | exact HI3.out | refine Ir.alloc ?_ _ | refine Ir.drew ?_ | refine Ir.drewN ?_ _)) (by with_reducible repeat (first | exact HI5.out | refine Ir.alloc ?_ _ | refine Ir.drew ?_ | refine Ir.drewN ?_ _))).mono ?_
  rintro e w9 ⟨rfl, hb⟩
  have hs_w9 := Below.size hb
  (try simp at hs_w9)
  replace HI1 : Aside0 (Ir w9 w.heap.size (.slice A2 l.length cN1) l) := ⟨Ir.below (by with_reducible repeat (first | exact HI1.out | refine Ir.alloc ?_ _ | refine Ir.drew ?_ | refine Ir.drewN ?_ _)) hb⟩
  replace HI3 : Aside0 (Ir w9 w.heap.size (.slice A4 l.length cN3) l) := ⟨Ir.below (by with_reducible repeat (first | exact HI3.out | refine Ir.alloc ?_ _ | refine Ir.drew ?_ | refine Ir.drewN ?_ _)) hb⟩
  replace HI5 : Aside0 (Ir w9 w.heap.size (.slice A5 l.length cN5) l) := ⟨Ir.below (by with_reducible repeat (first | exact HI5.out | refine Ir.alloc ?_ _ | refine Ir.drew ?_ | refine Ir.drewN ?_ _)) hb⟩
  replace HB0 : Aside0 (Blk w9 (w.heap.size) 35 [.slice A n c, .int .i16 tub, .int .i8 every, .int .i16 today]) := ⟨Blk.below (by with_reducible repeat (first | exact HB0.out | refine Blk.alloc ?_ _ | refine Rw.alloc ?_ _ | refine Arg.alloc ?_ _ | apply below_alloc | refine Blk.drew ?_ | refine Rw.drew ?_ | refine Arg.drew ?_ | apply below_drew | refine Blk.drewN ?_ _ | refine Rw.drewN ?_ _ | refine Arg.drewN ?_ _ | apply pw_below_drewN)) hb⟩
  replace HVX : Aside0 (Blk w9 (w5.heap.size) 40 [.slice (some ⟨g3, 0, none⟩) n n, .int .i16 tub, .int .i8 every, .int .i16 today]) := ⟨Blk.below (by with_reducible repeat (first | exact HVX.out | refine Blk.alloc ?_ _ | refine Rw.alloc ?_ _ | refine Arg.alloc ?_ _ | apply below_alloc | refine Blk.drew ?_ | refine Rw.drew ?_ | refine Arg.drew ?_ | apply below_drew | refine Blk.drewN ?_ _ | refine Rw.drewN ?_ _ | refine Arg.drewN ?_ _ | apply pw_below_drewN)) hb⟩
  replace HR1 : Aside0 (Rw w9 g1 n f) := ⟨Rw.below (by with_reducible repeat (first | exact HR1.out | refine Blk.alloc ?_ _ | refine Rw.alloc ?_ _ | refine Arg.alloc ?_ _ | apply below_alloc | refine Blk.drew ?_ | refine Rw.drew ?_ | refine Arg.drew ?_ | apply below_drew | refine Blk.drewN ?_ _ | refine Rw.drewN ?_ _ | refine Arg.drewN ?_ _ | apply pw_below_drewN)) hb⟩
  replace HR3 : Aside0 (Rw w9 g3 n f) := ⟨Rw.below (by with_reducible repeat (first | exact HR3.out | refine Blk.alloc ?_ _ | refine Rw.alloc ?_ _ | refine Arg.alloc ?_ _ | apply below_alloc | refine Blk.drew ?_ | refine Rw.drew ?_ | refine Arg.drew ?_ | apply below_drew | refine Blk.drewN ?_ _ | refine Rw.drewN ?_ _ | refine Arg.drewN ?_ _ | apply pw_below_drewN)) hb⟩
  replace HW : Aside0 (Below w.heap.size w w9) := ⟨below_step (by with_reducible repeat (first | exact HW.out | refine Blk.alloc ?_ _ | refine Rw.alloc ?_ _ | refine Arg.alloc ?_ _ | apply below_alloc | refine Blk.drew ?_ | refine Rw.drew ?_ | refine Arg.drew ?_ | apply below_drew | refine Blk.drewN ?_ _ | refine Rw.drewN ?_ _ | refine Arg.drewN ?_ _ | apply pw_below_drewN)) hb⟩
  clear hb
  go_wp2
  go_ret
  exact ⟨rfl, HW.out⟩
set_option maxHeartbeats 8000000 in
set_option maxRecDepth 100000 in
theorem lawLF_calls (A A1 : Option Addr) (f : Nat → Int) (n c c1 : Nat) (l : List Int) (tub every today : Int) (hm : (n : Int) ≤ 9223372036854775807) (hR : Rng f n) (ht : -32768 ≤ tub ∧ tub ≤ 32767) (hv : -128 ≤ every ∧ every ≤ 127) (hd : -32768 ≤ today ∧ today ≤ 32767) (hc1 : l.length ≤ c1) (w : World) (hA : Arg w n f A) (hL : (Kd.int .i64).C w A1 l.length l) :
    Calls Try.prog 13 #[.agg #[.slice A n c, .int .i16 tub, .int .i8 every, .int .i16 today], .slice A1 l.length c1] w fun e w' => e = .returned (.bool true) ∧ Below w.heap.size w w' := by
  by_cases hl : l.length ≤ 1048576
  · by_cases hn : n ≤ 1048576
    · cases hf : houseB f n tub every today
      · exact lawLF A A1 f n c c1 l tub every today 0 1 hn hl hc1 (fun g c A cN W h h' hc => specLF_no f (fun k => l.getD k 0) n c g l.length cN A tub every today hn (by omega) hc hR ht hv hd hf W h h') (fun g c A cN W h h' hc => implLF_bad f (fun k => l.getD k 0) n c g l.length cN A tub every today hn (by omega) hc hR ht hv hd 1 (by rw [hf]; rfl) (by decide) W h h') w hA hL
      · obtain ⟨hG, hn4, ht1, hv1, hd1⟩ := houseB_of hf
        cases hb : (needB (fun k => l.getD k 0) l.length && decide ((l.length : Int) = (n : Int)))
        · exact lawLF A A1 f n c c1 l tub every today 0 2 hn hl hc1 (fun g c A cN W h h' hc => specLF_bad f (fun k => l.getD k 0) n c g l.length cN A tub every today hn (by omega) hc hR ht hv hd hf hb W h h') (fun g c A cN W h h' hc => implLF_bad f (fun k => l.getD k 0) n c g l.length cN A tub every today hn (by omega) hc hR ht hv hd 2 (by rw [hf, hb]; rfl) (by decide) W h h') w hA hL
        · have hco : firstL [if houseB f n tub every today = true then 0 else 1, if (needB (fun k => l.getD k 0) l.length && decide ((l.length : Int) = (n : Int))) = true then 0 else 2] = 0 := by
            rw [hf, hb]; rfl
          rw [Bool.and_eq_true, decide_eq_true_eq] at hb
          have hmn : l.length = n := by omega
          have hN : needB (fun k => l.getD k 0) n = true := by rw [← hmn]; exact hb.1
          exact lawLF A A1 f n c c1 l tub every today _ 0 hn hl hc1 (fun g c A cN W h h' hc => specLF_ok f (fun k => l.getD k 0) n c g l.length cN A tub every today hn (by omega) hc hR ht hv hd hmn hf hn4 hG ht1 hv1 hN _ rfl W h h') (fun g c A cN W h h' hc => implLF_ok f (fun k => l.getD k 0) n c g l.length cN A tub every today hn (by omega) hc hR ht hv hd hmn hf hn4 hG ht1 hv1 hN _ rfl hco W h h') w hA hL
    · have HSZ := Aside0.mk (fun W => szHouse_calls A n c tub every today 1048576 hm (by omega) W)
      have HW : Aside0 (Below w.heap.size w (w.alloc (.cells #[.slice A n c, .int .i16 tub, .int .i8 every, .int .i16 today] 35))) := ⟨by repeat (first | exact Below.refl _ _ | apply below_alloc)⟩
      have hn1 : (1048576 : Int) - (n : Int) < 0 := by omega
      rw [if_pos hn1] at HSZ
      have hlen2 : decide ((1048576 : Int) < (l.length : Int)) = false := decide_eq_false (by omega)
      clear hA hR ht hv hd hn hn1 hm hL
      go_enter Try.func13, Try.ntmps13
      go_wp2_with fail
      refine (HSZ.out _).mono ?_
      rintro e w1 ⟨rfl, hb⟩
      replace HW : Aside0 (Below w.heap.size w w1) := ⟨below_step (by with_reducible repeat (first | exact HW.out | refine Blk.alloc ?_ _ | refine Rw.alloc ?_ _ | refine Arg.alloc ?_ _ | apply below_alloc | refine Blk.drew ?_ | refine Rw.drew ?_ | refine Arg.drew ?_ | apply below_drew | refine Blk.drewN ?_ _ | refine Rw.drewN ?_ _ | refine Arg.drewN ?_ _ | apply pw_below_drewN)) hb⟩
      clear hb
      go_wp2
      go_ret
      exact ⟨rfl, HW.out⟩
  · have hlen2 : decide ((1048576 : Int) < (l.length : Int)) = true := decide_eq_true (by omega)
    have hlen3 : (1048576 : Int) < (l.length : Int) := by omega
    clear hA hR ht hv hd hm hL
    go_enter Try.func13, Try.ntmps13
    go_wp2_with fail
    go_ret
    exact ⟨rfl, by repeat (first | exact Below.refl _ _ | apply below_alloc)⟩
end Go.Proofs.Ytjmnbikaijphlaa.X
