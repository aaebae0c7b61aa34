/- Contracts of functions, and plain facts: what each call answers, and what it leaves as it was. -/
import Derived.Test.YtjmnbikaijphlaaHNh
import Derived.Test.YtjmnbikaijphlaaHInt
import Derived.Test.YtjmnbikaijphlaaHNil
set_option linter.unusedVariables false
set_option linter.unusedSimpArgs false
namespace Go.Proofs.Ytjmnbikaijphlaa.X
open Go.RowKit Go.Proofs.YtjmnbikaijphlaaW.PrintWords Go.Proofs.YtjmnbikaijphlaaW.PrintLast Go.Proofs.YtjmnbikaijphlaaW.PrintMore
attribute [local go_sem] max2_int min2_int max_two min_two max_three min_three max_four min_four
set_option maxHeartbeats 8000000 in
set_option maxRecDepth 100000 in
theorem lawNH_ok (A1 : Option Addr) (c1 : Nat) (l : List Int) (tub every : Int) (F : Nat → Int) (hl : l.length ≤ 1048576) (hc1 : l.length ≤ c1) (hsp : (∀ (A : Option Addr) (cN : Nat) (W : World), NdA W A l.length (fun k => l.getD k 0) → l.length ≤ cN → Calls Try.prog 29 #[.slice A l.length cN, .int .i64 tub, .int .i64 every] W fun e w' => ∃ g' c', e = .returned (.tuple #[.agg #[.slice (some ⟨g', 0, none⟩) l.length c', .int .i16 tub, .int .i8 every, .int .i16 0], .int .i64 0]) ∧ W.heap.size ≤ g' ∧ Rw w' g' l.length F ∧ Below W.heap.size W w')) (him : (∀ (A : Option Addr) (cN : Nat) (W : World), NdA W A l.length (fun k => l.getD k 0) → l.length ≤ cN → Calls Try.prog 31 #[.slice A l.length cN, .int .i64 tub, .int .i64 every] W fun e w' => ∃ g' c', e = .returned (.tuple #[.agg #[.slice (some ⟨g', 0, none⟩) l.length c', .int .i16 tub, .int .i8 every, .int .i16 0], .int .i64 0]) ∧ W.heap.size ≤ g' ∧ Rw w' g' l.length F ∧ Below W.heap.size W w')) (w : World) (hL : (Kd.int .i64).C w A1 l.length l) :
    Calls Try.prog 7 #[.slice A1 l.length c1, .int .i64 tub, .int .i64 every] w fun e w' => e = .returned (.bool true) ∧ Below w.heap.size w w' := by
  have HL := Aside0.mk hL
  have HW : Aside0 (Below w.heap.size w w) := ⟨Below.refl _ _⟩
  have HTI := Aside0.mk (fun W h => toI2_calls A1 c1 l hl hc1 W h)
  have HEI := Aside0.mk (fun v v' b b' W h h' => eqI_calls v v' l b b' hl W h h')
  have HSP := Aside0.mk hsp
  have HIM := Aside0.mk him
  have hlen : ¬ ((1048576 : Int) < (l.length : Int)) := by omega
  have hlen2 : decide ((1048576 : Int) < (l.length : Int)) = false := decide_eq_false (by omega)
  have HEQ := Aside0.mk (fun g g' c c' W h h' => eqHouse_calls (some ⟨g, 0, none⟩) (some ⟨g', 0, none⟩) l.length c c' F F tub every 0 W hl h h' (fun i hi => rfl))
  have HMG := Aside0.mk (fun g c W h => markHouse_calls l.length c g F tub every 0 1 (by omega) hl W h)
  have HHG := Aside0.mk (fun g c W h => heldHouse_calls l.length c g F tub every 0 1 (by omega) hl W h)
  have hkm : 0 ≤ 1 + (((25 * l.length : Nat)) : Int) := by omega
  obtain ⟨km, hkm2⟩ : ∃ km, 1 + (((25 * l.length : Nat)) : Int) = km := ⟨_, rfl⟩
  rw [hkm2] at HMG HHG hkm
  clear hkm2
  have HM3 := Aside0.mk (fun v W hB h => markI_calls v l 1 (by decide) (by decide) hl w W hB h)
  have hk3 : 0 ≤ 1 + (l.length : Int) := by omega
  obtain ⟨km3, hkm3⟩ : ∃ km3, 1 + (l.length : Int) = km3 := ⟨_, rfl⟩
  rw [hkm3] at HM3 hk3
  clear hkm3 hL hsp him
  go_enter Try.func7, Try.ntmps7
  go_wp2_with (fail)
  refine (HTI.out _ (Kd.C_below HL.out (by with_reducible repeat (first | exact HW.out | refine Blk.alloc ?_ _ | refine Rw.alloc ?_ _ | refine Arg.alloc ?_ _ | apply below_alloc | refine Blk.drew ?_ | refine Rw.drew ?_ | refine Arg.drew ?_ | apply below_drew | refine Blk.drewN ?_ _ | refine Rw.drewN ?_ _ | refine Arg.drewN ?_ _ | apply pw_below_drewN)))).mono ?_
  rintro e w1 ⟨A2, cN1, rfl, hc_HI1, hI_, hb⟩
  have P_HI1 : Aside0 (∀ k_, Value.ownBlock (.slice A2 l.length cN1) = some k_ → w.heap.size + 0 ≤ k_ ∧ k_ < w1.heap.size) := ⟨fun k_ e_ => ⟨by have h_ := own_base hI_ k_ e_; (try simp at h_); omega, own_lt hI_ k_ e_⟩⟩
  replace hI_ := Ir.lower hI_ (Below.size (by with_reducible repeat (first | exact HW.out | refine Blk.alloc ?_ _ | refine Rw.alloc ?_ _ | refine Arg.alloc ?_ _ | apply below_alloc | refine Blk.drew ?_ | refine Rw.drew ?_ | refine Arg.drew ?_ | apply below_drew | refine Blk.drewN ?_ _ | refine Rw.drewN ?_ _ | refine Arg.drewN ?_ _ | apply pw_below_drewN)))
  have hs_w1 := Below.size hb
  (try simp at hs_w1)
  replace HW : Aside0 (Below w.heap.size w w1) := ⟨below_step (by with_reducible repeat (first | exact HW.out | refine Blk.alloc ?_ _ | refine Rw.alloc ?_ _ | refine Arg.alloc ?_ _ | apply below_alloc | refine Blk.drew ?_ | refine Rw.drew ?_ | refine Arg.drew ?_ | apply below_drew | refine Blk.drewN ?_ _ | refine Rw.drewN ?_ _ | refine Arg.drewN ?_ _ | apply pw_below_drewN)) hb⟩
  clear hb
  have HI1 : Aside0 (Ir w1 w.heap.size (.slice A2 l.length cN1) l) := ⟨hI_⟩
  clear hI_
  go_wp2_with (fail)
  refine (HSP.out _ _ _ (Ir.nda (base := w.heap.size) (by with_reducible repeat (first | exact HI1.out | refine Ir.alloc ?_ _ | refine Ir.drew ?_ | refine Ir.drewN ?_ _))) hc_HI1).mono ?_
  rintro e w2 ⟨g2, c2, rfl, hg_, hR_, hb⟩
  have lo_g2 := hg_
  (try simp at lo_g2)
  have hi_g2 := Rw.lt hR_
  have hs_w2 := Below.size hb
  (try simp at hs_w2)
  replace HI1 : Aside0 (Ir w2 w.heap.size (.slice A2 l.length cN1) l) := ⟨Ir.below (by with_reducible repeat (first | exact HI1.out | refine Ir.alloc ?_ _ | refine Ir.drew ?_ | refine Ir.drewN ?_ _)) hb⟩
  replace HW : Aside0 (Below w.heap.size w w2) := ⟨below_step (by with_reducible repeat (first | exact HW.out | refine Blk.alloc ?_ _ | refine Rw.alloc ?_ _ | refine Arg.alloc ?_ _ | apply below_alloc | refine Blk.drew ?_ | refine Rw.drew ?_ | refine Arg.drew ?_ | apply below_drew | refine Blk.drewN ?_ _ | refine Rw.drewN ?_ _ | refine Arg.drewN ?_ _ | apply pw_below_drewN)) hb⟩
  clear hb
  have HR2 := Aside0.mk hR_
  clear hR_ hg_
  go_wp2_with (fail)
  refine (HTI.out _ (Kd.C_below HL.out (by with_reducible repeat (first | exact HW.out | refine Blk.alloc ?_ _ | refine Rw.alloc ?_ _ | refine Arg.alloc ?_ _ | apply below_alloc | refine Blk.drew ?_ | refine Rw.drew ?_ | refine Arg.drew ?_ | apply below_drew | refine Blk.drewN ?_ _ | refine Rw.drewN ?_ _ | refine Arg.drewN ?_ _ | apply pw_below_drewN)))).mono ?_
  rintro e w3 ⟨A4, cN3, rfl, hc_HI3, hI_, hb⟩
  have P_HI3 : Aside0 (∀ k_, Value.ownBlock (.slice A4 l.length cN3) = some k_ → w2.heap.size + 1 ≤ k_ ∧ k_ < w3.heap.size) := ⟨fun k_ e_ => ⟨by have h_ := own_base hI_ k_ e_; (try simp at h_); omega, own_lt hI_ k_ e_⟩⟩
  replace hI_ := Ir.lower hI_ (Below.size (by with_reducible repeat (first | exact HW.out | refine Blk.alloc ?_ _ | refine Rw.alloc ?_ _ | refine Arg.alloc ?_ _ | apply below_alloc | refine Blk.drew ?_ | refine Rw.drew ?_ | refine Arg.drew ?_ | apply below_drew | refine Blk.drewN ?_ _ | refine Rw.drewN ?_ _ | refine Arg.drewN ?_ _ | apply pw_below_drewN)))
  have hs_w3 := Below.size hb
  (try simp at hs_w3)
  replace HI1 : Aside0 (Ir w3 w.heap.size (.slice A2 l.length cN1) l) := ⟨Ir.below (by with_reducible repeat (first | exact HI1.out | refine Ir.alloc ?_ _ | refine Ir.drew ?_ | refine Ir.drewN ?_ _)) hb⟩
  replace HR2 : Aside0 (Rw w3 g2 l.length F) := ⟨Rw.below (by with_reducible repeat (first | exact HR2.out | refine Blk.alloc ?_ _ | refine Rw.alloc ?_ _ | refine Arg.alloc ?_ _ | apply below_alloc | refine Blk.drew ?_ | refine Rw.drew ?_ | refine Arg.drew ?_ | apply below_drew | refine Blk.drewN ?_ _ | refine Rw.drewN ?_ _ | refine Arg.drewN ?_ _ | apply pw_below_drewN)) hb⟩
  have HV0 : Aside0 (Blk w3 (w2.heap.size) 40 [.slice (some ⟨g2, 0, none⟩) l.length c2, .int .i16 tub, .int .i8 every, .int .i16 0]) := ⟨Blk.below (by repeat (first | exact Blk.at_ (by simp) rfl | refine Blk.alloc ?_ _)) hb⟩
  replace HW : Aside0 (Below w.heap.size w w3) := ⟨below_step (by with_reducible repeat (first | exact HW.out | refine Blk.alloc ?_ _ | refine Rw.alloc ?_ _ | refine Arg.alloc ?_ _ | apply below_alloc | refine Blk.drew ?_ | refine Rw.drew ?_ | refine Arg.drew ?_ | apply below_drew | refine Blk.drewN ?_ _ | refine Rw.drewN ?_ _ | refine Arg.drewN ?_ _ | apply pw_below_drewN)) hb⟩
  clear hb
  have HI3 : Aside0 (Ir w3 w.heap.size (.slice A4 l.length cN3) l) := ⟨hI_⟩
  clear hI_
  go_wp2_with (fail)
  refine (HIM.out _ _ _ (Ir.nda (base := w.heap.size) (by with_reducible repeat (first | exact HI3.out | refine Ir.alloc ?_ _ | refine Ir.drew ?_ | refine Ir.drewN ?_ _))) hc_HI3).mono ?_
  rintro e w4 ⟨g4, c4, rfl, hg_, hR_, hb⟩
  have lo_g4 := hg_
  (try simp at lo_g4)
  have hi_g4 := Rw.lt hR_
  have hs_w4 := Below.size hb
  (try simp at hs_w4)
  replace HI1 : Aside0 (Ir w4 w.heap.size (.slice A2 l.length cN1) l) := ⟨Ir.below (by with_reducible repeat (first | exact HI1.out | refine Ir.alloc ?_ _ | refine Ir.drew ?_ | refine Ir.drewN ?_ _)) hb⟩
  replace HI3 : Aside0 (Ir w4 w.heap.size (.slice A4 l.length cN3) l) := ⟨Ir.below (by with_reducible repeat (first | exact HI3.out | refine Ir.alloc ?_ _ | refine Ir.drew ?_ | refine Ir.drewN ?_ _)) hb⟩
  replace HV0 : Aside0 (Blk w4 (w2.heap.size) 40 [.slice (some ⟨g2, 0, none⟩) l.length c2, .int .i16 tub, .int .i8 every, .int .i16 0]) := ⟨Blk.below (by with_reducible repeat (first | exact HV0.out | refine Blk.alloc ?_ _ | refine Rw.alloc ?_ _ | refine Arg.alloc ?_ _ | apply below_alloc | refine Blk.drew ?_ | refine Rw.drew ?_ | refine Arg.drew ?_ | apply below_drew | refine Blk.drewN ?_ _ | refine Rw.drewN ?_ _ | refine Arg.drewN ?_ _ | apply pw_below_drewN)) hb⟩
  replace HR2 : Aside0 (Rw w4 g2 l.length F) := ⟨Rw.below (by with_reducible repeat (first | exact HR2.out | refine Blk.alloc ?_ _ | refine Rw.alloc ?_ _ | refine Arg.alloc ?_ _ | apply below_alloc | refine Blk.drew ?_ | refine Rw.drew ?_ | refine Arg.drew ?_ | apply below_drew | refine Blk.drewN ?_ _ | refine Rw.drewN ?_ _ | refine Arg.drewN ?_ _ | apply pw_below_drewN)) hb⟩
  replace HW : Aside0 (Below w.heap.size w w4) := ⟨below_step (by with_reducible repeat (first | exact HW.out | refine Blk.alloc ?_ _ | refine Rw.alloc ?_ _ | refine Arg.alloc ?_ _ | apply below_alloc | refine Blk.drew ?_ | refine Rw.drew ?_ | refine Arg.drew ?_ | apply below_drew | refine Blk.drewN ?_ _ | refine Rw.drewN ?_ _ | refine Arg.drewN ?_ _ | apply pw_below_drewN)) hb⟩
  clear hb
  have HR4 := Aside0.mk hR_
  clear hR_ hg_
  go_wp2_with (first | (refine wl_load (by rfl) 40 _ (by rfl) (w2.heap.size) 0 (by rfl) 40 4 [.slice (some ⟨g2, 0, none⟩) l.length c2, .int .i16 tub, .int .i8 every, .int .i16 0] [.slice (some ⟨g2, 0, none⟩) l.length c2, .int .i16 tub, .int .i8 every, .int .i16 0] (by with_reducible repeat (first | exact HV0.out | refine Blk.alloc ?_ _ | refine Rw.alloc ?_ _ | refine Arg.alloc ?_ _ | apply below_alloc | refine Blk.drew ?_ | refine Rw.drew ?_ | refine Arg.drew ?_ | apply below_drew | refine Blk.drewN ?_ _ | refine Rw.drewN ?_ _ | refine Arg.drewN ?_ _ | apply pw_below_drewN)) (by rfl) (by rfl) _ Try.underlying40 (by rfl) (by kernel_rfl) ?_))
  refine (HEQ.out _ _ _ _ _ (Arg.of_rw (by with_reducible repeat (first | exact HR4.out | refine Blk.alloc ?_ _ | refine Rw.alloc ?_ _ | refine Arg.alloc ?_ _ | apply below_alloc | refine Blk.drew ?_ | refine Rw.drew ?_ | refine Arg.drew ?_ | apply below_drew | refine Blk.drewN ?_ _ | refine Rw.drewN ?_ _ | refine Arg.drewN ?_ _ | apply pw_below_drewN))) (Arg.of_rw (by with_reducible repeat (first | exact HR2.out | refine Blk.alloc ?_ _ | refine Rw.alloc ?_ _ | refine Arg.alloc ?_ _ | apply below_alloc | refine Blk.drew ?_ | refine Rw.drew ?_ | refine Arg.drew ?_ | apply below_drew | refine Blk.drewN ?_ _ | refine Rw.drewN ?_ _ | refine Arg.drewN ?_ _ | apply pw_below_drewN)))).mono ?_
  rintro e w5 ⟨rfl, hb⟩
  have hs_w5 := Below.size hb
  (try simp at hs_w5)
  replace HI1 : Aside0 (Ir w5 w.heap.size (.slice A2 l.length cN1) l) := ⟨Ir.below (by with_reducible repeat (first | exact HI1.out | refine Ir.alloc ?_ _ | refine Ir.drew ?_ | refine Ir.drewN ?_ _)) hb⟩
  replace HI3 : Aside0 (Ir w5 w.heap.size (.slice A4 l.length cN3) l) := ⟨Ir.below (by with_reducible repeat (first | exact HI3.out | refine Ir.alloc ?_ _ | refine Ir.drew ?_ | refine Ir.drewN ?_ _)) hb⟩
  replace HV0 : Aside0 (Blk w5 (w2.heap.size) 40 [.slice (some ⟨g2, 0, none⟩) l.length c2, .int .i16 tub, .int .i8 every, .int .i16 0]) := ⟨Blk.below (by with_reducible repeat (first | exact HV0.out | refine Blk.alloc ?_ _ | refine Rw.alloc ?_ _ | refine Arg.alloc ?_ _ | apply below_alloc | refine Blk.drew ?_ | refine Rw.drew ?_ | refine Arg.drew ?_ | apply below_drew | refine Blk.drewN ?_ _ | refine Rw.drewN ?_ _ | refine Arg.drewN ?_ _ | apply pw_below_drewN)) hb⟩
  replace HR2 : Aside0 (Rw w5 g2 l.length F) := ⟨Rw.below (by with_reducible repeat (first | exact HR2.out | refine Blk.alloc ?_ _ | refine Rw.alloc ?_ _ | refine Arg.alloc ?_ _ | apply below_alloc | refine Blk.drew ?_ | refine Rw.drew ?_ | refine Arg.drew ?_ | apply below_drew | refine Blk.drewN ?_ _ | refine Rw.drewN ?_ _ | refine Arg.drewN ?_ _ | apply pw_below_drewN)) hb⟩
  replace HR4 : Aside0 (Rw w5 g4 l.length F) := ⟨Rw.below (by with_reducible repeat (first | exact HR4.out | refine Blk.alloc ?_ _ | refine Rw.alloc ?_ _ | refine Arg.alloc ?_ _ | apply below_alloc | refine Blk.drew ?_ | refine Rw.drew ?_ | refine Arg.drew ?_ | apply below_drew | refine Blk.drewN ?_ _ | refine Rw.drewN ?_ _ | refine Arg.drewN ?_ _ | apply pw_below_drewN)) hb⟩
  have HVG : Aside0 (Blk w5 (w4.heap.size) 40 [.slice (some ⟨g4, 0, none⟩) l.length c4, .int .i16 tub, .int .i8 every, .int .i16 0]) := ⟨Blk.below (by repeat (first | exact Blk.at_ (by simp) rfl | refine Blk.alloc ?_ _)) hb⟩
  replace HW : Aside0 (Below w.heap.size w w5) := ⟨below_step (by with_reducible repeat (first | exact HW.out | refine Blk.alloc ?_ _ | refine Rw.alloc ?_ _ | refine Arg.alloc ?_ _ | apply below_alloc | refine Blk.drew ?_ | refine Rw.drew ?_ | refine Arg.drew ?_ | apply below_drew | refine Blk.drewN ?_ _ | refine Rw.drewN ?_ _ | refine Arg.drewN ?_ _ | apply pw_below_drewN)) hb⟩
  clear hb
  go_wp2_with (fail)
  refine (HTI.out _ (Kd.C_below HL.out (by with_reducible repeat (first | exact HW.out | refine Blk.alloc ?_ _ | refine Rw.alloc ?_ _ | refine Arg.alloc ?_ _ | apply below_alloc | refine Blk.drew ?_ | refine Rw.drew ?_ | refine Arg.drew ?_ | apply below_drew | refine Blk.drewN ?_ _ | refine Rw.drewN ?_ _ | refine Arg.drewN ?_ _ | apply pw_below_drewN)))).mono ?_
  rintro e w6 ⟨A5, cN5, rfl, hc_HI5, hI_, hb⟩
  have P_HI5 : Aside0 (∀ k_, Value.ownBlock (.slice A5 l.length cN5) = some k_ → w5.heap.size + 0 ≤ k_ ∧ k_ < w6.heap.size) := ⟨fun k_ e_ => ⟨by have h_ := own_base hI_ k_ e_; (try simp at h_); omega, own_lt hI_ k_ e_⟩⟩
  replace hI_ := Ir.lower hI_ (Below.size (by with_reducible repeat (first | exact HW.out | refine Blk.alloc ?_ _ | refine Rw.alloc ?_ _ | refine Arg.alloc ?_ _ | apply below_alloc | refine Blk.drew ?_ | refine Rw.drew ?_ | refine Arg.drew ?_ | apply below_drew | refine Blk.drewN ?_ _ | refine Rw.drewN ?_ _ | refine Arg.drewN ?_ _ | apply pw_below_drewN)))
  have hs_w6 := Below.size hb
  (try simp at hs_w6)
  replace HI1 : Aside0 (Ir w6 w.heap.size (.slice A2 l.length cN1) l) := ⟨Ir.below (by with_reducible repeat (first | exact HI1.out | refine Ir.alloc ?_ _ | refine Ir.drew ?_ | refine Ir.drewN ?_ _)) hb⟩
  replace HI3 : Aside0 (Ir w6 w.heap.size (.slice A4 l.length cN3) l) := ⟨Ir.below (by with_reducible repeat (first | exact HI3.out | refine Ir.alloc ?_ _ | refine Ir.drew ?_ | refine Ir.drewN ?_ _)) hb⟩
  replace HV0 : Aside0 (Blk w6 (w2.heap.size) 40 [.slice (some ⟨g2, 0, none⟩) l.length c2, .int .i16 tub, .int .i8 every, .int .i16 0]) := ⟨Blk.below (by with_reducible repeat (first | exact HV0.out | refine Blk.alloc ?_ _ | refine Rw.alloc ?_ _ | refine Arg.alloc ?_ _ | apply below_alloc | refine Blk.drew ?_ | refine Rw.drew ?_ | refine Arg.drew ?_ | apply below_drew | refine Blk.drewN ?_ _ | refine Rw.drewN ?_ _ | refine Arg.drewN ?_ _ | apply pw_below_drewN)) hb⟩
  replace HVG : Aside0 (Blk w6 (w4.heap.size) 40 [.slice (some ⟨g4, 0, none⟩) l.length c4, .int .i16 tub, .int .i8 every, .int .i16 0]) := ⟨Blk.below (by with_reducible repeat (first | exact HVG.out | refine Blk.alloc ?_ _ | refine Rw.alloc ?_ _ | refine Arg.alloc ?_ _ | apply below_alloc | refine Blk.drew ?_ | refine Rw.drew ?_ | refine Arg.drew ?_ | apply below_drew | refine Blk.drewN ?_ _ | refine Rw.drewN ?_ _ | refine Arg.drewN ?_ _ | apply pw_below_drewN)) hb⟩
  replace HR2 : Aside0 (Rw w6 g2 l.length F) := ⟨Rw.below (by with_reducible repeat (first | exact HR2.out | refine Blk.alloc ?_ _ | refine Rw.alloc ?_ _ | refine Arg.alloc ?_ _ | apply below_alloc | refine Blk.drew ?_ | refine Rw.drew ?_ | refine Arg.drew ?_ | apply below_drew | refine Blk.drewN ?_ _ | refine Rw.drewN ?_ _ | refine Arg.drewN ?_ _ | apply pw_below_drewN)) hb⟩
  replace HR4 : Aside0 (Rw w6 g4 l.length F) := ⟨Rw.below (by with_reducible repeat (first | exact HR4.out | refine Blk.alloc ?_ _ | refine Rw.alloc ?_ _ | refine Arg.alloc ?_ _ | apply below_alloc | refine Blk.drew ?_ | refine Rw.drew ?_ | refine Arg.drew ?_ | apply below_drew | refine Blk.drewN ?_ _ | refine Rw.drewN ?_ _ | refine Arg.drewN ?_ _ | apply pw_below_drewN)) hb⟩
  replace HW : Aside0 (Below w.heap.size w w6) := ⟨below_step (by with_reducible repeat (first | exact HW.out | refine Blk.alloc ?_ _ | refine Rw.alloc ?_ _ | refine Arg.alloc ?_ _ | apply below_alloc | refine Blk.drew ?_ | refine Rw.drew ?_ | refine Arg.drew ?_ | apply below_drew | refine Blk.drewN ?_ _ | refine Rw.drewN ?_ _ | refine Arg.drewN ?_ _ | apply pw_below_drewN)) hb⟩
  clear hb
  have HI5 : Aside0 (Ir w6 w.heap.size (.slice A5 l.length cN5) l) := ⟨hI_⟩
  clear hI_
  go_wp2_with (fail)
  refine (HEI.out _ _ w.heap.size w.heap.size _ (by with_reducible repeat (first | exact HI3.out | refine Ir.alloc ?_ _ | refine Ir.drew ?_ | refine Ir.drewN ?_ _)) (by with_reducible repeat (first | exact HI5.out | refine Ir.alloc ?_ _ | refine Ir.drew ?_ | refine Ir.drewN ?_ _))).mono ?_
  rintro e w7 ⟨rfl, hb⟩
  have hs_w7 := Below.size hb
  (try simp at hs_w7)
  replace HI1 : Aside0 (Ir w7 w.heap.size (.slice A2 l.length cN1) l) := ⟨Ir.below (by with_reducible repeat (first | exact HI1.out | refine Ir.alloc ?_ _ | refine Ir.drew ?_ | refine Ir.drewN ?_ _)) hb⟩
  replace HI3 : Aside0 (Ir w7 w.heap.size (.slice A4 l.length cN3) l) := ⟨Ir.below (by with_reducible repeat (first | exact HI3.out | refine Ir.alloc ?_ _ | refine Ir.drew ?_ | refine Ir.drewN ?_ _)) hb⟩
  replace HI5 : Aside0 (Ir w7 w.heap.size (.slice A5 l.length cN5) l) := ⟨Ir.below (by with_reducible repeat (first | exact HI5.out | refine Ir.alloc ?_ _ | refine Ir.drew ?_ | refine Ir.drewN ?_ _)) hb⟩
  replace HV0 : Aside0 (Blk w7 (w2.heap.size) 40 [.slice (some ⟨g2, 0, none⟩) l.length c2, .int .i16 tub, .int .i8 every, .int .i16 0]) := ⟨Blk.below (by with_reducible repeat (first | exact HV0.out | refine Blk.alloc ?_ _ | refine Rw.alloc ?_ _ | refine Arg.alloc ?_ _ | apply below_alloc | refine Blk.drew ?_ | refine Rw.drew ?_ | refine Arg.drew ?_ | apply below_drew | refine Blk.drewN ?_ _ | refine Rw.drewN ?_ _ | refine Arg.drewN ?_ _ | apply pw_below_drewN)) hb⟩
  replace HVG : Aside0 (Blk w7 (w4.heap.size) 40 [.slice (some ⟨g4, 0, none⟩) l.length c4, .int .i16 tub, .int .i8 every, .int .i16 0]) := ⟨Blk.below (by with_reducible repeat (first | exact HVG.out | refine Blk.alloc ?_ _ | refine Rw.alloc ?_ _ | refine Arg.alloc ?_ _ | apply below_alloc | refine Blk.drew ?_ | refine Rw.drew ?_ | refine Arg.drew ?_ | apply below_drew | refine Blk.drewN ?_ _ | refine Rw.drewN ?_ _ | refine Arg.drewN ?_ _ | apply pw_below_drewN)) hb⟩
  replace HR2 : Aside0 (Rw w7 g2 l.length F) := ⟨Rw.below (by with_reducible repeat (first | exact HR2.out | refine Blk.alloc ?_ _ | refine Rw.alloc ?_ _ | refine Arg.alloc ?_ _ | apply below_alloc | refine Blk.drew ?_ | refine Rw.drew ?_ | refine Arg.drew ?_ | apply below_drew | refine Blk.drewN ?_ _ | refine Rw.drewN ?_ _ | refine Arg.drewN ?_ _ | apply pw_below_drewN)) hb⟩
  replace HR4 : Aside0 (Rw w7 g4 l.length F) := ⟨Rw.below (by with_reducible repeat (first | exact HR4.out | refine Blk.alloc ?_ _ | refine Rw.alloc ?_ _ | refine Arg.alloc ?_ _ | apply below_alloc | refine Blk.drew ?_ | refine Rw.drew ?_ | refine Arg.drew ?_ | apply below_drew | refine Blk.drewN ?_ _ | refine Rw.drewN ?_ _ | refine Arg.drewN ?_ _ | apply pw_below_drewN)) hb⟩
  replace HW : Aside0 (Below w.heap.size w w7) := ⟨below_step (by with_reducible repeat (first | exact HW.out | refine Blk.alloc ?_ _ | refine Rw.alloc ?_ _ | refine Arg.alloc ?_ _ | apply below_alloc | refine Blk.drew ?_ | refine Rw.drew ?_ | refine Arg.drew ?_ | apply below_drew | refine Blk.drewN ?_ _ | refine Rw.drewN ?_ _ | refine Arg.drewN ?_ _ | apply pw_below_drewN)) hb⟩
  clear hb
  go_wp2_with (fail)
  refine (HM3.out _ _ (by with_reducible repeat (first | exact HW.out | refine Blk.alloc ?_ _ | refine Rw.alloc ?_ _ | refine Arg.alloc ?_ _ | apply below_alloc | refine Blk.drew ?_ | refine Rw.drew ?_ | refine Arg.drew ?_ | apply below_drew | refine Blk.drewN ?_ _ | refine Rw.drewN ?_ _ | refine Arg.drewN ?_ _ | apply pw_below_drewN)) (by with_reducible repeat (first | exact HI3.out | refine Ir.alloc ?_ _ | refine Ir.drew ?_ | refine Ir.drewN ?_ _))).mono ?_
  rintro e w8 ⟨rfl, hI_, hB_, hk_⟩
  have hs_w8 := hk_.1
  (try simp at hs_w8)
  replace HV0 : Aside0 (Blk w8 (w2.heap.size) 40 [.slice (some ⟨g2, 0, none⟩) l.length c2, .int .i16 tub, .int .i8 every, .int .i16 0]) := ⟨Blk.keptK (by with_reducible repeat (first | exact HV0.out | refine Blk.alloc ?_ _ | refine Rw.alloc ?_ _ | refine Arg.alloc ?_ _ | apply below_alloc | refine Blk.drew ?_ | refine Rw.drew ?_ | refine Arg.drew ?_ | apply below_drew | refine Blk.drewN ?_ _ | refine Rw.drewN ?_ _ | refine Arg.drewN ?_ _ | apply pw_below_drewN)) hk_ (fun h_ => by have := P_HI3.out _ h_; omega)⟩
  replace HVG : Aside0 (Blk w8 (w4.heap.size) 40 [.slice (some ⟨g4, 0, none⟩) l.length c4, .int .i16 tub, .int .i8 every, .int .i16 0]) := ⟨Blk.keptK (by with_reducible repeat (first | exact HVG.out | refine Blk.alloc ?_ _ | refine Rw.alloc ?_ _ | refine Arg.alloc ?_ _ | apply below_alloc | refine Blk.drew ?_ | refine Rw.drew ?_ | refine Arg.drew ?_ | apply below_drew | refine Blk.drewN ?_ _ | refine Rw.drewN ?_ _ | refine Arg.drewN ?_ _ | apply pw_below_drewN)) hk_ (fun h_ => by have := P_HI3.out _ h_; omega)⟩
  replace HR2 : Aside0 (Rw w8 g2 l.length F) := ⟨Rw.block (by with_reducible repeat (first | exact HR2.out | refine Blk.alloc ?_ _ | refine Rw.alloc ?_ _ | refine Arg.alloc ?_ _ | apply below_alloc | refine Blk.drew ?_ | refine Rw.drew ?_ | refine Arg.drew ?_ | apply below_drew | refine Blk.drewN ?_ _ | refine Rw.drewN ?_ _ | refine Arg.drewN ?_ _ | apply pw_below_drewN)) (hk_.2 _ (Rw.lt (n := l.length) (f := F) (by with_reducible repeat (first | exact HR2.out | refine Blk.alloc ?_ _ | refine Rw.alloc ?_ _ | refine Arg.alloc ?_ _ | apply below_alloc | refine Blk.drew ?_ | refine Rw.drew ?_ | refine Arg.drew ?_ | apply below_drew | refine Blk.drewN ?_ _ | refine Rw.drewN ?_ _ | refine Arg.drewN ?_ _ | apply pw_below_drewN))) (fun h_ => by have := P_HI3.out _ h_; omega))⟩
  replace HR4 : Aside0 (Rw w8 g4 l.length F) := ⟨Rw.block (by with_reducible repeat (first | exact HR4.out | refine Blk.alloc ?_ _ | refine Rw.alloc ?_ _ | refine Arg.alloc ?_ _ | apply below_alloc | refine Blk.drew ?_ | refine Rw.drew ?_ | refine Arg.drew ?_ | apply below_drew | refine Blk.drewN ?_ _ | refine Rw.drewN ?_ _ | refine Arg.drewN ?_ _ | apply pw_below_drewN)) (hk_.2 _ (Rw.lt (n := l.length) (f := F) (by with_reducible repeat (first | exact HR4.out | refine Blk.alloc ?_ _ | refine Rw.alloc ?_ _ | refine Arg.alloc ?_ _ | apply below_alloc | refine Blk.drew ?_ | refine Rw.drew ?_ | refine Arg.drew ?_ | apply below_drew | refine Blk.drewN ?_ _ | refine Rw.drewN ?_ _ | refine Arg.drewN ?_ _ | apply pw_below_drewN))) (fun h_ => by have := P_HI3.out _ h_; omega))⟩
  replace HI1 : Aside0 (Ir w8 w.heap.size (.slice A2 l.length cN1) l) := ⟨Ir.kept (by with_reducible repeat (first | exact HI1.out | refine Ir.alloc ?_ _ | refine Ir.drew ?_ | refine Ir.drewN ?_ _)) hk_ (fun k_ e_ e2_ => by have h1_ := P_HI1.out _ e_; have h2_ := P_HI3.out _ e2_; omega)⟩
  replace HI5 : Aside0 (Ir w8 w.heap.size (.slice A5 l.length cN5) l) := ⟨Ir.kept (by with_reducible repeat (first | exact HI5.out | refine Ir.alloc ?_ _ | refine Ir.drew ?_ | refine Ir.drewN ?_ _)) hk_ (fun k_ e_ e2_ => by have h1_ := P_HI5.out _ e_; have h2_ := P_HI3.out _ e2_; omega)⟩
  replace HW : Aside0 (Below w.heap.size w w8) := ⟨hB_⟩
  replace HI3 : Aside0 (Ir w8 w.heap.size (.slice A4 l.length cN3) (seqL 1 l.length)) := ⟨hI_⟩
  clear hI_ hB_ hk_
  go_wp2_with (first | (refine wl_load (by rfl) 40 _ (by rfl) (w4.heap.size) 0 (by rfl) 40 4 [.slice (some ⟨g4, 0, none⟩) l.length c4, .int .i16 tub, .int .i8 every, .int .i16 0] [.slice (some ⟨g4, 0, none⟩) l.length c4, .int .i16 tub, .int .i8 every, .int .i16 0] (by with_reducible repeat (first | exact HVG.out | refine Blk.alloc ?_ _ | refine Rw.alloc ?_ _ | refine Arg.alloc ?_ _ | apply below_alloc | refine Blk.drew ?_ | refine Rw.drew ?_ | refine Arg.drew ?_ | apply below_drew | refine Blk.drewN ?_ _ | refine Rw.drewN ?_ _ | refine Arg.drewN ?_ _ | apply pw_below_drewN)) (by rfl) (by rfl) _ Try.underlying40 (by rfl) (by kernel_rfl) ?_) | (refine wl_load (by rfl) 40 _ (by rfl) (w2.heap.size) 0 (by rfl) 40 4 [.slice (some ⟨g2, 0, none⟩) l.length c2, .int .i16 tub, .int .i8 every, .int .i16 0] [.slice (some ⟨g2, 0, none⟩) l.length c2, .int .i16 tub, .int .i8 every, .int .i16 0] (by with_reducible repeat (first | exact HV0.out | refine Blk.alloc ?_ _ | refine Rw.alloc ?_ _ | refine Arg.alloc ?_ _ | apply below_alloc | refine Blk.drew ?_ | refine Rw.drew ?_ | refine Arg.drew ?_ | apply below_drew | refine Blk.drewN ?_ _ | refine Rw.drewN ?_ _ | refine Arg.drewN ?_ _ | apply pw_below_drewN)) (by rfl) (by rfl) _ Try.underlying40 (by rfl) (by kernel_rfl) ?_) | (refine wl_loadG (Eq.trans (b := (some (decide (km3 < 0)) == some false)) (by kernel_rfl) (by rw [decide_eq_false (by omega)]; rfl)) 40 _ (by rfl) (w4.heap.size) 0 (by rfl) 40 4 [.slice (some ⟨g4, 0, none⟩) l.length c4, .int .i16 tub, .int .i8 every, .int .i16 0] [.slice (some ⟨g4, 0, none⟩) l.length c4, .int .i16 tub, .int .i8 every, .int .i16 0] (by with_reducible repeat (first | exact HVG.out | refine Blk.alloc ?_ _ | refine Rw.alloc ?_ _ | refine Arg.alloc ?_ _ | apply below_alloc | refine Blk.drew ?_ | refine Rw.drew ?_ | refine Arg.drew ?_ | apply below_drew | refine Blk.drewN ?_ _ | refine Rw.drewN ?_ _ | refine Arg.drewN ?_ _ | apply pw_below_drewN)) (by rfl) (by rfl) _ Try.underlying40 (by rfl) (by kernel_rfl) ?_) | (refine wl_loadG (Eq.trans (b := (some (decide (km3 < 0)) == some false)) (by kernel_rfl) (by rw [decide_eq_false (by omega)]; rfl)) 40 _ (by rfl) (w2.heap.size) 0 (by rfl) 40 4 [.slice (some ⟨g2, 0, none⟩) l.length c2, .int .i16 tub, .int .i8 every, .int .i16 0] [.slice (some ⟨g2, 0, none⟩) l.length c2, .int .i16 tub, .int .i8 every, .int .i16 0] (by with_reducible repeat (first | exact HV0.out | refine Blk.alloc ?_ _ | refine Rw.alloc ?_ _ | refine Arg.alloc ?_ _ | apply below_alloc | refine Blk.drew ?_ | refine Rw.drew ?_ | refine Arg.drew ?_ | apply below_drew | refine Blk.drewN ?_ _ | refine Rw.drewN ?_ _ | refine Arg.drewN ?_ _ | apply pw_below_drewN)) (by rfl) (by rfl) _ Try.underlying40 (by rfl) (by kernel_rfl) ?_))
  refine (HEQ.out _ _ _ _ _ (Arg.of_rw (by with_reducible repeat (first | exact HR4.out | refine Blk.alloc ?_ _ | refine Rw.alloc ?_ _ | refine Arg.alloc ?_ _ | apply below_alloc | refine Blk.drew ?_ | refine Rw.drew ?_ | refine Arg.drew ?_ | apply below_drew | refine Blk.drewN ?_ _ | refine Rw.drewN ?_ _ | refine Arg.drewN ?_ _ | apply pw_below_drewN))) (Arg.of_rw (by with_reducible repeat (first | exact HR2.out | refine Blk.alloc ?_ _ | refine Rw.alloc ?_ _ | refine Arg.alloc ?_ _ | apply below_alloc | refine Blk.drew ?_ | refine Rw.drew ?_ | refine Arg.drew ?_ | apply below_drew | refine Blk.drewN ?_ _ | refine Rw.drewN ?_ _ | refine Arg.drewN ?_ _ | apply pw_below_drewN)))).mono ?_
  rintro e w9 ⟨rfl, hb⟩
  have hs_w9 := Below.size hb
  (try simp at hs_w9)
  replace HI1 : Aside0 (Ir w9 w.heap.size (.slice A2 l.length cN1) l) := ⟨Ir.below (by with_reducible repeat (first | exact HI1.out | refine Ir.alloc ?_ _ | refine Ir.drew ?_ | refine Ir.drewN ?_ _)) hb⟩
  replace HI3 : Aside0 (Ir w9 w.heap.size (.slice A4 l.length cN3) (seqL 1 l.length)) := ⟨Ir.below (by with_reducible repeat (first | exact HI3.out | refine Ir.alloc ?_ _ | refine Ir.drew ?_ | refine Ir.drewN ?_ _)) hb⟩
  replace HI5 : Aside0 (Ir w9 w.heap.size (.slice A5 l.length cN5) l) := ⟨Ir.below (by with_reducible repeat (first | exact HI5.out | refine Ir.alloc ?_ _ | refine Ir.drew ?_ | refine Ir.drewN ?_ _)) hb⟩
  replace HV0 : Aside0 (Blk w9 (w2.heap.size) 40 [.slice (some ⟨g2, 0, none⟩) l.length c2, .int .i16 tub, .int .i8 every, .int .i16 0]) := ⟨Blk.below (by with_reducible repeat (first | exact HV0.out | refine Blk.alloc ?_ _ | refine Rw.alloc ?_ _ | refine Arg.alloc ?_ _ | apply below_alloc | refine Blk.drew ?_ | refine Rw.drew ?_ | refine Arg.drew ?_ | apply below_drew | refine Blk.drewN ?_ _ | refine Rw.drewN ?_ _ | refine Arg.drewN ?_ _ | apply pw_below_drewN)) hb⟩
  replace HVG : Aside0 (Blk w9 (w4.heap.size) 40 [.slice (some ⟨g4, 0, none⟩) l.length c4, .int .i16 tub, .int .i8 every, .int .i16 0]) := ⟨Blk.below (by with_reducible repeat (first | exact HVG.out | refine Blk.alloc ?_ _ | refine Rw.alloc ?_ _ | refine Arg.alloc ?_ _ | apply below_alloc | refine Blk.drew ?_ | refine Rw.drew ?_ | refine Arg.drew ?_ | apply below_drew | refine Blk.drewN ?_ _ | refine Rw.drewN ?_ _ | refine Arg.drewN ?_ _ | apply pw_below_drewN)) hb⟩
  replace HR2 : Aside0 (Rw w9 g2 l.length F) := ⟨Rw.below (by with_reducible repeat (first | exact HR2.out | refine Blk.alloc ?_ _ | refine Rw.alloc ?_ _ | refine Arg.alloc ?_ _ | apply below_alloc | refine Blk.drew ?_ | refine Rw.drew ?_ | refine Arg.drew ?_ | apply below_drew | refine Blk.drewN ?_ _ | refine Rw.drewN ?_ _ | refine Arg.drewN ?_ _ | apply pw_below_drewN)) hb⟩
  replace HR4 : Aside0 (Rw w9 g4 l.length F) := ⟨Rw.below (by with_reducible repeat (first | exact HR4.out | refine Blk.alloc ?_ _ | refine Rw.alloc ?_ _ | refine Arg.alloc ?_ _ | apply below_alloc | refine Blk.drew ?_ | refine Rw.drew ?_ | refine Arg.drew ?_ | apply below_drew | refine Blk.drewN ?_ _ | refine Rw.drewN ?_ _ | refine Arg.drewN ?_ _ | apply pw_below_drewN)) hb⟩
  replace HW : Aside0 (Below w.heap.size w w9) := ⟨below_step (by with_reducible repeat (first | exact HW.out | refine Blk.alloc ?_ _ | refine Rw.alloc ?_ _ | refine Arg.alloc ?_ _ | apply below_alloc | refine Blk.drew ?_ | refine Rw.drew ?_ | refine Arg.drew ?_ | apply below_drew | refine Blk.drewN ?_ _ | refine Rw.drewN ?_ _ | refine Arg.drewN ?_ _ | apply pw_below_drewN)) hb⟩
  clear hb
  go_wp2_with (first | (refine wl_load (by rfl) 40 _ (by rfl) (w4.heap.size) 0 (by rfl) 40 4 [.slice (some ⟨g4, 0, none⟩) l.length c4, .int .i16 tub, .int .i8 every, .int .i16 0] [.slice (some ⟨g4, 0, none⟩) l.length c4, .int .i16 tub, .int .i8 every, .int .i16 0] (by with_reducible repeat (first | exact HVG.out | refine Blk.alloc ?_ _ | refine Rw.alloc ?_ _ | refine Arg.alloc ?_ _ | apply below_alloc | refine Blk.drew ?_ | refine Rw.drew ?_ | refine Arg.drew ?_ | apply below_drew | refine Blk.drewN ?_ _ | refine Rw.drewN ?_ _ | refine Arg.drewN ?_ _ | apply pw_below_drewN)) (by rfl) (by rfl) _ Try.underlying40 (by rfl) (by kernel_rfl) ?_))
  refine (HMG.out _ _ _ (by with_reducible repeat (first | exact HR4.out | refine Blk.alloc ?_ _ | refine Rw.alloc ?_ _ | refine Arg.alloc ?_ _ | apply below_alloc | refine Blk.drew ?_ | refine Rw.drew ?_ | refine Arg.drew ?_ | apply below_drew | refine Blk.drewN ?_ _ | refine Rw.drewN ?_ _ | refine Arg.drewN ?_ _ | apply pw_below_drewN))).mono ?_
  rintro e w10 ⟨rfl, hR_, hg_⟩
  have hs_w10 := World.grownBy.size hg_
  (try simp at hs_w10)
  replace HI1 : Aside0 (Ir w10 w.heap.size (.slice A2 l.length cN1) l) := ⟨Ir.grown (by with_reducible repeat (first | exact HI1.out | refine Ir.alloc ?_ _ | refine Ir.drew ?_ | refine Ir.drewN ?_ _)) hg_ (.inr (fun h_ => by have := P_HI1.out _ h_; omega))⟩
  replace HI3 : Aside0 (Ir w10 w.heap.size (.slice A4 l.length cN3) (seqL 1 l.length)) := ⟨Ir.grown (by with_reducible repeat (first | exact HI3.out | refine Ir.alloc ?_ _ | refine Ir.drew ?_ | refine Ir.drewN ?_ _)) hg_ (.inr (fun h_ => by have := P_HI3.out _ h_; omega))⟩
  replace HI5 : Aside0 (Ir w10 w.heap.size (.slice A5 l.length cN5) l) := ⟨Ir.grown (by with_reducible repeat (first | exact HI5.out | refine Ir.alloc ?_ _ | refine Ir.drew ?_ | refine Ir.drewN ?_ _)) hg_ (.inr (fun h_ => by have := P_HI5.out _ h_; omega))⟩
  replace HV0 : Aside0 (Blk w10 (w2.heap.size) 40 [.slice (some ⟨g2, 0, none⟩) l.length c2, .int .i16 tub, .int .i8 every, .int .i16 0]) := ⟨Blk.grown (by with_reducible repeat (first | exact HV0.out | refine Blk.alloc ?_ _ | refine Rw.alloc ?_ _ | refine Arg.alloc ?_ _ | apply below_alloc | refine Blk.drew ?_ | refine Rw.drew ?_ | refine Arg.drew ?_ | apply below_drew | refine Blk.drewN ?_ _ | refine Rw.drewN ?_ _ | refine Arg.drewN ?_ _ | apply pw_below_drewN)) hg_ (by intro h_; injection h_ with h_; omega)⟩
  replace HVG : Aside0 (Blk w10 (w4.heap.size) 40 [.slice (some ⟨g4, 0, none⟩) l.length c4, .int .i16 tub, .int .i8 every, .int .i16 0]) := ⟨Blk.grown (by with_reducible repeat (first | exact HVG.out | refine Blk.alloc ?_ _ | refine Rw.alloc ?_ _ | refine Arg.alloc ?_ _ | apply below_alloc | refine Blk.drew ?_ | refine Rw.drew ?_ | refine Arg.drew ?_ | apply below_drew | refine Blk.drewN ?_ _ | refine Rw.drewN ?_ _ | refine Arg.drewN ?_ _ | apply pw_below_drewN)) hg_ (by intro h_; injection h_ with h_; omega)⟩
  replace HR2 : Aside0 (Rw w10 g2 l.length F) := ⟨Rw.grown (by with_reducible repeat (first | exact HR2.out | refine Blk.alloc ?_ _ | refine Rw.alloc ?_ _ | refine Arg.alloc ?_ _ | apply below_alloc | refine Blk.drew ?_ | refine Rw.drew ?_ | refine Arg.drew ?_ | apply below_drew | refine Blk.drewN ?_ _ | refine Rw.drewN ?_ _ | refine Arg.drewN ?_ _ | apply pw_below_drewN)) hg_ (by intro h_; injection h_ with h_; omega)⟩
  replace HW : Aside0 (Below w.heap.size w w10) := ⟨below_grown (by with_reducible repeat (first | exact HW.out | refine Blk.alloc ?_ _ | refine Rw.alloc ?_ _ | refine Arg.alloc ?_ _ | apply below_alloc | refine Blk.drew ?_ | refine Rw.drew ?_ | refine Arg.drew ?_ | apply below_drew | refine Blk.drewN ?_ _ | refine Rw.drewN ?_ _ | refine Arg.drewN ?_ _ | apply pw_below_drewN)) (by omega) (Below.size (by with_reducible repeat (first | exact HW.out | refine Blk.alloc ?_ _ | refine Rw.alloc ?_ _ | refine Arg.alloc ?_ _ | apply below_alloc | refine Blk.drew ?_ | refine Rw.drew ?_ | refine Arg.drew ?_ | apply below_drew | refine Blk.drewN ?_ _ | refine Rw.drewN ?_ _ | refine Arg.drewN ?_ _ | apply pw_below_drewN))) hg_⟩
  replace HR4 := Aside0.mk hR_
  clear hR_ hg_
  go_wp2_with (first | (refine wl_load (by rfl) 40 _ (by rfl) (w4.heap.size) 0 (by rfl) 40 4 [.slice (some ⟨g4, 0, none⟩) l.length c4, .int .i16 tub, .int .i8 every, .int .i16 0] [.slice (some ⟨g4, 0, none⟩) l.length c4, .int .i16 tub, .int .i8 every, .int .i16 0] (by with_reducible repeat (first | exact HVG.out | refine Blk.alloc ?_ _ | refine Rw.alloc ?_ _ | refine Arg.alloc ?_ _ | apply below_alloc | refine Blk.drew ?_ | refine Rw.drew ?_ | refine Arg.drew ?_ | apply below_drew | refine Blk.drewN ?_ _ | refine Rw.drewN ?_ _ | refine Arg.drewN ?_ _ | apply pw_below_drewN)) (by rfl) (by rfl) _ Try.underlying40 (by rfl) (by kernel_rfl) ?_))
  refine (HHG.out _ _ _ (by with_reducible repeat (first | exact HR4.out | refine Blk.alloc ?_ _ | refine Rw.alloc ?_ _ | refine Arg.alloc ?_ _ | apply below_alloc | refine Blk.drew ?_ | refine Rw.drew ?_ | refine Arg.drew ?_ | apply below_drew | refine Blk.drewN ?_ _ | refine Rw.drewN ?_ _ | refine Arg.drewN ?_ _ | apply pw_below_drewN))).mono ?_
  rintro e w11 ⟨rfl, hb⟩
  have hs_w11 := Below.size hb
  (try simp at hs_w11)
  replace HI1 : Aside0 (Ir w11 w.heap.size (.slice A2 l.length cN1) l) := ⟨Ir.below (by with_reducible repeat (first | exact HI1.out | refine Ir.alloc ?_ _ | refine Ir.drew ?_ | refine Ir.drewN ?_ _)) hb⟩
  replace HI3 : Aside0 (Ir w11 w.heap.size (.slice A4 l.length cN3) (seqL 1 l.length)) := ⟨Ir.below (by with_reducible repeat (first | exact HI3.out | refine Ir.alloc ?_ _ | refine Ir.drew ?_ | refine Ir.drewN ?_ _)) hb⟩
  replace HI5 : Aside0 (Ir w11 w.heap.size (.slice A5 l.length cN5) l) := ⟨Ir.below (by with_reducible repeat (first | exact HI5.out | refine Ir.alloc ?_ _ | refine Ir.drew ?_ | refine Ir.drewN ?_ _)) hb⟩
  replace HV0 : Aside0 (Blk w11 (w2.heap.size) 40 [.slice (some ⟨g2, 0, none⟩) l.length c2, .int .i16 tub, .int .i8 every, .int .i16 0]) := ⟨Blk.below (by with_reducible repeat (first | exact HV0.out | refine Blk.alloc ?_ _ | refine Rw.alloc ?_ _ | refine Arg.alloc ?_ _ | apply below_alloc | refine Blk.drew ?_ | refine Rw.drew ?_ | refine Arg.drew ?_ | apply below_drew | refine Blk.drewN ?_ _ | refine Rw.drewN ?_ _ | refine Arg.drewN ?_ _ | apply pw_below_drewN)) hb⟩
  replace HVG : Aside0 (Blk w11 (w4.heap.size) 40 [.slice (some ⟨g4, 0, none⟩) l.length c4, .int .i16 tub, .int .i8 every, .int .i16 0]) := ⟨Blk.below (by with_reducible repeat (first | exact HVG.out | refine Blk.alloc ?_ _ | refine Rw.alloc ?_ _ | refine Arg.alloc ?_ _ | apply below_alloc | refine Blk.drew ?_ | refine Rw.drew ?_ | refine Arg.drew ?_ | apply below_drew | refine Blk.drewN ?_ _ | refine Rw.drewN ?_ _ | refine Arg.drewN ?_ _ | apply pw_below_drewN)) hb⟩
  replace HR2 : Aside0 (Rw w11 g2 l.length F) := ⟨Rw.below (by with_reducible repeat (first | exact HR2.out | refine Blk.alloc ?_ _ | refine Rw.alloc ?_ _ | refine Arg.alloc ?_ _ | apply below_alloc | refine Blk.drew ?_ | refine Rw.drew ?_ | refine Arg.drew ?_ | apply below_drew | refine Blk.drewN ?_ _ | refine Rw.drewN ?_ _ | refine Arg.drewN ?_ _ | apply pw_below_drewN)) hb⟩
  replace HR4 : Aside0 (Rw w11 g4 l.length (markTo F 1 (25 * l.length))) := ⟨Rw.below (by with_reducible repeat (first | exact HR4.out | refine Blk.alloc ?_ _ | refine Rw.alloc ?_ _ | refine Arg.alloc ?_ _ | apply below_alloc | refine Blk.drew ?_ | refine Rw.drew ?_ | refine Arg.drew ?_ | apply below_drew | refine Blk.drewN ?_ _ | refine Rw.drewN ?_ _ | refine Arg.drewN ?_ _ | apply pw_below_drewN)) hb⟩
  replace HW : Aside0 (Below w.heap.size w w11) := ⟨below_step (by with_reducible repeat (first | exact HW.out | refine Blk.alloc ?_ _ | refine Rw.alloc ?_ _ | refine Arg.alloc ?_ _ | apply below_alloc | refine Blk.drew ?_ | refine Rw.drew ?_ | refine Arg.drew ?_ | apply below_drew | refine Blk.drewN ?_ _ | refine Rw.drewN ?_ _ | refine Arg.drewN ?_ _ | apply pw_below_drewN)) hb⟩
  clear hb
  go_wp2_with (fail)
  refine (HTI.out _ (Kd.C_below HL.out (by with_reducible repeat (first | exact HW.out | refine Blk.alloc ?_ _ | refine Rw.alloc ?_ _ | refine Arg.alloc ?_ _ | apply below_alloc | refine Blk.drew ?_ | refine Rw.drew ?_ | refine Arg.drew ?_ | apply below_drew | refine Blk.drewN ?_ _ | refine Rw.drewN ?_ _ | refine Arg.drewN ?_ _ | apply pw_below_drewN)))).mono ?_
  rintro e w12 ⟨A6, cN6, rfl, hc_HI6, hI_, hb⟩
  have P_HI6 : Aside0 (∀ k_, Value.ownBlock (.slice A6 l.length cN6) = some k_ → w11.heap.size + 0 ≤ k_ ∧ k_ < w12.heap.size) := ⟨fun k_ e_ => ⟨by have h_ := own_base hI_ k_ e_; (try simp at h_); omega, own_lt hI_ k_ e_⟩⟩
  replace hI_ := Ir.lower hI_ (Below.size (by with_reducible repeat (first | exact HW.out | refine Blk.alloc ?_ _ | refine Rw.alloc ?_ _ | refine Arg.alloc ?_ _ | apply below_alloc | refine Blk.drew ?_ | refine Rw.drew ?_ | refine Arg.drew ?_ | apply below_drew | refine Blk.drewN ?_ _ | refine Rw.drewN ?_ _ | refine Arg.drewN ?_ _ | apply pw_below_drewN)))
  have hs_w12 := Below.size hb
  (try simp at hs_w12)
  replace HI1 : Aside0 (Ir w12 w.heap.size (.slice A2 l.length cN1) l) := ⟨Ir.below (by with_reducible repeat (first | exact HI1.out | refine Ir.alloc ?_ _ | refine Ir.drew ?_ | refine Ir.drewN ?_ _)) hb⟩
  replace HI3 : Aside0 (Ir w12 w.heap.size (.slice A4 l.length cN3) (seqL 1 l.length)) := ⟨Ir.below (by with_reducible repeat (first | exact HI3.out | refine Ir.alloc ?_ _ | refine Ir.drew ?_ | refine Ir.drewN ?_ _)) hb⟩
  replace HI5 : Aside0 (Ir w12 w.heap.size (.slice A5 l.length cN5) l) := ⟨Ir.below (by with_reducible repeat (first | exact HI5.out | refine Ir.alloc ?_ _ | refine Ir.drew ?_ | refine Ir.drewN ?_ _)) hb⟩
  replace HV0 : Aside0 (Blk w12 (w2.heap.size) 40 [.slice (some ⟨g2, 0, none⟩) l.length c2, .int .i16 tub, .int .i8 every, .int .i16 0]) := ⟨Blk.below (by with_reducible repeat (first | exact HV0.out | refine Blk.alloc ?_ _ | refine Rw.alloc ?_ _ | refine Arg.alloc ?_ _ | apply below_alloc | refine Blk.drew ?_ | refine Rw.drew ?_ | refine Arg.drew ?_ | apply below_drew | refine Blk.drewN ?_ _ | refine Rw.drewN ?_ _ | refine Arg.drewN ?_ _ | apply pw_below_drewN)) hb⟩
  replace HVG : Aside0 (Blk w12 (w4.heap.size) 40 [.slice (some ⟨g4, 0, none⟩) l.length c4, .int .i16 tub, .int .i8 every, .int .i16 0]) := ⟨Blk.below (by with_reducible repeat (first | exact HVG.out | refine Blk.alloc ?_ _ | refine Rw.alloc ?_ _ | refine Arg.alloc ?_ _ | apply below_alloc | refine Blk.drew ?_ | refine Rw.drew ?_ | refine Arg.drew ?_ | apply below_drew | refine Blk.drewN ?_ _ | refine Rw.drewN ?_ _ | refine Arg.drewN ?_ _ | apply pw_below_drewN)) hb⟩
  replace HR2 : Aside0 (Rw w12 g2 l.length F) := ⟨Rw.below (by with_reducible repeat (first | exact HR2.out | refine Blk.alloc ?_ _ | refine Rw.alloc ?_ _ | refine Arg.alloc ?_ _ | apply below_alloc | refine Blk.drew ?_ | refine Rw.drew ?_ | refine Arg.drew ?_ | apply below_drew | refine Blk.drewN ?_ _ | refine Rw.drewN ?_ _ | refine Arg.drewN ?_ _ | apply pw_below_drewN)) hb⟩
  replace HR4 : Aside0 (Rw w12 g4 l.length (markTo F 1 (25 * l.length))) := ⟨Rw.below (by with_reducible repeat (first | exact HR4.out | refine Blk.alloc ?_ _ | refine Rw.alloc ?_ _ | refine Arg.alloc ?_ _ | apply below_alloc | refine Blk.drew ?_ | refine Rw.drew ?_ | refine Arg.drew ?_ | apply below_drew | refine Blk.drewN ?_ _ | refine Rw.drewN ?_ _ | refine Arg.drewN ?_ _ | apply pw_below_drewN)) hb⟩
  replace HW : Aside0 (Below w.heap.size w w12) := ⟨below_step (by with_reducible repeat (first | exact HW.out | refine Blk.alloc ?_ _ | refine Rw.alloc ?_ _ | refine Arg.alloc ?_ _ | apply below_alloc | refine Blk.drew ?_ | refine Rw.drew ?_ | refine Arg.drew ?_ | apply below_drew | refine Blk.drewN ?_ _ | refine Rw.drewN ?_ _ | refine Arg.drewN ?_ _ | apply pw_below_drewN)) hb⟩
  clear hb
  have HI6 : Aside0 (Ir w12 w.heap.size (.slice A6 l.length cN6) l) := ⟨hI_⟩
  clear hI_
  go_wp2_with (fail)
  refine (HIM.out _ _ _ (Ir.nda (base := w.heap.size) (by with_reducible repeat (first | exact HI6.out | refine Ir.alloc ?_ _ | refine Ir.drew ?_ | refine Ir.drewN ?_ _))) hc_HI6).mono ?_
  rintro e w13 ⟨g6, c6, rfl, hg_, hR_, hb⟩
  have lo_g6 := hg_
  (try simp at lo_g6)
  have hi_g6 := Rw.lt hR_
  have hs_w13 := Below.size hb
  (try simp at hs_w13)
  replace HI1 : Aside0 (Ir w13 w.heap.size (.slice A2 l.length cN1) l) := ⟨Ir.below (by with_reducible repeat (first | exact HI1.out | refine Ir.alloc ?_ _ | refine Ir.drew ?_ | refine Ir.drewN ?_ _)) hb⟩
  replace HI3 : Aside0 (Ir w13 w.heap.size (.slice A4 l.length cN3) (seqL 1 l.length)) := ⟨Ir.below (by with_reducible repeat (first | exact HI3.out | refine Ir.alloc ?_ _ | refine Ir.drew ?_ | refine Ir.drewN ?_ _)) hb⟩
  replace HI5 : Aside0 (Ir w13 w.heap.size (.slice A5 l.length cN5) l) := ⟨Ir.below (by with_reducible repeat (first | exact HI5.out | refine Ir.alloc ?_ _ | refine Ir.drew ?_ | refine Ir.drewN ?_ _)) hb⟩
  replace HI6 : Aside0 (Ir w13 w.heap.size (.slice A6 l.length cN6) l) := ⟨Ir.below (by with_reducible repeat (first | exact HI6.out | refine Ir.alloc ?_ _ | refine Ir.drew ?_ | refine Ir.drewN ?_ _)) hb⟩
  replace HV0 : Aside0 (Blk w13 (w2.heap.size) 40 [.slice (some ⟨g2, 0, none⟩) l.length c2, .int .i16 tub, .int .i8 every, .int .i16 0]) := ⟨Blk.below (by with_reducible repeat (first | exact HV0.out | refine Blk.alloc ?_ _ | refine Rw.alloc ?_ _ | refine Arg.alloc ?_ _ | apply below_alloc | refine Blk.drew ?_ | refine Rw.drew ?_ | refine Arg.drew ?_ | apply below_drew | refine Blk.drewN ?_ _ | refine Rw.drewN ?_ _ | refine Arg.drewN ?_ _ | apply pw_below_drewN)) hb⟩
  replace HVG : Aside0 (Blk w13 (w4.heap.size) 40 [.slice (some ⟨g4, 0, none⟩) l.length c4, .int .i16 tub, .int .i8 every, .int .i16 0]) := ⟨Blk.below (by with_reducible repeat (first | exact HVG.out | refine Blk.alloc ?_ _ | refine Rw.alloc ?_ _ | refine Arg.alloc ?_ _ | apply below_alloc | refine Blk.drew ?_ | refine Rw.drew ?_ | refine Arg.drew ?_ | apply below_drew | refine Blk.drewN ?_ _ | refine Rw.drewN ?_ _ | refine Arg.drewN ?_ _ | apply pw_below_drewN)) hb⟩
  replace HR2 : Aside0 (Rw w13 g2 l.length F) := ⟨Rw.below (by with_reducible repeat (first | exact HR2.out | refine Blk.alloc ?_ _ | refine Rw.alloc ?_ _ | refine Arg.alloc ?_ _ | apply below_alloc | refine Blk.drew ?_ | refine Rw.drew ?_ | refine Arg.drew ?_ | apply below_drew | refine Blk.drewN ?_ _ | refine Rw.drewN ?_ _ | refine Arg.drewN ?_ _ | apply pw_below_drewN)) hb⟩
  replace HR4 : Aside0 (Rw w13 g4 l.length (markTo F 1 (25 * l.length))) := ⟨Rw.below (by with_reducible repeat (first | exact HR4.out | refine Blk.alloc ?_ _ | refine Rw.alloc ?_ _ | refine Arg.alloc ?_ _ | apply below_alloc | refine Blk.drew ?_ | refine Rw.drew ?_ | refine Arg.drew ?_ | apply below_drew | refine Blk.drewN ?_ _ | refine Rw.drewN ?_ _ | refine Arg.drewN ?_ _ | apply pw_below_drewN)) hb⟩
  replace HW : Aside0 (Below w.heap.size w w13) := ⟨below_step (by with_reducible repeat (first | exact HW.out | refine Blk.alloc ?_ _ | refine Rw.alloc ?_ _ | refine Arg.alloc ?_ _ | apply below_alloc | refine Blk.drew ?_ | refine Rw.drew ?_ | refine Arg.drew ?_ | apply below_drew | refine Blk.drewN ?_ _ | refine Rw.drewN ?_ _ | refine Arg.drewN ?_ _ | apply pw_below_drewN)) hb⟩
  clear hb
  have HR6 := Aside0.mk hR_
  clear hR_ hg_
  go_wp2_with (first | (refine wl_load (by rfl) 40 _ (by rfl) (w2.heap.size) 0 (by rfl) 40 4 [.slice (some ⟨g2, 0, none⟩) l.length c2, .int .i16 tub, .int .i8 every, .int .i16 0] [.slice (some ⟨g2, 0, none⟩) l.length c2, .int .i16 tub, .int .i8 every, .int .i16 0] (by with_reducible repeat (first | exact HV0.out | refine Blk.alloc ?_ _ | refine Rw.alloc ?_ _ | refine Arg.alloc ?_ _ | apply below_alloc | refine Blk.drew ?_ | refine Rw.drew ?_ | refine Arg.drew ?_ | apply below_drew | refine Blk.drewN ?_ _ | refine Rw.drewN ?_ _ | refine Arg.drewN ?_ _ | apply pw_below_drewN)) (by rfl) (by rfl) _ Try.underlying40 (by rfl) (by kernel_rfl) ?_))
  refine (HEQ.out _ _ _ _ _ (Arg.of_rw (by with_reducible repeat (first | exact HR6.out | refine Blk.alloc ?_ _ | refine Rw.alloc ?_ _ | refine Arg.alloc ?_ _ | apply below_alloc | refine Blk.drew ?_ | refine Rw.drew ?_ | refine Arg.drew ?_ | apply below_drew | refine Blk.drewN ?_ _ | refine Rw.drewN ?_ _ | refine Arg.drewN ?_ _ | apply pw_below_drewN))) (Arg.of_rw (by with_reducible repeat (first | exact HR2.out | refine Blk.alloc ?_ _ | refine Rw.alloc ?_ _ | refine Arg.alloc ?_ _ | apply below_alloc | refine Blk.drew ?_ | refine Rw.drew ?_ | refine Arg.drew ?_ | apply below_drew | refine Blk.drewN ?_ _ | refine Rw.drewN ?_ _ | refine Arg.drewN ?_ _ | apply pw_below_drewN)))).mono ?_
  rintro e w14 ⟨rfl, hb⟩
  have hs_w14 := Below.size hb
  (try simp at hs_w14)
  replace HI1 : Aside0 (Ir w14 w.heap.size (.slice A2 l.length cN1) l) := ⟨Ir.below (by with_reducible repeat (first | exact HI1.out | refine Ir.alloc ?_ _ | refine Ir.drew ?_ | refine Ir.drewN ?_ _)) hb⟩
  replace HI3 : Aside0 (Ir w14 w.heap.size (.slice A4 l.length cN3) (seqL 1 l.length)) := ⟨Ir.below (by with_reducible repeat (first | exact HI3.out | refine Ir.alloc ?_ _ | refine Ir.drew ?_ | refine Ir.drewN ?_ _)) hb⟩
  replace HI5 : Aside0 (Ir w14 w.heap.size (.slice A5 l.length cN5) l) := ⟨Ir.below (by with_reducible repeat (first | exact HI5.out | refine Ir.alloc ?_ _ | refine Ir.drew ?_ | refine Ir.drewN ?_ _)) hb⟩
  replace HI6 : Aside0 (Ir w14 w.heap.size (.slice A6 l.length cN6) l) := ⟨Ir.below (by with_reducible repeat (first | exact HI6.out | refine Ir.alloc ?_ _ | refine Ir.drew ?_ | refine Ir.drewN ?_ _)) hb⟩
  replace HV0 : Aside0 (Blk w14 (w2.heap.size) 40 [.slice (some ⟨g2, 0, none⟩) l.length c2, .int .i16 tub, .int .i8 every, .int .i16 0]) := ⟨Blk.below (by with_reducible repeat (first | exact HV0.out | refine Blk.alloc ?_ _ | refine Rw.alloc ?_ _ | refine Arg.alloc ?_ _ | apply below_alloc | refine Blk.drew ?_ | refine Rw.drew ?_ | refine Arg.drew ?_ | apply below_drew | refine Blk.drewN ?_ _ | refine Rw.drewN ?_ _ | refine Arg.drewN ?_ _ | apply pw_below_drewN)) hb⟩
  replace HVG : Aside0 (Blk w14 (w4.heap.size) 40 [.slice (some ⟨g4, 0, none⟩) l.length c4, .int .i16 tub, .int .i8 every, .int .i16 0]) := ⟨Blk.below (by with_reducible repeat (first | exact HVG.out | refine Blk.alloc ?_ _ | refine Rw.alloc ?_ _ | refine Arg.alloc ?_ _ | apply below_alloc | refine Blk.drew ?_ | refine Rw.drew ?_ | refine Arg.drew ?_ | apply below_drew | refine Blk.drewN ?_ _ | refine Rw.drewN ?_ _ | refine Arg.drewN ?_ _ | apply pw_below_drewN)) hb⟩
  replace HR2 : Aside0 (Rw w14 g2 l.length F) := ⟨Rw.below (by with_reducible repeat (first | exact HR2.out | refine Blk.alloc ?_ _ | refine Rw.alloc ?_ _ | refine Arg.alloc ?_ _ | apply below_alloc | refine Blk.drew ?_ | refine Rw.drew ?_ | refine Arg.drew ?_ | apply below_drew | refine Blk.drewN ?_ _ | refine Rw.drewN ?_ _ | refine Arg.drewN ?_ _ | apply pw_below_drewN)) hb⟩
  replace HR4 : Aside0 (Rw w14 g4 l.length (markTo F 1 (25 * l.length))) := ⟨Rw.below (by with_reducible repeat (first | exact HR4.out | refine Blk.alloc ?_ _ | refine Rw.alloc ?_ _ | refine Arg.alloc ?_ _ | apply below_alloc | refine Blk.drew ?_ | refine Rw.drew ?_ | refine Arg.drew ?_ | apply below_drew | refine Blk.drewN ?_ _ | refine Rw.drewN ?_ _ | refine Arg.drewN ?_ _ | apply pw_below_drewN)) hb⟩
  replace HR6 : Aside0 (Rw w14 g6 l.length F) := ⟨Rw.below (by with_reducible repeat (first | exact HR6.out | refine Blk.alloc ?_ _ | refine Rw.alloc ?_ _ | refine Arg.alloc ?_ _ | apply below_alloc | refine Blk.drew ?_ | refine Rw.drew ?_ | refine Arg.drew ?_ | apply below_drew | refine Blk.drewN ?_ _ | refine Rw.drewN ?_ _ | refine Arg.drewN ?_ _ | apply pw_below_drewN)) hb⟩
  have HVH : Aside0 (Blk w14 (w13.heap.size) 40 [.slice (some ⟨g6, 0, none⟩) l.length c6, .int .i16 tub, .int .i8 every, .int .i16 0]) := ⟨Blk.below (by repeat (first | exact Blk.at_ (by simp) rfl | refine Blk.alloc ?_ _)) hb⟩
  replace HW : Aside0 (Below w.heap.size w w14) := ⟨below_step (by with_reducible repeat (first | exact HW.out | refine Blk.alloc ?_ _ | refine Rw.alloc ?_ _ | refine Arg.alloc ?_ _ | apply below_alloc | refine Blk.drew ?_ | refine Rw.drew ?_ | refine Arg.drew ?_ | apply below_drew | refine Blk.drewN ?_ _ | refine Rw.drewN ?_ _ | refine Arg.drewN ?_ _ | apply pw_below_drewN)) hb⟩
  clear hb
  go_wp2_with (first | (refine wl_load (by rfl) 40 _ (by rfl) (w4.heap.size) 0 (by rfl) 40 4 [.slice (some ⟨g4, 0, none⟩) l.length c4, .int .i16 tub, .int .i8 every, .int .i16 0] [.slice (some ⟨g4, 0, none⟩) l.length c4, .int .i16 tub, .int .i8 every, .int .i16 0] (by with_reducible repeat (first | exact HVG.out | refine Blk.alloc ?_ _ | refine Rw.alloc ?_ _ | refine Arg.alloc ?_ _ | apply below_alloc | refine Blk.drew ?_ | refine Rw.drew ?_ | refine Arg.drew ?_ | apply below_drew | refine Blk.drewN ?_ _ | refine Rw.drewN ?_ _ | refine Arg.drewN ?_ _ | apply pw_below_drewN)) (by rfl) (by rfl) _ Try.underlying40 (by rfl) (by kernel_rfl) ?_))
  refine (HHG.out _ _ _ (by with_reducible repeat (first | exact HR4.out | refine Blk.alloc ?_ _ | refine Rw.alloc ?_ _ | refine Arg.alloc ?_ _ | apply below_alloc | refine Blk.drew ?_ | refine Rw.drew ?_ | refine Arg.drew ?_ | apply below_drew | refine Blk.drewN ?_ _ | refine Rw.drewN ?_ _ | refine Arg.drewN ?_ _ | apply pw_below_drewN))).mono ?_
  rintro e w15 ⟨rfl, hb⟩
  have hs_w15 := Below.size hb
  (try simp at hs_w15)
  replace HI1 : Aside0 (Ir w15 w.heap.size (.slice A2 l.length cN1) l) := ⟨Ir.below (by with_reducible repeat (first | exact HI1.out | refine Ir.alloc ?_ _ | refine Ir.drew ?_ | refine Ir.drewN ?_ _)) hb⟩
  replace HI3 : Aside0 (Ir w15 w.heap.size (.slice A4 l.length cN3) (seqL 1 l.length)) := ⟨Ir.below (by with_reducible repeat (first | exact HI3.out | refine Ir.alloc ?_ _ | refine Ir.drew ?_ | refine Ir.drewN ?_ _)) hb⟩
  replace HI5 : Aside0 (Ir w15 w.heap.size (.slice A5 l.length cN5) l) := ⟨Ir.below (by with_reducible repeat (first | exact HI5.out | refine Ir.alloc ?_ _ | refine Ir.drew ?_ | refine Ir.drewN ?_ _)) hb⟩
  replace HI6 : Aside0 (Ir w15 w.heap.size (.slice A6 l.length cN6) l) := ⟨Ir.below (by with_reducible repeat (first | exact HI6.out | refine Ir.alloc ?_ _ | refine Ir.drew ?_ | refine Ir.drewN ?_ _)) hb⟩
  replace HV0 : Aside0 (Blk w15 (w2.heap.size) 40 [.slice (some ⟨g2, 0, none⟩) l.length c2, .int .i16 tub, .int .i8 every, .int .i16 0]) := ⟨Blk.below (by with_reducible repeat (first | exact HV0.out | refine Blk.alloc ?_ _ | refine Rw.alloc ?_ _ | refine Arg.alloc ?_ _ | apply below_alloc | refine Blk.drew ?_ | refine Rw.drew ?_ | refine Arg.drew ?_ | apply below_drew | refine Blk.drewN ?_ _ | refine Rw.drewN ?_ _ | refine Arg.drewN ?_ _ | apply pw_below_drewN)) hb⟩
  replace HVG : Aside0 (Blk w15 (w4.heap.size) 40 [.slice (some ⟨g4, 0, none⟩) l.length c4, .int .i16 tub, .int .i8 every, .int .i16 0]) := ⟨Blk.below (by with_reducible repeat (first | exact HVG.out | refine Blk.alloc ?_ _ | refine Rw.alloc ?_ _ | refine Arg.alloc ?_ _ | apply below_alloc | refine Blk.drew ?_ | refine Rw.drew ?_ | refine Arg.drew ?_ | apply below_drew | refine Blk.drewN ?_ _ | refine Rw.drewN ?_ _ | refine Arg.drewN ?_ _ | apply pw_below_drewN)) hb⟩
  replace HVH : Aside0 (Blk w15 (w13.heap.size) 40 [.slice (some ⟨g6, 0, none⟩) l.length c6, .int .i16 tub, .int .i8 every, .int .i16 0]) := ⟨Blk.below (by with_reducible repeat (first | exact HVH.out | refine Blk.alloc ?_ _ | refine Rw.alloc ?_ _ | refine Arg.alloc ?_ _ | apply below_alloc | refine Blk.drew ?_ | refine Rw.drew ?_ | refine Arg.drew ?_ | apply below_drew | refine Blk.drewN ?_ _ | refine Rw.drewN ?_ _ | refine Arg.drewN ?_ _ | apply pw_below_drewN)) hb⟩
  replace HR2 : Aside0 (Rw w15 g2 l.length F) := ⟨Rw.below (by with_reducible repeat (first | exact HR2.out | refine Blk.alloc ?_ _ | refine Rw.alloc ?_ _ | refine Arg.alloc ?_ _ | apply below_alloc | refine Blk.drew ?_ | refine Rw.drew ?_ | refine Arg.drew ?_ | apply below_drew | refine Blk.drewN ?_ _ | refine Rw.drewN ?_ _ | refine Arg.drewN ?_ _ | apply pw_below_drewN)) hb⟩
  replace HR4 : Aside0 (Rw w15 g4 l.length (markTo F 1 (25 * l.length))) := ⟨Rw.below (by with_reducible repeat (first | exact HR4.out | refine Blk.alloc ?_ _ | refine Rw.alloc ?_ _ | refine Arg.alloc ?_ _ | apply below_alloc | refine Blk.drew ?_ | refine Rw.drew ?_ | refine Arg.drew ?_ | apply below_drew | refine Blk.drewN ?_ _ | refine Rw.drewN ?_ _ | refine Arg.drewN ?_ _ | apply pw_below_drewN)) hb⟩
  replace HR6 : Aside0 (Rw w15 g6 l.length F) := ⟨Rw.below (by with_reducible repeat (first | exact HR6.out | refine Blk.alloc ?_ _ | refine Rw.alloc ?_ _ | refine Arg.alloc ?_ _ | apply below_alloc | refine Blk.drew ?_ | refine Rw.drew ?_ | refine Arg.drew ?_ | apply below_drew | refine Blk.drewN ?_ _ | refine Rw.drewN ?_ _ | refine Arg.drewN ?_ _ | apply pw_below_drewN)) hb⟩
  replace HW : Aside0 (Below w.heap.size w w15) := ⟨below_step (by with_reducible repeat (first | exact HW.out | refine Blk.alloc ?_ _ | refine Rw.alloc ?_ _ | refine Arg.alloc ?_ _ | apply below_alloc | refine Blk.drew ?_ | refine Rw.drew ?_ | refine Arg.drew ?_ | apply below_drew | refine Blk.drewN ?_ _ | refine Rw.drewN ?_ _ | refine Arg.drewN ?_ _ | apply pw_below_drewN)) hb⟩
  clear hb
  go_wp2
  go_ret
  exact ⟨rfl, HW.out⟩
set_option maxHeartbeats 8000000 in
set_option maxRecDepth 100000 in
theorem lawNH_bad (A1 : Option Addr) (c1 : Nat) (l : List Int) (tub every : Int)  (hl : l.length ≤ 1048576) (hc1 : l.length ≤ c1) (hsp : (∀ (A : Option Addr) (cN : Nat) (W : World), NdA W A l.length (fun k => l.getD k 0) → l.length ≤ cN → Calls Try.prog 29 #[.slice A l.length cN, .int .i64 tub, .int .i64 every] W fun e w' => e = .returned (.tuple #[.agg #[.slice none 0 0, .int .i16 0, .int .i8 0, .int .i16 0], .int .i64 2]) ∧ Below W.heap.size W w')) (him : (∀ (A : Option Addr) (cN : Nat) (W : World), NdA W A l.length (fun k => l.getD k 0) → l.length ≤ cN → Calls Try.prog 31 #[.slice A l.length cN, .int .i64 tub, .int .i64 every] W fun e w' => e = .returned (.tuple #[.agg #[.slice none 0 0, .int .i16 0, .int .i8 0, .int .i16 0], .int .i64 2]) ∧ Below W.heap.size W w')) (w : World) (hL : (Kd.int .i64).C w A1 l.length l) :
    Calls Try.prog 7 #[.slice A1 l.length c1, .int .i64 tub, .int .i64 every] w fun e w' => e = .returned (.bool true) ∧ Below w.heap.size w w' := by
  have HL := Aside0.mk hL
  have HW : Aside0 (Below w.heap.size w w) := ⟨Below.refl _ _⟩
  have HTI := Aside0.mk (fun W h => toI2_calls A1 c1 l hl hc1 W h)
  have HEI := Aside0.mk (fun v v' b b' W h h' => eqI_calls v v' l b b' hl W h h')
  have HSP := Aside0.mk hsp
  have HIM := Aside0.mk him
  have hlen : ¬ ((1048576 : Int) < (l.length : Int)) := by omega
  have hlen2 : decide ((1048576 : Int) < (l.length : Int)) = false := decide_eq_false (by omega)
  have HEQ := Aside0.mk (fun W => eqHouse_calls none none 0 0 0 (fun _ => 0) (fun _ => 0) 0 0 0 W (by decide) Arg.nil Arg.nil (fun i hi => rfl))
  have HMG := Aside0.mk (fun W => markHouseN_calls none 0 0 0 0 1 (by decide) W)
  have HHG := Aside0.mk (fun W => heldHouseN_calls none 0 0 0 0 1 (by decide) W)
  have HM3 := Aside0.mk (fun v W hB h => markI_calls v l 1 (by decide) (by decide) hl w W hB h)
  have hk3 : 0 ≤ 1 + (l.length : Int) := by omega
  obtain ⟨km3, hkm3⟩ : ∃ km3, 1 + (l.length : Int) = km3 := ⟨_, rfl⟩
  rw [hkm3] at HM3 hk3
  clear hkm3 hL hsp him
  go_enter Try.func7, Try.ntmps7
  go_wp2_with (fail)
  refine (HTI.out _ (Kd.C_below HL.out (by with_reducible repeat (first | exact HW.out | refine Blk.alloc ?_ _ | refine Rw.alloc ?_ _ | refine Arg.alloc ?_ _ | apply below_alloc | refine Blk.drew ?_ | refine Rw.drew ?_ | refine Arg.drew ?_ | apply below_drew | refine Blk.drewN ?_ _ | refine Rw.drewN ?_ _ | refine Arg.drewN ?_ _ | apply pw_below_drewN)))).mono ?_
  rintro e w1 ⟨A2, cN1, rfl, hc_HI1, hI_, hb⟩
  have P_HI1 : Aside0 (∀ k_, Value.ownBlock (.slice A2 l.length cN1) = some k_ → w.heap.size + 0 ≤ k_ ∧ k_ < w1.heap.size) := ⟨fun k_ e_ => ⟨by have h_ := own_base hI_ k_ e_; (try simp at h_); omega, own_lt hI_ k_ e_⟩⟩
  replace hI_ := Ir.lower hI_ (Below.size (by with_reducible repeat (first | exact HW.out | refine Blk.alloc ?_ _ | refine Rw.alloc ?_ _ | refine Arg.alloc ?_ _ | apply below_alloc | refine Blk.drew ?_ | refine Rw.drew ?_ | refine Arg.drew ?_ | apply below_drew | refine Blk.drewN ?_ _ | refine Rw.drewN ?_ _ | refine Arg.drewN ?_ _ | apply pw_below_drewN)))
  have hs_w1 := Below.size hb
  (try simp at hs_w1)
  replace HW : Aside0 (Below w.heap.size w w1) := ⟨below_step (by with_reducible repeat (first | exact HW.out | refine Blk.alloc ?_ _ | refine Rw.alloc ?_ _ | refine Arg.alloc ?_ _ | apply below_alloc | refine Blk.drew ?_ | refine Rw.drew ?_ | refine Arg.drew ?_ | apply below_drew | refine Blk.drewN ?_ _ | refine Rw.drewN ?_ _ | refine Arg.drewN ?_ _ | apply pw_below_drewN)) hb⟩
  clear hb
  have HI1 : Aside0 (Ir w1 w.heap.size (.slice A2 l.length cN1) l) := ⟨hI_⟩
  clear hI_
  go_wp2_with (fail)
  refine (HSP.out _ _ _ (Ir.nda (base := w.heap.size) (by with_reducible repeat (first | exact HI1.out | refine Ir.alloc ?_ _ | refine Ir.drew ?_ | refine Ir.drewN ?_ _))) hc_HI1).mono ?_
  rintro e w2 ⟨rfl, hb⟩
  have hs_w2 := Below.size hb
  (try simp at hs_w2)
  replace HI1 : Aside0 (Ir w2 w.heap.size (.slice A2 l.length cN1) l) := ⟨Ir.below (by with_reducible repeat (first | exact HI1.out | refine Ir.alloc ?_ _ | refine Ir.drew ?_ | refine Ir.drewN ?_ _)) hb⟩
  replace HW : Aside0 (Below w.heap.size w w2) := ⟨below_step (by with_reducible repeat (first | exact HW.out | refine Blk.alloc ?_ _ | refine Rw.alloc ?_ _ | refine Arg.alloc ?_ _ | apply below_alloc | refine Blk.drew ?_ | refine Rw.drew ?_ | refine Arg.drew ?_ | apply below_drew | refine Blk.drewN ?_ _ | refine Rw.drewN ?_ _ | refine Arg.drewN ?_ _ | apply pw_below_drewN)) hb⟩
  clear hb
  go_wp2_with (fail)
  refine (HTI.out _ (Kd.C_below HL.out (by with_reducible repeat (first | exact HW.out | refine Blk.alloc ?_ _ | refine Rw.alloc ?_ _ | refine Arg.alloc ?_ _ | apply below_alloc | refine Blk.drew ?_ | refine Rw.drew ?_ | refine Arg.drew ?_ | apply below_drew | refine Blk.drewN ?_ _ | refine Rw.drewN ?_ _ | refine Arg.drewN ?_ _ | apply pw_below_drewN)))).mono ?_
  rintro e w3 ⟨A4, cN3, rfl, hc_HI3, hI_, hb⟩
  have P_HI3 : Aside0 (∀ k_, Value.ownBlock (.slice A4 l.length cN3) = some k_ → w2.heap.size + 1 ≤ k_ ∧ k_ < w3.heap.size) := ⟨fun k_ e_ => ⟨by have h_ := own_base hI_ k_ e_; (try simp at h_); omega, own_lt hI_ k_ e_⟩⟩
  replace hI_ := Ir.lower hI_ (Below.size (by with_reducible repeat (first | exact HW.out | refine Blk.alloc ?_ _ | refine Rw.alloc ?_ _ | refine Arg.alloc ?_ _ | apply below_alloc | refine Blk.drew ?_ | refine Rw.drew ?_ | refine Arg.drew ?_ | apply below_drew | refine Blk.drewN ?_ _ | refine Rw.drewN ?_ _ | refine Arg.drewN ?_ _ | apply pw_below_drewN)))
  have hs_w3 := Below.size hb
  (try simp at hs_w3)
  replace HI1 : Aside0 (Ir w3 w.heap.size (.slice A2 l.length cN1) l) := ⟨Ir.below (by with_reducible repeat (first | exact HI1.out | refine Ir.alloc ?_ _ | refine Ir.drew ?_ | refine Ir.drewN ?_ _)) hb⟩
  have HV0 : Aside0 (Blk w3 (w2.heap.size) 40 [.slice none 0 0, .int .i16 0, .int .i8 0, .int .i16 0]) := ⟨Blk.below (by repeat (first | exact Blk.at_ (by simp) rfl | refine Blk.alloc ?_ _)) hb⟩
  replace HW : Aside0 (Below w.heap.size w w3) := ⟨below_step (by with_reducible repeat (first | exact HW.out | refine Blk.alloc ?_ _ | refine Rw.alloc ?_ _ | refine Arg.alloc ?_ _ | apply below_alloc | refine Blk.drew ?_ | refine Rw.drew ?_ | refine Arg.drew ?_ | apply below_drew | refine Blk.drewN ?_ _ | refine Rw.drewN ?_ _ | refine Arg.drewN ?_ _ | apply pw_below_drewN)) hb⟩
  clear hb
  have HI3 : Aside0 (Ir w3 w.heap.size (.slice A4 l.length cN3) l) := ⟨hI_⟩
  clear hI_
  go_wp2_with (fail)
  refine (HIM.out _ _ _ (Ir.nda (base := w.heap.size) (by with_reducible repeat (first | exact HI3.out | refine Ir.alloc ?_ _ | refine Ir.drew ?_ | refine Ir.drewN ?_ _))) hc_HI3).mono ?_
  rintro e w4 ⟨rfl, hb⟩
  have hs_w4 := Below.size hb
  (try simp at hs_w4)
  replace HI1 : Aside0 (Ir w4 w.heap.size (.slice A2 l.length cN1) l) := ⟨Ir.below (by with_reducible repeat (first | exact HI1.out | refine Ir.alloc ?_ _ | refine Ir.drew ?_ | refine Ir.drewN ?_ _)) hb⟩
  replace HI3 : Aside0 (Ir w4 w.heap.size (.slice A4 l.length cN3) l) := ⟨Ir.below (by with_reducible repeat (first | exact HI3.out | refine Ir.alloc ?_ _ | refine Ir.drew ?_ | refine Ir.drewN ?_ _)) hb⟩
  replace HV0 : Aside0 (Blk w4 (w2.heap.size) 40 [.slice none 0 0, .int .i16 0, .int .i8 0, .int .i16 0]) := ⟨Blk.below (by with_reducible repeat (first | exact HV0.out | refine Blk.alloc ?_ _ | refine Rw.alloc ?_ _ | refine Arg.alloc ?_ _ | apply below_alloc | refine Blk.drew ?_ | refine Rw.drew ?_ | refine Arg.drew ?_ | apply below_drew | refine Blk.drewN ?_ _ | refine Rw.drewN ?_ _ | refine Arg.drewN ?_ _ | apply pw_below_drewN)) hb⟩
  replace HW : Aside0 (Below w.heap.size w w4) := ⟨below_step (by with_reducible repeat (first | exact HW.out | refine Blk.alloc ?_ _ | refine Rw.alloc ?_ _ | refine Arg.alloc ?_ _ | apply below_alloc | refine Blk.drew ?_ | refine Rw.drew ?_ | refine Arg.drew ?_ | apply below_drew | refine Blk.drewN ?_ _ | refine Rw.drewN ?_ _ | refine Arg.drewN ?_ _ | apply pw_below_drewN)) hb⟩
  clear hb
  go_wp2_with (first | (refine wl_load (by rfl) 40 _ (by rfl) (w2.heap.size) 0 (by rfl) 40 4 [.slice none 0 0, .int .i16 0, .int .i8 0, .int .i16 0] [.slice none 0 0, .int .i16 0, .int .i8 0, .int .i16 0] (by with_reducible repeat (first | exact HV0.out | refine Blk.alloc ?_ _ | refine Rw.alloc ?_ _ | refine Arg.alloc ?_ _ | apply below_alloc | refine Blk.drew ?_ | refine Rw.drew ?_ | refine Arg.drew ?_ | apply below_drew | refine Blk.drewN ?_ _ | refine Rw.drewN ?_ _ | refine Arg.drewN ?_ _ | apply pw_below_drewN)) (by rfl) (by rfl) _ Try.underlying40 (by rfl) (by kernel_rfl) ?_))
  refine (HEQ.out _).mono ?_
  rintro e w5 ⟨rfl, hb⟩
  have hs_w5 := Below.size hb
  (try simp at hs_w5)
  replace HI1 : Aside0 (Ir w5 w.heap.size (.slice A2 l.length cN1) l) := ⟨Ir.below (by with_reducible repeat (first | exact HI1.out | refine Ir.alloc ?_ _ | refine Ir.drew ?_ | refine Ir.drewN ?_ _)) hb⟩
  replace HI3 : Aside0 (Ir w5 w.heap.size (.slice A4 l.length cN3) l) := ⟨Ir.below (by with_reducible repeat (first | exact HI3.out | refine Ir.alloc ?_ _ | refine Ir.drew ?_ | refine Ir.drewN ?_ _)) hb⟩
  replace HV0 : Aside0 (Blk w5 (w2.heap.size) 40 [.slice none 0 0, .int .i16 0, .int .i8 0, .int .i16 0]) := ⟨Blk.below (by with_reducible repeat (first | exact HV0.out | refine Blk.alloc ?_ _ | refine Rw.alloc ?_ _ | refine Arg.alloc ?_ _ | apply below_alloc | refine Blk.drew ?_ | refine Rw.drew ?_ | refine Arg.drew ?_ | apply below_drew | refine Blk.drewN ?_ _ | refine Rw.drewN ?_ _ | refine Arg.drewN ?_ _ | apply pw_below_drewN)) hb⟩
  have HVG : Aside0 (Blk w5 (w4.heap.size) 40 [.slice none 0 0, .int .i16 0, .int .i8 0, .int .i16 0]) := ⟨Blk.below (by repeat (first | exact Blk.at_ (by simp) rfl | refine Blk.alloc ?_ _)) hb⟩
  replace HW : Aside0 (Below w.heap.size w w5) := ⟨below_step (by with_reducible repeat (first | exact HW.out | refine Blk.alloc ?_ _ | refine Rw.alloc ?_ _ | refine Arg.alloc ?_ _ | apply below_alloc | refine Blk.drew ?_ | refine Rw.drew ?_ | refine Arg.drew ?_ | apply below_drew | refine Blk.drewN ?_ _ | refine Rw.drewN ?_ _ | refine Arg.drewN ?_ _ | apply pw_below_drewN)) hb⟩
  clear hb
  go_wp2_with (fail)
  refine (HTI.out _ (Kd.C_below HL.out (by with_reducible repeat (first | exact HW.out | refine Blk.alloc ?_ _ | refine Rw.alloc ?_ _ | refine Arg.alloc ?_ _ | apply below_alloc | refine Blk.drew ?_ | refine Rw.drew ?_ | refine Arg.drew ?_ | apply below_drew | refine Blk.drewN ?_ _ | refine Rw.drewN ?_ _ | refine Arg.drewN ?_ _ | apply pw_below_drewN)))).mono ?_
  rintro e w6 ⟨A5, cN5, rfl, hc_HI5, hI_, hb⟩
  have P_HI5 : Aside0 (∀ k_, Value.ownBlock (.slice A5 l.length cN5) = some k_ → w5.heap.size + 0 ≤ k_ ∧ k_ < w6.heap.size) := ⟨fun k_ e_ => ⟨by have h_ := own_base hI_ k_ e_; (try simp at h_); omega, own_lt hI_ k_ e_⟩⟩
  replace hI_ := Ir.lower hI_ (Below.size (by with_reducible repeat (first | exact HW.out | refine Blk.alloc ?_ _ | refine Rw.alloc ?_ _ | refine Arg.alloc ?_ _ | apply below_alloc | refine Blk.drew ?_ | refine Rw.drew ?_ | refine Arg.drew ?_ | apply below_drew | refine Blk.drewN ?_ _ | refine Rw.drewN ?_ _ | refine Arg.drewN ?_ _ | apply pw_below_drewN)))
  have hs_w6 := Below.size hb
  (try simp at hs_w6)
  replace HI1 : Aside0 (Ir w6 w.heap.size (.slice A2 l.length cN1) l) := ⟨Ir.below (by with_reducible repeat (first | exact HI1.out | refine Ir.alloc ?_ _ | refine Ir.drew ?_ | refine Ir.drewN ?_ _)) hb⟩
  replace HI3 : Aside0 (Ir w6 w.heap.size (.slice A4 l.length cN3) l) := ⟨Ir.below (by with_reducible repeat (first | exact HI3.out | refine Ir.alloc ?_ _ | refine Ir.drew ?_ | refine Ir.drewN ?_ _)) hb⟩
  replace HV0 : Aside0 (Blk w6 (w2.heap.size) 40 [.slice none 0 0, .int .i16 0, .int .i8 0, .int .i16 0]) := ⟨Blk.below (by with_reducible repeat (first | exact HV0.out | refine Blk.alloc ?_ _ | refine Rw.alloc ?_ _ | refine Arg.alloc ?_ _ | apply below_alloc | refine Blk.drew ?_ | refine Rw.drew ?_ | refine Arg.drew ?_ | apply below_drew | refine Blk.drewN ?_ _ | refine Rw.drewN ?_ _ | refine Arg.drewN ?_ _ | apply pw_below_drewN)) hb⟩
  replace HVG : Aside0 (Blk w6 (w4.heap.size) 40 [.slice none 0 0, .int .i16 0, .int .i8 0, .int .i16 0]) := ⟨Blk.below (by with_reducible repeat (first | exact HVG.out | refine Blk.alloc ?_ _ | refine Rw.alloc ?_ _ | refine Arg.alloc ?_ _ | apply below_alloc | refine Blk.drew ?_ | refine Rw.drew ?_ | refine Arg.drew ?_ | apply below_drew | refine Blk.drewN ?_ _ | refine Rw.drewN ?_ _ | refine Arg.drewN ?_ _ | apply pw_below_drewN)) hb⟩
  replace HW : Aside0 (Below w.heap.size w w6) := ⟨below_step (by with_reducible repeat (first | exact HW.out | refine Blk.alloc ?_ _ | refine Rw.alloc ?_ _ | refine Arg.alloc ?_ _ | apply below_alloc | refine Blk.drew ?_ | refine Rw.drew ?_ | refine Arg.drew ?_ | apply below_drew | refine Blk.drewN ?_ _ | refine Rw.drewN ?_ _ | refine Arg.drewN ?_ _ | apply pw_below_drewN)) hb⟩
  clear hb
  have HI5 : Aside0 (Ir w6 w.heap.size (.slice A5 l.length cN5) l) := ⟨hI_⟩
  clear hI_
  go_wp2_with (fail)
  refine (HEI.out _ _ w.heap.size w.heap.size _ (by with_reducible repeat (first | exact HI3.out | refine Ir.alloc ?_ _ | refine Ir.drew ?_ | refine Ir.drewN ?_ _)) (by with_reducible repeat (first | exact HI5.out | refine Ir.alloc ?_ _ | refine Ir.drew ?_ | refine Ir.drewN ?_ _))).mono ?_
  rintro e w7 ⟨rfl, hb⟩
  have hs_w7 := Below.size hb
  (try simp at hs_w7)
  replace HI1 : Aside0 (Ir w7 w.heap.size (.slice A2 l.length cN1) l) := ⟨Ir.below (by with_reducible repeat (first | exact HI1.out | refine Ir.alloc ?_ _ | refine Ir.drew ?_ | refine Ir.drewN ?_ _)) hb⟩
  replace HI3 : Aside0 (Ir w7 w.heap.size (.slice A4 l.length cN3) l) := ⟨Ir.below (by with_reducible repeat (first | exact HI3.out | refine Ir.alloc ?_ _ | refine Ir.drew ?_ | refine Ir.drewN ?_ _)) hb⟩
  replace HI5 : Aside0 (Ir w7 w.heap.size (.slice A5 l.length cN5) l) := ⟨Ir.below (by with_reducible repeat (first | exact HI5.out | refine Ir.alloc ?_ _ | refine Ir.drew ?_ | refine Ir.drewN ?_ _)) hb⟩
  replace HV0 : Aside0 (Blk w7 (w2.heap.size) 40 [.slice none 0 0, .int .i16 0, .int .i8 0, .int .i16 0]) := ⟨Blk.below (by with_reducible repeat (first | exact HV0.out | refine Blk.alloc ?_ _ | refine Rw.alloc ?_ _ | refine Arg.alloc ?_ _ | apply below_alloc | refine Blk.drew ?_ | refine Rw.drew ?_ | refine Arg.drew ?_ | apply below_drew | refine Blk.drewN ?_ _ | refine Rw.drewN ?_ _ | refine Arg.drewN ?_ _ | apply pw_below_drewN)) hb⟩
  replace HVG : Aside0 (Blk w7 (w4.heap.size) 40 [.slice none 0 0, .int .i16 0, .int .i8 0, .int .i16 0]) := ⟨Blk.below (by with_reducible repeat (first | exact HVG.out | refine Blk.alloc ?_ _ | refine Rw.alloc ?_ _ | refine Arg.alloc ?_ _ | apply below_alloc | refine Blk.drew ?_ | refine Rw.drew ?_ | refine Arg.drew ?_ | apply below_drew | refine Blk.drewN ?_ _ | refine Rw.drewN ?_ _ | refine Arg.drewN ?_ _ | apply pw_below_drewN)) hb⟩
  replace HW : Aside0 (Below w.heap.size w w7) := ⟨below_step (by with_reducible repeat (first | exact HW.out | refine Blk.alloc ?_ _ | refine Rw.alloc ?_ _ | refine Arg.alloc ?_ _ | apply below_alloc | refine Blk.drew ?_ | refine Rw.drew ?_ | refine Arg.drew ?_ | apply below_drew | refine Blk.drewN ?_ _ | refine Rw.drewN ?_ _ | refine Arg.drewN ?_ _ | apply pw_below_drewN)) hb⟩
  clear hb
  go_wp2_with (fail)
  refine (HM3.out _ _ (by with_reducible repeat (first | exact HW.out | refine Blk.alloc ?_ _ | refine Rw.alloc ?_ _ | refine Arg.alloc ?_ _ | apply below_alloc | refine Blk.drew ?_ | refine Rw.drew ?_ | refine Arg.drew ?_ | apply below_drew | refine Blk.drewN ?_ _ | refine Rw.drewN ?_ _ | refine Arg.drewN ?_ _ | apply pw_below_drewN)) (by with_reducible repeat (first | exact HI3.out | refine Ir.alloc ?_ _ | refine Ir.drew ?_ | refine Ir.drewN ?_ _))).mono ?_
  rintro e w8 ⟨rfl, hI_, hB_, hk_⟩
  have hs_w8 := hk_.1
  (try simp at hs_w8)
  replace HV0 : Aside0 (Blk w8 (w2.heap.size) 40 [.slice none 0 0, .int .i16 0, .int .i8 0, .int .i16 0]) := ⟨Blk.keptK (by with_reducible repeat (first | exact HV0.out | refine Blk.alloc ?_ _ | refine Rw.alloc ?_ _ | refine Arg.alloc ?_ _ | apply below_alloc | refine Blk.drew ?_ | refine Rw.drew ?_ | refine Arg.drew ?_ | apply below_drew | refine Blk.drewN ?_ _ | refine Rw.drewN ?_ _ | refine Arg.drewN ?_ _ | apply pw_below_drewN)) hk_ (fun h_ => by have := P_HI3.out _ h_; omega)⟩
  replace HVG : Aside0 (Blk w8 (w4.heap.size) 40 [.slice none 0 0, .int .i16 0, .int .i8 0, .int .i16 0]) := ⟨Blk.keptK (by with_reducible repeat (first | exact HVG.out | refine Blk.alloc ?_ _ | refine Rw.alloc ?_ _ | refine Arg.alloc ?_ _ | apply below_alloc | refine Blk.drew ?_ | refine Rw.drew ?_ | refine Arg.drew ?_ | apply below_drew | refine Blk.drewN ?_ _ | refine Rw.drewN ?_ _ | refine Arg.drewN ?_ _ | apply pw_below_drewN)) hk_ (fun h_ => by have := P_HI3.out _ h_; omega)⟩
  replace HI1 : Aside0 (Ir w8 w.heap.size (.slice A2 l.length cN1) l) := ⟨Ir.kept (by with_reducible repeat (first | exact HI1.out | refine Ir.alloc ?_ _ | refine Ir.drew ?_ | refine Ir.drewN ?_ _)) hk_ (fun k_ e_ e2_ => by have h1_ := P_HI1.out _ e_; have h2_ := P_HI3.out _ e2_; omega)⟩
  replace HI5 : Aside0 (Ir w8 w.heap.size (.slice A5 l.length cN5) l) := ⟨Ir.kept (by with_reducible repeat (first | exact HI5.out | refine Ir.alloc ?_ _ | refine Ir.drew ?_ | refine Ir.drewN ?_ _)) hk_ (fun k_ e_ e2_ => by have h1_ := P_HI5.out _ e_; have h2_ := P_HI3.out _ e2_; omega)⟩
  replace HW : Aside0 (Below w.heap.size w w8) := ⟨hB_⟩
  replace HI3 : Aside0 (Ir w8 w.heap.size (.slice A4 l.length cN3) (seqL 1 l.length)) := ⟨hI_⟩
  clear hI_ hB_ hk_
  go_wp2_with (first | (refine wl_load (by rfl) 40 _ (by rfl) (w4.heap.size) 0 (by rfl) 40 4 [.slice none 0 0, .int .i16 0, .int .i8 0, .int .i16 0] [.slice none 0 0, .int .i16 0, .int .i8 0, .int .i16 0] (by with_reducible repeat (first | exact HVG.out | refine Blk.alloc ?_ _ | refine Rw.alloc ?_ _ | refine Arg.alloc ?_ _ | apply below_alloc | refine Blk.drew ?_ | refine Rw.drew ?_ | refine Arg.drew ?_ | apply below_drew | refine Blk.drewN ?_ _ | refine Rw.drewN ?_ _ | refine Arg.drewN ?_ _ | apply pw_below_drewN)) (by rfl) (by rfl) _ Try.underlying40 (by rfl) (by kernel_rfl) ?_) | (refine wl_load (by rfl) 40 _ (by rfl) (w2.heap.size) 0 (by rfl) 40 4 [.slice none 0 0, .int .i16 0, .int .i8 0, .int .i16 0] [.slice none 0 0, .int .i16 0, .int .i8 0, .int .i16 0] (by with_reducible repeat (first | exact HV0.out | refine Blk.alloc ?_ _ | refine Rw.alloc ?_ _ | refine Arg.alloc ?_ _ | apply below_alloc | refine Blk.drew ?_ | refine Rw.drew ?_ | refine Arg.drew ?_ | apply below_drew | refine Blk.drewN ?_ _ | refine Rw.drewN ?_ _ | refine Arg.drewN ?_ _ | apply pw_below_drewN)) (by rfl) (by rfl) _ Try.underlying40 (by rfl) (by kernel_rfl) ?_) | (refine wl_loadG (Eq.trans (b := (some (decide (km3 < 0)) == some false)) (by kernel_rfl) (by rw [decide_eq_false (by omega)]; rfl)) 40 _ (by rfl) (w4.heap.size) 0 (by rfl) 40 4 [.slice none 0 0, .int .i16 0, .int .i8 0, .int .i16 0] [.slice none 0 0, .int .i16 0, .int .i8 0, .int .i16 0] (by with_reducible repeat (first | exact HVG.out | refine Blk.alloc ?_ _ | refine Rw.alloc ?_ _ | refine Arg.alloc ?_ _ | apply below_alloc | refine Blk.drew ?_ | refine Rw.drew ?_ | refine Arg.drew ?_ | apply below_drew | refine Blk.drewN ?_ _ | refine Rw.drewN ?_ _ | refine Arg.drewN ?_ _ | apply pw_below_drewN)) (by rfl) (by rfl) _ Try.underlying40 (by rfl) (by kernel_rfl) ?_) | (refine wl_loadG (Eq.trans (b := (some (decide (km3 < 0)) == some false)) (by kernel_rfl) (by rw [decide_eq_false (by omega)]; rfl)) 40 _ (by rfl) (w2.heap.size) 0 (by rfl) 40 4 [.slice none 0 0, .int .i16 0, .int .i8 0, .int .i16 0] [.slice none 0 0, .int .i16 0, .int .i8 0, .int .i16 0] (by with_reducible repeat (first | exact HV0.out | refine Blk.alloc ?_ _ | refine Rw.alloc ?_ _ | refine Arg.alloc ?_ _ | apply below_alloc | refine Blk.drew ?_ | refine Rw.drew ?_ | refine Arg.drew ?_ | apply below_drew | refine Blk.drewN ?_ _ | refine Rw.drewN ?_ _ | refine Arg.drewN ?_ _ | apply pw_below_drewN)) (by rfl) (by rfl) _ Try.underlying40 (by rfl) (by kernel_rfl) ?_))
  refine (HEQ.out _).mono ?_
  rintro e w9 ⟨rfl, hb⟩
  have hs_w9 := Below.size hb
  (try simp at hs_w9)
  replace HI1 : Aside0 (Ir w9 w.heap.size (.slice A2 l.length cN1) l) := ⟨Ir.below (by with_reducible repeat (first | exact HI1.out | refine Ir.alloc ?_ _ | refine Ir.drew ?_ | refine Ir.drewN ?_ _)) hb⟩
  replace HI3 : Aside0 (Ir w9 w.heap.size (.slice A4 l.length cN3) (seqL 1 l.length)) := ⟨Ir.below (by with_reducible repeat (first | exact HI3.out | refine Ir.alloc ?_ _ | refine Ir.drew ?_ | refine Ir.drewN ?_ _)) hb⟩
  replace HI5 : Aside0 (Ir w9 w.heap.size (.slice A5 l.length cN5) l) := ⟨Ir.below (by with_reducible repeat (first | exact HI5.out | refine Ir.alloc ?_ _ | refine Ir.drew ?_ | refine Ir.drewN ?_ _)) hb⟩
  replace HV0 : Aside0 (Blk w9 (w2.heap.size) 40 [.slice none 0 0, .int .i16 0, .int .i8 0, .int .i16 0]) := ⟨Blk.below (by with_reducible repeat (first | exact HV0.out | refine Blk.alloc ?_ _ | refine Rw.alloc ?_ _ | refine Arg.alloc ?_ _ | apply below_alloc | refine Blk.drew ?_ | refine Rw.drew ?_ | refine Arg.drew ?_ | apply below_drew | refine Blk.drewN ?_ _ | refine Rw.drewN ?_ _ | refine Arg.drewN ?_ _ | apply pw_below_drewN)) hb⟩
  replace HVG : Aside0 (Blk w9 (w4.heap.size) 40 [.slice none 0 0, .int .i16 0, .int .i8 0, .int .i16 0]) := ⟨Blk.below (by with_reducible repeat (first | exact HVG.out | refine Blk.alloc ?_ _ | refine Rw.alloc ?_ _ | refine Arg.alloc ?_ _ | apply below_alloc | refine Blk.drew ?_ | refine Rw.drew ?_ | refine Arg.drew ?_ | apply below_drew | refine Blk.drewN ?_ _ | refine Rw.drewN ?_ _ | refine Arg.drewN ?_ _ | apply pw_below_drewN)) hb⟩
  replace HW : Aside0 (Below w.heap.size w w9) := ⟨below_step (by with_reducible repeat (first | exact HW.out | refine Blk.alloc ?_ _ | refine Rw.alloc ?_ _ | refine Arg.alloc ?_ _ | apply below_alloc | refine Blk.drew ?_ | refine Rw.drew ?_ | refine Arg.drew ?_ | apply below_drew | refine Blk.drewN ?_ _ | refine Rw.drewN ?_ _ | refine Arg.drewN ?_ _ | apply pw_below_drewN)) hb⟩
  clear hb
  go_wp2_with (first | (refine wl_load (by rfl) 40 _ (by rfl) (w4.heap.size) 0 (by rfl) 40 4 [.slice none 0 0, .int .i16 0, .int .i8 0, .int .i16 0] [.slice none 0 0, .int .i16 0, .int .i8 0, .int .i16 0] (by with_reducible repeat (first | exact HVG.out | refine Blk.alloc ?_ _ | refine Rw.alloc ?_ _ | refine Arg.alloc ?_ _ | apply below_alloc | refine Blk.drew ?_ | refine Rw.drew ?_ | refine Arg.drew ?_ | apply below_drew | refine Blk.drewN ?_ _ | refine Rw.drewN ?_ _ | refine Arg.drewN ?_ _ | apply pw_below_drewN)) (by rfl) (by rfl) _ Try.underlying40 (by rfl) (by kernel_rfl) ?_))
  refine (HMG.out _).mono ?_
  rintro e w10 ⟨rfl, hb⟩
  have hs_w10 := Below.size hb
  (try simp at hs_w10)
  replace HI1 : Aside0 (Ir w10 w.heap.size (.slice A2 l.length cN1) l) := ⟨Ir.below (by with_reducible repeat (first | exact HI1.out | refine Ir.alloc ?_ _ | refine Ir.drew ?_ | refine Ir.drewN ?_ _)) hb⟩
  replace HI3 : Aside0 (Ir w10 w.heap.size (.slice A4 l.length cN3) (seqL 1 l.length)) := ⟨Ir.below (by with_reducible repeat (first | exact HI3.out | refine Ir.alloc ?_ _ | refine Ir.drew ?_ | refine Ir.drewN ?_ _)) hb⟩
  replace HI5 : Aside0 (Ir w10 w.heap.size (.slice A5 l.length cN5) l) := ⟨Ir.below (by with_reducible repeat (first | exact HI5.out | refine Ir.alloc ?_ _ | refine Ir.drew ?_ | refine Ir.drewN ?_ _)) hb⟩
  replace HV0 : Aside0 (Blk w10 (w2.heap.size) 40 [.slice none 0 0, .int .i16 0, .int .i8 0, .int .i16 0]) := ⟨Blk.below (by with_reducible repeat (first | exact HV0.out | refine Blk.alloc ?_ _ | refine Rw.alloc ?_ _ | refine Arg.alloc ?_ _ | apply below_alloc | refine Blk.drew ?_ | refine Rw.drew ?_ | refine Arg.drew ?_ | apply below_drew | refine Blk.drewN ?_ _ | refine Rw.drewN ?_ _ | refine Arg.drewN ?_ _ | apply pw_below_drewN)) hb⟩
  replace HVG : Aside0 (Blk w10 (w4.heap.size) 40 [.slice none 0 0, .int .i16 0, .int .i8 0, .int .i16 0]) := ⟨Blk.below (by with_reducible repeat (first | exact HVG.out | refine Blk.alloc ?_ _ | refine Rw.alloc ?_ _ | refine Arg.alloc ?_ _ | apply below_alloc | refine Blk.drew ?_ | refine Rw.drew ?_ | refine Arg.drew ?_ | apply below_drew | refine Blk.drewN ?_ _ | refine Rw.drewN ?_ _ | refine Arg.drewN ?_ _ | apply pw_below_drewN)) hb⟩
  replace HW : Aside0 (Below w.heap.size w w10) := ⟨below_step (by with_reducible repeat (first | exact HW.out | refine Blk.alloc ?_ _ | refine Rw.alloc ?_ _ | refine Arg.alloc ?_ _ | apply below_alloc | refine Blk.drew ?_ | refine Rw.drew ?_ | refine Arg.drew ?_ | apply below_drew | refine Blk.drewN ?_ _ | refine Rw.drewN ?_ _ | refine Arg.drewN ?_ _ | apply pw_below_drewN)) hb⟩
  clear hb
  go_wp2_with (first | (refine wl_load (by rfl) 40 _ (by rfl) (w4.heap.size) 0 (by rfl) 40 4 [.slice none 0 0, .int .i16 0, .int .i8 0, .int .i16 0] [.slice none 0 0, .int .i16 0, .int .i8 0, .int .i16 0] (by with_reducible repeat (first | exact HVG.out | refine Blk.alloc ?_ _ | refine Rw.alloc ?_ _ | refine Arg.alloc ?_ _ | apply below_alloc | refine Blk.drew ?_ | refine Rw.drew ?_ | refine Arg.drew ?_ | apply below_drew | refine Blk.drewN ?_ _ | refine Rw.drewN ?_ _ | refine Arg.drewN ?_ _ | apply pw_below_drewN)) (by rfl) (by rfl) _ Try.underlying40 (by rfl) (by kernel_rfl) ?_))
  refine (HHG.out _).mono ?_
  rintro e w11 ⟨rfl, hb⟩
  have hs_w11 := Below.size hb
  (try simp at hs_w11)
  replace HI1 : Aside0 (Ir w11 w.heap.size (.slice A2 l.length cN1) l) := ⟨Ir.below (by with_reducible repeat (first | exact HI1.out | refine Ir.alloc ?_ _ | refine Ir.drew ?_ | refine Ir.drewN ?_ _)) hb⟩
  replace HI3 : Aside0 (Ir w11 w.heap.size (.slice A4 l.length cN3) (seqL 1 l.length)) := ⟨Ir.below (by with_reducible repeat (first | exact HI3.out | refine Ir.alloc ?_ _ | refine Ir.drew ?_ | refine Ir.drewN ?_ _)) hb⟩
  replace HI5 : Aside0 (Ir w11 w.heap.size (.slice A5 l.length cN5) l) := ⟨Ir.below (by with_reducible repeat (first | exact HI5.out | refine Ir.alloc ?_ _ | refine Ir.drew ?_ | refine Ir.drewN ?_ _)) hb⟩
  replace HV0 : Aside0 (Blk w11 (w2.heap.size) 40 [.slice none 0 0, .int .i16 0, .int .i8 0, .int .i16 0]) := ⟨Blk.below (by with_reducible repeat (first | exact HV0.out | refine Blk.alloc ?_ _ | refine Rw.alloc ?_ _ | refine Arg.alloc ?_ _ | apply below_alloc | refine Blk.drew ?_ | refine Rw.drew ?_ | refine Arg.drew ?_ | apply below_drew | refine Blk.drewN ?_ _ | refine Rw.drewN ?_ _ | refine Arg.drewN ?_ _ | apply pw_below_drewN)) hb⟩
  replace HVG : Aside0 (Blk w11 (w4.heap.size) 40 [.slice none 0 0, .int .i16 0, .int .i8 0, .int .i16 0]) := ⟨Blk.below (by with_reducible repeat (first | exact HVG.out | refine Blk.alloc ?_ _ | refine Rw.alloc ?_ _ | refine Arg.alloc ?_ _ | apply below_alloc | refine Blk.drew ?_ | refine Rw.drew ?_ | refine Arg.drew ?_ | apply below_drew | refine Blk.drewN ?_ _ | refine Rw.drewN ?_ _ | refine Arg.drewN ?_ _ | apply pw_below_drewN)) hb⟩
  replace HW : Aside0 (Below w.heap.size w w11) := ⟨below_step (by with_reducible repeat (first | exact HW.out | refine Blk.alloc ?_ _ | refine Rw.alloc ?_ _ | refine Arg.alloc ?_ _ | apply below_alloc | refine Blk.drew ?_ | refine Rw.drew ?_ | refine Arg.drew ?_ | apply below_drew | refine Blk.drewN ?_ _ | refine Rw.drewN ?_ _ | refine Arg.drewN ?_ _ | apply pw_below_drewN)) hb⟩
  clear hb
  go_wp2_with (fail)
  refine (HTI.out _ (Kd.C_below HL.out (by with_reducible repeat (first | exact HW.out | refine Blk.alloc ?_ _ | refine Rw.alloc ?_ _ | refine Arg.alloc ?_ _ | apply below_alloc | refine Blk.drew ?_ | refine Rw.drew ?_ | refine Arg.drew ?_ | apply below_drew | refine Blk.drewN ?_ _ | refine Rw.drewN ?_ _ | refine Arg.drewN ?_ _ | apply pw_below_drewN)))).mono ?_
  rintro e w12 ⟨A6, cN6, rfl, hc_HI6, hI_, hb⟩
  have P_HI6 : Aside0 (∀ k_, Value.ownBlock (.slice A6 l.length cN6) = some k_ → w11.heap.size + 0 ≤ k_ ∧ k_ < w12.heap.size) := ⟨fun k_ e_ => ⟨by have h_ := own_base hI_ k_ e_; (try simp at h_); omega, own_lt hI_ k_ e_⟩⟩
  replace hI_ := Ir.lower hI_ (Below.size (by with_reducible repeat (first | exact HW.out | refine Blk.alloc ?_ _ | refine Rw.alloc ?_ _ | refine Arg.alloc ?_ _ | apply below_alloc | refine Blk.drew ?_ | refine Rw.drew ?_ | refine Arg.drew ?_ | apply below_drew | refine Blk.drewN ?_ _ | refine Rw.drewN ?_ _ | refine Arg.drewN ?_ _ | apply pw_below_drewN)))
  have hs_w12 := Below.size hb
  (try simp at hs_w12)
  replace HI1 : Aside0 (Ir w12 w.heap.size (.slice A2 l.length cN1) l) := ⟨Ir.below (by with_reducible repeat (first | exact HI1.out | refine Ir.alloc ?_ _ | refine Ir.drew ?_ | refine Ir.drewN ?_ _)) hb⟩
  replace HI3 : Aside0 (Ir w12 w.heap.size (.slice A4 l.length cN3) (seqL 1 l.length)) := ⟨Ir.below (by with_reducible repeat (first | exact HI3.out | refine Ir.alloc ?_ _ | refine Ir.drew ?_ | refine Ir.drewN ?_ _)) hb⟩
  replace HI5 : Aside0 (Ir w12 w.heap.size (.slice A5 l.length cN5) l) := ⟨Ir.below (by with_reducible repeat (first | exact HI5.out | refine Ir.alloc ?_ _ | refine Ir.drew ?_ | refine Ir.drewN ?_ _)) hb⟩
  replace HV0 : Aside0 (Blk w12 (w2.heap.size) 40 [.slice none 0 0, .int .i16 0, .int .i8 0, .int .i16 0]) := ⟨Blk.below (by with_reducible repeat (first | exact HV0.out | refine Blk.alloc ?_ _ | refine Rw.alloc ?_ _ | refine Arg.alloc ?_ _ | apply below_alloc | refine Blk.drew ?_ | refine Rw.drew ?_ | refine Arg.drew ?_ | apply below_drew | refine Blk.drewN ?_ _ | refine Rw.drewN ?_ _ | refine Arg.drewN ?_ _ | apply pw_below_drewN)) hb⟩
  replace HVG : Aside0 (Blk w12 (w4.heap.size) 40 [.slice none 0 0, .int .i16 0, .int .i8 0, .int .i16 0]) := ⟨Blk.below (by with_reducible repeat (first | exact HVG.out | refine Blk.alloc ?_ _ | refine Rw.alloc ?_ _ | refine Arg.alloc ?_ _ | apply below_alloc | refine Blk.drew ?_ | refine Rw.drew ?_ | refine Arg.drew ?_ | apply below_drew | refine Blk.drewN ?_ _ | refine Rw.drewN ?_ _ | refine Arg.drewN ?_ _ | apply pw_below_drewN)) hb⟩
  replace HW : Aside0 (Below w.heap.size w w12) := ⟨below_step (by with_reducible repeat (first | exact HW.out | refine Blk.alloc ?_ _ | refine Rw.alloc ?_ _ | refine Arg.alloc ?_ _ | apply below_alloc | refine Blk.drew ?_ | refine Rw.drew ?_ | refine Arg.drew ?_ | apply below_drew | refine Blk.drewN ?_ _ | refine Rw.drewN ?_ _ | refine Arg.drewN ?_ _ | apply pw_below_drewN)) hb⟩
  clear hb
  have HI6 : Aside0 (Ir w12 w.heap.size (.slice A6 l.length cN6) l) := ⟨hI_⟩
  clear hI_
  go_wp2_with (fail)
  refine (HIM.out _ _ _ (Ir.nda (base := w.heap.size) (by with_reducible repeat (first | exact HI6.out | refine Ir.alloc ?_ _ | refine Ir.drew ?_ | refine Ir.drewN ?_ _))) hc_HI6).mono ?_
  rintro e w13 ⟨rfl, hb⟩
  have hs_w13 := Below.size hb
  (try simp at hs_w13)
  replace HI1 : Aside0 (Ir w13 w.heap.size (.slice A2 l.length cN1) l) := ⟨Ir.below (by with_reducible repeat (first | exact HI1.out | refine Ir.alloc ?_ _ | refine Ir.drew ?_ | refine Ir.drewN ?_ _)) hb⟩
  replace HI3 : Aside0 (Ir w13 w.heap.size (.slice A4 l.length cN3) (seqL 1 l.length)) := ⟨Ir.below (by with_reducible repeat (first | exact HI3.out | refine Ir.alloc ?_ _ | refine Ir.drew ?_ | refine Ir.drewN ?_ _)) hb⟩
  replace HI5 : Aside0 (Ir w13 w.heap.size (.slice A5 l.length cN5) l) := ⟨Ir.below (by with_reducible repeat (first | exact HI5.out | refine Ir.alloc ?_ _ | refine Ir.drew ?_ | refine Ir.drewN ?_ _)) hb⟩
  replace HI6 : Aside0 (Ir w13 w.heap.size (.slice A6 l.length cN6) l) := ⟨Ir.below (by with_reducible repeat (first | exact HI6.out | refine Ir.alloc ?_ _ | refine Ir.drew ?_ | refine Ir.drewN ?_ _)) hb⟩
  replace HV0 : Aside0 (Blk w13 (w2.heap.size) 40 [.slice none 0 0, .int .i16 0, .int .i8 0, .int .i16 0]) := ⟨Blk.below (by with_reducible repeat (first | exact HV0.out | refine Blk.alloc ?_ _ | refine Rw.alloc ?_ _ | refine Arg.alloc ?_ _ | apply below_alloc | refine Blk.drew ?_ | refine Rw.drew ?_ | refine Arg.drew ?_ | apply below_drew | refine Blk.drewN ?_ _ | refine Rw.drewN ?_ _ | refine Arg.drewN ?_ _ | apply pw_below_drewN)) hb⟩
  replace HVG : Aside0 (Blk w13 (w4.heap.size) 40 [.slice none 0 0, .int .i16 0, .int .i8 0, .int .i16 0]) := ⟨Blk.below (by with_reducible repeat (first | exact HVG.out | refine Blk.alloc ?_ _ | refine Rw.alloc ?_ _ | refine Arg.alloc ?_ _ | apply below_alloc | refine Blk.drew ?_ | refine Rw.drew ?_ | refine Arg.drew ?_ | apply below_drew | refine Blk.drewN ?_ _ | refine Rw.drewN ?_ _ | refine Arg.drewN ?_ _ | apply pw_below_drewN)) hb⟩
  replace HW : Aside0 (Below w.heap.size w w13) := ⟨below_step (by with_reducible repeat (first | exact HW.out | refine Blk.alloc ?_ _ | refine Rw.alloc ?_ _ | refine Arg.alloc ?_ _ | apply below_alloc | refine Blk.drew ?_ | refine Rw.drew ?_ | refine Arg.drew ?_ | apply below_drew | refine Blk.drewN ?_ _ | refine Rw.drewN ?_ _ | refine Arg.drewN ?_ _ | apply pw_below_drewN)) hb⟩
  clear hb
  go_wp2_with (first | (refine wl_load (by rfl) 40 _ (by rfl) (w2.heap.size) 0 (by rfl) 40 4 [.slice none 0 0, .int .i16 0, .int .i8 0, .int .i16 0] [.slice none 0 0, .int .i16 0, .int .i8 0, .int .i16 0] (by with_reducible repeat (first | exact HV0.out | refine Blk.alloc ?_ _ | refine Rw.alloc ?_ _ | refine Arg.alloc ?_ _ | apply below_alloc | refine Blk.drew ?_ | refine Rw.drew ?_ | refine Arg.drew ?_ | apply below_drew | refine Blk.drewN ?_ _ | refine Rw.drewN ?_ _ | refine Arg.drewN ?_ _ | apply pw_below_drewN)) (by rfl) (by rfl) _ Try.underlying40 (by rfl) (by kernel_rfl) ?_))
  refine (HEQ.out _).mono ?_
  rintro e w14 ⟨rfl, hb⟩
  have hs_w14 := Below.size hb
  (try simp at hs_w14)
  replace HI1 : Aside0 (Ir w14 w.heap.size (.slice A2 l.length cN1) l) := ⟨Ir.below (by with_reducible repeat (first | exact HI1.out | refine Ir.alloc ?_ _ | refine Ir.drew ?_ | refine Ir.drewN ?_ _)) hb⟩
  replace HI3 : Aside0 (Ir w14 w.heap.size (.slice A4 l.length cN3) (seqL 1 l.length)) := ⟨Ir.below (by with_reducible repeat (first | exact HI3.out | refine Ir.alloc ?_ _ | refine Ir.drew ?_ | refine Ir.drewN ?_ _)) hb⟩
  replace HI5 : Aside0 (Ir w14 w.heap.size (.slice A5 l.length cN5) l) := ⟨Ir.below (by with_reducible repeat (first | exact HI5.out | refine Ir.alloc ?_ _ | refine Ir.drew ?_ | refine Ir.drewN ?_ _)) hb⟩
  replace HI6 : Aside0 (Ir w14 w.heap.size (.slice A6 l.length cN6) l) := ⟨Ir.below (by with_reducible repeat (first | exact HI6.out | refine Ir.alloc ?_ _ | refine Ir.drew ?_ | refine Ir.drewN ?_ _)) hb⟩
  replace HV0 : Aside0 (Blk w14 (w2.heap.size) 40 [.slice none 0 0, .int .i16 0, .int .i8 0, .int .i16 0]) := ⟨Blk.below (by with_reducible repeat (first | exact HV0.out | refine Blk.alloc ?_ _ | refine Rw.alloc ?_ _ | refine Arg.alloc ?_ _ | apply below_alloc | refine Blk.drew ?_ | refine Rw.drew ?_ | refine Arg.drew ?_ | apply below_drew | refine Blk.drewN ?_ _ | refine Rw.drewN ?_ _ | refine Arg.drewN ?_ _ | apply pw_below_drewN)) hb⟩
  replace HVG : Aside0 (Blk w14 (w4.heap.size) 40 [.slice none 0 0, .int .i16 0, .int .i8 0, .int .i16 0]) := ⟨Blk.below (by with_reducible repeat (first | exact HVG.out | refine Blk.alloc ?_ _ | refine Rw.alloc ?_ _ | refine Arg.alloc ?_ _ | apply below_alloc | refine Blk.drew ?_ | refine Rw.drew ?_ | refine Arg.drew ?_ | apply below_drew | refine Blk.drewN ?_ _ | refine Rw.drewN ?_ _ | refine Arg.drewN ?_ _ | apply pw_below_drewN)) hb⟩
  have HVH : Aside0 (Blk w14 (w13.heap.size) 40 [.slice none 0 0, .int .i16 0, .int .i8 0, .int .i16 0]) := ⟨Blk.below (by repeat (first | exact Blk.at_ (by simp) rfl | refine Blk.alloc ?_ _)) hb⟩
  replace HW : Aside0 (Below w.heap.size w w14) := ⟨below_step (by with_reducible repeat (first | exact HW.out | refine Blk.alloc ?_ _ | refine Rw.alloc ?_ _ | refine Arg.alloc ?_ _ | apply below_alloc | refine Blk.drew ?_ | refine Rw.drew ?_ | refine Arg.drew ?_ | apply below_drew | refine Blk.drewN ?_ _ | refine Rw.drewN ?_ _ | refine Arg.drewN ?_ _ | apply pw_below_drewN)) hb⟩
  clear hb
  go_wp2_with (first | (refine wl_load (by rfl) 40 _ (by rfl) (w4.heap.size) 0 (by rfl) 40 4 [.slice none 0 0, .int .i16 0, .int .i8 0, .int .i16 0] [.slice none 0 0, .int .i16 0, .int .i8 0, .int .i16 0] (by with_reducible repeat (first | exact HVG.out | refine Blk.alloc ?_ _ | refine Rw.alloc ?_ _ | refine Arg.alloc ?_ _ | apply below_alloc | refine Blk.drew ?_ | refine Rw.drew ?_ | refine Arg.drew ?_ | apply below_drew | refine Blk.drewN ?_ _ | refine Rw.drewN ?_ _ | refine Arg.drewN ?_ _ | apply pw_below_drewN)) (by rfl) (by rfl) _ Try.underlying40 (by rfl) (by kernel_rfl) ?_))
  refine (HHG.out _).mono ?_
  rintro e w15 ⟨rfl, hb⟩
  have hs_w15 := Below.size hb
  (try simp at hs_w15)
  replace HI1 : Aside0 (Ir w15 w.heap.size (.slice A2 l.length cN1) l) := ⟨Ir.below (by with_reducible repeat (first | exact HI1.out | refine Ir.alloc ?_ _ | refine Ir.drew ?_ | refine Ir.drewN ?_ _)) hb⟩
  replace HI3 : Aside0 (Ir w15 w.heap.size (.slice A4 l.length cN3) (seqL 1 l.length)) := ⟨Ir.below (by with_reducible repeat (first | exact HI3.out | refine Ir.alloc ?_ _ | refine Ir.drew ?_ | refine Ir.drewN ?_ _)) hb⟩
  replace HI5 : Aside0 (Ir w15 w.heap.size (.slice A5 l.length cN5) l) := ⟨Ir.below (by with_reducible repeat (first | exact HI5.out | refine Ir.alloc ?_ _ | refine Ir.drew ?_ | refine Ir.drewN ?_ _)) hb⟩
  replace HI6 : Aside0 (Ir w15 w.heap.size (.slice A6 l.length cN6) l) := ⟨Ir.below (by with_reducible repeat (first | exact HI6.out | refine Ir.alloc ?_ _ | refine Ir.drew ?_ | refine Ir.drewN ?_ _)) hb⟩
  replace HV0 : Aside0 (Blk w15 (w2.heap.size) 40 [.slice none 0 0, .int .i16 0, .int .i8 0, .int .i16 0]) := ⟨Blk.below (by with_reducible repeat (first | exact HV0.out | refine Blk.alloc ?_ _ | refine Rw.alloc ?_ _ | refine Arg.alloc ?_ _ | apply below_alloc | refine Blk.drew ?_ | refine Rw.drew ?_ | refine Arg.drew ?_ | apply below_drew | refine Blk.drewN ?_ _ | refine Rw.drewN ?_ _ | refine Arg.drewN ?_ _ | apply pw_below_drewN)) hb⟩
  replace HVG : Aside0 (Blk w15 (w4.heap.size) 40 [.slice none 0 0, .int .i16 0, .int .i8 0, .int .i16 0]) := ⟨Blk.below (by with_reducible repeat (first | exact HVG.out | refine Blk.alloc ?_ _ | refine Rw.alloc ?_ _ | refine Arg.alloc ?_ _ | apply below_alloc | refine Blk.drew ?_ | refine Rw.drew ?_ | refine Arg.drew ?_ | apply below_drew | refine Blk.drewN ?_ _ | refine Rw.drewN ?_ _ | refine Arg.drewN ?_ _ | apply pw_below_drewN)) hb⟩
  replace HVH : Aside0 (Blk w15 (w13.heap.size) 40 [.slice none 0 0, .int .i16 0, .int .i8 0, .int .i16 0]) := ⟨Blk.below (by with_reducible repeat (first | exact HVH.out | refine Blk.alloc ?_ _ | refine Rw.alloc ?_ _ | refine Arg.alloc ?_ _ | apply below_alloc | refine Blk.drew ?_ | refine Rw.drew ?_ | refine Arg.drew ?_ | apply below_drew | refine Blk.drewN ?_ _ | refine Rw.drewN ?_ _ | refine Arg.drewN ?_ _ | apply pw_below_drewN)) hb⟩
  replace HW : Aside0 (Below w.heap.size w w15) := ⟨below_step (by with_reducible repeat (first | exact HW.out | refine Blk.alloc ?_ _ | refine Rw.alloc ?_ _ | refine Arg.alloc ?_ _ | apply below_alloc | refine Blk.drew ?_ | refine Rw.drew ?_ | refine Arg.drew ?_ | apply below_drew | refine Blk.drewN ?_ _ | refine Rw.drewN ?_ _ | refine Arg.drewN ?_ _ | apply pw_below_drewN)) hb⟩
  clear hb
  go_wp2
  go_ret
  exact ⟨rfl, HW.out⟩
set_option maxHeartbeats 8000000 in
set_option maxRecDepth 100000 in
theorem lawNH_calls (A1 : Option Addr) (c1 : Nat) (l : List Int) (tub every : Int) (hc1 : l.length ≤ c1) (w : World) (hL : (Kd.int .i64).C w A1 l.length l) :
    Calls Try.prog 7 #[.slice A1 l.length c1, .int .i64 tub, .int .i64 every] w fun e w' => e = .returned (.bool true) ∧ Below w.heap.size w w' := by
  by_cases hl : l.length ≤ 1048576
  · cases h1 : decide (1 ≤ (l.length : Int) ∧ (l.length : Int) ≤ 4)
    · exact lawNH_bad A1 c1 l tub every hl hc1 (fun A cN W h hc => specNH_bad (fun k => l.getD k 0) l.length cN A tub every hl hc (by simp only [nhB, h1]; rfl) W h) (fun A cN W h hc => implNH_bad0 (fun k => l.getD k 0) l.length cN A tub every hl hc h1 W h) w hL
    · cases h2 : needB (fun k => l.getD k 0) l.length
      · exact lawNH_bad A1 c1 l tub every hl hc1 (fun A cN W h hc => specNH_bad (fun k => l.getD k 0) l.length cN A tub every hl hc (by unfold nhB; rw [h2]; simp) W h) (fun A cN W h hc => implNH_bad1 (fun k => l.getD k 0) l.length cN A tub every hl hc h1 h2 W h) w hL
      · cases h3 : decide (0 ≤ tub ∧ tub ≤ 1000)
        · exact lawNH_bad A1 c1 l tub every hl hc1 (fun A cN W h hc => specNH_bad (fun k => l.getD k 0) l.length cN A tub every hl hc (by unfold nhB; rw [h3]; simp) W h) (fun A cN W h hc => implNH_bad2 (fun k => l.getD k 0) l.length cN A tub every hl hc h1 h2 h3 W h) w hL
        · cases h4 : decide (1 ≤ every ∧ every ≤ 7)
          · exact lawNH_bad A1 c1 l tub every hl hc1 (fun A cN W h hc => specNH_bad (fun k => l.getD k 0) l.length cN A tub every hl hc (by unfold nhB; rw [h4]; simp) W h) (fun A cN W h hc => implNH_bad3 (fun k => l.getD k 0) l.length cN A tub every hl hc h1 h2 h3 h4 W h) w hL
          · have e1 := of_decide_eq_true h1
            have e3 := of_decide_eq_true h3
            have e4 := of_decide_eq_true h4
            have hn4 : 0 < l.length ∧ l.length ≤ 4 := by omega
            exact lawNH_ok A1 c1 l tub every (newF (fun k => l.getD k 0)) hl hc1 (fun A cN W h hc => specNH_ok (fun k => l.getD k 0) l.length cN A tub every hl hc hn4 e3 e4 h2 W h) (fun A cN W h hc => implNH_ok (fun k => l.getD k 0) l.length cN A tub every hl hc hn4 e3 e4 h1 h2 h3 h4 W h) w hL
  · have hlen2 : decide ((1048576 : Int) < (l.length : Int)) = true := decide_eq_true (by omega)
    have hlen3 : (1048576 : Int) < (l.length : Int) := by omega
    clear hL
    go_enter Try.func7, Try.ntmps7
    go_wp2_with fail
    go_ret
    exact ⟨rfl, Below.refl _ _⟩
end Go.Proofs.Ytjmnbikaijphlaa.X
