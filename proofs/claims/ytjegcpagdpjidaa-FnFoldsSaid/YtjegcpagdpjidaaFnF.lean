/- Contracts of functions, and plain facts: what each call answers, and what it leaves as it was. -/
import Derived.Test.YtjegcpagdpjidaaG29
import Derived.Test.YtjegcpagdpjidaaFF
import Derived.Test.YtjegcpagdpjidaaEd
import Derived.Test.YtjegcpagdpjidaaG17
import Derived.Test.YtjegcpagdpjidaaF6a
import Derived.Test.YtjegcpagdpjidaaG20
import Derived.Test.YtjegcpagdpjidaaG12
import Derived.Test.YtjegcpagdpjidaaF7
import Derived.Test.YtjegcpagdpjidaaX10
import Derived.Test.YtjegcpagdpjidaaX21
import Derived.Test.YtjegcpagdpjidaaX22
import Derived.Test.YtjegcpagdpjidaaX23
import Derived.Test.YtjegcpagdpjidaaX24
import Derived.Test.YtjegcpagdpjidaaX29
import Derived.Test.YtjegcpagdpjidaaX27
import Derived.Test.YtjegcpagdpjidaaX28
set_option linter.unusedVariables false
set_option linter.unusedSimpArgs false
namespace Go.Proofs.Ytjegcpagdpjidaa.X
open Go.RowKit Go.Proofs.YtjegcpagdpjidaaW.PrintWords Go.Proofs.YtjegcpagdpjidaaW.PrintLast Go.Proofs.YtjegcpagdpjidaaW.PrintMore
attribute [local go_sem] max2_int min2_int max_two min_two max_three min_three max_four min_four
set_option maxHeartbeats 8000000 in
set_option maxRecDepth 100000 in
theorem lawFnFolds_calls (A0 : Option Addr) (c0 : Nat) (l0 : (List Int)) (A1 : Option Addr) (c1 : Nat) (l1 : (List Int)) (w : World) (hr0 : Kd.C (Kd.int .u8) w A0 l0.length l0) (hc0 : l0.length ≤ c0) (w0 : ∀ x_ ∈ l0, (Lit.int .u8 x_).wf = true) (hr1 : Kd.C (Kd.int .u8) w A1 l1.length l1) (hc1 : l1.length ≤ c1) (w1 : ∀ x_ ∈ l1, (Lit.int .u8 x_).wf = true) :
    Calls Try.prog 5 #[.slice A0 l0.length c0, .slice A1 l1.length c1] w fun e w' => e = .returned (.bool true) ∧ Below w.heap.size w w' := by
  by_cases hlg : l0.length ≤ 3000 ∧ l1.length ≤ 3000
  · have B0 := BY.of w0 hlg.1
    have B1 := BY.of w1 hlg.2
    have hlong : laws_a2Long.f l0 l1 = some false := by
      unfold laws_a2Long.f
      rw [if_neg (by omega), decide_eq_false (by omega)]
    clear w0 w1
    obtain ⟨x, hX, hx, hx72⟩ := sheet_ex B0
    obtain ⟨L, y, kL, hL, hP, hy, hL4⟩ := folds_ex B1 hx
    have hall := hP.all
    obtain ⟨kT, hT⟩ := implFoldsText_ev (l := L) (by omega)
    have hT1 := hT kT (by omega)
    simp only at hT1
    have hRd := read_text hall (by omega)
    have bx := Sh.bd hx
    have by_ := Sh.bd hy
    have hFo : foldAllF x.f0 x.f1 x.f2 L = (y.f0, y.f1, y.f2, 0) := by unfold foldAllF; rw [if_pos (show Sh _ _ _ from hx), if_neg (by omega)]; exact hP.allFold
    have hFI := implAll_f bx.1 bx.2.1 bx.2.2 (l := L) (by omega) (k := L.length + 3) (by omega)
    have hFS := specAll_f bx.1 bx.2.1 bx.2.2 (l := L) (k := L.length + 3) (by omega)
    rw [hFo] at hFI hFS
    have hEb := edges_bd hall (by have := hP.layers; have := hx.2.2.2.2.1; have := hy.2.2.2.2.2; have h1_ := (prodF_pos hall).1; have h2_ : 1 * prodF L ≤ x.f2 * prodF L := Int.mul_le_mul_of_nonneg_right (by omega) (by omega); omega)
    have HEI := Aside0.mk (fun (W : World) (A : Option Addr) (c : Nat) (h : Kd.C (Kd.int .i64) W A L.length L) (hc : L.length ≤ c) => implEdges_ok A c L W h hc (by omega) (areF_all hall))
    have HES := Aside0.mk (fun (W : World) (A : Option Addr) (c : Nat) (h : Kd.C (Kd.int .i64) W A L.length L) => specEdges_ok A c L W h (by omega) (areF_all hall))
    generalize edgesE L (1, 1, 1, 1) = E at *
    obtain ⟨e0, e1, e2, e3⟩ := E
    unfold edV at HEI HES
    simp only at HEI HES
    obtain ⟨⟨q0, q1⟩, ⟨q2, q3⟩, ⟨q4, q5⟩, ⟨q6, q7⟩, q8, q9⟩ := hEb
    simp only at q0 q1 q2 q3 q4 q5 q6 q7 q8 q9
    have hly := hP.layers
    have hp1 := (prodF_pos hall).1
    have hp2 := (prodF_pos hall).2
    have hy2 : 1 ≤ y.f2 ∧ y.f2 ≤ 144 := hy.2.2.2.2
    have hx2 : 1 ≤ x.f2 ∧ x.f2 ≤ 144 := hx.2.2.2.2
    have hdiv : Int.tdiv y.f2 x.f2 = prodF L := by rw [hly]; exact Int.mul_tdiv_cancel_left _ (by omega)
    have hbz : ((L.length : Int) == 0) = (prodF L == 1) := by
      by_cases h : L = []
      · subst h; rfl
      · have h3 := hp2 h
        rw [beq_eq_false_iff_ne.2 (show ¬ prodF L = 1 by omega), beq_eq_false_iff_ne.2 (fun h_ => h (List.length_eq_zero_iff.1 (by omega)))]
    have hpm : prodF L ≤ 144 := by
      have h2_ : 1 * prodF L ≤ x.f2 * prodF L := Int.mul_le_mul_of_nonneg_right (by omega) (by omega)
      omega
    have hUN := same_unlike hx hy hP
    have hST := same_turned hy
    have hAx := area_f hx
    have hAy := area_f hy
    rw [hP.area] at hAy
    have har := area_pos hx
    generalize areaS x = ar at *
    have hPI := implPoss_f by_.1 by_.2.1 by_.2.2 (k := 6) (by omega)
    have hPS := specPoss_f by_.1 by_.2.1 by_.2.2 (k := 6) (by omega)
    have hpl := possibleF_len y.f0 y.f1 y.f2
    have hpc : (possibleF y.f0 y.f1 y.f2).2 = 0 := by unfold possibleF; rw [if_pos (show Sh y.f0 y.f1 y.f2 from hy)]
    have HPM := Aside0.mk (fun f hf => poss_mem hy (f := f) hf)
    generalize possibleF y.f0 y.f1 y.f2 = PP at *
    obtain ⟨M, pc⟩ := PP
    simp only at hpl hpc HPM
    subst hpc
    obtain ⟨bz, hbz1⟩ : ∃ bz, ((L.length : Int) == 0) = bz := ⟨_, rfl⟩
    rw [hbz1] at hbz
    have hbz2 : decide ((L.length : Int) = 0) = bz := by rw [← hbz1]; rfl
    rw [hbz2] at hUN
    have hbz3 := hbz.symm
    clear hbz
    generalize prodF L = p at *
    have hVy : impl_ValidSheet.f y.f0 y.f1 y.f2 = some true := by rw [validSheet_f by_.1 by_.2.1 by_.2.2, decide_eq_true (show Sh y.f0 y.f1 y.f2 from hy)]
    have hSL := same_f L (by omega)
    have hSM := same_f M (by omega)
    have HHM := Aside0.mk (fun f => has_f M f (by omega))
    have hsy := Aside0.mk hy
    have hsx := Aside0.mk hx
    have HX := Aside0.mk hX
    have HLL := Aside0.mk hL
    have HT := Aside0.mk hT1
    have HRD := Aside0.mk hRd
    have HFI := Aside0.mk hFI
    have HFS := Aside0.mk hFS
    have HAX := Aside0.mk hAx
    have HAY := Aside0.mk hAy
    have HPI := Aside0.mk hPI
    have HPS := Aside0.mk hPS
    have HUN := Aside0.mk hUN
    have HST := Aside0.mk hST
    have HVY := Aside0.mk hVy
    have HSL := Aside0.mk hSL
    have HSM := Aside0.mk hSM
    have HBZ1 := Aside0.mk hbz1
    have HBZ3 := Aside0.mk hbz3
    have HDV := Aside0.mk hdiv
    have HFY := Aside0.mk (fun f (hf : 0 ≤ f ∧ f ≤ 3) => hf)
    have HU26 := Try.underlying26
    have HU46 := Try.underlying46
    have HQE : Aside0 (∀ W : World, (Op.equalIn 10000 46 (.agg #[.int .i64 e0, .int .i64 e1, .int .i64 e2, .int .i64 e3]) (.agg #[.int .i64 e0, .int .i64 e1, .int .i64 e2, .int .i64 e3])).run Try.prog W = .ok true W) := ⟨fun W => by
      have h := run_eq_arr (P := Try.prog) (w := W) (d := 9998) (n := 4) Try.underlying46 Try.underlying2 (by kernel_rfl) (fun i => [e0, e1, e2, e3].getD i 0) (fun i => [e0, e1, e2, e3].getD i 0)
      have ha : ((List.range 4).all fun i => ([e0, e1, e2, e3].getD i 0 == [e0, e1, e2, e3].getD i 0)) = true := by rw [List.all_eq_true]; intro i _; exact beq_self_eq_true _
      rw [ha] at h
      exact h⟩
    have HW : Aside0 (Below w.heap.size w w) := ⟨Below.refl _ _⟩
    have iy2 : IntKind.i64.wrap y.f2 = y.f2 := IntWalk.i64_in _ ⟨by omega, by omega⟩
    have ix2 : IntKind.i64.wrap x.f2 = x.f2 := IntWalk.i64_in _ ⟨by omega, by omega⟩
    have HB0 := Aside0.mk hr0
    have HB1 := Aside0.mk hr1
    clear hX hL hT hT1 hRd hFo hFI hFS hAx hAy hPI hPS hUN hST hVy hSL hSM hbz1 hbz2 hbz3 hdiv hall hP hx hy hly hp1 hp2 bx by_ hr0 hr1 hx72 B0 B1
    go_enter Try.func5, Try.ntmps5
    go_wp2_with fail
    refine (laws_a2Long.calls A0 c0 l0 A1 c1 l1 false _ HB0.out hc0 HB1.out hc1 hlong).mono ?_
    rintro e w1 ⟨rfl, hd⟩
    replace HB0 : Aside0 (Kd.C (Kd.int .u8) w1 A0 l0.length l0) := ⟨Kd.C_below HB0.out hd.below⟩
    replace HB1 : Aside0 (Kd.C (Kd.int .u8) w1 A1 l1.length l1) := ⟨Kd.C_below HB1.out hd.below⟩
    replace HW : Aside0 (Below w.heap.size w w1) := ⟨below_step HW.out hd.below⟩
    clear hd
    go_wp2_with fail
    refine (spec_A2Sheet.calls A0 c0 l0 x.f0 x.f1 x.f2 _ HB0.out hc0 HX.out).mono ?_
    rintro e w2 ⟨rfl, hb⟩
    replace HB0 : Aside0 (Kd.C (Kd.int .u8) w2 A0 l0.length l0) := ⟨Kd.C_below HB0.out hb⟩
    replace HB1 : Aside0 (Kd.C (Kd.int .u8) w2 A1 l1.length l1) := ⟨Kd.C_below HB1.out hb⟩
    replace HW : Aside0 (Below w.heap.size w w2) := ⟨below_step HW.out hb⟩
    clear hb
    go_wp2_with (refine wl_store (by rfl) 26 _ _ (by rfl) (w2.heap.size) 0 (by rfl) 26 3 [.int .i16 0, .int .i16 0, .int .i16 0] [.int .i16 x.f0, .int .i16 x.f1, .int .i16 x.f2] (by rfl) (Blk.new w2 26 [.int .i16 0, .int .i16 0, .int .i16 0]) (by rfl) (show 0 + 3 ≤ 3 from Nat.le_refl _) (by kernel_rfl) (by rfl) ?_; intro w3 hBs hgs; have hb := stored_below hgs; replace HB0 : Aside0 (Kd.C (Kd.int .u8) w3 A0 l0.length l0) := ⟨Kd.C_below HB0.out hb⟩; replace HB1 : Aside0 (Kd.C (Kd.int .u8) w3 A1 l1.length l1) := ⟨Kd.C_below HB1.out hb⟩; replace HW : Aside0 (Below w.heap.size w w3) := ⟨below_step HW.out hb⟩; have HV5 : Aside0 (Blk w3 (w2.heap.size) 26 [.int .i16 x.f0, .int .i16 x.f1, .int .i16 x.f2]) := ⟨Blk.all hBs (show 3 ≤ 3 from Nat.le_refl _)⟩; clear hBs hgs hb; have cHV5_0 := HV5.out.cell 0 (v := .int .i16 x.f0) rfl; have cHV5_1 := HV5.out.cell 1 (v := .int .i16 x.f1) rfl; have cHV5_2 := HV5.out.cell 2 (v := .int .i16 x.f2) rfl)
    refine (spec_A2Folds.calls kL A1 c1 l1 x.f0 x.f1 x.f2 L _ HB1.out hc1 HLL.out).mono ?_
    rintro e w4 ⟨vL, rfl, hRL, hb⟩
    clear cHV5_0 cHV5_1 cHV5_2
    replace HB0 : Aside0 (Kd.C (Kd.int .u8) w4 A0 l0.length l0) := ⟨Kd.C_below HB0.out hb⟩
    replace HB1 : Aside0 (Kd.C (Kd.int .u8) w4 A1 l1.length l1) := ⟨Kd.C_below HB1.out hb⟩
    replace HV5 : Aside0 (Blk w4 (w2.heap.size) 26 [.int .i16 x.f0, .int .i16 x.f1, .int .i16 x.f2]) := ⟨Blk.below HV5.out hb⟩
    replace HW : Aside0 (Below w.heap.size w w4) := ⟨below_step HW.out hb⟩
    clear hb
    obtain ⟨AF, cF, rfl, hcF, hC_⟩ := Kd.R_reads hRL
    have HF := Aside0.mk hC_
    have HLcF := Aside0.mk hcF
    clear hC_ hRL hcF
    clear HB0 HB1
    go_wp2_with fail
    refine (impl_FoldsText.calls kT AF cF L (textF L) _ HF.out HLcF.out HT.out).mono ?_
    rintro e w5 ⟨rfl, hb⟩
    replace HV5 : Aside0 (Blk w5 (w2.heap.size) 26 [.int .i16 x.f0, .int .i16 x.f1, .int .i16 x.f2]) := ⟨Blk.below HV5.out hb⟩
    replace HF : Aside0 (Kd.C (Kd.int .i64) w5 AF L.length L) := ⟨Kd.C_below HF.out hb⟩
    replace HW : Aside0 (Below w.heap.size w w5) := ⟨below_step HW.out hb⟩
    clear hb
    go_wp2_with fail
    refine (impl_ReadFolds.calls (textF L) L 0 _ HRD.out).mono ?_
    rintro e w6 ⟨vR, rfl, hRR, hb⟩
    replace HV5 : Aside0 (Blk w6 (w2.heap.size) 26 [.int .i16 x.f0, .int .i16 x.f1, .int .i16 x.f2]) := ⟨Blk.below HV5.out hb⟩
    replace HF : Aside0 (Kd.C (Kd.int .i64) w6 AF L.length L) := ⟨Kd.C_below HF.out hb⟩
    replace HW : Aside0 (Below w.heap.size w w6) := ⟨below_step HW.out hb⟩
    clear hb
    obtain ⟨AR, cR, rfl, hcR, hC_⟩ := Kd.R_reads hRR
    have HRd := Aside0.mk hC_
    have HLcR := Aside0.mk hcR
    clear hC_ hRR hcR
    have cHV5_0 := HV5.out.cell 0 (v := .int .i16 x.f0) rfl
    have cHV5_1 := HV5.out.cell 1 (v := .int .i16 x.f1) rfl
    have cHV5_2 := HV5.out.cell 2 (v := .int .i16 x.f2) rfl
    go_wp2_with fail
    refine (impl_FoldAll.calls (L.length + 3) x.f0 x.f1 x.f2 AF cF L y.f0 y.f1 y.f2 0 _ HF.out HLcF.out HFI.out).mono ?_
    rintro e w7 ⟨rfl, hb⟩
    clear cHV5_0 cHV5_1 cHV5_2
    replace HV5 : Aside0 (Blk w7 (w2.heap.size) 26 [.int .i16 x.f0, .int .i16 x.f1, .int .i16 x.f2]) := ⟨Blk.below HV5.out hb⟩
    replace HF : Aside0 (Kd.C (Kd.int .i64) w7 AF L.length L) := ⟨Kd.C_below HF.out hb⟩
    replace HRd : Aside0 (Kd.C (Kd.int .i64) w7 AR L.length L) := ⟨Kd.C_below HRd.out hb⟩
    replace HW : Aside0 (Below w.heap.size w w7) := ⟨below_step HW.out hb⟩
    clear hb
    go_wp2_with (refine wl_store (by rfl) 26 _ _ (by rfl) (w7.heap.size) 0 (by rfl) 26 3 [.int .i16 0, .int .i16 0, .int .i16 0] [.int .i16 y.f0, .int .i16 y.f1, .int .i16 y.f2] (by rfl) (Blk.new w7 26 [.int .i16 0, .int .i16 0, .int .i16 0]) (by rfl) (show 0 + 3 ≤ 3 from Nat.le_refl _) (by kernel_rfl) (by rfl) ?_; intro w8 hBs hgs; have hb := stored_below hgs; replace HV5 : Aside0 (Blk w8 (w2.heap.size) 26 [.int .i16 x.f0, .int .i16 x.f1, .int .i16 x.f2]) := ⟨Blk.below HV5.out hb⟩; replace HF : Aside0 (Kd.C (Kd.int .i64) w8 AF L.length L) := ⟨Kd.C_below HF.out hb⟩; replace HRd : Aside0 (Kd.C (Kd.int .i64) w8 AR L.length L) := ⟨Kd.C_below HRd.out hb⟩; replace HW : Aside0 (Below w.heap.size w w8) := ⟨below_step HW.out hb⟩; have HV9 : Aside0 (Blk w8 (w7.heap.size) 26 [.int .i16 y.f0, .int .i16 y.f1, .int .i16 y.f2]) := ⟨Blk.all hBs (show 3 ≤ 3 from Nat.le_refl _)⟩; clear hBs hgs hb; have cHV5_0 := HV5.out.cell 0 (v := .int .i16 x.f0) rfl; have cHV5_1 := HV5.out.cell 1 (v := .int .i16 x.f1) rfl; have cHV5_2 := HV5.out.cell 2 (v := .int .i16 x.f2) rfl)
    refine (spec_FoldAll.calls (L.length + 3) x.f0 x.f1 x.f2 AF cF L y.f0 y.f1 y.f2 0 _ HF.out HLcF.out HFS.out).mono ?_
    rintro e w9 ⟨rfl, hb⟩
    clear cHV5_0 cHV5_1 cHV5_2
    replace HV5 : Aside0 (Blk w9 (w2.heap.size) 26 [.int .i16 x.f0, .int .i16 x.f1, .int .i16 x.f2]) := ⟨Blk.below HV5.out hb⟩
    replace HF : Aside0 (Kd.C (Kd.int .i64) w9 AF L.length L) := ⟨Kd.C_below HF.out hb⟩
    replace HRd : Aside0 (Kd.C (Kd.int .i64) w9 AR L.length L) := ⟨Kd.C_below HRd.out hb⟩
    replace HV9 : Aside0 (Blk w9 (w7.heap.size) 26 [.int .i16 y.f0, .int .i16 y.f1, .int .i16 y.f2]) := ⟨Blk.below HV9.out hb⟩
    replace HW : Aside0 (Below w.heap.size w w9) := ⟨below_step HW.out hb⟩
    clear hb
    go_wp2_with (refine wl_store (by rfl) 26 _ _ (by rfl) (w9.heap.size) 0 (by rfl) 26 3 [.int .i16 0, .int .i16 0, .int .i16 0] [.int .i16 y.f0, .int .i16 y.f1, .int .i16 y.f2] (by rfl) (Blk.new w9 26 [.int .i16 0, .int .i16 0, .int .i16 0]) (by rfl) (show 0 + 3 ≤ 3 from Nat.le_refl _) (by kernel_rfl) (by rfl) ?_; intro w10 hBs hgs; have hb := stored_below hgs; replace HV5 : Aside0 (Blk w10 (w2.heap.size) 26 [.int .i16 x.f0, .int .i16 x.f1, .int .i16 x.f2]) := ⟨Blk.below HV5.out hb⟩; replace HF : Aside0 (Kd.C (Kd.int .i64) w10 AF L.length L) := ⟨Kd.C_below HF.out hb⟩; replace HRd : Aside0 (Kd.C (Kd.int .i64) w10 AR L.length L) := ⟨Kd.C_below HRd.out hb⟩; replace HV9 : Aside0 (Blk w10 (w7.heap.size) 26 [.int .i16 y.f0, .int .i16 y.f1, .int .i16 y.f2]) := ⟨Blk.below HV9.out hb⟩; replace HW : Aside0 (Below w.heap.size w w10) := ⟨below_step HW.out hb⟩; have HV11 : Aside0 (Blk w10 (w9.heap.size) 26 [.int .i16 y.f0, .int .i16 y.f1, .int .i16 y.f2]) := ⟨Blk.all hBs (show 3 ≤ 3 from Nat.le_refl _)⟩; clear hBs hgs hb)
    refine (HEI.out _ AF cF HF.out HLcF.out).mono ?_
    rintro e w11 ⟨rfl, hb⟩
    replace HV5 : Aside0 (Blk w11 (w2.heap.size) 26 [.int .i16 x.f0, .int .i16 x.f1, .int .i16 x.f2]) := ⟨Blk.below HV5.out hb⟩
    replace HF : Aside0 (Kd.C (Kd.int .i64) w11 AF L.length L) := ⟨Kd.C_below HF.out hb⟩
    replace HRd : Aside0 (Kd.C (Kd.int .i64) w11 AR L.length L) := ⟨Kd.C_below HRd.out hb⟩
    replace HV9 : Aside0 (Blk w11 (w7.heap.size) 26 [.int .i16 y.f0, .int .i16 y.f1, .int .i16 y.f2]) := ⟨Blk.below HV9.out hb⟩
    replace HV11 : Aside0 (Blk w11 (w9.heap.size) 26 [.int .i16 y.f0, .int .i16 y.f1, .int .i16 y.f2]) := ⟨Blk.below HV11.out hb⟩
    replace HW : Aside0 (Below w.heap.size w w11) := ⟨below_step HW.out hb⟩
    clear hb
    go_wp2_with (refine wl_store (by rfl) 46 _ _ (by rfl) (w11.heap.size) 0 (by rfl) 46 4 [.int .i64 0, .int .i64 0, .int .i64 0, .int .i64 0] [.int .i64 e0, .int .i64 e1, .int .i64 e2, .int .i64 e3] (by rfl) (Blk.new w11 46 [.int .i64 0, .int .i64 0, .int .i64 0, .int .i64 0]) (by rfl) (show 0 + 4 ≤ 4 from Nat.le_refl _) (by kernel_rfl) (by rfl) ?_; intro w12 hBs hgs; have hb := stored_below hgs; replace HV5 : Aside0 (Blk w12 (w2.heap.size) 26 [.int .i16 x.f0, .int .i16 x.f1, .int .i16 x.f2]) := ⟨Blk.below HV5.out hb⟩; replace HF : Aside0 (Kd.C (Kd.int .i64) w12 AF L.length L) := ⟨Kd.C_below HF.out hb⟩; replace HRd : Aside0 (Kd.C (Kd.int .i64) w12 AR L.length L) := ⟨Kd.C_below HRd.out hb⟩; replace HV9 : Aside0 (Blk w12 (w7.heap.size) 26 [.int .i16 y.f0, .int .i16 y.f1, .int .i16 y.f2]) := ⟨Blk.below HV9.out hb⟩; replace HV11 : Aside0 (Blk w12 (w9.heap.size) 26 [.int .i16 y.f0, .int .i16 y.f1, .int .i16 y.f2]) := ⟨Blk.below HV11.out hb⟩; replace HW : Aside0 (Below w.heap.size w w12) := ⟨below_step HW.out hb⟩; have HV13 : Aside0 (Blk w12 (w11.heap.size) 46 [.int .i64 e0, .int .i64 e1, .int .i64 e2, .int .i64 e3]) := ⟨Blk.all hBs (show 4 ≤ 4 from Nat.le_refl _)⟩; clear hBs hgs hb)
    refine (HES.out _ AF cF HF.out).mono ?_
    rintro e w13 ⟨rfl, hb⟩
    replace HV5 : Aside0 (Blk w13 (w2.heap.size) 26 [.int .i16 x.f0, .int .i16 x.f1, .int .i16 x.f2]) := ⟨Blk.below HV5.out hb⟩
    replace HF : Aside0 (Kd.C (Kd.int .i64) w13 AF L.length L) := ⟨Kd.C_below HF.out hb⟩
    replace HRd : Aside0 (Kd.C (Kd.int .i64) w13 AR L.length L) := ⟨Kd.C_below HRd.out hb⟩
    replace HV9 : Aside0 (Blk w13 (w7.heap.size) 26 [.int .i16 y.f0, .int .i16 y.f1, .int .i16 y.f2]) := ⟨Blk.below HV9.out hb⟩
    replace HV11 : Aside0 (Blk w13 (w9.heap.size) 26 [.int .i16 y.f0, .int .i16 y.f1, .int .i16 y.f2]) := ⟨Blk.below HV11.out hb⟩
    replace HV13 : Aside0 (Blk w13 (w11.heap.size) 46 [.int .i64 e0, .int .i64 e1, .int .i64 e2, .int .i64 e3]) := ⟨Blk.below HV13.out hb⟩
    replace HW : Aside0 (Below w.heap.size w w13) := ⟨below_step HW.out hb⟩
    clear hb
    go_wp2_with (refine wl_store (by rfl) 46 _ _ (by rfl) (w13.heap.size) 0 (by rfl) 46 4 [.int .i64 0, .int .i64 0, .int .i64 0, .int .i64 0] [.int .i64 e0, .int .i64 e1, .int .i64 e2, .int .i64 e3] (by rfl) (Blk.new w13 46 [.int .i64 0, .int .i64 0, .int .i64 0, .int .i64 0]) (by rfl) (show 0 + 4 ≤ 4 from Nat.le_refl _) (by kernel_rfl) (by rfl) ?_; intro w14 hBs hgs; have hb := stored_below hgs; replace HV5 : Aside0 (Blk w14 (w2.heap.size) 26 [.int .i16 x.f0, .int .i16 x.f1, .int .i16 x.f2]) := ⟨Blk.below HV5.out hb⟩; replace HF : Aside0 (Kd.C (Kd.int .i64) w14 AF L.length L) := ⟨Kd.C_below HF.out hb⟩; replace HRd : Aside0 (Kd.C (Kd.int .i64) w14 AR L.length L) := ⟨Kd.C_below HRd.out hb⟩; replace HV9 : Aside0 (Blk w14 (w7.heap.size) 26 [.int .i16 y.f0, .int .i16 y.f1, .int .i16 y.f2]) := ⟨Blk.below HV9.out hb⟩; replace HV11 : Aside0 (Blk w14 (w9.heap.size) 26 [.int .i16 y.f0, .int .i16 y.f1, .int .i16 y.f2]) := ⟨Blk.below HV11.out hb⟩; replace HV13 : Aside0 (Blk w14 (w11.heap.size) 46 [.int .i64 e0, .int .i64 e1, .int .i64 e2, .int .i64 e3]) := ⟨Blk.below HV13.out hb⟩; replace HW : Aside0 (Below w.heap.size w w14) := ⟨below_step HW.out hb⟩; have HV15 : Aside0 (Blk w14 (w13.heap.size) 46 [.int .i64 e0, .int .i64 e1, .int .i64 e2, .int .i64 e3]) := ⟨Blk.all hBs (show 4 ≤ 4 from Nat.le_refl _)⟩; clear hBs hgs hb; have cHV5_0 := HV5.out.cell 0 (v := .int .i16 x.f0) rfl; have cHV5_1 := HV5.out.cell 1 (v := .int .i16 x.f1) rfl; have cHV5_2 := HV5.out.cell 2 (v := .int .i16 x.f2) rfl)
    refine (impl_AreaOf.calls x.f0 x.f1 x.f2 ar 0 _ HAX.out).mono ?_
    rintro e w15 ⟨rfl, hb⟩
    clear cHV5_0 cHV5_1 cHV5_2
    replace HV5 : Aside0 (Blk w15 (w2.heap.size) 26 [.int .i16 x.f0, .int .i16 x.f1, .int .i16 x.f2]) := ⟨Blk.below HV5.out hb⟩
    replace HF : Aside0 (Kd.C (Kd.int .i64) w15 AF L.length L) := ⟨Kd.C_below HF.out hb⟩
    replace HRd : Aside0 (Kd.C (Kd.int .i64) w15 AR L.length L) := ⟨Kd.C_below HRd.out hb⟩
    replace HV9 : Aside0 (Blk w15 (w7.heap.size) 26 [.int .i16 y.f0, .int .i16 y.f1, .int .i16 y.f2]) := ⟨Blk.below HV9.out hb⟩
    replace HV11 : Aside0 (Blk w15 (w9.heap.size) 26 [.int .i16 y.f0, .int .i16 y.f1, .int .i16 y.f2]) := ⟨Blk.below HV11.out hb⟩
    replace HV13 : Aside0 (Blk w15 (w11.heap.size) 46 [.int .i64 e0, .int .i64 e1, .int .i64 e2, .int .i64 e3]) := ⟨Blk.below HV13.out hb⟩
    replace HV15 : Aside0 (Blk w15 (w13.heap.size) 46 [.int .i64 e0, .int .i64 e1, .int .i64 e2, .int .i64 e3]) := ⟨Blk.below HV15.out hb⟩
    replace HW : Aside0 (Below w.heap.size w w15) := ⟨below_step HW.out hb⟩
    clear hb
    have cHV11_0 := HV11.out.cell 0 (v := .int .i16 y.f0) rfl
    have cHV11_1 := HV11.out.cell 1 (v := .int .i16 y.f1) rfl
    have cHV11_2 := HV11.out.cell 2 (v := .int .i16 y.f2) rfl
    go_wp2_with fail
    refine (impl_AreaOf.calls y.f0 y.f1 y.f2 ar 0 _ HAY.out).mono ?_
    rintro e w16 ⟨rfl, hb⟩
    clear cHV11_0 cHV11_1 cHV11_2
    replace HV5 : Aside0 (Blk w16 (w2.heap.size) 26 [.int .i16 x.f0, .int .i16 x.f1, .int .i16 x.f2]) := ⟨Blk.below HV5.out hb⟩
    replace HF : Aside0 (Kd.C (Kd.int .i64) w16 AF L.length L) := ⟨Kd.C_below HF.out hb⟩
    replace HRd : Aside0 (Kd.C (Kd.int .i64) w16 AR L.length L) := ⟨Kd.C_below HRd.out hb⟩
    replace HV9 : Aside0 (Blk w16 (w7.heap.size) 26 [.int .i16 y.f0, .int .i16 y.f1, .int .i16 y.f2]) := ⟨Blk.below HV9.out hb⟩
    replace HV11 : Aside0 (Blk w16 (w9.heap.size) 26 [.int .i16 y.f0, .int .i16 y.f1, .int .i16 y.f2]) := ⟨Blk.below HV11.out hb⟩
    replace HV13 : Aside0 (Blk w16 (w11.heap.size) 46 [.int .i64 e0, .int .i64 e1, .int .i64 e2, .int .i64 e3]) := ⟨Blk.below HV13.out hb⟩
    replace HV15 : Aside0 (Blk w16 (w13.heap.size) 46 [.int .i64 e0, .int .i64 e1, .int .i64 e2, .int .i64 e3]) := ⟨Blk.below HV15.out hb⟩
    replace HW : Aside0 (Below w.heap.size w w16) := ⟨below_step HW.out hb⟩
    clear hb
    have cHV11_0 := HV11.out.cell 0 (v := .int .i16 y.f0) rfl
    have cHV11_1 := HV11.out.cell 1 (v := .int .i16 y.f1) rfl
    have cHV11_2 := HV11.out.cell 2 (v := .int .i16 y.f2) rfl
    go_wp2_with fail
    refine (impl_FoldsPossible.calls 6 y.f0 y.f1 y.f2 M 0 _ HPI.out).mono ?_
    rintro e w17 ⟨vI, rfl, hRI, hb⟩
    clear cHV11_0 cHV11_1 cHV11_2
    replace HV5 : Aside0 (Blk w17 (w2.heap.size) 26 [.int .i16 x.f0, .int .i16 x.f1, .int .i16 x.f2]) := ⟨Blk.below HV5.out hb⟩
    replace HF : Aside0 (Kd.C (Kd.int .i64) w17 AF L.length L) := ⟨Kd.C_below HF.out hb⟩
    replace HRd : Aside0 (Kd.C (Kd.int .i64) w17 AR L.length L) := ⟨Kd.C_below HRd.out hb⟩
    replace HV9 : Aside0 (Blk w17 (w7.heap.size) 26 [.int .i16 y.f0, .int .i16 y.f1, .int .i16 y.f2]) := ⟨Blk.below HV9.out hb⟩
    replace HV11 : Aside0 (Blk w17 (w9.heap.size) 26 [.int .i16 y.f0, .int .i16 y.f1, .int .i16 y.f2]) := ⟨Blk.below HV11.out hb⟩
    replace HV13 : Aside0 (Blk w17 (w11.heap.size) 46 [.int .i64 e0, .int .i64 e1, .int .i64 e2, .int .i64 e3]) := ⟨Blk.below HV13.out hb⟩
    replace HV15 : Aside0 (Blk w17 (w13.heap.size) 46 [.int .i64 e0, .int .i64 e1, .int .i64 e2, .int .i64 e3]) := ⟨Blk.below HV15.out hb⟩
    replace HW : Aside0 (Below w.heap.size w w17) := ⟨below_step HW.out hb⟩
    clear hb
    obtain ⟨AI, cI, rfl, hcI, hC_⟩ := Kd.R_reads hRI
    have HMI := Aside0.mk hC_
    have HLcI := Aside0.mk hcI
    clear hC_ hRI hcI
    have cHV11_0 := HV11.out.cell 0 (v := .int .i16 y.f0) rfl
    have cHV11_1 := HV11.out.cell 1 (v := .int .i16 y.f1) rfl
    have cHV11_2 := HV11.out.cell 2 (v := .int .i16 y.f2) rfl
    go_wp2_with fail
    refine (spec_FoldsPossible.calls 6 y.f0 y.f1 y.f2 M 0 _ HPS.out).mono ?_
    rintro e w18 ⟨vS, rfl, hRS, hb⟩
    clear cHV11_0 cHV11_1 cHV11_2
    replace HV5 : Aside0 (Blk w18 (w2.heap.size) 26 [.int .i16 x.f0, .int .i16 x.f1, .int .i16 x.f2]) := ⟨Blk.below HV5.out hb⟩
    replace HF : Aside0 (Kd.C (Kd.int .i64) w18 AF L.length L) := ⟨Kd.C_below HF.out hb⟩
    replace HRd : Aside0 (Kd.C (Kd.int .i64) w18 AR L.length L) := ⟨Kd.C_below HRd.out hb⟩
    replace HV9 : Aside0 (Blk w18 (w7.heap.size) 26 [.int .i16 y.f0, .int .i16 y.f1, .int .i16 y.f2]) := ⟨Blk.below HV9.out hb⟩
    replace HV11 : Aside0 (Blk w18 (w9.heap.size) 26 [.int .i16 y.f0, .int .i16 y.f1, .int .i16 y.f2]) := ⟨Blk.below HV11.out hb⟩
    replace HV13 : Aside0 (Blk w18 (w11.heap.size) 46 [.int .i64 e0, .int .i64 e1, .int .i64 e2, .int .i64 e3]) := ⟨Blk.below HV13.out hb⟩
    replace HV15 : Aside0 (Blk w18 (w13.heap.size) 46 [.int .i64 e0, .int .i64 e1, .int .i64 e2, .int .i64 e3]) := ⟨Blk.below HV15.out hb⟩
    replace HMI : Aside0 (Kd.C (Kd.int .i64) w18 AI M.length M) := ⟨Kd.C_below HMI.out hb⟩
    replace HW : Aside0 (Below w.heap.size w w18) := ⟨below_step HW.out hb⟩
    clear hb
    obtain ⟨AS, cS, rfl, hcS, hC_⟩ := Kd.R_reads hRS
    have HMS := Aside0.mk hC_
    have HLcS := Aside0.mk hcS
    clear hC_ hRS hcS
    go_wp2_with fail
    refine (spec_A2Same.calls (L.length + 1) AR cR L AF cF L true _ HRd.out HLcR.out HF.out HLcF.out HSL.out).mono ?_
    rintro e w19 ⟨rfl, hd⟩
    replace HV5 : Aside0 (Blk w19 (w2.heap.size) 26 [.int .i16 x.f0, .int .i16 x.f1, .int .i16 x.f2]) := ⟨Blk.below HV5.out hd.below⟩
    replace HF : Aside0 (Kd.C (Kd.int .i64) w19 AF L.length L) := ⟨Kd.C_below HF.out hd.below⟩
    replace HRd : Aside0 (Kd.C (Kd.int .i64) w19 AR L.length L) := ⟨Kd.C_below HRd.out hd.below⟩
    replace HV9 : Aside0 (Blk w19 (w7.heap.size) 26 [.int .i16 y.f0, .int .i16 y.f1, .int .i16 y.f2]) := ⟨Blk.below HV9.out hd.below⟩
    replace HV11 : Aside0 (Blk w19 (w9.heap.size) 26 [.int .i16 y.f0, .int .i16 y.f1, .int .i16 y.f2]) := ⟨Blk.below HV11.out hd.below⟩
    replace HV13 : Aside0 (Blk w19 (w11.heap.size) 46 [.int .i64 e0, .int .i64 e1, .int .i64 e2, .int .i64 e3]) := ⟨Blk.below HV13.out hd.below⟩
    replace HV15 : Aside0 (Blk w19 (w13.heap.size) 46 [.int .i64 e0, .int .i64 e1, .int .i64 e2, .int .i64 e3]) := ⟨Blk.below HV15.out hd.below⟩
    replace HMI : Aside0 (Kd.C (Kd.int .i64) w19 AI M.length M) := ⟨Kd.C_below HMI.out hd.below⟩
    replace HMS : Aside0 (Kd.C (Kd.int .i64) w19 AS M.length M) := ⟨Kd.C_below HMS.out hd.below⟩
    replace HW : Aside0 (Below w.heap.size w w19) := ⟨below_step HW.out hd.below⟩
    clear hd
    have cHV9_0 := HV9.out.cell 0 (v := .int .i16 y.f0) rfl
    have cHV9_1 := HV9.out.cell 1 (v := .int .i16 y.f1) rfl
    have cHV9_2 := HV9.out.cell 2 (v := .int .i16 y.f2) rfl
    have cHV11_0 := HV11.out.cell 0 (v := .int .i16 y.f0) rfl
    have cHV11_1 := HV11.out.cell 1 (v := .int .i16 y.f1) rfl
    have cHV11_2 := HV11.out.cell 2 (v := .int .i16 y.f2) rfl
    go_wp2_with fail
    refine (impl_ValidSheet.calls y.f0 y.f1 y.f2 true _ HVY.out).mono ?_
    rintro e w20 ⟨rfl, hb⟩
    clear cHV9_0 cHV9_1 cHV9_2 cHV11_0 cHV11_1 cHV11_2
    replace HV5 : Aside0 (Blk w20 (w2.heap.size) 26 [.int .i16 x.f0, .int .i16 x.f1, .int .i16 x.f2]) := ⟨Blk.below HV5.out hb⟩
    replace HF : Aside0 (Kd.C (Kd.int .i64) w20 AF L.length L) := ⟨Kd.C_below HF.out hb⟩
    replace HRd : Aside0 (Kd.C (Kd.int .i64) w20 AR L.length L) := ⟨Kd.C_below HRd.out hb⟩
    replace HV9 : Aside0 (Blk w20 (w7.heap.size) 26 [.int .i16 y.f0, .int .i16 y.f1, .int .i16 y.f2]) := ⟨Blk.below HV9.out hb⟩
    replace HV11 : Aside0 (Blk w20 (w9.heap.size) 26 [.int .i16 y.f0, .int .i16 y.f1, .int .i16 y.f2]) := ⟨Blk.below HV11.out hb⟩
    replace HV13 : Aside0 (Blk w20 (w11.heap.size) 46 [.int .i64 e0, .int .i64 e1, .int .i64 e2, .int .i64 e3]) := ⟨Blk.below HV13.out hb⟩
    replace HV15 : Aside0 (Blk w20 (w13.heap.size) 46 [.int .i64 e0, .int .i64 e1, .int .i64 e2, .int .i64 e3]) := ⟨Blk.below HV15.out hb⟩
    replace HMI : Aside0 (Kd.C (Kd.int .i64) w20 AI M.length M) := ⟨Kd.C_below HMI.out hb⟩
    replace HMS : Aside0 (Kd.C (Kd.int .i64) w20 AS M.length M) := ⟨Kd.C_below HMS.out hb⟩
    replace HW : Aside0 (Below w.heap.size w w20) := ⟨below_step HW.out hb⟩
    clear hb
    have hqe := HQE.out w20
    have cHV13_0 := HV13.out.cell 0 (v := .int .i64 e0) rfl
    have cHV13_1 := HV13.out.cell 1 (v := .int .i64 e1) rfl
    have cHV13_2 := HV13.out.cell 2 (v := .int .i64 e2) rfl
    have cHV13_3 := HV13.out.cell 3 (v := .int .i64 e3) rfl
    have cHV15_0 := HV15.out.cell 0 (v := .int .i64 e0) rfl
    have cHV15_1 := HV15.out.cell 1 (v := .int .i64 e1) rfl
    have cHV15_2 := HV15.out.cell 2 (v := .int .i64 e2) rfl
    have cHV15_3 := HV15.out.cell 3 (v := .int .i64 e3) rfl
    go_wp2_with fail
    clear hqe
    refine (spec_A2Same.calls (M.length + 1) AI cI M AS cS M true _ HMI.out HLcI.out HMS.out HLcS.out HSM.out).mono ?_
    rintro e w21 ⟨rfl, hd⟩
    clear cHV13_0 cHV13_1 cHV13_2 cHV13_3 cHV15_0 cHV15_1 cHV15_2 cHV15_3
    replace HV5 : Aside0 (Blk w21 (w2.heap.size) 26 [.int .i16 x.f0, .int .i16 x.f1, .int .i16 x.f2]) := ⟨Blk.below HV5.out hd.below⟩
    replace HF : Aside0 (Kd.C (Kd.int .i64) w21 AF L.length L) := ⟨Kd.C_below HF.out hd.below⟩
    replace HRd : Aside0 (Kd.C (Kd.int .i64) w21 AR L.length L) := ⟨Kd.C_below HRd.out hd.below⟩
    replace HV9 : Aside0 (Blk w21 (w7.heap.size) 26 [.int .i16 y.f0, .int .i16 y.f1, .int .i16 y.f2]) := ⟨Blk.below HV9.out hd.below⟩
    replace HV11 : Aside0 (Blk w21 (w9.heap.size) 26 [.int .i16 y.f0, .int .i16 y.f1, .int .i16 y.f2]) := ⟨Blk.below HV11.out hd.below⟩
    replace HV13 : Aside0 (Blk w21 (w11.heap.size) 46 [.int .i64 e0, .int .i64 e1, .int .i64 e2, .int .i64 e3]) := ⟨Blk.below HV13.out hd.below⟩
    replace HV15 : Aside0 (Blk w21 (w13.heap.size) 46 [.int .i64 e0, .int .i64 e1, .int .i64 e2, .int .i64 e3]) := ⟨Blk.below HV15.out hd.below⟩
    replace HMI : Aside0 (Kd.C (Kd.int .i64) w21 AI M.length M) := ⟨Kd.C_below HMI.out hd.below⟩
    replace HMS : Aside0 (Kd.C (Kd.int .i64) w21 AS M.length M) := ⟨Kd.C_below HMS.out hd.below⟩
    replace HW : Aside0 (Below w.heap.size w w21) := ⟨below_step HW.out hd.below⟩
    clear hd
    clear HV9 HV13 HRd HMI
    have hdv := HDV.out
    have hx0 : ¬ x.f2 = 0 := by omega
    have hx0b : (x.f2 == 0) = false := beq_eq_false_iff_ne.2 hx0
    have ip : IntKind.i64.wrap p = p := IntWalk.i64_in _ ⟨by omega, by omega⟩
    have cHV5_0 := HV5.out.cell 0 (v := .int .i16 x.f0) rfl
    have cHV5_1 := HV5.out.cell 1 (v := .int .i16 x.f1) rfl
    have cHV5_2 := HV5.out.cell 2 (v := .int .i16 x.f2) rfl
    have cHV11_0 := HV11.out.cell 0 (v := .int .i16 y.f0) rfl
    have cHV11_1 := HV11.out.cell 1 (v := .int .i16 y.f1) rfl
    have cHV11_2 := HV11.out.cell 2 (v := .int .i16 y.f2) rfl
    go_wp2_with fail
    clear cHV5_0 cHV5_1 cHV5_2 cHV11_0 cHV11_1 cHV11_2
    clear hdv hx0 hx0b
    clear HF
    have HQQ := Aside0.mk (And.intro (And.intro q0 q1) (And.intro (And.intro q2 q3) (And.intro (And.intro q4 q5) (And.intro (And.intro q6 q7) (And.intro q8 q9)))))
    clear q0 q1 q2 q3 q4 q5 q6 q7 q8 q9
    go_loopw [26] (fun v26 w' => ∃ j : Nat, j ≤ 4 ∧ v26 = .int .i64 j ∧ w' = w21) (fun v26 _ => 4 - (intOf v26).toNat)
    case atStart => exact ⟨0, by omega, rfl, rfl⟩
    case round =>
      obtain ⟨j, hj, rfl, hw⟩ := hrel
      subst hw
      obtain ⟨⟨q0, q1⟩, ⟨q2, q3⟩, ⟨q4, q5⟩, ⟨q6, q7⟩, q8, q9⟩ := HQQ.out
      have i2p : IntKind.i64.wrap (2 * p) = 2 * p := IntWalk.i64_in _ ⟨by omega, by omega⟩
      obtain rfl | rfl | rfl | rfl | rfl : j = 0 ∨ j = 1 ∨ j = 2 ∨ j = 3 ∨ j = 4 := by omega
      · have n0 : ¬ e0 < 0 := by omega
        have n1 : ¬ 2 * p < e0 := by omega
        clear q0 q1 q2 q3 q4 q5 q6 q7 q8 q9
        have cHV15_0 := HV15.out.cell 0 (v := .int .i64 e0) rfl
        have cHV15_1 := HV15.out.cell 1 (v := .int .i64 e1) rfl
        have cHV15_2 := HV15.out.cell 2 (v := .int .i64 e2) rfl
        have cHV15_3 := HV15.out.cell 3 (v := .int .i64 e3) rfl
        go_wp2
        go_roundw
        case rel => exact ⟨1, by omega, by first | rfl | trivial, by first | rfl | trivial⟩
        case measure => simp [intOf]
      · have n0 : ¬ e1 < 0 := by omega
        have n1 : ¬ 2 * p < e1 := by omega
        clear q0 q1 q2 q3 q4 q5 q6 q7 q8 q9
        have cHV15_0 := HV15.out.cell 0 (v := .int .i64 e0) rfl
        have cHV15_1 := HV15.out.cell 1 (v := .int .i64 e1) rfl
        have cHV15_2 := HV15.out.cell 2 (v := .int .i64 e2) rfl
        have cHV15_3 := HV15.out.cell 3 (v := .int .i64 e3) rfl
        go_wp2
        go_roundw
        case rel => exact ⟨2, by omega, by first | rfl | trivial, by first | rfl | trivial⟩
        case measure => simp [intOf]
      · have n0 : ¬ e2 < 0 := by omega
        have n1 : ¬ 2 * p < e2 := by omega
        clear q0 q1 q2 q3 q4 q5 q6 q7 q8 q9
        have cHV15_0 := HV15.out.cell 0 (v := .int .i64 e0) rfl
        have cHV15_1 := HV15.out.cell 1 (v := .int .i64 e1) rfl
        have cHV15_2 := HV15.out.cell 2 (v := .int .i64 e2) rfl
        have cHV15_3 := HV15.out.cell 3 (v := .int .i64 e3) rfl
        go_wp2
        go_roundw
        case rel => exact ⟨3, by omega, by first | rfl | trivial, by first | rfl | trivial⟩
        case measure => simp [intOf]
      · have n0 : ¬ e3 < 0 := by omega
        have n1 : ¬ 2 * p < e3 := by omega
        clear q0 q1 q2 q3 q4 q5 q6 q7 q8 q9
        have cHV15_0 := HV15.out.cell 0 (v := .int .i64 e0) rfl
        have cHV15_1 := HV15.out.cell 1 (v := .int .i64 e1) rfl
        have cHV15_2 := HV15.out.cell 2 (v := .int .i64 e2) rfl
        have cHV15_3 := HV15.out.cell 3 (v := .int .i64 e3) rfl
        go_wp2
        go_roundw
        case rel => exact ⟨4, by omega, by first | rfl | trivial, by first | rfl | trivial⟩
        case measure => simp [intOf]
      · have n0 : ¬ e0 + e1 < 1 := by omega
        have n1 : ¬ e2 + e3 < 1 := by omega
        have s0 : IntKind.i64.wrap (e0 + e1) = e0 + e1 := IntWalk.i64_in _ ⟨by omega, by omega⟩
        have s1 : IntKind.i64.wrap (e2 + e3) = e2 + e3 := IntWalk.i64_in _ ⟨by omega, by omega⟩
        clear q0 q1 q2 q3 q4 q5 q6 q7 q8 q9
        have hbz1 := HBZ1.out
        have hbz3 := HBZ3.out
        have cHV15_0 := HV15.out.cell 0 (v := .int .i64 e0) rfl
        have cHV15_1 := HV15.out.cell 1 (v := .int .i64 e1) rfl
        have cHV15_2 := HV15.out.cell 2 (v := .int .i64 e2) rfl
        have cHV15_3 := HV15.out.cell 3 (v := .int .i64 e3) rfl
        go_wp2_with fail
        clear cHV15_0 cHV15_1 cHV15_2 cHV15_3
        clear n0 n1 s0 s1 hbz1 hbz3 i2p
        clear HV15
        go_loopw [27] (fun v27 w' => ∃ j : Nat, j ≤ 4 ∧ v27 = .int .i64 j ∧ Aside0 (Blk w' (w2.heap.size) 26 [.int .i16 x.f0, .int .i16 x.f1, .int .i16 x.f2]) ∧ Aside0 (Blk w' (w9.heap.size) 26 [.int .i16 y.f0, .int .i16 y.f1, .int .i16 y.f2]) ∧ Aside0 (Kd.C (Kd.int .i64) w' AS M.length M) ∧ Aside0 (Below w.heap.size w w')) (fun v27 _ => 4 - (intOf v27).toNat)
        case atStart => exact ⟨0, by omega, rfl, HV5, HV11, HMS, HW⟩
        case round =>
          clear HV5 HV11 HMS HW
          obtain ⟨j, hj, rfl, HV5, HV11, HMS, HW⟩ := hrel
          obtain ⟨wo, rfl⟩ : ∃ wo : World, wo = wr := ⟨_, rfl⟩
          have hj9 : IntKind.i64.wrap ((j : Int) + 1) = (j : Int) + 1 := IntWalk.i64_in _ ⟨by omega, by omega⟩
          by_cases hj4 : j < 4
          · have hji : (j : Int) < 4 := by omega
            have hf : 0 ≤ (j : Int) ∧ (j : Int) ≤ 3 := by omega
            have byy := Sh.bd hsy.out
            have HFI2 := Aside0.mk (implFold_f byy.1 byy.2.1 byy.2.2 (j : Int))
            have HFS2 := Aside0.mk (specFold_f byy.1 byy.2.1 byy.2.2 (j : Int) 0)
            have HUI := Aside0.mk (implUnfold_f byy.1 byy.2.1 byy.2.2 (j : Int))
            have HUS := Aside0.mk (specUnfold_f byy.1 byy.2.1 byy.2.2 (j : Int))
            have HPQ := Aside0.mk (HPM.out _ hf)
            have HFW := Aside0.mk (fun a b c => fold_some (f := (j : Int)) (a := a) (b := b) (c := c) hsy.out)
            have HUF := Aside0.mk (fun a b c => fold_unfold (a := a) (b := b) (c := c) hf hsy.out)
            have HHF := Aside0.mk hf
            clear byy hf
            generalize foldF y.f0 y.f1 y.f2 (j : Int) = R at *
            obtain ⟨r0, r1, r2, r3⟩ := R
            generalize unfoldF y.f0 y.f1 y.f2 (j : Int) = U at *
            obtain ⟨u0, u1, u2, u3⟩ := U
            simp only at HPQ
            have HH2 := Aside0.mk (HHM.out (j : Int))
            rw [HPQ.out] at HH2
            by_cases hr0 : r3 = 0
            · subst hr0
              rw [decide_eq_true rfl] at HH2
              obtain ⟨z, rfl, rfl, rfl⟩ : ∃ z : S26, r0 = z.f0 ∧ r1 = z.f1 ∧ r2 = z.f2 := ⟨⟨r0, r1, r2⟩, rfl, rfl, rfl⟩
              have hmk := HFW.out _ _ _ rfl
              have hz := mkS_sh hsy.out hmk
              have bz_ := Sh.bd hz
              have hUZ := implUnfold_f bz_.1 bz_.2.1 bz_.2.2 (j : Int)
              rw [unfold_fold HHF.out hsy.out hz hmk] at hUZ
              have HUZ := Aside0.mk hUZ
              have hAZ := area_f hz
              have hAY2 := area_f hsy.out
              rw [HAY.out] at hAY2
              have hAE := Option.some.inj hAY2
              injection hAE with hAE _
              rw [show (⟨z.f0, z.f1, z.f2⟩ : S26) = z from rfl] at hmk
              rw [mkS_area hmk HHF.out, ← hAE] at hAZ
              have HAZ := Aside0.mk hAZ
              clear hmk hz bz_ hUZ hAZ hAY2 hAE
              have cHV11_0 := HV11.out.cell 0 (v := .int .i16 y.f0) rfl
              have cHV11_1 := HV11.out.cell 1 (v := .int .i16 y.f1) rfl
              have cHV11_2 := HV11.out.cell 2 (v := .int .i16 y.f2) rfl
              go_wp2_with fail
              refine (impl_FoldSheet.calls y.f0 y.f1 y.f2 (j : Int) z.f0 z.f1 z.f2 0 _ HFI2.out).mono ?_
              rintro e w22 ⟨rfl, hb⟩
              clear cHV11_0 cHV11_1 cHV11_2
              replace HV5 : Aside0 (Blk w22 (w2.heap.size) 26 [.int .i16 x.f0, .int .i16 x.f1, .int .i16 x.f2]) := ⟨Blk.below HV5.out hb⟩
              replace HV11 : Aside0 (Blk w22 (w9.heap.size) 26 [.int .i16 y.f0, .int .i16 y.f1, .int .i16 y.f2]) := ⟨Blk.below HV11.out hb⟩
              replace HMS : Aside0 (Kd.C (Kd.int .i64) w22 AS M.length M) := ⟨Kd.C_below HMS.out hb⟩
              replace HW : Aside0 (Below w.heap.size w w22) := ⟨below_step HW.out hb⟩
              clear hb
              go_wp2_with (refine wl_store (by rfl) 26 _ _ (by rfl) (w22.heap.size) 0 (by rfl) 26 3 [.int .i16 0, .int .i16 0, .int .i16 0] [.int .i16 z.f0, .int .i16 z.f1, .int .i16 z.f2] (by rfl) (Blk.new w22 26 [.int .i16 0, .int .i16 0, .int .i16 0]) (by rfl) (show 0 + 3 ≤ 3 from Nat.le_refl _) (by kernel_rfl) (by rfl) ?_; intro w23 hBs hgs; have hb := stored_below hgs; replace HV5 : Aside0 (Blk w23 (w2.heap.size) 26 [.int .i16 x.f0, .int .i16 x.f1, .int .i16 x.f2]) := ⟨Blk.below HV5.out hb⟩; replace HV11 : Aside0 (Blk w23 (w9.heap.size) 26 [.int .i16 y.f0, .int .i16 y.f1, .int .i16 y.f2]) := ⟨Blk.below HV11.out hb⟩; replace HMS : Aside0 (Kd.C (Kd.int .i64) w23 AS M.length M) := ⟨Kd.C_below HMS.out hb⟩; replace HW : Aside0 (Below w.heap.size w w23) := ⟨below_step HW.out hb⟩; have HV28 : Aside0 (Blk w23 (w22.heap.size) 26 [.int .i16 z.f0, .int .i16 z.f1, .int .i16 z.f2]) := ⟨Blk.all hBs (show 3 ≤ 3 from Nat.le_refl _)⟩; clear hBs hgs hb; have cHV11_0 := HV11.out.cell 0 (v := .int .i16 y.f0) rfl; have cHV11_1 := HV11.out.cell 1 (v := .int .i16 y.f1) rfl; have cHV11_2 := HV11.out.cell 2 (v := .int .i16 y.f2) rfl)
              refine (spec_FoldSheet.calls 1 y.f0 y.f1 y.f2 (j : Int) z.f0 z.f1 z.f2 0 _ HFS2.out).mono ?_
              rintro e w24 ⟨rfl, hb⟩
              clear cHV11_0 cHV11_1 cHV11_2
              replace HV5 : Aside0 (Blk w24 (w2.heap.size) 26 [.int .i16 x.f0, .int .i16 x.f1, .int .i16 x.f2]) := ⟨Blk.below HV5.out hb⟩
              replace HV11 : Aside0 (Blk w24 (w9.heap.size) 26 [.int .i16 y.f0, .int .i16 y.f1, .int .i16 y.f2]) := ⟨Blk.below HV11.out hb⟩
              replace HMS : Aside0 (Kd.C (Kd.int .i64) w24 AS M.length M) := ⟨Kd.C_below HMS.out hb⟩
              replace HV28 : Aside0 (Blk w24 (w22.heap.size) 26 [.int .i16 z.f0, .int .i16 z.f1, .int .i16 z.f2]) := ⟨Blk.below HV28.out hb⟩
              replace HW : Aside0 (Below w.heap.size w w24) := ⟨below_step HW.out hb⟩
              clear hb
              go_wp2_with (refine wl_store (by rfl) 26 _ _ (by rfl) (w24.heap.size) 0 (by rfl) 26 3 [.int .i16 0, .int .i16 0, .int .i16 0] [.int .i16 z.f0, .int .i16 z.f1, .int .i16 z.f2] (by rfl) (Blk.new w24 26 [.int .i16 0, .int .i16 0, .int .i16 0]) (by rfl) (show 0 + 3 ≤ 3 from Nat.le_refl _) (by kernel_rfl) (by rfl) ?_; intro w25 hBs hgs; have hb := stored_below hgs; replace HV5 : Aside0 (Blk w25 (w2.heap.size) 26 [.int .i16 x.f0, .int .i16 x.f1, .int .i16 x.f2]) := ⟨Blk.below HV5.out hb⟩; replace HV11 : Aside0 (Blk w25 (w9.heap.size) 26 [.int .i16 y.f0, .int .i16 y.f1, .int .i16 y.f2]) := ⟨Blk.below HV11.out hb⟩; replace HMS : Aside0 (Kd.C (Kd.int .i64) w25 AS M.length M) := ⟨Kd.C_below HMS.out hb⟩; replace HV28 : Aside0 (Blk w25 (w22.heap.size) 26 [.int .i16 z.f0, .int .i16 z.f1, .int .i16 z.f2]) := ⟨Blk.below HV28.out hb⟩; replace HW : Aside0 (Below w.heap.size w w25) := ⟨below_step HW.out hb⟩; have HV30 : Aside0 (Blk w25 (w24.heap.size) 26 [.int .i16 z.f0, .int .i16 z.f1, .int .i16 z.f2]) := ⟨Blk.all hBs (show 3 ≤ 3 from Nat.le_refl _)⟩; clear hBs hgs hb; have cHV28_0 := HV28.out.cell 0 (v := .int .i16 z.f0) rfl; have cHV28_1 := HV28.out.cell 1 (v := .int .i16 z.f1) rfl; have cHV28_2 := HV28.out.cell 2 (v := .int .i16 z.f2) rfl; have cHV30_0 := HV30.out.cell 0 (v := .int .i16 z.f0) rfl; have cHV30_1 := HV30.out.cell 1 (v := .int .i16 z.f1) rfl; have cHV30_2 := HV30.out.cell 2 (v := .int .i16 z.f2) rfl)
              clear cHV28_0 cHV28_1 cHV28_2 cHV30_0 cHV30_1 cHV30_2
              have cHV28_0 := HV28.out.cell 0 (v := .int .i16 z.f0) rfl
              have cHV28_1 := HV28.out.cell 1 (v := .int .i16 z.f1) rfl
              have cHV28_2 := HV28.out.cell 2 (v := .int .i16 z.f2) rfl
              have cHV30_0 := HV30.out.cell 0 (v := .int .i16 z.f0) rfl
              have cHV30_1 := HV30.out.cell 1 (v := .int .i16 z.f1) rfl
              have cHV30_2 := HV30.out.cell 2 (v := .int .i16 z.f2) rfl
              go_wp2_with fail
              refine (spec_A2Has.calls (M.length + 1) AS cS M (j : Int) true _ HMS.out HLcS.out HH2.out).mono ?_
              rintro e w26 ⟨rfl, hd⟩
              clear cHV28_0 cHV28_1 cHV28_2 cHV30_0 cHV30_1 cHV30_2
              replace HV5 : Aside0 (Blk w26 (w2.heap.size) 26 [.int .i16 x.f0, .int .i16 x.f1, .int .i16 x.f2]) := ⟨Blk.below HV5.out hd.below⟩
              replace HV11 : Aside0 (Blk w26 (w9.heap.size) 26 [.int .i16 y.f0, .int .i16 y.f1, .int .i16 y.f2]) := ⟨Blk.below HV11.out hd.below⟩
              replace HMS : Aside0 (Kd.C (Kd.int .i64) w26 AS M.length M) := ⟨Kd.C_below HMS.out hd.below⟩
              replace HV28 : Aside0 (Blk w26 (w22.heap.size) 26 [.int .i16 z.f0, .int .i16 z.f1, .int .i16 z.f2]) := ⟨Blk.below HV28.out hd.below⟩
              replace HV30 : Aside0 (Blk w26 (w24.heap.size) 26 [.int .i16 z.f0, .int .i16 z.f1, .int .i16 z.f2]) := ⟨Blk.below HV30.out hd.below⟩
              replace HW : Aside0 (Below w.heap.size w w26) := ⟨below_step HW.out hd.below⟩
              clear hd
              clear HV28
              have cHV30_0 := HV30.out.cell 0 (v := .int .i16 z.f0) rfl
              have cHV30_1 := HV30.out.cell 1 (v := .int .i16 z.f1) rfl
              have cHV30_2 := HV30.out.cell 2 (v := .int .i16 z.f2) rfl
              go_wp2_with fail
              refine (impl_UnfoldSheet.calls z.f0 z.f1 z.f2 (j : Int) y.f0 y.f1 y.f2 0 _ HUZ.out).mono ?_
              rintro e w27 ⟨rfl, hb⟩
              clear cHV30_0 cHV30_1 cHV30_2
              replace HV5 : Aside0 (Blk w27 (w2.heap.size) 26 [.int .i16 x.f0, .int .i16 x.f1, .int .i16 x.f2]) := ⟨Blk.below HV5.out hb⟩
              replace HV11 : Aside0 (Blk w27 (w9.heap.size) 26 [.int .i16 y.f0, .int .i16 y.f1, .int .i16 y.f2]) := ⟨Blk.below HV11.out hb⟩
              replace HMS : Aside0 (Kd.C (Kd.int .i64) w27 AS M.length M) := ⟨Kd.C_below HMS.out hb⟩
              replace HV30 : Aside0 (Blk w27 (w24.heap.size) 26 [.int .i16 z.f0, .int .i16 z.f1, .int .i16 z.f2]) := ⟨Blk.below HV30.out hb⟩
              replace HW : Aside0 (Below w.heap.size w w27) := ⟨below_step HW.out hb⟩
              clear hb
              go_wp2_with (refine wl_store (by rfl) 26 _ _ (by rfl) (w27.heap.size) 0 (by rfl) 26 3 [.int .i16 0, .int .i16 0, .int .i16 0] [.int .i16 y.f0, .int .i16 y.f1, .int .i16 y.f2] (by rfl) (Blk.new w27 26 [.int .i16 0, .int .i16 0, .int .i16 0]) (by rfl) (show 0 + 3 ≤ 3 from Nat.le_refl _) (by kernel_rfl) (by rfl) ?_; intro w28 hBs hgs; have hb := stored_below hgs; replace HV5 : Aside0 (Blk w28 (w2.heap.size) 26 [.int .i16 x.f0, .int .i16 x.f1, .int .i16 x.f2]) := ⟨Blk.below HV5.out hb⟩; replace HV11 : Aside0 (Blk w28 (w9.heap.size) 26 [.int .i16 y.f0, .int .i16 y.f1, .int .i16 y.f2]) := ⟨Blk.below HV11.out hb⟩; replace HMS : Aside0 (Kd.C (Kd.int .i64) w28 AS M.length M) := ⟨Kd.C_below HMS.out hb⟩; replace HV30 : Aside0 (Blk w28 (w24.heap.size) 26 [.int .i16 z.f0, .int .i16 z.f1, .int .i16 z.f2]) := ⟨Blk.below HV30.out hb⟩; replace HW : Aside0 (Below w.heap.size w w28) := ⟨below_step HW.out hb⟩; have HV32 : Aside0 (Blk w28 (w27.heap.size) 26 [.int .i16 y.f0, .int .i16 y.f1, .int .i16 y.f2]) := ⟨Blk.all hBs (show 3 ≤ 3 from Nat.le_refl _)⟩; clear hBs hgs hb; have cHV30_0 := HV30.out.cell 0 (v := .int .i16 z.f0) rfl; have cHV30_1 := HV30.out.cell 1 (v := .int .i16 z.f1) rfl; have cHV30_2 := HV30.out.cell 2 (v := .int .i16 z.f2) rfl)
              refine (impl_AreaOf.calls z.f0 z.f1 z.f2 ar 0 _ HAZ.out).mono ?_
              rintro e w29 ⟨rfl, hb⟩
              clear cHV30_0 cHV30_1 cHV30_2
              replace HV5 : Aside0 (Blk w29 (w2.heap.size) 26 [.int .i16 x.f0, .int .i16 x.f1, .int .i16 x.f2]) := ⟨Blk.below HV5.out hb⟩
              replace HV11 : Aside0 (Blk w29 (w9.heap.size) 26 [.int .i16 y.f0, .int .i16 y.f1, .int .i16 y.f2]) := ⟨Blk.below HV11.out hb⟩
              replace HMS : Aside0 (Kd.C (Kd.int .i64) w29 AS M.length M) := ⟨Kd.C_below HMS.out hb⟩
              replace HV30 : Aside0 (Blk w29 (w24.heap.size) 26 [.int .i16 z.f0, .int .i16 z.f1, .int .i16 z.f2]) := ⟨Blk.below HV30.out hb⟩
              replace HV32 : Aside0 (Blk w29 (w27.heap.size) 26 [.int .i16 y.f0, .int .i16 y.f1, .int .i16 y.f2]) := ⟨Blk.below HV32.out hb⟩
              replace HW : Aside0 (Below w.heap.size w w29) := ⟨below_step HW.out hb⟩
              clear hb
              have cHV32_0 := HV32.out.cell 0 (v := .int .i16 y.f0) rfl
              have cHV32_1 := HV32.out.cell 1 (v := .int .i16 y.f1) rfl
              have cHV32_2 := HV32.out.cell 2 (v := .int .i16 y.f2) rfl
              have cHV11_0 := HV11.out.cell 0 (v := .int .i16 y.f0) rfl
              have cHV11_1 := HV11.out.cell 1 (v := .int .i16 y.f1) rfl
              have cHV11_2 := HV11.out.cell 2 (v := .int .i16 y.f2) rfl
              go_wp2_with fail
              clear HV32
              clear HV30
              refine (impl_UnfoldSheet.calls y.f0 y.f1 y.f2 (j : Int) u0 u1 u2 u3 _ HUI.out).mono ?_
              rintro e w30 ⟨rfl, hb⟩
              clear cHV32_0 cHV32_1 cHV32_2 cHV11_0 cHV11_1 cHV11_2
              replace HV5 : Aside0 (Blk w30 (w2.heap.size) 26 [.int .i16 x.f0, .int .i16 x.f1, .int .i16 x.f2]) := ⟨Blk.below HV5.out hb⟩
              replace HV11 : Aside0 (Blk w30 (w9.heap.size) 26 [.int .i16 y.f0, .int .i16 y.f1, .int .i16 y.f2]) := ⟨Blk.below HV11.out hb⟩
              replace HMS : Aside0 (Kd.C (Kd.int .i64) w30 AS M.length M) := ⟨Kd.C_below HMS.out hb⟩
              replace HW : Aside0 (Below w.heap.size w w30) := ⟨below_step HW.out hb⟩
              clear hb
              go_wp2_with (refine wl_store (by rfl) 26 _ _ (by rfl) (w30.heap.size) 0 (by rfl) 26 3 [.int .i16 0, .int .i16 0, .int .i16 0] [.int .i16 u0, .int .i16 u1, .int .i16 u2] (by rfl) (Blk.new w30 26 [.int .i16 0, .int .i16 0, .int .i16 0]) (by rfl) (show 0 + 3 ≤ 3 from Nat.le_refl _) (by kernel_rfl) (by rfl) ?_; intro w31 hBs hgs; have hb := stored_below hgs; replace HV5 : Aside0 (Blk w31 (w2.heap.size) 26 [.int .i16 x.f0, .int .i16 x.f1, .int .i16 x.f2]) := ⟨Blk.below HV5.out hb⟩; replace HV11 : Aside0 (Blk w31 (w9.heap.size) 26 [.int .i16 y.f0, .int .i16 y.f1, .int .i16 y.f2]) := ⟨Blk.below HV11.out hb⟩; replace HMS : Aside0 (Kd.C (Kd.int .i64) w31 AS M.length M) := ⟨Kd.C_below HMS.out hb⟩; replace HW : Aside0 (Below w.heap.size w w31) := ⟨below_step HW.out hb⟩; have HV36 : Aside0 (Blk w31 (w30.heap.size) 26 [.int .i16 u0, .int .i16 u1, .int .i16 u2]) := ⟨Blk.all hBs (show 3 ≤ 3 from Nat.le_refl _)⟩; clear hBs hgs hb; have cHV11_0 := HV11.out.cell 0 (v := .int .i16 y.f0) rfl; have cHV11_1 := HV11.out.cell 1 (v := .int .i16 y.f1) rfl; have cHV11_2 := HV11.out.cell 2 (v := .int .i16 y.f2) rfl)
              refine (spec_UnfoldSheet.calls y.f0 y.f1 y.f2 (j : Int) u0 u1 u2 u3 _ HUS.out).mono ?_
              rintro e w32 ⟨rfl, hb⟩
              clear cHV11_0 cHV11_1 cHV11_2
              replace HV5 : Aside0 (Blk w32 (w2.heap.size) 26 [.int .i16 x.f0, .int .i16 x.f1, .int .i16 x.f2]) := ⟨Blk.below HV5.out hb⟩
              replace HV11 : Aside0 (Blk w32 (w9.heap.size) 26 [.int .i16 y.f0, .int .i16 y.f1, .int .i16 y.f2]) := ⟨Blk.below HV11.out hb⟩
              replace HMS : Aside0 (Kd.C (Kd.int .i64) w32 AS M.length M) := ⟨Kd.C_below HMS.out hb⟩
              replace HV36 : Aside0 (Blk w32 (w30.heap.size) 26 [.int .i16 u0, .int .i16 u1, .int .i16 u2]) := ⟨Blk.below HV36.out hb⟩
              replace HW : Aside0 (Below w.heap.size w w32) := ⟨below_step HW.out hb⟩
              clear hb
              by_cases hu0 : u3 = 0
              · subst hu0
                have hq_ := HUF.out _ _ _ rfl
                have bu_ := Sh.bd hq_.1
                have hFU := implFold_f bu_.1 bu_.2.1 bu_.2.2 (j : Int)
                rw [hq_.2] at hFU
                have HFU := Aside0.mk hFU
                clear hFU hq_ bu_
                go_wp2_with (refine wl_store (by rfl) 26 _ _ (by rfl) (w32.heap.size) 0 (by rfl) 26 3 [.int .i16 0, .int .i16 0, .int .i16 0] [.int .i16 u0, .int .i16 u1, .int .i16 u2] (by rfl) (Blk.new w32 26 [.int .i16 0, .int .i16 0, .int .i16 0]) (by rfl) (show 0 + 3 ≤ 3 from Nat.le_refl _) (by kernel_rfl) (by rfl) ?_; intro w33 hBs hgs; have hb := stored_below hgs; replace HV5 : Aside0 (Blk w33 (w2.heap.size) 26 [.int .i16 x.f0, .int .i16 x.f1, .int .i16 x.f2]) := ⟨Blk.below HV5.out hb⟩; replace HV11 : Aside0 (Blk w33 (w9.heap.size) 26 [.int .i16 y.f0, .int .i16 y.f1, .int .i16 y.f2]) := ⟨Blk.below HV11.out hb⟩; replace HMS : Aside0 (Kd.C (Kd.int .i64) w33 AS M.length M) := ⟨Kd.C_below HMS.out hb⟩; replace HV36 : Aside0 (Blk w33 (w30.heap.size) 26 [.int .i16 u0, .int .i16 u1, .int .i16 u2]) := ⟨Blk.below HV36.out hb⟩; replace HW : Aside0 (Below w.heap.size w w33) := ⟨below_step HW.out hb⟩; have HV38 : Aside0 (Blk w33 (w32.heap.size) 26 [.int .i16 u0, .int .i16 u1, .int .i16 u2]) := ⟨Blk.all hBs (show 3 ≤ 3 from Nat.le_refl _)⟩; clear hBs hgs hb; have cHV36_0 := HV36.out.cell 0 (v := .int .i16 u0) rfl; have cHV36_1 := HV36.out.cell 1 (v := .int .i16 u1) rfl; have cHV36_2 := HV36.out.cell 2 (v := .int .i16 u2) rfl; have cHV38_0 := HV38.out.cell 0 (v := .int .i16 u0) rfl; have cHV38_1 := HV38.out.cell 1 (v := .int .i16 u1) rfl; have cHV38_2 := HV38.out.cell 2 (v := .int .i16 u2) rfl)
                refine (impl_FoldSheet.calls u0 u1 u2 (j : Int) y.f0 y.f1 y.f2 0 _ HFU.out).mono ?_
                rintro e w34 ⟨rfl, hb⟩
                clear cHV36_0 cHV36_1 cHV36_2 cHV38_0 cHV38_1 cHV38_2
                replace HV5 : Aside0 (Blk w34 (w2.heap.size) 26 [.int .i16 x.f0, .int .i16 x.f1, .int .i16 x.f2]) := ⟨Blk.below HV5.out hb⟩
                replace HV11 : Aside0 (Blk w34 (w9.heap.size) 26 [.int .i16 y.f0, .int .i16 y.f1, .int .i16 y.f2]) := ⟨Blk.below HV11.out hb⟩
                replace HMS : Aside0 (Kd.C (Kd.int .i64) w34 AS M.length M) := ⟨Kd.C_below HMS.out hb⟩
                replace HV36 : Aside0 (Blk w34 (w30.heap.size) 26 [.int .i16 u0, .int .i16 u1, .int .i16 u2]) := ⟨Blk.below HV36.out hb⟩
                replace HV38 : Aside0 (Blk w34 (w32.heap.size) 26 [.int .i16 u0, .int .i16 u1, .int .i16 u2]) := ⟨Blk.below HV38.out hb⟩
                replace HW : Aside0 (Below w.heap.size w w34) := ⟨below_step HW.out hb⟩
                clear hb
                go_wp2_with (refine wl_store (by rfl) 26 _ _ (by rfl) (w34.heap.size) 0 (by rfl) 26 3 [.int .i16 0, .int .i16 0, .int .i16 0] [.int .i16 y.f0, .int .i16 y.f1, .int .i16 y.f2] (by rfl) (Blk.new w34 26 [.int .i16 0, .int .i16 0, .int .i16 0]) (by rfl) (show 0 + 3 ≤ 3 from Nat.le_refl _) (by kernel_rfl) (by rfl) ?_; intro w35 hBs hgs; have hb := stored_below hgs; replace HV5 : Aside0 (Blk w35 (w2.heap.size) 26 [.int .i16 x.f0, .int .i16 x.f1, .int .i16 x.f2]) := ⟨Blk.below HV5.out hb⟩; replace HV11 : Aside0 (Blk w35 (w9.heap.size) 26 [.int .i16 y.f0, .int .i16 y.f1, .int .i16 y.f2]) := ⟨Blk.below HV11.out hb⟩; replace HMS : Aside0 (Kd.C (Kd.int .i64) w35 AS M.length M) := ⟨Kd.C_below HMS.out hb⟩; replace HV36 : Aside0 (Blk w35 (w30.heap.size) 26 [.int .i16 u0, .int .i16 u1, .int .i16 u2]) := ⟨Blk.below HV36.out hb⟩; replace HV38 : Aside0 (Blk w35 (w32.heap.size) 26 [.int .i16 u0, .int .i16 u1, .int .i16 u2]) := ⟨Blk.below HV38.out hb⟩; replace HW : Aside0 (Below w.heap.size w w35) := ⟨below_step HW.out hb⟩; have HV40 : Aside0 (Blk w35 (w34.heap.size) 26 [.int .i16 y.f0, .int .i16 y.f1, .int .i16 y.f2]) := ⟨Blk.all hBs (show 3 ≤ 3 from Nat.le_refl _)⟩; clear hBs hgs hb; have cHV40_0 := HV40.out.cell 0 (v := .int .i16 y.f0) rfl; have cHV40_1 := HV40.out.cell 1 (v := .int .i16 y.f1) rfl; have cHV40_2 := HV40.out.cell 2 (v := .int .i16 y.f2) rfl; have cHV11_0 := HV11.out.cell 0 (v := .int .i16 y.f0) rfl; have cHV11_1 := HV11.out.cell 1 (v := .int .i16 y.f1) rfl; have cHV11_2 := HV11.out.cell 2 (v := .int .i16 y.f2) rfl)
                clear cHV40_0 cHV40_1 cHV40_2 cHV11_0 cHV11_1 cHV11_2
                go_roundw
                case rel => exact ⟨j + 1, by omega, by go_num, HV5, HV11, HMS, HW⟩
                case measure => simp [intOf] <;> omega
              · have hu1 : (u3 == 0) = false := beq_eq_false_iff_ne.2 hu0
                go_wp2_with (refine wl_store (by rfl) 26 _ _ (by rfl) (w32.heap.size) 0 (by rfl) 26 3 [.int .i16 0, .int .i16 0, .int .i16 0] [.int .i16 u0, .int .i16 u1, .int .i16 u2] (by rfl) (Blk.new w32 26 [.int .i16 0, .int .i16 0, .int .i16 0]) (by rfl) (show 0 + 3 ≤ 3 from Nat.le_refl _) (by kernel_rfl) (by rfl) ?_; intro w33 hBs hgs; have hb := stored_below hgs; replace HV5 : Aside0 (Blk w33 (w2.heap.size) 26 [.int .i16 x.f0, .int .i16 x.f1, .int .i16 x.f2]) := ⟨Blk.below HV5.out hb⟩; replace HV11 : Aside0 (Blk w33 (w9.heap.size) 26 [.int .i16 y.f0, .int .i16 y.f1, .int .i16 y.f2]) := ⟨Blk.below HV11.out hb⟩; replace HMS : Aside0 (Kd.C (Kd.int .i64) w33 AS M.length M) := ⟨Kd.C_below HMS.out hb⟩; replace HV36 : Aside0 (Blk w33 (w30.heap.size) 26 [.int .i16 u0, .int .i16 u1, .int .i16 u2]) := ⟨Blk.below HV36.out hb⟩; replace HW : Aside0 (Below w.heap.size w w33) := ⟨below_step HW.out hb⟩; have HV38 : Aside0 (Blk w33 (w32.heap.size) 26 [.int .i16 u0, .int .i16 u1, .int .i16 u2]) := ⟨Blk.all hBs (show 3 ≤ 3 from Nat.le_refl _)⟩; clear hBs hgs hb; have cHV36_0 := HV36.out.cell 0 (v := .int .i16 u0) rfl; have cHV36_1 := HV36.out.cell 1 (v := .int .i16 u1) rfl; have cHV36_2 := HV36.out.cell 2 (v := .int .i16 u2) rfl; have cHV38_0 := HV38.out.cell 0 (v := .int .i16 u0) rfl; have cHV38_1 := HV38.out.cell 1 (v := .int .i16 u1) rfl; have cHV38_2 := HV38.out.cell 2 (v := .int .i16 u2) rfl)
                clear cHV36_0 cHV36_1 cHV36_2 cHV38_0 cHV38_1 cHV38_2
                go_roundw
                case rel => exact ⟨j + 1, by omega, by go_num, HV5, HV11, HMS, HW⟩
                case measure => simp [intOf] <;> omega
            · have hr1 : (r3 == 0) = false := beq_eq_false_iff_ne.2 hr0
              rw [decide_eq_false hr0] at HH2
              have cHV11_0 := HV11.out.cell 0 (v := .int .i16 y.f0) rfl
              have cHV11_1 := HV11.out.cell 1 (v := .int .i16 y.f1) rfl
              have cHV11_2 := HV11.out.cell 2 (v := .int .i16 y.f2) rfl
              go_wp2_with fail
              refine (impl_FoldSheet.calls y.f0 y.f1 y.f2 (j : Int) r0 r1 r2 r3 _ HFI2.out).mono ?_
              rintro e w22 ⟨rfl, hb⟩
              clear cHV11_0 cHV11_1 cHV11_2
              replace HV5 : Aside0 (Blk w22 (w2.heap.size) 26 [.int .i16 x.f0, .int .i16 x.f1, .int .i16 x.f2]) := ⟨Blk.below HV5.out hb⟩
              replace HV11 : Aside0 (Blk w22 (w9.heap.size) 26 [.int .i16 y.f0, .int .i16 y.f1, .int .i16 y.f2]) := ⟨Blk.below HV11.out hb⟩
              replace HMS : Aside0 (Kd.C (Kd.int .i64) w22 AS M.length M) := ⟨Kd.C_below HMS.out hb⟩
              replace HW : Aside0 (Below w.heap.size w w22) := ⟨below_step HW.out hb⟩
              clear hb
              go_wp2_with (refine wl_store (by rfl) 26 _ _ (by rfl) (w22.heap.size) 0 (by rfl) 26 3 [.int .i16 0, .int .i16 0, .int .i16 0] [.int .i16 r0, .int .i16 r1, .int .i16 r2] (by rfl) (Blk.new w22 26 [.int .i16 0, .int .i16 0, .int .i16 0]) (by rfl) (show 0 + 3 ≤ 3 from Nat.le_refl _) (by kernel_rfl) (by rfl) ?_; intro w23 hBs hgs; have hb := stored_below hgs; replace HV5 : Aside0 (Blk w23 (w2.heap.size) 26 [.int .i16 x.f0, .int .i16 x.f1, .int .i16 x.f2]) := ⟨Blk.below HV5.out hb⟩; replace HV11 : Aside0 (Blk w23 (w9.heap.size) 26 [.int .i16 y.f0, .int .i16 y.f1, .int .i16 y.f2]) := ⟨Blk.below HV11.out hb⟩; replace HMS : Aside0 (Kd.C (Kd.int .i64) w23 AS M.length M) := ⟨Kd.C_below HMS.out hb⟩; replace HW : Aside0 (Below w.heap.size w w23) := ⟨below_step HW.out hb⟩; have HV28 : Aside0 (Blk w23 (w22.heap.size) 26 [.int .i16 r0, .int .i16 r1, .int .i16 r2]) := ⟨Blk.all hBs (show 3 ≤ 3 from Nat.le_refl _)⟩; clear hBs hgs hb; have cHV11_0 := HV11.out.cell 0 (v := .int .i16 y.f0) rfl; have cHV11_1 := HV11.out.cell 1 (v := .int .i16 y.f1) rfl; have cHV11_2 := HV11.out.cell 2 (v := .int .i16 y.f2) rfl)
              refine (spec_FoldSheet.calls 1 y.f0 y.f1 y.f2 (j : Int) r0 r1 r2 r3 _ HFS2.out).mono ?_
              rintro e w24 ⟨rfl, hb⟩
              clear cHV11_0 cHV11_1 cHV11_2
              replace HV5 : Aside0 (Blk w24 (w2.heap.size) 26 [.int .i16 x.f0, .int .i16 x.f1, .int .i16 x.f2]) := ⟨Blk.below HV5.out hb⟩
              replace HV11 : Aside0 (Blk w24 (w9.heap.size) 26 [.int .i16 y.f0, .int .i16 y.f1, .int .i16 y.f2]) := ⟨Blk.below HV11.out hb⟩
              replace HMS : Aside0 (Kd.C (Kd.int .i64) w24 AS M.length M) := ⟨Kd.C_below HMS.out hb⟩
              replace HV28 : Aside0 (Blk w24 (w22.heap.size) 26 [.int .i16 r0, .int .i16 r1, .int .i16 r2]) := ⟨Blk.below HV28.out hb⟩
              replace HW : Aside0 (Below w.heap.size w w24) := ⟨below_step HW.out hb⟩
              clear hb
              go_wp2_with (refine wl_store (by rfl) 26 _ _ (by rfl) (w24.heap.size) 0 (by rfl) 26 3 [.int .i16 0, .int .i16 0, .int .i16 0] [.int .i16 r0, .int .i16 r1, .int .i16 r2] (by rfl) (Blk.new w24 26 [.int .i16 0, .int .i16 0, .int .i16 0]) (by rfl) (show 0 + 3 ≤ 3 from Nat.le_refl _) (by kernel_rfl) (by rfl) ?_; intro w25 hBs hgs; have hb := stored_below hgs; replace HV5 : Aside0 (Blk w25 (w2.heap.size) 26 [.int .i16 x.f0, .int .i16 x.f1, .int .i16 x.f2]) := ⟨Blk.below HV5.out hb⟩; replace HV11 : Aside0 (Blk w25 (w9.heap.size) 26 [.int .i16 y.f0, .int .i16 y.f1, .int .i16 y.f2]) := ⟨Blk.below HV11.out hb⟩; replace HMS : Aside0 (Kd.C (Kd.int .i64) w25 AS M.length M) := ⟨Kd.C_below HMS.out hb⟩; replace HV28 : Aside0 (Blk w25 (w22.heap.size) 26 [.int .i16 r0, .int .i16 r1, .int .i16 r2]) := ⟨Blk.below HV28.out hb⟩; replace HW : Aside0 (Below w.heap.size w w25) := ⟨below_step HW.out hb⟩; have HV30 : Aside0 (Blk w25 (w24.heap.size) 26 [.int .i16 r0, .int .i16 r1, .int .i16 r2]) := ⟨Blk.all hBs (show 3 ≤ 3 from Nat.le_refl _)⟩; clear hBs hgs hb; have cHV28_0 := HV28.out.cell 0 (v := .int .i16 r0) rfl; have cHV28_1 := HV28.out.cell 1 (v := .int .i16 r1) rfl; have cHV28_2 := HV28.out.cell 2 (v := .int .i16 r2) rfl; have cHV30_0 := HV30.out.cell 0 (v := .int .i16 r0) rfl; have cHV30_1 := HV30.out.cell 1 (v := .int .i16 r1) rfl; have cHV30_2 := HV30.out.cell 2 (v := .int .i16 r2) rfl)
              clear cHV28_0 cHV28_1 cHV28_2 cHV30_0 cHV30_1 cHV30_2
              have cHV28_0 := HV28.out.cell 0 (v := .int .i16 r0) rfl
              have cHV28_1 := HV28.out.cell 1 (v := .int .i16 r1) rfl
              have cHV28_2 := HV28.out.cell 2 (v := .int .i16 r2) rfl
              have cHV30_0 := HV30.out.cell 0 (v := .int .i16 r0) rfl
              have cHV30_1 := HV30.out.cell 1 (v := .int .i16 r1) rfl
              have cHV30_2 := HV30.out.cell 2 (v := .int .i16 r2) rfl
              go_wp2_with fail
              refine (spec_A2Has.calls (M.length + 1) AS cS M (j : Int) false _ HMS.out HLcS.out HH2.out).mono ?_
              rintro e w26 ⟨rfl, hd⟩
              clear cHV28_0 cHV28_1 cHV28_2 cHV30_0 cHV30_1 cHV30_2
              replace HV5 : Aside0 (Blk w26 (w2.heap.size) 26 [.int .i16 x.f0, .int .i16 x.f1, .int .i16 x.f2]) := ⟨Blk.below HV5.out hd.below⟩
              replace HV11 : Aside0 (Blk w26 (w9.heap.size) 26 [.int .i16 y.f0, .int .i16 y.f1, .int .i16 y.f2]) := ⟨Blk.below HV11.out hd.below⟩
              replace HMS : Aside0 (Kd.C (Kd.int .i64) w26 AS M.length M) := ⟨Kd.C_below HMS.out hd.below⟩
              replace HV28 : Aside0 (Blk w26 (w22.heap.size) 26 [.int .i16 r0, .int .i16 r1, .int .i16 r2]) := ⟨Blk.below HV28.out hd.below⟩
              replace HV30 : Aside0 (Blk w26 (w24.heap.size) 26 [.int .i16 r0, .int .i16 r1, .int .i16 r2]) := ⟨Blk.below HV30.out hd.below⟩
              replace HW : Aside0 (Below w.heap.size w w26) := ⟨below_step HW.out hd.below⟩
              clear hd
              clear HV28
              have cHV11_0 := HV11.out.cell 0 (v := .int .i16 y.f0) rfl
              have cHV11_1 := HV11.out.cell 1 (v := .int .i16 y.f1) rfl
              have cHV11_2 := HV11.out.cell 2 (v := .int .i16 y.f2) rfl
              go_wp2_with fail
              clear HV30
              refine (impl_UnfoldSheet.calls y.f0 y.f1 y.f2 (j : Int) u0 u1 u2 u3 _ HUI.out).mono ?_
              rintro e w27 ⟨rfl, hb⟩
              clear cHV11_0 cHV11_1 cHV11_2
              replace HV5 : Aside0 (Blk w27 (w2.heap.size) 26 [.int .i16 x.f0, .int .i16 x.f1, .int .i16 x.f2]) := ⟨Blk.below HV5.out hb⟩
              replace HV11 : Aside0 (Blk w27 (w9.heap.size) 26 [.int .i16 y.f0, .int .i16 y.f1, .int .i16 y.f2]) := ⟨Blk.below HV11.out hb⟩
              replace HMS : Aside0 (Kd.C (Kd.int .i64) w27 AS M.length M) := ⟨Kd.C_below HMS.out hb⟩
              replace HW : Aside0 (Below w.heap.size w w27) := ⟨below_step HW.out hb⟩
              clear hb
              go_wp2_with (refine wl_store (by rfl) 26 _ _ (by rfl) (w27.heap.size) 0 (by rfl) 26 3 [.int .i16 0, .int .i16 0, .int .i16 0] [.int .i16 u0, .int .i16 u1, .int .i16 u2] (by rfl) (Blk.new w27 26 [.int .i16 0, .int .i16 0, .int .i16 0]) (by rfl) (show 0 + 3 ≤ 3 from Nat.le_refl _) (by kernel_rfl) (by rfl) ?_; intro w28 hBs hgs; have hb := stored_below hgs; replace HV5 : Aside0 (Blk w28 (w2.heap.size) 26 [.int .i16 x.f0, .int .i16 x.f1, .int .i16 x.f2]) := ⟨Blk.below HV5.out hb⟩; replace HV11 : Aside0 (Blk w28 (w9.heap.size) 26 [.int .i16 y.f0, .int .i16 y.f1, .int .i16 y.f2]) := ⟨Blk.below HV11.out hb⟩; replace HMS : Aside0 (Kd.C (Kd.int .i64) w28 AS M.length M) := ⟨Kd.C_below HMS.out hb⟩; replace HW : Aside0 (Below w.heap.size w w28) := ⟨below_step HW.out hb⟩; have HV36 : Aside0 (Blk w28 (w27.heap.size) 26 [.int .i16 u0, .int .i16 u1, .int .i16 u2]) := ⟨Blk.all hBs (show 3 ≤ 3 from Nat.le_refl _)⟩; clear hBs hgs hb; have cHV11_0 := HV11.out.cell 0 (v := .int .i16 y.f0) rfl; have cHV11_1 := HV11.out.cell 1 (v := .int .i16 y.f1) rfl; have cHV11_2 := HV11.out.cell 2 (v := .int .i16 y.f2) rfl)
              refine (spec_UnfoldSheet.calls y.f0 y.f1 y.f2 (j : Int) u0 u1 u2 u3 _ HUS.out).mono ?_
              rintro e w29 ⟨rfl, hb⟩
              clear cHV11_0 cHV11_1 cHV11_2
              replace HV5 : Aside0 (Blk w29 (w2.heap.size) 26 [.int .i16 x.f0, .int .i16 x.f1, .int .i16 x.f2]) := ⟨Blk.below HV5.out hb⟩
              replace HV11 : Aside0 (Blk w29 (w9.heap.size) 26 [.int .i16 y.f0, .int .i16 y.f1, .int .i16 y.f2]) := ⟨Blk.below HV11.out hb⟩
              replace HMS : Aside0 (Kd.C (Kd.int .i64) w29 AS M.length M) := ⟨Kd.C_below HMS.out hb⟩
              replace HV36 : Aside0 (Blk w29 (w27.heap.size) 26 [.int .i16 u0, .int .i16 u1, .int .i16 u2]) := ⟨Blk.below HV36.out hb⟩
              replace HW : Aside0 (Below w.heap.size w w29) := ⟨below_step HW.out hb⟩
              clear hb
              by_cases hu0 : u3 = 0
              · subst hu0
                have hq_ := HUF.out _ _ _ rfl
                have bu_ := Sh.bd hq_.1
                have hFU := implFold_f bu_.1 bu_.2.1 bu_.2.2 (j : Int)
                rw [hq_.2] at hFU
                have HFU := Aside0.mk hFU
                clear hFU hq_ bu_
                go_wp2_with (refine wl_store (by rfl) 26 _ _ (by rfl) (w29.heap.size) 0 (by rfl) 26 3 [.int .i16 0, .int .i16 0, .int .i16 0] [.int .i16 u0, .int .i16 u1, .int .i16 u2] (by rfl) (Blk.new w29 26 [.int .i16 0, .int .i16 0, .int .i16 0]) (by rfl) (show 0 + 3 ≤ 3 from Nat.le_refl _) (by kernel_rfl) (by rfl) ?_; intro w30 hBs hgs; have hb := stored_below hgs; replace HV5 : Aside0 (Blk w30 (w2.heap.size) 26 [.int .i16 x.f0, .int .i16 x.f1, .int .i16 x.f2]) := ⟨Blk.below HV5.out hb⟩; replace HV11 : Aside0 (Blk w30 (w9.heap.size) 26 [.int .i16 y.f0, .int .i16 y.f1, .int .i16 y.f2]) := ⟨Blk.below HV11.out hb⟩; replace HMS : Aside0 (Kd.C (Kd.int .i64) w30 AS M.length M) := ⟨Kd.C_below HMS.out hb⟩; replace HV36 : Aside0 (Blk w30 (w27.heap.size) 26 [.int .i16 u0, .int .i16 u1, .int .i16 u2]) := ⟨Blk.below HV36.out hb⟩; replace HW : Aside0 (Below w.heap.size w w30) := ⟨below_step HW.out hb⟩; have HV38 : Aside0 (Blk w30 (w29.heap.size) 26 [.int .i16 u0, .int .i16 u1, .int .i16 u2]) := ⟨Blk.all hBs (show 3 ≤ 3 from Nat.le_refl _)⟩; clear hBs hgs hb; have cHV36_0 := HV36.out.cell 0 (v := .int .i16 u0) rfl; have cHV36_1 := HV36.out.cell 1 (v := .int .i16 u1) rfl; have cHV36_2 := HV36.out.cell 2 (v := .int .i16 u2) rfl; have cHV38_0 := HV38.out.cell 0 (v := .int .i16 u0) rfl; have cHV38_1 := HV38.out.cell 1 (v := .int .i16 u1) rfl; have cHV38_2 := HV38.out.cell 2 (v := .int .i16 u2) rfl)
                refine (impl_FoldSheet.calls u0 u1 u2 (j : Int) y.f0 y.f1 y.f2 0 _ HFU.out).mono ?_
                rintro e w31 ⟨rfl, hb⟩
                clear cHV36_0 cHV36_1 cHV36_2 cHV38_0 cHV38_1 cHV38_2
                replace HV5 : Aside0 (Blk w31 (w2.heap.size) 26 [.int .i16 x.f0, .int .i16 x.f1, .int .i16 x.f2]) := ⟨Blk.below HV5.out hb⟩
                replace HV11 : Aside0 (Blk w31 (w9.heap.size) 26 [.int .i16 y.f0, .int .i16 y.f1, .int .i16 y.f2]) := ⟨Blk.below HV11.out hb⟩
                replace HMS : Aside0 (Kd.C (Kd.int .i64) w31 AS M.length M) := ⟨Kd.C_below HMS.out hb⟩
                replace HV36 : Aside0 (Blk w31 (w27.heap.size) 26 [.int .i16 u0, .int .i16 u1, .int .i16 u2]) := ⟨Blk.below HV36.out hb⟩
                replace HV38 : Aside0 (Blk w31 (w29.heap.size) 26 [.int .i16 u0, .int .i16 u1, .int .i16 u2]) := ⟨Blk.below HV38.out hb⟩
                replace HW : Aside0 (Below w.heap.size w w31) := ⟨below_step HW.out hb⟩
                clear hb
                go_wp2_with (refine wl_store (by rfl) 26 _ _ (by rfl) (w31.heap.size) 0 (by rfl) 26 3 [.int .i16 0, .int .i16 0, .int .i16 0] [.int .i16 y.f0, .int .i16 y.f1, .int .i16 y.f2] (by rfl) (Blk.new w31 26 [.int .i16 0, .int .i16 0, .int .i16 0]) (by rfl) (show 0 + 3 ≤ 3 from Nat.le_refl _) (by kernel_rfl) (by rfl) ?_; intro w32 hBs hgs; have hb := stored_below hgs; replace HV5 : Aside0 (Blk w32 (w2.heap.size) 26 [.int .i16 x.f0, .int .i16 x.f1, .int .i16 x.f2]) := ⟨Blk.below HV5.out hb⟩; replace HV11 : Aside0 (Blk w32 (w9.heap.size) 26 [.int .i16 y.f0, .int .i16 y.f1, .int .i16 y.f2]) := ⟨Blk.below HV11.out hb⟩; replace HMS : Aside0 (Kd.C (Kd.int .i64) w32 AS M.length M) := ⟨Kd.C_below HMS.out hb⟩; replace HV36 : Aside0 (Blk w32 (w27.heap.size) 26 [.int .i16 u0, .int .i16 u1, .int .i16 u2]) := ⟨Blk.below HV36.out hb⟩; replace HV38 : Aside0 (Blk w32 (w29.heap.size) 26 [.int .i16 u0, .int .i16 u1, .int .i16 u2]) := ⟨Blk.below HV38.out hb⟩; replace HW : Aside0 (Below w.heap.size w w32) := ⟨below_step HW.out hb⟩; have HV40 : Aside0 (Blk w32 (w31.heap.size) 26 [.int .i16 y.f0, .int .i16 y.f1, .int .i16 y.f2]) := ⟨Blk.all hBs (show 3 ≤ 3 from Nat.le_refl _)⟩; clear hBs hgs hb; have cHV40_0 := HV40.out.cell 0 (v := .int .i16 y.f0) rfl; have cHV40_1 := HV40.out.cell 1 (v := .int .i16 y.f1) rfl; have cHV40_2 := HV40.out.cell 2 (v := .int .i16 y.f2) rfl; have cHV11_0 := HV11.out.cell 0 (v := .int .i16 y.f0) rfl; have cHV11_1 := HV11.out.cell 1 (v := .int .i16 y.f1) rfl; have cHV11_2 := HV11.out.cell 2 (v := .int .i16 y.f2) rfl)
                clear cHV40_0 cHV40_1 cHV40_2 cHV11_0 cHV11_1 cHV11_2
                go_roundw
                case rel => exact ⟨j + 1, by omega, by go_num, HV5, HV11, HMS, HW⟩
                case measure => simp [intOf] <;> omega
              · have hu1 : (u3 == 0) = false := beq_eq_false_iff_ne.2 hu0
                go_wp2_with (refine wl_store (by rfl) 26 _ _ (by rfl) (w29.heap.size) 0 (by rfl) 26 3 [.int .i16 0, .int .i16 0, .int .i16 0] [.int .i16 u0, .int .i16 u1, .int .i16 u2] (by rfl) (Blk.new w29 26 [.int .i16 0, .int .i16 0, .int .i16 0]) (by rfl) (show 0 + 3 ≤ 3 from Nat.le_refl _) (by kernel_rfl) (by rfl) ?_; intro w30 hBs hgs; have hb := stored_below hgs; replace HV5 : Aside0 (Blk w30 (w2.heap.size) 26 [.int .i16 x.f0, .int .i16 x.f1, .int .i16 x.f2]) := ⟨Blk.below HV5.out hb⟩; replace HV11 : Aside0 (Blk w30 (w9.heap.size) 26 [.int .i16 y.f0, .int .i16 y.f1, .int .i16 y.f2]) := ⟨Blk.below HV11.out hb⟩; replace HMS : Aside0 (Kd.C (Kd.int .i64) w30 AS M.length M) := ⟨Kd.C_below HMS.out hb⟩; replace HV36 : Aside0 (Blk w30 (w27.heap.size) 26 [.int .i16 u0, .int .i16 u1, .int .i16 u2]) := ⟨Blk.below HV36.out hb⟩; replace HW : Aside0 (Below w.heap.size w w30) := ⟨below_step HW.out hb⟩; have HV38 : Aside0 (Blk w30 (w29.heap.size) 26 [.int .i16 u0, .int .i16 u1, .int .i16 u2]) := ⟨Blk.all hBs (show 3 ≤ 3 from Nat.le_refl _)⟩; clear hBs hgs hb; have cHV36_0 := HV36.out.cell 0 (v := .int .i16 u0) rfl; have cHV36_1 := HV36.out.cell 1 (v := .int .i16 u1) rfl; have cHV36_2 := HV36.out.cell 2 (v := .int .i16 u2) rfl; have cHV38_0 := HV38.out.cell 0 (v := .int .i16 u0) rfl; have cHV38_1 := HV38.out.cell 1 (v := .int .i16 u1) rfl; have cHV38_2 := HV38.out.cell 2 (v := .int .i16 u2) rfl)
                clear cHV36_0 cHV36_1 cHV36_2 cHV38_0 cHV38_1 cHV38_2
                go_roundw
                case rel => exact ⟨j + 1, by omega, by go_num, HV5, HV11, HMS, HW⟩
                case measure => simp [intOf] <;> omega
          · have hji : ¬ (j : Int) < 4 := by omega
            have hje : j = 4 := by omega
            have cHV11_0 := HV11.out.cell 0 (v := .int .i16 y.f0) rfl
            have cHV11_1 := HV11.out.cell 1 (v := .int .i16 y.f1) rfl
            have cHV11_2 := HV11.out.cell 2 (v := .int .i16 y.f2) rfl
            go_wp2_with (refine wl_store (by rfl) 26 _ _ (by rfl) (wo.heap.size) 0 (by rfl) 26 3 [.int .i16 0, .int .i16 0, .int .i16 0] [.int .i16 y.f1, .int .i16 y.f0, .int .i16 y.f2] (by rfl) (Blk.new wo 26 [.int .i16 0, .int .i16 0, .int .i16 0]) (by rfl) (show 0 + 3 ≤ 3 from Nat.le_refl _) (by kernel_rfl) (by rfl) ?_; intro w22 hBs hgs; have hb := stored_below hgs; replace HV5 : Aside0 (Blk w22 (w2.heap.size) 26 [.int .i16 x.f0, .int .i16 x.f1, .int .i16 x.f2]) := ⟨Blk.below HV5.out hb⟩; replace HV11 : Aside0 (Blk w22 (w9.heap.size) 26 [.int .i16 y.f0, .int .i16 y.f1, .int .i16 y.f2]) := ⟨Blk.below HV11.out hb⟩; replace HMS : Aside0 (Kd.C (Kd.int .i64) w22 AS M.length M) := ⟨Kd.C_below HMS.out hb⟩; replace HW : Aside0 (Below w.heap.size w w22) := ⟨below_step HW.out hb⟩; have HV42 : Aside0 (Blk w22 (wo.heap.size) 26 [.int .i16 y.f1, .int .i16 y.f0, .int .i16 y.f2]) := ⟨Blk.all hBs (show 3 ≤ 3 from Nat.le_refl _)⟩; clear hBs hgs hb; clear cHV11_0; have cHV11_0 := HV11.out.cell 0 (v := .int .i16 y.f0) rfl; clear cHV11_1; have cHV11_1 := HV11.out.cell 1 (v := .int .i16 y.f1) rfl; clear cHV11_2; have cHV11_2 := HV11.out.cell 2 (v := .int .i16 y.f2) rfl; have cHV42_0 := HV42.out.cell 0 (v := .int .i16 y.f1) rfl; have cHV42_1 := HV42.out.cell 1 (v := .int .i16 y.f0) rfl; have cHV42_2 := HV42.out.cell 2 (v := .int .i16 y.f2) rfl)
            refine (impl_SameFolded.calls y.f0 y.f1 y.f2 y.f1 y.f0 y.f2 true 0 _ HST.out).mono ?_
            rintro e w23 ⟨rfl, hb⟩
            clear cHV11_0 cHV11_1 cHV11_2 cHV42_0 cHV42_1 cHV42_2
            replace HV5 : Aside0 (Blk w23 (w2.heap.size) 26 [.int .i16 x.f0, .int .i16 x.f1, .int .i16 x.f2]) := ⟨Blk.below HV5.out hb⟩
            replace HV11 : Aside0 (Blk w23 (w9.heap.size) 26 [.int .i16 y.f0, .int .i16 y.f1, .int .i16 y.f2]) := ⟨Blk.below HV11.out hb⟩
            replace HMS : Aside0 (Kd.C (Kd.int .i64) w23 AS M.length M) := ⟨Kd.C_below HMS.out hb⟩
            replace HV42 : Aside0 (Blk w23 (wo.heap.size) 26 [.int .i16 y.f1, .int .i16 y.f0, .int .i16 y.f2]) := ⟨Blk.below HV42.out hb⟩
            replace HW : Aside0 (Below w.heap.size w w23) := ⟨below_step HW.out hb⟩
            clear hb
            have cHV11_0 := HV11.out.cell 0 (v := .int .i16 y.f0) rfl
            have cHV11_1 := HV11.out.cell 1 (v := .int .i16 y.f1) rfl
            have cHV11_2 := HV11.out.cell 2 (v := .int .i16 y.f2) rfl
            have cHV5_0 := HV5.out.cell 0 (v := .int .i16 x.f0) rfl
            have cHV5_1 := HV5.out.cell 1 (v := .int .i16 x.f1) rfl
            have cHV5_2 := HV5.out.cell 2 (v := .int .i16 x.f2) rfl
            go_wp2_with fail
            refine (impl_SameFolded.calls y.f0 y.f1 y.f2 x.f0 x.f1 x.f2 bz 0 _ HUN.out).mono ?_
            rintro e w24 ⟨rfl, hb⟩
            clear cHV11_0 cHV11_1 cHV11_2 cHV5_0 cHV5_1 cHV5_2
            replace HV5 : Aside0 (Blk w24 (w2.heap.size) 26 [.int .i16 x.f0, .int .i16 x.f1, .int .i16 x.f2]) := ⟨Blk.below HV5.out hb⟩
            replace HV11 : Aside0 (Blk w24 (w9.heap.size) 26 [.int .i16 y.f0, .int .i16 y.f1, .int .i16 y.f2]) := ⟨Blk.below HV11.out hb⟩
            replace HMS : Aside0 (Kd.C (Kd.int .i64) w24 AS M.length M) := ⟨Kd.C_below HMS.out hb⟩
            replace HV42 : Aside0 (Blk w24 (wo.heap.size) 26 [.int .i16 y.f1, .int .i16 y.f0, .int .i16 y.f2]) := ⟨Blk.below HV42.out hb⟩
            replace HW : Aside0 (Below w.heap.size w w24) := ⟨below_step HW.out hb⟩
            clear hb
            have hbz1 := HBZ1.out
            go_wp2
            go_ret
            exact ⟨by simp, HW.out⟩
  · have hlong : laws_a2Long.f l0 l1 = some true := by
      unfold laws_a2Long.f
      by_cases h : (l0.length : Int) > 3000
      · rw [if_pos h]
      · rw [if_neg h, decide_eq_true (by omega)]
    go_enter Try.func5, Try.ntmps5
    go_wp2_with fail
    refine (laws_a2Long.calls A0 c0 l0 A1 c1 l1 true _ hr0 hc0 hr1 hc1 hlong).mono ?_
    rintro e w3 ⟨rfl, hd⟩
    have hb := hd.below
    clear hd
    go_wp2
    go_ret
    exact ⟨rfl, hb⟩
end Go.Proofs.Ytjegcpagdpjidaa.X
