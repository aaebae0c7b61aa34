/- Contracts of functions, and plain facts: what each call answers, and what it leaves as it was. -/
import Derived.Test.YtjmnbikaijphlaaHUse
import Derived.Test.YtjmnbikaijphlaaHPcr
import Derived.Test.YtjmnbikaijphlaaHValid
import Derived.Test.YtjmnbikaijphlaaRes
set_option linter.unusedVariables false
set_option linter.unusedSimpArgs false
namespace Go.Proofs.Ytjmnbikaijphlaa.X
open Go.RowKit Go.Proofs.YtjmnbikaijphlaaW.PrintWords Go.Proofs.YtjmnbikaijphlaaW.PrintLast Go.Proofs.YtjmnbikaijphlaaW.PrintMore
attribute [local go_sem] max2_int min2_int max_two min_two max_three min_three max_four min_four
/-- what UseKind answers: the stock, by how many it was short, the code -/
def ukC (f : Nat → Int) (need : Int) : Int := if goodB f 0 = true then (if decide (0 ≤ need ∧ need ≤ 500) = true then 0 else 2) else 1
def ukF (f : Nat → Int) (need : Int) : Nat → Int := if ukC f need = 0 then (useF f 0 need).1 else fun _ => 0
def ukS (f : Nat → Int) (need : Int) : Int := if ukC f need = 0 then (useF f 0 need).2 else 0
theorem uk_bad {f : Nat → Int} {need : Int} (h : goodB f 0 = false) : ukC f need = 1 ∧ ukF f need = (fun _ => 0) ∧ ukS f need = 0 := by
  have hc : ukC f need = 1 := by simp [ukC, h]
  exact ⟨hc, by simp [ukF, hc], by simp [ukS, hc]⟩
theorem uk_far {f : Nat → Int} {need : Int} (h : goodB f 0 = true) (h2 : decide (0 ≤ need ∧ need ≤ 500) = false) : ukC f need = 2 ∧ ukF f need = (fun _ => 0) ∧ ukS f need = 0 := by
  have hc : ukC f need = 2 := by simp only [ukC, h, h2]; simp
  exact ⟨hc, by simp [ukF, hc], by simp [ukS, hc]⟩
theorem uk_ok {f : Nat → Int} {need : Int} (h : goodB f 0 = true) (h2 : decide (0 ≤ need ∧ need ≤ 500) = true) : ukC f need = 0 ∧ ukF f need = (useF f 0 need).1 ∧ ukS f need = (useF f 0 need).2 := by
  have hc : ukC f need = 0 := by simp only [ukC, h, h2]; simp
  exact ⟨hc, by simp [ukF, hc], by simp [ukS, hc]⟩
set_option maxHeartbeats 8000000 in
set_option maxRecDepth 100000 in
theorem specUK_calls (f : Nat → Int) (hR : Rng1 f 0) (need : Int) (w : World) :
    Calls Try.prog 36 #[.agg (cellsAt f 0).toArray, .int .i64 need] w fun e w' => e = .returned (.tuple #[.agg (cellsAt (ukF f need) 0).toArray, .int .i64 (ukS f need), .int .i64 (ukC f need)]) ∧ Below w.heap.size w w' := by
  have HB0 : Aside0 (Rw ((w.alloc (.cells (cellsAt f 0).toArray 27)).alloc (.cells (cellsAt (fun _ => 0) 0).toArray 27)) w.heap.size 1 f) := ⟨((Rw.of_blk (Blk.new w _ _)).alloc _)⟩
  have HO0 : Aside0 (Rw ((w.alloc (.cells (cellsAt f 0).toArray 27)).alloc (.cells (cellsAt (fun _ => 0) 0).toArray 27)) (w.heap.size + 1) 1 (fun _ => 0)) := ⟨Rw.of_blk (Blk.at_ (by simp) rfl)⟩
  have HW0 : Aside0 (Below w.heap.size w ((w.alloc (.cells (cellsAt f 0).toArray 27)).alloc (.cells (cellsAt (fun _ => 0) 0).toArray 27))) := ⟨below_alloc (below_alloc (Below.refl _ _) _) _⟩
  have hcz : (cellsAt (fun _ => 0) 0).toArray = #[Value.int .i16 0, .int .i16 0, .int .i16 0, .int .i16 0, .int .i16 0, .int .i16 0, .int .i16 0, .int .i16 0, .int .i16 0, .int .i16 0, .int .i16 0, .int .i16 0, .int .i16 0, .int .i16 0, .int .i16 0, .int .i16 0, .int .i16 0, .int .i16 0, .int .i16 0, .int .i16 0, .int .i16 0, .int .i16 0, .int .i16 0, .int .i16 0, .int .i32 0] := rfl
  rw [hcz] at HB0 HO0 HW0
  clear hcz
  have HST := Aside0.mk (fun W h => l05StockR_calls f 0 0 1 rfl (by decide) hR w.heap.size W h)
  have HCT := Aside0.mk (fun W => count_q need W)
  have HGD := Aside0.mk (goodB_iff f 0)
  cases hg : goodB f 0
  · have HK := Aside0.mk (uk_bad (need := need) hg)
    rw [hg] at HST
    clear hg hR
    go_enter Try.func36, Try.ntmps36
    go_wp2_with fail
    refine (HST.out _ HB0.out).mono ?_
    rintro e w1 ⟨rfl, hb⟩
    have HO1 := Aside0.mk (HO0.out.below hb)
    have HW1 := Aside0.mk (below_step HW0.out hb)
    clear hb HO0 HB0 HW0
    go_wp2_with (refine rw_store (by rfl) 27 _ _ (by rfl) (w.heap.size + 1) 0 (by rfl) 1 0 (fun _ => 0) (fun _ => 0) 0 (by rfl) HO1.out rfl (by decide) (by decide) (by kernel_rfl) ?_; intro w9 hw9 hg9; have HO9 := Aside0.mk hw9; have HW9 : Aside0 (Below w.heap.size w w9) := ⟨below_grown HW1.out (by omega) HW1.out.size hg9⟩; clear hw9 hg9)
    refine bodyPost_ret (v := .tuple #[.agg (cellsAt (fun _ => 0) 0).toArray, .int .i64 0, .int .i64 1]) (results_cell3 (by rfl) _ _ (w.heap.size + 1) (cellsAt (fun _ => 0) 0) _ _ _ (by rfl) (by rfl) (by rfl) (by have h_ := HO9.out.range (o := 0) (q := 0) rfl (by decide); rwa [cells_put] at h_) Try.underlying27 (by rfl) (by rw [cellsAt_len]; kernel_rfl)) rfl ⟨by rw [HK.out.1, HK.out.2.1, HK.out.2.2], HW9.out⟩
  · rw [hg] at HST
    cases hn : decide (0 ≤ need ∧ need ≤ 500)
    · have HK := Aside0.mk (uk_far hg hn)
      rw [hn] at HCT
      clear hg hR hn
      go_enter Try.func36, Try.ntmps36
      go_wp2_with fail
      refine (HST.out _ HB0.out).mono ?_
      rintro e w1 ⟨rfl, hb⟩
      have HO1 := Aside0.mk (HO0.out.below hb)
      have HW1 := Aside0.mk (below_step HW0.out hb)
      clear hb HO0 HB0 HW0
      go_wp2_with (first | (go_at_call 76; refine (HCT.out _).mono ?_; rintro e w' ⟨rfl, rfl⟩) | (refine rw_store (by rfl) 27 _ _ (by rfl) (w.heap.size + 1) 0 (by rfl) 1 0 (fun _ => 0) (fun _ => 0) 0 (by rfl) HO1.out rfl (by decide) (by decide) (by kernel_rfl) ?_; intro w9 hw9 hg9; have HO9 := Aside0.mk hw9; have HW9 : Aside0 (Below w.heap.size w w9) := ⟨below_grown HW1.out (by omega) HW1.out.size hg9⟩; clear hw9 hg9))
      refine bodyPost_ret (v := .tuple #[.agg (cellsAt (fun _ => 0) 0).toArray, .int .i64 0, .int .i64 2]) (results_cell3 (by rfl) _ _ (w.heap.size + 1) (cellsAt (fun _ => 0) 0) _ _ _ (by rfl) (by rfl) (by rfl) (by have h_ := HO9.out.range (o := 0) (q := 0) rfl (by decide); rwa [cells_put] at h_) Try.underlying27 (by rfl) (by rw [cellsAt_len]; kernel_rfl)) rfl ⟨by rw [HK.out.1, HK.out.2.1, HK.out.2.2], HW9.out⟩
    · have HK := Aside0.mk (uk_ok hg hn)
      have HG := Aside0.mk (HGD.out.1 hg)
      have HN := Aside0.mk (of_decide_eq_true hn)
      rw [hn] at HCT
      have HU := Aside0.mk (fun W h => l05Use_calls f 1 0 0 (by decide) rfl HG.out need HN.out w.heap.size W h)
      generalize (useF f 0 need).1 = F at *
      generalize (useF f 0 need).2 = sh at *
      clear hg hR hn
      go_enter Try.func36, Try.ntmps36
      go_wp2_with fail
      refine (HST.out _ HB0.out).mono ?_
      rintro e w1 ⟨rfl, hb⟩
      have HO1 := Aside0.mk (HO0.out.below hb)
      have HB1 := Aside0.mk (HB0.out.below hb)
      have HW1 := Aside0.mk (below_step HW0.out hb)
      clear hb HO0 HB0 HW0
      go_wp2_with (first | (go_at_call 76; refine (HCT.out _).mono ?_; rintro e w' ⟨rfl, rfl⟩) | (go_at_call 82; refine (HU.out _ HB1.out).mono ?_; rintro e w2 ⟨rfl, hB2, hg2⟩; have HB2 := Aside0.mk hB2; have HO2 := Aside0.mk (HO1.out.grown hg2 (by simp)); have HW2 := Aside0.mk (below_grown HW1.out (Nat.le_refl _) HW1.out.size hg2); clear hB2 hg2) | (refine rw_load (by rfl) 27 _ (by rfl) w.heap.size 0 (by rfl) F 0 (HB2.out.range (o := 0) (q := 0) rfl (by decide)) _ Try.underlying27 (by rfl) (by kernel_rfl) ?_) | (refine rw_store (by rfl) 27 _ _ (by rfl) (w.heap.size + 1) 0 (by rfl) 1 0 (fun _ => 0) F 0 (by rfl) HO2.out rfl (by decide) (by decide) (by kernel_rfl) ?_; intro w9 hw9 hg9; have HO9 := Aside0.mk hw9; have HW9 : Aside0 (Below w.heap.size w w9) := ⟨below_grown HW2.out (by omega) HW2.out.size hg9⟩; clear hw9 hg9))
      refine bodyPost_ret (v := .tuple #[.agg (cellsAt F 0).toArray, .int .i64 sh, .int .i64 0]) (results_cell3 (by rfl) _ _ (w.heap.size + 1) (cellsAt F 0) _ _ _ (by rfl) (by rfl) (by rfl) (by have h_ := HO9.out.range (o := 0) (q := 0) rfl (by decide); rwa [cells_put] at h_) Try.underlying27 (by rfl) (by rw [cellsAt_len]; kernel_rfl)) rfl ⟨by rw [HK.out.1, HK.out.2.1, HK.out.2.2], HW9.out⟩
set_option maxHeartbeats 8000000 in
set_option maxRecDepth 100000 in
theorem implUK_calls (f : Nat → Int) (hR : Rng1 f 0) (need : Int) (w : World) :
    Calls Try.prog 37 #[.agg (cellsAt f 0).toArray, .int .i64 need] w fun e w' => e = .returned (.tuple #[.agg (cellsAt (ukF f need) 0).toArray, .int .i64 (ukS f need), .int .i64 (ukC f need)]) ∧ Below w.heap.size w w' := by
  have HB0 : Aside0 (Rw ((w.alloc (.cells (cellsAt f 0).toArray 27)).alloc (.cells (cellsAt (fun _ => 0) 0).toArray 27)) w.heap.size 1 f) := ⟨((Rw.of_blk (Blk.new w _ _)).alloc _)⟩
  have HO0 : Aside0 (Rw ((w.alloc (.cells (cellsAt f 0).toArray 27)).alloc (.cells (cellsAt (fun _ => 0) 0).toArray 27)) (w.heap.size + 1) 1 (fun _ => 0)) := ⟨Rw.of_blk (Blk.at_ (by simp) rfl)⟩
  have HW0 : Aside0 (Below w.heap.size w ((w.alloc (.cells (cellsAt f 0).toArray 27)).alloc (.cells (cellsAt (fun _ => 0) 0).toArray 27))) := ⟨below_alloc (below_alloc (Below.refl _ _) _) _⟩
  have hcz : (cellsAt (fun _ => 0) 0).toArray = #[Value.int .i16 0, .int .i16 0, .int .i16 0, .int .i16 0, .int .i16 0, .int .i16 0, .int .i16 0, .int .i16 0, .int .i16 0, .int .i16 0, .int .i16 0, .int .i16 0, .int .i16 0, .int .i16 0, .int .i16 0, .int .i16 0, .int .i16 0, .int .i16 0, .int .i16 0, .int .i16 0, .int .i16 0, .int .i16 0, .int .i16 0, .int .i16 0, .int .i32 0] := rfl
  rw [hcz] at HB0 HO0 HW0
  clear hcz
  have HVS := Aside0.mk (fun W => implVSA_calls f 0 hR W)
  have HIP := Aside0.mk (fun W => isPieces_q need W)
  have HGD := Aside0.mk (goodB_iff f 0)
  obtain ⟨b1, hg⟩ : ∃ b, goodB f 0 = b := ⟨_, rfl⟩
  obtain ⟨b2, hn⟩ : ∃ b, decide (0 ≤ need ∧ need ≤ 500) = b := ⟨_, rfl⟩
  have HUN := Aside0.mk (fun W => unless_q b1 1 W)
  have HUN2 := Aside0.mk (fun W => unless_q b2 2 W)
  rw [hg] at HVS
  rw [hn] at HIP
  obtain ⟨c1, hc1⟩ : ∃ c, (if b1 = true then (0 : Int) else 1) = c := ⟨_, rfl⟩
  obtain ⟨c2, hc2⟩ : ∃ c, (if b2 = true then (0 : Int) else 2) = c := ⟨_, rfl⟩
  rw [hc1] at HUN
  rw [hc2] at HUN2
  have HC : Aside0 (firstL [c1, c2] = ukC f need) := ⟨by rw [← hc1, ← hc2]; simp only [ukC, hg, hn]; cases b1 <;> cases b2 <;> rfl⟩
  obtain ⟨code, HCD⟩ : ∃ code, Aside0 (ukC f need = code) := ⟨_, ⟨rfl⟩⟩
  by_cases h0 : code = 0
  · have hg1 : goodB f 0 = true := by
      cases hh : goodB f 0
      · exfalso; have := (uk_bad (need := need) hh).1; have := HCD.out; omega
      · rfl
    have hn1 : decide (0 ≤ need ∧ need ≤ 500) = true := by
      cases hh : decide (0 ≤ need ∧ need ≤ 500)
      · exfalso; have := (uk_far hg1 hh).1; have := HCD.out; omega
      · rfl
    have HK := Aside0.mk (uk_ok hg1 hn1)
    have HG := Aside0.mk (HGD.out.1 hg1)
    have HN := Aside0.mk (of_decide_eq_true hn1)
    have HU := Aside0.mk (fun W h => use_calls f 1 0 0 (by decide) rfl HG.out need HN.out w.heap.size W h)
    generalize (useF f 0 need).1 = F at *
    generalize (useF f 0 need).2 = sh at *
    have HZ : Aside0 (firstL [c1, c2] = 0) := ⟨by rw [HC.out, HCD.out, h0]⟩
    clear hg hR hn hg1 hn1 hc1 hc2 h0
    go_enter Try.func37, Try.ntmps37
    go_wp2_with (refine rw_load (by rfl) 27 _ (by rfl) w.heap.size 0 (by rfl) f 0 (HB0.out.range (o := 0) (q := 0) rfl (by decide)) _ Try.underlying27 (by rfl) (by kernel_rfl) ?_)
    refine (HVS.out _).mono ?_
    rintro e w1 ⟨rfl, hb⟩
    have HO1 := Aside0.mk (HO0.out.below hb)
    have HB1 := Aside0.mk (HB0.out.below hb)
    have HW1 := Aside0.mk (below_step HW0.out hb)
    clear hb HO0 HB0 HW0
    go_wp2_with fail
    refine (HUN.out _).mono ?_
    rintro e w' ⟨rfl, rfl⟩
    go_wp2_with fail
    refine (HIP.out _).mono ?_
    rintro e w' ⟨rfl, rfl⟩
    go_wp2_with fail
    refine (HUN2.out _).mono ?_
    rintro e w' ⟨rfl, rfl⟩
    go_wp2_with fail
    refine (firstOf_q [c1, c2] _ 2 _ _ rfl (by decide) (fun k hk => by have : k = 0 ∨ k = 1 := by omega
                                                                       rcases this with rfl | rfl <;> (go_simp; try rfl))).mono ?_
    rintro e w' ⟨rfl, rfl⟩
    rw [HZ.out]
    go_wp2_with (first | (go_at_call 86; refine (HU.out _ (HB1.out.alloc _)).mono ?_; rintro e w2 ⟨rfl, hB2, hg2⟩; have HB2 := Aside0.mk hB2; have HO2 := Aside0.mk ((HO1.out.alloc _).grown hg2 (by simp)); have HW2 := Aside0.mk (below_grown (below_alloc HW1.out _) (Nat.le_refl _) (below_alloc HW1.out _).size hg2); clear hB2 hg2) | (refine rw_load (by rfl) 27 _ (by rfl) w.heap.size 0 (by rfl) F 0 (HB2.out.range (o := 0) (q := 0) rfl (by decide)) _ Try.underlying27 (by rfl) (by kernel_rfl) ?_) | (refine rw_store (by rfl) 27 _ _ (by rfl) (w.heap.size + 1) 0 (by rfl) 1 0 (fun _ => 0) F 0 (by rfl) HO2.out rfl (by decide) (by decide) (by kernel_rfl) ?_; intro w9 hw9 hg9; have HO9 := Aside0.mk hw9; have HW9 : Aside0 (Below w.heap.size w w9) := ⟨below_grown HW2.out (by omega) HW2.out.size hg9⟩; clear hw9 hg9))
    refine bodyPost_ret (v := .tuple #[.agg (cellsAt F 0).toArray, .int .i64 sh, .int .i64 0]) (results_cell3 (by rfl) _ _ (w.heap.size + 1) (cellsAt F 0) _ _ _ (by rfl) (by rfl) (by rfl) (by have h_ := HO9.out.range (o := 0) (q := 0) rfl (by decide); rwa [cells_put] at h_) Try.underlying27 (by rfl) (by rw [cellsAt_len]; kernel_rfl)) rfl ⟨by rw [HK.out.1, HK.out.2.1, HK.out.2.2], HW9.out⟩
  · have HK : Aside0 (ukC f need = code ∧ ukF f need = (fun _ => 0) ∧ ukS f need = 0) := ⟨by have := HCD.out; refine ⟨this, ?_, ?_⟩ <;> simp [ukF, ukS, this, h0]⟩
    have HZ : Aside0 (firstL [c1, c2] = code) := ⟨by rw [HC.out, HCD.out]⟩
    have h1 : (code != 0) = true := by simpa using h0
    have h2 : (code == 0) = false := by simpa using h0
    have h3 : decide (code = 0) = false := decide_eq_false h0
    clear hg hR hn hc1 hc2 h0
    go_enter Try.func37, Try.ntmps37
    go_wp2_with (refine rw_load (by rfl) 27 _ (by rfl) w.heap.size 0 (by rfl) f 0 (HB0.out.range (o := 0) (q := 0) rfl (by decide)) _ Try.underlying27 (by rfl) (by kernel_rfl) ?_)
    refine (HVS.out _).mono ?_
    rintro e w1 ⟨rfl, hb⟩
    have HO1 := Aside0.mk (HO0.out.below hb)
    have HB1 := Aside0.mk (HB0.out.below hb)
    have HW1 := Aside0.mk (below_step HW0.out hb)
    clear hb HO0 HB0 HW0
    go_wp2_with fail
    refine (HUN.out _).mono ?_
    rintro e w' ⟨rfl, rfl⟩
    go_wp2_with fail
    refine (HIP.out _).mono ?_
    rintro e w' ⟨rfl, rfl⟩
    go_wp2_with fail
    refine (HUN2.out _).mono ?_
    rintro e w' ⟨rfl, rfl⟩
    go_wp2_with fail
    refine (firstOf_q [c1, c2] _ 2 _ _ rfl (by decide) (fun k hk => by have : k = 0 ∨ k = 1 := by omega
                                                                       rcases this with rfl | rfl <;> (go_simp; try rfl))).mono ?_
    rintro e w' ⟨rfl, rfl⟩
    rw [HZ.out]
    go_wp2_with (refine rw_store (by rfl) 27 _ _ (by rfl) (w.heap.size + 1) 0 (by rfl) 1 0 (fun _ => 0) (fun _ => 0) 0 (by rfl) (HO1.out.alloc _) rfl (by decide) (by decide) (by kernel_rfl) ?_; intro w9 hw9 hg9; have HO9 := Aside0.mk hw9; have HW9 : Aside0 (Below w.heap.size w w9) := ⟨below_grown (below_alloc HW1.out _) (by omega) (below_alloc HW1.out _).size hg9⟩; clear hw9 hg9)
    refine bodyPost_ret (v := .tuple #[.agg (cellsAt (fun _ => 0) 0).toArray, .int .i64 0, .int .i64 code]) (results_cell3 (by rfl) _ _ (w.heap.size + 1) (cellsAt (fun _ => 0) 0) _ _ _ (by rfl) (by rfl) (by rfl) (by have h_ := HO9.out.range (o := 0) (q := 0) rfl (by decide); rwa [cells_put] at h_) Try.underlying27 (by rfl) (by rw [cellsAt_len]; kernel_rfl)) rfl ⟨by rw [HK.out.1, HK.out.2.1, HK.out.2.2], HW9.out⟩
end Go.Proofs.Ytjmnbikaijphlaa.X
