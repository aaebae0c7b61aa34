/- Contracts of functions, and plain facts: what each call answers, and what it leaves as it was. -/
import Derived.Test.YtddlhjhnnmkgaaaDoorHPcr
import Derived.Test.YtddlhjhnnmkgaaaDoorPcs
set_option linter.unusedVariables false
set_option linter.unusedSimpArgs false
namespace Go.Proofs.YtddlhjhnnmkgaaaDoor.X
open Go.RowKit Go.Proofs.YtddlhjhnnmkgaaaDoorW.PrintWords Go.Proofs.YtddlhjhnnmkgaaaDoorW.PrintLast Go.Proofs.YtddlhjhnnmkgaaaDoorW.PrintMore
attribute [local go_sem] max2_int min2_int max_two min_two max_three min_three max_four min_four
set_option maxHeartbeats 8000000 in
set_option maxRecDepth 100000 in
theorem l05Ok_calls (f : Nat → Int) (n c g hb : Nat) (tub every today : Int) (hn : n ≤ 1048576) (hR : Rng f n) (ht : -32768 ≤ tub ∧ tub ≤ 32767) (hv : -128 ≤ every ∧ every ≤ 127) (hd : -32768 ≤ today ∧ today ≤ 32767) (w : World) (hH : Blk w hb 31 (hcells (some ⟨g, 0, none⟩) n c tub every today)) (hB : Rw w g n f) :
    Calls Tryd.prog 10 #[.pointer (some ⟨hb, 0, none⟩)] w fun e w' => e = .returned (.bool (houseB f n tub every today)) ∧ Below w.heap.size w w' := by
  have HC := Aside0.mk (fun q (hq : q < n) W h => l05StockR_calls f (25 * q) q n rfl hq (hR.one hq) g W h)
  have HH := Aside0.mk hH
  have HB := Aside0.mk hB
  have HO : Aside0 (houseB f n tub every today = (goodsB f n && (decide (1 ≤ n ∧ n ≤ 4) && decide (0 ≤ tub ∧ tub ≤ 1000) && decide (1 ≤ every ∧ every ≤ 7) && decide (0 ≤ today ∧ today ≤ 60)))) := ⟨rfl⟩
  generalize houseB f n tub every today = ok at *
  obtain ⟨ht1, ht2⟩ := ht
  obtain ⟨hv1, hv2⟩ := hv
  obtain ⟨hd1, hd2⟩ := hd
  clear hH hB hR
  go_enter Tryd.func10, Tryd.ntmps10
  go_wp2
  go_loopw [3] (fun v3 w' => ∃ k : Nat, k ≤ n ∧ v3 = .int .i64 k ∧ Aside0 (goodsB f k = true) ∧ Aside0 (Blk w' hb 31 (hcells (some ⟨g, 0, none⟩) n c tub every today)) ∧ Aside0 (Rw w' g n f) ∧ Aside0 (Below w.heap.size w w')) (fun v3 _ => n - (intOf v3).toNat)
  case atStart => exact ⟨0, by omega, rfl, ⟨rfl⟩, HH, HB, ⟨Below.refl _ _⟩⟩
  case round =>
    clear HH HB
    obtain ⟨k, hk, rfl, HK, HH, HB, HW⟩ := hrel
    have c0 := HH.out.cell 0 (v := .slice (some ⟨g, 0, none⟩) n c) rfl
    by_cases hlt : k < n
    · obtain ⟨o, ho⟩ : ∃ o, k * 25 = o := ⟨_, rfl⟩
      have HCk := Aside0.mk (HC.out k hlt)
      rw [show 25 * k = o by omega] at HCk
      have HG : Aside0 (goodsB f (k + 1) = (goodsB f k && goodB f o)) := ⟨by rw [goodsB_succ, show 25 * k = o by omega]⟩
      have HGF : Aside0 (goodB f o = false → goodsB f n = false) := ⟨fun h => goodsB_false (k := k) (by rw [show 25 * k = o by omega]; exact h) hlt⟩
      generalize goodB f o = b at *
      have HO2 := Aside0.mk ho
      clear ho
      cases b
      · have HGn := Aside0.mk (HGF.out rfl)
        go_wp2_with fail
        have e2 := HO2.out
        rw [e2]
        clear e2
        go_wp2_with (go_at_call 17; refine (HCk.out _ HB.out).mono ?_; rintro e w1 ⟨rfl, hb1⟩; have HW1 := Aside0.mk (below_step HW.out hb1); clear hb1)
        go_ret
        exact ⟨by rw [HO.out, HGn.out]; rfl, HW1.out⟩
      · go_wp2_with fail
        have e2 := HO2.out
        rw [e2]
        clear e2
        go_wp2_with (go_at_call 17; refine (HCk.out _ HB.out).mono ?_; rintro e w1 ⟨rfl, hb1⟩; have HW1 := Aside0.mk (below_step HW.out hb1); have HH1 := Aside0.mk (HH.out.below hb1); have HB1 := Aside0.mk (HB.out.below hb1); clear hb1)
        go_roundw
        case rel => exact ⟨k + 1, by omega, by go_num, ⟨by rw [HG.out, HK.out]; rfl⟩, HH1, HB1, HW1⟩
        case measure => simp [intOf] <;> omega
    · have hkn : k = n := by omega
      rw [hkn] at HK
      have c1 := HH.out.cell 1 (v := .int .i16 tub) rfl
      have c2 := HH.out.cell 2 (v := .int .i8 every) rfl
      have c3 := HH.out.cell 3 (v := .int .i16 today) rfl
      have i1 : IntKind.i64.wrap tub = tub := IntWalk.i64_in _ ⟨by omega, by omega⟩
      have i2 : IntKind.i64.wrap every = every := IntWalk.i64_in _ ⟨by omega, by omega⟩
      have i3 : IntKind.i64.wrap today = today := IntWalk.i64_in _ ⟨by omega, by omega⟩
      have HI := Aside0.mk (fun W => in_q n 1 4 W)
      have HT := Aside0.mk (fun W => tub_q tub every W)
      have HD := Aside0.mk (fun W => in_q today 0 60 W)
      have HN : Aside0 (decide ((1 : Int) ≤ (n : Int) ∧ (n : Int) ≤ 4) = decide (1 ≤ n ∧ n ≤ 4)) := ⟨by rw [decide_eq_decide]; omega⟩
      rw [HN.out] at HI
      have HO3 : Aside0 (ok = (decide (1 ≤ n ∧ n ≤ 4) && (decide (0 ≤ tub ∧ tub ≤ 1000) && decide (1 ≤ every ∧ every ≤ 7)) && decide (0 ≤ today ∧ today ≤ 60))) := ⟨by rw [HO.out, HK.out, Bool.true_and, Bool.and_assoc (decide (1 ≤ n ∧ n ≤ 4))]⟩
      generalize decide (1 ≤ n ∧ n ≤ 4) = p at *
      generalize (decide (0 ≤ tub ∧ tub ≤ 1000) && decide (1 ≤ every ∧ every ≤ 7)) = t at *
      generalize decide (0 ≤ today ∧ today ≤ 60) = d at *
      clear HO HN
      cases p
      · go_wp2_with fail
        refine seq_all (by kernel_rfl) (by kernel_rfl) (fun w1 hw1 => ?_)
        have HW1 : Aside0 (Below w.heap.size w w1) := ⟨by rw [hw1]; exact below_drew HW.out⟩
        have e0 : w1.cell? ⟨hb, 0, none⟩ = some (.slice (some ⟨g, 0, none⟩) n c) := by rw [hw1]; exact c0
        have e1 : w1.cell? ⟨hb, 1, none⟩ = some (.int .i16 tub) := by rw [hw1]; exact c1
        have e2 : w1.cell? ⟨hb, 2, none⟩ = some (.int .i8 every) := by rw [hw1]; exact c2
        have e3 : w1.cell? ⟨hb, 3, none⟩ = some (.int .i16 today) := by rw [hw1]; exact c3
        clear hw1 HW c0 c1 c2 c3 HH HB
        iterate 5 ((with_reducible refine wpStill_step (fun K hK => ?_)); go_simp; (with_reducible refine hK _ ?_); clear hK K)
        (with_reducible refine wpStill_step (fun K hK => ?_)); go_simp; refine ⟨_, HI.out _, ?_⟩; (with_reducible refine hK _ ?_); clear hK K
        (with_reducible refine wpStill_step (fun K hK => ?_)); go_simp; (with_reducible refine hK _ ?_); clear hK K
        iterate 11 ((with_reducible refine still_off ?hw_ ?_); (case hw_ => kernel_rfl))
        iterate 2 ((with_reducible refine wpStill_step (fun K hK => ?_)); go_simp; (with_reducible refine hK _ ?_); clear hK K)
        iterate 6 ((with_reducible refine still_off ?hw_ ?_); (case hw_ => kernel_rfl))
        iterate 2 ((with_reducible refine wpStill_step (fun K hK => ?_)); go_simp; (with_reducible refine hK _ ?_); clear hK K)
        refine wpStill_nil ?_
        go_wp2
        go_ret
        exact ⟨by rw [HO3.out]; rfl, HW1.out⟩
      · cases t
        · go_wp2_with fail
          refine seq_all (by kernel_rfl) (by kernel_rfl) (fun w1 hw1 => ?_)
          have HW1 : Aside0 (Below w.heap.size w w1) := ⟨by rw [hw1]; exact below_drew HW.out⟩
          have e0 : w1.cell? ⟨hb, 0, none⟩ = some (.slice (some ⟨g, 0, none⟩) n c) := by rw [hw1]; exact c0
          have e1 : w1.cell? ⟨hb, 1, none⟩ = some (.int .i16 tub) := by rw [hw1]; exact c1
          have e2 : w1.cell? ⟨hb, 2, none⟩ = some (.int .i8 every) := by rw [hw1]; exact c2
          have e3 : w1.cell? ⟨hb, 3, none⟩ = some (.int .i16 today) := by rw [hw1]; exact c3
          clear hw1 HW c0 c1 c2 c3 HH HB
          iterate 5 ((with_reducible refine wpStill_step (fun K hK => ?_)); go_simp; (with_reducible refine hK _ ?_); clear hK K)
          (with_reducible refine wpStill_step (fun K hK => ?_)); go_simp; refine ⟨_, HI.out _, ?_⟩; (with_reducible refine hK _ ?_); clear hK K
          (with_reducible refine wpStill_step (fun K hK => ?_)); go_simp; (with_reducible refine hK _ ?_); clear hK K
          iterate 10 ((with_reducible refine still_on ?hw_ (fun K hK => ?_)); (case hw_ => kernel_rfl); go_simp; (with_reducible refine hK _ ?_); clear hK K)
          (with_reducible refine still_on ?hw_ (fun K hK => ?_)); (case hw_ => kernel_rfl); go_simp; refine ⟨_, HT.out _, ?_⟩; (with_reducible refine hK _ ?_); clear hK K
          iterate 2 ((with_reducible refine wpStill_step (fun K hK => ?_)); go_simp; (with_reducible refine hK _ ?_); clear hK K)
          iterate 6 ((with_reducible refine still_off ?hw_ ?_); (case hw_ => kernel_rfl))
          iterate 2 ((with_reducible refine wpStill_step (fun K hK => ?_)); go_simp; (with_reducible refine hK _ ?_); clear hK K)
          refine wpStill_nil ?_
          go_wp2
          go_ret
          exact ⟨by rw [HO3.out]; rfl, HW1.out⟩
        · go_wp2_with fail
          refine seq_all (by kernel_rfl) (by kernel_rfl) (fun w1 hw1 => ?_)
          have HW1 : Aside0 (Below w.heap.size w w1) := ⟨by rw [hw1]; exact below_drew HW.out⟩
          have e0 : w1.cell? ⟨hb, 0, none⟩ = some (.slice (some ⟨g, 0, none⟩) n c) := by rw [hw1]; exact c0
          have e1 : w1.cell? ⟨hb, 1, none⟩ = some (.int .i16 tub) := by rw [hw1]; exact c1
          have e2 : w1.cell? ⟨hb, 2, none⟩ = some (.int .i8 every) := by rw [hw1]; exact c2
          have e3 : w1.cell? ⟨hb, 3, none⟩ = some (.int .i16 today) := by rw [hw1]; exact c3
          clear hw1 HW c0 c1 c2 c3 HH HB
          iterate 5 ((with_reducible refine wpStill_step (fun K hK => ?_)); go_simp; (with_reducible refine hK _ ?_); clear hK K)
          (with_reducible refine wpStill_step (fun K hK => ?_)); go_simp; refine ⟨_, HI.out _, ?_⟩; (with_reducible refine hK _ ?_); clear hK K
          (with_reducible refine wpStill_step (fun K hK => ?_)); go_simp; (with_reducible refine hK _ ?_); clear hK K
          iterate 10 ((with_reducible refine still_on ?hw_ (fun K hK => ?_)); (case hw_ => kernel_rfl); go_simp; (with_reducible refine hK _ ?_); clear hK K)
          (with_reducible refine still_on ?hw_ (fun K hK => ?_)); (case hw_ => kernel_rfl); go_simp; refine ⟨_, HT.out _, ?_⟩; (with_reducible refine hK _ ?_); clear hK K
          iterate 2 ((with_reducible refine wpStill_step (fun K hK => ?_)); go_simp; (with_reducible refine hK _ ?_); clear hK K)
          iterate 5 ((with_reducible refine still_on ?hw_ (fun K hK => ?_)); (case hw_ => kernel_rfl); go_simp; (with_reducible refine hK _ ?_); clear hK K)
          (with_reducible refine still_on ?hw_ (fun K hK => ?_)); (case hw_ => kernel_rfl); go_simp; refine ⟨_, HD.out _, ?_⟩; (with_reducible refine hK _ ?_); clear hK K
          iterate 2 ((with_reducible refine wpStill_step (fun K hK => ?_)); go_simp; (with_reducible refine hK _ ?_); clear hK K)
          refine wpStill_nil ?_
          go_wp2
          go_ret
          exact ⟨by rw [HO3.out]; rfl, HW1.out⟩
theorem implVSA_calls (f : Nat → Int) (o : Nat) (hR : Rng1 f o) (w : World) : Calls Tryd.prog 27 #[.agg (cellsAt f o).toArray] w fun e w' => e = .returned (.bool (goodB f o)) ∧ Below w.heap.size w w' := by
  rw [cellsAt_stk, ← stkOk_goodB]; exact implVS_calls _ (kOf_len f o) _ (rng_stkR hR) w
set_option maxHeartbeats 8000000 in
set_option maxRecDepth 100000 in
theorem vh1_calls (f : Nat → Int) (o : Nat) (hR : Rng1 f o) (w : World) : Calls Tryd.prog 26 #[.agg (cellsAt f o).toArray] w fun e w' => e = .returned (.bool (!goodB f o)) ∧ Below w.heap.size w w' := by
  have HC := Aside0.mk (fun W => implVSA_calls f o hR W)
  have HB0 : Aside0 (Blk (w.alloc (.cells (cellsAt f o).toArray 44)) w.heap.size 44 (cellsAt f o)) := ⟨Blk.new w _ _⟩
  have HR : Aside0 ((w.alloc (.cells (cellsAt f o).toArray 44)).rangeAt w.heap.size 0 (cellsAt f o)) := ⟨HB0.out.rangeAt 0 (by rw [List.drop_zero, List.take_of_length_le (Nat.le_refl _)])⟩
  clear hR
  generalize goodB f o = b at *
  go_enter Tryd.func26, Tryd.ntmps26
  go_wp2_with (first | (refine rw_load (by rfl) 44 _ (by rfl) w.heap.size 0 (by rfl) f o HR.out _ Tryd.underlying44 (by rfl) (by kernel_rfl) ?_) | (go_at_call 27; refine (HC.out _).mono ?_; rintro e w1 ⟨rfl, hb⟩; have HB1 := Aside0.mk (below_step (below_alloc (Below.refl w.heap.size w) _) hb); clear hb))
  go_ret
  exact ⟨rfl, HB1.out⟩
set_option maxHeartbeats 8000000 in
set_option maxRecDepth 100000 in
theorem vhIdx_calls (f : Nat → Int) (n c g : Nat) (hn : n ≤ 1048576) (hR : Rng f n) (w : World) (hB : Rw w g n f) : Calls Tryd.prog 34 #[.slice (some ⟨g, 0, none⟩) n c, .func (.func 26) #[] #[]] w fun e w' => ∃ r : Int, e = .returned (.int .i64 r) ∧ Aside0 (decide (0 ≤ r) = !goodsB f n) ∧ Below w.heap.size w w' := by
  have HC := Aside0.mk (fun q (hq : q < n) W => vh1_calls f (25 * q) (hR.one hq) W)
  have HB := Aside0.mk hB
  clear hR hB
  go_enter Tryd.func34, Tryd.ntmps34
  go_wp2
  go_loopw [8] (fun v8 w' => ∃ k : Nat, k ≤ n ∧ v8 = .int .i64 k ∧ Aside0 (goodsB f k = true) ∧ Aside0 (Rw w' g n f) ∧ Aside0 (Below w.heap.size w w')) (fun v8 _ => n - (intOf v8).toNat)
  case atStart => exact ⟨0, by omega, rfl, ⟨rfl⟩, HB, ⟨Below.refl _ _⟩⟩
  case round =>
    clear HB
    obtain ⟨k, hk, rfl, HK, HB, HW⟩ := hrel
    by_cases hlt : k < n
    · have HCk := Aside0.mk (HC.out k hlt)
      have HR := Aside0.mk (HB.out.range (o := k * 25) (by omega) hlt)
      have HG : Aside0 (goodsB f (k + 1) = (goodsB f k && goodB f (25 * k))) := ⟨goodsB_succ f k⟩
      have HGF : Aside0 (goodB f (25 * k) = false → goodsB f n = false) := ⟨fun h => goodsB_false h hlt⟩
      have HE : Aside0 (cellsAt f (25 * k) = cellsAt f (k * 25)) := ⟨by rw [Nat.mul_comm]⟩
      rw [HE.out] at HCk
      generalize goodB f (25 * k) = b at *
      generalize hko : k * 25 = o at HR HCk
      have HKO := Aside0.mk hko
      clear hko HE
      cases b
      · go_wp2_with (first | (refine rw_load (by rfl) 44 _ (by rfl) g (k * 25) (by rfl) f o (by rw [HKO.out]; exact HR.out) _ Tryd.underlying44 (by rfl) (by kernel_rfl) ?_) | (go_at_call 26; refine (HCk.out _).mono ?_; rintro e w1 ⟨rfl, hb⟩; have HW1 := Aside0.mk (below_step HW.out hb); clear hb))
        go_ret
        exact ⟨k, rfl, ⟨by rw [HGF.out trivial]; simp⟩, HW1.out⟩
      · go_wp2_with (first | (refine rw_load (by rfl) 44 _ (by rfl) g (k * 25) (by rfl) f o (by rw [HKO.out]; exact HR.out) _ Tryd.underlying44 (by rfl) (by kernel_rfl) ?_) | (go_at_call 26; refine (HCk.out _).mono ?_; rintro e w1 ⟨rfl, hb⟩; have HW1 := Aside0.mk (below_step HW.out hb); have HB1 := Aside0.mk (HB.out.below hb); clear hb))
        go_roundw
        case rel => exact ⟨k + 1, by omega, by go_num, ⟨by rw [HG.out, HK.out]; rfl⟩, HB1, HW1⟩
        case measure => simp [intOf] <;> omega
    · have hkn : k = n := by omega
      have HK2 : Aside0 (goodsB f n = true) := ⟨by rw [← hkn]; exact HK.out⟩
      go_wp2
      go_ret
      exact ⟨-1, rfl, ⟨by rw [HK2.out]; rfl⟩, HW.out⟩
set_option maxHeartbeats 8000000 in
set_option maxRecDepth 100000 in
theorem vhHas_calls (f : Nat → Int) (n c g : Nat) (hn : n ≤ 1048576) (hR : Rng f n) (w : World) (hB : Rw w g n f) : Calls Tryd.prog 25 #[.slice (some ⟨g, 0, none⟩) n c, .func (.func 26) #[] #[]] w fun e w' => e = .returned (.bool (!goodsB f n)) ∧ Below w.heap.size w w' := by
  have HC := Aside0.mk (vhIdx_calls f n c g hn hR w hB)
  clear hR hB hn
  generalize (!goodsB f n) = b at *
  go_enter Tryd.func25, Tryd.ntmps25
  go_wp2_with (go_at_call 34; refine HC.out.mono ?_; rintro e w1 ⟨r, rfl, HRr, hb⟩; have HB1 := Aside0.mk hb; clear hb)
  go_ret
  exact ⟨by rw [← HRr.out]; rfl, HB1.out⟩
set_option maxHeartbeats 8000000 in
set_option maxRecDepth 100000 in
theorem implVH_calls (f : Nat → Int) (n c g : Nat) (tub every today : Int) (hn : n ≤ 1048576) (hR : Rng f n) (ht : -32768 ≤ tub ∧ tub ≤ 32767) (hv : -128 ≤ every ∧ every ≤ 127) (hd : -32768 ≤ today ∧ today ≤ 32767) (w : World) (hB : Rw w g n f) :
    Calls Tryd.prog 13 #[.agg #[.slice (some ⟨g, 0, none⟩) n c, .int .i16 tub, .int .i8 every, .int .i16 today]] w fun e w' => e = .returned (.bool (houseB f n tub every today)) ∧ Below w.heap.size w w' := by
  have HC := Aside0.mk (fun W h => vhHas_calls f n c g hn hR W h)
  have HB := Aside0.mk hB
  have HO : Aside0 (houseB f n tub every today = (goodsB f n && (decide (1 ≤ n ∧ n ≤ 4) && decide (0 ≤ tub ∧ tub ≤ 1000) && decide (1 ≤ every ∧ every ≤ 7) && decide (0 ≤ today ∧ today ≤ 60)))) := ⟨rfl⟩
  generalize houseB f n tub every today = ok at *
  obtain ⟨ht1, ht2⟩ := ht
  obtain ⟨hv1, hv2⟩ := hv
  obtain ⟨hd1, hd2⟩ := hd
  have i1 : IntKind.i64.wrap tub = tub := IntWalk.i64_in _ ⟨by omega, by omega⟩
  have i2 : IntKind.i64.wrap every = every := IntWalk.i64_in _ ⟨by omega, by omega⟩
  have i3 : IntKind.i64.wrap today = today := IntWalk.i64_in _ ⟨by omega, by omega⟩
  have HS := Aside0.mk (fun W => sizeK_q (some ⟨g, 0, none⟩) n c W)
  have HI := Aside0.mk (fun W => within_q n 1 4 W)
  have HT := Aside0.mk (fun W => within_q tub 0 1000 W)
  have HV := Aside0.mk (fun W => within_q every 1 7 W)
  have HD := Aside0.mk (fun W => within_q today 0 60 W)
  have HN : Aside0 (decide ((1 : Int) ≤ (n : Int) ∧ (n : Int) ≤ 4) = decide (1 ≤ n ∧ n ≤ 4)) := ⟨by rw [decide_eq_decide]; omega⟩
  rw [HN.out] at HI
  generalize goodsB f n = gd at *
  generalize decide (1 ≤ n ∧ n ≤ 4) = p at *
  generalize decide (0 ≤ tub ∧ tub ≤ 1000) = t at *
  generalize decide (1 ≤ every ∧ every ≤ 7) = v at *
  generalize decide (0 ≤ today ∧ today ≤ 60) = d at *
  have HO3 : Aside0 (ok = (p && gd && t && v && d)) := ⟨by rw [HO.out]; cases p <;> cases gd <;> cases t <;> cases v <;> rfl⟩
  clear HO HN hR hB
  cases p
  · go_enter Tryd.func13, Tryd.ntmps13
    go_wp2_with (first | (go_at_call 24; (with_reducible refine (HS.out _).mono ?_); rintro e w' ⟨rfl, rfl⟩) | (go_at_call 23; (with_reducible refine (HI.out _).mono ?_); rintro e w' ⟨rfl, rfl⟩) | (go_at_call 23; (with_reducible refine (HT.out _).mono ?_); rintro e w' ⟨rfl, rfl⟩) | (go_at_call 23; (with_reducible refine (HV.out _).mono ?_); rintro e w' ⟨rfl, rfl⟩) | (go_at_call 23; (with_reducible refine (HD.out _).mono ?_); rintro e w' ⟨rfl, rfl⟩) | (go_at_call 25; refine (HC.out _ (HB.out.alloc _)).mono ?_; rintro e w1 ⟨rfl, hb⟩; have HW1 := Aside0.mk (below_step (below_alloc (Below.refl w.heap.size w) _) hb); have HH1 := Aside0.mk ((Blk.new w 31 (hcells (some ⟨g, 0, none⟩) n c tub every today)).below hb); clear hb; have c1 := HH1.out.cell 1 (v := .int .i16 tub) rfl; have c2 := HH1.out.cell 2 (v := .int .i8 every) rfl; have c3 := HH1.out.cell 3 (v := .int .i16 today) rfl))
    go_ret
    exact ⟨by rw [HO3.out]; rfl, by first | exact HW1.out | exact below_alloc (Below.refl _ _) _⟩
  · cases gd
    · go_enter Tryd.func13, Tryd.ntmps13
      go_wp2_with (first | (go_at_call 24; (with_reducible refine (HS.out _).mono ?_); rintro e w' ⟨rfl, rfl⟩) | (go_at_call 23; (with_reducible refine (HI.out _).mono ?_); rintro e w' ⟨rfl, rfl⟩) | (go_at_call 23; (with_reducible refine (HT.out _).mono ?_); rintro e w' ⟨rfl, rfl⟩) | (go_at_call 23; (with_reducible refine (HV.out _).mono ?_); rintro e w' ⟨rfl, rfl⟩) | (go_at_call 23; (with_reducible refine (HD.out _).mono ?_); rintro e w' ⟨rfl, rfl⟩) | (go_at_call 25; refine (HC.out _ (HB.out.alloc _)).mono ?_; rintro e w1 ⟨rfl, hb⟩; have HW1 := Aside0.mk (below_step (below_alloc (Below.refl w.heap.size w) _) hb); have HH1 := Aside0.mk ((Blk.new w 31 (hcells (some ⟨g, 0, none⟩) n c tub every today)).below hb); clear hb; have c1 := HH1.out.cell 1 (v := .int .i16 tub) rfl; have c2 := HH1.out.cell 2 (v := .int .i8 every) rfl; have c3 := HH1.out.cell 3 (v := .int .i16 today) rfl))
      go_ret
      exact ⟨by rw [HO3.out]; rfl, by first | exact HW1.out | exact below_alloc (Below.refl _ _) _⟩
    · cases t
      · go_enter Tryd.func13, Tryd.ntmps13
        go_wp2_with (first | (go_at_call 24; (with_reducible refine (HS.out _).mono ?_); rintro e w' ⟨rfl, rfl⟩) | (go_at_call 23; (with_reducible refine (HI.out _).mono ?_); rintro e w' ⟨rfl, rfl⟩) | (go_at_call 23; (with_reducible refine (HT.out _).mono ?_); rintro e w' ⟨rfl, rfl⟩) | (go_at_call 23; (with_reducible refine (HV.out _).mono ?_); rintro e w' ⟨rfl, rfl⟩) | (go_at_call 23; (with_reducible refine (HD.out _).mono ?_); rintro e w' ⟨rfl, rfl⟩) | (go_at_call 25; refine (HC.out _ (HB.out.alloc _)).mono ?_; rintro e w1 ⟨rfl, hb⟩; have HW1 := Aside0.mk (below_step (below_alloc (Below.refl w.heap.size w) _) hb); have HH1 := Aside0.mk ((Blk.new w 31 (hcells (some ⟨g, 0, none⟩) n c tub every today)).below hb); clear hb; have c1 := HH1.out.cell 1 (v := .int .i16 tub) rfl; have c2 := HH1.out.cell 2 (v := .int .i8 every) rfl; have c3 := HH1.out.cell 3 (v := .int .i16 today) rfl))
        go_ret
        exact ⟨by rw [HO3.out]; rfl, by first | exact HW1.out | exact below_alloc (Below.refl _ _) _⟩
      · cases v
        · go_enter Tryd.func13, Tryd.ntmps13
          go_wp2_with (first | (go_at_call 24; (with_reducible refine (HS.out _).mono ?_); rintro e w' ⟨rfl, rfl⟩) | (go_at_call 23; (with_reducible refine (HI.out _).mono ?_); rintro e w' ⟨rfl, rfl⟩) | (go_at_call 23; (with_reducible refine (HT.out _).mono ?_); rintro e w' ⟨rfl, rfl⟩) | (go_at_call 23; (with_reducible refine (HV.out _).mono ?_); rintro e w' ⟨rfl, rfl⟩) | (go_at_call 23; (with_reducible refine (HD.out _).mono ?_); rintro e w' ⟨rfl, rfl⟩) | (go_at_call 25; refine (HC.out _ (HB.out.alloc _)).mono ?_; rintro e w1 ⟨rfl, hb⟩; have HW1 := Aside0.mk (below_step (below_alloc (Below.refl w.heap.size w) _) hb); have HH1 := Aside0.mk ((Blk.new w 31 (hcells (some ⟨g, 0, none⟩) n c tub every today)).below hb); clear hb; have c1 := HH1.out.cell 1 (v := .int .i16 tub) rfl; have c2 := HH1.out.cell 2 (v := .int .i8 every) rfl; have c3 := HH1.out.cell 3 (v := .int .i16 today) rfl))
          go_ret
          exact ⟨by rw [HO3.out]; rfl, by first | exact HW1.out | exact below_alloc (Below.refl _ _) _⟩
        · go_enter Tryd.func13, Tryd.ntmps13
          go_wp2_with (first | (go_at_call 24; (with_reducible refine (HS.out _).mono ?_); rintro e w' ⟨rfl, rfl⟩) | (go_at_call 23; (with_reducible refine (HI.out _).mono ?_); rintro e w' ⟨rfl, rfl⟩) | (go_at_call 23; (with_reducible refine (HT.out _).mono ?_); rintro e w' ⟨rfl, rfl⟩) | (go_at_call 23; (with_reducible refine (HV.out _).mono ?_); rintro e w' ⟨rfl, rfl⟩) | (go_at_call 23; (with_reducible refine (HD.out _).mono ?_); rintro e w' ⟨rfl, rfl⟩) | (go_at_call 25; refine (HC.out _ (HB.out.alloc _)).mono ?_; rintro e w1 ⟨rfl, hb⟩; have HW1 := Aside0.mk (below_step (below_alloc (Below.refl w.heap.size w) _) hb); have HH1 := Aside0.mk ((Blk.new w 31 (hcells (some ⟨g, 0, none⟩) n c tub every today)).below hb); clear hb; have c1 := HH1.out.cell 1 (v := .int .i16 tub) rfl; have c2 := HH1.out.cell 2 (v := .int .i8 every) rfl; have c3 := HH1.out.cell 3 (v := .int .i16 today) rfl))
          go_ret
          exact ⟨by rw [HO3.out]; rfl, by first | exact HW1.out | exact below_alloc (Below.refl _ _) _⟩
end Go.Proofs.YtddlhjhnnmkgaaaDoor.X
