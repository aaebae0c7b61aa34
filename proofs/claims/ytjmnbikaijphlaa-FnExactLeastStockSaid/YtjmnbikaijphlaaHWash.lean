/- Contracts of functions, and plain facts: what each call answers, and what it leaves as it was. -/
import Derived.Test.YtjmnbikaijphlaaHTo
import Derived.Test.YtjmnbikaijphlaaHSmall
set_option linter.unusedVariables false
set_option linter.unusedSimpArgs false
namespace Go.Proofs.Ytjmnbikaijphlaa.X
open Go.RowKit Go.Proofs.YtjmnbikaijphlaaW.PrintWords Go.Proofs.YtjmnbikaijphlaaW.PrintLast Go.Proofs.YtjmnbikaijphlaaW.PrintMore
attribute [local go_sem] max2_int min2_int max_two min_two max_three min_three max_four min_four
set_option maxHeartbeats 8000000 in
set_option maxRecDepth 100000 in
theorem l05Wash_calls (f : Nat → Int) (n c g hb : Nat) (tub every today : Int) (hn : n ≤ 4) (hG : Fine f n) (ht : 0 ≤ tub ∧ tub ≤ 1000) (hne : hb ≠ g) (w : World) (hH : Blk w hb 40 (hcells (some ⟨g, 0, none⟩) n c tub every today)) (hB : Rw w g n f) :
    Calls Try.prog 95 #[.pointer (some ⟨hb, 0, none⟩)] w fun e w' => e = .returned (.int .i64 (tub - (wsAll f tub n).2)) ∧ Rw w' g n (wsAll f tub n).1 ∧ w.grownBy w' (some g) := by
  have HG := Aside0.mk hG
  have HB := Aside0.mk hB
  have HH := Aside0.mk hH
  have HT := Aside0.mk ht
  have HNE := Aside0.mk hne
  obtain ⟨ht1, ht2⟩ := ht
  have c0 := hH.cell 0 (v := .slice (some ⟨g, 0, none⟩) n c) rfl
  have c1 := hH.cell 1 (v := .int .i16 tub) rfl
  clear hG hB hH hne
  go_enter Try.func95, Try.ntmps95
  go_wp2
  clear c0 c1
  go_loopw [3, 4] (fun v3 v4 w' => ∃ k : Nat, k ≤ n ∧ v3 = .int .i64 (wsAll f tub k).2 ∧ v4 = .int .i64 k ∧ Aside0 (Rw w' g n (wsAll f tub k).1) ∧ Aside0 (Blk w' hb 40 (hcells (some ⟨g, 0, none⟩) n c tub every today)) ∧ Aside0 (w.grownBy w' (some g))) (fun _ v4 _ => n - (intOf v4).toNat)
  case atStart => exact ⟨0, by omega, rfl, rfl, HB, HH, ⟨World.grownBy.refl _ _⟩⟩
  case round =>
    clear HB HH
    obtain ⟨k, hk, rfl, rfl, HA, HH, HW⟩ := hrel
    obtain ⟨g1, g2, g3⟩ := HG.out.wsAll HT.out.1 k hk
    have HGK := Aside0.mk g1
    clear g1
    have g4 : (wsAll f tub k).2 ≤ 1000 := Int.le_trans g3 HT.out.2
    clear g3
    have c0 := HH.out.cell 0 (v := .slice (some ⟨g, 0, none⟩) n c) rfl
    by_cases hlt : k < n
    · have HS : Aside0 (wsAll f tub (k + 1) = ws1 (wsAll f tub k).1 (25 * k) (wsAll f tub k).2 8) := ⟨rfl⟩
      have HGK1 := Aside0.mk (HGK.out k hlt)
      generalize (wsAll f tub k).1 = F at *
      generalize (wsAll f tub k).2 = L at *
      obtain ⟨wo, rfl⟩ : ∃ wo : World, wo = wr := ⟨_, rfl⟩
      go_wp2
      clear c0
      go_loopw [3, 5] (fun v3 v5 w' => ∃ j : Nat, j ≤ 8 ∧ v3 = .int .i64 (ws1 F (25 * k) L j).2 ∧ v5 = .int .i64 (7 - (j : Int)) ∧ Aside0 (Rw w' g n (ws1 F (25 * k) L j).1) ∧ Aside0 (Blk w' hb 40 (hcells (some ⟨g, 0, none⟩) n c tub every today)) ∧ Aside0 (w.grownBy w' (some g))) (fun _ v5 _ => (intOf v5 + 1).toNat)
      case atStart => exact ⟨0, by omega, rfl, rfl, HA, HH, HW⟩
      case round =>
        clear HA HH HW
        obtain ⟨j, hj, rfl, rfl, HA, HH, HW⟩ := hrel
        by_cases h8 : j = 8
        · have HS2 : Aside0 (wsAll f tub (k + 1) = ws1 F (25 * k) L j) := ⟨by rw [HS.out, h8]⟩
          have ek : (7 - (j : Int)) = -1 := by omega
          obtain ⟨g5, g6, g7⟩ := HGK1.out.ws1 g2 j hj
          rw [ek]
          generalize ws1 F (25 * k) L j = T at *
          clear h8 ek g5
          go_wp2
          go_roundw
          case rel => exact ⟨k + 1, by omega, by rw [HS2.out], by go_num, ⟨by rw [HS2.out]; exact HA.out⟩, HH, HW⟩
          case measure => simp [intOf] <;> omega
        · have HT1 : Aside0 (ws1 F (25 * k) L (j + 1) = (wsF (ws1 F (25 * k) L j).1 (25 * k) (7 - j) (wsN (ws1 F (25 * k) L j).1 (25 * k) (7 - j) (ws1 F (25 * k) L j).2), (ws1 F (25 * k) L j).2 - wsN (ws1 F (25 * k) L j).1 (25 * k) (7 - j) (ws1 F (25 * k) L j).2)) := ⟨rfl⟩
          obtain ⟨g5, g6, g7⟩ := HGK1.out.ws1 g2 j hj
          have HG2 := Aside0.mk g5
          have g8 : (ws1 F (25 * k) L j).2 ≤ 1000 := Int.le_trans g7 g4
          clear g5 g7
          generalize (ws1 F (25 * k) L j).1 = f2 at *
          generalize (ws1 F (25 * k) L j).2 = N at *
          obtain ⟨u, hu⟩ : ∃ u, 7 - j = u := ⟨_, rfl⟩
          rw [hu] at HT1
          have ek : (7 - (j : Int)) = (u : Int) := by omega
          have hu8 : u < 8 := by omega
          have hu9 : (u : Int) < 8 := by omega
          have HJ8 : Aside0 (j + 1 ≤ 8) := ⟨by omega⟩
          rw [ek]
          have HE := Aside0.mk ek
          clear hu h8 hj ek
          have HM : Aside0 (wsN f2 (25 * k) u N = min N (f2 (25 * k + (16 + u)))) := ⟨rfl⟩
          obtain ⟨t1, t2, t3⟩ := wsN_le (u := u) (left := N) (HG2.out.1 (16 + u) (by omega)) g6
          have t4 := HG2.out.le (i := 16 + u) (by omega)
          have t5 := HG2.out.1 (16 + u) (by omega)
          have t6 := HG2.out.two (i := 16 + u) (j := u) (by omega) (by omega) (by omega)
          have t7 := HG2.out.1 u (by omega)
          generalize wsN f2 (25 * k) u N = z at *
          have HF2 : Aside0 (wsF f2 (25 * k) u z = upd (upd f2 (25 * k + (16 + u)) (f2 (25 * k + (16 + u)) - z)) (25 * k + u) (f2 (25 * k + u) + z)) := ⟨rfl⟩
          have c1 := HA.out.num (o := 25 * k) (u := 16 + u) (j := k * 25 + 16 + u) rfl hlt (by omega) (by omega)
          obtain ⟨x, HX⟩ : ∃ x, Aside0 (f2 (25 * k + (16 + u)) = x) := ⟨_, ⟨rfl⟩⟩
          rw [HX.out] at HM t2 t4 t5 t6 c1 HF2
          obtain ⟨y, HY⟩ : ∃ y, Aside0 (f2 (25 * k + u) = y) := ⟨_, ⟨rfl⟩⟩
          rw [HY.out] at t6 t7 HF2
          have c0 := HH.out.cell 0 (v := .slice (some ⟨g, 0, none⟩) n c) rfl
          go_wp2_with (go_at_call 114; refine (spec_l00Min.calls _ _ z _ (by rw [min_f, ← HM.out])).mono ?_; rintro e w2 ⟨rfl, hd⟩; have HA2 := Aside0.mk (HA.out.drawn hd); have HW2 := Aside0.mk (grown_drawn HW.out hd); have HH2 := Aside0.mk (HH.out.below (Drawn0.below hd)); clear hd HA HW HH c0; have c0 := HH2.out.cell 0 (v := .slice (some ⟨g, 0, none⟩) n c) rfl)
          refine seq_region 16 (by kernel_rfl) (by kernel_rfl) (fun w3 hw_ => ?_)
          have HA1 : Aside0 (Rw w3 g n f2) := ⟨by rw [hw_]; exact HA2.out.drew⟩
          have HW1 : Aside0 (w.grownBy w3 (some g)) := ⟨by rw [hw_]; exact grown_drew HW2.out⟩
          have HH1 : Aside0 (Blk w3 hb 40 (hcells (some ⟨g, 0, none⟩) n c tub every today)) := ⟨by rw [hw_]; exact HH2.out.drew⟩
          clear hw_ HA2 HW2 HH2 c0 c1
          have c0 := HH1.out.cell 0 (v := .slice (some ⟨g, 0, none⟩) n c) rfl
          have c1 := HA1.out.num (o := 25 * k) (u := 16 + u) (j := k * 25 + 16 + u) rfl hlt (by omega) (by omega)
          rw [HX.out] at c1
          have d1 := HA1.out.frozen (k * 25 + 16 + u)
          simp only [List.take_succ_cons, List.take_zero, List.drop_succ_cons, List.drop_zero]
          repeat still_step
          try refine wpStill_nil ?_
          go_wp2
          refine seq_region 16 (by kernel_rfl) (by kernel_rfl) (fun w4 hw_ => ?_)
          have HA3 : Aside0 (Rw w4 g n (upd f2 (25 * k + (16 + u)) (x - z))) := ⟨by rw [hw_]; exact (HA1.out.setNum rfl hlt (by omega) (by omega) _).drew⟩
          have HW3 : Aside0 (w.grownBy w4 (some g)) := ⟨by rw [hw_]; exact grown_drew (grown_setn HW1.out _ _)⟩
          have HH3 : Aside0 (Blk w4 hb 40 (hcells (some ⟨g, 0, none⟩) n c tub every today)) := ⟨by rw [hw_]; exact (blk_other HH1.out (Ne.symm HNE.out)).drew⟩
          clear hw_ HA1 HW1 HH1 c0 c1 d1
          have c0 := HH3.out.cell 0 (v := .slice (some ⟨g, 0, none⟩) n c) rfl
          have c4 := HA3.out.num (o := 25 * k) (u := u) (j := k * 25 + u) rfl hlt (by omega) (by omega)
          rw [upd_ne (by omega), HY.out] at c4
          have d3 := HA3.out.frozen (k * 25 + u)
          simp only [List.take_succ_cons, List.take_zero, List.drop_succ_cons, List.drop_zero]
          repeat still_step
          try refine wpStill_nil ?_
          go_wp2
          go_roundw
          case rel => exact ⟨j + 1, HJ8.out, by rw [HT1.out], by (try rfl) <;> (congr 1; have := HE.out; omega), ⟨by rw [HT1.out, HF2.out]; exact HA3.out.setNum rfl hlt (by omega) (by omega) _⟩, ⟨blk_other HH3.out (Ne.symm HNE.out)⟩, ⟨grown_setn HW3.out _ _⟩⟩
          case measure => simp [intOf] <;> omega
    · obtain rfl : k = n := by omega
      have c1 := HH.out.cell 1 (v := .int .i16 tub) rfl
      obtain ⟨T, hT⟩ : ∃ T, wsAll f tub k = T := ⟨_, rfl⟩
      rw [hT] at HA g2 g4 ⊢
      have HT3 := Aside0.mk hT
      clear hT
      go_wp2
      go_ret
      exact ⟨by rw [HT3.out]; rfl, by rw [HT3.out]; exact HA.out, HW.out⟩
set_option maxHeartbeats 8000000 in
set_option maxRecDepth 100000 in
theorem wash_calls (f : Nat → Int) (n c g hb : Nat) (tub every today : Int) (hn : n ≤ 4) (hG : Fine f n) (ht : 0 ≤ tub ∧ tub ≤ 1000) (hne : hb ≠ g) (w : World) (hH : Blk w hb 40 (hcells (some ⟨g, 0, none⟩) n c tub every today)) (hB : Rw w g n f) :
    Calls Try.prog 97 #[.pointer (some ⟨hb, 0, none⟩)] w fun e w' => e = .returned (.int .i64 (tub - (wsAll f tub n).2)) ∧ Rw w' g n (wsAll f tub n).1 ∧ w.grownBy w' (some g) := by
  have HG := Aside0.mk hG
  have HB := Aside0.mk hB
  have HH := Aside0.mk hH
  have HT := Aside0.mk ht
  have HNE := Aside0.mk hne
  obtain ⟨ht1, ht2⟩ := ht
  have c0 := hH.cell 0 (v := .slice (some ⟨g, 0, none⟩) n c) rfl
  have c1 := hH.cell 1 (v := .int .i16 tub) rfl
  clear hG hB hH hne
  go_enter Try.func97, Try.ntmps97
  go_wp2
  clear c0 c1
  go_loopw [3, 17] (fun v3 v4 w' => ∃ k : Nat, k ≤ n ∧ v3 = .int .i16 (wsAll f tub k).2 ∧ v4 = .int .i64 k ∧ Aside0 (Rw w' g n (wsAll f tub k).1) ∧ Aside0 (Blk w' hb 40 (hcells (some ⟨g, 0, none⟩) n c tub every today)) ∧ Aside0 (w.grownBy w' (some g))) (fun _ v4 _ => n - (intOf v4).toNat)
  case atStart => exact ⟨0, by omega, rfl, rfl, HB, HH, ⟨World.grownBy.refl _ _⟩⟩
  case round =>
    clear HB HH
    obtain ⟨k, hk, rfl, rfl, HA, HH, HW⟩ := hrel
    obtain ⟨g1, g2, g3⟩ := HG.out.wsAll HT.out.1 k hk
    have HGK := Aside0.mk g1
    clear g1
    have g4 : (wsAll f tub k).2 ≤ 1000 := Int.le_trans g3 HT.out.2
    clear g3
    have c0 := HH.out.cell 0 (v := .slice (some ⟨g, 0, none⟩) n c) rfl
    by_cases hlt : k < n
    · have HS : Aside0 (wsAll f tub (k + 1) = ws1 (wsAll f tub k).1 (25 * k) (wsAll f tub k).2 8) := ⟨rfl⟩
      have HGK1 := Aside0.mk (HGK.out k hlt)
      generalize (wsAll f tub k).1 = F at *
      generalize (wsAll f tub k).2 = L at *
      obtain ⟨wo, rfl⟩ : ∃ wo : World, wo = wr := ⟨_, rfl⟩
      go_wp2
      clear c0
      go_loopw [3, 6] (fun v3 v5 w' => ∃ j : Nat, j ≤ 8 ∧ v3 = .int .i16 (ws1 F (25 * k) L j).2 ∧ v5 = .int .i64 (7 - (j : Int)) ∧ Aside0 (Rw w' g n (ws1 F (25 * k) L j).1) ∧ Aside0 (Blk w' hb 40 (hcells (some ⟨g, 0, none⟩) n c tub every today)) ∧ Aside0 (w.grownBy w' (some g))) (fun _ v5 _ => (intOf v5 + 1).toNat)
      case atStart => exact ⟨0, by omega, rfl, rfl, HA, HH, HW⟩
      case round =>
        clear HA HH HW
        obtain ⟨j, hj, rfl, rfl, HA, HH, HW⟩ := hrel
        by_cases h8 : j = 8
        · have HS2 : Aside0 (wsAll f tub (k + 1) = ws1 F (25 * k) L j) := ⟨by rw [HS.out, h8]⟩
          have ek : (7 - (j : Int)) = -1 := by omega
          obtain ⟨g5, g6, g7⟩ := HGK1.out.ws1 g2 j hj
          rw [ek]
          generalize ws1 F (25 * k) L j = T at *
          clear h8 ek g5
          go_wp2
          go_roundw
          case rel => exact ⟨k + 1, by omega, by rw [HS2.out], by go_num, ⟨by rw [HS2.out]; exact HA.out⟩, HH, HW⟩
          case measure => simp [intOf] <;> omega
        · have HT1 : Aside0 (ws1 F (25 * k) L (j + 1) = (wsF (ws1 F (25 * k) L j).1 (25 * k) (7 - j) (wsN (ws1 F (25 * k) L j).1 (25 * k) (7 - j) (ws1 F (25 * k) L j).2), (ws1 F (25 * k) L j).2 - wsN (ws1 F (25 * k) L j).1 (25 * k) (7 - j) (ws1 F (25 * k) L j).2)) := ⟨rfl⟩
          obtain ⟨g5, g6, g7⟩ := HGK1.out.ws1 g2 j hj
          have HG2 := Aside0.mk g5
          have g8 : (ws1 F (25 * k) L j).2 ≤ 1000 := Int.le_trans g7 g4
          clear g5 g7
          generalize (ws1 F (25 * k) L j).1 = f2 at *
          generalize (ws1 F (25 * k) L j).2 = N at *
          obtain ⟨u, hu⟩ : ∃ u, 7 - j = u := ⟨_, rfl⟩
          rw [hu] at HT1
          have ek : (7 - (j : Int)) = (u : Int) := by omega
          have hu8 : u < 8 := by omega
          have hu9 : (u : Int) < 8 := by omega
          have HJ8 : Aside0 (j + 1 ≤ 8) := ⟨by omega⟩
          rw [ek]
          have HE := Aside0.mk ek
          clear hu h8 hj ek
          have HM : Aside0 (wsN f2 (25 * k) u N = min N (f2 (25 * k + (16 + u)))) := ⟨rfl⟩
          obtain ⟨t1, t2, t3⟩ := wsN_le (u := u) (left := N) (HG2.out.1 (16 + u) (by omega)) g6
          have t4 := HG2.out.le (i := 16 + u) (by omega)
          have t5 := HG2.out.1 (16 + u) (by omega)
          have t6 := HG2.out.two (i := 16 + u) (j := u) (by omega) (by omega) (by omega)
          have t7 := HG2.out.1 u (by omega)
          generalize wsN f2 (25 * k) u N = z at *
          have HF2 : Aside0 (wsF f2 (25 * k) u z = upd (upd f2 (25 * k + (16 + u)) (f2 (25 * k + (16 + u)) - z)) (25 * k + u) (f2 (25 * k + u) + z)) := ⟨rfl⟩
          have c1 := HA.out.num (o := 25 * k) (u := 16 + u) (j := k * 25 + 16 + u) rfl hlt (by omega) (by omega)
          obtain ⟨x, HX⟩ : ∃ x, Aside0 (f2 (25 * k + (16 + u)) = x) := ⟨_, ⟨rfl⟩⟩
          rw [HX.out] at HM t2 t4 t5 t6 c1 HF2
          obtain ⟨y, HY⟩ : ∃ y, Aside0 (f2 (25 * k + u) = y) := ⟨_, ⟨rfl⟩⟩
          rw [HY.out] at t6 t7 HF2
          have c0 := HH.out.cell 0 (v := .slice (some ⟨g, 0, none⟩) n c) rfl
          have hm : (if x < N then x else N) = z := by rw [HM.out]; omega
          have hm2 : (if N < x then N else x) = z := by rw [HM.out]; omega
          go_wp2_with fail
          refine seq_region 11 (by kernel_rfl) (by kernel_rfl) (fun w3 hw_ => ?_)
          have HA1 : Aside0 (Rw w3 g n f2) := ⟨by rw [hw_]; exact HA.out.drew⟩
          have HW1 : Aside0 (w.grownBy w3 (some g)) := ⟨by rw [hw_]; exact grown_drew HW.out⟩
          have HH1 : Aside0 (Blk w3 hb 40 (hcells (some ⟨g, 0, none⟩) n c tub every today)) := ⟨by rw [hw_]; exact HH.out.drew⟩
          clear hw_ HA HW HH c0 c1
          have c0 := HH1.out.cell 0 (v := .slice (some ⟨g, 0, none⟩) n c) rfl
          have c1 := HA1.out.num (o := 25 * k) (u := 16 + u) (j := k * 25 + 16 + u) rfl hlt (by omega) (by omega)
          rw [HX.out] at c1
          have d1 := HA1.out.frozen (k * 25 + 16 + u)
          simp only [List.take_succ_cons, List.take_zero, List.drop_succ_cons, List.drop_zero]
          repeat still_step
          try refine wpStill_nil ?_
          go_wp2
          refine seq_region 11 (by kernel_rfl) (by kernel_rfl) (fun w4 hw_ => ?_)
          have HA3 : Aside0 (Rw w4 g n (upd f2 (25 * k + (16 + u)) (x - z))) := ⟨by rw [hw_]; exact (HA1.out.setNum rfl hlt (by omega) (by omega) _).drew⟩
          have HW3 : Aside0 (w.grownBy w4 (some g)) := ⟨by rw [hw_]; exact grown_drew (grown_setn HW1.out _ _)⟩
          have HH3 : Aside0 (Blk w4 hb 40 (hcells (some ⟨g, 0, none⟩) n c tub every today)) := ⟨by rw [hw_]; exact (blk_other HH1.out (Ne.symm HNE.out)).drew⟩
          clear hw_ HA1 HW1 HH1 c0 c1 d1
          have c0 := HH3.out.cell 0 (v := .slice (some ⟨g, 0, none⟩) n c) rfl
          have c4 := HA3.out.num (o := 25 * k) (u := u) (j := k * 25 + u) rfl hlt (by omega) (by omega)
          rw [upd_ne (by omega), HY.out] at c4
          have d3 := HA3.out.frozen (k * 25 + u)
          simp only [List.take_succ_cons, List.take_zero, List.drop_succ_cons, List.drop_zero]
          repeat still_step
          try refine wpStill_nil ?_
          go_wp2
          go_roundw
          case rel => exact ⟨j + 1, HJ8.out, by rw [HT1.out], by (try rfl) <;> (congr 1; have := HE.out; omega), ⟨by rw [HT1.out, HF2.out]; exact HA3.out.setNum rfl hlt (by omega) (by omega) _⟩, ⟨blk_other HH3.out (Ne.symm HNE.out)⟩, ⟨grown_setn HW3.out _ _⟩⟩
          case measure => simp [intOf] <;> omega
    · obtain rfl : k = n := by omega
      have c1 := HH.out.cell 1 (v := .int .i16 tub) rfl
      obtain ⟨T, hT⟩ : ∃ T, wsAll f tub k = T := ⟨_, rfl⟩
      rw [hT] at HA g2 g4 ⊢
      have HT3 := Aside0.mk hT
      clear hT
      go_wp2
      go_ret
      exact ⟨by rw [HT3.out]; rfl, by rw [HT3.out]; exact HA.out, HW.out⟩
end Go.Proofs.Ytjmnbikaijphlaa.X
