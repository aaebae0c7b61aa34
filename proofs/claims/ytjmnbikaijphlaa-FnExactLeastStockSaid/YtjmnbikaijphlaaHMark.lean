/- Contracts of functions, and plain facts: what each call answers, and what it leaves as it was. -/
import Derived.Test.YtjmnbikaijphlaaHTo
set_option linter.unusedVariables false
set_option linter.unusedSimpArgs false
namespace Go.Proofs.Ytjmnbikaijphlaa.X
open Go.RowKit Go.Proofs.YtjmnbikaijphlaaW.PrintWords Go.Proofs.YtjmnbikaijphlaaW.PrintLast Go.Proofs.YtjmnbikaijphlaaW.PrintMore
attribute [local go_sem] max2_int min2_int max_two min_two max_three min_three max_four min_four
set_option maxHeartbeats 8000000 in
set_option maxRecDepth 100000 in
theorem markStockS_calls (n c g : Nat) (F : Nat → Int) (k : Int) (hk : 0 ≤ k ∧ k ≤ 1000000) (hn : n ≤ 1048576) (w : World) (hR : Rw w g n F) :
    Calls Try.prog 80 #[.slice (some ⟨g, 0, none⟩) n c, .int .i64 k] w fun e w' => e = .returned (.int .i64 (k + ((25 * n : Nat) : Int))) ∧ Rw w' g n (markTo F k (25 * n)) ∧ w.grownBy w' (some g) := by
  obtain ⟨hk1, hk2⟩ := hk
  have HR0 : Aside0 (Rw w g n (markTo F k (25 * 0))) := ⟨by rw [Nat.mul_zero, markTo_zero]; exact hR⟩
  clear hR
  go_enter Try.func80, Try.ntmps80
  go_wp2
  go_loopw [1, 5] (fun v1 v5 w' => ∃ q : Nat, q ≤ n ∧ v1 = .int .i64 (k + ((25 * q : Nat) : Int)) ∧ v5 = .int .i64 q ∧ Aside0 (Rw w' g n (markTo F k (25 * q))) ∧ Aside0 (w.grownBy w' (some g))) (fun _ v5 _ => n - (intOf v5).toNat)
  case atStart => exact ⟨0, by omega, by simp, rfl, HR0, ⟨World.grownBy.refl _ _⟩⟩
  case round =>
    clear HR0
    obtain ⟨q, hq, rfl, rfl, HR, HW⟩ := hrel
    by_cases hlt : q < n
    · obtain ⟨wo, rfl⟩ : ∃ wo : World, wo = wr := ⟨_, rfl⟩
      have hm0 : (((25 * q : Nat)) : Int) ≤ 26214400 := by omega
      generalize hmq : 25 * q = mq at hm0 HR ⊢
      go_wp2
      subst hmq
      clear hm0
      go_loopw [1, 6] (fun v1 v6 w' => ∃ j : Nat, j ≤ 8 ∧ v1 = .int .i64 (k + ((25 * q + 0 + j : Nat) : Int)) ∧ v6 = .int .i64 j ∧ Aside0 (Rw w' g n (markTo F k (25 * q + 0 + j))) ∧ Aside0 (w.grownBy w' (some g))) (fun _ v6 _ => 8 - (intOf v6).toNat)
      case atStart => exact ⟨0, by omega, rfl, rfl, HR, HW⟩
      case round =>
        clear HR HW
        obtain ⟨j, hj, rfl, rfl, HR, HW⟩ := hrel
        skip
        by_cases hlt2 : j < 8
        · obtain ⟨m, hm⟩ : ∃ m : Nat, 25 * q + 0 + j = m := ⟨_, rfl⟩
          have hm2 : (m : Int) ≤ 26214400 := by omega
          rw [hm] at HR ⊢
          have d1 := HR.out.frozen (q * 25 + j)
          have c1 := HR.out.num (o := 25 * q) (q := q) (u := 0 + j) (j := q * 25 + j) rfl hlt (by omega) (by omega)
          generalize markTo F k m (25 * q + (0 + j)) = old at *
          have HM := Aside0.mk hm
          have HJ : Aside0 (q * 25 + j = m) := ⟨by omega⟩
          have HI : Aside0 (25 * q + 0 + (j + 1) = m + 1) := ⟨by omega⟩
          clear hm
          go_wp2
          go_roundw
          case rel => exact ⟨j + 1, by omega, by rw [HI.out]; go_num, by go_num, ⟨by rw [HI.out]; exact HR.out.mark16 (q := q) (u := 0 + j) hlt (by omega) (by have := HM.out; omega) HJ.out rfl⟩, ⟨grown_setn HW.out _ _⟩⟩
          case measure => simp [intOf] <;> omega
        · obtain ⟨m, hm⟩ : ∃ m : Nat, 25 * q + 8 = m := ⟨_, rfl⟩
          have hj8 : 25 * q + 0 + j = m := by omega
          have hm2 : (m : Int) ≤ 26214400 := by omega
          rw [hj8] at HR ⊢
          have hjj : (8 : Int) ≤ j := by omega
          clear hj8
          go_wp2
          obtain ⟨wo0, rfl⟩ : ∃ wo0 : World, wo0 = wr := ⟨_, rfl⟩
          go_loopw [1, 7] (fun v1 v6 w' => ∃ j : Nat, j ≤ 8 ∧ v1 = .int .i64 (k + ((25 * q + 8 + j : Nat) : Int)) ∧ v6 = .int .i64 j ∧ Aside0 (Rw w' g n (markTo F k (25 * q + 8 + j))) ∧ Aside0 (w.grownBy w' (some g))) (fun _ v6 _ => 8 - (intOf v6).toNat)
          case atStart => exact ⟨0, by omega, by rw [Nat.add_zero, hm], rfl, ⟨by rw [Nat.add_zero, hm]; exact HR.out⟩, HW⟩
          case round =>
            clear HR HW
            obtain ⟨j, hj, rfl, rfl, HR, HW⟩ := hrel
            skip
            by_cases hlt2 : j < 8
            · obtain ⟨m, hm⟩ : ∃ m : Nat, 25 * q + 8 + j = m := ⟨_, rfl⟩
              have hm2 : (m : Int) ≤ 26214400 := by omega
              rw [hm] at HR ⊢
              have d1 := HR.out.frozen (q * 25 + 8 + j)
              have c1 := HR.out.num (o := 25 * q) (q := q) (u := 8 + j) (j := q * 25 + 8 + j) rfl hlt (by omega) (by omega)
              generalize markTo F k m (25 * q + (8 + j)) = old at *
              have HM := Aside0.mk hm
              have HJ : Aside0 (q * 25 + 8 + j = m) := ⟨by omega⟩
              have HI : Aside0 (25 * q + 8 + (j + 1) = m + 1) := ⟨by omega⟩
              clear hm
              go_wp2
              go_roundw
              case rel => exact ⟨j + 1, by omega, by rw [HI.out]; go_num, by go_num, ⟨by rw [HI.out]; exact HR.out.mark16 (q := q) (u := 8 + j) hlt (by omega) (by have := HM.out; omega) HJ.out rfl⟩, ⟨grown_setn HW.out _ _⟩⟩
              case measure => simp [intOf] <;> omega
            · obtain ⟨m, hm⟩ : ∃ m : Nat, 25 * q + 16 = m := ⟨_, rfl⟩
              have hj8 : 25 * q + 8 + j = m := by omega
              have hm2 : (m : Int) ≤ 26214400 := by omega
              rw [hj8] at HR ⊢
              have hjj : (8 : Int) ≤ j := by omega
              clear hj8
              go_wp2
              obtain ⟨wo8, rfl⟩ : ∃ wo8 : World, wo8 = wr := ⟨_, rfl⟩
              go_loopw [1, 8] (fun v1 v6 w' => ∃ j : Nat, j ≤ 8 ∧ v1 = .int .i64 (k + ((25 * q + 16 + j : Nat) : Int)) ∧ v6 = .int .i64 j ∧ Aside0 (Rw w' g n (markTo F k (25 * q + 16 + j))) ∧ Aside0 (w.grownBy w' (some g))) (fun _ v6 _ => 8 - (intOf v6).toNat)
              case atStart => exact ⟨0, by omega, by rw [Nat.add_zero, hm], rfl, ⟨by rw [Nat.add_zero, hm]; exact HR.out⟩, HW⟩
              case round =>
                clear HR HW
                obtain ⟨j, hj, rfl, rfl, HR, HW⟩ := hrel
                skip
                by_cases hlt2 : j < 8
                · obtain ⟨m, hm⟩ : ∃ m : Nat, 25 * q + 16 + j = m := ⟨_, rfl⟩
                  have hm2 : (m : Int) ≤ 26214400 := by omega
                  rw [hm] at HR ⊢
                  have d1 := HR.out.frozen (q * 25 + 16 + j)
                  have c1 := HR.out.num (o := 25 * q) (q := q) (u := 16 + j) (j := q * 25 + 16 + j) rfl hlt (by omega) (by omega)
                  generalize markTo F k m (25 * q + (16 + j)) = old at *
                  have HM := Aside0.mk hm
                  have HJ : Aside0 (q * 25 + 16 + j = m) := ⟨by omega⟩
                  have HI : Aside0 (25 * q + 16 + (j + 1) = m + 1) := ⟨by omega⟩
                  clear hm
                  go_wp2
                  go_roundw
                  case rel => exact ⟨j + 1, by omega, by rw [HI.out]; go_num, by go_num, ⟨by rw [HI.out]; exact HR.out.mark16 (q := q) (u := 16 + j) hlt (by omega) (by have := HM.out; omega) HJ.out rfl⟩, ⟨grown_setn HW.out _ _⟩⟩
                  case measure => simp [intOf] <;> omega
                · obtain ⟨m, hm⟩ : ∃ m : Nat, 25 * q + 24 = m := ⟨_, rfl⟩
                  have hj8 : 25 * q + 16 + j = m := by omega
                  have hm2 : (m : Int) ≤ 26214400 := by omega
                  rw [hj8] at HR ⊢
                  have hjj : (8 : Int) ≤ j := by omega
                  clear hj8
                  have d1 := HR.out.frozen (q * 25 + 24)
                  have c1 := HR.out.rag (o := 25 * q) (q := q) (j := q * 25 + 24) rfl hlt (by omega)
                  generalize markTo F k m (25 * q + 24) = old at *
                  have HM := Aside0.mk hm
                  have HJ : Aside0 (q * 25 + 24 = m) := ⟨by omega⟩
                  have HI : Aside0 (25 * (q + 1) = m + 1) := ⟨by omega⟩
                  clear hm
                  go_wp2
                  go_roundw
                  case rel => exact ⟨q + 1, by omega, by rw [HI.out]; go_num, by go_num, ⟨by rw [HI.out]; exact HR.out.mark32 (q := q) hlt (by have := HM.out; omega) HJ.out (by first | rfl | exact (IntWalk.i32_in _ ⟨by omega, by omega⟩).symm)⟩, ⟨grown_setn HW.out _ _⟩⟩
                  case measure => simp [intOf] <;> omega
    · obtain rfl : q = n := by omega
      have hm0 : (((25 * q : Nat)) : Int) ≤ 26214400 := by omega
      obtain ⟨mq, hmq⟩ : ∃ mq : Nat, 25 * q = mq := ⟨_, rfl⟩
      rw [hmq] at hm0 HR ⊢
      have HQ := Aside0.mk hmq
      clear hmq
      go_wp2
      go_ret
      exact ⟨by rw [HQ.out]; rfl, by rw [HQ.out]; exact HR.out, HW.out⟩
set_option maxHeartbeats 8000000 in
set_option maxRecDepth 100000 in
theorem markHouse_calls (n c g : Nat) (F : Nat → Int) (tub every today k : Int) (hk : 0 ≤ k ∧ k ≤ 1000000) (hn : n ≤ 1048576) (w : World) (hR : Rw w g n F) :
    Calls Try.prog 34 #[.agg #[.slice (some ⟨g, 0, none⟩) n c, .int .i16 tub, .int .i8 every, .int .i16 today], .int .i64 k] w fun e w' => e = .returned (.int .i64 (k + ((25 * n : Nat) : Int))) ∧ Rw w' g n (markTo F k (25 * n)) ∧ w.grownBy w' (some g) := by
  have HC := Aside0.mk (fun W h => markStockS_calls n c g F k hk hn W h)
  have HR := Aside0.mk hR
  have hm0 : 0 ≤ k + (((25 * n : Nat)) : Int) := by omega
  clear hR hk hn
  generalize k + (((25 * n : Nat)) : Int) = r at *
  go_enter Try.func34, Try.ntmps34
  go_wp2_with (go_at_call 80; refine (HC.out _ (HR.out.alloc _)).mono ?_; rintro e w1 ⟨rfl, hR1, hg⟩; have HR1 := Aside0.mk hR1; have HW1 := Aside0.mk (World.grownBy.trans (World.grownBy_alloc w _ (some g)) hg); clear hR1 hg)
  go_ret
  exact ⟨rfl, HR1.out, HW1.out⟩
set_option maxHeartbeats 8000000 in
set_option maxRecDepth 100000 in
theorem heldStockS_calls (n c g : Nat) (F : Nat → Int) (k : Int) (hk : 0 ≤ k ∧ k ≤ 1000000) (hn : n ≤ 1048576) (w : World) (hR : Rw w g n (markTo F k (25 * n))) :
    Calls Try.prog 81 #[.slice (some ⟨g, 0, none⟩) n c, .int .i64 k] w fun e w' => e = .returned (.int .i64 (k + ((25 * n : Nat) : Int))) ∧ w' = w := by
  obtain ⟨hk1, hk2⟩ := hk
  have HF := Aside0.mk hR
  clear hR
  go_enter Try.func81, Try.ntmps81
  go_wp2
  go_loop [1, 5] (fun v1 v5 => ∃ q : Nat, q ≤ n ∧ v1 = .int .i64 (k + ((25 * q : Nat) : Int)) ∧ v5 = .int .i64 q) (fun _ v5 => n - (intOf v5).toNat)
  case atStart => exact ⟨0, by omega, by simp, rfl⟩
  case round =>
    skip
    obtain ⟨q, hq, rfl, rfl⟩ := hrel
    by_cases hlt : q < n
    · skip
      have hm0 : (((25 * q : Nat)) : Int) ≤ 26214400 := by omega
      generalize hmq : 25 * q = mq at hm0  ⊢
      go_wp2
      subst hmq
      clear hm0
      go_loop [1, 6] (fun v1 v6 => ∃ j : Nat, j ≤ 8 ∧ v1 = .int .i64 (k + ((25 * q + 0 + j : Nat) : Int)) ∧ v6 = .int .i64 j) (fun _ v6 => 8 - (intOf v6).toNat)
      case atStart => exact ⟨0, by omega, rfl, rfl⟩
      case round =>
        skip
        obtain ⟨j, hj, rfl, rfl⟩ := hrel
        skip
        by_cases hlt2 : j < 8
        · obtain ⟨m, hm⟩ : ∃ m : Nat, 25 * q + 0 + j = m := ⟨_, rfl⟩
          have hm2 : (m : Int) ≤ 26214400 := by omega
          rw [hm]
          have c1 := HF.out.num (o := 25 * q) (q := q) (u := 0 + j) (j := q * 25 + j) rfl hlt (by omega) (by omega)
          have HX : Aside0 (markTo F k (25 * n) (25 * q + (0 + j)) = IntKind.i16.wrap (k + m)) := ⟨by rw [markTo, if_pos (by omega), kd_num (by omega), ← hm, Nat.add_assoc]⟩
          rw [HX.out] at c1
          have HI : Aside0 (25 * q + 0 + (j + 1) = m + 1) := ⟨by omega⟩
          clear hm
          go_wp2
          go_round
          case rel => exact ⟨j + 1, by omega, by rw [HI.out]; go_num, by go_num⟩
          case measure => simp [intOf] <;> omega
        · obtain ⟨m, hm⟩ : ∃ m : Nat, 25 * q + 8 = m := ⟨_, rfl⟩
          have hj8 : 25 * q + 0 + j = m := by omega
          have hm2 : (m : Int) ≤ 26214400 := by omega
          rw [hj8] 
          have hjj : (8 : Int) ≤ j := by omega
          clear hj8
          go_wp2
          go_loop [1, 7] (fun v1 v6 => ∃ j : Nat, j ≤ 8 ∧ v1 = .int .i64 (k + ((25 * q + 8 + j : Nat) : Int)) ∧ v6 = .int .i64 j) (fun _ v6 => 8 - (intOf v6).toNat)
          case atStart => exact ⟨0, by omega, by rw [Nat.add_zero, hm], rfl⟩
          case round =>
            skip
            obtain ⟨j, hj, rfl, rfl⟩ := hrel
            skip
            by_cases hlt2 : j < 8
            · obtain ⟨m, hm⟩ : ∃ m : Nat, 25 * q + 8 + j = m := ⟨_, rfl⟩
              have hm2 : (m : Int) ≤ 26214400 := by omega
              rw [hm]
              have c1 := HF.out.num (o := 25 * q) (q := q) (u := 8 + j) (j := q * 25 + 8 + j) rfl hlt (by omega) (by omega)
              have HX : Aside0 (markTo F k (25 * n) (25 * q + (8 + j)) = IntKind.i16.wrap (k + m)) := ⟨by rw [markTo, if_pos (by omega), kd_num (by omega), ← hm, Nat.add_assoc]⟩
              rw [HX.out] at c1
              have HI : Aside0 (25 * q + 8 + (j + 1) = m + 1) := ⟨by omega⟩
              clear hm
              go_wp2
              go_round
              case rel => exact ⟨j + 1, by omega, by rw [HI.out]; go_num, by go_num⟩
              case measure => simp [intOf] <;> omega
            · obtain ⟨m, hm⟩ : ∃ m : Nat, 25 * q + 16 = m := ⟨_, rfl⟩
              have hj8 : 25 * q + 8 + j = m := by omega
              have hm2 : (m : Int) ≤ 26214400 := by omega
              rw [hj8] 
              have hjj : (8 : Int) ≤ j := by omega
              clear hj8
              go_wp2
              go_loop [1, 8] (fun v1 v6 => ∃ j : Nat, j ≤ 8 ∧ v1 = .int .i64 (k + ((25 * q + 16 + j : Nat) : Int)) ∧ v6 = .int .i64 j) (fun _ v6 => 8 - (intOf v6).toNat)
              case atStart => exact ⟨0, by omega, by rw [Nat.add_zero, hm], rfl⟩
              case round =>
                skip
                obtain ⟨j, hj, rfl, rfl⟩ := hrel
                skip
                by_cases hlt2 : j < 8
                · obtain ⟨m, hm⟩ : ∃ m : Nat, 25 * q + 16 + j = m := ⟨_, rfl⟩
                  have hm2 : (m : Int) ≤ 26214400 := by omega
                  rw [hm]
                  have c1 := HF.out.num (o := 25 * q) (q := q) (u := 16 + j) (j := q * 25 + 16 + j) rfl hlt (by omega) (by omega)
                  have HX : Aside0 (markTo F k (25 * n) (25 * q + (16 + j)) = IntKind.i16.wrap (k + m)) := ⟨by rw [markTo, if_pos (by omega), kd_num (by omega), ← hm, Nat.add_assoc]⟩
                  rw [HX.out] at c1
                  have HI : Aside0 (25 * q + 16 + (j + 1) = m + 1) := ⟨by omega⟩
                  clear hm
                  go_wp2
                  go_round
                  case rel => exact ⟨j + 1, by omega, by rw [HI.out]; go_num, by go_num⟩
                  case measure => simp [intOf] <;> omega
                · obtain ⟨m, hm⟩ : ∃ m : Nat, 25 * q + 24 = m := ⟨_, rfl⟩
                  have hj8 : 25 * q + 16 + j = m := by omega
                  have hm2 : (m : Int) ≤ 26214400 := by omega
                  rw [hj8] 
                  have hjj : (8 : Int) ≤ j := by omega
                  clear hj8
                  have c1 := HF.out.rag (o := 25 * q) (q := q) (j := q * 25 + 24) rfl hlt (by omega)
                  have HX : Aside0 (markTo F k (25 * n) (25 * q + 24) = IntKind.i32.wrap (k + m)) := ⟨by rw [markTo, if_pos (by omega), kd_rag, ← hm]⟩
                  rw [HX.out] at c1
                  have HM := Aside0.mk hm
                  have HJ : Aside0 (q * 25 + 24 = m) := ⟨by omega⟩
                  have HI : Aside0 (25 * (q + 1) = m + 1) := ⟨by omega⟩
                  clear hm
                  go_wp2
                  go_round
                  case rel => exact ⟨q + 1, by omega, by rw [HI.out]; go_num, by go_num⟩
                  case measure => simp [intOf] <;> omega
    · obtain rfl : q = n := by omega
      have hm0 : (((25 * q : Nat)) : Int) ≤ 26214400 := by omega
      obtain ⟨mq, hmq⟩ : ∃ mq : Nat, 25 * q = mq := ⟨_, rfl⟩
      rw [hmq] at hm0  ⊢
      have HQ := Aside0.mk hmq
      clear hmq
      go_wp2
      go_ret
      exact ⟨by first | (rw [HQ.out]; rfl) | (have h_ := HQ.out; subst h_; show Ending.returned (Value.int .i64 (k + ((25 * q : Nat) : Int))) = _; simp), rfl⟩
set_option maxHeartbeats 8000000 in
set_option maxRecDepth 100000 in
theorem heldHouse_calls (n c g : Nat) (F : Nat → Int) (tub every today k : Int) (hk : 0 ≤ k ∧ k ≤ 1000000) (hn : n ≤ 1048576) (w : World) (hR : Rw w g n (markTo F k (25 * n))) :
    Calls Try.prog 35 #[.agg #[.slice (some ⟨g, 0, none⟩) n c, .int .i16 tub, .int .i8 every, .int .i16 today], .int .i64 k] w fun e w' => e = .returned (.int .i64 (k + ((25 * n : Nat) : Int))) ∧ Below w.heap.size w w' := by
  have HC := Aside0.mk (fun W h => heldStockS_calls n c g F k hk hn W h)
  have HR := Aside0.mk hR
  have hm0 : 0 ≤ k + (((25 * n : Nat)) : Int) := by omega
  clear hR hk hn
  generalize k + (((25 * n : Nat)) : Int) = r at *
  go_enter Try.func35, Try.ntmps35
  go_wp2_with (go_at_call 81; refine (HC.out _ (HR.out.alloc _)).mono ?_; rintro e w1 ⟨rfl, rfl⟩)
  go_ret
  exact ⟨rfl, by repeat (first | exact Below.refl _ _ | apply below_alloc)⟩
end Go.Proofs.Ytjmnbikaijphlaa.X
