/- Contracts of functions, and plain facts: what each call answers, and what it leaves as it was. -/
import Derived.Test.YtddlhjhnnmkgaaaDoorNum
import Derived.Test.YtddlhjhnnmkgaaaDoorStk
set_option linter.unusedVariables false
set_option linter.unusedSimpArgs false
namespace Go.Proofs.YtddlhjhnnmkgaaaDoor.X
open Go.RowKit Go.Proofs.YtddlhjhnnmkgaaaDoorW.PrintWords Go.Proofs.YtddlhjhnnmkgaaaDoorW.PrintLast Go.Proofs.YtddlhjhnnmkgaaaDoorW.PrintMore
attribute [local go_sem] max2_int min2_int max_two min_two max_three min_three max_four min_four
set_option maxHeartbeats 8000000 in
set_option maxRecDepth 100000 in
theorem l05Pieces_calls (K : List Int) (hK : K.length = 24) (r : Int) (hR : stkR K r) (g : Nat) (w : World) (hB : Blk w g 44 (stk K r)) :
    Calls Tryd.prog 32 #[.pointer (some ⟨g, 0, none⟩)] w fun e w' => e = .returned (.tuple #[.int .i64 (sumP K r 8), .bool (fineP K r 8)]) ∧ Below w.heap.size w w' := by
  have HR := Aside0.mk hR
  have HK := Aside0.mk hK
  have HB0 := Aside0.mk hB
  have c0 := hB.cell 24 (stk_rag hK r)
  have ir : IntKind.i64.wrap r = r := IntWalk.i64_in _ ⟨by have := hR.2; omega, by have := hR.2; omega⟩
  clear hB hK hR
  go_enter Tryd.func32, Tryd.ntmps32
  go_wp2
  go_loopw [4, 5, 6] (fun v4 v5 v6 w' => ∃ q : Nat, q ≤ 8 ∧ v4 = .int .i64 (sumP K r q) ∧ v5 = .bool (fineP K r q) ∧ v6 = .int .i64 q ∧ Aside0 (Blk w' g 44 (stk K r)) ∧ Aside0 (Below w.heap.size w w')) (fun _ _ v6 _ => 8 - (intOf v6).toNat)
  case atStart => exact ⟨0, by omega, rfl, rfl, rfl, HB0, ⟨Below.refl _ _⟩⟩
  case round =>
    clear c0 HB0 ir
    obtain ⟨q, hq, rfl, rfl, rfl, HA, HW⟩ := hrel
    by_cases hlt : q < 8
    · have c0 := HA.out.cell q (stk_get HK.out r (i := q) (by omega))
      have c1 := HA.out.cell (8 + q) (stk_get HK.out r (i := 8 + q) (by omega))
      have c2 := HA.out.cell (16 + q) (stk_get HK.out r (i := 16 + q) (by omega))
      have HS : Aside0 (sumP K r (q + 1) = sumP K r q + (K.getD q 0 + K.getD (8 + q) 0 + K.getD (16 + q) 0)) := ⟨rfl⟩
      have HF : Aside0 (fineP K r (q + 1) = (fineP K r q && decide (0 ≤ K.getD q 0) && decide (0 ≤ K.getD (8 + q) 0) && decide (0 ≤ K.getD (16 + q) 0))) := ⟨rfl⟩
      have hx := HR.out.1 q
      have hy := HR.out.1 (8 + q)
      have hz := HR.out.1 (16 + q)
      have hs := sumP_range HR.out q
      have hs2 : -2147483648 - 98304 * 8 ≤ sumP K r q ∧ sumP K r q ≤ 2147483647 + 98304 * 8 := by omega
      clear hs
      generalize sumP K r q = s at *
      generalize fineP K r q = f at *
      generalize K.getD q 0 = x at *
      generalize K.getD (8 + q) 0 = y at *
      generalize K.getD (16 + q) 0 = z at *
      have i0 : IntKind.i64.wrap x = x := IntWalk.i64_in _ ⟨by omega, by omega⟩
      have i1 : IntKind.i64.wrap y = y := IntWalk.i64_in _ ⟨by omega, by omega⟩
      have i2 : IntKind.i64.wrap z = z := IntWalk.i64_in _ ⟨by omega, by omega⟩
      have s1 : IntKind.i64.wrap (x + y) = x + y := IntWalk.i64_in _ ⟨by omega, by omega⟩
      have s2 : IntKind.i64.wrap (x + y + z) = x + y + z := IntWalk.i64_in _ ⟨by omega, by omega⟩
      have s3 : IntKind.i64.wrap (s + (x + y + z)) = s + (x + y + z) := IntWalk.i64_in _ ⟨by omega, by omega⟩
      obtain ⟨fx, hfx⟩ : ∃ b, decide (0 ≤ x) = b := ⟨_, rfl⟩
      obtain ⟨fy, hfy⟩ : ∃ b, decide (0 ≤ y) = b := ⟨_, rfl⟩
      obtain ⟨fz, hfz⟩ : ∃ b, decide (0 ≤ z) = b := ⟨_, rfl⟩
      rw [hfx, hfy, hfz] at HF
      have hfx' : decide (x ≥ 0) = fx := hfx
      have hfy' : decide (y ≥ 0) = fy := hfy
      have hfz' : decide (z ≥ 0) = fz := hfz
      clear hx hy hz hs2
      cases f
      · go_wp2_with fail
        go_region_held3 (fun w' => w'.cell? ⟨g, q, none⟩ = some (.int .i16 x) ∧ w'.cell? ⟨g, 8 + q, none⟩ = some (.int .i16 y) ∧ w'.cell? ⟨g, 16 + q, none⟩ = some (.int .i16 z)) (go_keep) ((fail))
        go_wp2
        go_roundw
        case rel => exact ⟨q + 1, by omega, by rw [HS.out], by rw [HF.out]; rfl, by go_num, ⟨by repeat (first | exact HA.out | apply Blk.drewN | apply Blk.drew)⟩, ⟨by repeat (first | exact HW.out | apply pw_below_drewN | apply below_drew)⟩⟩
        case measure => simp [intOf] <;> omega
      · cases fx
        · go_wp2_with fail
          go_region_held3 (fun w' => w'.cell? ⟨g, q, none⟩ = some (.int .i16 x) ∧ w'.cell? ⟨g, 8 + q, none⟩ = some (.int .i16 y) ∧ w'.cell? ⟨g, 16 + q, none⟩ = some (.int .i16 z)) (go_keep) ((fail))
          go_wp2
          go_roundw
          case rel => exact ⟨q + 1, by omega, by rw [HS.out], by rw [HF.out]; rfl, by go_num, ⟨by repeat (first | exact HA.out | apply Blk.drewN | apply Blk.drew)⟩, ⟨by repeat (first | exact HW.out | apply pw_below_drewN | apply below_drew)⟩⟩
          case measure => simp [intOf] <;> omega
        · cases fy
          · go_wp2_with fail
            go_region_held3 (fun w' => w'.cell? ⟨g, q, none⟩ = some (.int .i16 x) ∧ w'.cell? ⟨g, 8 + q, none⟩ = some (.int .i16 y) ∧ w'.cell? ⟨g, 16 + q, none⟩ = some (.int .i16 z)) (go_keep) ((fail))
            go_wp2
            go_roundw
            case rel => exact ⟨q + 1, by omega, by rw [HS.out], by rw [HF.out]; rfl, by go_num, ⟨by repeat (first | exact HA.out | apply Blk.drewN | apply Blk.drew)⟩, ⟨by repeat (first | exact HW.out | apply pw_below_drewN | apply below_drew)⟩⟩
            case measure => simp [intOf] <;> omega
          · go_wp2_with fail
            go_region_held3 (fun w' => w'.cell? ⟨g, q, none⟩ = some (.int .i16 x) ∧ w'.cell? ⟨g, 8 + q, none⟩ = some (.int .i16 y) ∧ w'.cell? ⟨g, 16 + q, none⟩ = some (.int .i16 z)) (go_keep) ((fail))
            go_wp2
            go_roundw
            case rel => exact ⟨q + 1, by omega, by rw [HS.out], by rw [HF.out]; rfl, by go_num, ⟨by repeat (first | exact HA.out | apply Blk.drewN | apply Blk.drew)⟩, ⟨by repeat (first | exact HW.out | apply pw_below_drewN | apply below_drew)⟩⟩
            case measure => simp [intOf] <;> omega
    · obtain rfl : q = 8 := by omega
      go_wp2
      go_ret2
      exact ⟨rfl, HW.out⟩
set_option maxHeartbeats 8000000 in
set_option maxRecDepth 100000 in
theorem l05Stock_calls (K : List Int) (hK : K.length = 24) (r : Int) (hR : stkR K r) (g : Nat) (w : World) (hB : Blk w g 44 (stk K r)) :
    Calls Tryd.prog 17 #[.pointer (some ⟨g, 0, none⟩)] w fun e w' => e = .returned (.bool (stkOk K r)) ∧ Below w.heap.size w w' := by
  have HC := Aside0.mk (fun W h => l05Pieces_calls K hK r hR g W h)
  have HO : Aside0 (stkOk K r = (fineP K r 8 && decide (sumP K r 8 ≤ 500))) := ⟨rfl⟩
  have HB0 := Aside0.mk hB
  generalize stkOk K r = ok at *
  generalize fineP K r 8 = f at *
  generalize sumP K r 8 = s at *
  clear hK hR hB
  cases f
  all_goals
    go_enter Tryd.func17, Tryd.ntmps17
    go_wp2_with (go_at_call 32; refine (HC.out _ HB0.out).mono ?_; rintro e w1 ⟨rfl, hb⟩; have HB1 := Aside0.mk hb; clear hb)
    go_ret
    exact ⟨by rw [HO.out]; rfl, HB1.out⟩
set_option maxHeartbeats 8000000 in
set_option maxRecDepth 100000 in
theorem implVS_calls (K : List Int) (hK : K.length = 24) (r : Int) (hR : stkR K r) (w : World) :
    Calls Tryd.prog 27 #[.agg (stk K r).toArray] w fun e w' => e = .returned (.bool (stkOk K r)) ∧ Below w.heap.size w w' := by
  have HNU : Aside0 (∀ W, Calls Tryd.prog 15 #[.agg (stk K r).toArray] W fun e w' => ∃ A c, e = .returned (.slice A 25 c) ∧ 25 ≤ c ∧ Aside0 (Kd.C (Kd.int .i64) w' A 25 (K ++ [r])) ∧ Below W.heap.size W w') := ⟨fun W => (numbersOf_calls K hK hR.1 r hR.2 W).mono (by
    rintro e w' ⟨v, rfl, h1, hb⟩
    obtain ⟨A, c, rfl, hc, hC⟩ := Kd.R_reads h1
    rw [show (K ++ [r]).length = 25 by simp [hK]] at hc hC ⊢
    exact ⟨A, c, rfl, hc, ⟨hC⟩, hb⟩)⟩
  have HAW : Aside0 (∀ A c W, Kd.C (Kd.int .i64) W A 25 (K ++ [r]) → 25 ≤ c → Calls Tryd.prog 35 #[.slice A 25 c, .int .i64 0, .int .i64 500] W fun e w' => e = .returned (.bool ((K ++ [r]).all fun x => decide (0 ≤ x) && decide (x ≤ 500))) ∧ Below W.heap.size W w') := ⟨fun A c W h1 h2 => by
    have := impl_areWithin.calls A c (K ++ [r]) 0 500 ((K ++ [r]).all fun x => decide (0 ≤ x) && decide (x ≤ 500)) W
    rw [show (K ++ [r]).length = 25 by simp [hK]] at this
    exact this h1 h2 rfl⟩
  have HSM : Aside0 (∀ A c W, Kd.C (Kd.int .i64) W A 25 (K ++ [r]) → 25 ≤ c → Calls Tryd.prog 36 #[.slice A 25 c] W fun e w' => e = .returned (.int .i64 (K ++ [r]).sum) ∧ Below W.heap.size W w') := ⟨fun A c W h1 h2 => by
    have := impl_sum.calls 1001 A c (K ++ [r]) (K ++ [r]).sum W
    rw [show (K ++ [r]).length = 25 by simp [hK]] at this
    exact (this h1 h2 (sum_f _ (by simp [hK]) (row_range hR))).mono (fun e w' h => ⟨h.1, below_drawn h.2⟩)⟩
  have HO := Aside0.mk (stk_ok hK r)
  have HB0 : Aside0 (Blk (w.alloc (.cells (stk K r).toArray 44)) w.heap.size 44 (stk K r)) := ⟨Blk.new w _ _⟩
  have HN : Aside0 ((stk K r).length = 25) := ⟨stk_len hK r⟩
  have HS : Aside0 (((stk K r).drop 0).take 25 = stk K r) := ⟨by rw [List.drop_zero, List.take_of_length_le (by rw [HN.out]; exact Nat.le_refl _)]⟩
  generalize stkOk K r = ok at *
  generalize ((K ++ [r]).all fun x => decide (0 ≤ x) && decide (x ≤ 500)) = f at *
  generalize (K ++ [r]).sum = s at *
  clear hK hR
  cases f
  all_goals
    go_enter Tryd.func27, Tryd.ntmps27
    go_wp2_with (first | (refine wl_load (by rfl) 44 _ (by rfl) w.heap.size 0 (by rfl) 44 25 _ _ HB0.out HS.out HN.out _ Tryd.underlying44 (by rfl) (by kernel_rfl) ?_) | (go_at_call 15; refine (HNU.out _).mono ?_; rintro e w1 ⟨A, c, rfl, hc, HC1, hb⟩; have HB1 := Aside0.mk (below_step (below_alloc (Below.refl w.heap.size w) _) hb); clear hb) | (go_at_call 35; refine (HAW.out _ _ _ HC1.out hc).mono ?_; rintro e w2 ⟨rfl, hb⟩; have HB2 := Aside0.mk (below_step HB1.out hb); have HC2 := Aside0.mk (Kd.C_below HC1.out hb); clear hb HB1 HC1))
    try (refine (HSM.out _ _ _ HC2.out hc).mono ?_; rintro e w3 ⟨rfl, hb⟩; have HB3 := Aside0.mk (below_step HB2.out hb); clear hb; go_wp2)
    go_ret
    first | exact ⟨by rw [← HO.out]; rfl, HB3.out⟩ | exact ⟨by rw [← HO.out]; rfl, HB2.out⟩
end Go.Proofs.YtddlhjhnnmkgaaaDoor.X
