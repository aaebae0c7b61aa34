/- Contracts of functions, and plain facts: what each call answers, and what it leaves as it was. -/
import Derived.Test.YtddlhjhnnmkgaaaDoorHSmall
import Derived.Test.YtddlhjhnnmkgaaaDoorHTo
set_option linter.unusedVariables false
set_option linter.unusedSimpArgs false
namespace Go.Proofs.YtddlhjhnnmkgaaaDoor.X
open Go.RowKit Go.Proofs.YtddlhjhnnmkgaaaDoorW.PrintWords Go.Proofs.YtddlhjhnnmkgaaaDoorW.PrintLast Go.Proofs.YtddlhjhnnmkgaaaDoorW.PrintMore
attribute [local go_sem] max2_int min2_int max_two min_two max_three min_three max_four min_four
set_option maxHeartbeats 8000000 in
set_option maxRecDepth 100000 in
theorem l05PiecesR_calls (f : Nat → Int) (o q n : Nat) (ho : o = 25 * q) (hq : q < n) (hR : Rng1 f o) (g : Nat) (w : World) (hB : Rw w g n f) :
    Calls Tryd.prog 32 #[.pointer (some ⟨g, o, none⟩)] w fun e w' => e = .returned (.tuple #[.int .i64 (sumF f o 8), .bool (fineF f o 8)]) ∧ Below w.heap.size w w' := by
  have HR := Aside0.mk hR
  have HB0 := Aside0.mk hB
  have HO := Aside0.mk ho
  have HQ := Aside0.mk hq
  have c0 := hB.rag (j := o + 24) ho hq rfl
  have ir : IntKind.i64.wrap (f (o + 24)) = f (o + 24) := IntWalk.i64_in _ ⟨by have := hR.2; omega, by have := hR.2; omega⟩
  clear hB hR ho hq
  go_enter Tryd.func32, Tryd.ntmps32
  go_wp2
  go_loopw [4, 5, 6] (fun v4 v5 v6 w' => ∃ q : Nat, q ≤ 8 ∧ v4 = .int .i64 (sumF f o q) ∧ v5 = .bool (fineF f o q) ∧ v6 = .int .i64 q ∧ Aside0 (Rw w' g n f) ∧ Aside0 (Below w.heap.size w w')) (fun _ _ v6 _ => 8 - (intOf v6).toNat)
  case atStart => exact ⟨0, by omega, rfl, rfl, rfl, HB0, ⟨Below.refl _ _⟩⟩
  case round =>
    clear c0 HB0 ir
    obtain ⟨u, hu, rfl, rfl, rfl, HA, HW⟩ := hrel
    by_cases hlt : u < 8
    · have c0 := HA.out.num (u := u) (j := o + u) HO.out HQ.out (by omega) rfl
      have c1 := HA.out.num (u := 8 + u) (j := o + 8 + u) HO.out HQ.out (by omega) (by omega)
      have c2 := HA.out.num (u := 16 + u) (j := o + 16 + u) HO.out HQ.out (by omega) (by omega)
      have HS : Aside0 (sumF f o (u + 1) = sumF f o u + (f (o + u) + f (o + (8 + u)) + f (o + (16 + u)))) := ⟨rfl⟩
      have HF : Aside0 (fineF f o (u + 1) = (fineF f o u && decide (0 ≤ f (o + u)) && decide (0 ≤ f (o + (8 + u))) && decide (0 ≤ f (o + (16 + u))))) := ⟨rfl⟩
      have hx := HR.out.1 u (by omega)
      have hy := HR.out.1 (8 + u) (by omega)
      have hz := HR.out.1 (16 + u) (by omega)
      have hs := sumF_range HR.out u hu
      have hs2 : -2147483648 - 98304 * 8 ≤ sumF f o u ∧ sumF f o u ≤ 2147483647 + 98304 * 8 := by omega
      clear hs
      generalize sumF f o u = s at *
      generalize fineF f o u = fn at *
      generalize f (o + u) = x at *
      generalize f (o + (8 + u)) = y at *
      generalize f (o + (16 + u)) = z at *
      have i0 : IntKind.i64.wrap x = x := IntWalk.i64_in _ ⟨by omega, by omega⟩
      have i1 : IntKind.i64.wrap y = y := IntWalk.i64_in _ ⟨by omega, by omega⟩
      have i2 : IntKind.i64.wrap z = z := IntWalk.i64_in _ ⟨by omega, by omega⟩
      have s1 : IntKind.i64.wrap (x + y) = x + y := IntWalk.i64_in _ ⟨by omega, by omega⟩
      have s2 : IntKind.i64.wrap (x + y + z) = x + y + z := IntWalk.i64_in _ ⟨by omega, by omega⟩
      have s3 : IntKind.i64.wrap (s + (x + y + z)) = s + (x + y + z) := IntWalk.i64_in _ ⟨by omega, by omega⟩
      obtain ⟨fx, hfx⟩ : ∃ b, decide (0 ≤ x) = b := ⟨_, rfl⟩
      obtain ⟨fy, hfy⟩ : ∃ b, decide (0 ≤ y) = b := ⟨_, rfl⟩
      obtain ⟨fz, hfz⟩ : ∃ b, decide (0 ≤ z) = b := ⟨_, rfl⟩
      rw [hfx, hfy, hfz] at HF
      have hfx' : decide (x ≥ 0) = fx := hfx
      have hfy' : decide (y ≥ 0) = fy := hfy
      have hfz' : decide (z ≥ 0) = fz := hfz
      clear hx hy hz hs2
      cases fn
      · go_wp2_with fail
        refine seq_all (by kernel_rfl) (by kernel_rfl) (fun w1 hw1 => ?_)
        have HA1 : Aside0 (Rw w1 g n f) := ⟨by rw [hw1]; exact HA.out.drew⟩
        have HW1 : Aside0 (Below w.heap.size w w1) := ⟨by rw [hw1]; exact below_drew HW.out⟩
        have e0 : w1.cell? ⟨g, o + u, none⟩ = some (.int .i16 x) := by rw [hw1]; exact c0
        have e1 : w1.cell? ⟨g, o + 8 + u, none⟩ = some (.int .i16 y) := by rw [hw1]; exact c1
        have e2 : w1.cell? ⟨g, o + 16 + u, none⟩ = some (.int .i16 z) := by rw [hw1]; exact c2
        clear hw1 HA HW c0 c1 c2
        repeat still_step
        refine wpStill_nil ?_
        go_wp2
        go_roundw
        case rel => exact ⟨u + 1, by omega, by rw [HS.out], by rw [HF.out]; rfl, by go_num, HA1, HW1⟩
        case measure => simp [intOf] <;> omega
      · cases fx
        · go_wp2_with fail
          refine seq_all (by kernel_rfl) (by kernel_rfl) (fun w1 hw1 => ?_)
          have HA1 : Aside0 (Rw w1 g n f) := ⟨by rw [hw1]; exact HA.out.drew⟩
          have HW1 : Aside0 (Below w.heap.size w w1) := ⟨by rw [hw1]; exact below_drew HW.out⟩
          have e0 : w1.cell? ⟨g, o + u, none⟩ = some (.int .i16 x) := by rw [hw1]; exact c0
          have e1 : w1.cell? ⟨g, o + 8 + u, none⟩ = some (.int .i16 y) := by rw [hw1]; exact c1
          have e2 : w1.cell? ⟨g, o + 16 + u, none⟩ = some (.int .i16 z) := by rw [hw1]; exact c2
          clear hw1 HA HW c0 c1 c2
          repeat still_step
          refine wpStill_nil ?_
          go_wp2
          go_roundw
          case rel => exact ⟨u + 1, by omega, by rw [HS.out], by rw [HF.out]; rfl, by go_num, HA1, HW1⟩
          case measure => simp [intOf] <;> omega
        · cases fy
          · go_wp2_with fail
            refine seq_all (by kernel_rfl) (by kernel_rfl) (fun w1 hw1 => ?_)
            have HA1 : Aside0 (Rw w1 g n f) := ⟨by rw [hw1]; exact HA.out.drew⟩
            have HW1 : Aside0 (Below w.heap.size w w1) := ⟨by rw [hw1]; exact below_drew HW.out⟩
            have e0 : w1.cell? ⟨g, o + u, none⟩ = some (.int .i16 x) := by rw [hw1]; exact c0
            have e1 : w1.cell? ⟨g, o + 8 + u, none⟩ = some (.int .i16 y) := by rw [hw1]; exact c1
            have e2 : w1.cell? ⟨g, o + 16 + u, none⟩ = some (.int .i16 z) := by rw [hw1]; exact c2
            clear hw1 HA HW c0 c1 c2
            repeat still_step
            refine wpStill_nil ?_
            go_wp2
            go_roundw
            case rel => exact ⟨u + 1, by omega, by rw [HS.out], by rw [HF.out]; rfl, by go_num, HA1, HW1⟩
            case measure => simp [intOf] <;> omega
          · go_wp2_with fail
            refine seq_all (by kernel_rfl) (by kernel_rfl) (fun w1 hw1 => ?_)
            have HA1 : Aside0 (Rw w1 g n f) := ⟨by rw [hw1]; exact HA.out.drew⟩
            have HW1 : Aside0 (Below w.heap.size w w1) := ⟨by rw [hw1]; exact below_drew HW.out⟩
            have e0 : w1.cell? ⟨g, o + u, none⟩ = some (.int .i16 x) := by rw [hw1]; exact c0
            have e1 : w1.cell? ⟨g, o + 8 + u, none⟩ = some (.int .i16 y) := by rw [hw1]; exact c1
            have e2 : w1.cell? ⟨g, o + 16 + u, none⟩ = some (.int .i16 z) := by rw [hw1]; exact c2
            clear hw1 HA HW c0 c1 c2
            repeat still_step
            refine wpStill_nil ?_
            go_wp2
            go_roundw
            case rel => exact ⟨u + 1, by omega, by rw [HS.out], by rw [HF.out]; rfl, by go_num, HA1, HW1⟩
            case measure => simp [intOf] <;> omega
    · obtain rfl : u = 8 := by omega
      go_wp2
      go_ret2
      exact ⟨rfl, HW.out⟩
set_option maxHeartbeats 8000000 in
set_option maxRecDepth 100000 in
theorem l05StockR_calls (f : Nat → Int) (o q n : Nat) (ho : o = 25 * q) (hq : q < n) (hR : Rng1 f o) (g : Nat) (w : World) (hB : Rw w g n f) :
    Calls Tryd.prog 17 #[.pointer (some ⟨g, o, none⟩)] w fun e w' => e = .returned (.bool (goodB f o)) ∧ Below w.heap.size w w' := by
  have HC := Aside0.mk (fun W h => l05PiecesR_calls f o q n ho hq hR g W h)
  have HO : Aside0 (goodB f o = (fineF f o 8 && decide (sumF f o 8 ≤ 500))) := ⟨rfl⟩
  have HB0 := Aside0.mk hB
  generalize goodB f o = ok at *
  generalize fineF f o 8 = fn at *
  generalize sumF f o 8 = s at *
  clear ho hq hR hB
  cases fn
  all_goals
    go_enter Tryd.func17, Tryd.ntmps17
    go_wp2_with (go_at_call 32; refine (HC.out _ HB0.out).mono ?_; rintro e w1 ⟨rfl, hb⟩; have HB1 := Aside0.mk hb; clear hb)
    go_ret
    exact ⟨by rw [HO.out]; rfl, HB1.out⟩
end Go.Proofs.YtddlhjhnnmkgaaaDoor.X
