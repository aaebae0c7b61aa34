/- Contracts of functions, and plain facts: what each call answers, and what it leaves as it was. -/
import Derived.Test.YtjmnbikaijphlaaHFrs
import Derived.Test.YtjmnbikaijphlaaHOwn
import Derived.Test.YtjmnbikaijphlaaX5
set_option linter.unusedVariables false
set_option linter.unusedSimpArgs false
namespace Go.Proofs.Ytjmnbikaijphlaa.X
open Go.RowKit Go.Proofs.YtjmnbikaijphlaaW.PrintWords Go.Proofs.YtjmnbikaijphlaaW.PrintLast Go.Proofs.YtjmnbikaijphlaaW.PrintMore
attribute [local go_sem] max2_int min2_int max_two min_two max_three min_three max_four min_four
set_option maxHeartbeats 4000000 in
set_option maxRecDepth 100000 in
theorem specNH_bad (N : Nat → Int) (n cN : Nat) (A : Option Addr) (tub every : Int) (hn : n ≤ 1048576) (hnc : n ≤ cN) (hbad : nhB N n tub every = false) (w : World) (hA : NdA w A n N) :
    Calls Try.prog 29 #[.slice A n cN, .int .i64 tub, .int .i64 every] w fun e w' => e = .returned (.tuple #[.agg #[.slice none 0 0, .int .i16 0, .int .i8 0, .int .i16 0], .int .i64 2]) ∧ Below w.heap.size w w' := by
  have HIN := Aside0.mk (fun W => in_q (n : Int) 1 4 W)
  have HTB := Aside0.mk (fun W => tub_q tub every W)
  have HCT := Aside0.mk (fun x W => count_q x W)
  obtain ⟨x1, h1⟩ : ∃ x, decide (1 ≤ (n : Int) ∧ (n : Int) ≤ 4) = x := ⟨_, rfl⟩
  obtain ⟨x2, h2⟩ : ∃ x, (decide (0 ≤ tub ∧ tub ≤ 1000) && decide (1 ≤ every ∧ every ≤ 7)) = x := ⟨_, rfl⟩
  unfold nhB at hbad
  rw [h1, h2] at hbad
  rw [h1] at HIN
  rw [h2] at HTB
  have HO : Aside0 (Blk (w.alloc (.cells #[.slice none 0 0, .int .i16 0, .int .i8 0, .int .i16 0] 40)) w.heap.size 40 [.slice none 0 0, .int .i16 0, .int .i8 0, .int .i16 0]) := ⟨Blk.new w _ _⟩
  have HW : Aside0 (Below w.heap.size w (w.alloc (.cells #[.slice none 0 0, .int .i16 0, .int .i8 0, .int .i16 0] 40))) := ⟨below_alloc (Below.refl _ _) _⟩
  have HA : Aside0 (NdA (w.alloc (.cells #[.slice none 0 0, .int .i16 0, .int .i8 0, .int .i16 0] 40)) A n N) := ⟨hA.alloc _⟩
  have HBB := Aside0.mk hbad
  clear hA hbad h1 h2 hnc
  cases x1
  · cases x2
    · go_enter Try.func29, Try.ntmps29
      go_wp2_with (first | (go_at_call 74; refine (HIN.out _).mono ?_; rintro e w' ⟨rfl, rfl⟩) | (go_at_call 75; refine (HTB.out _).mono ?_; rintro e w' ⟨rfl, rfl⟩))
      go_loop [8, 9] (fun v8 v9 => ∃ (k : Nat) (y : Bool), k ≤ n ∧ v8 = .bool y ∧ v9 = .int .i64 k ∧ Aside0 ((false && needB N k) = y)) (fun _ v9 => n - (intOf v9).toNat)
      case atStart => exact ⟨0, false, by omega, rfl, rfl, ⟨by simp [needB]⟩⟩
      case round =>
        obtain ⟨k, y, hk, rfl, rfl, HY⟩ := hrel
        have hk9 : IntKind.i64.wrap ((k : Int) + 1) = (k : Int) + 1 := IntWalk.i64_in _ ⟨by omega, by omega⟩
        by_cases hlt : k < n
        · have HZ : Aside0 ((false && needB N (k + 1)) = (y && decide (0 ≤ N k ∧ N k ≤ 500))) := ⟨by rw [← HY.out, needB, Bool.and_assoc]⟩
          cases y
          · go_wp2
            go_round
            case rel => exact ⟨k + 1, false, by omega, rfl, by go_num, ⟨by rw [HZ.out]; rfl⟩⟩
            case measure => simp [intOf] <;> omega
          · obtain ⟨gN, rfl, hd⟩ := HA.out (by omega)
            have cn := hd.at (k := k) (j := k) hlt rfl
            have HCK := Aside0.mk (HCT.out (N k))
            obtain ⟨t, ht9⟩ : ∃ t, decide (0 ≤ N k ∧ N k ≤ 500) = t := ⟨_, rfl⟩
            rw [ht9] at HCK HZ
            clear hd ht9
            go_wp2_with (go_at_call 76; refine (HCK.out _).mono ?_; rintro e w' ⟨rfl, rfl⟩)
            go_round
            case rel => exact ⟨k + 1, t, by omega, rfl, by go_num, ⟨by rw [HZ.out]; rfl⟩⟩
            case measure => simp [intOf] <;> omega
        · have ek : k = n := by omega
          subst ek
          obtain rfl : y = false := by rw [← HY.out]; exact HBB.out
          go_wp2_with (first | (refine wl_store (by rfl) 40 _ _ (by rfl) (w.heap.size) 0 (by rfl) 40 4 [.slice none 0 0, .int .i16 0, .int .i8 0, .int .i16 0] [.slice none 0 0, .int .i16 0, .int .i8 0, .int .i16 0] (by rfl) (by with_reducible repeat (first | exact HO.out | refine Blk.alloc ?_ _ | refine Rw.alloc ?_ _ | refine Arg.alloc ?_ _ | apply below_alloc | refine Blk.drew ?_ | refine Rw.drew ?_ | refine Arg.drew ?_ | apply below_drew | refine Blk.drewN ?_ _ | refine Rw.drewN ?_ _ | refine Arg.drewN ?_ _ | apply pw_below_drewN)) (by rfl) (by decide) (by kernel_rfl) (by rfl) ?_; intro w9 hw_ hg_; have HO9 : Aside0 (Blk w9 (w.heap.size) 40 [.slice none 0 0, .int .i16 0, .int .i8 0, .int .i16 0]) := ⟨Blk.all hw_ (by decide)⟩; have HW9 : Aside0 (Below w.heap.size w w9) := ⟨below_grown (by with_reducible repeat (first | exact HW.out | refine Blk.alloc ?_ _ | refine Rw.alloc ?_ _ | refine Arg.alloc ?_ _ | apply below_alloc | refine Blk.drew ?_ | refine Rw.drew ?_ | refine Arg.drew ?_ | apply below_drew | refine Blk.drewN ?_ _ | refine Rw.drewN ?_ _ | refine Arg.drewN ?_ _ | apply pw_below_drewN)) (by omega) (Below.size (by with_reducible repeat (first | exact HW.out | refine Blk.alloc ?_ _ | refine Rw.alloc ?_ _ | refine Arg.alloc ?_ _ | apply below_alloc | refine Blk.drew ?_ | refine Rw.drew ?_ | refine Arg.drew ?_ | apply below_drew | refine Blk.drewN ?_ _ | refine Rw.drewN ?_ _ | refine Arg.drewN ?_ _ | apply pw_below_drewN))) hg_⟩; clear hw_ hg_))
          refine bodyPost_ret (v := .tuple #[.agg #[.slice none 0 0, .int .i16 0, .int .i8 0, .int .i16 0], .int .i64 2]) (results_cell2 (by rfl) _ _ (w.heap.size) [.slice none 0 0, .int .i16 0, .int .i8 0, .int .i16 0] _ _ (by rfl) (by rfl) HO9.out.whole Try.underlying40 (by rfl) (by kernel_rfl)) rfl ⟨rfl, HW9.out⟩
    · go_enter Try.func29, Try.ntmps29
      go_wp2_with (first | (go_at_call 74; refine (HIN.out _).mono ?_; rintro e w' ⟨rfl, rfl⟩) | (go_at_call 75; refine (HTB.out _).mono ?_; rintro e w' ⟨rfl, rfl⟩))
      go_loop [8, 9] (fun v8 v9 => ∃ (k : Nat) (y : Bool), k ≤ n ∧ v8 = .bool y ∧ v9 = .int .i64 k ∧ Aside0 ((false && needB N k) = y)) (fun _ v9 => n - (intOf v9).toNat)
      case atStart => exact ⟨0, false, by omega, rfl, rfl, ⟨by simp [needB]⟩⟩
      case round =>
        obtain ⟨k, y, hk, rfl, rfl, HY⟩ := hrel
        have hk9 : IntKind.i64.wrap ((k : Int) + 1) = (k : Int) + 1 := IntWalk.i64_in _ ⟨by omega, by omega⟩
        by_cases hlt : k < n
        · have HZ : Aside0 ((false && needB N (k + 1)) = (y && decide (0 ≤ N k ∧ N k ≤ 500))) := ⟨by rw [← HY.out, needB, Bool.and_assoc]⟩
          cases y
          · go_wp2
            go_round
            case rel => exact ⟨k + 1, false, by omega, rfl, by go_num, ⟨by rw [HZ.out]; rfl⟩⟩
            case measure => simp [intOf] <;> omega
          · obtain ⟨gN, rfl, hd⟩ := HA.out (by omega)
            have cn := hd.at (k := k) (j := k) hlt rfl
            have HCK := Aside0.mk (HCT.out (N k))
            obtain ⟨t, ht9⟩ : ∃ t, decide (0 ≤ N k ∧ N k ≤ 500) = t := ⟨_, rfl⟩
            rw [ht9] at HCK HZ
            clear hd ht9
            go_wp2_with (go_at_call 76; refine (HCK.out _).mono ?_; rintro e w' ⟨rfl, rfl⟩)
            go_round
            case rel => exact ⟨k + 1, t, by omega, rfl, by go_num, ⟨by rw [HZ.out]; rfl⟩⟩
            case measure => simp [intOf] <;> omega
        · have ek : k = n := by omega
          subst ek
          obtain rfl : y = false := by rw [← HY.out]; exact HBB.out
          go_wp2_with (first | (refine wl_store (by rfl) 40 _ _ (by rfl) (w.heap.size) 0 (by rfl) 40 4 [.slice none 0 0, .int .i16 0, .int .i8 0, .int .i16 0] [.slice none 0 0, .int .i16 0, .int .i8 0, .int .i16 0] (by rfl) (by with_reducible repeat (first | exact HO.out | refine Blk.alloc ?_ _ | refine Rw.alloc ?_ _ | refine Arg.alloc ?_ _ | apply below_alloc | refine Blk.drew ?_ | refine Rw.drew ?_ | refine Arg.drew ?_ | apply below_drew | refine Blk.drewN ?_ _ | refine Rw.drewN ?_ _ | refine Arg.drewN ?_ _ | apply pw_below_drewN)) (by rfl) (by decide) (by kernel_rfl) (by rfl) ?_; intro w9 hw_ hg_; have HO9 : Aside0 (Blk w9 (w.heap.size) 40 [.slice none 0 0, .int .i16 0, .int .i8 0, .int .i16 0]) := ⟨Blk.all hw_ (by decide)⟩; have HW9 : Aside0 (Below w.heap.size w w9) := ⟨below_grown (by with_reducible repeat (first | exact HW.out | refine Blk.alloc ?_ _ | refine Rw.alloc ?_ _ | refine Arg.alloc ?_ _ | apply below_alloc | refine Blk.drew ?_ | refine Rw.drew ?_ | refine Arg.drew ?_ | apply below_drew | refine Blk.drewN ?_ _ | refine Rw.drewN ?_ _ | refine Arg.drewN ?_ _ | apply pw_below_drewN)) (by omega) (Below.size (by with_reducible repeat (first | exact HW.out | refine Blk.alloc ?_ _ | refine Rw.alloc ?_ _ | refine Arg.alloc ?_ _ | apply below_alloc | refine Blk.drew ?_ | refine Rw.drew ?_ | refine Arg.drew ?_ | apply below_drew | refine Blk.drewN ?_ _ | refine Rw.drewN ?_ _ | refine Arg.drewN ?_ _ | apply pw_below_drewN))) hg_⟩; clear hw_ hg_))
          refine bodyPost_ret (v := .tuple #[.agg #[.slice none 0 0, .int .i16 0, .int .i8 0, .int .i16 0], .int .i64 2]) (results_cell2 (by rfl) _ _ (w.heap.size) [.slice none 0 0, .int .i16 0, .int .i8 0, .int .i16 0] _ _ (by rfl) (by rfl) HO9.out.whole Try.underlying40 (by rfl) (by kernel_rfl)) rfl ⟨rfl, HW9.out⟩
  · cases x2
    · go_enter Try.func29, Try.ntmps29
      go_wp2_with (first | (go_at_call 74; refine (HIN.out _).mono ?_; rintro e w' ⟨rfl, rfl⟩) | (go_at_call 75; refine (HTB.out _).mono ?_; rintro e w' ⟨rfl, rfl⟩))
      go_loop [8, 9] (fun v8 v9 => ∃ (k : Nat) (y : Bool), k ≤ n ∧ v8 = .bool y ∧ v9 = .int .i64 k ∧ Aside0 ((false && needB N k) = y)) (fun _ v9 => n - (intOf v9).toNat)
      case atStart => exact ⟨0, false, by omega, rfl, rfl, ⟨by simp [needB]⟩⟩
      case round =>
        obtain ⟨k, y, hk, rfl, rfl, HY⟩ := hrel
        have hk9 : IntKind.i64.wrap ((k : Int) + 1) = (k : Int) + 1 := IntWalk.i64_in _ ⟨by omega, by omega⟩
        by_cases hlt : k < n
        · have HZ : Aside0 ((false && needB N (k + 1)) = (y && decide (0 ≤ N k ∧ N k ≤ 500))) := ⟨by rw [← HY.out, needB, Bool.and_assoc]⟩
          cases y
          · go_wp2
            go_round
            case rel => exact ⟨k + 1, false, by omega, rfl, by go_num, ⟨by rw [HZ.out]; rfl⟩⟩
            case measure => simp [intOf] <;> omega
          · obtain ⟨gN, rfl, hd⟩ := HA.out (by omega)
            have cn := hd.at (k := k) (j := k) hlt rfl
            have HCK := Aside0.mk (HCT.out (N k))
            obtain ⟨t, ht9⟩ : ∃ t, decide (0 ≤ N k ∧ N k ≤ 500) = t := ⟨_, rfl⟩
            rw [ht9] at HCK HZ
            clear hd ht9
            go_wp2_with (go_at_call 76; refine (HCK.out _).mono ?_; rintro e w' ⟨rfl, rfl⟩)
            go_round
            case rel => exact ⟨k + 1, t, by omega, rfl, by go_num, ⟨by rw [HZ.out]; rfl⟩⟩
            case measure => simp [intOf] <;> omega
        · have ek : k = n := by omega
          subst ek
          obtain rfl : y = false := by rw [← HY.out]; exact HBB.out
          go_wp2_with (first | (refine wl_store (by rfl) 40 _ _ (by rfl) (w.heap.size) 0 (by rfl) 40 4 [.slice none 0 0, .int .i16 0, .int .i8 0, .int .i16 0] [.slice none 0 0, .int .i16 0, .int .i8 0, .int .i16 0] (by rfl) (by with_reducible repeat (first | exact HO.out | refine Blk.alloc ?_ _ | refine Rw.alloc ?_ _ | refine Arg.alloc ?_ _ | apply below_alloc | refine Blk.drew ?_ | refine Rw.drew ?_ | refine Arg.drew ?_ | apply below_drew | refine Blk.drewN ?_ _ | refine Rw.drewN ?_ _ | refine Arg.drewN ?_ _ | apply pw_below_drewN)) (by rfl) (by decide) (by kernel_rfl) (by rfl) ?_; intro w9 hw_ hg_; have HO9 : Aside0 (Blk w9 (w.heap.size) 40 [.slice none 0 0, .int .i16 0, .int .i8 0, .int .i16 0]) := ⟨Blk.all hw_ (by decide)⟩; have HW9 : Aside0 (Below w.heap.size w w9) := ⟨below_grown (by with_reducible repeat (first | exact HW.out | refine Blk.alloc ?_ _ | refine Rw.alloc ?_ _ | refine Arg.alloc ?_ _ | apply below_alloc | refine Blk.drew ?_ | refine Rw.drew ?_ | refine Arg.drew ?_ | apply below_drew | refine Blk.drewN ?_ _ | refine Rw.drewN ?_ _ | refine Arg.drewN ?_ _ | apply pw_below_drewN)) (by omega) (Below.size (by with_reducible repeat (first | exact HW.out | refine Blk.alloc ?_ _ | refine Rw.alloc ?_ _ | refine Arg.alloc ?_ _ | apply below_alloc | refine Blk.drew ?_ | refine Rw.drew ?_ | refine Arg.drew ?_ | apply below_drew | refine Blk.drewN ?_ _ | refine Rw.drewN ?_ _ | refine Arg.drewN ?_ _ | apply pw_below_drewN))) hg_⟩; clear hw_ hg_))
          refine bodyPost_ret (v := .tuple #[.agg #[.slice none 0 0, .int .i16 0, .int .i8 0, .int .i16 0], .int .i64 2]) (results_cell2 (by rfl) _ _ (w.heap.size) [.slice none 0 0, .int .i16 0, .int .i8 0, .int .i16 0] _ _ (by rfl) (by rfl) HO9.out.whole Try.underlying40 (by rfl) (by kernel_rfl)) rfl ⟨rfl, HW9.out⟩
    · go_enter Try.func29, Try.ntmps29
      go_wp2_with (first | (go_at_call 74; refine (HIN.out _).mono ?_; rintro e w' ⟨rfl, rfl⟩) | (go_at_call 75; refine (HTB.out _).mono ?_; rintro e w' ⟨rfl, rfl⟩))
      go_loop [8, 9] (fun v8 v9 => ∃ (k : Nat) (y : Bool), k ≤ n ∧ v8 = .bool y ∧ v9 = .int .i64 k ∧ Aside0 ((true && needB N k) = y)) (fun _ v9 => n - (intOf v9).toNat)
      case atStart => exact ⟨0, true, by omega, rfl, rfl, ⟨by simp [needB]⟩⟩
      case round =>
        obtain ⟨k, y, hk, rfl, rfl, HY⟩ := hrel
        have hk9 : IntKind.i64.wrap ((k : Int) + 1) = (k : Int) + 1 := IntWalk.i64_in _ ⟨by omega, by omega⟩
        by_cases hlt : k < n
        · have HZ : Aside0 ((true && needB N (k + 1)) = (y && decide (0 ≤ N k ∧ N k ≤ 500))) := ⟨by rw [← HY.out, needB, Bool.and_assoc]⟩
          cases y
          · go_wp2
            go_round
            case rel => exact ⟨k + 1, false, by omega, rfl, by go_num, ⟨by rw [HZ.out]; rfl⟩⟩
            case measure => simp [intOf] <;> omega
          · obtain ⟨gN, rfl, hd⟩ := HA.out (by omega)
            have cn := hd.at (k := k) (j := k) hlt rfl
            have HCK := Aside0.mk (HCT.out (N k))
            obtain ⟨t, ht9⟩ : ∃ t, decide (0 ≤ N k ∧ N k ≤ 500) = t := ⟨_, rfl⟩
            rw [ht9] at HCK HZ
            clear hd ht9
            go_wp2_with (go_at_call 76; refine (HCK.out _).mono ?_; rintro e w' ⟨rfl, rfl⟩)
            go_round
            case rel => exact ⟨k + 1, t, by omega, rfl, by go_num, ⟨by rw [HZ.out]; rfl⟩⟩
            case measure => simp [intOf] <;> omega
        · have ek : k = n := by omega
          subst ek
          obtain rfl : y = false := by rw [← HY.out]; exact HBB.out
          go_wp2_with (first | (refine wl_store (by rfl) 40 _ _ (by rfl) (w.heap.size) 0 (by rfl) 40 4 [.slice none 0 0, .int .i16 0, .int .i8 0, .int .i16 0] [.slice none 0 0, .int .i16 0, .int .i8 0, .int .i16 0] (by rfl) (by with_reducible repeat (first | exact HO.out | refine Blk.alloc ?_ _ | refine Rw.alloc ?_ _ | refine Arg.alloc ?_ _ | apply below_alloc | refine Blk.drew ?_ | refine Rw.drew ?_ | refine Arg.drew ?_ | apply below_drew | refine Blk.drewN ?_ _ | refine Rw.drewN ?_ _ | refine Arg.drewN ?_ _ | apply pw_below_drewN)) (by rfl) (by decide) (by kernel_rfl) (by rfl) ?_; intro w9 hw_ hg_; have HO9 : Aside0 (Blk w9 (w.heap.size) 40 [.slice none 0 0, .int .i16 0, .int .i8 0, .int .i16 0]) := ⟨Blk.all hw_ (by decide)⟩; have HW9 : Aside0 (Below w.heap.size w w9) := ⟨below_grown (by with_reducible repeat (first | exact HW.out | refine Blk.alloc ?_ _ | refine Rw.alloc ?_ _ | refine Arg.alloc ?_ _ | apply below_alloc | refine Blk.drew ?_ | refine Rw.drew ?_ | refine Arg.drew ?_ | apply below_drew | refine Blk.drewN ?_ _ | refine Rw.drewN ?_ _ | refine Arg.drewN ?_ _ | apply pw_below_drewN)) (by omega) (Below.size (by with_reducible repeat (first | exact HW.out | refine Blk.alloc ?_ _ | refine Rw.alloc ?_ _ | refine Arg.alloc ?_ _ | apply below_alloc | refine Blk.drew ?_ | refine Rw.drew ?_ | refine Arg.drew ?_ | apply below_drew | refine Blk.drewN ?_ _ | refine Rw.drewN ?_ _ | refine Arg.drewN ?_ _ | apply pw_below_drewN))) hg_⟩; clear hw_ hg_))
          refine bodyPost_ret (v := .tuple #[.agg #[.slice none 0 0, .int .i16 0, .int .i8 0, .int .i16 0], .int .i64 2]) (results_cell2 (by rfl) _ _ (w.heap.size) [.slice none 0 0, .int .i16 0, .int .i8 0, .int .i16 0] _ _ (by rfl) (by rfl) HO9.out.whole Try.underlying40 (by rfl) (by kernel_rfl)) rfl ⟨rfl, HW9.out⟩
set_option maxHeartbeats 4000000 in
set_option maxRecDepth 100000 in
theorem specNH_ok (N : Nat → Int) (n cN : Nat) (A : Option Addr) (tub every : Int) (hn : n ≤ 1048576) (hnc : n ≤ cN) (hn4 : 0 < n ∧ n ≤ 4) (ht : 0 ≤ tub ∧ tub ≤ 1000) (hv : 1 ≤ every ∧ every ≤ 7) (hN : needB N n = true) (w : World) (hA : NdA w A n N) :
    Calls Try.prog 29 #[.slice A n cN, .int .i64 tub, .int .i64 every] w fun e w' => ∃ g' c', e = .returned (.tuple #[.agg #[.slice (some ⟨g', 0, none⟩) n c', .int .i16 tub, .int .i8 every, .int .i16 0], .int .i64 0]) ∧ w.heap.size ≤ g' ∧ Rw w' g' n (newF N) ∧ Below w.heap.size w w' := by
  obtain ⟨i0, hi, hz0, hz1, hz2⟩ := info_parts stockInfo
  have HI := Aside0.mk (And.intro hi (And.intro hz0 (And.intro hz1 hz2)))
  have HIN := Aside0.mk (fun W => in_q (n : Int) 1 4 W)
  have HTB := Aside0.mk (fun W => tub_q tub every W)
  have HCT := Aside0.mk (fun x W => count_q x W)
  rw [decide_eq_true (show 1 ≤ (n : Int) ∧ (n : Int) ≤ 4 by omega)] at HIN
  rw [decide_eq_true ht, decide_eq_true hv] at HTB
  have h16 : IntKind.i16.wrap tub = tub := IntWalk.i16_in _ ⟨by omega, by omega⟩
  have h8 : IntKind.i8.wrap every = every := IntWalk.i8_in _ ⟨by omega, by omega⟩
  have HNK := Aside0.mk ((needB_iff N n).1 hN)
  have HBB : Aside0 ((true && needB N n) = true) := ⟨by rw [hN]; rfl⟩
  obtain ⟨gN, rfl, hNd⟩ := hA (by omega)
  have HNd : Aside0 (Nd (w.alloc (.cells #[.slice none 0 0, .int .i16 0, .int .i8 0, .int .i16 0] 40)) gN n N) := ⟨hNd.alloc _⟩
  have hgN := hNd.1
  have HO : Aside0 (Blk (w.alloc (.cells #[.slice none 0 0, .int .i16 0, .int .i8 0, .int .i16 0] 40)) w.heap.size 40 [.slice none 0 0, .int .i16 0, .int .i8 0, .int .i16 0]) := ⟨Blk.new w _ _⟩
  have HW : Aside0 (Below w.heap.size w (w.alloc (.cells #[.slice none 0 0, .int .i16 0, .int .i8 0, .int .i16 0] 40))) := ⟨below_alloc (Below.refl _ _) _⟩
  have HA : Aside0 (NdA (w.alloc (.cells #[.slice none 0 0, .int .i16 0, .int .i8 0, .int .i16 0] 40)) (some ⟨gN, 0, none⟩) n N) := ⟨hA.alloc _⟩
  clear hA hN hnc hi hz0 hz1 hz2 ht hv hNd
  go_enter Try.func29, Try.ntmps29
  go_wp2_with (first | (go_at_call 74; refine (HIN.out _).mono ?_; rintro e w' ⟨rfl, rfl⟩) | (go_at_call 75; refine (HTB.out _).mono ?_; rintro e w' ⟨rfl, rfl⟩))
  go_loop [8, 9] (fun v8 v9 => ∃ (k : Nat) (y : Bool), k ≤ n ∧ v8 = .bool y ∧ v9 = .int .i64 k ∧ Aside0 ((true && needB N k) = y)) (fun _ v9 => n - (intOf v9).toNat)
  case atStart => exact ⟨0, true, by omega, rfl, rfl, ⟨by simp [needB]⟩⟩
  case round =>
    obtain ⟨k, y, hk, rfl, rfl, HY⟩ := hrel
    have hk9 : IntKind.i64.wrap ((k : Int) + 1) = (k : Int) + 1 := IntWalk.i64_in _ ⟨by omega, by omega⟩
    by_cases hlt : k < n
    · have HZ : Aside0 ((true && needB N (k + 1)) = (y && decide (0 ≤ N k ∧ N k ≤ 500))) := ⟨by rw [← HY.out, needB, Bool.and_assoc]⟩
      cases y
      · go_wp2
        go_round
        case rel => exact ⟨k + 1, false, by omega, rfl, by go_num, ⟨by rw [HZ.out]; rfl⟩⟩
        case measure => simp [intOf] <;> omega
      · have hd := HNd.out
        have cn := hd.at (k := k) (j := k) hlt rfl
        have HCK := Aside0.mk (HCT.out (N k))
        obtain ⟨t, ht9⟩ : ∃ t, decide (0 ≤ N k ∧ N k ≤ 500) = t := ⟨_, rfl⟩
        rw [ht9] at HCK HZ
        clear hd ht9
        go_wp2_with (go_at_call 76; refine (HCK.out _).mono ?_; rintro e w' ⟨rfl, rfl⟩)
        go_round
        case rel => exact ⟨k + 1, t, by omega, rfl, by go_num, ⟨by rw [HZ.out]; rfl⟩⟩
        case measure => simp [intOf] <;> omega
    · have ek : k = n := by omega
      obtain rfl : n = k := ek.symm
      obtain rfl : y = true := by rw [← HY.out]; exact HBB.out
      clear HY HA HBB HIN HTB HCT hk9
      go_wp2_with fail
      have HX2 : Aside0 (Blk ((w.alloc (.cells #[.slice none 0 0, .int .i16 0, .int .i8 0, .int .i16 0] 40)).alloc (.cells #[.slice none 0 0, .int .i16 tub, .int .i8 every, .int .i16 0] 40)) (w.heap.size + 1) 40 [.slice none 0 0, .int .i16 tub, .int .i8 every, .int .i16 0]) := ⟨Blk.at_ (by simp) rfl⟩
      have HO2 := Aside0.mk (HO.out.alloc (.cells #[.slice none 0 0, .int .i16 tub, .int .i8 every, .int .i16 0] 40))
      have HD2 := Aside0.mk (HNd.out.alloc (.cells #[.slice none 0 0, .int .i16 tub, .int .i8 every, .int .i16 0] 40))
      have HW2 : Aside0 (Below w.heap.size w ((w.alloc (.cells #[.slice none 0 0, .int .i16 0, .int .i8 0, .int .i16 0] 40)).alloc (.cells #[.slice none 0 0, .int .i16 tub, .int .i8 every, .int .i16 0] 40))) := ⟨below_alloc HW.out _⟩
      have HV2 : Aside0 (((w.alloc (.cells #[.slice none 0 0, .int .i16 0, .int .i8 0, .int .i16 0] 40)).alloc (.cells #[.slice none 0 0, .int .i16 tub, .int .i8 every, .int .i16 0] 40)).ownsRow (w.heap.size + 2) 27 25 (.slice none 0 0) 0 (flat (newF N) 0)) := ⟨own_nil _ _ _ _⟩
      clear HO HNd HW
      go_loopw [11] (fun v11 w' => ∃ (k : Nat) (v : Value), k ≤ n ∧ v11 = .int .i64 k ∧ Aside0 (w'.ownsRow (w.heap.size + 2) 27 25 v k (flat (newF N) k)) ∧ Aside0 (Blk w' (w.heap.size + 1) 40 [v, .int .i16 tub, .int .i8 every, .int .i16 0]) ∧ Aside0 (Blk w' w.heap.size 40 [.slice none 0 0, .int .i16 0, .int .i8 0, .int .i16 0]) ∧ Aside0 (Nd w' gN n N) ∧ Aside0 (Below w.heap.size w w')) (fun v11 _ => n - (intOf v11).toNat)
      case atStart => exact ⟨0, _, by omega, rfl, HV2, HX2, HO2, HD2, HW2⟩
      case round =>
        clear HV2 HX2 HO2 HD2 HW2
        obtain ⟨k, v, hk, rfl, HV, HX, HO, HD, HW⟩ := hrel
        obtain ⟨wo, rfl⟩ : ∃ wo : World, wo = wr := ⟨_, rfl⟩
        have hk9 : IntKind.i64.wrap ((k : Int) + 1) = (k : Int) + 1 := IntWalk.i64_in _ ⟨by omega, by omega⟩
        by_cases hlt : k < n
        · have c0 : wo.drew.cell? ⟨w.heap.size + 1, 0, none⟩ = some v := HX.out.cell 0 (v := v) rfl
          have cn := HD.out.at (k := k) (j := k) hlt rfl
          have HFR : Aside0 (∀ W : World, Calls Try.prog 77 #[.int .i64 (N k)] W fun e w' => e = .returned (.agg #[.int .i16 0, .int .i16 0, .int .i16 0, .int .i16 0, .int .i16 0, .int .i16 0, .int .i16 0, .int .i16 (N k), .int .i16 0, .int .i16 0, .int .i16 0, .int .i16 0, .int .i16 0, .int .i16 0, .int .i16 0, .int .i16 0, .int .i16 0, .int .i16 0, .int .i16 0, .int .i16 0, .int .i16 0, .int .i16 0, .int .i16 0, .int .i16 0, .int .i32 0]) ∧ Below W.heap.size W w') := ⟨fun W => l05Fresh_lit (N k) (HNK.out k hlt) W⟩
          go_wp2_with fail
          refine start_ (n := 11) (S := (fun w' => w'.cell? ⟨w.heap.size + 1, 0, none⟩ = some v ∧ w'.cell? ⟨gN, k, none⟩ = some (.int .i64 (N k)))) (ds := [10]) #[false, false, false, false, false, false, false, false, false, false, false] (by kernel_rfl) rfl rfl ⟨c0, cn⟩ (fun hHeld => ?_)
          obtain ⟨w9, hw9⟩ : ∃ w9, wo.drew = w9 := ⟨_, rfl⟩
          have HV9 : Aside0 (w9.ownsRow (w.heap.size + 2) 27 25 v k (flat (newF N) k)) := ⟨by subst hw9; exact HV.out⟩
          have HX9 : Aside0 (Blk w9 (w.heap.size + 1) 40 [v, .int .i16 tub, .int .i8 every, .int .i16 0]) := ⟨by subst hw9; exact HX.out.drew⟩
          have HO9 : Aside0 (Blk w9 w.heap.size 40 [.slice none 0 0, .int .i16 0, .int .i8 0, .int .i16 0]) := ⟨by subst hw9; exact HO.out.drew⟩
          have HD9 : Aside0 (Nd w9 gN n N) := ⟨by subst hw9; exact HD.out.drew⟩
          have HW9 : Aside0 (Below w.heap.size w w9) := ⟨by subst hw9; exact below_drew HW.out⟩
          rw [hw9] at hHeld ⊢
          clear hw9 HV HX HO HD HW c0 cn
          refine pure_ (i := 0) (N := some 48) (v := ?_) (a' := ?_) #[true, false, false, false, false, false, false, false, false, false, false] rfl rfl (by kernel_rfl) (fun _ _ _ h => h) (Or.inl ⟨by rfl, ?_⟩) ?_ ?_
          rotate_left
          · intro w'
            go_simp
            with_reducible rfl
          rotate_left
          · simp only [Act.put, List.setIfInBounds_toArray, List.set_cons_zero, List.set_cons_succ, i64_w, i32_w]
            rfl
          refine take_ (i := 1) (N := some 49) (v := ?_) (a' := ?_) #[true, true, false, false, false, false, false, false, false, false, false] rfl rfl (by kernel_rfl) (fun _ _ _ h => h) (Or.inl ⟨by rfl, ?_⟩) hHeld ?_ ?_
          rotate_left
          · rintro w' ⟨s0, s1⟩
            go_simp
            with_reducible rfl
          rotate_left
          · simp only [Act.put, List.setIfInBounds_toArray, List.set_cons_zero, List.set_cons_succ, i64_w, i32_w]
            rfl
          refine pure_ (i := 2) (N := some 50) (v := ?_) (a' := ?_) #[true, true, true, false, false, false, false, false, false, false, false] rfl rfl (by kernel_rfl) (fun _ _ _ h => h) (Or.inl ⟨by rfl, ?_⟩) ?_ ?_
          rotate_left
          · intro w'
            go_simp
            with_reducible rfl
          rotate_left
          · simp only [Act.put, List.setIfInBounds_toArray, List.set_cons_zero, List.set_cons_succ, i64_w, i32_w]
            rfl
          refine pure_ (i := 3) (N := some 51) (v := ?_) (a' := ?_) #[true, true, true, true, false, false, false, false, false, false, false] rfl rfl (by kernel_rfl) (fun _ _ _ h => h) (Or.inl ⟨by rfl, ?_⟩) ?_ ?_
          rotate_left
          · intro w'
            go_simp
            with_reducible rfl
          rotate_left
          · simp only [Act.put, List.setIfInBounds_toArray, List.set_cons_zero, List.set_cons_succ, i64_w, i32_w]
            rfl
          refine pure_ (i := 4) (N := some 52) (v := ?_) (a' := ?_) #[true, true, true, true, true, false, false, false, false, false, false] rfl rfl (by kernel_rfl) (fun _ _ _ h => h) (Or.inl ⟨by rfl, ?_⟩) ?_ ?_
          rotate_left
          · intro w'
            go_simp
            with_reducible rfl
          rotate_left
          · simp only [Act.put, List.setIfInBounds_toArray, List.set_cons_zero, List.set_cons_succ, i64_w, i32_w]
            rfl
          refine take_ (i := 5) (N := some 53) (v := ?_) (a' := ?_) #[true, true, true, true, true, true, false, false, false, false, false] rfl rfl (by kernel_rfl) (fun _ _ _ h => h) (Or.inl ⟨by rfl, ?_⟩) hHeld ?_ ?_
          rotate_left
          · rintro w' ⟨s0, s1⟩
            go_simp
            with_reducible rfl
          rotate_left
          · simp only [Act.put, List.setIfInBounds_toArray, List.set_cons_zero, List.set_cons_succ, i64_w, i32_w]
            rfl
          refine one_ (i := 6) (N := some 54) #[true, true, true, true, true, true, true, false, false, false, false] rfl rfl (by kernel_rfl) (by decide) (fun K hK => ?_)
          refine goes_ Try.func77 (by kernel_rfl) rfl #[.int .i64 (N k)] (by rfl) rfl rfl (by (try simp only [List.map_toArray, List.map_cons, List.map_nil]); first | done | rfl) ?_
          refine (HFR.out _).mono ?_
          rintro e w2 ⟨rfl, hb_⟩
          have HV2 := Aside0.mk (pw_own_below HV9.out hb_)
          have HX2 := Aside0.mk (HX9.out.below hb_)
          have HO2 := Aside0.mk (HO9.out.below hb_)
          have HD2 := Aside0.mk (HD9.out.below hb_)
          have HW2 : Aside0 (Below w.heap.size w w2) := ⟨below_step HW9.out hb_⟩
          have hx2 := HX2.out.lt
          clear hb_ HV9 HX9 HO9 HD9 HW9 hHeld
          refine ⟨_, rfl, ?_⟩
          refine hK.out _ _ ⟨HX2.out.cell 0 (v := v) rfl, HD2.out.at (k := k) (j := k) hlt rfl⟩ (fun hHeld => ?_)
          clear hK K
          refine norm_ (a' := ?_) ?_ ?_
          rotate_left
          · show Act.put _ (some 54) _ = _
            simp only [Act.put, List.setIfInBounds_toArray, List.set_cons_zero, List.set_cons_succ, i64_w, i32_w]
            rfl
          refine one_ (i := 7) (N := some 55) #[true, true, true, true, true, true, true, true, false, false, false] rfl rfl (by kernel_rfl) (by decide) (fun K hK => ?_)
          refine value_ (v := ?_) (w1 := ?_) (by rfl) rfl ?_ ?_
          rotate_left
          rotate_left
          · go_simp
            first | (refine ⟨?_, ?_⟩ <;> rfl) | rfl
          refine hK.out _ _ ⟨(HX2.out.alloc _).cell 0 (v := v) rfl, (HD2.out.alloc _).at (k := k) (j := k) hlt rfl⟩ (fun hHeld => ?_)
          clear hK K
          refine norm_ (a' := ?_) ?_ ?_
          rotate_left
          · show Act.put _ (some 55) _ = _
            simp only [Act.put, List.setIfInBounds_toArray, List.set_cons_zero, List.set_cons_succ, i64_w, i32_w]
            rfl
          refine one_ (i := 8) (N := some 56) #[true, true, true, true, true, true, true, true, true, false, false] rfl rfl (by kernel_rfl) (by decide) (fun K hK => ?_)
          refine on_ (by rfl) ?_
          refine wp_append_lies _ _ _ 38 (by rfl) (w.heap.size + 2) 27 i0 _ 25 52 Try.underlying38 HI.out.1 HI.out.2.1 HI.out.2.2.1 HI.out.2.2.2 (by rfl) (by decide) v k (flat (newF N) k) (by rfl) (pw_own_below HV2.out (below_alloc (Below.refl _ _) _)) ⟨w2.heap.size, 0, none⟩ 1 1 [.int .i16 0, .int .i16 0, .int .i16 0, .int .i16 0, .int .i16 0, .int .i16 0, .int .i16 0, .int .i16 (N k), .int .i16 0, .int .i16 0, .int .i16 0, .int .i16 0, .int .i16 0, .int .i16 0, .int .i16 0, .int .i16 0, .int .i16 0, .int .i16 0, .int .i16 0, .int .i16 0, .int .i16 0, .int .i16 0, .int .i16 0, .int .i16 0, .int .i32 0] (by rfl) (by rfl) (World.news_of_block (Blk.new w2 _ [.int .i16 0, .int .i16 0, .int .i16 0, .int .i16 0, .int .i16 0, .int .i16 0, .int .i16 0, .int .i16 (N k), .int .i16 0, .int .i16 0, .int .i16 0, .int .i16 0, .int .i16 0, .int .i16 0, .int .i16 0, .int .i16 0, .int .i16 0, .int .i16 0, .int .i16 0, .int .i16 0, .int .i16 0, .int .i16 0, .int .i16 0, .int .i16 0, .int .i32 0])) (by intro u hu; simp only [List.mem_cons, List.not_mem_nil, or_false] at hu; rcases hu with rfl | rfl | rfl | rfl | rfl | rfl | rfl | rfl | rfl | rfl | rfl | rfl | rfl | rfl | rfl | rfl | rfl | rfl | rfl | rfl | rfl | rfl | rfl | rfl | rfl <;> rfl) (by decide) (by unfold maxLen; omega) (by omega) (by simp; omega) _ rfl ?_
          intro g' cap' w3 hown hgrow hat hlt'
          have HV3 : Aside0 (w3.ownsRow (w.heap.size + 2) 27 25 (.slice (some ⟨g', 0, none⟩) (k + 1) cap') (k + 1) (flat (newF N) (k + 1))) := ⟨by rw [← flat_new]; exact hown⟩
          have HX3 := Aside0.mk (Blk.grown (HX2.out.alloc _) hgrow (own_ne HV2.out (by omega)))
          have HO3 := Aside0.mk (Blk.grown (HO2.out.alloc _) hgrow (own_ne HV2.out (by omega)))
          have HD3 := Aside0.mk (Nd.grown (HD2.out.alloc _) hgrow (own_ne HV2.out (by omega)))
          have HW3 : Aside0 (Below w.heap.size w w3) := ⟨pw_below_grown (below_alloc HW2.out _) _ (by simp; omega) hgrow (fun k_ e_ => by have := own_base HV2.out k_ e_; omega)⟩
          clear hown hgrow hat hlt' HV2 HX2 HO2 HD2 HW2
          have c3 := HX3.out.cell 0 (v := v) rfl
          have d3 := HX3.out.frozen 0
          refine hK.out _ _ ⟨c3, HD3.out.at (k := k) (j := k) hlt rfl⟩ (fun hHeld => ?_)
          clear hK K
          refine norm_ (a' := ?_) ?_ ?_
          rotate_left
          · show Act.put _ (some 56) _ = _
            simp only [Act.put, List.setIfInBounds_toArray, List.set_cons_zero, List.set_cons_succ, i64_w, i32_w]
            rfl
          refine pure_ (i := 9) (N := some 57) (v := ?_) (a' := ?_) #[true, true, true, true, true, true, true, true, true, true, false] rfl rfl (by kernel_rfl) (fun _ _ _ h => h) (Or.inl ⟨by rfl, ?_⟩) ?_ ?_
          rotate_left
          · intro w'
            go_simp
            with_reducible rfl
          rotate_left
          · simp only [Act.put, List.setIfInBounds_toArray, List.set_cons_zero, List.set_cons_succ, i64_w, i32_w]
            rfl
          refine last_ (i := 10) (N := none) #[true, true, true, true, true, true, true, true, true, true, true] rfl rfl (by kernel_rfl) (by decide) (fun K hK => ?_)
          refine skip_ (w1 := ?_) (by rfl) rfl ?_ ?_
          rotate_left
          · go_simp
            rfl
          refine hK.out _ _ ?_
          clear hK K
          refine done_ (by kernel_rfl) ?_
          obtain ⟨w4, hw4⟩ : ∃ w4, w4 = w3.setCell ⟨w.heap.size + 1, 0, none⟩ (.slice (some ⟨g', 0, none⟩) (k + 1) cap') := ⟨_, rfl⟩
          rw [← hw4]
          have HX4 : Aside0 (Blk w4 (w.heap.size + 1) 40 [(.slice (some ⟨g', 0, none⟩) (k + 1) cap'), .int .i16 tub, .int .i8 every, .int .i16 0]) := ⟨by rw [hw4]; exact HX3.out.set 0 _⟩
          have HO4 : Aside0 (Blk w4 w.heap.size 40 [.slice none 0 0, .int .i16 0, .int .i8 0, .int .i16 0]) := ⟨by rw [hw4]; exact blk_other HO3.out (by omega)⟩
          have HV4 : Aside0 (w4.ownsRow (w.heap.size + 2) 27 25 (.slice (some ⟨g', 0, none⟩) (k + 1) cap') (k + 1) (flat (newF N) (k + 1))) := ⟨by rw [hw4]; exact own_other HV3.out (grown_set _ _ _ _) (.inr (own_ne HV3.out (by omega)).symm)⟩
          have HD4 : Aside0 (Nd w4 gN n N) := ⟨by rw [hw4]; exact HD3.out.grown (grown_set _ _ _ _) (by intro h_; injection h_ with h_; omega)⟩
          have HW4 : Aside0 (Below w.heap.size w w4) := ⟨by rw [hw4]; exact below_setc HW3.out (by omega)⟩
          clear hw4 HX3 HO3 HV3 HD3 HW3 c3 d3 hHeld
          go_wp2
          go_roundw
          case rel => exact ⟨k + 1, _, by omega, by go_num, HV4, HX4, HO4, HD4, HW4⟩
          case measure => simp [intOf] <;> omega
        · have ek : k = n := by omega
          subst ek
          obtain ⟨g', c', rfl, hg1, hg2⟩ := World.ownsRow.form HV.out (by omega)
          have HR := Aside0.mk (Rw.of_owns HV.out).1
          have hx1 := HX.out.lt
          clear HV HD hk hlt
          go_wp2_with (first | (refine wl_load (by rfl) 40 _ (by rfl) (w.heap.size + 1) 0 (by rfl) 40 4 [(.slice (some ⟨g', 0, none⟩) k c'), .int .i16 tub, .int .i8 every, .int .i16 0] [(.slice (some ⟨g', 0, none⟩) k c'), .int .i16 tub, .int .i8 every, .int .i16 0] (by with_reducible repeat (first | exact HX.out | refine Blk.alloc ?_ _ | refine Rw.alloc ?_ _ | refine Arg.alloc ?_ _ | apply below_alloc | refine Blk.drew ?_ | refine Rw.drew ?_ | refine Arg.drew ?_ | apply below_drew | refine Blk.drewN ?_ _ | refine Rw.drewN ?_ _ | refine Arg.drewN ?_ _ | apply pw_below_drewN)) (by rfl) (by rfl) _ Try.underlying40 (by rfl) (by kernel_rfl) ?_) | (refine wl_store (by rfl) 40 _ _ (by rfl) (w.heap.size) 0 (by rfl) 40 4 [.slice none 0 0, .int .i16 0, .int .i8 0, .int .i16 0] [.slice (some ⟨g', 0, none⟩) k c', .int .i16 tub, .int .i8 every, .int .i16 0] (by rfl) (by with_reducible repeat (first | exact HO.out | refine Blk.alloc ?_ _ | refine Rw.alloc ?_ _ | refine Arg.alloc ?_ _ | apply below_alloc | refine Blk.drew ?_ | refine Rw.drew ?_ | refine Arg.drew ?_ | apply below_drew | refine Blk.drewN ?_ _ | refine Rw.drewN ?_ _ | refine Arg.drewN ?_ _ | apply pw_below_drewN)) (by rfl) (by decide) (by kernel_rfl) (by rfl) ?_; intro w9 hw_ hg_; have HO9 : Aside0 (Blk w9 (w.heap.size) 40 [.slice (some ⟨g', 0, none⟩) k c', .int .i16 tub, .int .i8 every, .int .i16 0]) := ⟨Blk.all hw_ (by decide)⟩; have HW9 : Aside0 (Below w.heap.size w w9) := ⟨below_grown (by with_reducible repeat (first | exact HW.out | refine Blk.alloc ?_ _ | refine Rw.alloc ?_ _ | refine Arg.alloc ?_ _ | apply below_alloc | refine Blk.drew ?_ | refine Rw.drew ?_ | refine Arg.drew ?_ | apply below_drew | refine Blk.drewN ?_ _ | refine Rw.drewN ?_ _ | refine Arg.drewN ?_ _ | apply pw_below_drewN)) (by omega) (Below.size (by with_reducible repeat (first | exact HW.out | refine Blk.alloc ?_ _ | refine Rw.alloc ?_ _ | refine Arg.alloc ?_ _ | apply below_alloc | refine Blk.drew ?_ | refine Rw.drew ?_ | refine Arg.drew ?_ | apply below_drew | refine Blk.drewN ?_ _ | refine Rw.drewN ?_ _ | refine Arg.drewN ?_ _ | apply pw_below_drewN))) hg_⟩; have HR9 : Aside0 (Rw w9 g' k (newF N)) := ⟨Rw.grown (by with_reducible repeat (first | exact HR.out | refine Blk.alloc ?_ _ | refine Rw.alloc ?_ _ | refine Arg.alloc ?_ _ | apply below_alloc | refine Blk.drew ?_ | refine Rw.drew ?_ | refine Arg.drew ?_ | apply below_drew | refine Blk.drewN ?_ _ | refine Rw.drewN ?_ _ | refine Arg.drewN ?_ _ | apply pw_below_drewN)) hg_ (by intro h_; injection h_ with h_; omega)⟩; clear hw_ hg_))
          refine bodyPost_ret (v := .tuple #[.agg #[.slice (some ⟨g', 0, none⟩) k c', .int .i16 tub, .int .i8 every, .int .i16 0], .int .i64 0]) (results_cell2 (by rfl) _ _ (w.heap.size) [.slice (some ⟨g', 0, none⟩) k c', .int .i16 tub, .int .i8 every, .int .i16 0] _ _ (by rfl) (by rfl) HO9.out.whole Try.underlying40 (by rfl) (by kernel_rfl)) rfl ⟨g', c', rfl, by omega, HR9.out, HW9.out⟩
theorem below_same {f : FuncId} {args : Array Value} {E : Ending} {w : World} (h : Calls Try.prog f args w fun e w' => e = E ∧ w' = w) : Calls Try.prog f args w fun e w' => e = E ∧ Below w.heap.size w w' := h.mono (by rintro e w' ⟨rfl, rfl⟩; exact ⟨rfl, Below.refl _ _⟩)
set_option maxHeartbeats 4000000 in
set_option maxRecDepth 100000 in
theorem implNH_bad0 (N : Nat → Int) (n cN : Nat) (A : Option Addr) (tub every : Int) (hn : n ≤ 1048576) (hnc : n ≤ cN) (h1 : decide (1 ≤ (n : Int) ∧ (n : Int) ≤ 4) = false) (w : World) (hA : NdA w A n N) :
    Calls Try.prog 31 #[.slice A n cN, .int .i64 tub, .int .i64 every] w fun e w' => e = .returned (.tuple #[.agg #[.slice none 0 0, .int .i16 0, .int .i8 0, .int .i16 0], .int .i64 2]) ∧ Below w.heap.size w w' := by
  have HSZ := Aside0.mk (fun W => below_same (sizeN_q A n cN W))
  have HW1 := Aside0.mk (fun W => below_same (within_q (n : Int) 1 4 W))
  have HW2 := Aside0.mk (fun W h => areWithin_calls N n A cN (by omega) hnc W h)
  have HW3 := Aside0.mk (fun W => below_same (within_q tub 0 1000 W))
  have HW4 := Aside0.mk (fun W => below_same (within_q every 1 7 W))
  rw [h1] at HW1
  have HO : Aside0 (Blk (w.alloc (.cells #[.slice none 0 0, .int .i16 0, .int .i8 0, .int .i16 0] 40)) w.heap.size 40 [.slice none 0 0, .int .i16 0, .int .i8 0, .int .i16 0]) := ⟨Blk.new w _ _⟩
  have HW : Aside0 (Below w.heap.size w (w.alloc (.cells #[.slice none 0 0, .int .i16 0, .int .i8 0, .int .i16 0] 40))) := ⟨below_alloc (Below.refl _ _) _⟩
  have HAN := Aside0.mk hA
  have HA : Aside0 (NdA (w.alloc (.cells #[.slice none 0 0, .int .i16 0, .int .i8 0, .int .i16 0] 40)) A n N) := ⟨hA.alloc _⟩
  clear hA hn hnc
  clear h1
  go_enter Try.func31, Try.ntmps31
  go_wp2_with (fail)
  refine (HSZ.out _).mono ?_
  rintro e w1 ⟨rfl, hb⟩
  have hs_w1 := Below.size hb
  (try simp at hs_w1)
  replace HO : Aside0 (Blk w1 (w.heap.size) 40 [.slice none 0 0, .int .i16 0, .int .i8 0, .int .i16 0]) := ⟨Blk.below (by with_reducible repeat (first | exact HO.out | refine Blk.alloc ?_ _ | refine Rw.alloc ?_ _ | refine Arg.alloc ?_ _ | apply below_alloc | refine Blk.drew ?_ | refine Rw.drew ?_ | refine Arg.drew ?_ | apply below_drew | refine Blk.drewN ?_ _ | refine Rw.drewN ?_ _ | refine Arg.drewN ?_ _ | apply pw_below_drewN)) hb⟩
  replace HW : Aside0 (Below w.heap.size w w1) := ⟨below_step (by with_reducible repeat (first | exact HW.out | refine Blk.alloc ?_ _ | refine Rw.alloc ?_ _ | refine Arg.alloc ?_ _ | apply below_alloc | refine Blk.drew ?_ | refine Rw.drew ?_ | refine Arg.drew ?_ | apply below_drew | refine Blk.drewN ?_ _ | refine Rw.drewN ?_ _ | refine Arg.drewN ?_ _ | apply pw_below_drewN)) hb⟩
  clear hb
  go_wp2_with (fail)
  refine (HW1.out _).mono ?_
  rintro e w2 ⟨rfl, hb⟩
  have hs_w2 := Below.size hb
  (try simp at hs_w2)
  replace HO : Aside0 (Blk w2 (w.heap.size) 40 [.slice none 0 0, .int .i16 0, .int .i8 0, .int .i16 0]) := ⟨Blk.below (by with_reducible repeat (first | exact HO.out | refine Blk.alloc ?_ _ | refine Rw.alloc ?_ _ | refine Arg.alloc ?_ _ | apply below_alloc | refine Blk.drew ?_ | refine Rw.drew ?_ | refine Arg.drew ?_ | apply below_drew | refine Blk.drewN ?_ _ | refine Rw.drewN ?_ _ | refine Arg.drewN ?_ _ | apply pw_below_drewN)) hb⟩
  replace HW : Aside0 (Below w.heap.size w w2) := ⟨below_step (by with_reducible repeat (first | exact HW.out | refine Blk.alloc ?_ _ | refine Rw.alloc ?_ _ | refine Arg.alloc ?_ _ | apply below_alloc | refine Blk.drew ?_ | refine Rw.drew ?_ | refine Arg.drew ?_ | apply below_drew | refine Blk.drewN ?_ _ | refine Rw.drewN ?_ _ | refine Arg.drewN ?_ _ | apply pw_below_drewN)) hb⟩
  clear hb
  go_wp2_with (first | (refine wl_store (by rfl) 40 _ _ (by rfl) (w.heap.size) 0 (by rfl) 40 4 [.slice none 0 0, .int .i16 0, .int .i8 0, .int .i16 0] [.slice none 0 0, .int .i16 0, .int .i8 0, .int .i16 0] (by rfl) (by with_reducible repeat (first | exact HO.out | refine Blk.alloc ?_ _ | refine Rw.alloc ?_ _ | refine Arg.alloc ?_ _ | apply below_alloc | refine Blk.drew ?_ | refine Rw.drew ?_ | refine Arg.drew ?_ | apply below_drew | refine Blk.drewN ?_ _ | refine Rw.drewN ?_ _ | refine Arg.drewN ?_ _ | apply pw_below_drewN)) (by rfl) (by decide) (by kernel_rfl) (by rfl) ?_; intro w9 hw_ hg_; have HO9 : Aside0 (Blk w9 (w.heap.size) 40 [.slice none 0 0, .int .i16 0, .int .i8 0, .int .i16 0]) := ⟨Blk.all hw_ (by decide)⟩; have HW9 : Aside0 (Below w.heap.size w w9) := ⟨below_grown (by with_reducible repeat (first | exact HW.out | refine Blk.alloc ?_ _ | refine Rw.alloc ?_ _ | refine Arg.alloc ?_ _ | apply below_alloc | refine Blk.drew ?_ | refine Rw.drew ?_ | refine Arg.drew ?_ | apply below_drew | refine Blk.drewN ?_ _ | refine Rw.drewN ?_ _ | refine Arg.drewN ?_ _ | apply pw_below_drewN)) (by omega) (Below.size (by with_reducible repeat (first | exact HW.out | refine Blk.alloc ?_ _ | refine Rw.alloc ?_ _ | refine Arg.alloc ?_ _ | apply below_alloc | refine Blk.drew ?_ | refine Rw.drew ?_ | refine Arg.drew ?_ | apply below_drew | refine Blk.drewN ?_ _ | refine Rw.drewN ?_ _ | refine Arg.drewN ?_ _ | apply pw_below_drewN))) hg_⟩; clear hw_ hg_))
  refine bodyPost_ret (v := .tuple #[.agg #[.slice none 0 0, .int .i16 0, .int .i8 0, .int .i16 0], .int .i64 2]) (results_cell2 (by rfl) _ _ (w.heap.size) [.slice none 0 0, .int .i16 0, .int .i8 0, .int .i16 0] _ _ (by rfl) (by rfl) HO9.out.whole Try.underlying40 (by rfl) (by kernel_rfl)) rfl ⟨rfl, HW9.out⟩
set_option maxHeartbeats 4000000 in
set_option maxRecDepth 100000 in
theorem implNH_bad1 (N : Nat → Int) (n cN : Nat) (A : Option Addr) (tub every : Int) (hn : n ≤ 1048576) (hnc : n ≤ cN) (h1 : decide (1 ≤ (n : Int) ∧ (n : Int) ≤ 4) = true) (h2 : needB N n = false) (w : World) (hA : NdA w A n N) :
    Calls Try.prog 31 #[.slice A n cN, .int .i64 tub, .int .i64 every] w fun e w' => e = .returned (.tuple #[.agg #[.slice none 0 0, .int .i16 0, .int .i8 0, .int .i16 0], .int .i64 2]) ∧ Below w.heap.size w w' := by
  have HSZ := Aside0.mk (fun W => below_same (sizeN_q A n cN W))
  have HW1 := Aside0.mk (fun W => below_same (within_q (n : Int) 1 4 W))
  have HW2 := Aside0.mk (fun W h => areWithin_calls N n A cN (by omega) hnc W h)
  have HW3 := Aside0.mk (fun W => below_same (within_q tub 0 1000 W))
  have HW4 := Aside0.mk (fun W => below_same (within_q every 1 7 W))
  rw [h1] at HW1
  rw [h2] at HW2
  have HO : Aside0 (Blk (w.alloc (.cells #[.slice none 0 0, .int .i16 0, .int .i8 0, .int .i16 0] 40)) w.heap.size 40 [.slice none 0 0, .int .i16 0, .int .i8 0, .int .i16 0]) := ⟨Blk.new w _ _⟩
  have HW : Aside0 (Below w.heap.size w (w.alloc (.cells #[.slice none 0 0, .int .i16 0, .int .i8 0, .int .i16 0] 40))) := ⟨below_alloc (Below.refl _ _) _⟩
  have HAN := Aside0.mk hA
  have HA : Aside0 (NdA (w.alloc (.cells #[.slice none 0 0, .int .i16 0, .int .i8 0, .int .i16 0] 40)) A n N) := ⟨hA.alloc _⟩
  clear hA hn hnc
  clear h1 h2
  go_enter Try.func31, Try.ntmps31
  go_wp2_with (fail)
  refine (HSZ.out _).mono ?_
  rintro e w1 ⟨rfl, hb⟩
  have hs_w1 := Below.size hb
  (try simp at hs_w1)
  replace HO : Aside0 (Blk w1 (w.heap.size) 40 [.slice none 0 0, .int .i16 0, .int .i8 0, .int .i16 0]) := ⟨Blk.below (by with_reducible repeat (first | exact HO.out | refine Blk.alloc ?_ _ | refine Rw.alloc ?_ _ | refine Arg.alloc ?_ _ | apply below_alloc | refine Blk.drew ?_ | refine Rw.drew ?_ | refine Arg.drew ?_ | apply below_drew | refine Blk.drewN ?_ _ | refine Rw.drewN ?_ _ | refine Arg.drewN ?_ _ | apply pw_below_drewN)) hb⟩
  replace HW : Aside0 (Below w.heap.size w w1) := ⟨below_step (by with_reducible repeat (first | exact HW.out | refine Blk.alloc ?_ _ | refine Rw.alloc ?_ _ | refine Arg.alloc ?_ _ | apply below_alloc | refine Blk.drew ?_ | refine Rw.drew ?_ | refine Arg.drew ?_ | apply below_drew | refine Blk.drewN ?_ _ | refine Rw.drewN ?_ _ | refine Arg.drewN ?_ _ | apply pw_below_drewN)) hb⟩
  clear hb
  go_wp2_with (fail)
  refine (HW1.out _).mono ?_
  rintro e w2 ⟨rfl, hb⟩
  have hs_w2 := Below.size hb
  (try simp at hs_w2)
  replace HO : Aside0 (Blk w2 (w.heap.size) 40 [.slice none 0 0, .int .i16 0, .int .i8 0, .int .i16 0]) := ⟨Blk.below (by with_reducible repeat (first | exact HO.out | refine Blk.alloc ?_ _ | refine Rw.alloc ?_ _ | refine Arg.alloc ?_ _ | apply below_alloc | refine Blk.drew ?_ | refine Rw.drew ?_ | refine Arg.drew ?_ | apply below_drew | refine Blk.drewN ?_ _ | refine Rw.drewN ?_ _ | refine Arg.drewN ?_ _ | apply pw_below_drewN)) hb⟩
  replace HW : Aside0 (Below w.heap.size w w2) := ⟨below_step (by with_reducible repeat (first | exact HW.out | refine Blk.alloc ?_ _ | refine Rw.alloc ?_ _ | refine Arg.alloc ?_ _ | apply below_alloc | refine Blk.drew ?_ | refine Rw.drew ?_ | refine Arg.drew ?_ | apply below_drew | refine Blk.drewN ?_ _ | refine Rw.drewN ?_ _ | refine Arg.drewN ?_ _ | apply pw_below_drewN)) hb⟩
  clear hb
  go_wp2_with (fail)
  refine (HW2.out _ (HAN.out.below (by with_reducible repeat (first | exact HW.out | refine Blk.alloc ?_ _ | refine Rw.alloc ?_ _ | refine Arg.alloc ?_ _ | apply below_alloc | refine Blk.drew ?_ | refine Rw.drew ?_ | refine Arg.drew ?_ | apply below_drew | refine Blk.drewN ?_ _ | refine Rw.drewN ?_ _ | refine Arg.drewN ?_ _ | apply pw_below_drewN)))).mono ?_
  rintro e w3 ⟨rfl, hb⟩
  have hs_w3 := Below.size hb
  (try simp at hs_w3)
  replace HO : Aside0 (Blk w3 (w.heap.size) 40 [.slice none 0 0, .int .i16 0, .int .i8 0, .int .i16 0]) := ⟨Blk.below (by with_reducible repeat (first | exact HO.out | refine Blk.alloc ?_ _ | refine Rw.alloc ?_ _ | refine Arg.alloc ?_ _ | apply below_alloc | refine Blk.drew ?_ | refine Rw.drew ?_ | refine Arg.drew ?_ | apply below_drew | refine Blk.drewN ?_ _ | refine Rw.drewN ?_ _ | refine Arg.drewN ?_ _ | apply pw_below_drewN)) hb⟩
  replace HW : Aside0 (Below w.heap.size w w3) := ⟨below_step (by with_reducible repeat (first | exact HW.out | refine Blk.alloc ?_ _ | refine Rw.alloc ?_ _ | refine Arg.alloc ?_ _ | apply below_alloc | refine Blk.drew ?_ | refine Rw.drew ?_ | refine Arg.drew ?_ | apply below_drew | refine Blk.drewN ?_ _ | refine Rw.drewN ?_ _ | refine Arg.drewN ?_ _ | apply pw_below_drewN)) hb⟩
  clear hb
  go_wp2_with (first | (refine wl_store (by rfl) 40 _ _ (by rfl) (w.heap.size) 0 (by rfl) 40 4 [.slice none 0 0, .int .i16 0, .int .i8 0, .int .i16 0] [.slice none 0 0, .int .i16 0, .int .i8 0, .int .i16 0] (by rfl) (by with_reducible repeat (first | exact HO.out | refine Blk.alloc ?_ _ | refine Rw.alloc ?_ _ | refine Arg.alloc ?_ _ | apply below_alloc | refine Blk.drew ?_ | refine Rw.drew ?_ | refine Arg.drew ?_ | apply below_drew | refine Blk.drewN ?_ _ | refine Rw.drewN ?_ _ | refine Arg.drewN ?_ _ | apply pw_below_drewN)) (by rfl) (by decide) (by kernel_rfl) (by rfl) ?_; intro w9 hw_ hg_; have HO9 : Aside0 (Blk w9 (w.heap.size) 40 [.slice none 0 0, .int .i16 0, .int .i8 0, .int .i16 0]) := ⟨Blk.all hw_ (by decide)⟩; have HW9 : Aside0 (Below w.heap.size w w9) := ⟨below_grown (by with_reducible repeat (first | exact HW.out | refine Blk.alloc ?_ _ | refine Rw.alloc ?_ _ | refine Arg.alloc ?_ _ | apply below_alloc | refine Blk.drew ?_ | refine Rw.drew ?_ | refine Arg.drew ?_ | apply below_drew | refine Blk.drewN ?_ _ | refine Rw.drewN ?_ _ | refine Arg.drewN ?_ _ | apply pw_below_drewN)) (by omega) (Below.size (by with_reducible repeat (first | exact HW.out | refine Blk.alloc ?_ _ | refine Rw.alloc ?_ _ | refine Arg.alloc ?_ _ | apply below_alloc | refine Blk.drew ?_ | refine Rw.drew ?_ | refine Arg.drew ?_ | apply below_drew | refine Blk.drewN ?_ _ | refine Rw.drewN ?_ _ | refine Arg.drewN ?_ _ | apply pw_below_drewN))) hg_⟩; clear hw_ hg_))
  refine bodyPost_ret (v := .tuple #[.agg #[.slice none 0 0, .int .i16 0, .int .i8 0, .int .i16 0], .int .i64 2]) (results_cell2 (by rfl) _ _ (w.heap.size) [.slice none 0 0, .int .i16 0, .int .i8 0, .int .i16 0] _ _ (by rfl) (by rfl) HO9.out.whole Try.underlying40 (by rfl) (by kernel_rfl)) rfl ⟨rfl, HW9.out⟩
set_option maxHeartbeats 4000000 in
set_option maxRecDepth 100000 in
theorem implNH_bad2 (N : Nat → Int) (n cN : Nat) (A : Option Addr) (tub every : Int) (hn : n ≤ 1048576) (hnc : n ≤ cN) (h1 : decide (1 ≤ (n : Int) ∧ (n : Int) ≤ 4) = true) (h2 : needB N n = true) (h3 : decide (0 ≤ tub ∧ tub ≤ 1000) = false) (w : World) (hA : NdA w A n N) :
    Calls Try.prog 31 #[.slice A n cN, .int .i64 tub, .int .i64 every] w fun e w' => e = .returned (.tuple #[.agg #[.slice none 0 0, .int .i16 0, .int .i8 0, .int .i16 0], .int .i64 2]) ∧ Below w.heap.size w w' := by
  have HSZ := Aside0.mk (fun W => below_same (sizeN_q A n cN W))
  have HW1 := Aside0.mk (fun W => below_same (within_q (n : Int) 1 4 W))
  have HW2 := Aside0.mk (fun W h => areWithin_calls N n A cN (by omega) hnc W h)
  have HW3 := Aside0.mk (fun W => below_same (within_q tub 0 1000 W))
  have HW4 := Aside0.mk (fun W => below_same (within_q every 1 7 W))
  rw [h1] at HW1
  rw [h2] at HW2
  rw [h3] at HW3
  have HO : Aside0 (Blk (w.alloc (.cells #[.slice none 0 0, .int .i16 0, .int .i8 0, .int .i16 0] 40)) w.heap.size 40 [.slice none 0 0, .int .i16 0, .int .i8 0, .int .i16 0]) := ⟨Blk.new w _ _⟩
  have HW : Aside0 (Below w.heap.size w (w.alloc (.cells #[.slice none 0 0, .int .i16 0, .int .i8 0, .int .i16 0] 40))) := ⟨below_alloc (Below.refl _ _) _⟩
  have HAN := Aside0.mk hA
  have HA : Aside0 (NdA (w.alloc (.cells #[.slice none 0 0, .int .i16 0, .int .i8 0, .int .i16 0] 40)) A n N) := ⟨hA.alloc _⟩
  clear hA hn hnc
  clear h1 h2 h3
  go_enter Try.func31, Try.ntmps31
  go_wp2_with (fail)
  refine (HSZ.out _).mono ?_
  rintro e w1 ⟨rfl, hb⟩
  have hs_w1 := Below.size hb
  (try simp at hs_w1)
  replace HO : Aside0 (Blk w1 (w.heap.size) 40 [.slice none 0 0, .int .i16 0, .int .i8 0, .int .i16 0]) := ⟨Blk.below (by with_reducible repeat (first | exact HO.out | refine Blk.alloc ?_ _ | refine Rw.alloc ?_ _ | refine Arg.alloc ?_ _ | apply below_alloc | refine Blk.drew ?_ | refine Rw.drew ?_ | refine Arg.drew ?_ | apply below_drew | refine Blk.drewN ?_ _ | refine Rw.drewN ?_ _ | refine Arg.drewN ?_ _ | apply pw_below_drewN)) hb⟩
  replace HW : Aside0 (Below w.heap.size w w1) := ⟨below_step (by with_reducible repeat (first | exact HW.out | refine Blk.alloc ?_ _ | refine Rw.alloc ?_ _ | refine Arg.alloc ?_ _ | apply below_alloc | refine Blk.drew ?_ | refine Rw.drew ?_ | refine Arg.drew ?_ | apply below_drew | refine Blk.drewN ?_ _ | refine Rw.drewN ?_ _ | refine Arg.drewN ?_ _ | apply pw_below_drewN)) hb⟩
  clear hb
  go_wp2_with (fail)
  refine (HW1.out _).mono ?_
  rintro e w2 ⟨rfl, hb⟩
  have hs_w2 := Below.size hb
  (try simp at hs_w2)
  replace HO : Aside0 (Blk w2 (w.heap.size) 40 [.slice none 0 0, .int .i16 0, .int .i8 0, .int .i16 0]) := ⟨Blk.below (by with_reducible repeat (first | exact HO.out | refine Blk.alloc ?_ _ | refine Rw.alloc ?_ _ | refine Arg.alloc ?_ _ | apply below_alloc | refine Blk.drew ?_ | refine Rw.drew ?_ | refine Arg.drew ?_ | apply below_drew | refine Blk.drewN ?_ _ | refine Rw.drewN ?_ _ | refine Arg.drewN ?_ _ | apply pw_below_drewN)) hb⟩
  replace HW : Aside0 (Below w.heap.size w w2) := ⟨below_step (by with_reducible repeat (first | exact HW.out | refine Blk.alloc ?_ _ | refine Rw.alloc ?_ _ | refine Arg.alloc ?_ _ | apply below_alloc | refine Blk.drew ?_ | refine Rw.drew ?_ | refine Arg.drew ?_ | apply below_drew | refine Blk.drewN ?_ _ | refine Rw.drewN ?_ _ | refine Arg.drewN ?_ _ | apply pw_below_drewN)) hb⟩
  clear hb
  go_wp2_with (fail)
  refine (HW2.out _ (HAN.out.below (by with_reducible repeat (first | exact HW.out | refine Blk.alloc ?_ _ | refine Rw.alloc ?_ _ | refine Arg.alloc ?_ _ | apply below_alloc | refine Blk.drew ?_ | refine Rw.drew ?_ | refine Arg.drew ?_ | apply below_drew | refine Blk.drewN ?_ _ | refine Rw.drewN ?_ _ | refine Arg.drewN ?_ _ | apply pw_below_drewN)))).mono ?_
  rintro e w3 ⟨rfl, hb⟩
  have hs_w3 := Below.size hb
  (try simp at hs_w3)
  replace HO : Aside0 (Blk w3 (w.heap.size) 40 [.slice none 0 0, .int .i16 0, .int .i8 0, .int .i16 0]) := ⟨Blk.below (by with_reducible repeat (first | exact HO.out | refine Blk.alloc ?_ _ | refine Rw.alloc ?_ _ | refine Arg.alloc ?_ _ | apply below_alloc | refine Blk.drew ?_ | refine Rw.drew ?_ | refine Arg.drew ?_ | apply below_drew | refine Blk.drewN ?_ _ | refine Rw.drewN ?_ _ | refine Arg.drewN ?_ _ | apply pw_below_drewN)) hb⟩
  replace HW : Aside0 (Below w.heap.size w w3) := ⟨below_step (by with_reducible repeat (first | exact HW.out | refine Blk.alloc ?_ _ | refine Rw.alloc ?_ _ | refine Arg.alloc ?_ _ | apply below_alloc | refine Blk.drew ?_ | refine Rw.drew ?_ | refine Arg.drew ?_ | apply below_drew | refine Blk.drewN ?_ _ | refine Rw.drewN ?_ _ | refine Arg.drewN ?_ _ | apply pw_below_drewN)) hb⟩
  clear hb
  go_wp2_with (fail)
  refine (HW3.out _).mono ?_
  rintro e w4 ⟨rfl, hb⟩
  have hs_w4 := Below.size hb
  (try simp at hs_w4)
  replace HO : Aside0 (Blk w4 (w.heap.size) 40 [.slice none 0 0, .int .i16 0, .int .i8 0, .int .i16 0]) := ⟨Blk.below (by with_reducible repeat (first | exact HO.out | refine Blk.alloc ?_ _ | refine Rw.alloc ?_ _ | refine Arg.alloc ?_ _ | apply below_alloc | refine Blk.drew ?_ | refine Rw.drew ?_ | refine Arg.drew ?_ | apply below_drew | refine Blk.drewN ?_ _ | refine Rw.drewN ?_ _ | refine Arg.drewN ?_ _ | apply pw_below_drewN)) hb⟩
  replace HW : Aside0 (Below w.heap.size w w4) := ⟨below_step (by with_reducible repeat (first | exact HW.out | refine Blk.alloc ?_ _ | refine Rw.alloc ?_ _ | refine Arg.alloc ?_ _ | apply below_alloc | refine Blk.drew ?_ | refine Rw.drew ?_ | refine Arg.drew ?_ | apply below_drew | refine Blk.drewN ?_ _ | refine Rw.drewN ?_ _ | refine Arg.drewN ?_ _ | apply pw_below_drewN)) hb⟩
  clear hb
  go_wp2_with (first | (refine wl_store (by rfl) 40 _ _ (by rfl) (w.heap.size) 0 (by rfl) 40 4 [.slice none 0 0, .int .i16 0, .int .i8 0, .int .i16 0] [.slice none 0 0, .int .i16 0, .int .i8 0, .int .i16 0] (by rfl) (by with_reducible repeat (first | exact HO.out | refine Blk.alloc ?_ _ | refine Rw.alloc ?_ _ | refine Arg.alloc ?_ _ | apply below_alloc | refine Blk.drew ?_ | refine Rw.drew ?_ | refine Arg.drew ?_ | apply below_drew | refine Blk.drewN ?_ _ | refine Rw.drewN ?_ _ | refine Arg.drewN ?_ _ | apply pw_below_drewN)) (by rfl) (by decide) (by kernel_rfl) (by rfl) ?_; intro w9 hw_ hg_; have HO9 : Aside0 (Blk w9 (w.heap.size) 40 [.slice none 0 0, .int .i16 0, .int .i8 0, .int .i16 0]) := ⟨Blk.all hw_ (by decide)⟩; have HW9 : Aside0 (Below w.heap.size w w9) := ⟨below_grown (by with_reducible repeat (first | exact HW.out | refine Blk.alloc ?_ _ | refine Rw.alloc ?_ _ | refine Arg.alloc ?_ _ | apply below_alloc | refine Blk.drew ?_ | refine Rw.drew ?_ | refine Arg.drew ?_ | apply below_drew | refine Blk.drewN ?_ _ | refine Rw.drewN ?_ _ | refine Arg.drewN ?_ _ | apply pw_below_drewN)) (by omega) (Below.size (by with_reducible repeat (first | exact HW.out | refine Blk.alloc ?_ _ | refine Rw.alloc ?_ _ | refine Arg.alloc ?_ _ | apply below_alloc | refine Blk.drew ?_ | refine Rw.drew ?_ | refine Arg.drew ?_ | apply below_drew | refine Blk.drewN ?_ _ | refine Rw.drewN ?_ _ | refine Arg.drewN ?_ _ | apply pw_below_drewN))) hg_⟩; clear hw_ hg_))
  refine bodyPost_ret (v := .tuple #[.agg #[.slice none 0 0, .int .i16 0, .int .i8 0, .int .i16 0], .int .i64 2]) (results_cell2 (by rfl) _ _ (w.heap.size) [.slice none 0 0, .int .i16 0, .int .i8 0, .int .i16 0] _ _ (by rfl) (by rfl) HO9.out.whole Try.underlying40 (by rfl) (by kernel_rfl)) rfl ⟨rfl, HW9.out⟩
set_option maxHeartbeats 4000000 in
set_option maxRecDepth 100000 in
theorem implNH_bad3 (N : Nat → Int) (n cN : Nat) (A : Option Addr) (tub every : Int) (hn : n ≤ 1048576) (hnc : n ≤ cN) (h1 : decide (1 ≤ (n : Int) ∧ (n : Int) ≤ 4) = true) (h2 : needB N n = true) (h3 : decide (0 ≤ tub ∧ tub ≤ 1000) = true) (h4 : decide (1 ≤ every ∧ every ≤ 7) = false) (w : World) (hA : NdA w A n N) :
    Calls Try.prog 31 #[.slice A n cN, .int .i64 tub, .int .i64 every] w fun e w' => e = .returned (.tuple #[.agg #[.slice none 0 0, .int .i16 0, .int .i8 0, .int .i16 0], .int .i64 2]) ∧ Below w.heap.size w w' := by
  have HSZ := Aside0.mk (fun W => below_same (sizeN_q A n cN W))
  have HW1 := Aside0.mk (fun W => below_same (within_q (n : Int) 1 4 W))
  have HW2 := Aside0.mk (fun W h => areWithin_calls N n A cN (by omega) hnc W h)
  have HW3 := Aside0.mk (fun W => below_same (within_q tub 0 1000 W))
  have HW4 := Aside0.mk (fun W => below_same (within_q every 1 7 W))
  rw [h1] at HW1
  rw [h2] at HW2
  rw [h3] at HW3
  rw [h4] at HW4
  have HO : Aside0 (Blk (w.alloc (.cells #[.slice none 0 0, .int .i16 0, .int .i8 0, .int .i16 0] 40)) w.heap.size 40 [.slice none 0 0, .int .i16 0, .int .i8 0, .int .i16 0]) := ⟨Blk.new w _ _⟩
  have HW : Aside0 (Below w.heap.size w (w.alloc (.cells #[.slice none 0 0, .int .i16 0, .int .i8 0, .int .i16 0] 40))) := ⟨below_alloc (Below.refl _ _) _⟩
  have HAN := Aside0.mk hA
  have HA : Aside0 (NdA (w.alloc (.cells #[.slice none 0 0, .int .i16 0, .int .i8 0, .int .i16 0] 40)) A n N) := ⟨hA.alloc _⟩
  clear hA hn hnc
  clear h1 h2 h3 h4
  go_enter Try.func31, Try.ntmps31
  go_wp2_with (fail)
  refine (HSZ.out _).mono ?_
  rintro e w1 ⟨rfl, hb⟩
  have hs_w1 := Below.size hb
  (try simp at hs_w1)
  replace HO : Aside0 (Blk w1 (w.heap.size) 40 [.slice none 0 0, .int .i16 0, .int .i8 0, .int .i16 0]) := ⟨Blk.below (by with_reducible repeat (first | exact HO.out | refine Blk.alloc ?_ _ | refine Rw.alloc ?_ _ | refine Arg.alloc ?_ _ | apply below_alloc | refine Blk.drew ?_ | refine Rw.drew ?_ | refine Arg.drew ?_ | apply below_drew | refine Blk.drewN ?_ _ | refine Rw.drewN ?_ _ | refine Arg.drewN ?_ _ | apply pw_below_drewN)) hb⟩
  replace HW : Aside0 (Below w.heap.size w w1) := ⟨below_step (by with_reducible repeat (first | exact HW.out | refine Blk.alloc ?_ _ | refine Rw.alloc ?_ _ | refine Arg.alloc ?_ _ | apply below_alloc | refine Blk.drew ?_ | refine Rw.drew ?_ | refine Arg.drew ?_ | apply below_drew | refine Blk.drewN ?_ _ | refine Rw.drewN ?_ _ | refine Arg.drewN ?_ _ | apply pw_below_drewN)) hb⟩
  clear hb
  go_wp2_with (fail)
  refine (HW1.out _).mono ?_
  rintro e w2 ⟨rfl, hb⟩
  have hs_w2 := Below.size hb
  (try simp at hs_w2)
  replace HO : Aside0 (Blk w2 (w.heap.size) 40 [.slice none 0 0, .int .i16 0, .int .i8 0, .int .i16 0]) := ⟨Blk.below (by with_reducible repeat (first | exact HO.out | refine Blk.alloc ?_ _ | refine Rw.alloc ?_ _ | refine Arg.alloc ?_ _ | apply below_alloc | refine Blk.drew ?_ | refine Rw.drew ?_ | refine Arg.drew ?_ | apply below_drew | refine Blk.drewN ?_ _ | refine Rw.drewN ?_ _ | refine Arg.drewN ?_ _ | apply pw_below_drewN)) hb⟩
  replace HW : Aside0 (Below w.heap.size w w2) := ⟨below_step (by with_reducible repeat (first | exact HW.out | refine Blk.alloc ?_ _ | refine Rw.alloc ?_ _ | refine Arg.alloc ?_ _ | apply below_alloc | refine Blk.drew ?_ | refine Rw.drew ?_ | refine Arg.drew ?_ | apply below_drew | refine Blk.drewN ?_ _ | refine Rw.drewN ?_ _ | refine Arg.drewN ?_ _ | apply pw_below_drewN)) hb⟩
  clear hb
  go_wp2_with (fail)
  refine (HW2.out _ (HAN.out.below (by with_reducible repeat (first | exact HW.out | refine Blk.alloc ?_ _ | refine Rw.alloc ?_ _ | refine Arg.alloc ?_ _ | apply below_alloc | refine Blk.drew ?_ | refine Rw.drew ?_ | refine Arg.drew ?_ | apply below_drew | refine Blk.drewN ?_ _ | refine Rw.drewN ?_ _ | refine Arg.drewN ?_ _ | apply pw_below_drewN)))).mono ?_
  rintro e w3 ⟨rfl, hb⟩
  have hs_w3 := Below.size hb
  (try simp at hs_w3)
  replace HO : Aside0 (Blk w3 (w.heap.size) 40 [.slice none 0 0, .int .i16 0, .int .i8 0, .int .i16 0]) := ⟨Blk.below (by with_reducible repeat (first | exact HO.out | refine Blk.alloc ?_ _ | refine Rw.alloc ?_ _ | refine Arg.alloc ?_ _ | apply below_alloc | refine Blk.drew ?_ | refine Rw.drew ?_ | refine Arg.drew ?_ | apply below_drew | refine Blk.drewN ?_ _ | refine Rw.drewN ?_ _ | refine Arg.drewN ?_ _ | apply pw_below_drewN)) hb⟩
  replace HW : Aside0 (Below w.heap.size w w3) := ⟨below_step (by with_reducible repeat (first | exact HW.out | refine Blk.alloc ?_ _ | refine Rw.alloc ?_ _ | refine Arg.alloc ?_ _ | apply below_alloc | refine Blk.drew ?_ | refine Rw.drew ?_ | refine Arg.drew ?_ | apply below_drew | refine Blk.drewN ?_ _ | refine Rw.drewN ?_ _ | refine Arg.drewN ?_ _ | apply pw_below_drewN)) hb⟩
  clear hb
  go_wp2_with (fail)
  refine (HW3.out _).mono ?_
  rintro e w4 ⟨rfl, hb⟩
  have hs_w4 := Below.size hb
  (try simp at hs_w4)
  replace HO : Aside0 (Blk w4 (w.heap.size) 40 [.slice none 0 0, .int .i16 0, .int .i8 0, .int .i16 0]) := ⟨Blk.below (by with_reducible repeat (first | exact HO.out | refine Blk.alloc ?_ _ | refine Rw.alloc ?_ _ | refine Arg.alloc ?_ _ | apply below_alloc | refine Blk.drew ?_ | refine Rw.drew ?_ | refine Arg.drew ?_ | apply below_drew | refine Blk.drewN ?_ _ | refine Rw.drewN ?_ _ | refine Arg.drewN ?_ _ | apply pw_below_drewN)) hb⟩
  replace HW : Aside0 (Below w.heap.size w w4) := ⟨below_step (by with_reducible repeat (first | exact HW.out | refine Blk.alloc ?_ _ | refine Rw.alloc ?_ _ | refine Arg.alloc ?_ _ | apply below_alloc | refine Blk.drew ?_ | refine Rw.drew ?_ | refine Arg.drew ?_ | apply below_drew | refine Blk.drewN ?_ _ | refine Rw.drewN ?_ _ | refine Arg.drewN ?_ _ | apply pw_below_drewN)) hb⟩
  clear hb
  go_wp2_with (fail)
  refine (HW4.out _).mono ?_
  rintro e w5 ⟨rfl, hb⟩
  have hs_w5 := Below.size hb
  (try simp at hs_w5)
  replace HO : Aside0 (Blk w5 (w.heap.size) 40 [.slice none 0 0, .int .i16 0, .int .i8 0, .int .i16 0]) := ⟨Blk.below (by with_reducible repeat (first | exact HO.out | refine Blk.alloc ?_ _ | refine Rw.alloc ?_ _ | refine Arg.alloc ?_ _ | apply below_alloc | refine Blk.drew ?_ | refine Rw.drew ?_ | refine Arg.drew ?_ | apply below_drew | refine Blk.drewN ?_ _ | refine Rw.drewN ?_ _ | refine Arg.drewN ?_ _ | apply pw_below_drewN)) hb⟩
  replace HW : Aside0 (Below w.heap.size w w5) := ⟨below_step (by with_reducible repeat (first | exact HW.out | refine Blk.alloc ?_ _ | refine Rw.alloc ?_ _ | refine Arg.alloc ?_ _ | apply below_alloc | refine Blk.drew ?_ | refine Rw.drew ?_ | refine Arg.drew ?_ | apply below_drew | refine Blk.drewN ?_ _ | refine Rw.drewN ?_ _ | refine Arg.drewN ?_ _ | apply pw_below_drewN)) hb⟩
  clear hb
  go_wp2_with (first | (refine wl_store (by rfl) 40 _ _ (by rfl) (w.heap.size) 0 (by rfl) 40 4 [.slice none 0 0, .int .i16 0, .int .i8 0, .int .i16 0] [.slice none 0 0, .int .i16 0, .int .i8 0, .int .i16 0] (by rfl) (by with_reducible repeat (first | exact HO.out | refine Blk.alloc ?_ _ | refine Rw.alloc ?_ _ | refine Arg.alloc ?_ _ | apply below_alloc | refine Blk.drew ?_ | refine Rw.drew ?_ | refine Arg.drew ?_ | apply below_drew | refine Blk.drewN ?_ _ | refine Rw.drewN ?_ _ | refine Arg.drewN ?_ _ | apply pw_below_drewN)) (by rfl) (by decide) (by kernel_rfl) (by rfl) ?_; intro w9 hw_ hg_; have HO9 : Aside0 (Blk w9 (w.heap.size) 40 [.slice none 0 0, .int .i16 0, .int .i8 0, .int .i16 0]) := ⟨Blk.all hw_ (by decide)⟩; have HW9 : Aside0 (Below w.heap.size w w9) := ⟨below_grown (by with_reducible repeat (first | exact HW.out | refine Blk.alloc ?_ _ | refine Rw.alloc ?_ _ | refine Arg.alloc ?_ _ | apply below_alloc | refine Blk.drew ?_ | refine Rw.drew ?_ | refine Arg.drew ?_ | apply below_drew | refine Blk.drewN ?_ _ | refine Rw.drewN ?_ _ | refine Arg.drewN ?_ _ | apply pw_below_drewN)) (by omega) (Below.size (by with_reducible repeat (first | exact HW.out | refine Blk.alloc ?_ _ | refine Rw.alloc ?_ _ | refine Arg.alloc ?_ _ | apply below_alloc | refine Blk.drew ?_ | refine Rw.drew ?_ | refine Arg.drew ?_ | apply below_drew | refine Blk.drewN ?_ _ | refine Rw.drewN ?_ _ | refine Arg.drewN ?_ _ | apply pw_below_drewN))) hg_⟩; clear hw_ hg_))
  refine bodyPost_ret (v := .tuple #[.agg #[.slice none 0 0, .int .i16 0, .int .i8 0, .int .i16 0], .int .i64 2]) (results_cell2 (by rfl) _ _ (w.heap.size) [.slice none 0 0, .int .i16 0, .int .i8 0, .int .i16 0] _ _ (by rfl) (by rfl) HO9.out.whole Try.underlying40 (by rfl) (by kernel_rfl)) rfl ⟨rfl, HW9.out⟩
set_option maxHeartbeats 4000000 in
set_option maxRecDepth 100000 in
theorem implNH_ok (N : Nat → Int) (n cN : Nat) (A : Option Addr) (tub every : Int) (hn : n ≤ 1048576) (hnc : n ≤ cN) (hn4 : 0 < n ∧ n ≤ 4) (ht : 0 ≤ tub ∧ tub ≤ 1000) (hv : 1 ≤ every ∧ every ≤ 7) (h1 : decide (1 ≤ (n : Int) ∧ (n : Int) ≤ 4) = true) (h2 : needB N n = true) (h3 : decide (0 ≤ tub ∧ tub ≤ 1000) = true) (h4 : decide (1 ≤ every ∧ every ≤ 7) = true) (w : World) (hA : NdA w A n N) :
    Calls Try.prog 31 #[.slice A n cN, .int .i64 tub, .int .i64 every] w fun e w' => ∃ g' c', e = .returned (.tuple #[.agg #[.slice (some ⟨g', 0, none⟩) n c', .int .i16 tub, .int .i8 every, .int .i16 0], .int .i64 0]) ∧ w.heap.size ≤ g' ∧ Rw w' g' n (newF N) ∧ Below w.heap.size w w' := by
  obtain ⟨i0, hi, hz0, hz1, hz2⟩ := info_parts stockInfo
  have HI := Aside0.mk (And.intro hi (And.intro hz0 (And.intro hz1 hz2)))
  have h16 : IntKind.i16.wrap tub = tub := IntWalk.i16_in _ ⟨by omega, by omega⟩
  have h8 : IntKind.i8.wrap every = every := IntWalk.i8_in _ ⟨by omega, by omega⟩
  have HNK := Aside0.mk ((needB_iff N n).1 h2)
  have HSZ := Aside0.mk (fun W => below_same (sizeN_q A n cN W))
  have HW1 := Aside0.mk (fun W => below_same (within_q (n : Int) 1 4 W))
  have HW2 := Aside0.mk (fun W h => areWithin_calls N n A cN (by omega) hnc W h)
  have HW3 := Aside0.mk (fun W => below_same (within_q tub 0 1000 W))
  have HW4 := Aside0.mk (fun W => below_same (within_q every 1 7 W))
  rw [h1] at HW1
  rw [h2] at HW2
  rw [h3] at HW3
  rw [h4] at HW4
  have HAN := Aside0.mk hA
  obtain ⟨gN, rfl, hNd⟩ := hA (by omega)
  have HNd := Aside0.mk hNd
  have hgN := hNd.1
  have HO : Aside0 (Blk (w.alloc (.cells #[.slice none 0 0, .int .i16 0, .int .i8 0, .int .i16 0] 40)) w.heap.size 40 [.slice none 0 0, .int .i16 0, .int .i8 0, .int .i16 0]) := ⟨Blk.new w _ _⟩
  have HW : Aside0 (Below w.heap.size w (w.alloc (.cells #[.slice none 0 0, .int .i16 0, .int .i8 0, .int .i16 0] 40))) := ⟨below_alloc (Below.refl _ _) _⟩
  clear hn hnc hi hz0 hz1 hz2 ht hv hNd h1 h2 h3 h4
  go_enter Try.func31, Try.ntmps31
  go_wp2_with (fail)
  refine (HSZ.out _).mono ?_
  rintro e w1 ⟨rfl, hb⟩
  have hs_w1 := Below.size hb
  (try simp at hs_w1)
  replace HO : Aside0 (Blk w1 (w.heap.size) 40 [.slice none 0 0, .int .i16 0, .int .i8 0, .int .i16 0]) := ⟨Blk.below (by with_reducible repeat (first | exact HO.out | refine Blk.alloc ?_ _ | refine Rw.alloc ?_ _ | refine Arg.alloc ?_ _ | apply below_alloc | refine Blk.drew ?_ | refine Rw.drew ?_ | refine Arg.drew ?_ | apply below_drew | refine Blk.drewN ?_ _ | refine Rw.drewN ?_ _ | refine Arg.drewN ?_ _ | apply pw_below_drewN)) hb⟩
  replace HW : Aside0 (Below w.heap.size w w1) := ⟨below_step (by with_reducible repeat (first | exact HW.out | refine Blk.alloc ?_ _ | refine Rw.alloc ?_ _ | refine Arg.alloc ?_ _ | apply below_alloc | refine Blk.drew ?_ | refine Rw.drew ?_ | refine Arg.drew ?_ | apply below_drew | refine Blk.drewN ?_ _ | refine Rw.drewN ?_ _ | refine Arg.drewN ?_ _ | apply pw_below_drewN)) hb⟩
  clear hb
  go_wp2_with (fail)
  refine (HW1.out _).mono ?_
  rintro e w2 ⟨rfl, hb⟩
  have hs_w2 := Below.size hb
  (try simp at hs_w2)
  replace HO : Aside0 (Blk w2 (w.heap.size) 40 [.slice none 0 0, .int .i16 0, .int .i8 0, .int .i16 0]) := ⟨Blk.below (by with_reducible repeat (first | exact HO.out | refine Blk.alloc ?_ _ | refine Rw.alloc ?_ _ | refine Arg.alloc ?_ _ | apply below_alloc | refine Blk.drew ?_ | refine Rw.drew ?_ | refine Arg.drew ?_ | apply below_drew | refine Blk.drewN ?_ _ | refine Rw.drewN ?_ _ | refine Arg.drewN ?_ _ | apply pw_below_drewN)) hb⟩
  replace HW : Aside0 (Below w.heap.size w w2) := ⟨below_step (by with_reducible repeat (first | exact HW.out | refine Blk.alloc ?_ _ | refine Rw.alloc ?_ _ | refine Arg.alloc ?_ _ | apply below_alloc | refine Blk.drew ?_ | refine Rw.drew ?_ | refine Arg.drew ?_ | apply below_drew | refine Blk.drewN ?_ _ | refine Rw.drewN ?_ _ | refine Arg.drewN ?_ _ | apply pw_below_drewN)) hb⟩
  clear hb
  go_wp2_with (fail)
  refine (HW2.out _ (HAN.out.below (by with_reducible repeat (first | exact HW.out | refine Blk.alloc ?_ _ | refine Rw.alloc ?_ _ | refine Arg.alloc ?_ _ | apply below_alloc | refine Blk.drew ?_ | refine Rw.drew ?_ | refine Arg.drew ?_ | apply below_drew | refine Blk.drewN ?_ _ | refine Rw.drewN ?_ _ | refine Arg.drewN ?_ _ | apply pw_below_drewN)))).mono ?_
  rintro e w3 ⟨rfl, hb⟩
  have hs_w3 := Below.size hb
  (try simp at hs_w3)
  replace HO : Aside0 (Blk w3 (w.heap.size) 40 [.slice none 0 0, .int .i16 0, .int .i8 0, .int .i16 0]) := ⟨Blk.below (by with_reducible repeat (first | exact HO.out | refine Blk.alloc ?_ _ | refine Rw.alloc ?_ _ | refine Arg.alloc ?_ _ | apply below_alloc | refine Blk.drew ?_ | refine Rw.drew ?_ | refine Arg.drew ?_ | apply below_drew | refine Blk.drewN ?_ _ | refine Rw.drewN ?_ _ | refine Arg.drewN ?_ _ | apply pw_below_drewN)) hb⟩
  replace HW : Aside0 (Below w.heap.size w w3) := ⟨below_step (by with_reducible repeat (first | exact HW.out | refine Blk.alloc ?_ _ | refine Rw.alloc ?_ _ | refine Arg.alloc ?_ _ | apply below_alloc | refine Blk.drew ?_ | refine Rw.drew ?_ | refine Arg.drew ?_ | apply below_drew | refine Blk.drewN ?_ _ | refine Rw.drewN ?_ _ | refine Arg.drewN ?_ _ | apply pw_below_drewN)) hb⟩
  clear hb
  go_wp2_with (fail)
  refine (HW3.out _).mono ?_
  rintro e w4 ⟨rfl, hb⟩
  have hs_w4 := Below.size hb
  (try simp at hs_w4)
  replace HO : Aside0 (Blk w4 (w.heap.size) 40 [.slice none 0 0, .int .i16 0, .int .i8 0, .int .i16 0]) := ⟨Blk.below (by with_reducible repeat (first | exact HO.out | refine Blk.alloc ?_ _ | refine Rw.alloc ?_ _ | refine Arg.alloc ?_ _ | apply below_alloc | refine Blk.drew ?_ | refine Rw.drew ?_ | refine Arg.drew ?_ | apply below_drew | refine Blk.drewN ?_ _ | refine Rw.drewN ?_ _ | refine Arg.drewN ?_ _ | apply pw_below_drewN)) hb⟩
  replace HW : Aside0 (Below w.heap.size w w4) := ⟨below_step (by with_reducible repeat (first | exact HW.out | refine Blk.alloc ?_ _ | refine Rw.alloc ?_ _ | refine Arg.alloc ?_ _ | apply below_alloc | refine Blk.drew ?_ | refine Rw.drew ?_ | refine Arg.drew ?_ | apply below_drew | refine Blk.drewN ?_ _ | refine Rw.drewN ?_ _ | refine Arg.drewN ?_ _ | apply pw_below_drewN)) hb⟩
  clear hb
  go_wp2_with (fail)
  refine (HW4.out _).mono ?_
  rintro e w5 ⟨rfl, hb⟩
  have hs_w5 := Below.size hb
  (try simp at hs_w5)
  replace HO : Aside0 (Blk w5 (w.heap.size) 40 [.slice none 0 0, .int .i16 0, .int .i8 0, .int .i16 0]) := ⟨Blk.below (by with_reducible repeat (first | exact HO.out | refine Blk.alloc ?_ _ | refine Rw.alloc ?_ _ | refine Arg.alloc ?_ _ | apply below_alloc | refine Blk.drew ?_ | refine Rw.drew ?_ | refine Arg.drew ?_ | apply below_drew | refine Blk.drewN ?_ _ | refine Rw.drewN ?_ _ | refine Arg.drewN ?_ _ | apply pw_below_drewN)) hb⟩
  replace HW : Aside0 (Below w.heap.size w w5) := ⟨below_step (by with_reducible repeat (first | exact HW.out | refine Blk.alloc ?_ _ | refine Rw.alloc ?_ _ | refine Arg.alloc ?_ _ | apply below_alloc | refine Blk.drew ?_ | refine Rw.drew ?_ | refine Arg.drew ?_ | apply below_drew | refine Blk.drewN ?_ _ | refine Rw.drewN ?_ _ | refine Arg.drewN ?_ _ | apply pw_below_drewN)) hb⟩
  clear hb
  go_wp2_with fail
  obtain ⟨hb, hhb⟩ : ∃ hb, w5.heap.size = hb := ⟨_, rfl⟩
  have hwb : w.heap.size < hb := by have := HO.out.lt; omega
  have HX2 : Aside0 (Blk (w5.alloc (.cells #[.slice none 0 0, .int .i16 tub, .int .i8 every, .int .i16 0] 40)) hb 40 [.slice none 0 0, .int .i16 tub, .int .i8 every, .int .i16 0]) := ⟨by subst hhb; exact Blk.new _ _ _⟩
  have HO2 := Aside0.mk (HO.out.alloc (.cells #[.slice none 0 0, .int .i16 tub, .int .i8 every, .int .i16 0] 40))
  have HD2 := Aside0.mk ((HNd.out.below HW.out).alloc (.cells #[.slice none 0 0, .int .i16 tub, .int .i8 every, .int .i16 0] 40))
  have HWW : Aside0 (Below w.heap.size w (w5.alloc (.cells #[.slice none 0 0, .int .i16 tub, .int .i8 every, .int .i16 0] 40))) := ⟨below_alloc HW.out _⟩
  have HV2 : Aside0 ((w5.alloc (.cells #[.slice none 0 0, .int .i16 tub, .int .i8 every, .int .i16 0] 40)).ownsRow (hb + 1) 27 25 (.slice none 0 0) 0 (flat (newF N) 0)) := ⟨own_nil _ _ _ _⟩
  rw [hhb]
  clear HSZ HW1 HW2 HW3 HW4 HAN hhb hs_w1 hs_w2 hs_w3 hs_w4 hs_w5
  clear HO HNd HW
  go_loopw [38] (fun v38 w' => ∃ (k : Nat) (v : Value), k ≤ n ∧ v38 = .int .i64 k ∧ Aside0 (w'.ownsRow (hb + 1) 27 25 v k (flat (newF N) k)) ∧ Aside0 (Blk w' (hb) 40 [v, .int .i16 tub, .int .i8 every, .int .i16 0]) ∧ Aside0 (Blk w' w.heap.size 40 [.slice none 0 0, .int .i16 0, .int .i8 0, .int .i16 0]) ∧ Aside0 (Nd w' gN n N) ∧ Aside0 (Below w.heap.size w w')) (fun v38 _ => n - (intOf v38).toNat)
  case atStart => exact ⟨0, _, by omega, rfl, HV2, HX2, HO2, HD2, HWW⟩
  case round =>
    clear HV2 HX2 HO2 HD2 HWW
    obtain ⟨k, v, hk, rfl, HV, HX, HO, HD, HW⟩ := hrel
    obtain ⟨wo, rfl⟩ : ∃ wo : World, wo = wr := ⟨_, rfl⟩
    have hk9 : IntKind.i64.wrap ((k : Int) + 1) = (k : Int) + 1 := IntWalk.i64_in _ ⟨by omega, by omega⟩
    by_cases hlt : k < n
    · have c0 : wo.drew.cell? ⟨hb, 0, none⟩ = some v := HX.out.cell 0 (v := v) rfl
      have cn := HD.out.at (k := k) (j := k) hlt rfl
      have HFR : Aside0 (∀ W : World, Calls Try.prog 79 #[.int .i64 (N k)] W fun e w' => e = .returned (.agg #[.int .i16 0, .int .i16 0, .int .i16 0, .int .i16 0, .int .i16 0, .int .i16 0, .int .i16 0, .int .i16 (N k), .int .i16 0, .int .i16 0, .int .i16 0, .int .i16 0, .int .i16 0, .int .i16 0, .int .i16 0, .int .i16 0, .int .i16 0, .int .i16 0, .int .i16 0, .int .i16 0, .int .i16 0, .int .i16 0, .int .i16 0, .int .i16 0, .int .i32 0]) ∧ Below W.heap.size W w') := ⟨fun W => newStock_lit (N k) (HNK.out k hlt) W⟩
      go_wp2_with fail
      refine start_ (n := 8) (S := (fun w' => w'.cell? ⟨hb, 0, none⟩ = some v)) (ds := [7]) #[false, false, false, false, false, false, false, false] (by kernel_rfl) rfl rfl c0 (fun hHeld => ?_)
      obtain ⟨w9, hw9⟩ : ∃ w9, wo.drew = w9 := ⟨_, rfl⟩
      have HV9 : Aside0 (w9.ownsRow (hb + 1) 27 25 v k (flat (newF N) k)) := ⟨by subst hw9; exact HV.out⟩
      have HX9 : Aside0 (Blk w9 (hb) 40 [v, .int .i16 tub, .int .i8 every, .int .i16 0]) := ⟨by subst hw9; exact HX.out.drew⟩
      have HO9 : Aside0 (Blk w9 w.heap.size 40 [.slice none 0 0, .int .i16 0, .int .i8 0, .int .i16 0]) := ⟨by subst hw9; exact HO.out.drew⟩
      have HD9 : Aside0 (Nd w9 gN n N) := ⟨by subst hw9; exact HD.out.drew⟩
      have HW9 : Aside0 (Below w.heap.size w w9) := ⟨by subst hw9; exact below_drew HW.out⟩
      rw [hw9] at hHeld ⊢
      clear hw9 HV HX HO HD HW c0 cn
      refine pure_ (i := 0) (N := some 42) (v := ?_) (a' := ?_) #[true, false, false, false, false, false, false, false] rfl rfl (by kernel_rfl) (fun _ _ _ h => h) (Or.inl ⟨by rfl, ?_⟩) ?_ ?_
      rotate_left
      · intro w'
        go_simp
        with_reducible rfl
      rotate_left
      · simp only [Act.put, List.setIfInBounds_toArray, List.set_cons_zero, List.set_cons_succ, i64_w, i32_w]
        rfl
      refine take_ (i := 1) (N := some 43) (v := ?_) (a' := ?_) #[true, true, false, false, false, false, false, false] rfl rfl (by kernel_rfl) (fun _ _ _ h => h) (Or.inl ⟨by rfl, ?_⟩) hHeld ?_ ?_
      rotate_left
      · intro w' s0
        go_simp
        with_reducible rfl
      rotate_left
      · simp only [Act.put, List.setIfInBounds_toArray, List.set_cons_zero, List.set_cons_succ, i64_w, i32_w]
        rfl
      refine pure_ (i := 2) (N := some 44) (v := ?_) (a' := ?_) #[true, true, true, false, false, false, false, false] rfl rfl (by kernel_rfl) (fun _ _ _ h => h) (Or.inl ⟨by rfl, ?_⟩) ?_ ?_
      rotate_left
      · intro w'
        go_simp
        with_reducible rfl
      rotate_left
      · simp only [Act.put, List.setIfInBounds_toArray, List.set_cons_zero, List.set_cons_succ, i64_w, i32_w]
        rfl
      refine one_ (i := 3) (N := some 45) #[true, true, true, true, false, false, false, false] rfl rfl (by kernel_rfl) (by decide) (fun K hK => ?_)
      refine goes_ Try.func79 (by kernel_rfl) rfl #[.int .i64 (N k)] (by rfl) rfl rfl (by (try simp only [List.map_toArray, List.map_cons, List.map_nil]); first | done | rfl) ?_
      refine (HFR.out _).mono ?_
      rintro e w2 ⟨rfl, hb_⟩
      have HV2 := Aside0.mk (pw_own_below HV9.out hb_)
      have HX2 := Aside0.mk (HX9.out.below hb_)
      have HO2 := Aside0.mk (HO9.out.below hb_)
      have HD2 := Aside0.mk (HD9.out.below hb_)
      have HW2 : Aside0 (Below w.heap.size w w2) := ⟨below_step HW9.out hb_⟩
      have hx2 := HX2.out.lt
      clear hb_ HV9 HX9 HO9 HD9 HW9 hHeld
      refine ⟨_, rfl, ?_⟩
      refine hK.out _ _ (HX2.out.cell 0 (v := v) rfl) (fun hHeld => ?_)
      clear hK K
      refine norm_ (a' := ?_) ?_ ?_
      rotate_left
      · show Act.put _ (some 45) _ = _
        simp only [Act.put, List.setIfInBounds_toArray, List.set_cons_zero, List.set_cons_succ, i64_w, i32_w]
        rfl
      refine one_ (i := 4) (N := some 46) #[true, true, true, true, true, false, false, false] rfl rfl (by kernel_rfl) (by decide) (fun K hK => ?_)
      refine value_ (v := ?_) (w1 := ?_) (by rfl) rfl ?_ ?_
      rotate_left
      rotate_left
      · go_simp
        first | (refine ⟨?_, ?_⟩ <;> rfl) | rfl
      refine hK.out _ _ ((HX2.out.alloc _).cell 0 (v := v) rfl) (fun hHeld => ?_)
      clear hK K
      refine norm_ (a' := ?_) ?_ ?_
      rotate_left
      · show Act.put _ (some 46) _ = _
        simp only [Act.put, List.setIfInBounds_toArray, List.set_cons_zero, List.set_cons_succ, i64_w, i32_w]
        rfl
      refine one_ (i := 5) (N := some 47) #[true, true, true, true, true, true, false, false] rfl rfl (by kernel_rfl) (by decide) (fun K hK => ?_)
      refine on_ (by rfl) ?_
      refine wp_append_lies _ _ _ 38 (by rfl) (hb + 1) 27 i0 _ 25 52 Try.underlying38 HI.out.1 HI.out.2.1 HI.out.2.2.1 HI.out.2.2.2 (by rfl) (by decide) v k (flat (newF N) k) (by rfl) (pw_own_below HV2.out (below_alloc (Below.refl _ _) _)) ⟨w2.heap.size, 0, none⟩ 1 1 [.int .i16 0, .int .i16 0, .int .i16 0, .int .i16 0, .int .i16 0, .int .i16 0, .int .i16 0, .int .i16 (N k), .int .i16 0, .int .i16 0, .int .i16 0, .int .i16 0, .int .i16 0, .int .i16 0, .int .i16 0, .int .i16 0, .int .i16 0, .int .i16 0, .int .i16 0, .int .i16 0, .int .i16 0, .int .i16 0, .int .i16 0, .int .i16 0, .int .i32 0] (by rfl) (by rfl) (World.news_of_block (Blk.new w2 _ [.int .i16 0, .int .i16 0, .int .i16 0, .int .i16 0, .int .i16 0, .int .i16 0, .int .i16 0, .int .i16 (N k), .int .i16 0, .int .i16 0, .int .i16 0, .int .i16 0, .int .i16 0, .int .i16 0, .int .i16 0, .int .i16 0, .int .i16 0, .int .i16 0, .int .i16 0, .int .i16 0, .int .i16 0, .int .i16 0, .int .i16 0, .int .i16 0, .int .i32 0])) (by intro u hu; simp only [List.mem_cons, List.not_mem_nil, or_false] at hu; rcases hu with rfl | rfl | rfl | rfl | rfl | rfl | rfl | rfl | rfl | rfl | rfl | rfl | rfl | rfl | rfl | rfl | rfl | rfl | rfl | rfl | rfl | rfl | rfl | rfl | rfl <;> rfl) (by decide) (by unfold maxLen; omega) (by omega) (by simp; omega) _ rfl ?_
      intro g' cap' w3 hown hgrow hat hlt'
      have HV3 : Aside0 (w3.ownsRow (hb + 1) 27 25 (.slice (some ⟨g', 0, none⟩) (k + 1) cap') (k + 1) (flat (newF N) (k + 1))) := ⟨by rw [← flat_new]; exact hown⟩
      have HX3 := Aside0.mk (Blk.grown (HX2.out.alloc _) hgrow (own_ne HV2.out (by omega)))
      have HO3 := Aside0.mk (Blk.grown (HO2.out.alloc _) hgrow (own_ne HV2.out (by omega)))
      have HD3 := Aside0.mk (Nd.grown (HD2.out.alloc _) hgrow (own_ne HV2.out (by omega)))
      have HW3 : Aside0 (Below w.heap.size w w3) := ⟨pw_below_grown (below_alloc HW2.out _) _ (by simp; omega) hgrow (fun k_ e_ => by have := own_base HV2.out k_ e_; omega)⟩
      clear hown hgrow hat hlt' HV2 HX2 HO2 HD2 HW2
      have c3 := HX3.out.cell 0 (v := v) rfl
      have d3 := HX3.out.frozen 0
      refine hK.out _ _ c3 (fun hHeld => ?_)
      clear hK K
      refine norm_ (a' := ?_) ?_ ?_
      rotate_left
      · show Act.put _ (some 47) _ = _
        simp only [Act.put, List.setIfInBounds_toArray, List.set_cons_zero, List.set_cons_succ, i64_w, i32_w]
        rfl
      refine pure_ (i := 6) (N := some 48) (v := ?_) (a' := ?_) #[true, true, true, true, true, true, true, false] rfl rfl (by kernel_rfl) (fun _ _ _ h => h) (Or.inl ⟨by rfl, ?_⟩) ?_ ?_
      rotate_left
      · intro w'
        go_simp
        with_reducible rfl
      rotate_left
      · simp only [Act.put, List.setIfInBounds_toArray, List.set_cons_zero, List.set_cons_succ, i64_w, i32_w]
        rfl
      refine last_ (i := 7) (N := none) #[true, true, true, true, true, true, true, true] rfl rfl (by kernel_rfl) (by decide) (fun K hK => ?_)
      refine skip_ (w1 := ?_) (by rfl) rfl ?_ ?_
      rotate_left
      · go_simp
        rfl
      refine hK.out _ _ ?_
      clear hK K
      refine done_ (by kernel_rfl) ?_
      obtain ⟨w4, hw4⟩ : ∃ w4, w4 = w3.setCell ⟨hb, 0, none⟩ (.slice (some ⟨g', 0, none⟩) (k + 1) cap') := ⟨_, rfl⟩
      rw [← hw4]
      have HX4 : Aside0 (Blk w4 (hb) 40 [(.slice (some ⟨g', 0, none⟩) (k + 1) cap'), .int .i16 tub, .int .i8 every, .int .i16 0]) := ⟨by rw [hw4]; exact HX3.out.set 0 _⟩
      have HO4 : Aside0 (Blk w4 w.heap.size 40 [.slice none 0 0, .int .i16 0, .int .i8 0, .int .i16 0]) := ⟨by rw [hw4]; exact blk_other HO3.out (by omega)⟩
      have HV4 : Aside0 (w4.ownsRow (hb + 1) 27 25 (.slice (some ⟨g', 0, none⟩) (k + 1) cap') (k + 1) (flat (newF N) (k + 1))) := ⟨by rw [hw4]; exact own_other HV3.out (grown_set _ _ _ _) (.inr (own_ne HV3.out (by omega)).symm)⟩
      have HD4 : Aside0 (Nd w4 gN n N) := ⟨by rw [hw4]; exact HD3.out.grown (grown_set _ _ _ _) (by intro h_; injection h_ with h_; omega)⟩
      have HW4 : Aside0 (Below w.heap.size w w4) := ⟨by rw [hw4]; exact below_setc HW3.out (by omega)⟩
      clear hw4 HX3 HO3 HV3 HD3 HW3 c3 d3 hHeld
      go_wp2
      go_roundw
      case rel => exact ⟨k + 1, _, by omega, by go_num, HV4, HX4, HO4, HD4, HW4⟩
      case measure => simp [intOf] <;> omega
    · have ek : k = n := by omega
      subst ek
      obtain ⟨g', c', rfl, hg1, hg2⟩ := World.ownsRow.form HV.out (by omega)
      have HR := Aside0.mk (Rw.of_owns HV.out).1
      have hx1 := HX.out.lt
      clear HV HD hk hlt
      go_wp2_with (first | (refine wl_load (by rfl) 40 _ (by rfl) (hb) 0 (by rfl) 40 4 [(.slice (some ⟨g', 0, none⟩) k c'), .int .i16 tub, .int .i8 every, .int .i16 0] [(.slice (some ⟨g', 0, none⟩) k c'), .int .i16 tub, .int .i8 every, .int .i16 0] (by with_reducible repeat (first | exact HX.out | refine Blk.alloc ?_ _ | refine Rw.alloc ?_ _ | refine Arg.alloc ?_ _ | apply below_alloc | refine Blk.drew ?_ | refine Rw.drew ?_ | refine Arg.drew ?_ | apply below_drew | refine Blk.drewN ?_ _ | refine Rw.drewN ?_ _ | refine Arg.drewN ?_ _ | apply pw_below_drewN)) (by rfl) (by rfl) _ Try.underlying40 (by rfl) (by kernel_rfl) ?_) | (refine wl_store (by rfl) 40 _ _ (by rfl) (w.heap.size) 0 (by rfl) 40 4 [.slice none 0 0, .int .i16 0, .int .i8 0, .int .i16 0] [.slice (some ⟨g', 0, none⟩) k c', .int .i16 tub, .int .i8 every, .int .i16 0] (by rfl) (by with_reducible repeat (first | exact HO.out | refine Blk.alloc ?_ _ | refine Rw.alloc ?_ _ | refine Arg.alloc ?_ _ | apply below_alloc | refine Blk.drew ?_ | refine Rw.drew ?_ | refine Arg.drew ?_ | apply below_drew | refine Blk.drewN ?_ _ | refine Rw.drewN ?_ _ | refine Arg.drewN ?_ _ | apply pw_below_drewN)) (by rfl) (by decide) (by kernel_rfl) (by rfl) ?_; intro w9 hw_ hg_; have HO9 : Aside0 (Blk w9 (w.heap.size) 40 [.slice (some ⟨g', 0, none⟩) k c', .int .i16 tub, .int .i8 every, .int .i16 0]) := ⟨Blk.all hw_ (by decide)⟩; have HW9 : Aside0 (Below w.heap.size w w9) := ⟨below_grown (by with_reducible repeat (first | exact HW.out | refine Blk.alloc ?_ _ | refine Rw.alloc ?_ _ | refine Arg.alloc ?_ _ | apply below_alloc | refine Blk.drew ?_ | refine Rw.drew ?_ | refine Arg.drew ?_ | apply below_drew | refine Blk.drewN ?_ _ | refine Rw.drewN ?_ _ | refine Arg.drewN ?_ _ | apply pw_below_drewN)) (by omega) (Below.size (by with_reducible repeat (first | exact HW.out | refine Blk.alloc ?_ _ | refine Rw.alloc ?_ _ | refine Arg.alloc ?_ _ | apply below_alloc | refine Blk.drew ?_ | refine Rw.drew ?_ | refine Arg.drew ?_ | apply below_drew | refine Blk.drewN ?_ _ | refine Rw.drewN ?_ _ | refine Arg.drewN ?_ _ | apply pw_below_drewN))) hg_⟩; have HR9 : Aside0 (Rw w9 g' k (newF N)) := ⟨Rw.grown (by with_reducible repeat (first | exact HR.out | refine Blk.alloc ?_ _ | refine Rw.alloc ?_ _ | refine Arg.alloc ?_ _ | apply below_alloc | refine Blk.drew ?_ | refine Rw.drew ?_ | refine Arg.drew ?_ | apply below_drew | refine Blk.drewN ?_ _ | refine Rw.drewN ?_ _ | refine Arg.drewN ?_ _ | apply pw_below_drewN)) hg_ (by intro h_; injection h_ with h_; omega)⟩; clear hw_ hg_))
      refine bodyPost_ret (v := .tuple #[.agg #[.slice (some ⟨g', 0, none⟩) k c', .int .i16 tub, .int .i8 every, .int .i16 0], .int .i64 0]) (results_cell2 (by rfl) _ _ (w.heap.size) [.slice (some ⟨g', 0, none⟩) k c', .int .i16 tub, .int .i8 every, .int .i16 0] _ _ (by rfl) (by rfl) HO9.out.whole Try.underlying40 (by rfl) (by kernel_rfl)) rfl ⟨g', c', rfl, by omega, HR9.out, HW9.out⟩
end Go.Proofs.Ytjmnbikaijphlaa.X
