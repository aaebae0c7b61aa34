/- Contracts of functions, and plain facts: what each call answers, and what it leaves as it was. -/
import Derived.Test.YtdepnieanfjhjaaDoorX0
import Derived.Test.YtdepnieanfjhjaaDoorX5
import Derived.Test.YtdepnieanfjhjaaDoorG10
import Derived.Test.YtdepnieanfjhjaaDoorG4
set_option linter.unusedVariables false
set_option linter.unusedSimpArgs false
namespace Go.Proofs.YtdepnieanfjhjaaDoor.X
open Go.RowKit Go.Proofs.YtdepnieanfjhjaaDoorW.PrintWords Go.Proofs.YtdepnieanfjhjaaDoorW.PrintLast Go.Proofs.YtdepnieanfjhjaaDoorW.PrintMore
attribute [local go_sem] max2_int min2_int max_two min_two max_three min_three max_four min_four
theorem zeros30 : Tryd.zeroCells33 = (nums .i8 (List.replicate 72 0)).toArray := by kernel_rfl
theorem seg3 {L : List Int} {k : Nat} (h : 3 * k + 3 ≤ L.length) : ((nums .i8 L).drop (k * 3)).take 3 = [.int .i8 (L.getD (3 * k) 0), .int .i8 (L.getD (3 * k + 1) 0), .int .i8 (L.getD (3 * k + 2) 0)] := by
  rw [Nat.mul_comm k 3]
  apply List.ext_getElem
  · simp [nums]; omega
  · intro i h1 h2
    have hi : i < 3 := by simpa using h2
    simp only [List.getElem_take, List.getElem_drop, nums, List.getElem_map]
    match i, hi with
    | 0, _ => simp [List.getD_eq_getElem?_getD, List.getElem?_eq_getElem (show 3 * k < L.length by omega)]
    | 1, _ => simp [List.getD_eq_getElem?_getD, List.getElem?_eq_getElem (show 3 * k + 1 < L.length by omega)]
    | 2, _ => simp [List.getD_eq_getElem?_getD, List.getElem?_eq_getElem (show 3 * k + 2 < L.length by omega)]
set_option maxHeartbeats 4000000 in
set_option maxRecDepth 100000 in
theorem toDay_calls (L : List Int) (hL : L.length = 72) (w : World) : Calls Tryd.prog 6 #[(.agg (nums .i8 L).toArray)] w fun e w' => e = .returned (.agg (nums .i8 L).toArray) ∧ Below w.heap.size w w' := by
  have HL := Aside0.mk hL
  clear hL
  have hc := fun (a b c : Int) (W : World) => laws_toWeather.calls a b c _ _ _ W rfl
  go_enter Tryd.func6, Tryd.ntmps6
  go_wp2
  go_loopw [4] (fun v4 w' => ∃ k : Nat, k ≤ 24 ∧ v4 = .int .i64 k ∧ Aside0 (Blk w' w.heap.size 25 (nums .i8 L)) ∧ Aside0 (Blk w' (w.heap.size + 1) 33 (nums .i8 (List.replicate 72 0))) ∧ Aside0 (Blk w' (w.heap.size + 1 + 1) 33 ((nums .i8 L).take (k * 3) ++ (nums .i8 (List.replicate 72 0)).drop (k * 3))) ∧ Aside0 (Below w.heap.size w w')) (fun v4 _ => 24 - (intOf v4).toNat)
  case atStart => exact ⟨0, by omega, rfl, ⟨Blk.alloc (Blk.alloc (Blk.new w _ _) _) _⟩, ⟨Blk.alloc (Blk.at_ (by simp) zeros30) _⟩, ⟨Blk.at_ (by simp) (by simpa using zeros30)⟩, ⟨below_alloc (below_alloc (below_alloc (Below.refl _ _) _) _) _⟩⟩
  case round =>
    obtain ⟨k, hk, rfl, HA, HR, HO, HB⟩ := hrel
    by_cases hlt : k < 24
    · obtain ⟨x, y, z, HS⟩ : ∃ x y z, Aside0 (((nums .i8 L).drop (k * 3)).take 3 = [.int .i8 x, .int .i8 y, .int .i8 z]) := ⟨_, _, _, ⟨seg3 (L := L) (k := k) (by have := HL.out; omega)⟩⟩
      have HF : Aside0 (k * 3 + 3 ≤ ((nums .i8 L).take (k * 3) ++ (nums .i8 (List.replicate 72 0)).drop (k * 3)).length) := ⟨by have := HL.out; simp [nums]; omega⟩
      go_wp2_with (first | (refine wl_load (by rfl) 24 _ (by rfl) w.heap.size (k * 3) (by rfl) 25 3 _ _ HA.out HS.out (by rfl) _ Tryd.underlying24 (by rfl) (by kernel_rfl) ?_) | (go_at_call 19; refine (hc _ _ _ _).mono ?_; rintro e w1 ⟨rfl, hb⟩; have HO1 := Aside0.mk (HO.out.below hb); have HA1 := Aside0.mk (HA.out.below hb); have HR1 := Aside0.mk (HR.out.below hb); have HB1 := Aside0.mk (below_step HB.out hb); clear hb HO HA HR HB) | (refine wl_store (by rfl) 31 _ _ (by rfl) (w.heap.size + 1 + 1) (k * 3) (by rfl) 33 3 _ [.int .i8 x, .int .i8 y, .int .i8 z] (by rfl) HO1.out (by rfl) HF.out (by kernel_rfl) (by rfl) ?_; intro w2 hw2 hg2; have HO2 := Aside0.mk hw2; have HA2 := Aside0.mk (HA1.out.grown hg2 (fun e => by injection e with e; omega)); have HR2 := Aside0.mk (HR1.out.grown hg2 (fun e => by injection e with e; omega)); have HB2 := Aside0.mk (pw_below_grown HB1.out _ (by have := HB1.out.size; omega) hg2 (fun k e => by injection e with e; omega)); clear hw2 hg2 HO1 HA1 HR1 HB1))
      go_roundw
      case rel => exact ⟨k + 1, by omega, by go_num, HA2, HR2, ⟨by have h := HO2.out; rw [← HS.out, copy_step (by have := HL.out; simp [nums]; omega) (by simp [nums]; omega)] at h; rw [Nat.succ_mul]; exact h⟩, HB2⟩
      case measure => simp [intOf]; omega
    · obtain rfl : k = 24 := by omega
      have HS : Aside0 ((((nums .i8 L).take (24 * 3) ++ (nums .i8 (List.replicate 72 0)).drop (24 * 3)).drop 0).take 72 = nums .i8 L) := ⟨by have := HL.out; rw [List.drop_of_length_le (l := nums .i8 (List.replicate 72 0)) (by simp [nums]), List.append_nil, List.drop_zero, List.take_of_length_le (by simp [nums]; omega), List.take_of_length_le (by simp [nums]; omega)]⟩
      have HN : Aside0 ((nums .i8 L).length = 72) := ⟨by have := HL.out; simp [nums]; omega⟩
      go_wp2_with (first | (refine wl_load (by rfl) 33 _ (by rfl) (w.heap.size + 1 + 1) 0 (by rfl) 33 72 _ _ HO.out HS.out HN.out _ Tryd.underlying33 (by rfl) (by kernel_rfl) ?_) | (refine wl_store (by rfl) 33 _ _ (by rfl) (w.heap.size + 1) 0 (by rfl) 33 72 _ (nums .i8 L) (by rfl) HR.out HN.out (by simp [nums]) (by kernel_rfl) (by simp [nums, Value.oneCell']) ?_; intro w2 hw2 hg2; have HR2 := Aside0.mk hw2; have HB2 := Aside0.mk (pw_below_grown HB.out _ (by have := HB.out.size; omega) hg2 (fun k e => by injection e with e; omega)); clear hw2 hg2))
      refine bodyPost_ret (v := (.agg (nums .i8 L).toArray)) (Blk.result (by rfl) _ _ (w.heap.size + 1) 33 (nums .i8 L) _ rfl (Blk.all HR2.out (by simp [nums])) Tryd.underlying33 rfl (by rw [HN.out]; kernel_rfl)) rfl ⟨rfl, HB2.out⟩
end Go.Proofs.YtdepnieanfjhjaaDoor.X
