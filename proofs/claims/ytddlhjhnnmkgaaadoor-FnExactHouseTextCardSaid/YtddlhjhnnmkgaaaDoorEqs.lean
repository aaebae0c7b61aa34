/- Contracts of functions, and plain facts: what each call answers, and what it leaves as it was. -/
import Derived.Test.YtddlhjhnnmkgaaaDoorStock
set_option linter.unusedVariables false
set_option linter.unusedSimpArgs false
namespace Go.Proofs.YtddlhjhnnmkgaaaDoor.X
open Go.RowKit Go.Proofs.YtddlhjhnnmkgaaaDoorW.PrintWords Go.Proofs.YtddlhjhnnmkgaaaDoorW.PrintLast Go.Proofs.YtddlhjhnnmkgaaaDoorW.PrintMore
attribute [local go_sem] max2_int min2_int max_two min_two max_three min_three max_four min_four
set_option maxHeartbeats 4000000 in
set_option maxRecDepth 100000 in
theorem eqA8_calls (L : List Int) (hL : L.length = 8) (w : World) : Calls Tryd.prog 42 #[(.agg (nums .i16 L).toArray), (.agg (nums .i16 L).toArray)] w fun e w' => e = .returned (.bool true) ∧ Below w.heap.size w w' := by
  have HL := Aside0.mk hL
  clear hL
  go_enter Tryd.func42, Tryd.ntmps42
  go_wp2
  go_loopw [5] (fun v5 w' => ∃ k : Nat, k ≤ 8 ∧ v5 = .int .i64 k ∧ Aside0 (Blk w' w.heap.size 42 (nums .i16 L)) ∧ Aside0 (Blk w' (w.heap.size + 1) 42 (nums .i16 L)) ∧ Aside0 (Below w.heap.size w w')) (fun v5 _ => 8 - (intOf v5).toNat)
  case atStart => exact ⟨0, by omega, rfl, ⟨Blk.alloc (Blk.new w _ _) _⟩, ⟨Blk.at_ (by simp) (by rfl)⟩, ⟨below_alloc (below_alloc (Below.refl _ _) _) _⟩⟩
  case round =>
    obtain ⟨k, hk, rfl, HA, HC, HB⟩ := hrel
    by_cases hlt : k < 8
    · have c0 := HA.out.cell k (nums_get (by have := HL.out; omega))
      have c1 := HC.out.cell k (nums_get (by have := HL.out; omega))
      generalize L.getD k 0 = x at c0 c1
      go_wp2_with fail
      go_region_held3 (fun w' => w'.cell? ⟨w.heap.size, k, none⟩ = some (.int .i16 x) ∧ w'.cell? ⟨w.heap.size + 1, k, none⟩ = some (.int .i16 x)) (go_keep) ((fail))
      go_wp2
      go_roundw
      case rel => exact ⟨k + 1, by omega, by go_num, ⟨by repeat (first | exact HA.out | apply Blk.drewN | apply Blk.drew)⟩, ⟨by repeat (first | exact HC.out | apply Blk.drewN | apply Blk.drew)⟩, ⟨by repeat (first | exact HB.out | apply pw_below_drewN | apply below_drew)⟩⟩
      case measure => simp [intOf] <;> omega
    · obtain rfl : k = 8 := by omega
      go_wp2
      go_ret
      exact ⟨rfl, HB.out⟩
set_option maxHeartbeats 8000000 in
set_option maxRecDepth 100000 in
theorem eqStock_calls (K : List Int) (r : Int) (hK : K.length = 24) (w : World) : Calls Tryd.prog 31 #[.agg (stk K r).toArray, .agg (stk K r).toArray] w fun e w' => e = .returned (.bool true) ∧ Below w.heap.size w w' := by
  have HE := Aside0.mk (fun (L : List Int) (hL : L.length = 8) W => eqA8_calls L hL W)
  have hl : ∀ o, o + 8 ≤ 24 → ((K.drop o).take 8).length = 8 := fun o ho => by rw [List.length_take, List.length_drop]; omega
  have S0 := Aside0.mk (stk_seg hK r (o := 0) (by omega))
  have S8 := Aside0.mk (stk_seg hK r (o := 8) (by omega))
  have S16 := Aside0.mk (stk_seg hK r (o := 16) (by omega))
  have E0 := Aside0.mk (hl 0 (by omega))
  have E8 := Aside0.mk (hl 8 (by omega))
  have E16 := Aside0.mk (hl 16 (by omega))
  have GR := Aside0.mk (stk_rag hK r)
  have HA : Aside0 (Blk ((w.alloc (.cells (stk K r).toArray 44)).alloc (.cells (stk K r).toArray 44)) w.heap.size 44 (stk K r)) := ⟨Blk.alloc (Blk.new w _ _) _⟩
  have HC : Aside0 (Blk ((w.alloc (.cells (stk K r).toArray 44)).alloc (.cells (stk K r).toArray 44)) (w.heap.size + 1) 44 (stk K r)) := ⟨Blk.at_ (by simp) rfl⟩
  have HB : Aside0 (Below w.heap.size w ((w.alloc (.cells (stk K r).toArray 44)).alloc (.cells (stk K r).toArray 44))) := ⟨below_alloc (below_alloc (Below.refl _ _) _) _⟩
  clear hK hl
  generalize (K.drop 0).take 8 = A0 at *
  generalize (K.drop 8).take 8 = A8 at *
  generalize (K.drop 16).take 8 = A16 at *
  have N0 : Aside0 ((nums .i16 A0).length = 8) := ⟨by rw [nums_len]; exact E0.out⟩
  have N8 : Aside0 ((nums .i16 A8).length = 8) := ⟨by rw [nums_len]; exact E8.out⟩
  have N16 : Aside0 ((nums .i16 A16).length = 8) := ⟨by rw [nums_len]; exact E16.out⟩
  generalize stk K r = S at *
  go_enter Tryd.func31, Tryd.ntmps31
  have T0 : Aside0 True := ⟨trivial⟩
  go_wp2_with (first | (clear T0; refine wl_load (by rfl) 42 _ (by rfl) (w.heap.size) 0 (by rfl) 44 8 _ _ HA.out S0.out N0.out _ Tryd.underlying42 (by rfl) (by kernel_rfl) ?_; have T1 : Aside0 True := ⟨trivial⟩) | (clear T1; refine wl_load (by rfl) 42 _ (by rfl) (w.heap.size + 1) 0 (by rfl) 44 8 _ _ HC.out S0.out N0.out _ Tryd.underlying42 (by rfl) (by kernel_rfl) ?_; have T2 : Aside0 True := ⟨trivial⟩) | (clear T2; go_at_call 42; refine (HE.out _ E0.out _).mono ?_; rintro e w1 ⟨rfl, hb⟩; replace HB := Aside0.mk (below_step HB.out hb); replace HA := Aside0.mk (HA.out.below hb); replace HC := Aside0.mk (HC.out.below hb); have c0 := HA.out.cell 24 GR.out; have c1 := HC.out.cell 24 GR.out; clear hb; have T3 : Aside0 True := ⟨trivial⟩) | (clear T3; refine wl_load (by rfl) 42 _ (by rfl) (w.heap.size) 8 (by rfl) 44 8 _ _ HA.out S8.out N8.out _ Tryd.underlying42 (by rfl) (by kernel_rfl) ?_; have T4 : Aside0 True := ⟨trivial⟩) | (clear T4; refine wl_load (by rfl) 42 _ (by rfl) (w.heap.size + 1) 8 (by rfl) 44 8 _ _ HC.out S8.out N8.out _ Tryd.underlying42 (by rfl) (by kernel_rfl) ?_; have T5 : Aside0 True := ⟨trivial⟩) | (clear T5; go_at_call 42; refine (HE.out _ E8.out _).mono ?_; rintro e w1 ⟨rfl, hb⟩; replace HB := Aside0.mk (below_step HB.out hb); replace HA := Aside0.mk (HA.out.below hb); replace HC := Aside0.mk (HC.out.below hb); have c0 := HA.out.cell 24 GR.out; have c1 := HC.out.cell 24 GR.out; clear hb; have T6 : Aside0 True := ⟨trivial⟩) | (clear T6; refine wl_load (by rfl) 42 _ (by rfl) (w.heap.size) 16 (by rfl) 44 8 _ _ HA.out S16.out N16.out _ Tryd.underlying42 (by rfl) (by kernel_rfl) ?_; have T7 : Aside0 True := ⟨trivial⟩) | (clear T7; refine wl_load (by rfl) 42 _ (by rfl) (w.heap.size + 1) 16 (by rfl) 44 8 _ _ HC.out S16.out N16.out _ Tryd.underlying42 (by rfl) (by kernel_rfl) ?_; have T8 : Aside0 True := ⟨trivial⟩) | (clear T8; go_at_call 42; refine (HE.out _ E16.out _).mono ?_; rintro e w1 ⟨rfl, hb⟩; replace HB := Aside0.mk (below_step HB.out hb); replace HA := Aside0.mk (HA.out.below hb); replace HC := Aside0.mk (HC.out.below hb); have c0 := HA.out.cell 24 GR.out; have c1 := HC.out.cell 24 GR.out; clear hb; have T9 : Aside0 True := ⟨trivial⟩))
  go_ret
  exact ⟨rfl, HB.out⟩
end Go.Proofs.YtddlhjhnnmkgaaaDoor.X
