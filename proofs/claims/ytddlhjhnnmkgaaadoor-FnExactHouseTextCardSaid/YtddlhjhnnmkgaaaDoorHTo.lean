/- Contracts of functions, and plain facts: what each call answers, and what it leaves as it was. -/
import Derived.Test.YtddlhjhnnmkgaaaDoorHFacts
import Derived.Test.YtddlhjhnnmkgaaaDoorHSeq
import Derived.Test.YtddlhjhnnmkgaaaDoorEqs
import Derived.Laws.MakeOwn
set_option linter.unusedVariables false
set_option linter.unusedSimpArgs false
namespace Go.Proofs.YtddlhjhnnmkgaaaDoor.X
open Go.RowKit Go.Proofs.YtddlhjhnnmkgaaaDoorW.PrintWords Go.Proofs.YtddlhjhnnmkgaaaDoorW.PrintLast Go.Proofs.YtddlhjhnnmkgaaaDoorW.PrintMore
attribute [local go_sem] max2_int min2_int max_two min_two max_three min_three max_four min_four
theorem toStockA_calls (f : Nat → Int) (o : Nat) (w : World) : Calls Tryd.prog 22 #[.agg (cellsAt f o).toArray] w fun e w' => e = .returned (.agg (cellsAt f o).toArray) ∧ Below w.heap.size w w' := by
  rw [cellsAt_stk]; exact toStock_calls _ _ (kOf_len f o) w
set_option maxHeartbeats 8000000 in
set_option maxRecDepth 100000 in
theorem szStockS_calls (A : Option Addr) (n c : Nat) (L : Int) (hn : (n : Int) ≤ 9223372036854775807) (hL : 0 ≤ L ∧ L ≤ 1048576) (w : World) :
    Calls Tryd.prog 9 #[.slice A n c, .int .i64 L] w fun e w' => e = .returned (.int .i64 (if L - n < 0 then -1 else L - n)) ∧ w' = w := by
  have h1 : IntKind.i64.wrap (L - (n : Int)) = L - n := IntWalk.i64_in _ ⟨by omega, by omega⟩
  by_cases hc : L - (n : Int) < 0
  · rw [if_pos hc]
    go_enter Tryd.func9, Tryd.ntmps9
    go_wp2
    go_ret
    exact ⟨rfl, rfl⟩
  · rw [if_neg hc]
    go_enter Tryd.func9, Tryd.ntmps9
    go_wp2
    go_ret
    exact ⟨rfl, rfl⟩
set_option maxHeartbeats 8000000 in
set_option maxRecDepth 100000 in
theorem szHouse_calls (A : Option Addr) (n c : Nat) (tub every today : Int) (L : Int) (hn : (n : Int) ≤ 9223372036854775807) (hL : 0 ≤ L ∧ L ≤ 1048576) (w : World) :
    Calls Tryd.prog 4 #[.agg #[.slice A n c, .int .i16 tub, .int .i8 every, .int .i16 today], .int .i64 L] w fun e w' => e = .returned (.int .i64 (if L - n < 0 then -1 else L - n)) ∧ Below w.heap.size w w' := by
  have HC := Aside0.mk (fun W => szStockS_calls A n c L hn hL W)
  by_cases hc : L - (n : Int) < 0
  · rw [if_pos hc] at HC ⊢
    go_enter Tryd.func4, Tryd.ntmps4
    go_wp2_with (go_at_call 9; refine (HC.out _).mono ?_; rintro e w1 ⟨rfl, rfl⟩)
    go_ret
    exact ⟨rfl, by repeat (first | exact Below.refl _ _ | apply below_alloc)⟩
  · rw [if_neg hc] at HC ⊢
    go_enter Tryd.func4, Tryd.ntmps4
    go_wp2_with (go_at_call 9; refine (HC.out _).mono ?_; rintro e w1 ⟨rfl, rfl⟩)
    go_ret
    exact ⟨rfl, by repeat (first | exact Below.refl _ _ | apply below_alloc)⟩
theorem stockInfo : (Tryd.prog.info? 44).map (fun i => (i.zero, i.size, i.bytes)) = some (some (.agg (cellsAt (fun _ => 0) 0).toArray), 25, 52) := by kernel_rfl
theorem made_rw (w : World) (n t : Nat) : Rw (w.alloc (.cells (madeCells (cellsAt (fun _ => 0) 0).toArray (n * 25)) t)) w.heap.size n (fun _ => 0) := by
  refine ⟨_, t, heap_alloc_new w _, by rw [size_madeCells]; omega, fun i hi => ?_⟩
  have hm : i % 25 < 25 := Nat.mod_lt _ (by decide)
  unfold madeCells
  rw [Array.getElem?_map, Array.getElem?_range, if_pos (by omega), Option.map_some]
  have e : kd i = kd (i % 25) := by unfold kd; rw [Nat.mod_mod]
  congr 1
  have hs : (cellsAt (fun _ => 0) 0).toArray.size = 25 := by simp [cellsAt_len]
  rw [hs]
  have hg : (cellsAt (fun _ => 0) 0).toArray[i % 25]? = some (.int (kd (i % 25)) 0) := by simp [cellsAt, List.getElem?_range hm]
  rw [getElem!_def, hg, e]
set_option maxHeartbeats 8000000 in
set_option maxRecDepth 100000 in
theorem toStockS_calls (A : Option Addr) (n c : Nat) (f : Nat → Int) (hn : n ≤ 1048576) (w : World) (hA : Arg w n f A) :
    Calls Tryd.prog 12 #[.slice A n c] w fun e w' => e = .returned (.slice (some ⟨w.heap.size, 0, none⟩) n n) ∧ Rw w' w.heap.size n f ∧ Below w.heap.size w w' := by
  have HA := Aside0.mk hA
  have HT := Aside0.mk (fun o W => toStockA_calls f o W)
  obtain ⟨i0, hi, hz0, hz1, hz2⟩ := info_parts stockInfo
  have hmk : ∀ W, (Instr.makeSlice 29 (.int .i64 n) (.int .i64 n)).run Tryd.prog W = .ok (.slice (some ⟨W.heap.size, 0, none⟩) n n) (W.alloc (.cells (madeCells (cellsAt (fun _ => 0) 0).toArray (n * 25)) 44)) := fun W => by
    have := run_make (P := Tryd.prog) W 29 44 i0 _ Tryd.underlying29 hi hz0 .i64 .i64 n n (by omega) (by omega) (by rw [hz2]; omega) (by omega)
    rw [hz1] at this
    simpa [Value.cells] using this
  clear hA hi hz0 hz1 hz2
  have HM := Aside0.mk (made_rw w n 44)
  generalize madeCells (cellsAt (fun _ => 0) 0).toArray (n * 25) = M at *
  go_enter Tryd.func12, Tryd.ntmps12
  go_wp2
  go_loopw [4] (fun v4 w' => ∃ k : Nat, k ≤ n ∧ v4 = .int .i64 k ∧ Aside0 (Rw w' w.heap.size n (cut f k)) ∧ Aside0 (Below w.heap.size w w')) (fun v4 _ => n - (intOf v4).toNat)
  case atStart => exact ⟨0, by omega, rfl, ⟨HM.out.congr (fun i _ => if_neg (by omega))⟩, ⟨below_alloc (Below.refl _ _) _⟩⟩
  case round =>
    clear HM hmk
    obtain ⟨k, hk, rfl, HR, HB⟩ := hrel
    by_cases hlt : k < n
    · obtain ⟨b, o, rfl, hr⟩ := HA.out (by omega)
      have HG := Aside0.mk (Arg.range (q := k) (p := o + k * 25) (fun i hi => (Arg.below (fun _ => ⟨b, o, rfl, hr⟩) HB.out (by omega)).elim fun b' h1 => h1.elim fun o' h2 => by obtain ⟨e, h3⟩ := h2; injection e with e; injection e with e1 e2 e3; subst e1 e2; exact h3 i hi) hlt (by omega))
      clear hr
      go_wp2_with (first | (refine rw_load (by rfl) 55 _ (by rfl) b (o + k * 25) (by rfl) f (25 * k) HG.out _ Tryd.underlying55 (by rfl) (by kernel_rfl) ?_) | (go_at_call 22; refine (HT.out _ _).mono ?_; rintro e w1 ⟨rfl, hb⟩; have HR1 := Aside0.mk (HR.out.below hb); have HB1 := Aside0.mk (below_step HB.out hb); clear hb) | (refine rw_store (by rfl) 44 _ _ (by rfl) w.heap.size (k * 25) (by rfl) n k (cut f k) f (25 * k) (by rfl) HR1.out (by omega) hlt (by omega) (by kernel_rfl) ?_; intro w2 hw2 hg2; have HR2 := Aside0.mk (rw_cut hw2 (by omega)); have HB2 := Aside0.mk (below_grown HB1.out (Nat.le_refl _) HB1.out.size hg2); clear hw2 hg2))
      go_roundw
      case rel => exact ⟨k + 1, by omega, by go_num, HR2, HB2⟩
      case measure => simp [intOf] <;> omega
    · obtain rfl : k = n := by omega
      go_wp2
      go_ret
      exact ⟨rfl, HR.out.congr (fun i hi => by simp [cut, hi]), HB.out⟩
set_option maxHeartbeats 8000000 in
set_option maxRecDepth 100000 in
theorem toHouse_calls (A : Option Addr) (n c : Nat) (f : Nat → Int) (tub every today : Int) (hn : n ≤ 1048576) (w : World) (hA : Arg w n f A) :
    Calls Tryd.prog 6 #[.agg #[.slice A n c, .int .i16 tub, .int .i8 every, .int .i16 today]] w fun e w' => ∃ g, e = .returned (.agg #[.slice (some ⟨g, 0, none⟩) n n, .int .i16 tub, .int .i8 every, .int .i16 today]) ∧ w.heap.size ≤ g ∧ Rw w' g n f ∧ Below w.heap.size w w' := by
  have HA := Aside0.mk hA
  have HT := Aside0.mk (fun W h => toStockS_calls A n c f hn W h)
  clear hA
  go_enter Tryd.func6, Tryd.ntmps6
  go_wp2_with (go_at_call 12; refine (HT.out _ (HA.out.below (by repeat (first | exact Below.refl _ _ | apply below_alloc)))).mono ?_; rintro e w1 ⟨rfl, hR, hb⟩; have HR : Aside0 (Rw w1 (w.heap.size + 1 + 1 + 1) n f) := ⟨by simpa using hR⟩; have HB0 : Aside0 (Blk w1 w.heap.size 26 (hcells A n c tub every today)) := ⟨(Blk.alloc (Blk.alloc (Blk.new w _ _) _) _).below hb⟩; have HB1 : Aside0 (Blk w1 (w.heap.size + 1) 31 (hcells none 0 0 0 0 0)) := ⟨(Blk.alloc (Blk.at_ (by simp) (by rfl)) _).below hb⟩; have HB2 : Aside0 (Blk w1 (w.heap.size + 1 + 1) 31 (hcells none 0 0 0 0 0)) := ⟨(Blk.at_ (by simp) (by rfl)).below hb⟩; have HW : Aside0 (Below w.heap.size w w1) := ⟨below_step (by repeat (first | exact Below.refl _ _ | apply below_alloc)) hb⟩; clear hR hb; have a1 := HB0.out.cell 1 (v := .int .i16 tub) rfl; have a2 := HB0.out.cell 2 (v := .int .i8 every) rfl; have a3 := HB0.out.cell 3 (v := .int .i16 today) rfl; have b0 := HB1.out.cell 0 (v := .slice none 0 0) rfl; have b1 := HB1.out.cell 1 (v := .int .i16 0) rfl; have b2 := HB1.out.cell 2 (v := .int .i8 0) rfl; have b3 := HB1.out.cell 3 (v := .int .i16 0) rfl; have c0 := HB2.out.cell 0 (v := .slice none 0 0) rfl; have c1 := HB2.out.cell 1 (v := .int .i16 0) rfl; have c2 := HB2.out.cell 2 (v := .int .i8 0) rfl; have c3 := HB2.out.cell 3 (v := .int .i16 0) rfl; have d0 := HB1.out.frozen 0; have d1 := HB1.out.frozen 1; have d2 := HB1.out.frozen 2; have d3 := HB1.out.frozen 3; have e0 := HB2.out.frozen 0; have e1 := HB2.out.frozen 1; have e2 := HB2.out.frozen 2; have e3 := HB2.out.frozen 3)
  refine bodyPost_ret (v := .agg (hcells (some ⟨w.heap.size + 1 + 1 + 1, 0, none⟩) n n tub every today).toArray) (Blk.result (by rfl) _ _ (w.heap.size + 1) 31 (hcells (some ⟨w.heap.size + 1 + 1 + 1, 0, none⟩) n n tub every today) _ rfl (((((blk_other (blk_other (blk_other (blk_other HB1.out (by omega)) (by omega)) (by omega)) (by omega)).set 0 _).set 1 _).set 2 _).set 3 _) Tryd.underlying31 rfl (by kernel_rfl)) rfl ⟨_, rfl, by omega, ?_, ?_⟩
  · repeat (first | with_reducible exact HR.out | refine Rw.other ?_ (by omega))
  · repeat (first | with_reducible exact HW.out | refine below_setc ?_ (by omega))
theorem eqStockA_calls (f f' : Nat → Int) (o o' : Nat) (h : cellsAt f o = cellsAt f' o') (w : World) : Calls Tryd.prog 31 #[.agg (cellsAt f o).toArray, .agg (cellsAt f' o').toArray] w fun e w' => e = .returned (.bool true) ∧ Below w.heap.size w w' := by
  rw [← h, cellsAt_stk]; exact eqStock_calls _ _ (kOf_len f o) w
set_option maxHeartbeats 8000000 in
set_option maxRecDepth 100000 in
theorem eqStockS_calls (A B : Option Addr) (n c c' : Nat) (f f' : Nat → Int) (w : World) (hn : n ≤ 1048576) (hA : Arg w n f A) (hB : Arg w n f' B) (he : ∀ i, i < 25 * n → f i = f' i) :
    Calls Tryd.prog 16 #[.slice A n c, .slice B n c'] w fun e w' => e = .returned (.bool true) ∧ Below w.heap.size w w' := by
  have HA := Aside0.mk hA
  have HC := Aside0.mk hB
  have HE := Aside0.mk (fun k (hk : k < n) W => eqStockA_calls f f' (25 * k) (25 * k) (cellsAt_congr fun j hj => he _ (by omega)) W)
  clear hA hB he
  go_enter Tryd.func16, Tryd.ntmps16
  go_wp2
  go_loopw [5] (fun v5 w' => ∃ k : Nat, k ≤ n ∧ v5 = .int .i64 k ∧ Aside0 (Below w.heap.size w w')) (fun v5 _ => n - (intOf v5).toNat)
  case atStart => exact ⟨0, by omega, rfl, ⟨Below.refl _ _⟩⟩
  case round =>
    obtain ⟨k, hk, rfl, HB⟩ := hrel
    by_cases hlt : k < n
    · obtain ⟨b, o, rfl, hr⟩ := HA.out.below HB.out (by omega)
      obtain ⟨b', o', rfl, hr'⟩ := HC.out.below HB.out (by omega)
      have HG := Aside0.mk (Arg.range (p := o + k * 25) hr hlt (by omega))
      have HG' := Aside0.mk (Arg.range (p := o' + k * 25) hr' hlt (by omega))
      clear hr hr'
      have HEk := Aside0.mk (HE.out k hlt)
      go_wp2_with fail
      refine seq_region 8 (by kernel_rfl) (by kernel_rfl) (fun w1 hw1 => ?_)
      have HR1 : Aside0 (w1.rangeAt b (o + k * 25) (cellsAt f (25 * k))) := ⟨by rw [hw1]; exact HG.out⟩
      have HR2 : Aside0 (w1.rangeAt b' (o' + k * 25) (cellsAt f' (25 * k))) := ⟨by rw [hw1]; exact HG'.out⟩
      have HB1 : Aside0 (Below w.heap.size w w1) := ⟨by rw [hw1]; exact below_drew HB.out⟩
      clear hw1 HG HG' HB
      simp only [List.take_succ_cons, List.take_zero, List.drop_succ_cons, List.drop_zero]
      repeat (first | (refine still_load rfl 44 _ rfl (.pointer (some ⟨b, o + k * 25, none⟩)) (.agg (cellsAt f (25 * k)).toArray) (by rfl) (run_loadAt_mid w1 b (o + k * 25) 44 _ _ HR1.out Tryd.underlying44 (by rfl) (by rw [cellsAt_len]; kernel_rfl)) ?_) | (refine still_load rfl 44 _ rfl (.pointer (some ⟨b', o' + k * 25, none⟩)) (.agg (cellsAt f' (25 * k)).toArray) (by rfl) (run_loadAt_mid w1 b' (o' + k * 25) 44 _ _ HR2.out Tryd.underlying44 (by rfl) (by rw [cellsAt_len]; kernel_rfl)) ?_) | still_step)
      try refine wpStill_nil ?_
      go_wp2_with (go_at_call 31; refine (HEk.out _).mono ?_; rintro e w2 ⟨rfl, hb⟩; have HB2 := Aside0.mk (below_step HB1.out hb); clear hb)
      go_roundw
      case rel => exact ⟨k + 1, by omega, by go_num, HB2⟩
      case measure => simp [intOf] <;> omega
    · obtain rfl : k = n := by omega
      go_wp2
      go_ret
      exact ⟨rfl, HB.out⟩
set_option maxHeartbeats 8000000 in
set_option maxRecDepth 100000 in
theorem eqHouse_calls (A B : Option Addr) (n c c' : Nat) (f f' : Nat → Int) (tub every today : Int) (w : World) (hn : n ≤ 1048576) (hA : Arg w n f A) (hB : Arg w n f' B) (he : ∀ i, i < 25 * n → f i = f' i) :
    Calls Tryd.prog 8 #[.agg #[.slice A n c, .int .i16 tub, .int .i8 every, .int .i16 today], .agg #[.slice B n c', .int .i16 tub, .int .i8 every, .int .i16 today]] w fun e w' => e = .returned (.bool true) ∧ Below w.heap.size w w' := by
  have HA := Aside0.mk hA
  have HC := Aside0.mk hB
  have HE := Aside0.mk (fun W h h' => eqStockS_calls A B n c c' f f' W hn h h' he)
  clear hA hB he
  go_enter Tryd.func8, Tryd.ntmps8
  go_wp2_with (go_at_call 16; refine (HE.out _ (HA.out.below (by repeat (first | exact Below.refl _ _ | apply below_alloc))) (HC.out.below (by repeat (first | exact Below.refl _ _ | apply below_alloc)))).mono ?_; rintro e w1 ⟨rfl, hb⟩; have HB0 : Aside0 (Blk w1 w.heap.size 31 (hcells A n c tub every today)) := ⟨(Blk.alloc (Blk.new w _ _) _).below hb⟩; have HB1 : Aside0 (Blk w1 (w.heap.size + 1) 31 (hcells B n c' tub every today)) := ⟨(Blk.at_ (by simp) (by rfl)).below hb⟩; have HW : Aside0 (Below w.heap.size w w1) := ⟨below_step (by repeat (first | exact Below.refl _ _ | apply below_alloc)) hb⟩; clear hb; have a1 := HB0.out.cell 1 (v := .int .i16 tub) rfl; have a2 := HB0.out.cell 2 (v := .int .i8 every) rfl; have a3 := HB0.out.cell 3 (v := .int .i16 today) rfl; have b1 := HB1.out.cell 1 (v := .int .i16 tub) rfl; have b2 := HB1.out.cell 2 (v := .int .i8 every) rfl; have b3 := HB1.out.cell 3 (v := .int .i16 today) rfl)
  go_ret
  exact ⟨rfl, HW.out⟩
end Go.Proofs.YtddlhjhnnmkgaaaDoor.X
