/- Contracts of functions, and plain facts: what each call answers, and what it leaves as it was. -/
import Derived.Test.YtddlhjhnnmkgaaaDoorX0
import Derived.Test.YtddlhjhnnmkgaaaDoorBlk
set_option linter.unusedVariables false
set_option linter.unusedSimpArgs false
namespace Go.Proofs.YtddlhjhnnmkgaaaDoor.X
open Go.RowKit Go.Proofs.YtddlhjhnnmkgaaaDoorW.PrintWords Go.Proofs.YtddlhjhnnmkgaaaDoorW.PrintLast Go.Proofs.YtddlhjhnnmkgaaaDoorW.PrintMore
attribute [local go_sem] max2_int min2_int max_two min_two max_three min_three max_four min_four
theorem nums_len (k : IntKind) (L : List Int) : (nums k L).length = L.length := by simp [nums]
theorem nums_get {k : IntKind} {L : List Int} {i : Nat} (h : i < L.length) : (nums k L)[i]? = some (.int k (L.getD i 0)) := by
  simp [nums, List.getElem?_eq_getElem h, List.getD_eq_getElem?_getD]
theorem tail_get {α : Type} {k : Nat} {A Z : List α} (hA : k ≤ A.length) : (A.take k ++ Z.drop k)[k]? = Z[k]? := by
  rw [List.getElem?_append_right (by simp; omega), List.getElem?_drop]
  congr 1
  simp; omega
theorem zero_get {K : IntKind} {n k : Nat} (h : k < n) : (nums K (List.replicate n 0))[k]? = some (.int K 0) := by simp [nums, h]
set_option maxHeartbeats 4000000 in
set_option maxRecDepth 100000 in
theorem toA8_calls (L : List Int) (hL : L.length = 8) (w : World) : Calls Tryd.prog 33 #[(.agg (nums .i16 L).toArray)] w fun e w' => e = .returned (.agg (nums .i16 L).toArray) ∧ Below w.heap.size w w' := by
  have HL := Aside0.mk hL
  clear hL
  go_enter Tryd.func33, Tryd.ntmps33
  go_wp2
  go_loopw [4] (fun v4 w' => ∃ k : Nat, k ≤ 8 ∧ v4 = .int .i64 k ∧ Aside0 (Blk w' w.heap.size 42 (nums .i16 L)) ∧ Aside0 (Blk w' (w.heap.size + 1) 42 (nums .i16 (List.replicate 8 0))) ∧ Aside0 (Blk w' (w.heap.size + 1 + 1) 42 ((nums .i16 L).take k ++ (nums .i16 (List.replicate 8 0)).drop k)) ∧ Aside0 (Below w.heap.size w w')) (fun v4 _ => 8 - (intOf v4).toNat)
  case atStart => exact ⟨0, by omega, rfl, ⟨Blk.alloc (Blk.alloc (Blk.new w _ _) _) _⟩, ⟨Blk.alloc (Blk.at_ (by simp) (by rfl)) _⟩, ⟨Blk.at_ (by simp) (by rfl)⟩, ⟨below_alloc (below_alloc (below_alloc (Below.refl _ _) _) _) _⟩⟩
  case round =>
    obtain ⟨k, hk, rfl, HA, HR, HO, HB⟩ := hrel
    by_cases hlt : k < 8
    · have c0 := HA.out.cell k (nums_get (by have := HL.out; omega))
      obtain ⟨y, HY⟩ : ∃ y, Aside0 (y = L.getD k 0) := ⟨_, ⟨rfl⟩⟩
      rw [← HY.out] at c0
      have c1 := HO.out.cell k (v := .int .i16 0) (by rw [tail_get (by rw [nums_len, HL.out]; omega)]; exact zero_get hlt)
      have c2 := HO.out.frozen k
      go_wp2
      go_roundw
      case rel => exact ⟨k + 1, by omega, by go_num, ⟨HA.out.grown (grown_set _ _ _ _) (fun e => by injection e with e; omega)⟩, ⟨HR.out.grown (grown_set _ _ _ _) (fun e => by injection e with e; omega)⟩, ⟨by
        have h := HO.out.set k (.int .i16 y)
        rw [List.set_eq_take_append_cons_drop, if_pos (by simp [nums]; have := HL.out; omega)] at h
        have e : [Value.int .i16 y] = ((nums .i16 L).drop k).take 1 := by rw [List.drop_eq_getElem_cons (by rw [nums_len, HL.out]; exact hlt), List.take_succ_cons, List.take_zero, HY.out]; simp [nums, List.getD_eq_getElem?_getD, List.getElem?_eq_getElem (show k < L.length by rw [HL.out]; exact hlt)]
        rw [← copy_step (by rw [nums_len, HL.out]; omega) (by simp [nums]; omega), ← e, List.append_assoc]
        exact h⟩, ⟨below_set HB.out (by omega)⟩⟩
      case measure => simp [intOf]; omega
    · obtain rfl : k = 8 := by omega
      have HS : Aside0 ((((nums .i16 L).take 8 ++ (nums .i16 (List.replicate 8 0)).drop 8).drop 0).take 8 = nums .i16 L) := ⟨by have := HL.out; rw [List.drop_of_length_le (l := nums .i16 (List.replicate 8 0)) (by simp [nums]), List.append_nil, List.drop_zero, List.take_of_length_le (by simp [nums]; omega), List.take_of_length_le (by simp [nums]; omega)]⟩
      have HN : Aside0 ((nums .i16 L).length = 8) := ⟨by rw [nums_len]; exact HL.out⟩
      go_wp2_with (first | (refine wl_load (by rfl) 42 _ (by rfl) (w.heap.size + 1 + 1) 0 (by rfl) 42 8 _ _ HO.out HS.out HN.out _ Tryd.underlying42 (by rfl) (by kernel_rfl) ?_) | (refine wl_store (by rfl) 42 _ _ (by rfl) (w.heap.size + 1) 0 (by rfl) 42 8 _ (nums .i16 L) (by rfl) HR.out HN.out (by simp [nums]) (by kernel_rfl) (by simp [nums, Value.oneCell']) ?_; intro w2 hw2 hg2; have HR2 := Aside0.mk hw2; have HB2 := Aside0.mk (pw_below_grown HB.out _ (by have := HB.out.size; omega) hg2 (fun k e => by injection e with e; omega)); clear hw2 hg2))
      refine bodyPost_ret (v := (.agg (nums .i16 L).toArray)) (Blk.result (by rfl) _ _ (w.heap.size + 1) 42 (nums .i16 L) _ rfl (Blk.all HR2.out (by simp [nums])) Tryd.underlying42 rfl (by rw [HN.out]; kernel_rfl)) rfl ⟨rfl, HB2.out⟩
/-- the cells of a stock: clean, used, dirty, rags -/
def stk (K : List Int) (r : Int) : List Value := nums .i16 K ++ [.int .i32 r]
theorem stk_len {K : List Int} (h : K.length = 24) (r : Int) : (stk K r).length = 25 := by simp [stk, nums, h]
theorem stk_seg {K : List Int} (h : K.length = 24) (r : Int) {o : Nat} (ho : o + 8 ≤ 24) : ((stk K r).drop o).take 8 = nums .i16 ((K.drop o).take 8) := by
  unfold stk
  rw [List.drop_append_of_le_length (by rw [nums_len]; omega), List.take_append_of_le_length (by rw [List.length_drop, nums_len]; omega)]
  simp [nums]
theorem stk_get {K : List Int} (h : K.length = 24) (r : Int) {i : Nat} (hi : i < 24) : (stk K r)[i]? = some (.int .i16 (K.getD i 0)) := by
  unfold stk
  rw [List.getElem?_append_left (by rw [nums_len]; omega)]
  exact nums_get (by omega)
theorem stk_rag {K : List Int} (h : K.length = 24) (r : Int) : (stk K r)[24]? = some (.int .i32 r) := by
  unfold stk
  rw [List.getElem?_append_right (by rw [nums_len]; omega), nums_len, h]
  rfl
theorem stk_set {K : List Int} (h : K.length = 24) (r : Int) {i : Nat} (hi : i < 24) (x : Int) : (stk K r).set i (.int .i16 x) = stk (K.set i x) r := by
  unfold stk
  rw [List.set_append_left _ _ (by rw [nums_len]; omega)]
  simp [nums, List.map_set]
theorem stk_setR {K : List Int} (h : K.length = 24) (r x : Int) : (stk K r).set 24 (.int .i32 x) = stk K x := by
  unfold stk
  rw [List.set_append_right _ _ (by rw [nums_len]; omega), nums_len, h]
  rfl
theorem stk_one (K : List Int) (r : Int) : (stk K r).all (·.oneCell') = true := by simp [stk, nums, Value.oneCell']
/-- how far a stock is copied -/
def CopyAt (w0 : World) (A Z : List Value) (n : Nat) (w : World) : Prop := Blk w w0.heap.size 55 A ∧ Blk w (w0.heap.size + 1) 44 Z ∧ Blk w (w0.heap.size + 1 + 1) 44 (A.take n ++ Z.drop n) ∧ Below w0.heap.size w0 w
theorem CopyAt.below {w0 w w1 : World} {A Z : List Value} {n : Nat} (h : CopyAt w0 A Z n w) (hb : Below w.heap.size w w1) : CopyAt w0 A Z n w1 := ⟨h.1.below hb, h.2.1.below hb, h.2.2.1.below hb, below_step h.2.2.2 hb⟩
theorem CopyAt.step {w0 w w1 : World} {A Z seg : List Value} {n m k : Nat} (h : CopyAt w0 A Z n w) (hs : (A.drop n).take m = seg) (hA : n + m ≤ A.length) (hZ : n + m ≤ Z.length) (hk : n + m = k) (hB : Blk w1 (w0.heap.size + 1 + 1) 44 ((A.take n ++ Z.drop n).take n ++ seg ++ (A.take n ++ Z.drop n).drop (n + m))) (hg : w.grownBy w1 (some (w0.heap.size + 1 + 1))) : CopyAt w0 A Z k w1 := by
  subst hk
  refine ⟨h.1.grown hg (fun e => by injection e with e; omega), h.2.1.grown hg (fun e => by injection e with e; omega), ?_, pw_below_grown h.2.2.2 _ (by have := h.2.2.2.size; omega) hg (fun k e => by injection e with e; omega)⟩
  rw [← copy_step hA hZ, hs]
  exact hB
theorem CopyAt.res {w0 w w1 : World} {A Z : List Value} {n m : Nat} (h : CopyAt w0 A Z n w) (hB : Blk w1 (w0.heap.size + 1) 44 (Z.take 0 ++ A ++ Z.drop (0 + m))) (hm : Z.length ≤ m) (hg : w.grownBy w1 (some (w0.heap.size + 1))) : Blk w1 (w0.heap.size + 1) 44 A ∧ Below w0.heap.size w0 w1 :=
  ⟨Blk.all hB hm, pw_below_grown h.2.2.2 _ (by have := h.2.2.2.size; omega) hg (fun k e => by injection e with e; omega)⟩
theorem CopyAt.rag {w0 w : World} {A Z : List Value} {v : Value} (h : CopyAt w0 A Z 24 w) (hA : A.length = 25) (hv : A[24]? = some v) (hZ : Z.length = 25) : CopyAt w0 A Z 25 (w.setCell ⟨w0.heap.size + 1 + 1, 24, none⟩ v) := by
  have hs : (A.drop 24).take 1 = [v] := by
    rw [List.drop_eq_getElem_cons (by omega), List.take_succ_cons, List.take_zero]
    rw [List.getElem?_eq_getElem (by omega)] at hv
    rw [Option.some.inj hv]
  have hset := h.2.2.1.set 24 v
  rw [List.set_eq_take_append_cons_drop, if_pos (by simp; omega)] at hset
  exact h.step hs (by omega) (by omega) rfl (by rw [List.append_assoc]; exact hset) (grown_set _ _ _ _)
theorem CopyAt.whole {w0 w : World} {A Z : List Value} (h : CopyAt w0 A Z 25 w) (hA : A.length = 25) (hZ : Z.length = 25) : Blk w (w0.heap.size + 1 + 1) 44 A := by
  have := h.2.2.1
  rw [List.take_of_length_le (by omega), List.drop_of_length_le (by omega), List.append_nil] at this
  exact this
set_option maxHeartbeats 8000000 in
set_option maxRecDepth 100000 in
theorem toStock_calls (K : List Int) (r : Int) (hK : K.length = 24) (w : World) : Calls Tryd.prog 22 #[.agg (stk K r).toArray] w fun e w' => e = .returned (.agg (stk K r).toArray) ∧ Below w.heap.size w w' := by
  have HTA := Aside0.mk (fun (L : List Int) (hL : L.length = 8) W => toA8_calls L hL W)
  have HL := Aside0.mk (stk_len hK r)
  have G := Aside0.mk (fun (o : Nat) (ho : o + 8 ≤ 24) => stk_seg hK r ho)
  have GL := Aside0.mk (fun (o : Nat) (ho : o + 8 ≤ 24) => (show ((K.drop o).take 8).length = 8 by simp; omega))
  have GR := Aside0.mk (stk_rag hK r)
  have G1 := Aside0.mk (stk_one K r)
  have G0 := Aside0.mk (G.out 0 (by decide))
  have G8 := Aside0.mk (G.out 8 (by decide))
  have G16 := Aside0.mk (G.out 16 (by decide))
  have L0 := Aside0.mk (GL.out 0 (by decide))
  have L8 := Aside0.mk (GL.out 8 (by decide))
  have L16 := Aside0.mk (GL.out 16 (by decide))
  clear G GL
  generalize stk K r = S at *
  generalize (K.drop 0).take 8 = A0 at *
  generalize (K.drop 8).take 8 = A8 at *
  generalize (K.drop 16).take 8 = A16 at *
  obtain ⟨Z, HZ⟩ : ∃ Z : List Value, Aside0 (Z = [Value.int .i16 0, Value.int .i16 0, Value.int .i16 0, Value.int .i16 0, Value.int .i16 0, Value.int .i16 0, Value.int .i16 0, Value.int .i16 0, Value.int .i16 0, Value.int .i16 0, Value.int .i16 0, Value.int .i16 0, Value.int .i16 0, Value.int .i16 0, Value.int .i16 0, Value.int .i16 0, Value.int .i16 0, Value.int .i16 0, Value.int .i16 0, Value.int .i16 0, Value.int .i16 0, Value.int .i16 0, Value.int .i16 0, Value.int .i16 0, Value.int .i32 0]) := ⟨_, ⟨rfl⟩⟩
  have HZL : Aside0 (Z.length = 25) := ⟨by rw [HZ.out]; rfl⟩
  have GF := Aside0.mk (fun (o : Nat) (ho : o + 8 ≤ 24) => (show o + 8 ≤ (S.take o ++ Z.drop o).length by have h1 := HL.out; have h2 := HZL.out; rw [List.length_append, List.length_take, List.length_drop]; omega))
  have GO : Aside0 (∀ L : List Int, (nums .i16 L).all (·.oneCell') = true) := ⟨fun L => by simp [nums, Value.oneCell']⟩
  have N0 : Aside0 ((nums .i16 A0).length = 8) := ⟨by rw [nums_len]; exact L0.out⟩
  have N8 : Aside0 ((nums .i16 A8).length = 8) := ⟨by rw [nums_len]; exact L8.out⟩
  have N16 : Aside0 ((nums .i16 A16).length = 8) := ⟨by rw [nums_len]; exact L16.out⟩
  have E0 : Aside0 (0 + 8 ≤ 24) := ⟨by decide⟩
  have E8 : Aside0 (8 + 8 ≤ 24) := ⟨by decide⟩
  have E16 : Aside0 (16 + 8 ≤ 24) := ⟨by decide⟩
  have GS : Aside0 (∀ (o k : Nat) (A : List Int) (W W2 : World), (S.drop o).take 8 = nums .i16 A → o + 8 ≤ 24 → o + 8 = k → CopyAt w S Z o W → Blk W2 (w.heap.size + 1 + 1) 44 ((S.take o ++ Z.drop o).take o ++ nums .i16 A ++ (S.take o ++ Z.drop o).drop (o + 8)) → W.grownBy W2 (some (w.heap.size + 1 + 1)) → CopyAt w S Z k W2) := ⟨fun o k A W W2 hs ho hk h hB hg => h.step hs (by rw [HL.out]; omega) (by rw [HZL.out]; omega) hk hB hg⟩
  have HE24 : Aside0 ((S.take 24 ++ Z.drop 24)[24]? = some (.int .i32 0)) := ⟨by rw [tail_get (by rw [HL.out]; decide), HZ.out]; rfl⟩
  have HZ25 : Aside0 (0 + 25 ≤ Z.length) := ⟨by rw [HZL.out]; decide⟩
  have HZ25b : Aside0 (Z.length ≤ 25) := ⟨by rw [HZL.out]; decide⟩
  have HW : Aside0 ((S.drop 0).take 25 = S) := ⟨by rw [List.drop_zero, List.take_of_length_le (by rw [HL.out]; decide)]⟩
  have H0 : Aside0 (CopyAt w S Z 0 (((w.alloc (.cells S.toArray 55)).alloc (.cells #[Value.int .i16 0, Value.int .i16 0, Value.int .i16 0, Value.int .i16 0, Value.int .i16 0, Value.int .i16 0, Value.int .i16 0, Value.int .i16 0, Value.int .i16 0, Value.int .i16 0, Value.int .i16 0, Value.int .i16 0, Value.int .i16 0, Value.int .i16 0, Value.int .i16 0, Value.int .i16 0, Value.int .i16 0, Value.int .i16 0, Value.int .i16 0, Value.int .i16 0, Value.int .i16 0, Value.int .i16 0, Value.int .i16 0, Value.int .i16 0, Value.int .i32 0] 44)).alloc (.cells #[Value.int .i16 0, Value.int .i16 0, Value.int .i16 0, Value.int .i16 0, Value.int .i16 0, Value.int .i16 0, Value.int .i16 0, Value.int .i16 0, Value.int .i16 0, Value.int .i16 0, Value.int .i16 0, Value.int .i16 0, Value.int .i16 0, Value.int .i16 0, Value.int .i16 0, Value.int .i16 0, Value.int .i16 0, Value.int .i16 0, Value.int .i16 0, Value.int .i16 0, Value.int .i16 0, Value.int .i16 0, Value.int .i16 0, Value.int .i16 0, Value.int .i32 0] 44))) :=
    ⟨⟨((Blk.new w _ _).alloc _).alloc _, (Blk.at_ (by simp) (by rw [HZ.out])).alloc _, Blk.at_ (by simp) (by rw [HZ.out]; rfl), below_alloc (below_alloc (below_alloc (Below.refl _ _) _) _) _⟩⟩
  clear hK
  go_enter Tryd.func22, Tryd.ntmps22
  go_wp2_with (first | (refine wl_load (by rfl) 42 _ (by rfl) w.heap.size 16 (by rfl) 55 8 _ _ H16.out.1 G16.out N16.out _ Tryd.underlying42 (by rfl) (by kernel_rfl) ?_) | (go_at_call 33; have _t := H16; refine (HTA.out _ L16.out _).mono ?_; rintro e w1 ⟨rfl, hb⟩; have HC16 := Aside0.mk (CopyAt.below H16.out hb); clear hb H16) | (refine wl_store (by rfl) 42 _ _ (by rfl) (w.heap.size + 1 + 1) 16 (by rfl) 44 8 _ (nums .i16 A16) (by rfl) HC16.out.2.2.1 N16.out (GF.out 16 E16.out) (by kernel_rfl) (GO.out _) ?_; intro w2 hw2 hg2; have H24 := Aside0.mk (GS.out 16 24 _ _ _ G16.out E16.out rfl HC16.out hw2 hg2); clear hw2 hg2 HC16; have c24 := H24.out.1.cell 24 GR.out; have e24 := H24.out.2.2.1.cell 24 HE24.out; have f24 := H24.out.2.2.1.frozen 24) | (refine wl_load (by rfl) 42 _ (by rfl) w.heap.size 8 (by rfl) 55 8 _ _ H8.out.1 G8.out N8.out _ Tryd.underlying42 (by rfl) (by kernel_rfl) ?_) | (go_at_call 33; have _t := H8; refine (HTA.out _ L8.out _).mono ?_; rintro e w1 ⟨rfl, hb⟩; have HC8 := Aside0.mk (CopyAt.below H8.out hb); clear hb H8) | (refine wl_store (by rfl) 42 _ _ (by rfl) (w.heap.size + 1 + 1) 8 (by rfl) 44 8 _ (nums .i16 A8) (by rfl) HC8.out.2.2.1 N8.out (GF.out 8 E8.out) (by kernel_rfl) (GO.out _) ?_; intro w2 hw2 hg2; have H16 := Aside0.mk (GS.out 8 16 _ _ _ G8.out E8.out rfl HC8.out hw2 hg2); clear hw2 hg2 HC8) | (refine wl_load (by rfl) 42 _ (by rfl) w.heap.size 0 (by rfl) 55 8 _ _ H0.out.1 G0.out N0.out _ Tryd.underlying42 (by rfl) (by kernel_rfl) ?_) | (go_at_call 33; have _t := H0; refine (HTA.out _ L0.out _).mono ?_; rintro e w1 ⟨rfl, hb⟩; have HC0 := Aside0.mk (CopyAt.below H0.out hb); clear hb H0) | (refine wl_store (by rfl) 42 _ _ (by rfl) (w.heap.size + 1 + 1) 0 (by rfl) 44 8 _ (nums .i16 A0) (by rfl) HC0.out.2.2.1 N0.out (GF.out 0 E0.out) (by kernel_rfl) (GO.out _) ?_; intro w2 hw2 hg2; have H8 := Aside0.mk (GS.out 0 8 _ _ _ G0.out E0.out rfl HC0.out hw2 hg2); clear hw2 hg2 HC0) | (refine wl_load (by rfl) 44 _ (by rfl) (w.heap.size + 1 + 1) 0 (by rfl) 44 25 _ S (CopyAt.whole (CopyAt.rag H24.out HL.out GR.out HZL.out) HL.out HZL.out) HW.out HL.out _ Tryd.underlying44 (by rfl) (by kernel_rfl) ?_) | (refine wl_store (by rfl) 44 _ _ (by rfl) (w.heap.size + 1) 0 (by rfl) 44 25 _ S (by rfl) (CopyAt.rag H24.out HL.out GR.out HZL.out).2.1 HL.out HZ25.out (by kernel_rfl) G1.out ?_; intro w2 hw2 hg2; have HF := Aside0.mk (CopyAt.res (CopyAt.rag H24.out HL.out GR.out HZL.out) hw2 HZ25b.out hg2); clear hw2 hg2))
  refine bodyPost_ret (v := .agg S.toArray) (Blk.result (by rfl) _ _ (w.heap.size + 1) 44 S _ rfl HF.out.1 Tryd.underlying44 rfl (by rw [HL.out]; kernel_rfl)) rfl ⟨rfl, HF.out.2⟩
end Go.Proofs.YtddlhjhnnmkgaaaDoor.X
