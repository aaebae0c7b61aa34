/- Contracts of functions, and plain facts: what each call answers, and what it leaves as it was. -/
import Derived.Test.YtddlhjhnnmkgaaaDoorStock
import Derived.Test.YtddlhjhnnmkgaaaDoorConcat
set_option linter.unusedVariables false
set_option linter.unusedSimpArgs false
namespace Go.Proofs.YtddlhjhnnmkgaaaDoor.X
open Go.RowKit Go.Proofs.YtddlhjhnnmkgaaaDoorW.PrintWords Go.Proofs.YtddlhjhnnmkgaaaDoorW.PrintLast Go.Proofs.YtddlhjhnnmkgaaaDoorW.PrintMore
attribute [local go_sem] max2_int min2_int max_two min_two max_three min_three max_four min_four
theorem C_nums16 {W : World} {g t o n : Nat} {cs : List Value} {xs : List Int} (h : Blk W g t cs) (hn : xs.length = n) (hm : n ≤ 1099511627776) (hs : (cs.drop o).take n = nums .i16 xs) : Kd.C (Kd.int .i16) W (some ⟨g, o, none⟩) n xs := by
  have hl : (nums .i16 xs).length = n := by rw [nums_len]; exact hn
  have hr := h.rangeAt o (seg := nums .i16 xs) (by rw [hl]; exact hs)
  refine ⟨hn, by omega, fun _ => ⟨_, rfl, fun j p hj => ?_⟩⟩
  refine ⟨_, rfl, rfl, fun i u hi => ?_⟩
  match i, hi with
  | 0, hi =>
    have : (⟨g, o, none⟩ : Addr).add (j * (Kd.int .i16).sz + 0) = ⟨g, o + j, none⟩ := by rw [Addr.add_mid]; simp [show (Kd.int .i16).sz = 1 from rfl]
    rw [this]
    refine hr j u ?_
    simp at hi
    subst hi
    simp [nums, hj]
theorem C_rows3 {W : World} {g t : Nat} {A0 A1 A2 : Option Addr} {l0 l1 l2 : List Int} (h : Blk W g t [.slice A0 8 8, .slice A1 8 8, .slice A2 8 8]) (h0 : Kd.C (Kd.int .i16) W A0 8 l0) (h1 : Kd.C (Kd.int .i16) W A1 8 l1) (h2 : Kd.C (Kd.int .i16) W A2 8 l2) (e0 : l0.length = 8) (e1 : l1.length = 8) (e2 : l2.length = 8) :
    Kd.C (Kd.slice 23 (Kd.int .i16)) W (some ⟨g, 0, none⟩) 3 [l0, l1, l2] := by
  refine ⟨rfl, by omega, fun _ => ⟨_, rfl, fun j p hj => ?_⟩⟩
  match j, hj with
  | 0, hj =>
    simp at hj
    subst hj
    refine ⟨_, rfl, ⟨A0, 8, rfl, by omega, by rw [e0]; exact h0⟩, fun i u hi => ?_⟩
    have : (⟨g, 0, none⟩ : Addr).add (0 * (Kd.slice 23 (Kd.int .i16)).sz + i) = ⟨g, i, none⟩ := by rw [Nat.zero_mul, Nat.zero_add, Addr.add_mid, Nat.zero_add]
    rw [this]
    match i, hi with
    | 0, hi => rw [e0] at hi; exact h.cell 0 hi
  | 1, hj =>
    simp at hj
    subst hj
    refine ⟨_, rfl, ⟨A1, 8, rfl, by omega, by rw [e1]; exact h1⟩, fun i u hi => ?_⟩
    have : (⟨g, 0, none⟩ : Addr).add (1 * (Kd.slice 23 (Kd.int .i16)).sz + i) = ⟨g, 1 + i, none⟩ := by rw [Addr.add_mid, Nat.zero_add]; rfl
    rw [this]
    match i, hi with
    | 0, hi => rw [e1] at hi; exact h.cell 1 hi
  | 2, hj =>
    simp at hj
    subst hj
    refine ⟨_, rfl, ⟨A2, 8, rfl, by omega, by rw [e2]; exact h2⟩, fun i u hi => ?_⟩
    have : (⟨g, 0, none⟩ : Addr).add (2 * (Kd.slice 23 (Kd.int .i16)).sz + i) = ⟨g, 2 + i, none⟩ := by rw [Addr.add_mid, Nat.zero_add]; rfl
    rw [this]
    match i, hi with
    | 0, hi => rw [e2] at hi; exact h.cell 2 hi
theorem parts3 {K : List Int} (hK : K.length = 24) : [(K.drop 0).take 8, (K.drop 8).take 8, (K.drop 16).take 8].flatten = K := by
  have h1 : (K.drop 16).take 8 = K.drop 16 := List.take_of_length_le (by rw [List.length_drop]; omega)
  have h2 : (K.drop 8).take 8 ++ K.drop 16 = K.drop 8 := by
    have := List.take_append_drop 8 (K.drop 8)
    rwa [List.drop_drop] at this
  simp only [List.flatten_cons, List.flatten_nil, List.append_nil, List.drop_zero]
  rw [h1, h2, List.take_append_drop]
/-- the three rows of a stock, joined -/
theorem concat3 (K : List Int) (hK : K.length = 24) (r : Int) (g g1 t1 : Nat) (W : World) (hB : Blk W g 44 (stk K r)) (hS : Blk W g1 t1 [.slice (some ⟨g, 0, none⟩) 8 8, .slice (some ⟨g, 8, none⟩) 8 8, .slice (some ⟨g, 16, none⟩) 8 8]) :
    Calls Tryd.prog 30 #[.slice (some ⟨g1, 0, none⟩) 3 3] W fun e w' => ∃ A c, e = .returned (.slice A 24 c) ∧ Kd.R (Kd.int .i16) 23 w' 0 (fun _ => True) (.slice A 24 c) K ∧ Below W.heap.size W w' := by
  have hl : ∀ o, o + 8 ≤ 24 → ((K.drop o).take 8).length = 8 := fun o ho => by rw [List.length_take, List.length_drop]; omega
  have hp := parts3 hK
  have hc := C_rows3 hS (C_nums16 hB (hl 0 (by omega)) (by omega) (stk_seg hK r (by omega))) (C_nums16 hB (hl 8 (by omega)) (by omega) (stk_seg hK r (by omega))) (C_nums16 hB (hl 16 (by omega)) (by omega) (stk_seg hK r (by omega))) (hl 0 (by omega)) (hl 8 (by omega)) (hl 16 (by omega))
  refine (concat16_of grows_nil16 (some ⟨g1, 0, none⟩) 3 [(K.drop 0).take 8, (K.drop 8).take 8, (K.drop 16).take 8] W hc (by simp) (by rw [hp]; omega)).mono ?_
  rintro e w' ⟨v, rfl, hR, hb⟩
  rw [hp] at hR
  obtain ⟨A, c, rfl, h1, h2⟩ := Kd.R_reads hR
  rw [hK] at hR ⊢
  exact ⟨A, c, rfl, Kd.R_lower hR (Nat.zero_le _), hb⟩
set_option maxHeartbeats 8000000 in
set_option maxRecDepth 100000 in
theorem numbersOf_calls (K : List Int) (hK : K.length = 24) (h16 : ∀ j, -32768 ≤ K.getD j 0 ∧ K.getD j 0 ≤ 32767) (r : Int) (hr : -2147483648 ≤ r ∧ r ≤ 2147483647) (w : World) :
    Calls Tryd.prog 15 #[.agg (stk K r).toArray] w fun e w' => ∃ v, e = .returned v ∧ Kd.R (Kd.int .i64) 2 w' w.heap.size (fun _ => True) v (K ++ [r]) ∧ Below w.heap.size w w' := by
  have HK := Aside0.mk hK
  have H16 := Aside0.mk h16
  have HC := Aside0.mk (fun g g1 t1 W hB hS => concat3 K hK r g g1 t1 W hB hS)
  have ir : IntKind.i64.wrap r = r := IntWalk.i64_in _ ⟨by omega, by omega⟩
  clear hK h16 hr
  go_enter Tryd.func15, Tryd.ntmps15
  go_wp2_with fail
  have HB0 : Aside0 (Blk ((w.alloc (.cells (stk K r).toArray 44)).alloc (.cells #[] 2)) w.heap.size 44 (stk K r)) := ⟨(Blk.new w _ _).alloc _⟩
  have HW0 : Aside0 (Below w.heap.size w ((w.alloc (.cells (stk K r).toArray 44)).alloc (.cells #[] 2))) := ⟨below_alloc (below_alloc (Below.refl _ _) _) _⟩
  have HR0 : Aside0 (Kd.R (Kd.int .i64) 2 ((w.alloc (.cells (stk K r).toArray 44)).alloc (.cells #[] 2)) w.heap.size (fun _ => True) (.slice (some ⟨w.heap.size + 1, 0, none⟩) 0 0) ([] : List Int)) := ⟨by
    have ho := own_lit (w.alloc (.cells (stk K r).toArray 44)) w.heap.size 2 .i64 [] (by simp) (by simp)
    have hr : Kd.R (Kd.int .i64) 2 _ w.heap.size (fun _ => True) _ ([] : List Int) := Kd.R_of_own (enc := Value.int .i64) (h1 := fun _ => rfl) (ok := fun _ => True) ho (fun _ _ => trivial)
    simpa [show nums .i64 [] = [] from rfl] using hr⟩
  generalize hv3 : Value.slice (some ⟨w.heap.size + 1, 0, none⟩) 0 0 = v3 at *
  generalize ((w.alloc (.cells (stk K r).toArray 44)).alloc (.cells #[] 2)) = W1 at HB0 HW0 HR0 ⊢
  have c0 := HB0.out.cell 24 (stk_rag HK.out r)
  go_region_held3 (fun w' => w'.cell? ⟨w.heap.size, 24, none⟩ = some (.int .i32 r)) (go_keep) ((go_at_call 30; refine (HC.out w.heap.size _ _ _ (by repeat (first | exact HB0.out | apply Blk.drewN | apply Blk.drew | apply Blk.alloc)) (by repeat (first | exact Blk.at_ (by first | rfl | simp) rfl | exact Blk.new _ _ _ | apply Blk.drewN | apply Blk.drew))).mono ?_; rintro e w1 ⟨A, c, rfl, hC, hb⟩; have hb2 := below_step (w := W1) (by repeat (first | exact Below.refl _ _ | apply pw_below_drewN | apply below_drew | apply below_alloc)) hb; have HB1 := Aside0.mk (HB0.out.below hb2); have HW1 := Aside0.mk (below_step HW0.out hb2); have HR1 := Aside0.mk (Kd.R_below HR0.out hb2); have HC1 := Aside0.mk hC; have d0 := HB1.out.cell 24 (stk_rag HK.out r); clear hb hb2 hC))
  clear c0 d0 HB0 HW0 HR0 hv3
  go_wp2
  go_loopw [3, 16] (fun v3 v16 w' => ∃ q : Nat, q ≤ 24 ∧ v16 = .int .i64 q ∧ Aside0 (Kd.R (Kd.int .i64) 2 w' w.heap.size (fun _ => True) v3 (K.take q)) ∧ Aside0 (Blk w' w.heap.size 44 (stk K r)) ∧ Aside0 (Kd.R (Kd.int .i16) 23 w' 0 (fun _ => True) (.slice A 24 c) K) ∧ Aside0 (Below w.heap.size w w')) (fun _ v16 _ => 24 - (intOf v16).toNat)
  case atStart => exact ⟨0, by omega, rfl, HR1, HB1, HC1, HW1⟩
  case round =>
    clear HR1 HB1 HC1 HW1
    obtain ⟨q, hq, rfl, HR, HA, HCC, HB⟩ := hrel
    by_cases hlt : q < 24
    · have hC := (Kd.R_reads' HCC.out).2.2
      rw [HK.out] at hC
      obtain ⟨ad, e, hx⟩ := Kd.at_int hC (q : Int) (by omega) (by omega)
      subst e
      have hxb := H16.out q
      rw [show rd K (q : Int) = K.getD q 0 from rfl, Int.toNat_natCast] at hx
      have HXS : Aside0 (K.take (q + 1) = K.take q ++ [K.getD q 0]) := ⟨by rw [List.take_add_one, List.getElem?_eq_getElem (by have := HK.out; omega), List.getD_eq_getElem?_getD, List.getElem?_eq_getElem (by have := HK.out; omega)]; rfl⟩
      have HXL : Aside0 ((K.take q).length ≤ 24) := ⟨by rw [List.length_take]; omega⟩
      generalize K.getD q 0 = x at *
      have i1 : IntKind.i64.wrap x = x := IntWalk.i64_in _ ⟨by omega, by omega⟩
      generalize K.take q = xs at *
      clear hC hxb
      go_wp2_with (first
        | ((with_reducible refine gate_builtin (b := .append) (xs := #[.tmp 20, .tmp 23]) rfl ?_); at_builtin; refine Kd.R_append (Kd.int .i64) (w0 := w) w.heap.size rfl (.tmp 20) (.tmp 23) 45 2 (.int .i64 0) 8 rfl Tryd.underlying45 (by kernel_rfl) rfl (by decide) (by decide) _ xs x [.int .i64 x] (fun _ => True) (fun _ => False) rfl rfl rfl (fun _ hk => hk.elim) (fun _ _ => trivial) HR.out HB.out (by have := HB.out.size; exact this) (by have := HXL.out; omega) ?_; intro v5 w5 hr5 hb5 hg5 _; have HA5 := Aside0.mk (HA.out.grown hg5 (Kd.R_ne HR.out HA.out (by decide))); have HC5 := Aside0.mk (Kd.R_over HCC.out HR.out (by decide) hg5); have HR5 := Aside0.mk hr5; have HB5 := Aside0.mk hb5; clear hr5 hb5 hg5))
      go_roundw
      case rel => exact ⟨q + 1, by omega, by go_num, ⟨by rw [HXS.out]; exact HR5.out⟩, HA5, HC5, HB5⟩
      case measure => simp [intOf] <;> omega
    · obtain rfl : q = 24 := by omega
      rw [List.take_of_length_le (by have := HK.out; omega)] at HR
      have d0 := HA.out.cell 24 (stk_rag HK.out r)
      have HXL : Aside0 (K.length ≤ 24) := ⟨by have := HK.out; omega⟩
      go_wp2_with (first
        | ((with_reducible refine gate_builtin (b := .append) (xs := #[.tmp 26, .tmp 30]) rfl ?_); at_builtin; refine Kd.R_append (Kd.int .i64) (w0 := w) w.heap.size rfl (.tmp 26) (.tmp 30) 45 2 (.int .i64 0) 8 rfl Tryd.underlying45 (by kernel_rfl) rfl (by decide) (by decide) _ K r [.int .i64 r] (fun _ => True) (fun _ => False) rfl rfl rfl (fun _ hk => hk.elim) (fun _ _ => trivial) HR.out HB.out (by have := HB.out.size; exact this) (by have := HXL.out; omega) ?_; intro v5 w5 hr5 hb5 hg5 _; have HR5 := Aside0.mk hr5; have HB5 := Aside0.mk hb5; clear hr5 hb5 hg5))
      go_ret
      exact ⟨_, rfl, HR5.out, HB5.out⟩
end Go.Proofs.YtddlhjhnnmkgaaaDoor.X
