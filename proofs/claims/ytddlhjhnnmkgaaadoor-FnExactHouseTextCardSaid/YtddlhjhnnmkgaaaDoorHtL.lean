/- Contracts of functions, and plain facts: what each call answers, and what it leaves as it was. -/
import Derived.Test.YtddlhjhnnmkgaaaDoorTxf
import Derived.Test.YtddlhjhnnmkgaaaDoorHTo
set_option linter.unusedVariables false
set_option linter.unusedSimpArgs false
namespace Go.Proofs.YtddlhjhnnmkgaaaDoor.X
open Go.RowKit Go.Proofs.YtddlhjhnnmkgaaaDoorW.PrintWords Go.Proofs.YtddlhjhnnmkgaaaDoorW.PrintLast Go.Proofs.YtddlhjhnnmkgaaaDoorW.PrintMore
attribute [local go_sem] max2_int min2_int max_two min_two max_three min_three max_four min_four
set_option maxHeartbeats 8000000 in
set_option maxRecDepth 100000 in
theorem l05Line_calls (xs : List Int) (hl : xs.length = 8) (hv : ∀ x ∈ xs, 0 ≤ x ∧ x ≤ ((500 : Nat) : Int)) (w : World) :
    Calls Tryd.prog 21 #[.agg (nums .i16 xs).toArray] w fun e w' => e = .returned (.string (bsT (spT xs))) ∧ Below w.heap.size w w' := by
  have HV := Aside0.mk hv
  have HL := Aside0.mk hl
  have HB := Aside0.mk (Blk.new w 42 (nums .i16 xs))
  have HW : Aside0 (Below w.heap.size w (w.alloc (.cells (nums .i16 xs).toArray 42))) := ⟨below_alloc (Below.refl _ _) _⟩
  clear hv hl
  go_enter Tryd.func21, Tryd.ntmps21
  go_wp2
  go_loopw [3, 4] (fun v3 v4 w' => ∃ u : Nat, u ≤ 8 ∧ v4 = .int .i64 u ∧ v3 = .string (bsT (spT (xs.take u))) ∧ Aside0 (Blk w' w.heap.size 42 (nums .i16 xs)) ∧ Aside0 (Below w.heap.size w w')) (fun _ v4 _ => 8 - (intOf v4).toNat)
  case atStart => exact ⟨0, by omega, rfl, rfl, HB, HW⟩
  case round =>
    clear HB HW
    obtain ⟨u, hu, rfl, rfl, HB, HW⟩ := hrel
    have hu9 : IntKind.i64.wrap ((u : Int) + 1) = (u : Int) + 1 := IntWalk.i64_in _ ⟨by omega, by omega⟩
    by_cases hlt : u < 8
    · have hll := HL.out
      have hux : u < xs.length := by omega
      have hut : (u : Int).toNat = u := rfl
      have hu8 : (u : Int) < 8 := by omega
      have hge : xs[u]? = some (xs.getD u 0) := by rw [List.getD_eq_getElem?_getD, List.getElem?_eq_getElem hux]; rfl
      have hx := HV.out (xs.getD u 0) (List.mem_of_getElem? hge)
      have c0 := HB.out.cell u (v := .int .i16 (xs.getD u 0)) (by rw [nums, List.getElem?_map, hge]; rfl)
      have HD := Aside0.mk (fun W => spec_Decimal.calls 5000000000 (xs.getD u 0) _ W (specDecimal_n hx.1 (by omega) (by omega)))
      have HS : Aside0 (bsT (spT (xs.take (u + 1))) = bsT (spT (xs.take u)) ++ (bsT (dg (xs.getD u 0)) ++ (⟨#[32]⟩ : ByteArray))) := ⟨by
        rw [show (⟨#[32]⟩ : ByteArray) = bsT [32] from rfl, bsT_append, bsT_append, List.take_add_one, hge, spT_append]
        simp [spT]⟩
      have z1 : (bsT (dg (xs.getD u 0))).size ≤ 501 := by rw [bsT_size]; exact dg_len hx
      have z2 : (bsT (spT (xs.take u))).size ≤ 5000 := by
        rw [bsT_size]
        have h1 := spT_len (M := 500) (xs.take u) (fun x h => HV.out x (List.mem_of_mem_take h))
        rw [List.length_take] at h1
        omega
      have ix : IntKind.i64.wrap (xs.getD u 0) = xs.getD u 0 := IntWalk.i64_in _ ⟨by omega, by omega⟩
      clear hge hx hux hll
      generalize bsT (dg (xs.getD u 0)) = D at *
      generalize bsT (spT (xs.take u)) = T at *
      generalize xs.getD u 0 = x at *
      have cz0 : D.size + 1 ≤ 9223372036854775807 := by omega
      have cza0 := eq_true cz0
      have czb0 := decide_eq_true cz0
      have czc0 : (9223372036854775807 < D.size + 1) = False := eq_false (Nat.not_lt.2 cz0)
      clear cz0
      have cz1 : T.size + (D.size + 1) ≤ 9223372036854775807 := by omega
      have cza1 := eq_true cz1
      have czb1 := decide_eq_true cz1
      have czc1 : (9223372036854775807 < T.size + (D.size + 1)) = False := eq_false (Nat.not_lt.2 cz1)
      clear cz1
      go_wp2_with (go_at_call 20; refine (HD.out _).mono ?_; rintro e w1 ⟨rfl, hb⟩; have HB1 := Aside0.mk (HB.out.below hb); have HW1 := Aside0.mk (below_step HW.out hb); clear hb HB HW c0)
      go_roundw
      case rel => exact ⟨u + 1, by omega, by go_num, by rw [HS.out], HB1, HW1⟩
      case measure => simp [intOf] <;> omega
    · have hll := HL.out
      have HE : Aside0 (xs.take u = xs) := ⟨List.take_of_length_le (by omega)⟩
      have hu8 : ¬ (u : Int) < 8 := by omega
      clear hll
      go_wp2
      go_ret
      exact ⟨by rw [HE.out]; rfl, HW.out⟩
set_option maxHeartbeats 8000000 in
set_option maxRecDepth 100000 in
theorem l05Text_calls (f : Nat → Int) (n c g hb : Nat) (tub every today : Int) (hn : n ≤ 4) (hG : Fine f n) (ht : 0 ≤ tub ∧ tub ≤ 1000) (hv : 1 ≤ every ∧ every ≤ 7) (hd : 0 ≤ today ∧ today ≤ 60) (w : World) (hH : Blk w hb 31 (hcells (some ⟨g, 0, none⟩) n c tub every today)) (hB : Rw w g n f) :
    Calls Tryd.prog 11 #[.pointer (some ⟨hb, 0, none⟩)] w fun e w' => e = .returned (.string (bsT (houseT f tub every today n))) ∧ Below w.heap.size w w' := by
  have HH := Aside0.mk hH
  have HB := Aside0.mk hB
  have HG := Aside0.mk hG
  have HW : Aside0 (Below w.heap.size w w) := ⟨Below.refl _ _⟩
  have hgl := hB.lt
  have hhl := hH.lt
  have HZ := Aside0.mk (fun k (hk : k ≤ n) => houseT_len hG ht hv hd k hk)
  have HD1 := Aside0.mk (fun W => spec_Decimal.calls 5000000000 tub _ W (specDecimal_n ht.1 (by omega) (by omega)))
  have HD2 := Aside0.mk (fun W => spec_Decimal.calls 5000000000 every _ W (specDecimal_n (by omega : 0 ≤ every) (by omega) (by omega)))
  have HD3 := Aside0.mk (fun W => spec_Decimal.calls 5000000000 today _ W (specDecimal_n hd.1 (by omega) (by omega)))
  have z1 : (bsT (dg tub)).size ≤ 1001 := by rw [bsT_size]; exact dg_len (M := 1000) ht
  have z2 : (bsT (dg every)).size ≤ 1001 := by rw [bsT_size]; exact dg_len (M := 1000) (by omega)
  have z3 : (bsT (dg today)).size ≤ 1001 := by rw [bsT_size]; exact dg_len (M := 1000) (by omega)
  have HT0 : Aside0 (bsT (houseT f tub every today 0) = bsT (dg tub) ++ (⟨#[32]⟩ : ByteArray) ++ bsT (dg every) ++ (⟨#[32]⟩ : ByteArray) ++ bsT (dg today) ++ (⟨#[10]⟩ : ByteArray)) := ⟨by
    rw [show (⟨#[32]⟩ : ByteArray) = bsT [32] from rfl, show (⟨#[10]⟩ : ByteArray) = bsT [10] from rfl, bsT_append, bsT_append, bsT_append, bsT_append, bsT_append]
    simp [houseT, lineT, spT]⟩
  have it : IntKind.i64.wrap tub = tub := IntWalk.i64_in _ ⟨by omega, by omega⟩
  have iv : IntKind.i64.wrap every = every := IntWalk.i64_in _ ⟨by omega, by omega⟩
  have id_ : IntKind.i64.wrap today = today := IntWalk.i64_in _ ⟨by omega, by omega⟩
  clear hH hB hG ht hv hd
  generalize bsT (dg tub) = D1 at *
  generalize bsT (dg every) = D2 at *
  generalize bsT (dg today) = D3 at *
  have cz0 : D1.size + 1 ≤ 9223372036854775807 := by omega
  have cza0 := eq_true cz0
  have czb0 := decide_eq_true cz0
  have czc0 : (9223372036854775807 < D1.size + 1) = False := eq_false (Nat.not_lt.2 cz0)
  clear cz0
  have cz1 : D1.size + 1 + D2.size ≤ 9223372036854775807 := by omega
  have cza1 := eq_true cz1
  have czb1 := decide_eq_true cz1
  have czc1 : (9223372036854775807 < D1.size + 1 + D2.size) = False := eq_false (Nat.not_lt.2 cz1)
  clear cz1
  have cz2 : D1.size + 1 + D2.size + 1 ≤ 9223372036854775807 := by omega
  have cza2 := eq_true cz2
  have czb2 := decide_eq_true cz2
  have czc2 : (9223372036854775807 < D1.size + 1 + D2.size + 1) = False := eq_false (Nat.not_lt.2 cz2)
  clear cz2
  have cz3 : D1.size + 1 + D2.size + 1 + D3.size ≤ 9223372036854775807 := by omega
  have cza3 := eq_true cz3
  have czb3 := decide_eq_true cz3
  have czc3 : (9223372036854775807 < D1.size + 1 + D2.size + 1 + D3.size) = False := eq_false (Nat.not_lt.2 cz3)
  clear cz3
  have cz4 : D1.size + 1 + D2.size + 1 + D3.size + 1 ≤ 9223372036854775807 := by omega
  have cza4 := eq_true cz4
  have czb4 := decide_eq_true cz4
  have czc4 : (9223372036854775807 < D1.size + 1 + D2.size + 1 + D3.size + 1) = False := eq_false (Nat.not_lt.2 cz4)
  clear cz4
  go_enter Tryd.func11, Tryd.ntmps11
  go_wp2
  have c0_0 := HH.out.cell 0 (v := .slice (some ⟨g, 0, none⟩) n c) rfl
  have c0_1 := HH.out.cell 1 (v := .int .i16 tub) rfl
  have c0_2 := HH.out.cell 2 (v := .int .i8 every) rfl
  have c0_3 := HH.out.cell 3 (v := .int .i16 today) rfl
  go_region_held3 (fun w' => w'.cell? ⟨hb, 0, none⟩ = some (.slice (some ⟨g, 0, none⟩) n c) ∧ w'.cell? ⟨hb, 1, none⟩ = some (.int .i16 tub) ∧ w'.cell? ⟨hb, 2, none⟩ = some (.int .i8 every) ∧ w'.cell? ⟨hb, 3, none⟩ = some (.int .i16 today)) (first | exact ⟨c0_0, c0_1, c0_2, c0_3⟩ | exact ⟨d2c0_0, d2c0_1, d2c0_2, d2c0_3⟩ | exact ⟨d1c0_0, d1c0_1, d1c0_2, d1c0_3⟩ | exact ⟨d0c0_0, d0c0_1, d0c0_2, d0c0_3⟩ | go_keep) ((first | (go_at_call 20; (with_reducible refine (HD1.out _).mono ?_); rintro e u1_0 ⟨rfl, hb⟩; have q0 := below_step (w := w) (by repeat (first | exact Below.refl _ _ | assumption | apply below_drew | apply pw_below_drewN | apply below_alloc)) hb; clear hb; have d0c0_0 := pw_cell_below q0 c0_0; have d0c0_1 := pw_cell_below q0 c0_1; have d0c0_2 := pw_cell_below q0 c0_2; have d0c0_3 := pw_cell_below q0 c0_3) | (go_at_call 20; (with_reducible refine (HD2.out _).mono ?_); rintro e u1_1 ⟨rfl, hb⟩; have q1 := below_step (w := w) (by repeat (first | exact Below.refl _ _ | assumption | apply below_drew | apply pw_below_drewN | apply below_alloc)) hb; clear hb; have d1c0_0 := pw_cell_below q1 c0_0; have d1c0_1 := pw_cell_below q1 c0_1; have d1c0_2 := pw_cell_below q1 c0_2; have d1c0_3 := pw_cell_below q1 c0_3) | (go_at_call 20; (with_reducible refine (HD3.out _).mono ?_); rintro e u1_2 ⟨rfl, hb⟩; have q2 := below_step (w := w) (by repeat (first | exact Below.refl _ _ | assumption | apply below_drew | apply pw_below_drewN | apply below_alloc)) hb; clear hb; have d2c0_0 := pw_cell_below q2 c0_0; have d2c0_1 := pw_cell_below q2 c0_1; have d2c0_2 := pw_cell_below q2 c0_2; have d2c0_3 := pw_cell_below q2 c0_3)))
  clear c0_0 c0_1 c0_2 c0_3 d0c0_0 d0c0_1 d0c0_2 d0c0_3 d1c0_0 d1c0_1 d1c0_2 d1c0_3 d2c0_0 d2c0_1 d2c0_2 d2c0_3 q0 q1
  replace HH : Aside0 (Blk u1_2 (hb) 31 [.slice (some ⟨g, 0, none⟩) n c, .int .i16 tub, .int .i8 every, .int .i16 today]) := ⟨Blk.below (by with_reducible repeat (first | exact HH.out | refine Blk.alloc ?_ _ | refine Rw.alloc ?_ _ | refine Arg.alloc ?_ _ | apply below_alloc | refine Blk.drew ?_ | refine Rw.drew ?_ | refine Arg.drew ?_ | apply below_drew | refine Blk.drewN ?_ _ | refine Rw.drewN ?_ _ | refine Arg.drewN ?_ _ | apply pw_below_drewN)) q2⟩
  replace HB : Aside0 (Rw u1_2 g n f) := ⟨Rw.below (by with_reducible repeat (first | exact HB.out | refine Blk.alloc ?_ _ | refine Rw.alloc ?_ _ | refine Arg.alloc ?_ _ | apply below_alloc | refine Blk.drew ?_ | refine Rw.drew ?_ | refine Arg.drew ?_ | apply below_drew | refine Blk.drewN ?_ _ | refine Rw.drewN ?_ _ | refine Arg.drewN ?_ _ | apply pw_below_drewN)) q2⟩
  replace HW : Aside0 (Below w.heap.size w u1_2) := ⟨below_step (by with_reducible repeat (first | exact HW.out | refine Blk.alloc ?_ _ | refine Rw.alloc ?_ _ | refine Arg.alloc ?_ _ | apply below_alloc | refine Blk.drew ?_ | refine Rw.drew ?_ | refine Arg.drew ?_ | apply below_drew | refine Blk.drewN ?_ _ | refine Rw.drewN ?_ _ | refine Arg.drewN ?_ _ | apply pw_below_drewN)) q2⟩
  clear q2
  clear cza0 czb0 czc0 cza1 czb1 czc1 cza2 czb2 czc2 cza3 czb3 czc3 cza4 czb4 czc4
  go_wp2
  go_loopw [3, 4] (fun v3 v4 w' => ∃ k : Nat, k ≤ n ∧ v4 = .int .i64 k ∧ v3 = .string (bsT (houseT f tub every today k)) ∧ Aside0 (Rw w' g n f) ∧ Aside0 (Blk w' hb 31 (hcells (some ⟨g, 0, none⟩) n c tub every today)) ∧ Aside0 (Below w.heap.size w w')) (fun _ v4 _ => n - (intOf v4).toNat)
  case atStart => exact ⟨0, by omega, rfl, by rw [HT0.out], HB, HH, HW⟩
  case round =>
    clear HB HW HH HT0 HD1 HD2 HD3
    obtain ⟨k, hk, rfl, rfl, HB, HH, HW⟩ := hrel
    obtain ⟨wo, rfl⟩ : ∃ wo : World, wo = wr := ⟨_, rfl⟩
    have hk9 : IntKind.i64.wrap ((k : Int) + 1) = (k : Int) + 1 := IntWalk.i64_in _ ⟨by omega, by omega⟩
    have ch0 := HH.out.cell 0 (v := .slice (some ⟨g, 0, none⟩) n c) rfl
    by_cases hlt : k < n
    · have hki : (k : Int) < (n : Int) := by omega
      have hG := HG.out k hlt
      have hkk := hG.nums
      have hr : 0 ≤ f (25 * k + 24) ∧ f (25 * k + 24) ≤ ((500 : Nat) : Int) := ⟨hG.1 24 (by decide), hG.le (i := 24) (by decide)⟩
      have HL0 : Aside0 (∀ W, Calls Tryd.prog 21 #[.agg #[.int .i16 (f (25 * k + 0)), .int .i16 (f (25 * k + 1)), .int .i16 (f (25 * k + 2)), .int .i16 (f (25 * k + 3)), .int .i16 (f (25 * k + 4)), .int .i16 (f (25 * k + 5)), .int .i16 (f (25 * k + 6)), .int .i16 (f (25 * k + 7))]] W fun e w' => e = .returned (.string (bsT (spT ((kOf f (25 * k)).take 8)))) ∧ Below W.heap.size W w') := ⟨fun W => l05Line_calls ((kOf f (25 * k)).take 8) rfl (fun x h => hkk x (List.mem_of_mem_take h)) W⟩
      have HL1 : Aside0 (∀ W, Calls Tryd.prog 21 #[.agg #[.int .i16 (f (25 * k + 8)), .int .i16 (f (25 * k + 9)), .int .i16 (f (25 * k + 10)), .int .i16 (f (25 * k + 11)), .int .i16 (f (25 * k + 12)), .int .i16 (f (25 * k + 13)), .int .i16 (f (25 * k + 14)), .int .i16 (f (25 * k + 15))]] W fun e w' => e = .returned (.string (bsT (spT (((kOf f (25 * k)).drop 8).take 8)))) ∧ Below W.heap.size W w') := ⟨fun W => l05Line_calls (((kOf f (25 * k)).drop 8).take 8) rfl (fun x h => hkk x (List.mem_of_mem_drop (List.mem_of_mem_take h))) W⟩
      have HL2 : Aside0 (∀ W, Calls Tryd.prog 21 #[.agg #[.int .i16 (f (25 * k + 16)), .int .i16 (f (25 * k + 17)), .int .i16 (f (25 * k + 18)), .int .i16 (f (25 * k + 19)), .int .i16 (f (25 * k + 20)), .int .i16 (f (25 * k + 21)), .int .i16 (f (25 * k + 22)), .int .i16 (f (25 * k + 23))]] W fun e w' => e = .returned (.string (bsT (spT (((kOf f (25 * k)).drop 16).take 8)))) ∧ Below W.heap.size W w') := ⟨fun W => l05Line_calls (((kOf f (25 * k)).drop 16).take 8) rfl (fun x h => hkk x (List.mem_of_mem_drop (List.mem_of_mem_take h))) W⟩
      have HDk := Aside0.mk (fun W => spec_Decimal.calls 5000000000 (f (25 * k + 24)) _ W (specDecimal_n hr.1 (by omega) (by omega)))
      have HS : Aside0 (bsT (houseT f tub every today (k + 1)) = bsT (houseT f tub every today k) ++ (bsT (spT ((kOf f (25 * k)).take 8)) ++ bsT (spT (((kOf f (25 * k)).drop 8).take 8)) ++ bsT (spT (((kOf f (25 * k)).drop 16).take 8)) ++ bsT (dg (f (25 * k + 24))) ++ (⟨#[10]⟩ : ByteArray))) := ⟨by
        rw [show (⟨#[10]⟩ : ByteArray) = bsT [10] from rfl, bsT_append, bsT_append, bsT_append, bsT_append, bsT_append, ← spT_append, ← spT_append]
        rfl⟩
      have y0 : (bsT (spT ((kOf f (25 * k)).take 8))).size ≤ 5000 := by
        rw [bsT_size]; exact Nat.le_trans (spT_len (M := 500) _ (fun x h => hkk x (List.mem_of_mem_take h))) (by rw [List.length_take]; omega)
      have y1 : (bsT (spT (((kOf f (25 * k)).drop 8).take 8))).size ≤ 5000 := by
        rw [bsT_size]; exact Nat.le_trans (spT_len (M := 500) _ (fun x h => hkk x (List.mem_of_mem_drop (List.mem_of_mem_take h)))) (by rw [List.length_take]; omega)
      have y2 : (bsT (spT (((kOf f (25 * k)).drop 16).take 8))).size ≤ 5000 := by
        rw [bsT_size]; exact Nat.le_trans (spT_len (M := 500) _ (fun x h => hkk x (List.mem_of_mem_drop (List.mem_of_mem_take h)))) (by rw [List.length_take]; omega)
      have y3 : (bsT (dg (f (25 * k + 24)))).size ≤ 501 := by rw [bsT_size]; exact dg_len hr
      have y4 : (bsT (houseT f tub every today k)).size ≤ 100000 := by rw [bsT_size]; exact Nat.le_trans (HZ.out k hk) (by omega)
      have ix : IntKind.i64.wrap (f (25 * k + 24)) = f (25 * k + 24) := IntWalk.i64_in _ ⟨by omega, by omega⟩
      generalize bsT (spT ((kOf f (25 * k)).take 8)) = L0 at *
      generalize bsT (spT (((kOf f (25 * k)).drop 8).take 8)) = L1 at *
      generalize bsT (spT (((kOf f (25 * k)).drop 16).take 8)) = L2 at *
      generalize bsT (dg (f (25 * k + 24))) = D at *
      generalize hTT : bsT (houseT f tub every today k) = T at *
      clear hG hkk hr hTT
      have cz0 : L0.size + L1.size ≤ 9223372036854775807 := by omega
      have cza0 := eq_true cz0
      have czb0 := decide_eq_true cz0
      have czc0 : (9223372036854775807 < L0.size + L1.size) = False := eq_false (Nat.not_lt.2 cz0)
      clear cz0
      have cz1 : L0.size + L1.size + L2.size ≤ 9223372036854775807 := by omega
      have cza1 := eq_true cz1
      have czb1 := decide_eq_true cz1
      have czc1 : (9223372036854775807 < L0.size + L1.size + L2.size) = False := eq_false (Nat.not_lt.2 cz1)
      clear cz1
      have cz2 : L0.size + L1.size + L2.size + D.size ≤ 9223372036854775807 := by omega
      have cza2 := eq_true cz2
      have czb2 := decide_eq_true cz2
      have czc2 : (9223372036854775807 < L0.size + L1.size + L2.size + D.size) = False := eq_false (Nat.not_lt.2 cz2)
      clear cz2
      have cz3 : L0.size + L1.size + L2.size + D.size + 1 ≤ 9223372036854775807 := by omega
      have cza3 := eq_true cz3
      have czb3 := decide_eq_true cz3
      have czc3 : (9223372036854775807 < L0.size + L1.size + L2.size + D.size + 1) = False := eq_false (Nat.not_lt.2 cz3)
      clear cz3
      have cz4 : T.size + (L0.size + L1.size + L2.size + D.size + 1) ≤ 9223372036854775807 := by omega
      have cza4 := eq_true cz4
      have czb4 := decide_eq_true cz4
      have czc4 : (9223372036854775807 < T.size + (L0.size + L1.size + L2.size + D.size + 1)) = False := eq_false (Nat.not_lt.2 cz4)
      clear cz4
      have hwl := Below.size HW.out
      have HX : Aside0 (Rw (wo.alloc (.cells #[.int .i16 0, .int .i16 0, .int .i16 0, .int .i16 0, .int .i16 0, .int .i16 0, .int .i16 0, .int .i16 0, .int .i16 0, .int .i16 0, .int .i16 0, .int .i16 0, .int .i16 0, .int .i16 0, .int .i16 0, .int .i16 0, .int .i16 0, .int .i16 0, .int .i16 0, .int .i16 0, .int .i16 0, .int .i16 0, .int .i16 0, .int .i16 0, .int .i32 0] 44)) wo.heap.size 1 (fun _ => 0)) := ⟨Rw.of_blk (f := fun _ => 0) (Blk.new wo _ _)⟩
      go_wp2_with (first | (refine rw_load (by rfl) 44 _ (by rfl) g (k * 25) (by rfl) f (25 * k) (by have h_ := HB.out.range (o := 25 * k) (q := k) rfl hlt; rwa [Nat.mul_comm k 25]) _ Tryd.underlying44 (by rfl) (by kernel_rfl) ?_) | (refine rw_store (by rfl) 44 _ _ (by rfl) (wo.heap.size) 0 (by rfl) 1 0 (fun _ => 0) f (25 * k) (by rfl) HX.out rfl (by decide) (by omega) (by kernel_rfl) ?_; intro w1 hw1 hg1; have HB1 : Aside0 (Rw w1 g n f) := ⟨(HB.out.alloc _).grown hg1 (by intro h_; injection h_ with h_; have := HB.out.lt; omega)⟩; have HH1 : Aside0 (Blk w1 hb 31 (hcells (some ⟨g, 0, none⟩) n c tub every today)) := ⟨(HH.out.alloc _).grown hg1 (by intro h_; injection h_ with h_; have := HH.out.lt; omega)⟩; have HW1 : Aside0 (Below w.heap.size w w1) := ⟨below_grown (below_alloc HW.out _) (by omega) (by simp; omega) hg1⟩; clear hg1 HX HB HW HH ch0))
      have c0 := hw1.num (o := 0) (q := 0) (u := 0) (j := 0) rfl (by decide) (by decide) rfl
      rw [show put25 (fun _ => 0) 0 f (25 * k) (0 + 0) = f (25 * k + 0) from rfl] at c0
      have c1 := hw1.num (o := 0) (q := 0) (u := 1) (j := 1) rfl (by decide) (by decide) rfl
      rw [show put25 (fun _ => 0) 0 f (25 * k) (0 + 1) = f (25 * k + 1) from rfl] at c1
      have c2 := hw1.num (o := 0) (q := 0) (u := 2) (j := 2) rfl (by decide) (by decide) rfl
      rw [show put25 (fun _ => 0) 0 f (25 * k) (0 + 2) = f (25 * k + 2) from rfl] at c2
      have c3 := hw1.num (o := 0) (q := 0) (u := 3) (j := 3) rfl (by decide) (by decide) rfl
      rw [show put25 (fun _ => 0) 0 f (25 * k) (0 + 3) = f (25 * k + 3) from rfl] at c3
      have c4 := hw1.num (o := 0) (q := 0) (u := 4) (j := 4) rfl (by decide) (by decide) rfl
      rw [show put25 (fun _ => 0) 0 f (25 * k) (0 + 4) = f (25 * k + 4) from rfl] at c4
      have c5 := hw1.num (o := 0) (q := 0) (u := 5) (j := 5) rfl (by decide) (by decide) rfl
      rw [show put25 (fun _ => 0) 0 f (25 * k) (0 + 5) = f (25 * k + 5) from rfl] at c5
      have c6 := hw1.num (o := 0) (q := 0) (u := 6) (j := 6) rfl (by decide) (by decide) rfl
      rw [show put25 (fun _ => 0) 0 f (25 * k) (0 + 6) = f (25 * k + 6) from rfl] at c6
      have c7 := hw1.num (o := 0) (q := 0) (u := 7) (j := 7) rfl (by decide) (by decide) rfl
      rw [show put25 (fun _ => 0) 0 f (25 * k) (0 + 7) = f (25 * k + 7) from rfl] at c7
      have c8 := hw1.num (o := 0) (q := 0) (u := 8) (j := 8) rfl (by decide) (by decide) rfl
      rw [show put25 (fun _ => 0) 0 f (25 * k) (0 + 8) = f (25 * k + 8) from rfl] at c8
      have c9 := hw1.num (o := 0) (q := 0) (u := 9) (j := 9) rfl (by decide) (by decide) rfl
      rw [show put25 (fun _ => 0) 0 f (25 * k) (0 + 9) = f (25 * k + 9) from rfl] at c9
      have c10 := hw1.num (o := 0) (q := 0) (u := 10) (j := 10) rfl (by decide) (by decide) rfl
      rw [show put25 (fun _ => 0) 0 f (25 * k) (0 + 10) = f (25 * k + 10) from rfl] at c10
      have c11 := hw1.num (o := 0) (q := 0) (u := 11) (j := 11) rfl (by decide) (by decide) rfl
      rw [show put25 (fun _ => 0) 0 f (25 * k) (0 + 11) = f (25 * k + 11) from rfl] at c11
      have c12 := hw1.num (o := 0) (q := 0) (u := 12) (j := 12) rfl (by decide) (by decide) rfl
      rw [show put25 (fun _ => 0) 0 f (25 * k) (0 + 12) = f (25 * k + 12) from rfl] at c12
      have c13 := hw1.num (o := 0) (q := 0) (u := 13) (j := 13) rfl (by decide) (by decide) rfl
      rw [show put25 (fun _ => 0) 0 f (25 * k) (0 + 13) = f (25 * k + 13) from rfl] at c13
      have c14 := hw1.num (o := 0) (q := 0) (u := 14) (j := 14) rfl (by decide) (by decide) rfl
      rw [show put25 (fun _ => 0) 0 f (25 * k) (0 + 14) = f (25 * k + 14) from rfl] at c14
      have c15 := hw1.num (o := 0) (q := 0) (u := 15) (j := 15) rfl (by decide) (by decide) rfl
      rw [show put25 (fun _ => 0) 0 f (25 * k) (0 + 15) = f (25 * k + 15) from rfl] at c15
      have c16 := hw1.num (o := 0) (q := 0) (u := 16) (j := 16) rfl (by decide) (by decide) rfl
      rw [show put25 (fun _ => 0) 0 f (25 * k) (0 + 16) = f (25 * k + 16) from rfl] at c16
      have c17 := hw1.num (o := 0) (q := 0) (u := 17) (j := 17) rfl (by decide) (by decide) rfl
      rw [show put25 (fun _ => 0) 0 f (25 * k) (0 + 17) = f (25 * k + 17) from rfl] at c17
      have c18 := hw1.num (o := 0) (q := 0) (u := 18) (j := 18) rfl (by decide) (by decide) rfl
      rw [show put25 (fun _ => 0) 0 f (25 * k) (0 + 18) = f (25 * k + 18) from rfl] at c18
      have c19 := hw1.num (o := 0) (q := 0) (u := 19) (j := 19) rfl (by decide) (by decide) rfl
      rw [show put25 (fun _ => 0) 0 f (25 * k) (0 + 19) = f (25 * k + 19) from rfl] at c19
      have c20 := hw1.num (o := 0) (q := 0) (u := 20) (j := 20) rfl (by decide) (by decide) rfl
      rw [show put25 (fun _ => 0) 0 f (25 * k) (0 + 20) = f (25 * k + 20) from rfl] at c20
      have c21 := hw1.num (o := 0) (q := 0) (u := 21) (j := 21) rfl (by decide) (by decide) rfl
      rw [show put25 (fun _ => 0) 0 f (25 * k) (0 + 21) = f (25 * k + 21) from rfl] at c21
      have c22 := hw1.num (o := 0) (q := 0) (u := 22) (j := 22) rfl (by decide) (by decide) rfl
      rw [show put25 (fun _ => 0) 0 f (25 * k) (0 + 22) = f (25 * k + 22) from rfl] at c22
      have c23 := hw1.num (o := 0) (q := 0) (u := 23) (j := 23) rfl (by decide) (by decide) rfl
      rw [show put25 (fun _ => 0) 0 f (25 * k) (0 + 23) = f (25 * k + 23) from rfl] at c23
      have c24 := hw1.rag (o := 0) (q := 0) (j := 24) rfl (by decide) rfl
      rw [show put25 (fun _ => 0) 0 f (25 * k) (0 + 24) = f (25 * k + 24) from rfl] at c24
      clear hw1
      generalize f (25 * k + 0) = x0 at *
      generalize f (25 * k + 1) = x1 at *
      generalize f (25 * k + 2) = x2 at *
      generalize f (25 * k + 3) = x3 at *
      generalize f (25 * k + 4) = x4 at *
      generalize f (25 * k + 5) = x5 at *
      generalize f (25 * k + 6) = x6 at *
      generalize f (25 * k + 7) = x7 at *
      generalize f (25 * k + 8) = x8 at *
      generalize f (25 * k + 9) = x9 at *
      generalize f (25 * k + 10) = x10 at *
      generalize f (25 * k + 11) = x11 at *
      generalize f (25 * k + 12) = x12 at *
      generalize f (25 * k + 13) = x13 at *
      generalize f (25 * k + 14) = x14 at *
      generalize f (25 * k + 15) = x15 at *
      generalize f (25 * k + 16) = x16 at *
      generalize f (25 * k + 17) = x17 at *
      generalize f (25 * k + 18) = x18 at *
      generalize f (25 * k + 19) = x19 at *
      generalize f (25 * k + 20) = x20 at *
      generalize f (25 * k + 21) = x21 at *
      generalize f (25 * k + 22) = x22 at *
      generalize f (25 * k + 23) = x23 at *
      generalize f (25 * k + 24) = x24 at *
      go_region_held3 (fun w' => w'.cell? ⟨wo.heap.size, 0, none⟩ = some (.int .i16 x0) ∧ w'.cell? ⟨wo.heap.size, 1, none⟩ = some (.int .i16 x1) ∧ w'.cell? ⟨wo.heap.size, 2, none⟩ = some (.int .i16 x2) ∧ w'.cell? ⟨wo.heap.size, 3, none⟩ = some (.int .i16 x3) ∧ w'.cell? ⟨wo.heap.size, 4, none⟩ = some (.int .i16 x4) ∧ w'.cell? ⟨wo.heap.size, 5, none⟩ = some (.int .i16 x5) ∧ w'.cell? ⟨wo.heap.size, 6, none⟩ = some (.int .i16 x6) ∧ w'.cell? ⟨wo.heap.size, 7, none⟩ = some (.int .i16 x7) ∧ w'.cell? ⟨wo.heap.size, 8, none⟩ = some (.int .i16 x8) ∧ w'.cell? ⟨wo.heap.size, 9, none⟩ = some (.int .i16 x9) ∧ w'.cell? ⟨wo.heap.size, 10, none⟩ = some (.int .i16 x10) ∧ w'.cell? ⟨wo.heap.size, 11, none⟩ = some (.int .i16 x11) ∧ w'.cell? ⟨wo.heap.size, 12, none⟩ = some (.int .i16 x12) ∧ w'.cell? ⟨wo.heap.size, 13, none⟩ = some (.int .i16 x13) ∧ w'.cell? ⟨wo.heap.size, 14, none⟩ = some (.int .i16 x14) ∧ w'.cell? ⟨wo.heap.size, 15, none⟩ = some (.int .i16 x15) ∧ w'.cell? ⟨wo.heap.size, 16, none⟩ = some (.int .i16 x16) ∧ w'.cell? ⟨wo.heap.size, 17, none⟩ = some (.int .i16 x17) ∧ w'.cell? ⟨wo.heap.size, 18, none⟩ = some (.int .i16 x18) ∧ w'.cell? ⟨wo.heap.size, 19, none⟩ = some (.int .i16 x19) ∧ w'.cell? ⟨wo.heap.size, 20, none⟩ = some (.int .i16 x20) ∧ w'.cell? ⟨wo.heap.size, 21, none⟩ = some (.int .i16 x21) ∧ w'.cell? ⟨wo.heap.size, 22, none⟩ = some (.int .i16 x22) ∧ w'.cell? ⟨wo.heap.size, 23, none⟩ = some (.int .i16 x23) ∧ w'.cell? ⟨wo.heap.size, 24, none⟩ = some (.int .i32 x24)) (first | exact ⟨c0, c1, c2, c3, c4, c5, c6, c7, c8, c9, c10, c11, c12, c13, c14, c15, c16, c17, c18, c19, c20, c21, c22, c23, c24⟩ | exact ⟨d3c0, d3c1, d3c2, d3c3, d3c4, d3c5, d3c6, d3c7, d3c8, d3c9, d3c10, d3c11, d3c12, d3c13, d3c14, d3c15, d3c16, d3c17, d3c18, d3c19, d3c20, d3c21, d3c22, d3c23, d3c24⟩ | exact ⟨d2c0, d2c1, d2c2, d2c3, d2c4, d2c5, d2c6, d2c7, d2c8, d2c9, d2c10, d2c11, d2c12, d2c13, d2c14, d2c15, d2c16, d2c17, d2c18, d2c19, d2c20, d2c21, d2c22, d2c23, d2c24⟩ | exact ⟨d1c0, d1c1, d1c2, d1c3, d1c4, d1c5, d1c6, d1c7, d1c8, d1c9, d1c10, d1c11, d1c12, d1c13, d1c14, d1c15, d1c16, d1c17, d1c18, d1c19, d1c20, d1c21, d1c22, d1c23, d1c24⟩ | exact ⟨d0c0, d0c1, d0c2, d0c3, d0c4, d0c5, d0c6, d0c7, d0c8, d0c9, d0c10, d0c11, d0c12, d0c13, d0c14, d0c15, d0c16, d0c17, d0c18, d0c19, d0c20, d0c21, d0c22, d0c23, d0c24⟩ | go_keep) ((first | (go_at_call 21; (with_reducible refine (HL0.out _).mono ?_); rintro e v0 ⟨rfl, hb⟩; have q0 := below_step (w := w1) (by repeat (first | exact Below.refl _ _ | assumption | apply below_drew | apply pw_below_drewN | apply below_alloc)) hb; clear hb; have d0c0 := pw_cell_below q0 c0; have d0c1 := pw_cell_below q0 c1; have d0c2 := pw_cell_below q0 c2; have d0c3 := pw_cell_below q0 c3; have d0c4 := pw_cell_below q0 c4; have d0c5 := pw_cell_below q0 c5; have d0c6 := pw_cell_below q0 c6; have d0c7 := pw_cell_below q0 c7; have d0c8 := pw_cell_below q0 c8; have d0c9 := pw_cell_below q0 c9; have d0c10 := pw_cell_below q0 c10; have d0c11 := pw_cell_below q0 c11; have d0c12 := pw_cell_below q0 c12; have d0c13 := pw_cell_below q0 c13; have d0c14 := pw_cell_below q0 c14; have d0c15 := pw_cell_below q0 c15; have d0c16 := pw_cell_below q0 c16; have d0c17 := pw_cell_below q0 c17; have d0c18 := pw_cell_below q0 c18; have d0c19 := pw_cell_below q0 c19; have d0c20 := pw_cell_below q0 c20; have d0c21 := pw_cell_below q0 c21; have d0c22 := pw_cell_below q0 c22; have d0c23 := pw_cell_below q0 c23; have d0c24 := pw_cell_below q0 c24) | (go_at_call 21; (with_reducible refine (HL1.out _).mono ?_); rintro e v1 ⟨rfl, hb⟩; have q1 := below_step (w := w1) (by repeat (first | exact Below.refl _ _ | assumption | apply below_drew | apply pw_below_drewN | apply below_alloc)) hb; clear hb; have d1c0 := pw_cell_below q1 c0; have d1c1 := pw_cell_below q1 c1; have d1c2 := pw_cell_below q1 c2; have d1c3 := pw_cell_below q1 c3; have d1c4 := pw_cell_below q1 c4; have d1c5 := pw_cell_below q1 c5; have d1c6 := pw_cell_below q1 c6; have d1c7 := pw_cell_below q1 c7; have d1c8 := pw_cell_below q1 c8; have d1c9 := pw_cell_below q1 c9; have d1c10 := pw_cell_below q1 c10; have d1c11 := pw_cell_below q1 c11; have d1c12 := pw_cell_below q1 c12; have d1c13 := pw_cell_below q1 c13; have d1c14 := pw_cell_below q1 c14; have d1c15 := pw_cell_below q1 c15; have d1c16 := pw_cell_below q1 c16; have d1c17 := pw_cell_below q1 c17; have d1c18 := pw_cell_below q1 c18; have d1c19 := pw_cell_below q1 c19; have d1c20 := pw_cell_below q1 c20; have d1c21 := pw_cell_below q1 c21; have d1c22 := pw_cell_below q1 c22; have d1c23 := pw_cell_below q1 c23; have d1c24 := pw_cell_below q1 c24) | (go_at_call 21; (with_reducible refine (HL2.out _).mono ?_); rintro e v2 ⟨rfl, hb⟩; have q2 := below_step (w := w1) (by repeat (first | exact Below.refl _ _ | assumption | apply below_drew | apply pw_below_drewN | apply below_alloc)) hb; clear hb; have d2c0 := pw_cell_below q2 c0; have d2c1 := pw_cell_below q2 c1; have d2c2 := pw_cell_below q2 c2; have d2c3 := pw_cell_below q2 c3; have d2c4 := pw_cell_below q2 c4; have d2c5 := pw_cell_below q2 c5; have d2c6 := pw_cell_below q2 c6; have d2c7 := pw_cell_below q2 c7; have d2c8 := pw_cell_below q2 c8; have d2c9 := pw_cell_below q2 c9; have d2c10 := pw_cell_below q2 c10; have d2c11 := pw_cell_below q2 c11; have d2c12 := pw_cell_below q2 c12; have d2c13 := pw_cell_below q2 c13; have d2c14 := pw_cell_below q2 c14; have d2c15 := pw_cell_below q2 c15; have d2c16 := pw_cell_below q2 c16; have d2c17 := pw_cell_below q2 c17; have d2c18 := pw_cell_below q2 c18; have d2c19 := pw_cell_below q2 c19; have d2c20 := pw_cell_below q2 c20; have d2c21 := pw_cell_below q2 c21; have d2c22 := pw_cell_below q2 c22; have d2c23 := pw_cell_below q2 c23; have d2c24 := pw_cell_below q2 c24) | (go_at_call 20; (with_reducible refine (HDk.out _).mono ?_); rintro e v3 ⟨rfl, hb⟩; have q3 := below_step (w := w1) (by repeat (first | exact Below.refl _ _ | assumption | apply below_drew | apply pw_below_drewN | apply below_alloc)) hb; clear hb; have d3c0 := pw_cell_below q3 c0; have d3c1 := pw_cell_below q3 c1; have d3c2 := pw_cell_below q3 c2; have d3c3 := pw_cell_below q3 c3; have d3c4 := pw_cell_below q3 c4; have d3c5 := pw_cell_below q3 c5; have d3c6 := pw_cell_below q3 c6; have d3c7 := pw_cell_below q3 c7; have d3c8 := pw_cell_below q3 c8; have d3c9 := pw_cell_below q3 c9; have d3c10 := pw_cell_below q3 c10; have d3c11 := pw_cell_below q3 c11; have d3c12 := pw_cell_below q3 c12; have d3c13 := pw_cell_below q3 c13; have d3c14 := pw_cell_below q3 c14; have d3c15 := pw_cell_below q3 c15; have d3c16 := pw_cell_below q3 c16; have d3c17 := pw_cell_below q3 c17; have d3c18 := pw_cell_below q3 c18; have d3c19 := pw_cell_below q3 c19; have d3c20 := pw_cell_below q3 c20; have d3c21 := pw_cell_below q3 c21; have d3c22 := pw_cell_below q3 c22; have d3c23 := pw_cell_below q3 c23; have d3c24 := pw_cell_below q3 c24)))
      have HB2 := Aside0.mk (HB1.out.below q3)
      have HH2 := Aside0.mk (HH1.out.below q3)
      have HW2 := Aside0.mk (below_step HW1.out q3)
      clear c0 c1 c2 c3 c4 c5 c6 c7 c8 c9 c10 c11 c12 c13 c14 c15 c16 c17 c18 c19 c20 c21 c22 c23 c24 d0c0 d0c1 d0c2 d0c3 d0c4 d0c5 d0c6 d0c7 d0c8 d0c9 d0c10 d0c11 d0c12 d0c13 d0c14 d0c15 d0c16 d0c17 d0c18 d0c19 d0c20 d0c21 d0c22 d0c23 d0c24 d1c0 d1c1 d1c2 d1c3 d1c4 d1c5 d1c6 d1c7 d1c8 d1c9 d1c10 d1c11 d1c12 d1c13 d1c14 d1c15 d1c16 d1c17 d1c18 d1c19 d1c20 d1c21 d1c22 d1c23 d1c24 d2c0 d2c1 d2c2 d2c3 d2c4 d2c5 d2c6 d2c7 d2c8 d2c9 d2c10 d2c11 d2c12 d2c13 d2c14 d2c15 d2c16 d2c17 d2c18 d2c19 d2c20 d2c21 d2c22 d2c23 d2c24 d3c0 d3c1 d3c2 d3c3 d3c4 d3c5 d3c6 d3c7 d3c8 d3c9 d3c10 d3c11 d3c12 d3c13 d3c14 d3c15 d3c16 d3c17 d3c18 d3c19 d3c20 d3c21 d3c22 d3c23 d3c24 q0 q1 q2 q3 HB1 HH1 HW1
      go_wp2
      go_roundw
      case rel => exact ⟨k + 1, by omega, by go_num, by rw [HS.out], HB2, HH2, HW2⟩
      case measure => simp [intOf] <;> omega
    · have ek : k = n := by omega
      subst ek
      go_wp2
      go_ret
      exact ⟨rfl, HW.out⟩
end Go.Proofs.YtddlhjhnnmkgaaaDoor.X
