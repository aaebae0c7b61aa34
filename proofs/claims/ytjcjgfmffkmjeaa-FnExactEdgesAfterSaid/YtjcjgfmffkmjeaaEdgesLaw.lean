import Derived.Test.YtjcjgfmffkmjeaaEdges
import Derived.Test.YtjcjgfmffkmjeaaFacts1
set_option linter.unusedVariables false
set_option linter.unusedSimpArgs false
namespace Go.Proofs.Ytjcjgfmffkmjeaa.X
open Go.RowKit Go.Proofs.YtjcjgfmffkmjeaaW.PrintWords Go.Proofs.YtjcjgfmffkmjeaaW.PrintLast Go.Proofs.YtjcjgfmffkmjeaaW.PrintMore
attribute [local go_sem] max2_int min2_int max_two min_two max_three min_three max_four min_four
--AUX
theorem eqEdges_same (p : Int × Int × Int × Int) (w : World) : Calls Try.prog 36 #[edV p, edV p] w fun e w' => e = .returned (.bool true) ∧ Below w.heap.size w w' := by
  refine (eqEdges_calls p.1 p.2.1 p.2.2.1 p.2.2.2 p.1 p.2.1 p.2.2.1 p.2.2.2 w).mono ?_
  rintro e w' ⟨rfl, hb⟩
  exact ⟨by simp, hb⟩
theorem specEdges_all (A0 : Option Addr) (c0 : Nat) (l0 : List Int) (w : World) (hr0 : Kd.C (Kd.int .i64) w A0 l0.length l0) (hc0 : l0.length ≤ c0) :
    Calls Try.prog 34 #[.slice A0 l0.length c0] w fun e w' => e = .returned (.tuple #[edV (edgesAfterF l0).1, .int .i64 (edgesAfterF l0).2]) ∧ Below w.heap.size w w' := by
  unfold edgesAfterF
  by_cases hl : 12 < l0.length
  · rw [if_pos hl]; exact specEdges_long A0 c0 l0 w hr0 hl
  · rw [if_neg hl]
    by_cases hb : areF l0 = true
    · rw [if_pos hb]; exact specEdges_ok A0 c0 l0 w hr0 (by omega) hb
    · rw [if_neg hb]; exact specEdges_bad A0 c0 l0 w hr0 (by omega) (by simpa using hb)
theorem implEdges_all (A0 : Option Addr) (c0 : Nat) (l0 : List Int) (w : World) (hr0 : Kd.C (Kd.int .i64) w A0 l0.length l0) (hc0 : l0.length ≤ c0) :
    Calls Try.prog 35 #[.slice A0 l0.length c0] w fun e w' => e = .returned (.tuple #[edV (edgesAfterF l0).1, .int .i64 (edgesAfterF l0).2]) ∧ Below w.heap.size w w' := by
  unfold edgesAfterF
  by_cases hl : 12 < l0.length
  · rw [if_pos hl]; exact implEdges_bad A0 c0 l0 w hr0 hc0 3 (by decide) (by rw [if_pos hl])
  · rw [if_neg hl]
    by_cases hb : areF l0 = true
    · rw [if_pos hb]; exact implEdges_ok A0 c0 l0 w hr0 hc0 (by omega) hb
    · rw [if_neg hb]; exact implEdges_bad A0 c0 l0 w hr0 hc0 2 (by decide) (by rw [if_neg hl, if_neg hb])
set_option maxHeartbeats 8000000 in
set_option maxRecDepth 100000 in
theorem lawEdges (A0 : Option Addr) (c0 : Nat) (l0 : List Int) (w : World) (hr0 : Kd.C (Kd.int .i64) w A0 l0.length l0) (hc0 : l0.length ≤ c0) :
    Calls Try.prog 9 #[.slice A0 l0.length c0] w fun e w' => e = .returned (.bool true) ∧ Below w.heap.size w w' := by
  by_cases hbig : (l0.length : Int) > 1048576
  · have hb1 : decide (1048576 < (l0.length : Int)) = true := decide_eq_true hbig
    have hb2 : decide (1048576 < l0.length) = true := decide_eq_true (by omega)
    clear hbig
    go_enter Try.func9, Try.ntmps9
    go_wp2
    go_ret
    exact ⟨rfl, Below.refl _ _⟩
  · have hb1 : decide (1048576 < (l0.length : Int)) = false := decide_eq_false hbig
    have hb2 : decide (1048576 < l0.length) = false := decide_eq_false (by omega)
    obtain ⟨K1, h1⟩ := toInt64S_ev (l := l0) (by omega)
    obtain ⟨K2, h2⟩ := eqInt64S_ev (a := l0) (b := l0) (by omega)
    have e1 := h1 K1 (by omega)
    have e2 := h2 K2 (by omega)
    simp only at e1 e2
    simp only [decide_true] at e2
    have E1 := Aside0.mk e1
    have E2 := Aside0.mk e2
    have HR := Aside0.mk hr0
    have HC := Aside0.mk hc0
    obtain ⟨P, hP⟩ : ∃ P, P = edgesAfterF l0 := ⟨_, rfl⟩
    have hT := fun (W : World) (hb : Below w.heap.size w W) => laws_toInt64S.calls K1 A0 c0 l0 l0 W (Kd.C_below HR.out hb) HC.out E1.out
    have hS := fun A c W h hc => specEdges_all A c l0 W h hc
    have hI := fun A c W h hc => implEdges_all A c l0 W h hc
    rw [← hP] at hS hI
    obtain ⟨⟨p0, p1, p2, p3⟩, code⟩ := P
    simp only at hS hI
    have hE := eqEdges_same (p0, p1, p2, p3)
    simp only [edV] at hS hI hE
    clear hP hr0 hc0 e1 e2 h1 h2 hbig
    have HB := Aside0.mk (Below.refl w.heap.size w)
    go_enter Try.func9, Try.ntmps9
    go_wp2_with fail
    refine (hT _ (Below.refl _ _)).mono ?_
    rintro e w1 ⟨v1, rfl, ho1, hb1'⟩
    obtain ⟨A1, c1, rfl⟩ := Kd.R_slice ho1
    have HB1 := Aside0.mk hb1'
    have HO1 := Aside0.mk ho1
    clear ho1 hb1'
    go_wp2_with fail
    refine (hS _ _ _ (Kd.R_reads' HO1.out).2.2 (Kd.R_reads' HO1.out).2.1).mono ?_
    rintro e w2 ⟨rfl, hb⟩
    have HB2 := Aside0.mk (below_step (w := w) HB1.out hb)
    clear hb
    go_wp2_with fail
    refine (hT _ (below_alloc HB2.out _)).mono ?_
    rintro e w3 ⟨v3, rfl, ho3, hb⟩
    obtain ⟨A3, c3, rfl⟩ := Kd.R_slice ho3
    have HB3 := Aside0.mk (below_step (w := w) (below_alloc HB2.out _) hb)
    have HZ3 := Aside0.mk (blk_below (blk_new w2 (Obj.cells #[Value.int IntKind.i64 p0, Value.int IntKind.i64 p1, Value.int IntKind.i64 p2, Value.int IntKind.i64 p3] 46)) hb)
    have HO3 := Aside0.mk ho3
    clear ho3 hb
    go_wp2_with fail
    refine (hI _ _ _ (Kd.R_reads' HO3.out).2.2 (Kd.R_reads' HO3.out).2.1).mono ?_
    rintro e w4 ⟨rfl, hb⟩
    have HB4 := Aside0.mk (below_step (w := w) HB3.out hb)
    have HZ4 := Aside0.mk (blk_below HZ3.out hb)
    have z0 : (w4.alloc (Obj.cells #[Value.int IntKind.i64 p0, Value.int IntKind.i64 p1, Value.int IntKind.i64 p2, Value.int IntKind.i64 p3] 46)).cell? ⟨w2.heap.size, 0, none⟩ = some (.int .i64 p0) := (blk_cell (blk_alloc HZ4.out _) 0).trans rfl
    have z1 : (w4.alloc (Obj.cells #[Value.int IntKind.i64 p0, Value.int IntKind.i64 p1, Value.int IntKind.i64 p2, Value.int IntKind.i64 p3] 46)).cell? ⟨w2.heap.size, 1, none⟩ = some (.int .i64 p1) := (blk_cell (blk_alloc HZ4.out _) 1).trans rfl
    have z2 : (w4.alloc (Obj.cells #[Value.int IntKind.i64 p0, Value.int IntKind.i64 p1, Value.int IntKind.i64 p2, Value.int IntKind.i64 p3] 46)).cell? ⟨w2.heap.size, 2, none⟩ = some (.int .i64 p2) := (blk_cell (blk_alloc HZ4.out _) 2).trans rfl
    have z3 : (w4.alloc (Obj.cells #[Value.int IntKind.i64 p0, Value.int IntKind.i64 p1, Value.int IntKind.i64 p2, Value.int IntKind.i64 p3] 46)).cell? ⟨w2.heap.size, 3, none⟩ = some (.int .i64 p3) := (blk_cell (blk_alloc HZ4.out _) 3).trans rfl
    have HO4 := Aside0.mk (Kd.R_below HO3.out hb)
    clear hb
    go_wp2_with fail
    refine (hE _).mono ?_
    rintro e w5 ⟨rfl, hb⟩
    have HB5 := Aside0.mk (below_step (w := w) (below_alloc HB4.out _) hb)
    have HO5 := Aside0.mk (Kd.R_below (Kd.R_alloc HO4.out _) hb)
    clear z0 z1 z2 z3
    clear hb
    go_wp2_with fail
    refine (hT _ HB5.out).mono ?_
    rintro e w6 ⟨v6, rfl, ho6, hb⟩
    obtain ⟨A6, c6, rfl⟩ := Kd.R_slice ho6
    have HB6 := Aside0.mk (below_step (w := w) HB5.out hb)
    have HO6 := Aside0.mk ho6
    have HO56 := Aside0.mk (Kd.R_below HO5.out hb)
    clear ho6 hb
    go_wp2_with fail
    refine (laws_eqInt64S.calls K2 _ _ l0 _ _ l0 true _ (Kd.R_reads' HO56.out).2.2 (Kd.R_reads' HO56.out).2.1 (Kd.R_reads' HO6.out).2.2 (Kd.R_reads' HO6.out).2.1 E2.out).mono ?_
    rintro e w7 ⟨rfl, hd⟩
    have HB7 := Aside0.mk (below_step (w := w) HB6.out hd.below)
    clear hd
    go_wp2
    go_ret
    exact ⟨rfl, HB7.out⟩

end Go.Proofs.Ytjcjgfmffkmjeaa.X
