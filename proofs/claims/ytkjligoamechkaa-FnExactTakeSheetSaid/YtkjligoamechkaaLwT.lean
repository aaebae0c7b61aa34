/- Contracts of functions, and plain facts: what each call answers, and what it leaves as it was. -/
import Derived.Test.YtkjligoamechkaaCu
set_option linter.unusedVariables false
set_option linter.unusedSimpArgs false
namespace Go.Proofs.Ytkjligoamechkaa.X
open Go.RowKit Go.Proofs.YtkjligoamechkaaW.PrintWords Go.Proofs.YtkjligoamechkaaW.PrintLast Go.Proofs.YtkjligoamechkaaW.PrintMore
attribute [local go_sem] max2_int min2_int max_two min_two max_three min_three max_four min_four
set_option maxHeartbeats 8000000 in
set_option maxRecDepth 100000 in
theorem specTake_rr (l : List (List Int)) (a : Int) (hl : l.length ≤ 1048576) (hf : l.flatten.length ≤ 1048576) (lo hi : Nat) (v0 : Value) (w : World) (hX : RR w lo hi v0 l) :
    Calls Try.prog 16 #[v0, .int .i64 a] w fun e w' => ∃ v : Value, e = .returned (.tuple #[v, .int .i64 (takeR l a).2.1, .int .i64 (takeR l a).2.2]) ∧ RR w' w.heap.size w'.heap.size v (takeR l a).1 ∧ Below w.heap.size w w' := by
  obtain ⟨A, c, rfl, hc, hC⟩ := hX.reads hl (row_small hf)
  have HL := Aside0.mk hC
  have HX := Aside0.mk hX
  have HW : Aside0 (Below w.heap.size w w) := ⟨Below.refl _ _⟩
  have HCU := Aside0.mk (fun W h => cupS l hl hf A c hc W h)
  have HIN := Aside0.mk (fun W => inB a 0 ((l.length : Int) - 1) W)
  have HOW := Aside0.mk (fun W h => ownRR l hl hf A c hc W h)
  clear hC hX
  cases hg : good0 l 0
  · rw [takeR_no hg]
    rw [hg] at HCU
    clear hg
    go_enter Try.func16, Try.ntmps16
    go_wp2_with (fail)
    refine (HCU.out _ (Kd.C_below HL.out (by with_reducible repeat (first | exact HW.out | refine Blk.alloc ?_ _ | refine Rw.alloc ?_ _ | refine Arg.alloc ?_ _ | apply below_alloc | refine Blk.drew ?_ | refine Rw.drew ?_ | refine Arg.drew ?_ | apply below_drew | refine Blk.drewN ?_ _ | refine Rw.drewN ?_ _ | refine Arg.drewN ?_ _ | apply pw_below_drewN)))).mono ?_
    rintro e w1 ⟨rfl, hb⟩
    have hs_w1 := Below.size hb
    (try simp at hs_w1)
    replace HW : Aside0 (Below w.heap.size w w1) := ⟨below_step (by with_reducible repeat (first | exact HW.out | refine Blk.alloc ?_ _ | refine Rw.alloc ?_ _ | refine Arg.alloc ?_ _ | apply below_alloc | refine Blk.drew ?_ | refine Rw.drew ?_ | refine Arg.drew ?_ | apply below_drew | refine Blk.drewN ?_ _ | refine Rw.drewN ?_ _ | refine Arg.drewN ?_ _ | apply pw_below_drewN)) hb⟩
    clear hb
    go_wp2
    go_ret3
    exact ⟨_, rfl, RR.empty _ _ _ _ _, by repeat (first | exact HW.out | refine below_alloc ?_ _)⟩
  · rw [hg] at HCU
    by_cases hin : 0 ≤ a ∧ a ≤ (l.length : Int) - 1
    · obtain ⟨i, rfl⟩ : ∃ i : Nat, a = (i : Int) := ⟨a.toNat, by omega⟩
      have hil : i < l.length := by omega
      have hii : (i : Int) < (l.length : Int) := by omega
      rw [decide_eq_true hin] at HIN
      have hlne : l ≠ [] := by intro e; rw [e] at hil; simp at hil
      obtain ⟨g0, V0, B0, O0, rfl, H0⟩ : ∃ (g0 : Nat) (V0 : Nat → Value) (B0 O0 : Nat → Nat), A = some ⟨g0, 0, none⟩ ∧ Cu w lo hi g0 l V0 B0 O0 := by
        rcases HX.out with ⟨e, _⟩ | ⟨_, g0, c0, V0, B0, O0, e1, _, e2⟩
        · exact absurd e hlne
        · injection e1 with e3
          exact ⟨g0, V0, B0, O0, e3, e2⟩
      obtain ⟨A1, c1, hv1, hv2⟩ := H0.val hil
      have HC0 : Aside0 (w.cell? ⟨g0, i, none⟩ = some (.slice A1 (l.getD i []).length c1)) := ⟨by rw [H0.cell hil, hv1]⟩
      have hsm : (l.getD i []).length ≤ 1048576 := by
        rw [List.getD_eq_getElem?_getD, List.getElem?_eq_getElem hil]
        exact row_small hf _ (List.getElem_mem hil)
      have ht9 : (i : Int).toNat = i := rfl
      cases hrow : l.getD i []
      · rw [takeR_none hg hil hrow]
        rw [hrow] at HC0
        clear hg hrow H0 hv1 hv2 HX hsm hin
        go_enter Try.func16, Try.ntmps16
        go_wp2_with (fail)
        refine (HCU.out _ (Kd.C_below HL.out (by with_reducible repeat (first | exact HW.out | refine Blk.alloc ?_ _ | refine Rw.alloc ?_ _ | refine Arg.alloc ?_ _ | apply below_alloc | refine Blk.drew ?_ | refine Rw.drew ?_ | refine Arg.drew ?_ | apply below_drew | refine Blk.drewN ?_ _ | refine Rw.drewN ?_ _ | refine Arg.drewN ?_ _ | apply pw_below_drewN)))).mono ?_
        rintro e w1 ⟨rfl, hb⟩
        have hs_w1 := Below.size hb
        (try simp at hs_w1)
        replace HW : Aside0 (Below w.heap.size w w1) := ⟨below_step (by with_reducible repeat (first | exact HW.out | refine Blk.alloc ?_ _ | refine Rw.alloc ?_ _ | refine Arg.alloc ?_ _ | apply below_alloc | refine Blk.drew ?_ | refine Rw.drew ?_ | refine Arg.drew ?_ | apply below_drew | refine Blk.drewN ?_ _ | refine Rw.drewN ?_ _ | refine Arg.drewN ?_ _ | apply pw_below_drewN)) hb⟩
        clear hb
        go_wp2_with (fail)
        refine (HIN.out _).mono ?_
        rintro e w2 ⟨rfl, hb⟩
        have hs_w2 := Below.size hb
        (try simp at hs_w2)
        replace HW : Aside0 (Below w.heap.size w w2) := ⟨below_step (by with_reducible repeat (first | exact HW.out | refine Blk.alloc ?_ _ | refine Rw.alloc ?_ _ | refine Arg.alloc ?_ _ | apply below_alloc | refine Blk.drew ?_ | refine Rw.drew ?_ | refine Arg.drew ?_ | apply below_drew | refine Blk.drewN ?_ _ | refine Rw.drewN ?_ _ | refine Arg.drewN ?_ _ | apply pw_below_drewN)) hb⟩
        clear hb
        have c0 := pw_cell_below HW.out HC0.out
        simp only [List.length_nil] at c0
        go_wp2
        go_ret3
        exact ⟨_, rfl, RR.empty _ _ _ _ _, by repeat (first | exact HW.out | refine below_alloc ?_ _)⟩
      · rename_i x xs
        rw [takeR_some hg hil hrow]
        rw [hrow, List.length_cons] at HC0
        have HR := Aside0.mk hrow
        rw [hrow, List.length_cons] at hsm
        clear hg hrow H0 hv1 hv2 HX hin
        go_enter Try.func16, Try.ntmps16
        go_wp2_with (fail)
        refine (HCU.out _ (Kd.C_below HL.out (by with_reducible repeat (first | exact HW.out | refine Blk.alloc ?_ _ | refine Rw.alloc ?_ _ | refine Arg.alloc ?_ _ | apply below_alloc | refine Blk.drew ?_ | refine Rw.drew ?_ | refine Arg.drew ?_ | apply below_drew | refine Blk.drewN ?_ _ | refine Rw.drewN ?_ _ | refine Arg.drewN ?_ _ | apply pw_below_drewN)))).mono ?_
        rintro e w1 ⟨rfl, hb⟩
        have hs_w1 := Below.size hb
        (try simp at hs_w1)
        replace HW : Aside0 (Below w.heap.size w w1) := ⟨below_step (by with_reducible repeat (first | exact HW.out | refine Blk.alloc ?_ _ | refine Rw.alloc ?_ _ | refine Arg.alloc ?_ _ | apply below_alloc | refine Blk.drew ?_ | refine Rw.drew ?_ | refine Arg.drew ?_ | apply below_drew | refine Blk.drewN ?_ _ | refine Rw.drewN ?_ _ | refine Arg.drewN ?_ _ | apply pw_below_drewN)) hb⟩
        clear hb
        go_wp2_with (fail)
        refine (HIN.out _).mono ?_
        rintro e w2 ⟨rfl, hb⟩
        have hs_w2 := Below.size hb
        (try simp at hs_w2)
        replace HW : Aside0 (Below w.heap.size w w2) := ⟨below_step (by with_reducible repeat (first | exact HW.out | refine Blk.alloc ?_ _ | refine Rw.alloc ?_ _ | refine Arg.alloc ?_ _ | apply below_alloc | refine Blk.drew ?_ | refine Rw.drew ?_ | refine Arg.drew ?_ | apply below_drew | refine Blk.drewN ?_ _ | refine Rw.drewN ?_ _ | refine Arg.drewN ?_ _ | apply pw_below_drewN)) hb⟩
        clear hb
        have c0 := pw_cell_below HW.out HC0.out
        go_wp2_with (fail)
        clear c0
        refine (HOW.out _ (Kd.C_below HL.out (by with_reducible repeat (first | exact HW.out | refine Blk.alloc ?_ _ | refine Rw.alloc ?_ _ | refine Arg.alloc ?_ _ | apply below_alloc | refine Blk.drew ?_ | refine Rw.drew ?_ | refine Arg.drew ?_ | apply below_drew | refine Blk.drewN ?_ _ | refine Rw.drewN ?_ _ | refine Arg.drewN ?_ _ | apply pw_below_drewN)))).mono ?_
        rintro e w3 ⟨v, rfl, hR_, hb⟩
        have hs_w3 := Below.size hb
        (try simp at hs_w3)
        replace HW : Aside0 (Below w.heap.size w w3) := ⟨below_step (by with_reducible repeat (first | exact HW.out | refine Blk.alloc ?_ _ | refine Rw.alloc ?_ _ | refine Arg.alloc ?_ _ | apply below_alloc | refine Blk.drew ?_ | refine Rw.drew ?_ | refine Arg.drew ?_ | apply below_drew | refine Blk.drewN ?_ _ | refine Rw.drewN ?_ _ | refine Arg.drewN ?_ _ | apply pw_below_drewN)) hb⟩
        clear hb HL HCU HIN HOW HC0
        have hlow : w.heap.size ≤ w2.heap.size := by have := Below.size HW.out; omega
        obtain ⟨g, c2, V, B, O, rfl, hc2, HQ⟩ : ∃ (g c2 : Nat) (V : Nat → Value) (B O : Nat → Nat), v = .slice (some ⟨g, 0, none⟩) l.length c2 ∧ l.length ≤ c2 ∧ Aside0 (Cu w3 w2.heap.size w3.heap.size g l V B O) := by
          rcases hR_ with ⟨e, _⟩ | ⟨_, g, c2, V, B, O, e1, e2, e3⟩
          · exact absurd e hlne
          · exact ⟨g, c2, V, B, O, e1, e2, ⟨e3⟩⟩
        clear hR_
        obtain ⟨c3, hv3, hc3⟩ := HQ.out.form i hil (by rw [HR.out]; simp)
        have cv := HQ.out.cell hil
        have dv := HQ.out.frozen i
        have c00 := HQ.out.num (i := i) (k := 0) (j := O i) hil (by rw [HR.out]; simp) rfl
        rw [hv3, HR.out, List.length_cons] at cv
        rw [HR.out, List.length_cons] at hc3
        rw [HR.out] at c00
        simp only [List.getD_cons_zero] at c00
        have HP : Aside0 (∀ (u : Value) (o : Nat), (xs ≠ [] → o = O i + 1 ∧ ∃ cc, u = .slice (some ⟨B i, o, none⟩) xs.length cc ∧ xs.length ≤ cc) → (xs = [] → ∃ A c, u = .slice A 0 c) → RR (w3.setCell ⟨g, i, none⟩ u) w.heap.size (w3.setCell ⟨g, i, none⟩ u).heap.size (.slice (some ⟨g, 0, none⟩) l.length c2) (l.set i xs)) := ⟨fun u o h1 h2 => by
          have hp := HQ.out.put hil xs u o (fun hne => ⟨by rw [HR.out]; simp, ⟨1, (h1 hne).1, fun k hk => by rw [HR.out]; exact ⟨by simp; omega, by rw [Nat.add_comm]; rfl⟩⟩, (h1 hne).2⟩) h2
          refine RR.lower (lo := w2.heap.size) (.inr ⟨by intro e; have := congrArg List.length e; rw [List.length_set] at this; exact hlne (List.length_eq_zero_iff.1 this), g, c2, (fun j => if j = i then u else V j), B, (fun j => if j = i then o else O j), by rw [List.length_set], by rw [List.length_set]; exact hc2, ?_⟩) hlow
          have e9 : (w3.setCell ⟨g, i, none⟩ u).heap.size = w3.heap.size := by simp
          rw [e9]
          exact hp⟩
        have hgl := HQ.out.outer
        have HW2 : Aside0 (∀ u, Below w.heap.size w (w3.setCell ⟨g, i, none⟩ u)) := ⟨fun u => HW.out.setCell (by show w.heap.size ≤ g; omega) u⟩
        have HX0 : Aside0 (xs = [] → xs.length = 0) := ⟨fun e => by rw [e]; rfl⟩
        have HX1 : Aside0 (xs.length = 0 → xs = []) := ⟨fun e => List.length_eq_zero_iff.1 e⟩
        clear hv3 HQ HR
        generalize xs.length = q at *
        by_cases hcc : c3 = 1
        · subst hcc
          obtain rfl : q = 0 := by omega
          have HXE := Aside0.mk (HX1.out rfl)
          go_wp2
          go_ret3
          exact ⟨_, rfl, HP.out _ 0 (fun h => absurd HXE.out h) (fun _ => ⟨_, _, rfl⟩), HW2.out _⟩
        · have hcb : ¬ (c3 - 1 = 0) := by omega
          have hc4 : 1 ≤ c3 := by omega
          have hc5 : q ≤ c3 - 1 := by omega
          go_wp2
          go_ret3
          exact ⟨_, rfl, HP.out _ (O i + 1) (fun _ => ⟨rfl, _, rfl, hc5⟩) (fun h => ⟨_, _, by rw [HX0.out h]⟩), HW2.out _⟩
    · rw [takeR_far hg hin]
      rw [decide_eq_false hin] at HIN
      clear hg hin HX
      go_enter Try.func16, Try.ntmps16
      go_wp2_with (fail)
      refine (HCU.out _ (Kd.C_below HL.out (by with_reducible repeat (first | exact HW.out | refine Blk.alloc ?_ _ | refine Rw.alloc ?_ _ | refine Arg.alloc ?_ _ | apply below_alloc | refine Blk.drew ?_ | refine Rw.drew ?_ | refine Arg.drew ?_ | apply below_drew | refine Blk.drewN ?_ _ | refine Rw.drewN ?_ _ | refine Arg.drewN ?_ _ | apply pw_below_drewN)))).mono ?_
      rintro e w1 ⟨rfl, hb⟩
      have hs_w1 := Below.size hb
      (try simp at hs_w1)
      replace HW : Aside0 (Below w.heap.size w w1) := ⟨below_step (by with_reducible repeat (first | exact HW.out | refine Blk.alloc ?_ _ | refine Rw.alloc ?_ _ | refine Arg.alloc ?_ _ | apply below_alloc | refine Blk.drew ?_ | refine Rw.drew ?_ | refine Arg.drew ?_ | apply below_drew | refine Blk.drewN ?_ _ | refine Rw.drewN ?_ _ | refine Arg.drewN ?_ _ | apply pw_below_drewN)) hb⟩
      clear hb
      go_wp2_with (fail)
      refine (HIN.out _).mono ?_
      rintro e w2 ⟨rfl, hb⟩
      have hs_w2 := Below.size hb
      (try simp at hs_w2)
      replace HW : Aside0 (Below w.heap.size w w2) := ⟨below_step (by with_reducible repeat (first | exact HW.out | refine Blk.alloc ?_ _ | refine Rw.alloc ?_ _ | refine Arg.alloc ?_ _ | apply below_alloc | refine Blk.drew ?_ | refine Rw.drew ?_ | refine Arg.drew ?_ | apply below_drew | refine Blk.drewN ?_ _ | refine Rw.drewN ?_ _ | refine Arg.drewN ?_ _ | apply pw_below_drewN)) hb⟩
      clear hb
      go_wp2
      go_ret3
      exact ⟨_, rfl, RR.empty _ _ _ _ _, by repeat (first | exact HW.out | refine below_alloc ?_ _)⟩
set_option maxHeartbeats 8000000 in
set_option maxRecDepth 100000 in
theorem implTake_rr (l : List (List Int)) (a : Int) (hl : l.length ≤ 1048576) (hf : l.flatten.length ≤ 1048576) (lo hi : Nat) (v0 : Value) (w : World) (hX : RR w lo hi v0 l) :
    Calls Try.prog 17 #[v0, .int .i64 a] w fun e w' => ∃ v : Value, e = .returned (.tuple #[v, .int .i64 (takeR l a).2.1, .int .i64 (takeR l a).2.2]) ∧ RR w' w.heap.size w'.heap.size v (takeR l a).1 ∧ Below w.heap.size w w' := by
  obtain ⟨A, c, rfl, hc, hC⟩ := hX.reads hl (row_small hf)
  have HL := Aside0.mk hC
  have HX := Aside0.mk hX
  have HW : Aside0 (Below w.heap.size w w) := ⟨Below.refl _ _⟩
  have HCU := Aside0.mk (fun W h => cupI l hf A c hc W h)
  have HIN := Aside0.mk (fun W => withinB a 0 ((l.length : Int) - 1) W)
  have HOW := Aside0.mk (fun W h => copyRR l hl hf A c hc W h)
  have HSZ := Aside0.mk (fun W h => sizeB l A c hc W h)
  clear hC hX
  cases hg : good0 l 0
  · rw [takeR_no hg]
    rw [hg] at HCU
    clear hg
    go_enter Try.func17, Try.ntmps17
    go_wp2_with (fail)
    refine (HCU.out _ (Kd.C_below HL.out (by with_reducible repeat (first | exact HW.out | refine Blk.alloc ?_ _ | refine Rw.alloc ?_ _ | refine Arg.alloc ?_ _ | apply below_alloc | refine Blk.drew ?_ | refine Rw.drew ?_ | refine Arg.drew ?_ | apply below_drew | refine Blk.drewN ?_ _ | refine Rw.drewN ?_ _ | refine Arg.drewN ?_ _ | apply pw_below_drewN)))).mono ?_
    rintro e w1 ⟨rfl, hb⟩
    have hs_w1 := Below.size hb
    (try simp at hs_w1)
    replace HW : Aside0 (Below w.heap.size w w1) := ⟨below_step (by with_reducible repeat (first | exact HW.out | refine Blk.alloc ?_ _ | refine Rw.alloc ?_ _ | refine Arg.alloc ?_ _ | apply below_alloc | refine Blk.drew ?_ | refine Rw.drew ?_ | refine Arg.drew ?_ | apply below_drew | refine Blk.drewN ?_ _ | refine Rw.drewN ?_ _ | refine Arg.drewN ?_ _ | apply pw_below_drewN)) hb⟩
    clear hb
    go_wp2
    go_ret3
    exact ⟨_, rfl, RR.empty _ _ _ _ _, by repeat (first | exact HW.out | refine below_alloc ?_ _)⟩
  · rw [hg] at HCU
    by_cases hin : 0 ≤ a ∧ a ≤ (l.length : Int) - 1
    · obtain ⟨i, rfl⟩ : ∃ i : Nat, a = (i : Int) := ⟨a.toNat, by omega⟩
      have hil : i < l.length := by omega
      have hii : (i : Int) < (l.length : Int) := by omega
      rw [decide_eq_true hin] at HIN
      have hlne : l ≠ [] := by intro e; rw [e] at hil; simp at hil
      obtain ⟨g0, V0, B0, O0, rfl, H0⟩ : ∃ (g0 : Nat) (V0 : Nat → Value) (B0 O0 : Nat → Nat), A = some ⟨g0, 0, none⟩ ∧ Cu w lo hi g0 l V0 B0 O0 := by
        rcases HX.out with ⟨e, _⟩ | ⟨_, g0, c0, V0, B0, O0, e1, _, e2⟩
        · exact absurd e hlne
        · injection e1 with e3
          exact ⟨g0, V0, B0, O0, e3, e2⟩
      obtain ⟨A1, c1, hv1, hv2⟩ := H0.val hil
      have HC0 : Aside0 (w.cell? ⟨g0, i, none⟩ = some (.slice A1 (l.getD i []).length c1)) := ⟨by rw [H0.cell hil, hv1]⟩
      have hsm : (l.getD i []).length ≤ 1048576 := by
        rw [List.getD_eq_getElem?_getD, List.getElem?_eq_getElem hil]
        exact row_small hf _ (List.getElem_mem hil)
      have ht9 : (i : Int).toNat = i := rfl
      cases hrow : l.getD i []
      · rw [takeR_none hg hil hrow]
        rw [hrow] at HC0
        clear hg hrow H0 hv1 hv2 HX hsm hin
        go_enter Try.func17, Try.ntmps17
        go_wp2_with (fail)
        refine (HCU.out _ (Kd.C_below HL.out (by with_reducible repeat (first | exact HW.out | refine Blk.alloc ?_ _ | refine Rw.alloc ?_ _ | refine Arg.alloc ?_ _ | apply below_alloc | refine Blk.drew ?_ | refine Rw.drew ?_ | refine Arg.drew ?_ | apply below_drew | refine Blk.drewN ?_ _ | refine Rw.drewN ?_ _ | refine Arg.drewN ?_ _ | apply pw_below_drewN)))).mono ?_
        rintro e w1 ⟨rfl, hb⟩
        have hs_w1 := Below.size hb
        (try simp at hs_w1)
        replace HW : Aside0 (Below w.heap.size w w1) := ⟨below_step (by with_reducible repeat (first | exact HW.out | refine Blk.alloc ?_ _ | refine Rw.alloc ?_ _ | refine Arg.alloc ?_ _ | apply below_alloc | refine Blk.drew ?_ | refine Rw.drew ?_ | refine Arg.drew ?_ | apply below_drew | refine Blk.drewN ?_ _ | refine Rw.drewN ?_ _ | refine Arg.drewN ?_ _ | apply pw_below_drewN)) hb⟩
        clear hb
        go_wp2_with (fail)
        refine (HSZ.out _ (Kd.C_below HL.out (by with_reducible repeat (first | exact HW.out | refine Blk.alloc ?_ _ | refine Rw.alloc ?_ _ | refine Arg.alloc ?_ _ | apply below_alloc | refine Blk.drew ?_ | refine Rw.drew ?_ | refine Arg.drew ?_ | apply below_drew | refine Blk.drewN ?_ _ | refine Rw.drewN ?_ _ | refine Arg.drewN ?_ _ | apply pw_below_drewN)))).mono ?_
        rintro e w2 ⟨rfl, hb⟩
        have hs_w2 := Below.size hb
        (try simp at hs_w2)
        replace HW : Aside0 (Below w.heap.size w w2) := ⟨below_step (by with_reducible repeat (first | exact HW.out | refine Blk.alloc ?_ _ | refine Rw.alloc ?_ _ | refine Arg.alloc ?_ _ | apply below_alloc | refine Blk.drew ?_ | refine Rw.drew ?_ | refine Arg.drew ?_ | apply below_drew | refine Blk.drewN ?_ _ | refine Rw.drewN ?_ _ | refine Arg.drewN ?_ _ | apply pw_below_drewN)) hb⟩
        clear hb
        go_wp2_with (fail)
        refine (HIN.out _).mono ?_
        rintro e w3 ⟨rfl, hb⟩
        have hs_w3 := Below.size hb
        (try simp at hs_w3)
        replace HW : Aside0 (Below w.heap.size w w3) := ⟨below_step (by with_reducible repeat (first | exact HW.out | refine Blk.alloc ?_ _ | refine Rw.alloc ?_ _ | refine Arg.alloc ?_ _ | apply below_alloc | refine Blk.drew ?_ | refine Rw.drew ?_ | refine Arg.drew ?_ | apply below_drew | refine Blk.drewN ?_ _ | refine Rw.drewN ?_ _ | refine Arg.drewN ?_ _ | apply pw_below_drewN)) hb⟩
        clear hb
        have c0 := pw_cell_below HW.out HC0.out
        simp only [List.length_nil] at c0
        go_wp2
        go_ret3
        exact ⟨_, rfl, RR.empty _ _ _ _ _, by repeat (first | exact HW.out | refine below_alloc ?_ _)⟩
      · rename_i x xs
        rw [takeR_some hg hil hrow]
        rw [hrow, List.length_cons] at HC0
        have HR := Aside0.mk hrow
        rw [hrow, List.length_cons] at hsm
        clear hg hrow H0 hv1 hv2 HX hin
        go_enter Try.func17, Try.ntmps17
        go_wp2_with (fail)
        refine (HCU.out _ (Kd.C_below HL.out (by with_reducible repeat (first | exact HW.out | refine Blk.alloc ?_ _ | refine Rw.alloc ?_ _ | refine Arg.alloc ?_ _ | apply below_alloc | refine Blk.drew ?_ | refine Rw.drew ?_ | refine Arg.drew ?_ | apply below_drew | refine Blk.drewN ?_ _ | refine Rw.drewN ?_ _ | refine Arg.drewN ?_ _ | apply pw_below_drewN)))).mono ?_
        rintro e w1 ⟨rfl, hb⟩
        have hs_w1 := Below.size hb
        (try simp at hs_w1)
        replace HW : Aside0 (Below w.heap.size w w1) := ⟨below_step (by with_reducible repeat (first | exact HW.out | refine Blk.alloc ?_ _ | refine Rw.alloc ?_ _ | refine Arg.alloc ?_ _ | apply below_alloc | refine Blk.drew ?_ | refine Rw.drew ?_ | refine Arg.drew ?_ | apply below_drew | refine Blk.drewN ?_ _ | refine Rw.drewN ?_ _ | refine Arg.drewN ?_ _ | apply pw_below_drewN)) hb⟩
        clear hb
        go_wp2_with (fail)
        refine (HSZ.out _ (Kd.C_below HL.out (by with_reducible repeat (first | exact HW.out | refine Blk.alloc ?_ _ | refine Rw.alloc ?_ _ | refine Arg.alloc ?_ _ | apply below_alloc | refine Blk.drew ?_ | refine Rw.drew ?_ | refine Arg.drew ?_ | apply below_drew | refine Blk.drewN ?_ _ | refine Rw.drewN ?_ _ | refine Arg.drewN ?_ _ | apply pw_below_drewN)))).mono ?_
        rintro e w2 ⟨rfl, hb⟩
        have hs_w2 := Below.size hb
        (try simp at hs_w2)
        replace HW : Aside0 (Below w.heap.size w w2) := ⟨below_step (by with_reducible repeat (first | exact HW.out | refine Blk.alloc ?_ _ | refine Rw.alloc ?_ _ | refine Arg.alloc ?_ _ | apply below_alloc | refine Blk.drew ?_ | refine Rw.drew ?_ | refine Arg.drew ?_ | apply below_drew | refine Blk.drewN ?_ _ | refine Rw.drewN ?_ _ | refine Arg.drewN ?_ _ | apply pw_below_drewN)) hb⟩
        clear hb
        go_wp2_with (fail)
        refine (HIN.out _).mono ?_
        rintro e w3 ⟨rfl, hb⟩
        have hs_w3 := Below.size hb
        (try simp at hs_w3)
        replace HW : Aside0 (Below w.heap.size w w3) := ⟨below_step (by with_reducible repeat (first | exact HW.out | refine Blk.alloc ?_ _ | refine Rw.alloc ?_ _ | refine Arg.alloc ?_ _ | apply below_alloc | refine Blk.drew ?_ | refine Rw.drew ?_ | refine Arg.drew ?_ | apply below_drew | refine Blk.drewN ?_ _ | refine Rw.drewN ?_ _ | refine Arg.drewN ?_ _ | apply pw_below_drewN)) hb⟩
        clear hb
        have c0 := pw_cell_below HW.out HC0.out
        go_wp2_with (fail)
        clear c0
        refine (HOW.out _ (Kd.C_below HL.out (by with_reducible repeat (first | exact HW.out | refine Blk.alloc ?_ _ | refine Rw.alloc ?_ _ | refine Arg.alloc ?_ _ | apply below_alloc | refine Blk.drew ?_ | refine Rw.drew ?_ | refine Arg.drew ?_ | apply below_drew | refine Blk.drewN ?_ _ | refine Rw.drewN ?_ _ | refine Arg.drewN ?_ _ | apply pw_below_drewN)))).mono ?_
        rintro e w4 ⟨v, rfl, hR_, hb⟩
        have hs_w4 := Below.size hb
        (try simp at hs_w4)
        replace HW : Aside0 (Below w.heap.size w w4) := ⟨below_step (by with_reducible repeat (first | exact HW.out | refine Blk.alloc ?_ _ | refine Rw.alloc ?_ _ | refine Arg.alloc ?_ _ | apply below_alloc | refine Blk.drew ?_ | refine Rw.drew ?_ | refine Arg.drew ?_ | apply below_drew | refine Blk.drewN ?_ _ | refine Rw.drewN ?_ _ | refine Arg.drewN ?_ _ | apply pw_below_drewN)) hb⟩
        clear hb HL HCU HIN HOW HC0
        have hlow : w.heap.size ≤ w3.heap.size := by have := Below.size HW.out; omega
        obtain ⟨g, c2, V, B, O, rfl, hc2, HQ⟩ : ∃ (g c2 : Nat) (V : Nat → Value) (B O : Nat → Nat), v = .slice (some ⟨g, 0, none⟩) l.length c2 ∧ l.length ≤ c2 ∧ Aside0 (Cu w4 w3.heap.size w4.heap.size g l V B O) := by
          rcases hR_ with ⟨e, _⟩ | ⟨_, g, c2, V, B, O, e1, e2, e3⟩
          · exact absurd e hlne
          · exact ⟨g, c2, V, B, O, e1, e2, ⟨e3⟩⟩
        clear hR_
        obtain ⟨c3, hv3, hc3⟩ := HQ.out.form i hil (by rw [HR.out]; simp)
        have cv := HQ.out.cell hil
        have dv := HQ.out.frozen i
        have c00 := HQ.out.num (i := i) (k := 0) (j := O i) hil (by rw [HR.out]; simp) rfl
        rw [hv3, HR.out, List.length_cons] at cv
        rw [HR.out, List.length_cons] at hc3
        rw [HR.out] at c00
        simp only [List.getD_cons_zero] at c00
        have HP : Aside0 (∀ (u : Value) (o : Nat), (xs ≠ [] → o = O i + 1 ∧ ∃ cc, u = .slice (some ⟨B i, o, none⟩) xs.length cc ∧ xs.length ≤ cc) → (xs = [] → ∃ A c, u = .slice A 0 c) → RR (w4.setCell ⟨g, i, none⟩ u) w.heap.size (w4.setCell ⟨g, i, none⟩ u).heap.size (.slice (some ⟨g, 0, none⟩) l.length c2) (l.set i xs)) := ⟨fun u o h1 h2 => by
          have hp := HQ.out.put hil xs u o (fun hne => ⟨by rw [HR.out]; simp, ⟨1, (h1 hne).1, fun k hk => by rw [HR.out]; exact ⟨by simp; omega, by rw [Nat.add_comm]; rfl⟩⟩, (h1 hne).2⟩) h2
          refine RR.lower (lo := w3.heap.size) (.inr ⟨by intro e; have := congrArg List.length e; rw [List.length_set] at this; exact hlne (List.length_eq_zero_iff.1 this), g, c2, (fun j => if j = i then u else V j), B, (fun j => if j = i then o else O j), by rw [List.length_set], by rw [List.length_set]; exact hc2, ?_⟩) hlow
          have e9 : (w4.setCell ⟨g, i, none⟩ u).heap.size = w4.heap.size := by simp
          rw [e9]
          exact hp⟩
        have hgl := HQ.out.outer
        have HW2 : Aside0 (∀ u, Below w.heap.size w (w4.setCell ⟨g, i, none⟩ u)) := ⟨fun u => HW.out.setCell (by show w.heap.size ≤ g; omega) u⟩
        have HX0 : Aside0 (xs = [] → xs.length = 0) := ⟨fun e => by rw [e]; rfl⟩
        have HX1 : Aside0 (xs.length = 0 → xs = []) := ⟨fun e => List.length_eq_zero_iff.1 e⟩
        clear hv3 HQ HR
        generalize xs.length = q at *
        by_cases hcc : c3 = 1
        · subst hcc
          obtain rfl : q = 0 := by omega
          have HXE := Aside0.mk (HX1.out rfl)
          go_wp2
          go_ret3
          exact ⟨_, rfl, HP.out _ 0 (fun h => absurd HXE.out h) (fun _ => ⟨_, _, rfl⟩), HW2.out _⟩
        · have hcb : ¬ (c3 - 1 = 0) := by omega
          have hc4 : 1 ≤ c3 := by omega
          have hc5 : q ≤ c3 - 1 := by omega
          go_wp2
          go_ret3
          exact ⟨_, rfl, HP.out _ (O i + 1) (fun _ => ⟨rfl, _, rfl, hc5⟩) (fun h => ⟨_, _, by rw [HX0.out h]⟩), HW2.out _⟩
    · rw [takeR_far hg hin]
      rw [decide_eq_false hin] at HIN
      clear hg hin HX
      go_enter Try.func17, Try.ntmps17
      go_wp2_with (fail)
      refine (HCU.out _ (Kd.C_below HL.out (by with_reducible repeat (first | exact HW.out | refine Blk.alloc ?_ _ | refine Rw.alloc ?_ _ | refine Arg.alloc ?_ _ | apply below_alloc | refine Blk.drew ?_ | refine Rw.drew ?_ | refine Arg.drew ?_ | apply below_drew | refine Blk.drewN ?_ _ | refine Rw.drewN ?_ _ | refine Arg.drewN ?_ _ | apply pw_below_drewN)))).mono ?_
      rintro e w1 ⟨rfl, hb⟩
      have hs_w1 := Below.size hb
      (try simp at hs_w1)
      replace HW : Aside0 (Below w.heap.size w w1) := ⟨below_step (by with_reducible repeat (first | exact HW.out | refine Blk.alloc ?_ _ | refine Rw.alloc ?_ _ | refine Arg.alloc ?_ _ | apply below_alloc | refine Blk.drew ?_ | refine Rw.drew ?_ | refine Arg.drew ?_ | apply below_drew | refine Blk.drewN ?_ _ | refine Rw.drewN ?_ _ | refine Arg.drewN ?_ _ | apply pw_below_drewN)) hb⟩
      clear hb
      go_wp2_with (fail)
      refine (HSZ.out _ (Kd.C_below HL.out (by with_reducible repeat (first | exact HW.out | refine Blk.alloc ?_ _ | refine Rw.alloc ?_ _ | refine Arg.alloc ?_ _ | apply below_alloc | refine Blk.drew ?_ | refine Rw.drew ?_ | refine Arg.drew ?_ | apply below_drew | refine Blk.drewN ?_ _ | refine Rw.drewN ?_ _ | refine Arg.drewN ?_ _ | apply pw_below_drewN)))).mono ?_
      rintro e w2 ⟨rfl, hb⟩
      have hs_w2 := Below.size hb
      (try simp at hs_w2)
      replace HW : Aside0 (Below w.heap.size w w2) := ⟨below_step (by with_reducible repeat (first | exact HW.out | refine Blk.alloc ?_ _ | refine Rw.alloc ?_ _ | refine Arg.alloc ?_ _ | apply below_alloc | refine Blk.drew ?_ | refine Rw.drew ?_ | refine Arg.drew ?_ | apply below_drew | refine Blk.drewN ?_ _ | refine Rw.drewN ?_ _ | refine Arg.drewN ?_ _ | apply pw_below_drewN)) hb⟩
      clear hb
      go_wp2_with (fail)
      refine (HIN.out _).mono ?_
      rintro e w3 ⟨rfl, hb⟩
      have hs_w3 := Below.size hb
      (try simp at hs_w3)
      replace HW : Aside0 (Below w.heap.size w w3) := ⟨below_step (by with_reducible repeat (first | exact HW.out | refine Blk.alloc ?_ _ | refine Rw.alloc ?_ _ | refine Arg.alloc ?_ _ | apply below_alloc | refine Blk.drew ?_ | refine Rw.drew ?_ | refine Arg.drew ?_ | apply below_drew | refine Blk.drewN ?_ _ | refine Rw.drewN ?_ _ | refine Arg.drewN ?_ _ | apply pw_below_drewN)) hb⟩
      clear hb
      go_wp2
      go_ret3
      exact ⟨_, rfl, RR.empty _ _ _ _ _, by repeat (first | exact HW.out | refine below_alloc ?_ _)⟩
set_option maxHeartbeats 8000000 in
set_option maxRecDepth 100000 in
theorem lawTk (A0 : Option Addr) (c0 : Nat) (l : List (List Int)) (a : Int) (R : List (List Int)) (s code : Int) (hl : l.length ≤ 1048576) (hf : l.flatten.length ≤ 1048576) (hc : l.length ≤ c0) (hRl : R.length ≤ 1048576) (hRf : R.flatten.length ≤ 1048576) (r : Int) (hr0 : 0 ≤ r) (hr : ∀ k, 1048577 < k → laws_szInt64SS.f k l 1048576 = some r) (hsp : (∀ (v0 : Value) (lo hi : Nat) (W : World), RR W lo hi v0 l → Calls Try.prog 16 #[v0, .int .i64 a] W fun e w' => ∃ v : Value, e = .returned (.tuple #[v, .int .i64 s, .int .i64 code]) ∧ RR w' W.heap.size w'.heap.size v R ∧ Below W.heap.size W w')) (him : (∀ (v0 : Value) (lo hi : Nat) (W : World), RR W lo hi v0 l → Calls Try.prog 17 #[v0, .int .i64 a] W fun e w' => ∃ v : Value, e = .returned (.tuple #[v, .int .i64 s, .int .i64 code]) ∧ RR w' W.heap.size w'.heap.size v R ∧ Below W.heap.size W w')) (w : World) (hL : (Kd.slice 2 (Kd.int .i64)).C w A0 l.length l) :
    Calls Try.prog 5 #[.slice A0 l.length c0, .int .i64 a] w fun e w' => e = .returned (.bool true) ∧ Below w.heap.size w w' := by
  have HL := Aside0.mk hL
  have HW : Aside0 (Below w.heap.size w w) := ⟨Below.refl _ _⟩
  have HSZ := Aside0.mk (fun W h => szB l A0 c0 hc r hr W h)
  have HTO := Aside0.mk (fun W h => toRR l A0 c0 hc hl hf W h)
  have HEX := Aside0.mk (fun v v' lo hi lo' hi' W h h' => eqRR l hl hf v v' lo hi lo' hi' W h h')
  have HER := Aside0.mk (fun v v' lo hi lo' hi' W h h' => eqRR R hRl hRf v v' lo hi lo' hi' W h h')
  have HMX := Aside0.mk (fun lo hi v W h => markRR_calls l 1 (by decide) (by decide) hl hf lo hi v W h)
  have HMR := Aside0.mk (fun lo hi v W h => markRR_calls R 1 (by decide) (by decide) hRl hRf lo hi v W h)
  have HHR := Aside0.mk (fun v lo hi W h => heldRR R 1 (by decide) (by decide) hRl hRf v lo hi W h)
  have HSP := Aside0.mk hsp
  have HIM := Aside0.mk him
  have q1 : 0 ≤ (1 : Int) + (l.flatten.length : Int) := by omega
  have q2 : 0 ≤ (1 : Int) + (R.flatten.length : Int) := by omega
  obtain ⟨k1, e1⟩ : ∃ k1, (1 : Int) + (l.flatten.length : Int) = k1 := ⟨_, rfl⟩
  obtain ⟨k2, e2⟩ : ∃ k2, (1 : Int) + (R.flatten.length : Int) = k2 := ⟨_, rfl⟩
  rw [e1] at HMX q1
  rw [e2] at HMR HHR q2
  clear e1 e2 hL hsp him hr
  go_enter Try.func5, Try.ntmps5
  go_wp2_with (fail)
  refine (HSZ.out _ (Kd.C_below HL.out HW.out)).mono ?_
  rintro e w1 ⟨rfl, hb⟩
  have hs_w1 := Below.size hb
  (try simp at hs_w1)
  replace HW : Aside0 (Below w.heap.size w w1) := ⟨below_step HW.out hb⟩
  clear hb
  go_wp2_with (fail)
  refine (HTO.out _ (Kd.C_below HL.out HW.out)).mono ?_
  rintro e w2 ⟨v1, rfl, hY_, hb⟩
  have hs_w2 := Below.size hb
  (try simp at hs_w2)
  replace HW : Aside0 (Below w.heap.size w w2) := ⟨below_step HW.out hb⟩
  clear hb
  have HX1 : Aside0 (RR w2 w1.heap.size w2.heap.size v1 l) := ⟨hY_⟩
  clear hY_
  go_wp2_with (fail)
  refine (HSP.out _ _ _ _ HX1.out).mono ?_
  rintro e w3 ⟨v2, rfl, hY_, hb⟩
  have hs_w3 := Below.size hb
  (try simp at hs_w3)
  replace HX1 : Aside0 (RR w3 w1.heap.size w2.heap.size v1 l) := ⟨RR.below HX1.out hb⟩
  replace HW : Aside0 (Below w.heap.size w w3) := ⟨below_step HW.out hb⟩
  clear hb
  have HR2 : Aside0 (RR w3 w2.heap.size w3.heap.size v2 R) := ⟨hY_⟩
  clear hY_
  go_wp2_with (fail)
  refine (HTO.out _ (Kd.C_below HL.out HW.out)).mono ?_
  rintro e w4 ⟨v3, rfl, hY_, hb⟩
  have hs_w4 := Below.size hb
  (try simp at hs_w4)
  replace HX1 : Aside0 (RR w4 w1.heap.size w2.heap.size v1 l) := ⟨RR.below HX1.out hb⟩
  replace HR2 : Aside0 (RR w4 w2.heap.size w3.heap.size v2 R) := ⟨RR.below HR2.out hb⟩
  replace HW : Aside0 (Below w.heap.size w w4) := ⟨below_step HW.out hb⟩
  clear hb
  have HX3 : Aside0 (RR w4 w3.heap.size w4.heap.size v3 l) := ⟨hY_⟩
  clear hY_
  go_wp2_with (fail)
  refine (HIM.out _ _ _ _ HX3.out).mono ?_
  rintro e w5 ⟨v4, rfl, hY_, hb⟩
  have hs_w5 := Below.size hb
  (try simp at hs_w5)
  replace HX1 : Aside0 (RR w5 w1.heap.size w2.heap.size v1 l) := ⟨RR.below HX1.out hb⟩
  replace HR2 : Aside0 (RR w5 w2.heap.size w3.heap.size v2 R) := ⟨RR.below HR2.out hb⟩
  replace HX3 : Aside0 (RR w5 w3.heap.size w4.heap.size v3 l) := ⟨RR.below HX3.out hb⟩
  replace HW : Aside0 (Below w.heap.size w w5) := ⟨below_step HW.out hb⟩
  clear hb
  have HR4 : Aside0 (RR w5 w4.heap.size w5.heap.size v4 R) := ⟨hY_⟩
  clear hY_
  go_wp2_with (fail)
  refine (HER.out _ _ _ _ _ _ _ HR4.out HR2.out).mono ?_
  rintro e w6 ⟨rfl, hb⟩
  have hs_w6 := Below.size hb
  (try simp at hs_w6)
  replace HX1 : Aside0 (RR w6 w1.heap.size w2.heap.size v1 l) := ⟨RR.below HX1.out hb⟩
  replace HR2 : Aside0 (RR w6 w2.heap.size w3.heap.size v2 R) := ⟨RR.below HR2.out hb⟩
  replace HX3 : Aside0 (RR w6 w3.heap.size w4.heap.size v3 l) := ⟨RR.below HX3.out hb⟩
  replace HR4 : Aside0 (RR w6 w4.heap.size w5.heap.size v4 R) := ⟨RR.below HR4.out hb⟩
  replace HW : Aside0 (Below w.heap.size w w6) := ⟨below_step HW.out hb⟩
  clear hb
  go_wp2_with (fail)
  refine (HTO.out _ (Kd.C_below HL.out HW.out)).mono ?_
  rintro e w7 ⟨v5, rfl, hY_, hb⟩
  have hs_w7 := Below.size hb
  (try simp at hs_w7)
  replace HX1 : Aside0 (RR w7 w1.heap.size w2.heap.size v1 l) := ⟨RR.below HX1.out hb⟩
  replace HR2 : Aside0 (RR w7 w2.heap.size w3.heap.size v2 R) := ⟨RR.below HR2.out hb⟩
  replace HX3 : Aside0 (RR w7 w3.heap.size w4.heap.size v3 l) := ⟨RR.below HX3.out hb⟩
  replace HR4 : Aside0 (RR w7 w4.heap.size w5.heap.size v4 R) := ⟨RR.below HR4.out hb⟩
  replace HW : Aside0 (Below w.heap.size w w7) := ⟨below_step HW.out hb⟩
  clear hb
  have HX5 : Aside0 (RR w7 w6.heap.size w7.heap.size v5 l) := ⟨hY_⟩
  clear hY_
  go_wp2_with (fail)
  refine (HEX.out _ _ _ _ _ _ _ HX3.out HX5.out).mono ?_
  rintro e w8 ⟨rfl, hb⟩
  have hs_w8 := Below.size hb
  (try simp at hs_w8)
  replace HX1 : Aside0 (RR w8 w1.heap.size w2.heap.size v1 l) := ⟨RR.below HX1.out hb⟩
  replace HR2 : Aside0 (RR w8 w2.heap.size w3.heap.size v2 R) := ⟨RR.below HR2.out hb⟩
  replace HX3 : Aside0 (RR w8 w3.heap.size w4.heap.size v3 l) := ⟨RR.below HX3.out hb⟩
  replace HR4 : Aside0 (RR w8 w4.heap.size w5.heap.size v4 R) := ⟨RR.below HR4.out hb⟩
  replace HX5 : Aside0 (RR w8 w6.heap.size w7.heap.size v5 l) := ⟨RR.below HX5.out hb⟩
  replace HW : Aside0 (Below w.heap.size w w8) := ⟨below_step HW.out hb⟩
  clear hb
  go_wp2_with (fail)
  refine (HMX.out _ _ _ _ HX3.out).mono ?_
  rintro e w9 ⟨rfl, hR_, hk_⟩
  have hs_w9 := hk_.below.size
  (try simp at hs_w9)
  replace HX1 : Aside0 (RR w9 w1.heap.size w2.heap.size v1 l) := ⟨RR.keep HX1.out hk_.below.size (fun k_ h1_ h2_ => hk_.keep k_ (by omega) (by omega))⟩
  replace HR2 : Aside0 (RR w9 w2.heap.size w3.heap.size v2 R) := ⟨RR.keep HR2.out hk_.below.size (fun k_ h1_ h2_ => hk_.keep k_ (by omega) (by omega))⟩
  replace HR4 : Aside0 (RR w9 w4.heap.size w5.heap.size v4 R) := ⟨RR.keep HR4.out hk_.below.size (fun k_ h1_ h2_ => hk_.keep k_ (by omega) (by omega))⟩
  replace HX5 : Aside0 (RR w9 w6.heap.size w7.heap.size v5 l) := ⟨RR.keep HX5.out hk_.below.size (fun k_ h1_ h2_ => hk_.keep k_ (by omega) (by omega))⟩
  replace HW : Aside0 (Below w.heap.size w w9) := ⟨KpI.below_ HW.out hk_ (by omega)⟩
  replace HX3 : Aside0 (RR w9 w3.heap.size w4.heap.size v3 (markR l 1)) := ⟨hR_⟩
  clear hR_ hk_
  go_wp2_with (fail)
  refine (HER.out _ _ _ _ _ _ _ HR4.out HR2.out).mono ?_
  rintro e w10 ⟨rfl, hb⟩
  have hs_w10 := Below.size hb
  (try simp at hs_w10)
  replace HX1 : Aside0 (RR w10 w1.heap.size w2.heap.size v1 l) := ⟨RR.below HX1.out hb⟩
  replace HR2 : Aside0 (RR w10 w2.heap.size w3.heap.size v2 R) := ⟨RR.below HR2.out hb⟩
  replace HX3 : Aside0 (RR w10 w3.heap.size w4.heap.size v3 (markR l 1)) := ⟨RR.below HX3.out hb⟩
  replace HR4 : Aside0 (RR w10 w4.heap.size w5.heap.size v4 R) := ⟨RR.below HR4.out hb⟩
  replace HX5 : Aside0 (RR w10 w6.heap.size w7.heap.size v5 l) := ⟨RR.below HX5.out hb⟩
  replace HW : Aside0 (Below w.heap.size w w10) := ⟨below_step HW.out hb⟩
  clear hb
  go_wp2_with (fail)
  refine (HMR.out _ _ _ _ HR4.out).mono ?_
  rintro e w11 ⟨rfl, hR_, hk_⟩
  have hs_w11 := hk_.below.size
  (try simp at hs_w11)
  replace HX1 : Aside0 (RR w11 w1.heap.size w2.heap.size v1 l) := ⟨RR.keep HX1.out hk_.below.size (fun k_ h1_ h2_ => hk_.keep k_ (by omega) (by omega))⟩
  replace HR2 : Aside0 (RR w11 w2.heap.size w3.heap.size v2 R) := ⟨RR.keep HR2.out hk_.below.size (fun k_ h1_ h2_ => hk_.keep k_ (by omega) (by omega))⟩
  replace HX3 : Aside0 (RR w11 w3.heap.size w4.heap.size v3 (markR l 1)) := ⟨RR.keep HX3.out hk_.below.size (fun k_ h1_ h2_ => hk_.keep k_ (by omega) (by omega))⟩
  replace HX5 : Aside0 (RR w11 w6.heap.size w7.heap.size v5 l) := ⟨RR.keep HX5.out hk_.below.size (fun k_ h1_ h2_ => hk_.keep k_ (by omega) (by omega))⟩
  replace HW : Aside0 (Below w.heap.size w w11) := ⟨KpI.below_ HW.out hk_ (by omega)⟩
  replace HR4 : Aside0 (RR w11 w4.heap.size w5.heap.size v4 (markR R 1)) := ⟨hR_⟩
  clear hR_ hk_
  go_wp2_with (fail)
  refine (HHR.out _ _ _ _ HR4.out).mono ?_
  rintro e w12 ⟨rfl, hb⟩
  have hs_w12 := Below.size hb
  (try simp at hs_w12)
  replace HX1 : Aside0 (RR w12 w1.heap.size w2.heap.size v1 l) := ⟨RR.below HX1.out hb⟩
  replace HR2 : Aside0 (RR w12 w2.heap.size w3.heap.size v2 R) := ⟨RR.below HR2.out hb⟩
  replace HX3 : Aside0 (RR w12 w3.heap.size w4.heap.size v3 (markR l 1)) := ⟨RR.below HX3.out hb⟩
  replace HR4 : Aside0 (RR w12 w4.heap.size w5.heap.size v4 (markR R 1)) := ⟨RR.below HR4.out hb⟩
  replace HX5 : Aside0 (RR w12 w6.heap.size w7.heap.size v5 l) := ⟨RR.below HX5.out hb⟩
  replace HW : Aside0 (Below w.heap.size w w12) := ⟨below_step HW.out hb⟩
  clear hb
  go_wp2_with (fail)
  refine (HTO.out _ (Kd.C_below HL.out HW.out)).mono ?_
  rintro e w13 ⟨v6, rfl, hY_, hb⟩
  have hs_w13 := Below.size hb
  (try simp at hs_w13)
  replace HX1 : Aside0 (RR w13 w1.heap.size w2.heap.size v1 l) := ⟨RR.below HX1.out hb⟩
  replace HR2 : Aside0 (RR w13 w2.heap.size w3.heap.size v2 R) := ⟨RR.below HR2.out hb⟩
  replace HX3 : Aside0 (RR w13 w3.heap.size w4.heap.size v3 (markR l 1)) := ⟨RR.below HX3.out hb⟩
  replace HR4 : Aside0 (RR w13 w4.heap.size w5.heap.size v4 (markR R 1)) := ⟨RR.below HR4.out hb⟩
  replace HX5 : Aside0 (RR w13 w6.heap.size w7.heap.size v5 l) := ⟨RR.below HX5.out hb⟩
  replace HW : Aside0 (Below w.heap.size w w13) := ⟨below_step HW.out hb⟩
  clear hb
  have HX6 : Aside0 (RR w13 w12.heap.size w13.heap.size v6 l) := ⟨hY_⟩
  clear hY_
  go_wp2_with (fail)
  refine (HIM.out _ _ _ _ HX6.out).mono ?_
  rintro e w14 ⟨v7, rfl, hY_, hb⟩
  have hs_w14 := Below.size hb
  (try simp at hs_w14)
  replace HX1 : Aside0 (RR w14 w1.heap.size w2.heap.size v1 l) := ⟨RR.below HX1.out hb⟩
  replace HR2 : Aside0 (RR w14 w2.heap.size w3.heap.size v2 R) := ⟨RR.below HR2.out hb⟩
  replace HX3 : Aside0 (RR w14 w3.heap.size w4.heap.size v3 (markR l 1)) := ⟨RR.below HX3.out hb⟩
  replace HR4 : Aside0 (RR w14 w4.heap.size w5.heap.size v4 (markR R 1)) := ⟨RR.below HR4.out hb⟩
  replace HX5 : Aside0 (RR w14 w6.heap.size w7.heap.size v5 l) := ⟨RR.below HX5.out hb⟩
  replace HX6 : Aside0 (RR w14 w12.heap.size w13.heap.size v6 l) := ⟨RR.below HX6.out hb⟩
  replace HW : Aside0 (Below w.heap.size w w14) := ⟨below_step HW.out hb⟩
  clear hb
  have HR7 : Aside0 (RR w14 w13.heap.size w14.heap.size v7 R) := ⟨hY_⟩
  clear hY_
  go_wp2_with (fail)
  refine (HER.out _ _ _ _ _ _ _ HR7.out HR2.out).mono ?_
  rintro e w15 ⟨rfl, hb⟩
  have hs_w15 := Below.size hb
  (try simp at hs_w15)
  replace HX1 : Aside0 (RR w15 w1.heap.size w2.heap.size v1 l) := ⟨RR.below HX1.out hb⟩
  replace HR2 : Aside0 (RR w15 w2.heap.size w3.heap.size v2 R) := ⟨RR.below HR2.out hb⟩
  replace HX3 : Aside0 (RR w15 w3.heap.size w4.heap.size v3 (markR l 1)) := ⟨RR.below HX3.out hb⟩
  replace HR4 : Aside0 (RR w15 w4.heap.size w5.heap.size v4 (markR R 1)) := ⟨RR.below HR4.out hb⟩
  replace HX5 : Aside0 (RR w15 w6.heap.size w7.heap.size v5 l) := ⟨RR.below HX5.out hb⟩
  replace HX6 : Aside0 (RR w15 w12.heap.size w13.heap.size v6 l) := ⟨RR.below HX6.out hb⟩
  replace HR7 : Aside0 (RR w15 w13.heap.size w14.heap.size v7 R) := ⟨RR.below HR7.out hb⟩
  replace HW : Aside0 (Below w.heap.size w w15) := ⟨below_step HW.out hb⟩
  clear hb
  go_wp2_with (fail)
  refine (HHR.out _ _ _ _ HR4.out).mono ?_
  rintro e w16 ⟨rfl, hb⟩
  have hs_w16 := Below.size hb
  (try simp at hs_w16)
  replace HX1 : Aside0 (RR w16 w1.heap.size w2.heap.size v1 l) := ⟨RR.below HX1.out hb⟩
  replace HR2 : Aside0 (RR w16 w2.heap.size w3.heap.size v2 R) := ⟨RR.below HR2.out hb⟩
  replace HX3 : Aside0 (RR w16 w3.heap.size w4.heap.size v3 (markR l 1)) := ⟨RR.below HX3.out hb⟩
  replace HR4 : Aside0 (RR w16 w4.heap.size w5.heap.size v4 (markR R 1)) := ⟨RR.below HR4.out hb⟩
  replace HX5 : Aside0 (RR w16 w6.heap.size w7.heap.size v5 l) := ⟨RR.below HX5.out hb⟩
  replace HX6 : Aside0 (RR w16 w12.heap.size w13.heap.size v6 l) := ⟨RR.below HX6.out hb⟩
  replace HR7 : Aside0 (RR w16 w13.heap.size w14.heap.size v7 R) := ⟨RR.below HR7.out hb⟩
  replace HW : Aside0 (Below w.heap.size w w16) := ⟨below_step HW.out hb⟩
  clear hb
  go_wp2
  go_ret
  exact ⟨rfl, HW.out⟩
set_option maxHeartbeats 8000000 in
set_option maxRecDepth 100000 in
theorem lawTk_big (A0 : Option Addr) (c0 : Nat) (l : List (List Int)) (a : Int) (hc : l.length ≤ c0) (r : Int) (hr0 : r < 0) (hr : ∀ k, 1048577 < k → laws_szInt64SS.f k l 1048576 = some r) (w : World) (hL : (Kd.slice 2 (Kd.int .i64)).C w A0 l.length l) :
    Calls Try.prog 5 #[.slice A0 l.length c0, .int .i64 a] w fun e w' => e = .returned (.bool true) ∧ Below w.heap.size w w' := by
  have HL := Aside0.mk hL
  have HW : Aside0 (Below w.heap.size w w) := ⟨Below.refl _ _⟩
  have HSZ := Aside0.mk (fun W h => szB l A0 c0 hc r hr W h)
  clear hL hr
  go_enter Try.func5, Try.ntmps5
  go_wp2_with (fail)
  refine (HSZ.out _ (Kd.C_below HL.out HW.out)).mono ?_
  rintro e w1 ⟨rfl, hb⟩
  have hs_w1 := Below.size hb
  (try simp at hs_w1)
  replace HW : Aside0 (Below w.heap.size w w1) := ⟨below_step HW.out hb⟩
  clear hb
  go_wp2
  go_ret
  exact ⟨rfl, HW.out⟩
theorem lawTk_calls (A0 : Option Addr) (c0 : Nat) (l : List (List Int)) (a : Int) (hc : l.length ≤ c0) (w : World) (hL : (Kd.slice 2 (Kd.int .i64)).C w A0 l.length l) :
    Calls Try.prog 5 #[.slice A0 l.length c0, .int .i64 a] w fun e w' => e = .returned (.bool true) ∧ Below w.heap.size w w' := by
  obtain ⟨r, h1, h2⟩ := szSS_f (Kd.C_max hL) (rows_max hL)
  by_cases hn : 0 ≤ r
  · obtain ⟨hl, hf⟩ := h2 hn
    obtain ⟨hRl, hRf⟩ := takeR_small (a := a) hl hf
    exact lawTk A0 c0 l a (takeR l a).1 (takeR l a).2.1 (takeR l a).2.2 hl hf hc hRl hRf r hn h1 (fun v0 lo hi W h => specTake_rr l a hl hf lo hi v0 W h) (fun v0 lo hi W h => implTake_rr l a hl hf lo hi v0 W h) w hL
  · exact lawTk_big A0 c0 l a hc r (by omega) h1 w hL
end Go.Proofs.Ytkjligoamechkaa.X
