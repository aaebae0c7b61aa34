/- Contracts of functions, and plain facts: what each call answers, and what it leaves as it was. -/
import Derived.Test.YtkjligoamechkaaOld
set_option linter.unusedVariables false
set_option linter.unusedSimpArgs false
namespace Go.Proofs.Ytkjligoamechkaa.X
open Go.RowKit Go.Proofs.YtkjligoamechkaaW.PrintWords Go.Proofs.YtkjligoamechkaaW.PrintLast Go.Proofs.YtkjligoamechkaaW.PrintMore
attribute [local go_sem] max2_int min2_int max_two min_two max_three min_three max_four min_four
set_option maxHeartbeats 8000000 in
set_option maxRecDepth 100000 in
theorem specOld_go (l : List (List Int)) (hl : l.length ≤ 1048576) (hf : l.flatten.length ≤ 1048576) (lo hi : Nat) (v0 : Value) (w : World) (hX : RR w lo hi v0 l) (hg : good0 l 0 = true) (hlne : l ≠ []) (a : Nat) (ha : (a : Int) ≤ 9223372036854775807) :
    Calls Try.prog 20 #[v0, .int .i64 (a : Int)] w fun e w' => ∃ u v : Value, e = .returned (.tuple #[u, v, .int .i64 (oldR l (a : Int)).2.2]) ∧ Ol w w' u v (oldR l (a : Int)).1 (oldR l (a : Int)).2.1 := by
  obtain ⟨A, c, rfl, hc, hC⟩ := hX.reads hl (row_small hf)
  have HL := Aside0.mk hC
  have HW : Aside0 (Below w.heap.size w w) := ⟨Below.refl _ _⟩
  have HCU := Aside0.mk (fun W h => cupS l hl hf A c hc W h)
  obtain ⟨i0, hi_, hz0, hz1, hz2⟩ := info_parts int64Info
  have HI := Aside0.mk (And.intro hi_ (And.intro hz0 (And.intro hz1 hz2)))
  have HOW := Aside0.mk (fun W h => ownRR l hl hf A c hc W h)
  have hpos : 0 < l.length := List.length_pos_iff.2 hlne
  have hnn : ¬ (a : Int) < 0 := by omega
  rw [hg] at HCU
  clear hC hX hi_ hz0 hz1 hz2
  go_enter Try.func20, Try.ntmps20
  go_wp2_with (fail)
  refine (HCU.out _ (Kd.C_below HL.out (by with_reducible repeat (first | exact HW.out | refine Blk.alloc ?_ _ | refine Rw.alloc ?_ _ | refine Arg.alloc ?_ _ | apply below_alloc | refine Blk.drew ?_ | refine Rw.drew ?_ | refine Arg.drew ?_ | apply below_drew | refine Blk.drewN ?_ _ | refine Rw.drewN ?_ _ | refine Arg.drewN ?_ _ | apply pw_below_drewN)))).mono ?_
  rintro e w1 ⟨rfl, hb⟩
  have hs_w1 := Below.size hb
  (try simp at hs_w1)
  replace HW : Aside0 (Below w.heap.size w w1) := ⟨below_step (by with_reducible repeat (first | exact HW.out | refine Blk.alloc ?_ _ | refine Rw.alloc ?_ _ | refine Arg.alloc ?_ _ | apply below_alloc | refine Blk.drew ?_ | refine Rw.drew ?_ | refine Arg.drew ?_ | apply below_drew | refine Blk.drewN ?_ _ | refine Rw.drewN ?_ _ | refine Arg.drewN ?_ _ | apply pw_below_drewN)) hb⟩
  clear hb
  go_wp2_with (fail)
  have HV0 := Aside0.mk (World.ownsRow_made w1 (base := w.heap.size) (e := 2) (size := 1) #[] 0 (Below.size HW.out) (by decide) (by rfl))
  refine (HOW.out _ (Kd.C_below HL.out (by with_reducible repeat (first | exact HW.out | refine Blk.alloc ?_ _ | refine Rw.alloc ?_ _ | refine Arg.alloc ?_ _ | apply below_alloc | refine Blk.drew ?_ | refine Rw.drew ?_ | refine Arg.drew ?_ | apply below_drew | refine Blk.drewN ?_ _ | refine Rw.drewN ?_ _ | refine Arg.drewN ?_ _ | apply pw_below_drewN)))).mono ?_
  rintro e w2 ⟨v, rfl, hR_, hb⟩
  have hsz0 := Below.size HW.out
  have hbs := Below.size hb
  simp at hbs
  replace HV0 := Aside0.mk (pw_own_below HV0.out hb)
  have HW2 : Aside0 (Below w.heap.size w w2) := ⟨below_step (below_alloc HW.out _) hb⟩
  obtain ⟨lo1, hlo1⟩ : ∃ q, w1.heap.size + 1 = q := ⟨_, rfl⟩
  have hR1 : RR w2 lo1 w2.heap.size v l := by rw [← hlo1]; simpa using hR_
  obtain ⟨g, c2, V, B, O, rfl, hc2, HQ⟩ : ∃ (g c2 : Nat) (V : Nat → Value) (B O : Nat → Nat), v = .slice (some ⟨g, 0, none⟩) l.length c2 ∧ l.length ≤ c2 ∧ Aside0 (Cu w2 lo1 w2.heap.size g l V B O) := by
    rcases hR1 with ⟨e, _⟩ | ⟨_, g, c2, V, B, O, e1, e2, e3⟩
    · exact absurd e hlne
    · exact ⟨g, c2, V, B, O, e1, e2, ⟨e3⟩⟩
  obtain ⟨hi1, hhi1⟩ : ∃ q, w2.heap.size = q := ⟨_, rfl⟩
  rw [hhi1] at HQ
  have HK0 : Aside0 (Tk w w2 lo1 hi1 g (.slice (some ⟨w1.heap.size, 0, none⟩) 0 0) 0 (oldT l 0) (oldL l 0) V B O) := ⟨⟨HQ.out, HV0.out, fun q hq => by simp [Value.ownBlock] at hq; omega, by omega, HW2.out⟩⟩
  clear hR1 hR_ hb HQ HV0 HW2 HW HL HCU HOW hbs
  go_wp2
  go_loopw [7] (fun v7 w' => ∃ (k : Nat) (A7 : Option Addr) (c7 : Nat) (V : Nat → Value) (B O : Nat → Nat), k ≤ a ∧ k ≤ l.flatten.length ∧ v7 = .slice A7 k c7 ∧ Aside0 (Tk w w' lo1 hi1 g (.slice A7 k c7) k (oldT l k) (oldL l k) V B O)) (fun v7 _ => a - lenOf v7)
  case atStart => exact ⟨0, _, _, V, B, O, by omega, by omega, rfl, HK0⟩
  case round =>
    clear HK0
    obtain ⟨k, A7, c7, V, B, O, hk, hkf, rfl, HK⟩ := hrel
    obtain ⟨wo, rfl⟩ : ∃ wo : World, wo = wr := ⟨_, rfl⟩
    have hLl := oldL_len l k
    have hTl := oldT_len l k
    have hLf := oldL_flat (l := l) k hkf
    by_cases hlt : k < a
    · have hlt9 : (k : Int) < (a : Int) := by omega
      have HLT : Aside0 (oldT l (k + 1) = oldT l k ++ [((oldL l k).getD (mostR (oldL l k)) []).getD 0 0]) := ⟨rfl⟩
      have HLL : Aside0 (oldL l (k + 1) = (oldL l k).set (mostR (oldL l k)) (((oldL l k).getD (mostR (oldL l k)) []).drop 1)) := ⟨rfl⟩
      have hml : mostR (oldL l k) < (oldL l k).length := mostR_lt (by omega)
      have HM := Aside0.mk (fun W h => mostB (oldL l k) (by omega) (by omega) (some ⟨g, 0, none⟩) c2 (by omega) W h)
      have HCC := Aside0.mk (HK.out.rows.C (by omega) (row_small (by omega)))
      rw [hLl] at HM HCC
      have HNE : Aside0 ((oldL l k).getD (mostR (oldL l k)) [] = [] → (l.flatten.length : Int) < a) := ⟨fun e => by
        rcases Nat.eq_zero_or_pos (oldL l k).flatten.length with h0 | h0
        · omega
        · exact absurd e (most_some h0)⟩
      have HFK : Aside0 ((oldL l k).getD (mostR (oldL l k)) [] ≠ [] → k < l.flatten.length) := ⟨fun e => by
        rcases Nat.eq_zero_or_pos (oldL l k).flatten.length with h0 | h0
        · exact absurd (most_none h0) e
        · omega⟩
      generalize mostR (oldL l k) = m at *
      generalize hL : oldL l k = Lk at *
      generalize hT : oldT l k = Tk1 at *
      have hml9 : (m : Int) < (l.length : Int) := by omega
      have hmt : (m : Int).toNat = m := rfl
      obtain ⟨A1, c1, hv1, hv2⟩ := HK.out.rows.val hml
      have HC0 : Aside0 (wo.cell? ⟨g, m, none⟩ = some (.slice A1 (Lk.getD m []).length c1)) := ⟨by rw [HK.out.rows.cell hml, hv1]⟩
      cases hrow : Lk.getD m []
      · rw [hrow, List.length_nil] at HC0
        have hfar := HNE.out hrow
        clear HFK HNE
        go_wp2_with (go_at_call 47; refine (HM.out _ HCC.out).mono ?_; rintro e w1 ⟨rfl, hb⟩; have HWE := Aside0.mk (below_step HK.out.new hb); have c0 := pw_cell_below hb HC0.out; clear hb)
        go_ret3
        rw [oldR_far hg (by omega) hfar]
        exact ⟨_, _, rfl, Ol.made _ _ HWE.out⟩
      · rename_i x ys
        have hkf2 := HFK.out (by rw [hrow]; simp)
        rw [hrow] at HLT HLL
        simp only [List.getD_cons_zero, List.drop_succ_cons, List.drop_zero] at HLT HLL
        obtain ⟨c3, hv3, hc3⟩ := HK.out.rows.form m hml (by rw [hrow]; simp)
        rw [hrow, List.length_cons] at hv3 hc3
        have c0 := HK.out.rows.cell hml
        have c00 := HK.out.rows.num (i := m) (k := 0) (j := O m) hml (by rw [hrow]; simp) rfl
        rw [hv3] at c0
        rw [hrow] at c00
        simp only [List.getD_cons_zero] at c00
        have HROW := Aside0.mk hrow
        clear HNE HFK HC0 hv1 hv2 hrow
        have HY0 : Aside0 (ys = [] → ys.length = 0) := ⟨fun e => by rw [e]; rfl⟩
        have HY1 : Aside0 (ys.length = 0 → ys = []) := ⟨fun e => List.length_eq_zero_iff.1 e⟩
        have HCUT : Aside0 (∀ (W : World) (k' : Nat) (v' : Value) (T' : List Int), Tk w W lo1 hi1 g v' k' T' Lk V B O → ∀ (u : Value) (o : Nat), (ys ≠ [] → o = O m + 1 ∧ ∃ cc, u = .slice (some ⟨B m, o, none⟩) ys.length cc ∧ ys.length ≤ cc) → (ys = [] → ∃ A c, u = .slice A 0 c) → ∃ V' B' O', Tk w (W.setCell ⟨g, m, none⟩ u) lo1 hi1 g v' k' T' (oldL l (k + 1)) V' B' O') := ⟨fun W k' v' T' hK u o h1 h2 => by rw [HLL.out]; exact ⟨_, _, _, hK.cut hml HROW.out u o h1 h2⟩⟩
        generalize ys.length = q at *
        by_cases hcc : c3 = 1
        · subst hcc
          obtain rfl : q = 0 := by omega
          have HXE := Aside0.mk (HY1.out rfl)
          go_wp2_with (first | (go_at_call 47; refine (HM.out _ HCC.out).mono ?_; rintro e W1 ⟨rfl, hb⟩; have HKA := Aside0.mk ((HK.out.below hb).alloc (.cells #[.int .i64 x] 2)); replace c0 := pw_cell_below hb c0; replace c00 := pw_cell_below hb c00; clear hb HK) | (refine wpList_append_lies _ (by rfl) _ _ 32 (by rfl) w.heap.size 2 i0 _ 1 8 Try.underlying32 HI.out.1 HI.out.2.1 HI.out.2.2.1 HI.out.2.2.2 (by rfl) (by decide) _ k (nums .i64 Tk1) (by rfl) HKA.out.ints ⟨W1.heap.size, 0, none⟩ 1 1 [.int .i64 x] (by rfl) (by rfl) (by intro j u hj; match j, hj with | 0, hj => (injection hj with hj; subst hj; exact (Blk.new W1 _ [.int .i64 x]).cell 0 rfl) | (j + 1), hj => (simp at hj)) (by intro u hu; simp at hu; subst hu; rfl) (by decide) (by unfold maxLen; omega) (by omega) (by have := Below.size HKA.out.new; omega) _ rfl ?_; intro g' cap' w3 hown hgrow hat hlt'; have HK3 := Aside0.mk (HKA.out.app rfl hown hgrow hat rfl); clear hown hgrow hat hlt' HKA; have cv3 := HK3.out.rows.cell hml; have dv3 := HK3.out.rows.frozen m; rw [hv3] at cv3))
          obtain ⟨V', B', O', hfin⟩ := HCUT.out _ _ _ _ HK3.out _ 0 (fun h => absurd HXE.out h) (fun _ => ⟨_, _, rfl⟩)
          go_roundw
          case rel => exact ⟨k + 1, _, _, V', B', O', by omega, by omega, by go_num, ⟨by rw [HLT.out]; exact hfin⟩⟩
          case measure => simp [lenOf] <;> omega
        · have hcb : ¬ (c3 - 1 = 0) := by omega
          have hc4 : 1 ≤ c3 := by omega
          have hc5 : q ≤ c3 - 1 := by omega
          have hq1 : (1 : Int) ≤ (q : Int) + 1 := by omega
          go_wp2_with (first | (go_at_call 47; refine (HM.out _ HCC.out).mono ?_; rintro e W1 ⟨rfl, hb⟩; have HKA := Aside0.mk ((HK.out.below hb).alloc (.cells #[.int .i64 x] 2)); replace c0 := pw_cell_below hb c0; replace c00 := pw_cell_below hb c00; clear hb HK) | (refine wpList_append_lies _ (by rfl) _ _ 32 (by rfl) w.heap.size 2 i0 _ 1 8 Try.underlying32 HI.out.1 HI.out.2.1 HI.out.2.2.1 HI.out.2.2.2 (by rfl) (by decide) _ k (nums .i64 Tk1) (by rfl) HKA.out.ints ⟨W1.heap.size, 0, none⟩ 1 1 [.int .i64 x] (by rfl) (by rfl) (by intro j u hj; match j, hj with | 0, hj => (injection hj with hj; subst hj; exact (Blk.new W1 _ [.int .i64 x]).cell 0 rfl) | (j + 1), hj => (simp at hj)) (by intro u hu; simp at hu; subst hu; rfl) (by decide) (by unfold maxLen; omega) (by omega) (by have := Below.size HKA.out.new; omega) _ rfl ?_; intro g' cap' w3 hown hgrow hat hlt'; have HK3 := Aside0.mk (HKA.out.app rfl hown hgrow hat rfl); clear hown hgrow hat hlt' HKA; have cv3 := HK3.out.rows.cell hml; have dv3 := HK3.out.rows.frozen m; rw [hv3] at cv3))
          obtain ⟨V', B', O', hfin⟩ := HCUT.out _ _ _ _ HK3.out _ (O m + 1) (fun _ => ⟨rfl, _, rfl, hc5⟩) (fun h => ⟨_, _, by rw [HY0.out h]⟩)
          go_roundw
          case rel => exact ⟨k + 1, _, _, V', B', O', by omega, by omega, by go_num, ⟨by rw [HLT.out]; exact hfin⟩⟩
          case measure => simp [lenOf] <;> omega
    · obtain rfl : k = a := by omega
      have HFE := Aside0.mk (HK.out.ol hTl (by intro e; rw [e] at hLl; exact hlne (List.length_eq_zero_iff.1 hLl.symm)) hLl hc2)
      go_wp2
      go_ret3
      rw [oldR_yes hg hkf]
      exact ⟨_, _, rfl, HFE.out⟩
set_option maxHeartbeats 8000000 in
set_option maxRecDepth 100000 in
theorem implOld_go (l : List (List Int)) (hl : l.length ≤ 1048576) (hf : l.flatten.length ≤ 1048576) (lo hi : Nat) (v0 : Value) (w : World) (hX : RR w lo hi v0 l) (hg : good0 l 0 = true) (hlne : l ≠ []) (a : Nat) (ha : a ≤ l.flatten.length) :
    Calls Try.prog 21 #[v0, .int .i64 (a : Int)] w fun e w' => ∃ u v : Value, e = .returned (.tuple #[u, v, .int .i64 (oldR l (a : Int)).2.2]) ∧ Ol w w' u v (oldR l (a : Int)).1 (oldR l (a : Int)).2.1 := by
  obtain ⟨A, c, rfl, hc, hC⟩ := hX.reads hl (row_small hf)
  have HL := Aside0.mk hC
  have HW : Aside0 (Below w.heap.size w w) := ⟨Below.refl _ _⟩
  have HCU := Aside0.mk (fun W h => cupI l hf A c hc W h)
  obtain ⟨i0, hi_, hz0, hz1, hz2⟩ := info_parts int64Info
  have HI := Aside0.mk (And.intro hi_ (And.intro hz0 (And.intro hz1 hz2)))
  have HOW := Aside0.mk (fun W h => copyRR l hl hf A c hc W h)
  have HCN := Aside0.mk (fun W h => concatB l hf A c hc W h)
  have HSZ := Aside0.mk (fun A c hc W h => sizeIB l.flatten A c hc W h)
  have hng : ¬ (l.flatten.length : Int) < (a : Int) := by omega
  obtain ⟨fl, hfl⟩ : ∃ fl, l.flatten.length = fl := ⟨_, rfl⟩
  rw [hfl] at HCN HSZ hng
  have HFL := Aside0.mk hfl
  clear hfl
  have hpos : 0 < l.length := List.length_pos_iff.2 hlne
  have hnn : ¬ (a : Int) < 0 := by omega
  rw [hg] at HCU
  clear hC hX hi_ hz0 hz1 hz2
  go_enter Try.func21, Try.ntmps21
  go_wp2_with (fail)
  refine (HCU.out _ (Kd.C_below HL.out (by with_reducible repeat (first | exact HW.out | refine Blk.alloc ?_ _ | refine Rw.alloc ?_ _ | refine Arg.alloc ?_ _ | apply below_alloc | refine Blk.drew ?_ | refine Rw.drew ?_ | refine Arg.drew ?_ | apply below_drew | refine Blk.drewN ?_ _ | refine Rw.drewN ?_ _ | refine Arg.drewN ?_ _ | apply pw_below_drewN)))).mono ?_
  rintro e w1 ⟨rfl, hb⟩
  have hs_w1 := Below.size hb
  (try simp at hs_w1)
  replace HW : Aside0 (Below w.heap.size w w1) := ⟨below_step (by with_reducible repeat (first | exact HW.out | refine Blk.alloc ?_ _ | refine Rw.alloc ?_ _ | refine Arg.alloc ?_ _ | apply below_alloc | refine Blk.drew ?_ | refine Rw.drew ?_ | refine Arg.drew ?_ | apply below_drew | refine Blk.drewN ?_ _ | refine Rw.drewN ?_ _ | refine Arg.drewN ?_ _ | apply pw_below_drewN)) hb⟩
  clear hb
  go_wp2_with (fail)
  refine (HCN.out _ (Kd.C_below HL.out (by with_reducible repeat (first | exact HW.out | refine Blk.alloc ?_ _ | refine Rw.alloc ?_ _ | refine Arg.alloc ?_ _ | apply below_alloc | refine Blk.drew ?_ | refine Rw.drew ?_ | refine Arg.drew ?_ | apply below_drew | refine Blk.drewN ?_ _ | refine Rw.drewN ?_ _ | refine Arg.drewN ?_ _ | apply pw_below_drewN)))).mono ?_
  rintro e w2 ⟨A5, c5, rfl, hc5', hC5, hb⟩
  have HC5 := Aside0.mk hC5
  replace HW : Aside0 (Below w.heap.size w w2) := ⟨below_step HW.out hb⟩
  clear hb hC5
  go_wp2_with (fail)
  refine (HSZ.out A5 c5 hc5' _ HC5.out).mono ?_
  rintro e w3 ⟨rfl, hb⟩
  have hs_w3 := Below.size hb
  (try simp at hs_w3)
  replace HW : Aside0 (Below w.heap.size w w3) := ⟨below_step (by with_reducible repeat (first | exact HW.out | refine Blk.alloc ?_ _ | refine Rw.alloc ?_ _ | refine Arg.alloc ?_ _ | apply below_alloc | refine Blk.drew ?_ | refine Rw.drew ?_ | refine Arg.drew ?_ | apply below_drew | refine Blk.drewN ?_ _ | refine Rw.drewN ?_ _ | refine Arg.drewN ?_ _ | apply pw_below_drewN)) hb⟩
  clear hb
  clear HC5 hc5'
  go_wp2_with (fail)
  clear HCN HSZ
  have hfl := HFL.out
  clear HFL
  have HV0 := Aside0.mk (World.ownsRow_made w3 (base := w.heap.size) (e := 2) (size := 1) #[] 0 (Below.size HW.out) (by decide) (by rfl))
  refine (HOW.out _ (Kd.C_below HL.out (by with_reducible repeat (first | exact HW.out | refine Blk.alloc ?_ _ | refine Rw.alloc ?_ _ | refine Arg.alloc ?_ _ | apply below_alloc | refine Blk.drew ?_ | refine Rw.drew ?_ | refine Arg.drew ?_ | apply below_drew | refine Blk.drewN ?_ _ | refine Rw.drewN ?_ _ | refine Arg.drewN ?_ _ | apply pw_below_drewN)))).mono ?_
  rintro e w9z ⟨v, rfl, hR_, hb⟩
  have hsz0 := Below.size HW.out
  have hbs := Below.size hb
  simp at hbs
  replace HV0 := Aside0.mk (pw_own_below HV0.out hb)
  have HW2 : Aside0 (Below w.heap.size w w9z) := ⟨below_step (below_alloc HW.out _) hb⟩
  obtain ⟨lo1, hlo1⟩ : ∃ q, w3.heap.size + 1 = q := ⟨_, rfl⟩
  have hR1 : RR w9z lo1 w9z.heap.size v l := by rw [← hlo1]; simpa using hR_
  obtain ⟨g, c2, V, B, O, rfl, hc2, HQ⟩ : ∃ (g c2 : Nat) (V : Nat → Value) (B O : Nat → Nat), v = .slice (some ⟨g, 0, none⟩) l.length c2 ∧ l.length ≤ c2 ∧ Aside0 (Cu w9z lo1 w9z.heap.size g l V B O) := by
    rcases hR1 with ⟨e, _⟩ | ⟨_, g, c2, V, B, O, e1, e2, e3⟩
    · exact absurd e hlne
    · exact ⟨g, c2, V, B, O, e1, e2, ⟨e3⟩⟩
  obtain ⟨hi1, hhi1⟩ : ∃ q, w9z.heap.size = q := ⟨_, rfl⟩
  rw [hhi1] at HQ
  have HK0 : Aside0 (Tk w w9z lo1 hi1 g (.slice (some ⟨w3.heap.size, 0, none⟩) 0 0) 0 (oldT l 0) (oldL l 0) V B O) := ⟨⟨HQ.out, HV0.out, fun q hq => by simp [Value.ownBlock] at hq; omega, by omega, HW2.out⟩⟩
  clear hR1 hR_ hb HQ HV0 HW2 HW HL HCU HOW hbs
  go_wp2
  go_loopw [7, 27] (fun v7 v27 w' => ∃ (k : Nat) (A7 : Option Addr) (c7 : Nat) (V : Nat → Value) (B O : Nat → Nat), k ≤ a ∧ k ≤ l.flatten.length ∧ v7 = .slice A7 k c7 ∧ v27 = .int .i64 k ∧ Aside0 (Tk w w' lo1 hi1 g (.slice A7 k c7) k (oldT l k) (oldL l k) V B O)) (fun _ v27 _ => a - (intOf v27).toNat)
  case atStart => exact ⟨0, _, _, V, B, O, by omega, by omega, rfl, rfl, HK0⟩
  case round =>
    clear HK0
    obtain ⟨k, A7, c7, V, B, O, hk, hkf, rfl, rfl, HK⟩ := hrel
    obtain ⟨wo, rfl⟩ : ∃ wo : World, wo = wr := ⟨_, rfl⟩
    have hk9 : IntKind.i64.wrap ((k : Int) + 1) = (k : Int) + 1 := IntWalk.i64_in _ ⟨by omega, by omega⟩
    have hLl := oldL_len l k
    have hTl := oldT_len l k
    have hLf := oldL_flat (l := l) k hkf
    by_cases hlt : k < a
    · have hlt9 : (k : Int) < (a : Int) := by omega
      have HLT : Aside0 (oldT l (k + 1) = oldT l k ++ [((oldL l k).getD (mostR (oldL l k)) []).getD 0 0]) := ⟨rfl⟩
      have HLL : Aside0 (oldL l (k + 1) = (oldL l k).set (mostR (oldL l k)) (((oldL l k).getD (mostR (oldL l k)) []).drop 1)) := ⟨rfl⟩
      have hml : mostR (oldL l k) < (oldL l k).length := mostR_lt (by omega)
      have HM := Aside0.mk (fun W h => mostIB (oldL l k) (by omega) (by omega) (some ⟨g, 0, none⟩) c2 (by omega) W h)
      have HCC := Aside0.mk (HK.out.rows.C (by omega) (row_small (by omega)))
      rw [hLl] at HM HCC
      have HNE : Aside0 ((oldL l k).getD (mostR (oldL l k)) [] = [] → (l.flatten.length : Int) < a) := ⟨fun e => by
        rcases Nat.eq_zero_or_pos (oldL l k).flatten.length with h0 | h0
        · omega
        · exact absurd e (most_some h0)⟩
      have HFK : Aside0 ((oldL l k).getD (mostR (oldL l k)) [] ≠ [] → k < l.flatten.length) := ⟨fun e => by
        rcases Nat.eq_zero_or_pos (oldL l k).flatten.length with h0 | h0
        · exact absurd (most_none h0) e
        · omega⟩
      generalize mostR (oldL l k) = m at *
      generalize hL : oldL l k = Lk at *
      generalize hT : oldT l k = Tk1 at *
      have hml9 : (m : Int) < (l.length : Int) := by omega
      have hmt : (m : Int).toNat = m := rfl
      obtain ⟨A1, c1, hv1, hv2⟩ := HK.out.rows.val hml
      have HC0 : Aside0 (wo.cell? ⟨g, m, none⟩ = some (.slice A1 (Lk.getD m []).length c1)) := ⟨by rw [HK.out.rows.cell hml, hv1]⟩
      cases hrow : Lk.getD m []
      · exact absurd (HNE.out hrow) (by omega)
      · rename_i x ys
        have hkf2 := HFK.out (by rw [hrow]; simp)
        rw [hrow] at HLT HLL
        simp only [List.getD_cons_zero, List.drop_succ_cons, List.drop_zero] at HLT HLL
        obtain ⟨c3, hv3, hc3⟩ := HK.out.rows.form m hml (by rw [hrow]; simp)
        rw [hrow, List.length_cons] at hv3 hc3
        have c0 := HK.out.rows.cell hml
        have c00 := HK.out.rows.num (i := m) (k := 0) (j := O m) hml (by rw [hrow]; simp) rfl
        rw [hv3] at c0
        rw [hrow] at c00
        simp only [List.getD_cons_zero] at c00
        have HROW := Aside0.mk hrow
        clear HNE HFK HC0 hv1 hv2 hrow
        have HY0 : Aside0 (ys = [] → ys.length = 0) := ⟨fun e => by rw [e]; rfl⟩
        have HY1 : Aside0 (ys.length = 0 → ys = []) := ⟨fun e => List.length_eq_zero_iff.1 e⟩
        have HCUT : Aside0 (∀ (W : World) (k' : Nat) (v' : Value) (T' : List Int), Tk w W lo1 hi1 g v' k' T' Lk V B O → ∀ (u : Value) (o : Nat), (ys ≠ [] → o = O m + 1 ∧ ∃ cc, u = .slice (some ⟨B m, o, none⟩) ys.length cc ∧ ys.length ≤ cc) → (ys = [] → ∃ A c, u = .slice A 0 c) → ∃ V' B' O', Tk w (W.setCell ⟨g, m, none⟩ u) lo1 hi1 g v' k' T' (oldL l (k + 1)) V' B' O') := ⟨fun W k' v' T' hK u o h1 h2 => by rw [HLL.out]; exact ⟨_, _, _, hK.cut hml HROW.out u o h1 h2⟩⟩
        have HCE : Aside0 (∀ (W : World) (k' : Nat) (v' : Value) (T' : List Int), Tk w W lo1 hi1 g v' k' T' Lk V B O → W.cell? ⟨g, m, none⟩ = some (.slice (some ⟨B m, O m, none⟩) (ys.length + 1) c3) ∧ W.cell? ⟨B m, O m, none⟩ = some (.int .i64 x)) := ⟨fun W k' v' T' hK => by
          have e1 := hK.rows.cell hml
          have e2 := hK.rows.num (i := m) (k := 0) (j := O m) hml (by rw [HROW.out]; simp) rfl
          rw [hv3] at e1
          rw [HROW.out] at e2
          simp only [List.getD_cons_zero] at e2
          exact ⟨e1, e2⟩⟩
        generalize ys.length = q at *
        by_cases hcc : c3 = 1
        · subst hcc
          obtain rfl : q = 0 := by omega
          have HXE := Aside0.mk (HY1.out rfl)
          go_wp2_with (go_at_call 49; refine (HM.out _ HCC.out).mono ?_; rintro e W1 ⟨rfl, hb⟩; have HKW := Aside0.mk (HK.out.below hb); replace c0 := (HCE.out _ _ _ _ HKW.out.drew).1; replace c00 := (HCE.out _ _ _ _ HKW.out.drew).2; clear hb HK)
          refine start_ (n := 19) (S := (fun w' => w'.cell? ⟨g, m, none⟩ = some (.slice (some ⟨B m, O m, none⟩) (0 + 1) 1) ∧ w'.cell? ⟨B m, O m, none⟩ = some (.int .i64 x))) (ds := [18]) #[false, false, false, false, false, false, false, false, false, false, false, false, false, false, false, false, false, false, false] (by kernel_rfl) rfl rfl ⟨c0, c00⟩ (fun hHeld => ?_)
          obtain ⟨w9, hw9⟩ : ∃ w9, W1.drew = w9 := ⟨_, rfl⟩
          have HK9 : Aside0 (Tk w w9 lo1 hi1 g (.slice A7 k c7) k Tk1 Lk V B O) := ⟨by subst hw9; exact HKW.out.drew⟩
          rw [hw9] at hHeld ⊢
          clear hw9 HKW c0 c00
          refine pure_ (i := 0) (N := some 31) (v := ?_) (a' := ?_) #[true, false, false, false, false, false, false, false, false, false, false, false, false, false, false, false, false, false, false] rfl rfl (by kernel_rfl) (fun _ _ _ h => h) (Or.inl ⟨by rfl, ?_⟩) ?_ ?_
          rotate_left
          · intro w'
            go_simp
            with_reducible rfl
          rotate_left
          · simp only [Act.put, List.setIfInBounds_toArray, List.set_cons_zero, List.set_cons_succ, i64_w, i32_w]
            rfl
          refine pure_ (i := 1) (N := some 32) (v := ?_) (a' := ?_) #[true, true, false, false, false, false, false, false, false, false, false, false, false, false, false, false, false, false, false] rfl rfl (by kernel_rfl) (fun _ _ _ h => h) (Or.inl ⟨by rfl, ?_⟩) ?_ ?_
          rotate_left
          · intro w'
            go_simp
            with_reducible rfl
          rotate_left
          · simp only [Act.put, List.setIfInBounds_toArray, List.set_cons_zero, List.set_cons_succ, i64_w, i32_w]
            rfl
          refine pure_ (i := 2) (N := some 33) (v := ?_) (a' := ?_) #[true, true, true, false, false, false, false, false, false, false, false, false, false, false, false, false, false, false, false] rfl rfl (by kernel_rfl) (fun _ _ _ h => h) (Or.inl ⟨by rfl, ?_⟩) ?_ ?_
          rotate_left
          · intro w'
            go_simp
            with_reducible rfl
          rotate_left
          · simp only [Act.put, List.setIfInBounds_toArray, List.set_cons_zero, List.set_cons_succ, i64_w, i32_w]
            rfl
          refine pure_ (i := 3) (N := some 34) (v := ?_) (a' := ?_) #[true, true, true, true, false, false, false, false, false, false, false, false, false, false, false, false, false, false, false] rfl rfl (by kernel_rfl) (fun _ _ _ h => h) (Or.inl ⟨by rfl, ?_⟩) ?_ ?_
          rotate_left
          · intro w'
            go_simp
            with_reducible rfl
          rotate_left
          · simp only [Act.put, List.setIfInBounds_toArray, List.set_cons_zero, List.set_cons_succ, i64_w, i32_w]
            rfl
          refine pure_ (i := 4) (N := some 35) (v := ?_) (a' := ?_) #[true, true, true, true, true, false, false, false, false, false, false, false, false, false, false, false, false, false, false] rfl rfl (by kernel_rfl) (fun _ _ _ h => h) (Or.inl ⟨by rfl, ?_⟩) ?_ ?_
          rotate_left
          · intro w'
            go_simp
            with_reducible rfl
          rotate_left
          · simp only [Act.put, List.setIfInBounds_toArray, List.set_cons_zero, List.set_cons_succ, i64_w, i32_w]
            rfl
          refine pure_ (i := 5) (N := some 36) (v := ?_) (a' := ?_) #[true, true, true, true, true, true, false, false, false, false, false, false, false, false, false, false, false, false, false] rfl rfl (by kernel_rfl) (fun _ _ _ h => h) (Or.inl ⟨by rfl, ?_⟩) ?_ ?_
          rotate_left
          · intro w'
            go_simp
            with_reducible rfl
          rotate_left
          · simp only [Act.put, List.setIfInBounds_toArray, List.set_cons_zero, List.set_cons_succ, i64_w, i32_w]
            rfl
          refine take_ (i := 6) (N := some 37) (v := ?_) (a' := ?_) #[true, true, true, true, true, true, true, false, false, false, false, false, false, false, false, false, false, false, false] rfl rfl (by kernel_rfl) (fun _ _ _ h => h) (Or.inl ⟨by rfl, ?_⟩) hHeld ?_ ?_
          rotate_left
          · rintro w' ⟨s0, s1⟩
            go_simp
            with_reducible rfl
          rotate_left
          · simp only [Act.put, List.setIfInBounds_toArray, List.set_cons_zero, List.set_cons_succ, i64_w, i32_w]
            rfl
          refine pure_ (i := 7) (N := some 38) (v := ?_) (a' := ?_) #[true, true, true, true, true, true, true, true, false, false, false, false, false, false, false, false, false, false, false] rfl rfl (by kernel_rfl) (fun _ _ _ h => h) (Or.inl ⟨by rfl, ?_⟩) ?_ ?_
          rotate_left
          · intro w'
            go_simp
            with_reducible rfl
          rotate_left
          · simp only [Act.put, List.setIfInBounds_toArray, List.set_cons_zero, List.set_cons_succ, i64_w, i32_w]
            rfl
          refine take_ (i := 8) (N := some 39) (v := ?_) (a' := ?_) #[true, true, true, true, true, true, true, true, true, false, false, false, false, false, false, false, false, false, false] rfl rfl (by kernel_rfl) (fun _ _ _ h => h) (Or.inl ⟨by rfl, ?_⟩) hHeld ?_ ?_
          rotate_left
          · rintro w' ⟨s0, s1⟩
            go_simp
            with_reducible rfl
          rotate_left
          · simp only [Act.put, List.setIfInBounds_toArray, List.set_cons_zero, List.set_cons_succ, i64_w, i32_w]
            rfl
          refine pure_ (i := 11) (N := some 42) (v := ?_) (a' := ?_) #[true, true, true, true, true, true, true, true, true, false, false, true, false, false, false, false, false, false, false] rfl rfl (by kernel_rfl) (fun _ _ _ h => h) (Or.inl ⟨by rfl, ?_⟩) ?_ ?_
          rotate_left
          · intro w'
            go_simp
            with_reducible rfl
          rotate_left
          · simp only [Act.put, List.setIfInBounds_toArray, List.set_cons_zero, List.set_cons_succ, i64_w, i32_w]
            rfl
          refine pure_ (i := 12) (N := some 43) (v := ?_) (a' := ?_) #[true, true, true, true, true, true, true, true, true, false, false, true, true, false, false, false, false, false, false] rfl rfl (by kernel_rfl) (fun _ _ _ h => h) (Or.inl ⟨by rfl, ?_⟩) ?_ ?_
          rotate_left
          · intro w'
            go_simp
            with_reducible rfl
          rotate_left
          · simp only [Act.put, List.setIfInBounds_toArray, List.set_cons_zero, List.set_cons_succ, i64_w, i32_w]
            rfl
          refine pure_ (i := 13) (N := some 44) (v := ?_) (a' := ?_) #[true, true, true, true, true, true, true, true, true, false, false, true, true, true, false, false, false, false, false] rfl rfl (by kernel_rfl) (fun _ _ _ h => h) (Or.inl ⟨by rfl, ?_⟩) ?_ ?_
          rotate_left
          · intro w'
            go_simp
            with_reducible rfl
          rotate_left
          · simp only [Act.put, List.setIfInBounds_toArray, List.set_cons_zero, List.set_cons_succ, i64_w, i32_w]
            rfl
          refine take_ (i := 14) (N := some 45) (v := ?_) (a' := ?_) #[true, true, true, true, true, true, true, true, true, false, false, true, true, true, true, false, false, false, false] rfl rfl (by kernel_rfl) (fun _ _ _ h => h) (Or.inl ⟨by rfl, ?_⟩) hHeld ?_ ?_
          rotate_left
          · rintro w' ⟨s0, s1⟩
            go_simp
            with_reducible rfl
          rotate_left
          · simp only [Act.put, List.setIfInBounds_toArray, List.set_cons_zero, List.set_cons_succ, i64_w, i32_w]
            rfl
          refine pure_ (i := 15) (N := some 46) (v := ?_) (a' := ?_) #[true, true, true, true, true, true, true, true, true, false, false, true, true, true, true, true, false, false, false] rfl rfl (by kernel_rfl) (fun _ _ _ h => h) (Or.inl ⟨by rfl, ?_⟩) ?_ ?_
          rotate_left
          · intro w'
            go_simp
            with_reducible rfl
          rotate_left
          · simp only [Act.put, List.setIfInBounds_toArray, List.set_cons_zero, List.set_cons_succ, i64_w, i32_w]
            rfl
          refine one_ (i := 9) (N := some 40) #[true, true, true, true, true, true, true, true, true, true, false, true, true, true, true, true, false, false, false] rfl rfl (by kernel_rfl) (by decide) (fun K hK => ?_)
          refine value_ (v := ?_) (w1 := ?_) (by rfl) rfl ?_ ?_
          rotate_left
          rotate_left
          · go_simp
            first | (refine ⟨?_, ?_⟩ <;> rfl) | rfl
          have HKA := Aside0.mk (HK9.out.alloc (.cells #[.int .i64 x] 2))
          refine hK.out _ _ (HCE.out _ _ _ _ HKA.out) (fun hHeld => ?_)
          clear hK K HK9
          refine norm_ (a' := ?_) ?_ ?_
          rotate_left
          · show Act.put _ (some 40) _ = _
            simp only [Act.put, List.setIfInBounds_toArray, List.set_cons_zero, List.set_cons_succ, i64_w, i32_w]
            rfl
          refine one_ (i := 10) (N := some 41) #[true, true, true, true, true, true, true, true, true, true, true, true, true, true, true, true, false, false, false] rfl rfl (by kernel_rfl) (by decide) (fun K hK => ?_)
          refine on_ (by rfl) ?_
          refine wp_append_lies _ _ _ 32 (by rfl) w.heap.size 2 i0 _ 1 8 Try.underlying32 HI.out.1 HI.out.2.1 HI.out.2.2.1 HI.out.2.2.2 (by rfl) (by decide) _ k (nums .i64 Tk1) (by rfl) HKA.out.ints ⟨w9.heap.size, 0, none⟩ 1 1 [.int .i64 x] (by rfl) (by rfl) (World.news_of_block (Blk.new w9 _ [.int .i64 x])) (by intro u hu; simp at hu; subst hu; rfl) (by decide) (by unfold maxLen; omega) (by omega) (by have := Below.size HKA.out.new; omega) _ rfl ?_
          intro g' cap' w3 hown hgrow hat hlt'
          have HK3 := Aside0.mk (HKA.out.app rfl hown hgrow hat rfl)
          clear hown hgrow hat hlt' HKA hHeld
          have cv3 := (HCE.out _ _ _ _ HK3.out).1
          have dv3 := HK3.out.rows.frozen m
          refine hK.out _ _ (HCE.out _ _ _ _ HK3.out) (fun hHeld => ?_)
          clear hK K
          refine norm_ (a' := ?_) ?_ ?_
          rotate_left
          · show Act.put _ (some 41) _ = _
            simp only [Act.put, List.setIfInBounds_toArray, List.set_cons_zero, List.set_cons_succ, i64_w, i32_w]
            rfl
          refine pure_ (i := 16) (N := some 7) (v := ?_) (a' := ?_) #[true, true, true, true, true, true, true, true, true, true, true, true, true, true, true, true, true, false, false] rfl rfl (by kernel_rfl) (fun _ _ _ h => h) (Or.inl ⟨by rfl, ?_⟩) ?_ ?_
          rotate_left
          · intro w'
            go_simp
            with_reducible rfl
          rotate_left
          · simp only [Act.put, List.setIfInBounds_toArray, List.set_cons_zero, List.set_cons_succ, i64_w, i32_w]
            rfl
          refine pure_ (i := 17) (N := some 47) (v := ?_) (a' := ?_) #[true, true, true, true, true, true, true, true, true, true, true, true, true, true, true, true, true, true, false] rfl rfl (by kernel_rfl) (fun _ _ _ h => h) (Or.inl ⟨by rfl, ?_⟩) ?_ ?_
          rotate_left
          · intro w'
            go_simp
            with_reducible rfl
          rotate_left
          · simp only [Act.put, List.setIfInBounds_toArray, List.set_cons_zero, List.set_cons_succ, i64_w, i32_w]
            rfl
          refine last_ (i := 18) (N := none) #[true, true, true, true, true, true, true, true, true, true, true, true, true, true, true, true, true, true, true] rfl rfl (by kernel_rfl) (by decide) (fun K hK => ?_)
          refine skip_ (w1 := ?_) (by rfl) rfl ?_ ?_
          rotate_left
          · go_simp
            rfl
          refine hK.out _ _ ?_
          clear hK K
          refine done_ (by kernel_rfl) ?_
          obtain ⟨V', B', O', hfin⟩ := HCUT.out _ _ _ _ HK3.out _ 0 (fun h => absurd HXE.out h) (fun _ => ⟨_, _, rfl⟩)
          go_wp2
          go_roundw
          case rel => exact ⟨k + 1, _, _, V', B', O', by omega, by omega, by go_num, by go_num, ⟨by rw [HLT.out]; exact hfin⟩⟩
          case measure => simp [intOf] <;> omega
        · have hcb : ¬ (c3 - 1 = 0) := by omega
          have hc4 : 1 ≤ c3 := by omega
          have hc5 : q ≤ c3 - 1 := by omega
          have hq1 : (1 : Int) ≤ (q : Int) + 1 := by omega
          go_wp2_with (go_at_call 49; refine (HM.out _ HCC.out).mono ?_; rintro e W1 ⟨rfl, hb⟩; have HKW := Aside0.mk (HK.out.below hb); replace c0 := (HCE.out _ _ _ _ HKW.out.drew).1; replace c00 := (HCE.out _ _ _ _ HKW.out.drew).2; clear hb HK)
          refine start_ (n := 19) (S := (fun w' => w'.cell? ⟨g, m, none⟩ = some (.slice (some ⟨B m, O m, none⟩) (q + 1) c3) ∧ w'.cell? ⟨B m, O m, none⟩ = some (.int .i64 x))) (ds := [18]) #[false, false, false, false, false, false, false, false, false, false, false, false, false, false, false, false, false, false, false] (by kernel_rfl) rfl rfl ⟨c0, c00⟩ (fun hHeld => ?_)
          obtain ⟨w9, hw9⟩ : ∃ w9, W1.drew = w9 := ⟨_, rfl⟩
          have HK9 : Aside0 (Tk w w9 lo1 hi1 g (.slice A7 k c7) k Tk1 Lk V B O) := ⟨by subst hw9; exact HKW.out.drew⟩
          rw [hw9] at hHeld ⊢
          clear hw9 HKW c0 c00
          refine pure_ (i := 0) (N := some 31) (v := ?_) (a' := ?_) #[true, false, false, false, false, false, false, false, false, false, false, false, false, false, false, false, false, false, false] rfl rfl (by kernel_rfl) (fun _ _ _ h => h) (Or.inl ⟨by rfl, ?_⟩) ?_ ?_
          rotate_left
          · intro w'
            go_simp
            with_reducible rfl
          rotate_left
          · simp only [Act.put, List.setIfInBounds_toArray, List.set_cons_zero, List.set_cons_succ, i64_w, i32_w]
            rfl
          refine pure_ (i := 1) (N := some 32) (v := ?_) (a' := ?_) #[true, true, false, false, false, false, false, false, false, false, false, false, false, false, false, false, false, false, false] rfl rfl (by kernel_rfl) (fun _ _ _ h => h) (Or.inl ⟨by rfl, ?_⟩) ?_ ?_
          rotate_left
          · intro w'
            go_simp
            with_reducible rfl
          rotate_left
          · simp only [Act.put, List.setIfInBounds_toArray, List.set_cons_zero, List.set_cons_succ, i64_w, i32_w]
            rfl
          refine pure_ (i := 2) (N := some 33) (v := ?_) (a' := ?_) #[true, true, true, false, false, false, false, false, false, false, false, false, false, false, false, false, false, false, false] rfl rfl (by kernel_rfl) (fun _ _ _ h => h) (Or.inl ⟨by rfl, ?_⟩) ?_ ?_
          rotate_left
          · intro w'
            go_simp
            with_reducible rfl
          rotate_left
          · simp only [Act.put, List.setIfInBounds_toArray, List.set_cons_zero, List.set_cons_succ, i64_w, i32_w]
            rfl
          refine pure_ (i := 3) (N := some 34) (v := ?_) (a' := ?_) #[true, true, true, true, false, false, false, false, false, false, false, false, false, false, false, false, false, false, false] rfl rfl (by kernel_rfl) (fun _ _ _ h => h) (Or.inl ⟨by rfl, ?_⟩) ?_ ?_
          rotate_left
          · intro w'
            go_simp
            with_reducible rfl
          rotate_left
          · simp only [Act.put, List.setIfInBounds_toArray, List.set_cons_zero, List.set_cons_succ, i64_w, i32_w]
            rfl
          refine pure_ (i := 4) (N := some 35) (v := ?_) (a' := ?_) #[true, true, true, true, true, false, false, false, false, false, false, false, false, false, false, false, false, false, false] rfl rfl (by kernel_rfl) (fun _ _ _ h => h) (Or.inl ⟨by rfl, ?_⟩) ?_ ?_
          rotate_left
          · intro w'
            go_simp
            with_reducible rfl
          rotate_left
          · simp only [Act.put, List.setIfInBounds_toArray, List.set_cons_zero, List.set_cons_succ, i64_w, i32_w]
            rfl
          refine pure_ (i := 5) (N := some 36) (v := ?_) (a' := ?_) #[true, true, true, true, true, true, false, false, false, false, false, false, false, false, false, false, false, false, false] rfl rfl (by kernel_rfl) (fun _ _ _ h => h) (Or.inl ⟨by rfl, ?_⟩) ?_ ?_
          rotate_left
          · intro w'
            go_simp
            with_reducible rfl
          rotate_left
          · simp only [Act.put, List.setIfInBounds_toArray, List.set_cons_zero, List.set_cons_succ, i64_w, i32_w]
            rfl
          refine take_ (i := 6) (N := some 37) (v := ?_) (a' := ?_) #[true, true, true, true, true, true, true, false, false, false, false, false, false, false, false, false, false, false, false] rfl rfl (by kernel_rfl) (fun _ _ _ h => h) (Or.inl ⟨by rfl, ?_⟩) hHeld ?_ ?_
          rotate_left
          · rintro w' ⟨s0, s1⟩
            go_simp
            with_reducible rfl
          rotate_left
          · simp only [Act.put, List.setIfInBounds_toArray, List.set_cons_zero, List.set_cons_succ, i64_w, i32_w]
            rfl
          refine pure_ (i := 7) (N := some 38) (v := ?_) (a' := ?_) #[true, true, true, true, true, true, true, true, false, false, false, false, false, false, false, false, false, false, false] rfl rfl (by kernel_rfl) (fun _ _ _ h => h) (Or.inl ⟨by rfl, ?_⟩) ?_ ?_
          rotate_left
          · intro w'
            go_simp
            with_reducible rfl
          rotate_left
          · simp only [Act.put, List.setIfInBounds_toArray, List.set_cons_zero, List.set_cons_succ, i64_w, i32_w]
            rfl
          refine take_ (i := 8) (N := some 39) (v := ?_) (a' := ?_) #[true, true, true, true, true, true, true, true, true, false, false, false, false, false, false, false, false, false, false] rfl rfl (by kernel_rfl) (fun _ _ _ h => h) (Or.inl ⟨by rfl, ?_⟩) hHeld ?_ ?_
          rotate_left
          · rintro w' ⟨s0, s1⟩
            go_simp
            with_reducible rfl
          rotate_left
          · simp only [Act.put, List.setIfInBounds_toArray, List.set_cons_zero, List.set_cons_succ, i64_w, i32_w]
            rfl
          refine pure_ (i := 11) (N := some 42) (v := ?_) (a' := ?_) #[true, true, true, true, true, true, true, true, true, false, false, true, false, false, false, false, false, false, false] rfl rfl (by kernel_rfl) (fun _ _ _ h => h) (Or.inl ⟨by rfl, ?_⟩) ?_ ?_
          rotate_left
          · intro w'
            go_simp
            with_reducible rfl
          rotate_left
          · simp only [Act.put, List.setIfInBounds_toArray, List.set_cons_zero, List.set_cons_succ, i64_w, i32_w]
            rfl
          refine pure_ (i := 12) (N := some 43) (v := ?_) (a' := ?_) #[true, true, true, true, true, true, true, true, true, false, false, true, true, false, false, false, false, false, false] rfl rfl (by kernel_rfl) (fun _ _ _ h => h) (Or.inl ⟨by rfl, ?_⟩) ?_ ?_
          rotate_left
          · intro w'
            go_simp
            with_reducible rfl
          rotate_left
          · simp only [Act.put, List.setIfInBounds_toArray, List.set_cons_zero, List.set_cons_succ, i64_w, i32_w]
            rfl
          refine pure_ (i := 13) (N := some 44) (v := ?_) (a' := ?_) #[true, true, true, true, true, true, true, true, true, false, false, true, true, true, false, false, false, false, false] rfl rfl (by kernel_rfl) (fun _ _ _ h => h) (Or.inl ⟨by rfl, ?_⟩) ?_ ?_
          rotate_left
          · intro w'
            go_simp
            with_reducible rfl
          rotate_left
          · simp only [Act.put, List.setIfInBounds_toArray, List.set_cons_zero, List.set_cons_succ, i64_w, i32_w]
            rfl
          refine take_ (i := 14) (N := some 45) (v := ?_) (a' := ?_) #[true, true, true, true, true, true, true, true, true, false, false, true, true, true, true, false, false, false, false] rfl rfl (by kernel_rfl) (fun _ _ _ h => h) (Or.inl ⟨by rfl, ?_⟩) hHeld ?_ ?_
          rotate_left
          · rintro w' ⟨s0, s1⟩
            go_simp
            with_reducible rfl
          rotate_left
          · simp only [Act.put, List.setIfInBounds_toArray, List.set_cons_zero, List.set_cons_succ, i64_w, i32_w]
            rfl
          refine pure_ (i := 15) (N := some 46) (v := ?_) (a' := ?_) #[true, true, true, true, true, true, true, true, true, false, false, true, true, true, true, true, false, false, false] rfl rfl (by kernel_rfl) (fun _ _ _ h => h) (Or.inl ⟨by rfl, ?_⟩) ?_ ?_
          rotate_left
          · intro w'
            go_simp
            with_reducible rfl
          rotate_left
          · simp only [Act.put, List.setIfInBounds_toArray, List.set_cons_zero, List.set_cons_succ, i64_w, i32_w]
            rfl
          refine one_ (i := 9) (N := some 40) #[true, true, true, true, true, true, true, true, true, true, false, true, true, true, true, true, false, false, false] rfl rfl (by kernel_rfl) (by decide) (fun K hK => ?_)
          refine value_ (v := ?_) (w1 := ?_) (by rfl) rfl ?_ ?_
          rotate_left
          rotate_left
          · go_simp
            first | (refine ⟨?_, ?_⟩ <;> rfl) | rfl
          have HKA := Aside0.mk (HK9.out.alloc (.cells #[.int .i64 x] 2))
          refine hK.out _ _ (HCE.out _ _ _ _ HKA.out) (fun hHeld => ?_)
          clear hK K HK9
          refine norm_ (a' := ?_) ?_ ?_
          rotate_left
          · show Act.put _ (some 40) _ = _
            simp only [Act.put, List.setIfInBounds_toArray, List.set_cons_zero, List.set_cons_succ, i64_w, i32_w]
            rfl
          refine one_ (i := 10) (N := some 41) #[true, true, true, true, true, true, true, true, true, true, true, true, true, true, true, true, false, false, false] rfl rfl (by kernel_rfl) (by decide) (fun K hK => ?_)
          refine on_ (by rfl) ?_
          refine wp_append_lies _ _ _ 32 (by rfl) w.heap.size 2 i0 _ 1 8 Try.underlying32 HI.out.1 HI.out.2.1 HI.out.2.2.1 HI.out.2.2.2 (by rfl) (by decide) _ k (nums .i64 Tk1) (by rfl) HKA.out.ints ⟨w9.heap.size, 0, none⟩ 1 1 [.int .i64 x] (by rfl) (by rfl) (World.news_of_block (Blk.new w9 _ [.int .i64 x])) (by intro u hu; simp at hu; subst hu; rfl) (by decide) (by unfold maxLen; omega) (by omega) (by have := Below.size HKA.out.new; omega) _ rfl ?_
          intro g' cap' w3 hown hgrow hat hlt'
          have HK3 := Aside0.mk (HKA.out.app rfl hown hgrow hat rfl)
          clear hown hgrow hat hlt' HKA hHeld
          have cv3 := (HCE.out _ _ _ _ HK3.out).1
          have dv3 := HK3.out.rows.frozen m
          refine hK.out _ _ (HCE.out _ _ _ _ HK3.out) (fun hHeld => ?_)
          clear hK K
          refine norm_ (a' := ?_) ?_ ?_
          rotate_left
          · show Act.put _ (some 41) _ = _
            simp only [Act.put, List.setIfInBounds_toArray, List.set_cons_zero, List.set_cons_succ, i64_w, i32_w]
            rfl
          refine pure_ (i := 16) (N := some 7) (v := ?_) (a' := ?_) #[true, true, true, true, true, true, true, true, true, true, true, true, true, true, true, true, true, false, false] rfl rfl (by kernel_rfl) (fun _ _ _ h => h) (Or.inl ⟨by rfl, ?_⟩) ?_ ?_
          rotate_left
          · intro w'
            go_simp
            with_reducible rfl
          rotate_left
          · simp only [Act.put, List.setIfInBounds_toArray, List.set_cons_zero, List.set_cons_succ, i64_w, i32_w]
            rfl
          refine pure_ (i := 17) (N := some 47) (v := ?_) (a' := ?_) #[true, true, true, true, true, true, true, true, true, true, true, true, true, true, true, true, true, true, false] rfl rfl (by kernel_rfl) (fun _ _ _ h => h) (Or.inl ⟨by rfl, ?_⟩) ?_ ?_
          rotate_left
          · intro w'
            go_simp
            with_reducible rfl
          rotate_left
          · simp only [Act.put, List.setIfInBounds_toArray, List.set_cons_zero, List.set_cons_succ, i64_w, i32_w]
            rfl
          refine last_ (i := 18) (N := none) #[true, true, true, true, true, true, true, true, true, true, true, true, true, true, true, true, true, true, true] rfl rfl (by kernel_rfl) (by decide) (fun K hK => ?_)
          refine skip_ (w1 := ?_) (by rfl) rfl ?_ ?_
          rotate_left
          · go_simp
            rfl
          refine hK.out _ _ ?_
          clear hK K
          refine done_ (by kernel_rfl) ?_
          obtain ⟨V', B', O', hfin⟩ := HCUT.out _ _ _ _ HK3.out _ (O m + 1) (fun _ => ⟨rfl, _, rfl, hc5⟩) (fun h => ⟨_, _, by rw [HY0.out h]⟩)
          go_wp2
          go_roundw
          case rel => exact ⟨k + 1, _, _, V', B', O', by omega, by omega, by go_num, by go_num, ⟨by rw [HLT.out]; exact hfin⟩⟩
          case measure => simp [intOf] <;> omega
    · obtain rfl : k = a := by omega
      have HFE := Aside0.mk (HK.out.ol hTl (by intro e; rw [e] at hLl; exact hlne (List.length_eq_zero_iff.1 hLl.symm)) hLl hc2)
      go_wp2
      go_ret3
      rw [oldR_yes hg hkf]
      exact ⟨_, _, rfl, HFE.out⟩
end Go.Proofs.Ytkjligoamechkaa.X
