/- Contracts of functions, and plain facts: what each call answers, and what it leaves as it was. -/
import Derived.Test.YtkjligoamechkaaOldW
set_option linter.unusedVariables false
set_option linter.unusedSimpArgs false
namespace Go.Proofs.Ytkjligoamechkaa.X
open Go.RowKit Go.Proofs.YtkjligoamechkaaW.PrintWords Go.Proofs.YtkjligoamechkaaW.PrintLast Go.Proofs.YtkjligoamechkaaW.PrintMore
attribute [local go_sem] max2_int min2_int max_two min_two max_three min_three max_four min_four
theorem wf64x {n : Int} (h : (Lit.int .i64 n).wf = true) : -9223372036854775808 ≤ n ∧ n ≤ 9223372036854775807 := by
  have hmin : IntKind.i64.min = -9223372036854775808 := rfl
  have hmax : IntKind.i64.max = 9223372036854775807 := rfl
  simp only [Lit.wf, Bool.and_eq_true, decide_eq_true_eq] at h
  omega
def Iw (w : World) (base : Nat) (v : Value) (l : List Int) : Prop := w.ownsRow base 2 1 v l.length (nums .i64 l)
theorem Iw.below {w w1 : World} {base : Nat} {v : Value} {l : List Int} (h : Iw w base v l) (hb : Below w.heap.size w w1) : Iw w1 base v l := pw_own_below h hb
theorem Iw.row {w : World} {base : Nat} {v : Value} {l : List Int} (h : Iw w base v l) : (Kd.int .i64).R 2 w base (fun k => v.ownBlock = some k) v l := Kd.R_of_own h (fun _ h => h)
/-- the answer in memory, with the bounds of its blocks -/
def Oz (W w' : World) (u v : Value) (lo hi : Nat) (T : List Int) (R : List (List Int)) : Prop := W.heap.size ≤ lo ∧ lo ≤ hi ∧ hi ≤ w'.heap.size ∧ RR w' lo hi v R ∧ Iw w' W.heap.size u T ∧ (∀ q, u.ownBlock = some q → ¬ (lo ≤ q ∧ q < hi)) ∧ Below W.heap.size W w'
theorem Ol.oz {W w' : World} {u v : Value} {T : List Int} {R : List (List Int)} (h : Ol W w' u v T R) : ∃ lo hi, Oz W w' u v lo hi T R := by
  obtain ⟨lo, hi, h1, h2, h3, h4, h5⟩ := h
  rcases h2 with h2 | ⟨h2, g, c, V, B, O, e1, e2, e3⟩
  · exact ⟨w'.heap.size, w'.heap.size, Below.size h5, Nat.le_refl _, Nat.le_refl _, .inl h2, h3, fun q _ hq => by omega, h5⟩
  · have := e3.outer
    exact ⟨lo, hi, h1, by omega, this.2.2, .inr ⟨h2, g, c, V, B, O, e1, e2, e3⟩, h3, h4, h5⟩
theorem eqI_calls (v v' : Value) (l : List Int) (b b' : Nat) (hl : l.length ≤ 1048576) (W : World) (h : Iw W b v l) (h' : Iw W b' v' l) :
    Calls Try.prog 22 #[v, v'] W fun e w' => e = .returned (.bool true) ∧ Below W.heap.size W w' := by
  obtain ⟨A, c, rfl, hc, hC⟩ := Kd.R_reads h.row
  obtain ⟨A', c', rfl, hc', hC'⟩ := Kd.R_reads h'.row
  exact (laws_eqInt64S.calls (l.length + 1) A c l A' c' l true W hC hc hC' hc' (eqInt64S_f (by omega) (by omega))).mono (by
    rintro e w' ⟨rfl, hd⟩
    exact ⟨rfl, hd.below⟩)
theorem heldI_calls (v : Value) (a : Int) (n b : Nat) (h0 : 0 ≤ a) (h1 : a ≤ 4294967296) (hn : n ≤ 1048576) (W : World) (h : Iw W b v (seqL a n)) :
    Calls Try.prog 24 #[v, .int .i64 a] W fun e w' => e = .returned (.int .i64 (a + n)) ∧ Below W.heap.size W w' := by
  obtain ⟨A, c, rfl, hc, hC⟩ := Kd.R_reads h.row
  exact (laws_heldInt64S.calls (n + 1) A c (seqL a n) a (a + n) W hC hc (heldS_f a n h0 h1 (by omega) (by omega))).mono (by
    rintro e w' ⟨rfl, hd⟩
    exact ⟨rfl, hd.below⟩)
theorem markI_calls (v : Value) (l : List Int) (a : Int) (h0 : 0 ≤ a) (h1 : a ≤ 4294967296) (hl : l.length ≤ 1048576) (w0 W : World) (hB : Below w0.heap.size w0 W) (h : Iw W w0.heap.size v l) :
    Calls Try.prog 23 #[v, .int .i64 a] W fun e w' => e = .returned (.int .i64 (a + l.length)) ∧ Iw w' w0.heap.size v (seqL a l.length) ∧ Below w0.heap.size w0 w' ∧ Kept W w' (fun k => v.ownBlock = some k) :=
  (laws_markInt64S.calls (l.length + 1) (fun k => v.ownBlock = some k) v l a (a + l.length) (seqL a l.length) w0 W hB h.row (markS_f a l h0 h1 (by omega) (by omega))).mono (by
    rintro e w' ⟨rfl, hR, hb, hk⟩
    exact ⟨rfl, Kd.own_of_R hR, hb, hk⟩)
theorem good0_ne {l : List (List Int)} (h : good0 l 0 = true) : l ≠ [] := by rintro rfl; revert h; decide
theorem oldR_small {l : List (List Int)} {a : Int} (hl : l.length ≤ 1048576) (hf : l.flatten.length ≤ 1048576) : (oldR l a).1.length ≤ 1048576 ∧ (oldR l a).2.1.length ≤ 1048576 ∧ (oldR l a).2.1.flatten.length ≤ 1048576 := by
  cases hg : good0 l 0
  · rw [oldR_no hg]; simp
  · by_cases h1 : a < 0
    · rw [oldR_neg hg h1]; simp
    · by_cases h2 : (l.flatten.length : Int) < a
      · rw [oldR_far hg h1 h2]; simp
      · obtain ⟨n, rfl⟩ : ∃ n : Nat, a = (n : Int) := ⟨a.toNat, by omega⟩
        have hn : n ≤ l.flatten.length := by omega
        rw [oldR_yes hg hn]
        refine ⟨by show (oldT l n).length ≤ _; rw [oldT_len]; omega, by show (oldL l n).length ≤ _; rw [oldL_len]; exact hl, by show (oldL l n).flatten.length ≤ _; rw [oldL_flat n hn]; omega⟩
theorem specOld (l : List (List Int)) (a : Int) (ha : a ≤ 9223372036854775807) (hl : l.length ≤ 1048576) (hf : l.flatten.length ≤ 1048576) (lo hi : Nat) (v0 : Value) (w : World) (hX : RR w lo hi v0 l) :
    Calls Try.prog 20 #[v0, .int .i64 a] w fun e w' => ∃ (u v : Value) (lo' hi' : Nat), e = .returned (.tuple #[u, v, .int .i64 (oldR l a).2.2]) ∧ Oz w w' u v lo' hi' (oldR l a).1 (oldR l a).2.1 := by
  have hm : ∀ (e : Ending) (w' : World), (∃ u v : Value, e = .returned (.tuple #[u, v, .int .i64 (oldR l a).2.2]) ∧ Ol w w' u v (oldR l a).1 (oldR l a).2.1) → ∃ (u v : Value) (lo' hi' : Nat), e = .returned (.tuple #[u, v, .int .i64 (oldR l a).2.2]) ∧ Oz w w' u v lo' hi' (oldR l a).1 (oldR l a).2.1 := by
    rintro e w' ⟨u, v, rfl, h⟩
    obtain ⟨lo', hi', h'⟩ := h.oz
    exact ⟨u, v, lo', hi', rfl, h'⟩
  cases hg : good0 l 0
  · exact (specOld_no l hl hf lo hi v0 w hX hg a).mono hm
  · by_cases h1 : a < 0
    · exact (specOld_neg l hl hf lo hi v0 w hX hg a h1).mono hm
    · obtain ⟨n, rfl⟩ : ∃ n : Nat, a = (n : Int) := ⟨a.toNat, by omega⟩
      exact (specOld_go l hl hf lo hi v0 w hX hg (good0_ne hg) n ha).mono hm
theorem implOld (l : List (List Int)) (a : Int) (hl : l.length ≤ 1048576) (hf : l.flatten.length ≤ 1048576) (lo hi : Nat) (v0 : Value) (w : World) (hX : RR w lo hi v0 l) :
    Calls Try.prog 21 #[v0, .int .i64 a] w fun e w' => ∃ (u v : Value) (lo' hi' : Nat), e = .returned (.tuple #[u, v, .int .i64 (oldR l a).2.2]) ∧ Oz w w' u v lo' hi' (oldR l a).1 (oldR l a).2.1 := by
  have hm : ∀ (e : Ending) (w' : World), (∃ u v : Value, e = .returned (.tuple #[u, v, .int .i64 (oldR l a).2.2]) ∧ Ol w w' u v (oldR l a).1 (oldR l a).2.1) → ∃ (u v : Value) (lo' hi' : Nat), e = .returned (.tuple #[u, v, .int .i64 (oldR l a).2.2]) ∧ Oz w w' u v lo' hi' (oldR l a).1 (oldR l a).2.1 := by
    rintro e w' ⟨u, v, rfl, h⟩
    obtain ⟨lo', hi', h'⟩ := h.oz
    exact ⟨u, v, lo', hi', rfl, h'⟩
  cases hg : good0 l 0
  · exact (implOld_no l hl hf lo hi v0 w hX hg a).mono hm
  · by_cases h1 : a < 0
    · exact (implOld_neg l hl hf lo hi v0 w hX hg a h1).mono hm
    · by_cases h2 : (l.flatten.length : Int) < a
      · exact (implOld_far l hl hf lo hi v0 w hX hg a h1 h2).mono hm
      · obtain ⟨n, rfl⟩ : ∃ n : Nat, a = (n : Int) := ⟨a.toNat, by omega⟩
        exact (implOld_go l hl hf lo hi v0 w hX hg (good0_ne hg) n (by omega)).mono hm
set_option maxHeartbeats 8000000 in
set_option maxRecDepth 100000 in
theorem lawOl (A0 : Option Addr) (c0 : Nat) (l : List (List Int)) (a : Int) (T : List Int) (R : List (List Int)) (code : Int) (hl : l.length ≤ 1048576) (hf : l.flatten.length ≤ 1048576) (hc : l.length ≤ c0) (hT : T.length ≤ 1048576) (hRl : R.length ≤ 1048576) (hRf : R.flatten.length ≤ 1048576) (r : Int) (hr0 : 0 ≤ r) (hr : ∀ k, 1048577 < k → laws_szInt64SS.f k l 1048576 = some r) (hsp : (∀ (v0 : Value) (lo hi : Nat) (W : World), RR W lo hi v0 l → Calls Try.prog 20 #[v0, .int .i64 a] W fun e w' => ∃ (u v : Value) (lo' hi' : Nat), e = .returned (.tuple #[u, v, .int .i64 code]) ∧ Oz W w' u v lo' hi' T R)) (him : (∀ (v0 : Value) (lo hi : Nat) (W : World), RR W lo hi v0 l → Calls Try.prog 21 #[v0, .int .i64 a] W fun e w' => ∃ (u v : Value) (lo' hi' : Nat), e = .returned (.tuple #[u, v, .int .i64 code]) ∧ Oz W w' u v lo' hi' T R)) (w : World) (hL : (Kd.slice 2 (Kd.int .i64)).C w A0 l.length l) :
    Calls Try.prog 6 #[.slice A0 l.length c0, .int .i64 a] w fun e w' => e = .returned (.bool true) ∧ Below w.heap.size w w' := by
  have HL := Aside0.mk hL
  have HW : Aside0 (Below w.heap.size w w) := ⟨Below.refl _ _⟩
  have HSZ := Aside0.mk (fun W h => szB l A0 c0 hc r hr W h)
  have HTO := Aside0.mk (fun W h => toRR l A0 c0 hc hl hf W h)
  have HEX := Aside0.mk (fun v v' lo hi lo' hi' W h h' => eqRR l hl hf v v' lo hi lo' hi' W h h')
  have HER := Aside0.mk (fun v v' lo hi lo' hi' W h h' => eqRR R hRl hRf v v' lo hi lo' hi' W h h')
  have HEI := Aside0.mk (fun v v' b b' W h h' => eqI_calls v v' T b b' hT W h h')
  have HMX := Aside0.mk (fun lo hi v W h => markRR_calls l 1 (by decide) (by decide) hl hf lo hi v W h)
  have HMI := Aside0.mk (fun v w0 W hB h => markI_calls v T 1 (by decide) (by decide) hT w0 W hB h)
  have HHI := Aside0.mk (fun v b W h => heldI_calls v 1 T.length b (by decide) (by decide) hT W h)
  have HMR := Aside0.mk (fun lo hi v W h => markRR_calls R (1 + (T.length : Int)) (by omega) (by omega) hRl hRf lo hi v W h)
  have HHR := Aside0.mk (fun v lo hi W h => heldRR R (1 + (T.length : Int)) (by omega) (by omega) hRl hRf v lo hi W h)
  have HSP := Aside0.mk hsp
  have HIM := Aside0.mk him
  have q1 : 0 ≤ (1 : Int) + (l.flatten.length : Int) := by omega
  have q3 : 0 ≤ (1 : Int) + (T.length : Int) := by omega
  have q2 : 0 ≤ (1 : Int) + (T.length : Int) + (R.flatten.length : Int) := by omega
  obtain ⟨k1, e1⟩ : ∃ k1, (1 : Int) + (l.flatten.length : Int) = k1 := ⟨_, rfl⟩
  obtain ⟨k3, e3⟩ : ∃ k3, (1 : Int) + (T.length : Int) = k3 := ⟨_, rfl⟩
  obtain ⟨TM, e4⟩ : ∃ TM, seqL 1 T.length = TM := ⟨_, rfl⟩
  rw [e3] at HMI HHI HMR HHR q2 q3
  rw [e4] at HMI HHI
  obtain ⟨k2, e2⟩ : ∃ k2, k3 + (R.flatten.length : Int) = k2 := ⟨_, rfl⟩
  rw [e1] at HMX q1
  rw [e2] at HMR HHR q2
  clear e1 e2 e3 e4 hL hsp him hr
  go_enter Try.func6, Try.ntmps6
  go_wp2_with (fail)
  refine (HSZ.out _ (Kd.C_below HL.out HW.out)).mono ?_
  rintro e w1 ⟨rfl, hb⟩
  have hs_w1 := Below.size hb
  (try simp at hs_w1)
  replace HW : Aside0 (Below w.heap.size w w1) := ⟨below_step HW.out hb⟩
  clear hb
  go_wp2_with (fail)
  refine (HTO.out _ (Kd.C_below HL.out HW.out)).mono ?_
  rintro e w2 ⟨v1, rfl, hY_, hb⟩
  have hs_w2 := Below.size hb
  (try simp at hs_w2)
  replace HW : Aside0 (Below w.heap.size w w2) := ⟨below_step HW.out hb⟩
  clear hb
  have HX1 : Aside0 (RR w2 w1.heap.size w2.heap.size v1 l) := ⟨hY_⟩
  clear hY_
  go_wp2_with (fail)
  refine (HSP.out _ _ _ _ HX1.out).mono ?_
  rintro e w3 ⟨u2, v2, lo2, hi2, rfl, hA_, hB_, hC_, hY_, hI_, hF_, hb⟩
  have hs_w3 := Below.size hb
  (try simp at hs_w3)
  replace HX1 : Aside0 (RR w3 w1.heap.size w2.heap.size v1 l) := ⟨RR.below HX1.out hb⟩
  replace HW : Aside0 (Below w.heap.size w w3) := ⟨below_step HW.out hb⟩
  clear hb
  have P_HI2 : Aside0 (∀ k_, Value.ownBlock u2 = some k_ → w2.heap.size ≤ k_ ∧ k_ < w3.heap.size) := ⟨fun k_ e_ => ⟨own_base hI_ k_ e_, own_lt hI_ k_ e_⟩⟩
  have F_HI2 := Aside0.mk hF_
  have HR2 : Aside0 (RR w3 lo2 hi2 v2 R) := ⟨hY_⟩
  have HI2 : Aside0 (Iw w3 w.heap.size u2 T) := ⟨own_weaken hI_ (by omega)⟩
  clear hY_ hI_ hF_
  go_wp2_with (fail)
  refine (HTO.out _ (Kd.C_below HL.out HW.out)).mono ?_
  rintro e w4 ⟨v3, rfl, hY_, hb⟩
  have hs_w4 := Below.size hb
  (try simp at hs_w4)
  replace HI2 : Aside0 (Iw w4 w.heap.size u2 T) := ⟨Iw.below HI2.out hb⟩
  replace HX1 : Aside0 (RR w4 w1.heap.size w2.heap.size v1 l) := ⟨RR.below HX1.out hb⟩
  replace HR2 : Aside0 (RR w4 lo2 hi2 v2 R) := ⟨RR.below HR2.out hb⟩
  replace HW : Aside0 (Below w.heap.size w w4) := ⟨below_step HW.out hb⟩
  clear hb
  have HX3 : Aside0 (RR w4 w3.heap.size w4.heap.size v3 l) := ⟨hY_⟩
  clear hY_
  go_wp2_with (fail)
  refine (HIM.out _ _ _ _ HX3.out).mono ?_
  rintro e w5 ⟨u4, v4, lo4, hi4, rfl, hA_, hB_, hC_, hY_, hI_, hF_, hb⟩
  have hs_w5 := Below.size hb
  (try simp at hs_w5)
  replace HI2 : Aside0 (Iw w5 w.heap.size u2 T) := ⟨Iw.below HI2.out hb⟩
  replace HX1 : Aside0 (RR w5 w1.heap.size w2.heap.size v1 l) := ⟨RR.below HX1.out hb⟩
  replace HR2 : Aside0 (RR w5 lo2 hi2 v2 R) := ⟨RR.below HR2.out hb⟩
  replace HX3 : Aside0 (RR w5 w3.heap.size w4.heap.size v3 l) := ⟨RR.below HX3.out hb⟩
  replace HW : Aside0 (Below w.heap.size w w5) := ⟨below_step HW.out hb⟩
  clear hb
  have P_HI4 : Aside0 (∀ k_, Value.ownBlock u4 = some k_ → w4.heap.size ≤ k_ ∧ k_ < w5.heap.size) := ⟨fun k_ e_ => ⟨own_base hI_ k_ e_, own_lt hI_ k_ e_⟩⟩
  have F_HI4 := Aside0.mk hF_
  have HR4 : Aside0 (RR w5 lo4 hi4 v4 R) := ⟨hY_⟩
  have HI4 : Aside0 (Iw w5 w.heap.size u4 T) := ⟨own_weaken hI_ (by omega)⟩
  clear hY_ hI_ hF_
  go_wp2_with (fail)
  refine (HEI.out _ _ _ _ _ HI4.out HI2.out).mono ?_
  rintro e w6 ⟨rfl, hb⟩
  have hs_w6 := Below.size hb
  (try simp at hs_w6)
  replace HI2 : Aside0 (Iw w6 w.heap.size u2 T) := ⟨Iw.below HI2.out hb⟩
  replace HI4 : Aside0 (Iw w6 w.heap.size u4 T) := ⟨Iw.below HI4.out hb⟩
  replace HX1 : Aside0 (RR w6 w1.heap.size w2.heap.size v1 l) := ⟨RR.below HX1.out hb⟩
  replace HR2 : Aside0 (RR w6 lo2 hi2 v2 R) := ⟨RR.below HR2.out hb⟩
  replace HX3 : Aside0 (RR w6 w3.heap.size w4.heap.size v3 l) := ⟨RR.below HX3.out hb⟩
  replace HR4 : Aside0 (RR w6 lo4 hi4 v4 R) := ⟨RR.below HR4.out hb⟩
  replace HW : Aside0 (Below w.heap.size w w6) := ⟨below_step HW.out hb⟩
  clear hb
  go_wp2_with (fail)
  refine (HER.out _ _ _ _ _ _ _ HR4.out HR2.out).mono ?_
  rintro e w7 ⟨rfl, hb⟩
  have hs_w7 := Below.size hb
  (try simp at hs_w7)
  replace HI2 : Aside0 (Iw w7 w.heap.size u2 T) := ⟨Iw.below HI2.out hb⟩
  replace HI4 : Aside0 (Iw w7 w.heap.size u4 T) := ⟨Iw.below HI4.out hb⟩
  replace HX1 : Aside0 (RR w7 w1.heap.size w2.heap.size v1 l) := ⟨RR.below HX1.out hb⟩
  replace HR2 : Aside0 (RR w7 lo2 hi2 v2 R) := ⟨RR.below HR2.out hb⟩
  replace HX3 : Aside0 (RR w7 w3.heap.size w4.heap.size v3 l) := ⟨RR.below HX3.out hb⟩
  replace HR4 : Aside0 (RR w7 lo4 hi4 v4 R) := ⟨RR.below HR4.out hb⟩
  replace HW : Aside0 (Below w.heap.size w w7) := ⟨below_step HW.out hb⟩
  clear hb
  go_wp2_with (fail)
  refine (HTO.out _ (Kd.C_below HL.out HW.out)).mono ?_
  rintro e w8 ⟨v5, rfl, hY_, hb⟩
  have hs_w8 := Below.size hb
  (try simp at hs_w8)
  replace HI2 : Aside0 (Iw w8 w.heap.size u2 T) := ⟨Iw.below HI2.out hb⟩
  replace HI4 : Aside0 (Iw w8 w.heap.size u4 T) := ⟨Iw.below HI4.out hb⟩
  replace HX1 : Aside0 (RR w8 w1.heap.size w2.heap.size v1 l) := ⟨RR.below HX1.out hb⟩
  replace HR2 : Aside0 (RR w8 lo2 hi2 v2 R) := ⟨RR.below HR2.out hb⟩
  replace HX3 : Aside0 (RR w8 w3.heap.size w4.heap.size v3 l) := ⟨RR.below HX3.out hb⟩
  replace HR4 : Aside0 (RR w8 lo4 hi4 v4 R) := ⟨RR.below HR4.out hb⟩
  replace HW : Aside0 (Below w.heap.size w w8) := ⟨below_step HW.out hb⟩
  clear hb
  have HX5 : Aside0 (RR w8 w7.heap.size w8.heap.size v5 l) := ⟨hY_⟩
  clear hY_
  go_wp2_with (fail)
  refine (HEX.out _ _ _ _ _ _ _ HX3.out HX5.out).mono ?_
  rintro e w9 ⟨rfl, hb⟩
  have hs_w9 := Below.size hb
  (try simp at hs_w9)
  replace HI2 : Aside0 (Iw w9 w.heap.size u2 T) := ⟨Iw.below HI2.out hb⟩
  replace HI4 : Aside0 (Iw w9 w.heap.size u4 T) := ⟨Iw.below HI4.out hb⟩
  replace HX1 : Aside0 (RR w9 w1.heap.size w2.heap.size v1 l) := ⟨RR.below HX1.out hb⟩
  replace HR2 : Aside0 (RR w9 lo2 hi2 v2 R) := ⟨RR.below HR2.out hb⟩
  replace HX3 : Aside0 (RR w9 w3.heap.size w4.heap.size v3 l) := ⟨RR.below HX3.out hb⟩
  replace HR4 : Aside0 (RR w9 lo4 hi4 v4 R) := ⟨RR.below HR4.out hb⟩
  replace HX5 : Aside0 (RR w9 w7.heap.size w8.heap.size v5 l) := ⟨RR.below HX5.out hb⟩
  replace HW : Aside0 (Below w.heap.size w w9) := ⟨below_step HW.out hb⟩
  clear hb
  go_wp2_with (fail)
  refine (HMX.out _ _ _ _ HX3.out).mono ?_
  rintro e w10 ⟨rfl, hR_, hk_⟩
  have hs_w10 := hk_.below.size
  (try simp at hs_w10)
  replace HI2 : Aside0 (Iw w10 w.heap.size u2 T) := ⟨own_move HI2.out (fun k_ e_ => hk_.keep k_ (own_lt HI2.out k_ e_) (by have p1_ := P_HI2.out k_ e_; have p2_ := F_HI2.out k_ e_; omega))⟩
  replace HI4 : Aside0 (Iw w10 w.heap.size u4 T) := ⟨own_move HI4.out (fun k_ e_ => hk_.keep k_ (own_lt HI4.out k_ e_) (by have p1_ := P_HI4.out k_ e_; have p2_ := F_HI4.out k_ e_; omega))⟩
  replace HX1 : Aside0 (RR w10 w1.heap.size w2.heap.size v1 l) := ⟨RR.keep HX1.out hk_.below.size (fun k_ h1_ h2_ => hk_.keep k_ (by omega) (by omega))⟩
  replace HR2 : Aside0 (RR w10 lo2 hi2 v2 R) := ⟨RR.keep HR2.out hk_.below.size (fun k_ h1_ h2_ => hk_.keep k_ (by omega) (by omega))⟩
  replace HR4 : Aside0 (RR w10 lo4 hi4 v4 R) := ⟨RR.keep HR4.out hk_.below.size (fun k_ h1_ h2_ => hk_.keep k_ (by omega) (by omega))⟩
  replace HX5 : Aside0 (RR w10 w7.heap.size w8.heap.size v5 l) := ⟨RR.keep HX5.out hk_.below.size (fun k_ h1_ h2_ => hk_.keep k_ (by omega) (by omega))⟩
  replace HW : Aside0 (Below w.heap.size w w10) := ⟨KpI.below_ HW.out hk_ (by omega)⟩
  replace HX3 : Aside0 (RR w10 w3.heap.size w4.heap.size v3 (markR l 1)) := ⟨hR_⟩
  clear hR_ hk_
  go_wp2_with (fail)
  refine (HEI.out _ _ _ _ _ HI4.out HI2.out).mono ?_
  rintro e w11 ⟨rfl, hb⟩
  have hs_w11 := Below.size hb
  (try simp at hs_w11)
  replace HI2 : Aside0 (Iw w11 w.heap.size u2 T) := ⟨Iw.below HI2.out hb⟩
  replace HI4 : Aside0 (Iw w11 w.heap.size u4 T) := ⟨Iw.below HI4.out hb⟩
  replace HX1 : Aside0 (RR w11 w1.heap.size w2.heap.size v1 l) := ⟨RR.below HX1.out hb⟩
  replace HR2 : Aside0 (RR w11 lo2 hi2 v2 R) := ⟨RR.below HR2.out hb⟩
  replace HX3 : Aside0 (RR w11 w3.heap.size w4.heap.size v3 (markR l 1)) := ⟨RR.below HX3.out hb⟩
  replace HR4 : Aside0 (RR w11 lo4 hi4 v4 R) := ⟨RR.below HR4.out hb⟩
  replace HX5 : Aside0 (RR w11 w7.heap.size w8.heap.size v5 l) := ⟨RR.below HX5.out hb⟩
  replace HW : Aside0 (Below w.heap.size w w11) := ⟨below_step HW.out hb⟩
  clear hb
  go_wp2_with (fail)
  refine (HER.out _ _ _ _ _ _ _ HR4.out HR2.out).mono ?_
  rintro e w12 ⟨rfl, hb⟩
  have hs_w12 := Below.size hb
  (try simp at hs_w12)
  replace HI2 : Aside0 (Iw w12 w.heap.size u2 T) := ⟨Iw.below HI2.out hb⟩
  replace HI4 : Aside0 (Iw w12 w.heap.size u4 T) := ⟨Iw.below HI4.out hb⟩
  replace HX1 : Aside0 (RR w12 w1.heap.size w2.heap.size v1 l) := ⟨RR.below HX1.out hb⟩
  replace HR2 : Aside0 (RR w12 lo2 hi2 v2 R) := ⟨RR.below HR2.out hb⟩
  replace HX3 : Aside0 (RR w12 w3.heap.size w4.heap.size v3 (markR l 1)) := ⟨RR.below HX3.out hb⟩
  replace HR4 : Aside0 (RR w12 lo4 hi4 v4 R) := ⟨RR.below HR4.out hb⟩
  replace HX5 : Aside0 (RR w12 w7.heap.size w8.heap.size v5 l) := ⟨RR.below HX5.out hb⟩
  replace HW : Aside0 (Below w.heap.size w w12) := ⟨below_step HW.out hb⟩
  clear hb
  go_wp2_with (fail)
  refine (HMI.out _ _ _ HW.out HI4.out).mono ?_
  rintro e w13 ⟨rfl, hI_, hB_, hk_⟩
  have hs_w13 := hk_.1
  (try simp at hs_w13)
  replace HX1 : Aside0 (RR w13 w1.heap.size w2.heap.size v1 l) := ⟨RR.keep HX1.out hk_.1 (fun k_ h1_ h2_ => hk_.2 k_ (by omega) (fun e_ => by have p1_ := P_HI4.out k_ e_; have p2_ := F_HI4.out k_ e_; omega))⟩
  replace HR2 : Aside0 (RR w13 lo2 hi2 v2 R) := ⟨RR.keep HR2.out hk_.1 (fun k_ h1_ h2_ => hk_.2 k_ (by omega) (fun e_ => by have p1_ := P_HI4.out k_ e_; have p2_ := F_HI4.out k_ e_; omega))⟩
  replace HX3 : Aside0 (RR w13 w3.heap.size w4.heap.size v3 (markR l 1)) := ⟨RR.keep HX3.out hk_.1 (fun k_ h1_ h2_ => hk_.2 k_ (by omega) (fun e_ => by have p1_ := P_HI4.out k_ e_; have p2_ := F_HI4.out k_ e_; omega))⟩
  replace HR4 : Aside0 (RR w13 lo4 hi4 v4 R) := ⟨RR.keep HR4.out hk_.1 (fun k_ h1_ h2_ => hk_.2 k_ (by omega) (fun e_ => by have p1_ := P_HI4.out k_ e_; have p2_ := F_HI4.out k_ e_; omega))⟩
  replace HX5 : Aside0 (RR w13 w7.heap.size w8.heap.size v5 l) := ⟨RR.keep HX5.out hk_.1 (fun k_ h1_ h2_ => hk_.2 k_ (by omega) (fun e_ => by have p1_ := P_HI4.out k_ e_; have p2_ := F_HI4.out k_ e_; omega))⟩
  replace HI2 : Aside0 (Iw w13 w.heap.size u2 T) := ⟨own_move HI2.out (fun k_ e_ => hk_.2 k_ (own_lt HI2.out k_ e_) (fun e2_ => by have p1_ := P_HI2.out k_ e_; have p2_ := P_HI4.out k_ e2_; omega))⟩
  replace HW : Aside0 (Below w.heap.size w w13) := ⟨hB_⟩
  replace HI4 : Aside0 (Iw w13 w.heap.size u4 TM) := ⟨hI_⟩
  clear hI_ hB_ hk_
  go_wp2_with (fail)
  refine (HMR.out _ _ _ _ HR4.out).mono ?_
  rintro e w14 ⟨rfl, hR_, hk_⟩
  have hs_w14 := hk_.below.size
  (try simp at hs_w14)
  replace HI2 : Aside0 (Iw w14 w.heap.size u2 T) := ⟨own_move HI2.out (fun k_ e_ => hk_.keep k_ (own_lt HI2.out k_ e_) (by have p1_ := P_HI2.out k_ e_; have p2_ := F_HI2.out k_ e_; omega))⟩
  replace HI4 : Aside0 (Iw w14 w.heap.size u4 TM) := ⟨own_move HI4.out (fun k_ e_ => hk_.keep k_ (own_lt HI4.out k_ e_) (by have p1_ := P_HI4.out k_ e_; have p2_ := F_HI4.out k_ e_; omega))⟩
  replace HX1 : Aside0 (RR w14 w1.heap.size w2.heap.size v1 l) := ⟨RR.keep HX1.out hk_.below.size (fun k_ h1_ h2_ => hk_.keep k_ (by omega) (by omega))⟩
  replace HR2 : Aside0 (RR w14 lo2 hi2 v2 R) := ⟨RR.keep HR2.out hk_.below.size (fun k_ h1_ h2_ => hk_.keep k_ (by omega) (by omega))⟩
  replace HX3 : Aside0 (RR w14 w3.heap.size w4.heap.size v3 (markR l 1)) := ⟨RR.keep HX3.out hk_.below.size (fun k_ h1_ h2_ => hk_.keep k_ (by omega) (by omega))⟩
  replace HX5 : Aside0 (RR w14 w7.heap.size w8.heap.size v5 l) := ⟨RR.keep HX5.out hk_.below.size (fun k_ h1_ h2_ => hk_.keep k_ (by omega) (by omega))⟩
  replace HW : Aside0 (Below w.heap.size w w14) := ⟨KpI.below_ HW.out hk_ (by omega)⟩
  replace HR4 : Aside0 (RR w14 lo4 hi4 v4 (markR R k3)) := ⟨hR_⟩
  clear hR_ hk_
  go_wp2_with (fail)
  refine (HHI.out _ _ _ HI4.out).mono ?_
  rintro e w15 ⟨rfl, hb⟩
  have hs_w15 := Below.size hb
  (try simp at hs_w15)
  replace HI2 : Aside0 (Iw w15 w.heap.size u2 T) := ⟨Iw.below HI2.out hb⟩
  replace HI4 : Aside0 (Iw w15 w.heap.size u4 TM) := ⟨Iw.below HI4.out hb⟩
  replace HX1 : Aside0 (RR w15 w1.heap.size w2.heap.size v1 l) := ⟨RR.below HX1.out hb⟩
  replace HR2 : Aside0 (RR w15 lo2 hi2 v2 R) := ⟨RR.below HR2.out hb⟩
  replace HX3 : Aside0 (RR w15 w3.heap.size w4.heap.size v3 (markR l 1)) := ⟨RR.below HX3.out hb⟩
  replace HR4 : Aside0 (RR w15 lo4 hi4 v4 (markR R k3)) := ⟨RR.below HR4.out hb⟩
  replace HX5 : Aside0 (RR w15 w7.heap.size w8.heap.size v5 l) := ⟨RR.below HX5.out hb⟩
  replace HW : Aside0 (Below w.heap.size w w15) := ⟨below_step HW.out hb⟩
  clear hb
  go_wp2_with (fail)
  refine (HHR.out _ _ _ _ HR4.out).mono ?_
  rintro e w16 ⟨rfl, hb⟩
  have hs_w16 := Below.size hb
  (try simp at hs_w16)
  replace HI2 : Aside0 (Iw w16 w.heap.size u2 T) := ⟨Iw.below HI2.out hb⟩
  replace HI4 : Aside0 (Iw w16 w.heap.size u4 TM) := ⟨Iw.below HI4.out hb⟩
  replace HX1 : Aside0 (RR w16 w1.heap.size w2.heap.size v1 l) := ⟨RR.below HX1.out hb⟩
  replace HR2 : Aside0 (RR w16 lo2 hi2 v2 R) := ⟨RR.below HR2.out hb⟩
  replace HX3 : Aside0 (RR w16 w3.heap.size w4.heap.size v3 (markR l 1)) := ⟨RR.below HX3.out hb⟩
  replace HR4 : Aside0 (RR w16 lo4 hi4 v4 (markR R k3)) := ⟨RR.below HR4.out hb⟩
  replace HX5 : Aside0 (RR w16 w7.heap.size w8.heap.size v5 l) := ⟨RR.below HX5.out hb⟩
  replace HW : Aside0 (Below w.heap.size w w16) := ⟨below_step HW.out hb⟩
  clear hb
  go_wp2_with (fail)
  refine (HTO.out _ (Kd.C_below HL.out HW.out)).mono ?_
  rintro e w17 ⟨v6, rfl, hY_, hb⟩
  have hs_w17 := Below.size hb
  (try simp at hs_w17)
  replace HI2 : Aside0 (Iw w17 w.heap.size u2 T) := ⟨Iw.below HI2.out hb⟩
  replace HI4 : Aside0 (Iw w17 w.heap.size u4 TM) := ⟨Iw.below HI4.out hb⟩
  replace HX1 : Aside0 (RR w17 w1.heap.size w2.heap.size v1 l) := ⟨RR.below HX1.out hb⟩
  replace HR2 : Aside0 (RR w17 lo2 hi2 v2 R) := ⟨RR.below HR2.out hb⟩
  replace HX3 : Aside0 (RR w17 w3.heap.size w4.heap.size v3 (markR l 1)) := ⟨RR.below HX3.out hb⟩
  replace HR4 : Aside0 (RR w17 lo4 hi4 v4 (markR R k3)) := ⟨RR.below HR4.out hb⟩
  replace HX5 : Aside0 (RR w17 w7.heap.size w8.heap.size v5 l) := ⟨RR.below HX5.out hb⟩
  replace HW : Aside0 (Below w.heap.size w w17) := ⟨below_step HW.out hb⟩
  clear hb
  have HX6 : Aside0 (RR w17 w16.heap.size w17.heap.size v6 l) := ⟨hY_⟩
  clear hY_
  go_wp2_with (fail)
  refine (HIM.out _ _ _ _ HX6.out).mono ?_
  rintro e w18 ⟨u7, v7, lo7, hi7, rfl, hA_, hB_, hC_, hY_, hI_, hF_, hb⟩
  have hs_w18 := Below.size hb
  (try simp at hs_w18)
  replace HI2 : Aside0 (Iw w18 w.heap.size u2 T) := ⟨Iw.below HI2.out hb⟩
  replace HI4 : Aside0 (Iw w18 w.heap.size u4 TM) := ⟨Iw.below HI4.out hb⟩
  replace HX1 : Aside0 (RR w18 w1.heap.size w2.heap.size v1 l) := ⟨RR.below HX1.out hb⟩
  replace HR2 : Aside0 (RR w18 lo2 hi2 v2 R) := ⟨RR.below HR2.out hb⟩
  replace HX3 : Aside0 (RR w18 w3.heap.size w4.heap.size v3 (markR l 1)) := ⟨RR.below HX3.out hb⟩
  replace HR4 : Aside0 (RR w18 lo4 hi4 v4 (markR R k3)) := ⟨RR.below HR4.out hb⟩
  replace HX5 : Aside0 (RR w18 w7.heap.size w8.heap.size v5 l) := ⟨RR.below HX5.out hb⟩
  replace HX6 : Aside0 (RR w18 w16.heap.size w17.heap.size v6 l) := ⟨RR.below HX6.out hb⟩
  replace HW : Aside0 (Below w.heap.size w w18) := ⟨below_step HW.out hb⟩
  clear hb
  have P_HI7 : Aside0 (∀ k_, Value.ownBlock u7 = some k_ → w17.heap.size ≤ k_ ∧ k_ < w18.heap.size) := ⟨fun k_ e_ => ⟨own_base hI_ k_ e_, own_lt hI_ k_ e_⟩⟩
  have F_HI7 := Aside0.mk hF_
  have HR7 : Aside0 (RR w18 lo7 hi7 v7 R) := ⟨hY_⟩
  have HI7 : Aside0 (Iw w18 w.heap.size u7 T) := ⟨own_weaken hI_ (by omega)⟩
  clear hY_ hI_ hF_
  go_wp2_with (fail)
  refine (HEI.out _ _ _ _ _ HI7.out HI2.out).mono ?_
  rintro e w19 ⟨rfl, hb⟩
  have hs_w19 := Below.size hb
  (try simp at hs_w19)
  replace HI2 : Aside0 (Iw w19 w.heap.size u2 T) := ⟨Iw.below HI2.out hb⟩
  replace HI4 : Aside0 (Iw w19 w.heap.size u4 TM) := ⟨Iw.below HI4.out hb⟩
  replace HI7 : Aside0 (Iw w19 w.heap.size u7 T) := ⟨Iw.below HI7.out hb⟩
  replace HX1 : Aside0 (RR w19 w1.heap.size w2.heap.size v1 l) := ⟨RR.below HX1.out hb⟩
  replace HR2 : Aside0 (RR w19 lo2 hi2 v2 R) := ⟨RR.below HR2.out hb⟩
  replace HX3 : Aside0 (RR w19 w3.heap.size w4.heap.size v3 (markR l 1)) := ⟨RR.below HX3.out hb⟩
  replace HR4 : Aside0 (RR w19 lo4 hi4 v4 (markR R k3)) := ⟨RR.below HR4.out hb⟩
  replace HX5 : Aside0 (RR w19 w7.heap.size w8.heap.size v5 l) := ⟨RR.below HX5.out hb⟩
  replace HX6 : Aside0 (RR w19 w16.heap.size w17.heap.size v6 l) := ⟨RR.below HX6.out hb⟩
  replace HR7 : Aside0 (RR w19 lo7 hi7 v7 R) := ⟨RR.below HR7.out hb⟩
  replace HW : Aside0 (Below w.heap.size w w19) := ⟨below_step HW.out hb⟩
  clear hb
  go_wp2_with (fail)
  refine (HER.out _ _ _ _ _ _ _ HR7.out HR2.out).mono ?_
  rintro e w20 ⟨rfl, hb⟩
  have hs_w20 := Below.size hb
  (try simp at hs_w20)
  replace HI2 : Aside0 (Iw w20 w.heap.size u2 T) := ⟨Iw.below HI2.out hb⟩
  replace HI4 : Aside0 (Iw w20 w.heap.size u4 TM) := ⟨Iw.below HI4.out hb⟩
  replace HI7 : Aside0 (Iw w20 w.heap.size u7 T) := ⟨Iw.below HI7.out hb⟩
  replace HX1 : Aside0 (RR w20 w1.heap.size w2.heap.size v1 l) := ⟨RR.below HX1.out hb⟩
  replace HR2 : Aside0 (RR w20 lo2 hi2 v2 R) := ⟨RR.below HR2.out hb⟩
  replace HX3 : Aside0 (RR w20 w3.heap.size w4.heap.size v3 (markR l 1)) := ⟨RR.below HX3.out hb⟩
  replace HR4 : Aside0 (RR w20 lo4 hi4 v4 (markR R k3)) := ⟨RR.below HR4.out hb⟩
  replace HX5 : Aside0 (RR w20 w7.heap.size w8.heap.size v5 l) := ⟨RR.below HX5.out hb⟩
  replace HX6 : Aside0 (RR w20 w16.heap.size w17.heap.size v6 l) := ⟨RR.below HX6.out hb⟩
  replace HR7 : Aside0 (RR w20 lo7 hi7 v7 R) := ⟨RR.below HR7.out hb⟩
  replace HW : Aside0 (Below w.heap.size w w20) := ⟨below_step HW.out hb⟩
  clear hb
  go_wp2_with (fail)
  refine (HHI.out _ _ _ HI4.out).mono ?_
  rintro e w21 ⟨rfl, hb⟩
  have hs_w21 := Below.size hb
  (try simp at hs_w21)
  replace HI2 : Aside0 (Iw w21 w.heap.size u2 T) := ⟨Iw.below HI2.out hb⟩
  replace HI4 : Aside0 (Iw w21 w.heap.size u4 TM) := ⟨Iw.below HI4.out hb⟩
  replace HI7 : Aside0 (Iw w21 w.heap.size u7 T) := ⟨Iw.below HI7.out hb⟩
  replace HX1 : Aside0 (RR w21 w1.heap.size w2.heap.size v1 l) := ⟨RR.below HX1.out hb⟩
  replace HR2 : Aside0 (RR w21 lo2 hi2 v2 R) := ⟨RR.below HR2.out hb⟩
  replace HX3 : Aside0 (RR w21 w3.heap.size w4.heap.size v3 (markR l 1)) := ⟨RR.below HX3.out hb⟩
  replace HR4 : Aside0 (RR w21 lo4 hi4 v4 (markR R k3)) := ⟨RR.below HR4.out hb⟩
  replace HX5 : Aside0 (RR w21 w7.heap.size w8.heap.size v5 l) := ⟨RR.below HX5.out hb⟩
  replace HX6 : Aside0 (RR w21 w16.heap.size w17.heap.size v6 l) := ⟨RR.below HX6.out hb⟩
  replace HR7 : Aside0 (RR w21 lo7 hi7 v7 R) := ⟨RR.below HR7.out hb⟩
  replace HW : Aside0 (Below w.heap.size w w21) := ⟨below_step HW.out hb⟩
  clear hb
  go_wp2_with (fail)
  refine (HHR.out _ _ _ _ HR4.out).mono ?_
  rintro e w22 ⟨rfl, hb⟩
  have hs_w22 := Below.size hb
  (try simp at hs_w22)
  replace HI2 : Aside0 (Iw w22 w.heap.size u2 T) := ⟨Iw.below HI2.out hb⟩
  replace HI4 : Aside0 (Iw w22 w.heap.size u4 TM) := ⟨Iw.below HI4.out hb⟩
  replace HI7 : Aside0 (Iw w22 w.heap.size u7 T) := ⟨Iw.below HI7.out hb⟩
  replace HX1 : Aside0 (RR w22 w1.heap.size w2.heap.size v1 l) := ⟨RR.below HX1.out hb⟩
  replace HR2 : Aside0 (RR w22 lo2 hi2 v2 R) := ⟨RR.below HR2.out hb⟩
  replace HX3 : Aside0 (RR w22 w3.heap.size w4.heap.size v3 (markR l 1)) := ⟨RR.below HX3.out hb⟩
  replace HR4 : Aside0 (RR w22 lo4 hi4 v4 (markR R k3)) := ⟨RR.below HR4.out hb⟩
  replace HX5 : Aside0 (RR w22 w7.heap.size w8.heap.size v5 l) := ⟨RR.below HX5.out hb⟩
  replace HX6 : Aside0 (RR w22 w16.heap.size w17.heap.size v6 l) := ⟨RR.below HX6.out hb⟩
  replace HR7 : Aside0 (RR w22 lo7 hi7 v7 R) := ⟨RR.below HR7.out hb⟩
  replace HW : Aside0 (Below w.heap.size w w22) := ⟨below_step HW.out hb⟩
  clear hb
  go_wp2
  go_ret
  exact ⟨rfl, HW.out⟩
set_option maxHeartbeats 8000000 in
set_option maxRecDepth 100000 in
theorem lawOl_big (A0 : Option Addr) (c0 : Nat) (l : List (List Int)) (a : Int) (hc : l.length ≤ c0) (r : Int) (hr0 : r < 0) (hr : ∀ k, 1048577 < k → laws_szInt64SS.f k l 1048576 = some r) (w : World) (hL : (Kd.slice 2 (Kd.int .i64)).C w A0 l.length l) :
    Calls Try.prog 6 #[.slice A0 l.length c0, .int .i64 a] w fun e w' => e = .returned (.bool true) ∧ Below w.heap.size w w' := by
  have HL := Aside0.mk hL
  have HW : Aside0 (Below w.heap.size w w) := ⟨Below.refl _ _⟩
  have HSZ := Aside0.mk (fun W h => szB l A0 c0 hc r hr W h)
  clear hL hr
  go_enter Try.func6, Try.ntmps6
  go_wp2_with (fail)
  refine (HSZ.out _ (Kd.C_below HL.out HW.out)).mono ?_
  rintro e w1 ⟨rfl, hb⟩
  have hs_w1 := Below.size hb
  (try simp at hs_w1)
  replace HW : Aside0 (Below w.heap.size w w1) := ⟨below_step HW.out hb⟩
  clear hb
  go_wp2
  go_ret
  exact ⟨rfl, HW.out⟩
theorem lawOl_calls (A0 : Option Addr) (c0 : Nat) (l : List (List Int)) (a : Int) (ha : a ≤ 9223372036854775807) (hc : l.length ≤ c0) (w : World) (hL : (Kd.slice 2 (Kd.int .i64)).C w A0 l.length l) :
    Calls Try.prog 6 #[.slice A0 l.length c0, .int .i64 a] w fun e w' => e = .returned (.bool true) ∧ Below w.heap.size w w' := by
  obtain ⟨r, h1, h2⟩ := szSS_f (Kd.C_max hL) (rows_max hL)
  by_cases hn : 0 ≤ r
  · obtain ⟨hl, hf⟩ := h2 hn
    obtain ⟨hT, hRl, hRf⟩ := oldR_small (a := a) hl hf
    exact lawOl A0 c0 l a (oldR l a).1 (oldR l a).2.1 (oldR l a).2.2 hl hf hc hT hRl hRf r hn h1 (fun v0 lo hi W h => specOld l a ha hl hf lo hi v0 W h) (fun v0 lo hi W h => implOld l a hl hf lo hi v0 W h) w hL
  · exact lawOl_big A0 c0 l a hc r (by omega) h1 w hL
end Go.Proofs.Ytkjligoamechkaa.X
