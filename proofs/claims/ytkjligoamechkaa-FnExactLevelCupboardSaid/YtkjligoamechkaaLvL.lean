/- Contracts of functions, and plain facts: what each call answers, and what it leaves as it was. -/
import Derived.Test.YtkjligoamechkaaLevW
set_option linter.unusedVariables false
set_option linter.unusedSimpArgs false
namespace Go.Proofs.Ytkjligoamechkaa.X
open Go.RowKit Go.Proofs.YtkjligoamechkaaW.PrintWords Go.Proofs.YtkjligoamechkaaW.PrintLast Go.Proofs.YtkjligoamechkaaW.PrintMore
attribute [local go_sem] max2_int min2_int max_two min_two max_three min_three max_four min_four
set_option maxHeartbeats 8000000 in
set_option maxRecDepth 100000 in
theorem specLev_no (l : List (List Int)) (hl : l.length ≤ 1048576) (hf : l.flatten.length ≤ 1048576) (lo hi : Nat) (v0 : Value) (w : World) (hX : RR w lo hi v0 l) (hg : good0 l 0 = false) :
    Calls Try.prog 25 #[v0] w fun e w' => ∃ v : Value, e = .returned (.tuple #[v, .int .i64 0, .int .i64 1]) ∧ RR w' w.heap.size w'.heap.size v [] ∧ Below w.heap.size w w' := by
  obtain ⟨A, c, rfl, hc, hC⟩ := hX.reads hl (row_small hf)
  have HL := Aside0.mk hC
  have HW : Aside0 (Below w.heap.size w w) := ⟨Below.refl _ _⟩
  have HCU := Aside0.mk (fun W h => cupS l hl hf A c hc W h)
  rw [hg] at HCU
  clear hC hX hg
  go_enter Try.func25, Try.ntmps25
  go_wp2_with (fail)
  refine (HCU.out _ (Kd.C_below HL.out (by with_reducible repeat (first | exact HW.out | refine Blk.alloc ?_ _ | refine Rw.alloc ?_ _ | refine Arg.alloc ?_ _ | apply below_alloc | refine Blk.drew ?_ | refine Rw.drew ?_ | refine Arg.drew ?_ | apply below_drew | refine Blk.drewN ?_ _ | refine Rw.drewN ?_ _ | refine Arg.drewN ?_ _ | apply pw_below_drewN)))).mono ?_
  rintro e w1 ⟨rfl, hb⟩
  have hs_w1 := Below.size hb
  (try simp at hs_w1)
  replace HW : Aside0 (Below w.heap.size w w1) := ⟨below_step (by with_reducible repeat (first | exact HW.out | refine Blk.alloc ?_ _ | refine Rw.alloc ?_ _ | refine Arg.alloc ?_ _ | apply below_alloc | refine Blk.drew ?_ | refine Rw.drew ?_ | refine Arg.drew ?_ | apply below_drew | refine Blk.drewN ?_ _ | refine Rw.drewN ?_ _ | refine Arg.drewN ?_ _ | apply pw_below_drewN)) hb⟩
  clear hb
  go_wp2
  go_ret3
  exact ⟨_, rfl, RR.empty _ _ _ _ _, by repeat (first | exact HW.out | refine below_alloc ?_ _)⟩
set_option maxHeartbeats 8000000 in
set_option maxRecDepth 100000 in
theorem implLev_no (l : List (List Int)) (hl : l.length ≤ 1048576) (hf : l.flatten.length ≤ 1048576) (lo hi : Nat) (v0 : Value) (w : World) (hX : RR w lo hi v0 l) (hg : good0 l 0 = false) :
    Calls Try.prog 26 #[v0] w fun e w' => ∃ v : Value, e = .returned (.tuple #[v, .int .i64 0, .int .i64 1]) ∧ RR w' w.heap.size w'.heap.size v [] ∧ Below w.heap.size w w' := by
  obtain ⟨A, c, rfl, hc, hC⟩ := hX.reads hl (row_small hf)
  have HL := Aside0.mk hC
  have HW : Aside0 (Below w.heap.size w w) := ⟨Below.refl _ _⟩
  have HCU := Aside0.mk (fun W h => cupI l hf A c hc W h)
  rw [hg] at HCU
  clear hC hX hg
  go_enter Try.func26, Try.ntmps26
  go_wp2_with (fail)
  refine (HCU.out _ (Kd.C_below HL.out (by with_reducible repeat (first | exact HW.out | refine Blk.alloc ?_ _ | refine Rw.alloc ?_ _ | refine Arg.alloc ?_ _ | apply below_alloc | refine Blk.drew ?_ | refine Rw.drew ?_ | refine Arg.drew ?_ | apply below_drew | refine Blk.drewN ?_ _ | refine Rw.drewN ?_ _ | refine Arg.drewN ?_ _ | apply pw_below_drewN)))).mono ?_
  rintro e w1 ⟨rfl, hb⟩
  have hs_w1 := Below.size hb
  (try simp at hs_w1)
  replace HW : Aside0 (Below w.heap.size w w1) := ⟨below_step (by with_reducible repeat (first | exact HW.out | refine Blk.alloc ?_ _ | refine Rw.alloc ?_ _ | refine Arg.alloc ?_ _ | apply below_alloc | refine Blk.drew ?_ | refine Rw.drew ?_ | refine Arg.drew ?_ | apply below_drew | refine Blk.drewN ?_ _ | refine Rw.drewN ?_ _ | refine Arg.drewN ?_ _ | apply pw_below_drewN)) hb⟩
  clear hb
  go_wp2
  go_ret3
  exact ⟨_, rfl, RR.empty _ _ _ _ _, by repeat (first | exact HW.out | refine below_alloc ?_ _)⟩
set_option maxHeartbeats 8000000 in
set_option maxRecDepth 100000 in
theorem lawLv (A0 : Option Addr) (c0 : Nat) (l : List (List Int))  (R : List (List Int)) (s code : Int) (hl : l.length ≤ 1048576) (hf : l.flatten.length ≤ 1048576) (hc : l.length ≤ c0) (hRl : R.length ≤ 1048576) (hRf : R.flatten.length ≤ 1048576) (r : Int) (hr0 : 0 ≤ r) (hr : ∀ k, 1048577 < k → laws_szInt64SS.f k l 1048576 = some r) (hsp : (∀ (v0 : Value) (lo hi : Nat) (W : World), RR W lo hi v0 l → Calls Try.prog 25 #[v0] W fun e w' => ∃ v : Value, e = .returned (.tuple #[v, .int .i64 s, .int .i64 code]) ∧ RR w' W.heap.size w'.heap.size v R ∧ Below W.heap.size W w')) (him : (∀ (v0 : Value) (lo hi : Nat) (W : World), RR W lo hi v0 l → Calls Try.prog 26 #[v0] W fun e w' => ∃ v : Value, e = .returned (.tuple #[v, .int .i64 s, .int .i64 code]) ∧ RR w' W.heap.size w'.heap.size v R ∧ Below W.heap.size W w')) (w : World) (hL : (Kd.slice 2 (Kd.int .i64)).C w A0 l.length l) :
    Calls Try.prog 7 #[.slice A0 l.length c0] w fun e w' => e = .returned (.bool true) ∧ Below w.heap.size w w' := by
  have HL := Aside0.mk hL
  have HW : Aside0 (Below w.heap.size w w) := ⟨Below.refl _ _⟩
  have HSZ := Aside0.mk (fun W h => szB l A0 c0 hc r hr W h)
  have HTO := Aside0.mk (fun W h => toRR l A0 c0 hc hl hf W h)
  have HEX := Aside0.mk (fun v v' lo hi lo' hi' W h h' => eqRR l hl hf v v' lo hi lo' hi' W h h')
  have HER := Aside0.mk (fun v v' lo hi lo' hi' W h h' => eqRR R hRl hRf v v' lo hi lo' hi' W h h')
  have HMX := Aside0.mk (fun lo hi v W h => markRR_calls l 1 (by decide) (by decide) hl hf lo hi v W h)
  have HMR := Aside0.mk (fun lo hi v W h => markRR_calls R 1 (by decide) (by decide) hRl hRf lo hi v W h)
  have HHR := Aside0.mk (fun v lo hi W h => heldRR R 1 (by decide) (by decide) hRl hRf v lo hi W h)
  have HSP := Aside0.mk hsp
  have HIM := Aside0.mk him
  have q1 : 0 ≤ (1 : Int) + (l.flatten.length : Int) := by omega
  have q2 : 0 ≤ (1 : Int) + (R.flatten.length : Int) := by omega
  obtain ⟨k1, e1⟩ : ∃ k1, (1 : Int) + (l.flatten.length : Int) = k1 := ⟨_, rfl⟩
  obtain ⟨k2, e2⟩ : ∃ k2, (1 : Int) + (R.flatten.length : Int) = k2 := ⟨_, rfl⟩
  rw [e1] at HMX q1
  rw [e2] at HMR HHR q2
  clear e1 e2 hL hsp him hr
  go_enter Try.func7, Try.ntmps7
  go_wp2_with (fail)
  refine (HSZ.out _ (Kd.C_below HL.out HW.out)).mono ?_
  rintro e w1 ⟨rfl, hb⟩
  have hs_w1 := Below.size hb
  (try simp at hs_w1)
  replace HW : Aside0 (Below w.heap.size w w1) := ⟨below_step HW.out hb⟩
  clear hb
  go_wp2_with (fail)
  refine (HTO.out _ (Kd.C_below HL.out HW.out)).mono ?_
  rintro e w2 ⟨v1, rfl, hY_, hb⟩
  have hs_w2 := Below.size hb
  (try simp at hs_w2)
  replace HW : Aside0 (Below w.heap.size w w2) := ⟨below_step HW.out hb⟩
  clear hb
  have HX1 : Aside0 (RR w2 w1.heap.size w2.heap.size v1 l) := ⟨hY_⟩
  clear hY_
  go_wp2_with (fail)
  refine (HSP.out _ _ _ _ HX1.out).mono ?_
  rintro e w3 ⟨v2, rfl, hY_, hb⟩
  have hs_w3 := Below.size hb
  (try simp at hs_w3)
  replace HX1 : Aside0 (RR w3 w1.heap.size w2.heap.size v1 l) := ⟨RR.below HX1.out hb⟩
  replace HW : Aside0 (Below w.heap.size w w3) := ⟨below_step HW.out hb⟩
  clear hb
  have HR2 : Aside0 (RR w3 w2.heap.size w3.heap.size v2 R) := ⟨hY_⟩
  clear hY_
  go_wp2_with (fail)
  refine (HTO.out _ (Kd.C_below HL.out HW.out)).mono ?_
  rintro e w4 ⟨v3, rfl, hY_, hb⟩
  have hs_w4 := Below.size hb
  (try simp at hs_w4)
  replace HX1 : Aside0 (RR w4 w1.heap.size w2.heap.size v1 l) := ⟨RR.below HX1.out hb⟩
  replace HR2 : Aside0 (RR w4 w2.heap.size w3.heap.size v2 R) := ⟨RR.below HR2.out hb⟩
  replace HW : Aside0 (Below w.heap.size w w4) := ⟨below_step HW.out hb⟩
  clear hb
  have HX3 : Aside0 (RR w4 w3.heap.size w4.heap.size v3 l) := ⟨hY_⟩
  clear hY_
  go_wp2_with (fail)
  refine (HIM.out _ _ _ _ HX3.out).mono ?_
  rintro e w5 ⟨v4, rfl, hY_, hb⟩
  have hs_w5 := Below.size hb
  (try simp at hs_w5)
  replace HX1 : Aside0 (RR w5 w1.heap.size w2.heap.size v1 l) := ⟨RR.below HX1.out hb⟩
  replace HR2 : Aside0 (RR w5 w2.heap.size w3.heap.size v2 R) := ⟨RR.below HR2.out hb⟩
  replace HX3 : Aside0 (RR w5 w3.heap.size w4.heap.size v3 l) := ⟨RR.below HX3.out hb⟩
  replace HW : Aside0 (Below w.heap.size w w5) := ⟨below_step HW.out hb⟩
  clear hb
  have HR4 : Aside0 (RR w5 w4.heap.size w5.heap.size v4 R) := ⟨hY_⟩
  clear hY_
  go_wp2_with (fail)
  refine (HER.out _ _ _ _ _ _ _ HR4.out HR2.out).mono ?_
  rintro e w6 ⟨rfl, hb⟩
  have hs_w6 := Below.size hb
  (try simp at hs_w6)
  replace HX1 : Aside0 (RR w6 w1.heap.size w2.heap.size v1 l) := ⟨RR.below HX1.out hb⟩
  replace HR2 : Aside0 (RR w6 w2.heap.size w3.heap.size v2 R) := ⟨RR.below HR2.out hb⟩
  replace HX3 : Aside0 (RR w6 w3.heap.size w4.heap.size v3 l) := ⟨RR.below HX3.out hb⟩
  replace HR4 : Aside0 (RR w6 w4.heap.size w5.heap.size v4 R) := ⟨RR.below HR4.out hb⟩
  replace HW : Aside0 (Below w.heap.size w w6) := ⟨below_step HW.out hb⟩
  clear hb
  go_wp2_with (fail)
  refine (HTO.out _ (Kd.C_below HL.out HW.out)).mono ?_
  rintro e w7 ⟨v5, rfl, hY_, hb⟩
  have hs_w7 := Below.size hb
  (try simp at hs_w7)
  replace HX1 : Aside0 (RR w7 w1.heap.size w2.heap.size v1 l) := ⟨RR.below HX1.out hb⟩
  replace HR2 : Aside0 (RR w7 w2.heap.size w3.heap.size v2 R) := ⟨RR.below HR2.out hb⟩
  replace HX3 : Aside0 (RR w7 w3.heap.size w4.heap.size v3 l) := ⟨RR.below HX3.out hb⟩
  replace HR4 : Aside0 (RR w7 w4.heap.size w5.heap.size v4 R) := ⟨RR.below HR4.out hb⟩
  replace HW : Aside0 (Below w.heap.size w w7) := ⟨below_step HW.out hb⟩
  clear hb
  have HX5 : Aside0 (RR w7 w6.heap.size w7.heap.size v5 l) := ⟨hY_⟩
  clear hY_
  go_wp2_with (fail)
  refine (HEX.out _ _ _ _ _ _ _ HX3.out HX5.out).mono ?_
  rintro e w8 ⟨rfl, hb⟩
  have hs_w8 := Below.size hb
  (try simp at hs_w8)
  replace HX1 : Aside0 (RR w8 w1.heap.size w2.heap.size v1 l) := ⟨RR.below HX1.out hb⟩
  replace HR2 : Aside0 (RR w8 w2.heap.size w3.heap.size v2 R) := ⟨RR.below HR2.out hb⟩
  replace HX3 : Aside0 (RR w8 w3.heap.size w4.heap.size v3 l) := ⟨RR.below HX3.out hb⟩
  replace HR4 : Aside0 (RR w8 w4.heap.size w5.heap.size v4 R) := ⟨RR.below HR4.out hb⟩
  replace HX5 : Aside0 (RR w8 w6.heap.size w7.heap.size v5 l) := ⟨RR.below HX5.out hb⟩
  replace HW : Aside0 (Below w.heap.size w w8) := ⟨below_step HW.out hb⟩
  clear hb
  go_wp2_with (fail)
  refine (HMX.out _ _ _ _ HX3.out).mono ?_
  rintro e w9 ⟨rfl, hR_, hk_⟩
  have hs_w9 := hk_.below.size
  (try simp at hs_w9)
  replace HX1 : Aside0 (RR w9 w1.heap.size w2.heap.size v1 l) := ⟨RR.keep HX1.out hk_.below.size (fun k_ h1_ h2_ => hk_.keep k_ (by omega) (by omega))⟩
  replace HR2 : Aside0 (RR w9 w2.heap.size w3.heap.size v2 R) := ⟨RR.keep HR2.out hk_.below.size (fun k_ h1_ h2_ => hk_.keep k_ (by omega) (by omega))⟩
  replace HR4 : Aside0 (RR w9 w4.heap.size w5.heap.size v4 R) := ⟨RR.keep HR4.out hk_.below.size (fun k_ h1_ h2_ => hk_.keep k_ (by omega) (by omega))⟩
  replace HX5 : Aside0 (RR w9 w6.heap.size w7.heap.size v5 l) := ⟨RR.keep HX5.out hk_.below.size (fun k_ h1_ h2_ => hk_.keep k_ (by omega) (by omega))⟩
  replace HW : Aside0 (Below w.heap.size w w9) := ⟨KpI.below_ HW.out hk_ (by omega)⟩
  replace HX3 : Aside0 (RR w9 w3.heap.size w4.heap.size v3 (markR l 1)) := ⟨hR_⟩
  clear hR_ hk_
  go_wp2_with (fail)
  refine (HER.out _ _ _ _ _ _ _ HR4.out HR2.out).mono ?_
  rintro e w10 ⟨rfl, hb⟩
  have hs_w10 := Below.size hb
  (try simp at hs_w10)
  replace HX1 : Aside0 (RR w10 w1.heap.size w2.heap.size v1 l) := ⟨RR.below HX1.out hb⟩
  replace HR2 : Aside0 (RR w10 w2.heap.size w3.heap.size v2 R) := ⟨RR.below HR2.out hb⟩
  replace HX3 : Aside0 (RR w10 w3.heap.size w4.heap.size v3 (markR l 1)) := ⟨RR.below HX3.out hb⟩
  replace HR4 : Aside0 (RR w10 w4.heap.size w5.heap.size v4 R) := ⟨RR.below HR4.out hb⟩
  replace HX5 : Aside0 (RR w10 w6.heap.size w7.heap.size v5 l) := ⟨RR.below HX5.out hb⟩
  replace HW : Aside0 (Below w.heap.size w w10) := ⟨below_step HW.out hb⟩
  clear hb
  go_wp2_with (fail)
  refine (HMR.out _ _ _ _ HR4.out).mono ?_
  rintro e w11 ⟨rfl, hR_, hk_⟩
  have hs_w11 := hk_.below.size
  (try simp at hs_w11)
  replace HX1 : Aside0 (RR w11 w1.heap.size w2.heap.size v1 l) := ⟨RR.keep HX1.out hk_.below.size (fun k_ h1_ h2_ => hk_.keep k_ (by omega) (by omega))⟩
  replace HR2 : Aside0 (RR w11 w2.heap.size w3.heap.size v2 R) := ⟨RR.keep HR2.out hk_.below.size (fun k_ h1_ h2_ => hk_.keep k_ (by omega) (by omega))⟩
  replace HX3 : Aside0 (RR w11 w3.heap.size w4.heap.size v3 (markR l 1)) := ⟨RR.keep HX3.out hk_.below.size (fun k_ h1_ h2_ => hk_.keep k_ (by omega) (by omega))⟩
  replace HX5 : Aside0 (RR w11 w6.heap.size w7.heap.size v5 l) := ⟨RR.keep HX5.out hk_.below.size (fun k_ h1_ h2_ => hk_.keep k_ (by omega) (by omega))⟩
  replace HW : Aside0 (Below w.heap.size w w11) := ⟨KpI.below_ HW.out hk_ (by omega)⟩
  replace HR4 : Aside0 (RR w11 w4.heap.size w5.heap.size v4 (markR R 1)) := ⟨hR_⟩
  clear hR_ hk_
  go_wp2_with (fail)
  refine (HHR.out _ _ _ _ HR4.out).mono ?_
  rintro e w12 ⟨rfl, hb⟩
  have hs_w12 := Below.size hb
  (try simp at hs_w12)
  replace HX1 : Aside0 (RR w12 w1.heap.size w2.heap.size v1 l) := ⟨RR.below HX1.out hb⟩
  replace HR2 : Aside0 (RR w12 w2.heap.size w3.heap.size v2 R) := ⟨RR.below HR2.out hb⟩
  replace HX3 : Aside0 (RR w12 w3.heap.size w4.heap.size v3 (markR l 1)) := ⟨RR.below HX3.out hb⟩
  replace HR4 : Aside0 (RR w12 w4.heap.size w5.heap.size v4 (markR R 1)) := ⟨RR.below HR4.out hb⟩
  replace HX5 : Aside0 (RR w12 w6.heap.size w7.heap.size v5 l) := ⟨RR.below HX5.out hb⟩
  replace HW : Aside0 (Below w.heap.size w w12) := ⟨below_step HW.out hb⟩
  clear hb
  go_wp2_with (fail)
  refine (HTO.out _ (Kd.C_below HL.out HW.out)).mono ?_
  rintro e w13 ⟨v6, rfl, hY_, hb⟩
  have hs_w13 := Below.size hb
  (try simp at hs_w13)
  replace HX1 : Aside0 (RR w13 w1.heap.size w2.heap.size v1 l) := ⟨RR.below HX1.out hb⟩
  replace HR2 : Aside0 (RR w13 w2.heap.size w3.heap.size v2 R) := ⟨RR.below HR2.out hb⟩
  replace HX3 : Aside0 (RR w13 w3.heap.size w4.heap.size v3 (markR l 1)) := ⟨RR.below HX3.out hb⟩
  replace HR4 : Aside0 (RR w13 w4.heap.size w5.heap.size v4 (markR R 1)) := ⟨RR.below HR4.out hb⟩
  replace HX5 : Aside0 (RR w13 w6.heap.size w7.heap.size v5 l) := ⟨RR.below HX5.out hb⟩
  replace HW : Aside0 (Below w.heap.size w w13) := ⟨below_step HW.out hb⟩
  clear hb
  have HX6 : Aside0 (RR w13 w12.heap.size w13.heap.size v6 l) := ⟨hY_⟩
  clear hY_
  go_wp2_with (fail)
  refine (HIM.out _ _ _ _ HX6.out).mono ?_
  rintro e w14 ⟨v7, rfl, hY_, hb⟩
  have hs_w14 := Below.size hb
  (try simp at hs_w14)
  replace HX1 : Aside0 (RR w14 w1.heap.size w2.heap.size v1 l) := ⟨RR.below HX1.out hb⟩
  replace HR2 : Aside0 (RR w14 w2.heap.size w3.heap.size v2 R) := ⟨RR.below HR2.out hb⟩
  replace HX3 : Aside0 (RR w14 w3.heap.size w4.heap.size v3 (markR l 1)) := ⟨RR.below HX3.out hb⟩
  replace HR4 : Aside0 (RR w14 w4.heap.size w5.heap.size v4 (markR R 1)) := ⟨RR.below HR4.out hb⟩
  replace HX5 : Aside0 (RR w14 w6.heap.size w7.heap.size v5 l) := ⟨RR.below HX5.out hb⟩
  replace HX6 : Aside0 (RR w14 w12.heap.size w13.heap.size v6 l) := ⟨RR.below HX6.out hb⟩
  replace HW : Aside0 (Below w.heap.size w w14) := ⟨below_step HW.out hb⟩
  clear hb
  have HR7 : Aside0 (RR w14 w13.heap.size w14.heap.size v7 R) := ⟨hY_⟩
  clear hY_
  go_wp2_with (fail)
  refine (HER.out _ _ _ _ _ _ _ HR7.out HR2.out).mono ?_
  rintro e w15 ⟨rfl, hb⟩
  have hs_w15 := Below.size hb
  (try simp at hs_w15)
  replace HX1 : Aside0 (RR w15 w1.heap.size w2.heap.size v1 l) := ⟨RR.below HX1.out hb⟩
  replace HR2 : Aside0 (RR w15 w2.heap.size w3.heap.size v2 R) := ⟨RR.below HR2.out hb⟩
  replace HX3 : Aside0 (RR w15 w3.heap.size w4.heap.size v3 (markR l 1)) := ⟨RR.below HX3.out hb⟩
  replace HR4 : Aside0 (RR w15 w4.heap.size w5.heap.size v4 (markR R 1)) := ⟨RR.below HR4.out hb⟩
  replace HX5 : Aside0 (RR w15 w6.heap.size w7.heap.size v5 l) := ⟨RR.below HX5.out hb⟩
  replace HX6 : Aside0 (RR w15 w12.heap.size w13.heap.size v6 l) := ⟨RR.below HX6.out hb⟩
  replace HR7 : Aside0 (RR w15 w13.heap.size w14.heap.size v7 R) := ⟨RR.below HR7.out hb⟩
  replace HW : Aside0 (Below w.heap.size w w15) := ⟨below_step HW.out hb⟩
  clear hb
  go_wp2_with (fail)
  refine (HHR.out _ _ _ _ HR4.out).mono ?_
  rintro e w16 ⟨rfl, hb⟩
  have hs_w16 := Below.size hb
  (try simp at hs_w16)
  replace HX1 : Aside0 (RR w16 w1.heap.size w2.heap.size v1 l) := ⟨RR.below HX1.out hb⟩
  replace HR2 : Aside0 (RR w16 w2.heap.size w3.heap.size v2 R) := ⟨RR.below HR2.out hb⟩
  replace HX3 : Aside0 (RR w16 w3.heap.size w4.heap.size v3 (markR l 1)) := ⟨RR.below HX3.out hb⟩
  replace HR4 : Aside0 (RR w16 w4.heap.size w5.heap.size v4 (markR R 1)) := ⟨RR.below HR4.out hb⟩
  replace HX5 : Aside0 (RR w16 w6.heap.size w7.heap.size v5 l) := ⟨RR.below HX5.out hb⟩
  replace HX6 : Aside0 (RR w16 w12.heap.size w13.heap.size v6 l) := ⟨RR.below HX6.out hb⟩
  replace HR7 : Aside0 (RR w16 w13.heap.size w14.heap.size v7 R) := ⟨RR.below HR7.out hb⟩
  replace HW : Aside0 (Below w.heap.size w w16) := ⟨below_step HW.out hb⟩
  clear hb
  go_wp2
  go_ret
  exact ⟨rfl, HW.out⟩
set_option maxHeartbeats 8000000 in
set_option maxRecDepth 100000 in
theorem lawLv_big (A0 : Option Addr) (c0 : Nat) (l : List (List Int))  (hc : l.length ≤ c0) (r : Int) (hr0 : r < 0) (hr : ∀ k, 1048577 < k → laws_szInt64SS.f k l 1048576 = some r) (w : World) (hL : (Kd.slice 2 (Kd.int .i64)).C w A0 l.length l) :
    Calls Try.prog 7 #[.slice A0 l.length c0] w fun e w' => e = .returned (.bool true) ∧ Below w.heap.size w w' := by
  have HL := Aside0.mk hL
  have HW : Aside0 (Below w.heap.size w w) := ⟨Below.refl _ _⟩
  have HSZ := Aside0.mk (fun W h => szB l A0 c0 hc r hr W h)
  clear hL hr
  go_enter Try.func7, Try.ntmps7
  go_wp2_with (fail)
  refine (HSZ.out _ (Kd.C_below HL.out HW.out)).mono ?_
  rintro e w1 ⟨rfl, hb⟩
  have hs_w1 := Below.size hb
  (try simp at hs_w1)
  replace HW : Aside0 (Below w.heap.size w w1) := ⟨below_step HW.out hb⟩
  clear hb
  go_wp2
  go_ret
  exact ⟨rfl, HW.out⟩
theorem lawLv_calls (A0 : Option Addr) (c0 : Nat) (l : List (List Int)) (hc : l.length ≤ c0) (w : World) (hL : (Kd.slice 2 (Kd.int .i64)).C w A0 l.length l) :
    Calls Try.prog 7 #[.slice A0 l.length c0] w fun e w' => e = .returned (.bool true) ∧ Below w.heap.size w w' := by
  obtain ⟨r, h1, h2⟩ := szSS_f (Kd.C_max hL) (rows_max hL)
  by_cases hn : 0 ≤ r
  · obtain ⟨hl, hf⟩ := h2 hn
    cases hg : good0 l 0
    · exact lawLv A0 c0 l [] 0 1 hl hf hc (by simp) (by simp) r hn h1 (fun v0 lo hi W h => specLev_no l hl hf lo hi v0 W h hg) (fun v0 lo hi W h => implLev_no l hl hf lo hi v0 W h hg) w hL
    · have hne : l ≠ [] := by
        rintro rfl
        revert hg
        decide
      have hpos : 0 < l.length := List.length_pos_iff.2 hne
      obtain ⟨N, hN, hNe, hNk⟩ := lv_ends hpos
      have hNb : N ≤ 1099511627776 := Nat.le_trans hN (pot_small hf)
      exact lawLv A0 c0 l (lvL l N) N 0 hl hf hc (by rw [lvL_len]; exact hl) (by rw [lvL_flat hpos hNk]; exact hf) r hn h1 (fun v0 lo hi W h => specLev_go l hl hf lo hi v0 W h hg hne N hNb hNe hNk) (fun v0 lo hi W h => implLev_go l hl hf lo hi v0 W h hg hne N hNb hNe hNk) w hL
  · exact lawLv_big A0 c0 l hc r (by omega) h1 w hL
end Go.Proofs.Ytkjligoamechkaa.X
