import Derived.Test.YtkjligoamechkaaFactsD4
import Derived.Test.YtkjligoamechkaaFactsD7
import Derived.Test.YtkjligoamechkaaMark
import Derived.Test.YtkjligoamechkaaX0
set_option linter.unusedVariables false
set_option linter.unusedSimpArgs false
namespace Go.Proofs.Ytkjligoamechkaa.X
open Go.RowKit Go.Proofs.YtkjligoamechkaaW.PrintWords Go.Proofs.YtkjligoamechkaaW.PrintLast Go.Proofs.YtkjligoamechkaaW.PrintMore
attribute [local go_sem] max2_int min2_int max_two min_two max_three min_three max_four min_four
--AUX
set_option maxHeartbeats 8000000 in
set_option maxRecDepth 100000 in
theorem lawPut_big (A0 : Option Addr) (c0 : Nat) (l0 : List (List Int)) (a : Int) (w : World) (hr0 : Kd.C (Kd.slice 2 (Kd.int .i64)) w A0 l0.length l0) (hc0 : l0.length ≤ c0) (r : Int) (hr : laws_szInt64SS.f 1048578 l0 1048576 = some r) (hn : r < 0) :
    Calls Try.prog 8 #[.slice A0 l0.length c0, .int .i64 a] w fun e w' => e = .returned (.bool true) ∧ Below w.heap.size w w' := by
  have h1 := laws_szInt64SS.calls 1048578 A0 c0 l0 1048576 r w hr0 hc0 hr
  have h2 : decide (r < 0) = true := decide_eq_true hn
  clear hr0 hc0 hr
  go_enter Try.func8, Try.ntmps8
  go_wp2_with fail
  refine h1.mono ?_
  rintro e w1 ⟨rfl, ⟨nd, rfl⟩⟩
  go_wp2
  go_ret
  exact ⟨rfl, by repeat (first | exact Below.refl _ _ | apply pw_below_drewN | apply below_drew1)⟩
theorem S_range {α : Type} {d : Kd α} {e base b : Nat} {w' : World} {v : Value} {xs : List α} {ok : Nat → Prop} (h : Kd.S d e w' b ok v xs) (hb : base ≤ b) : Kd.S d e w' base (fun k => b ≤ k ∧ k < w'.heap.size) v xs :=
  Kd.S_lower (Kd.S_mono (Kd.S_bound h) (fun _ hk => ⟨hk.2.1, hk.2.2.1⟩)) hb
set_option maxHeartbeats 8000000 in
set_option maxRecDepth 100000 in
theorem lawPut_main (A0 : Option Addr) (c0 : Nat) (l0 : List (List Int)) (a : Int) (w : World) (hr0 : Kd.C (Kd.slice 2 (Kd.int .i64)) w A0 l0.length l0) (hc0 : l0.length ≤ c0) (r : Int) (hr : laws_szInt64SS.f 9000000 l0 1048576 = some r) (hn : ¬ r < 0) (hl : l0.length ≤ 1048576) (hf : l0.flatten.length ≤ 1048576) :
    Calls Try.prog 8 #[.slice A0 l0.length c0, .int .i64 a] w fun e w' => e = .returned (.bool true) ∧ Below w.heap.size w w' := by
  have HR := Aside0.mk hr0
  have HC := Aside0.mk hc0
  have h1 := laws_szInt64SS.calls 9000000 A0 c0 l0 1048576 r w hr0 hc0 hr
  have h2 : decide (r < 0) = false := decide_eq_false hn
  have hT := fun (W : World) (hB : Below w.heap.size w W) => laws_toInt64SS.calls 9000000 A0 c0 l0 l0 W (Kd.C_below HR.out hB) HC.out (toSS_f hl hf (by omega))
  obtain ⟨⟨R, s, c⟩, hP⟩ : ∃ P, P = putR l0 a := ⟨_, rfl⟩
  have hS := fun A cc W h hc => spec_PutSheet.calls 9000000 A cc l0 a R s c W h hc (by rw [hP]; exact specPut_f a hl hf (by omega))
  have hI := fun A cc W h hc => impl_PutSheet.calls 9000000 A cc l0 a R s c W h hc (by rw [hP]; exact implPut_f a hl hf (by omega))
  have hsm := putR_small l0 a
  rw [← hP] at hsm
  obtain ⟨hRl, hRf⟩ := hsm
  replace hRl : R.length ≤ 6 := hRl
  replace hRf : R.flatten.length ≤ 54 := hRf
  have hE := fun A1 d1 A2 d2 W h1 g1 h2 g2 => laws_eqInt64SS.calls 9000000 A1 d1 R A2 d2 R true W h1 g1 h2 g2 (eqSS_f (by omega) (by omega) (by omega))
  have hEX := fun A1 d1 A2 d2 W h1 g1 h2 g2 => laws_eqInt64SS.calls 9000000 A1 d1 l0 A2 d2 l0 true W h1 g1 h2 g2 (eqSS_f hl hf (by omega))
  have hMX := fun P0 u W hB ho => markSS_calls P0 u l0 1 w W hB ho (by omega) (by omega) (by omega)
  have hMG := fun P0 u W hB ho => markSS_calls P0 u R 1 w W hB ho (by omega) (by omega) (by omega)
  have hHG := fun A1 d1 W h1 g1 => laws_heldInt64SS.calls 90000000 A1 d1 (markR R 1) 1 _ W h1 g1 (heldSS_f R 1 (by omega) (by omega) (by omega) (by omega) (by omega))
  obtain ⟨n, hn⟩ : ∃ n, n = l0.flatten.length := ⟨_, rfl⟩
  obtain ⟨m, hm⟩ : ∃ m, m = R.flatten.length := ⟨_, rfl⟩
  rw [← hn] at hMX
  rw [← hm] at hMG hHG
  simp only [markR_length] at hHG
  have q1 : decide ((1 : Int) + (n : Int) < 0) = false := decide_eq_false (by omega)
  have q2 : decide ((1 : Int) + (m : Int) < 0) = false := decide_eq_false (by omega)
  clear hr0 hc0 hr hP hn hm
  go_enter Try.func8, Try.ntmps8
  go_wp2_with fail
  refine h1.mono ?_
  rintro e w1 ⟨rfl, ⟨nd, rfl⟩⟩
  go_wp2_with fail
  refine (hT _ (by repeat (first | exact Below.refl _ _ | apply pw_below_drewN | apply below_drew1))).mono ?_
  rintro e w1 ⟨v1, rfl, ho1, hb⟩
  have HB1 := Aside0.mk (below_step (w := w) (by repeat (first | exact Below.refl _ _ | apply pw_below_drewN | apply below_drew1)) hb)
  obtain ⟨A1, c1, rfl⟩ := Kd.S_slice ho1
  have HO1 := Aside0.mk ho1
  clear ho1 hb
  go_wp2_with fail
  refine (hS _ _ _ (Kd.S_reads' HO1.out).2.2 (Kd.S_reads' HO1.out).2.1).mono ?_
  rintro e w2 ⟨vW, rfl, hoW, hb⟩
  have HB2 := Aside0.mk (below_step (w := w) HB1.out hb)
  have HW2 := Aside0.mk (S_range (base := w.heap.size) hoW (below_size HB1.out))
  obtain ⟨AW, cW, rfl⟩ := Kd.S_slice hoW
  clear hoW hb HO1
  go_wp2_with fail
  refine (hT _ HB2.out).mono ?_
  rintro e w3 ⟨vX, rfl, hoX, hb⟩
  have HB3 := Aside0.mk (below_step (w := w) HB2.out hb)
  have HX3 := Aside0.mk (S_range (base := w.heap.size) hoX (below_size HB2.out))
  have HW3 := Aside0.mk (Kd.S_below HW2.out hb)
  have hsz3 := below_size hb
  obtain ⟨AX, cX, rfl⟩ := Kd.S_slice hoX
  clear hoX hb HW2
  go_wp2_with fail
  refine (hI _ _ _ (Kd.S_reads' HX3.out).2.2 (Kd.S_reads' HX3.out).2.1).mono ?_
  rintro e w4 ⟨vG, rfl, hoG, hb⟩
  have HB4 := Aside0.mk (below_step (w := w) HB3.out hb)
  have HG4 := Aside0.mk (S_range (base := w.heap.size) hoG (below_size HB3.out))
  have HX4 := Aside0.mk (Kd.S_below HX3.out hb)
  have HW4 := Aside0.mk (Kd.S_below HW3.out hb)
  have hsz4 := below_size hb
  obtain ⟨AG, cG, rfl⟩ := Kd.S_slice hoG
  clear hoG hb HW3 HX3
  go_wp2_with fail
  refine (hE _ _ _ _ _ (Kd.S_reads' HG4.out).2.2 (Kd.S_reads' HG4.out).2.1 (Kd.S_reads' HW4.out).2.2 (Kd.S_reads' HW4.out).2.1).mono ?_
  rintro e w' ⟨rfl, ⟨nd2, rfl⟩⟩
  go_wp2_with fail
  refine (hT _ (by repeat (first | exact HB4.out | apply pw_below_drewN | apply below_drew1))).mono ?_
  rintro e w5 ⟨v5, rfl, ho5, hb⟩
  replace hb := below_step (w := w4) (by repeat (first | exact Below.refl _ _ | apply pw_below_drewN | apply below_drew1)) hb
  have HB5 := Aside0.mk (below_step (w := w) HB4.out hb)
  have HG5 := Aside0.mk (Kd.S_below HG4.out hb)
  have HX5 := Aside0.mk (Kd.S_below HX4.out hb)
  have HW5 := Aside0.mk (Kd.S_below HW4.out hb)
  have hsz5 := below_size hb
  obtain ⟨A5, c5, rfl⟩ := Kd.S_slice ho5
  have HO5 := Aside0.mk ho5
  clear ho5 hb HG4 HX4 HW4
  go_wp2_with fail
  refine (hEX _ _ _ _ _ (Kd.S_reads' HX5.out).2.2 (Kd.S_reads' HX5.out).2.1 (Kd.S_reads' HO5.out).2.2 (Kd.S_reads' HO5.out).2.1).mono ?_
  rintro e w' ⟨rfl, ⟨nd3, rfl⟩⟩
  clear HO5
  go_wp2_with fail
  refine (hMX _ _ _ (by repeat (first | exact HB5.out | apply pw_below_drewN | apply below_drew1)) (Kd.S_drewN HX5.out _)).mono ?_
  rintro e w6 ⟨rfl, hoX, hb6, hk6⟩
  have HB6 := Aside0.mk hb6
  have HG6 := Aside0.mk (Kd.S_kept (Kd.S_drewN HG5.out nd3) hk6 (fun k h1 h2 => by omega))
  have HW6 := Aside0.mk (Kd.S_kept (Kd.S_drewN HW5.out nd3) hk6 (fun k h1 h2 => by omega))
  have hsz6 : w5.heap.size ≤ w6.heap.size := by simpa using hk6.1
  clear hoX hb6 hk6 HG5 HW5 HX5
  go_wp2_with fail
  refine (hE _ _ _ _ _ (Kd.S_reads' HG6.out).2.2 (Kd.S_reads' HG6.out).2.1 (Kd.S_reads' HW6.out).2.2 (Kd.S_reads' HW6.out).2.1).mono ?_
  rintro e w' ⟨rfl, ⟨nd4, rfl⟩⟩
  go_wp2_with fail
  refine (hMG _ _ _ (by repeat (first | exact HB6.out | apply pw_below_drewN | apply below_drew1)) (Kd.S_drewN HG6.out _)).mono ?_
  rintro e w7 ⟨rfl, hoG, hb7, hk7⟩
  have HB7 := Aside0.mk hb7
  have HG7 := Aside0.mk hoG
  have HW7 := Aside0.mk (Kd.S_kept (Kd.S_drewN HW6.out nd4) hk7 (fun k h1 h2 => by omega))
  clear hoG hb7 hk7 HG6 HW6
  go_wp2_with fail
  refine (hHG _ _ _ (by have h := (Kd.S_reads' HG7.out).2.2; rwa [markR_length] at h) (Kd.S_reads' HG7.out).2.1).mono ?_
  rintro e w' ⟨rfl, ⟨nd5, rfl⟩⟩
  go_wp2_with fail
  refine (hT _ (by repeat (first | exact HB7.out | apply pw_below_drewN | apply below_drew1))).mono ?_
  rintro e w8 ⟨v8, rfl, ho8, hb⟩
  replace hb := below_step (w := w7) (by repeat (first | exact Below.refl _ _ | apply pw_below_drewN | apply below_drew1)) hb
  have HB8 := Aside0.mk (below_step (w := w) HB7.out hb)
  have HG8 := Aside0.mk (Kd.S_below HG7.out hb)
  have HW8 := Aside0.mk (Kd.S_below HW7.out hb)
  obtain ⟨A8, c8, rfl⟩ := Kd.S_slice ho8
  have HO8 := Aside0.mk ho8
  clear ho8 hb HG7 HW7
  go_wp2_with fail
  refine (hI _ _ _ (Kd.S_reads' HO8.out).2.2 (Kd.S_reads' HO8.out).2.1).mono ?_
  rintro e w9 ⟨vH, rfl, hoH, hb⟩
  have HB9 := Aside0.mk (below_step (w := w) HB8.out hb)
  have HG9 := Aside0.mk (Kd.S_below HG8.out hb)
  have HW9 := Aside0.mk (Kd.S_below HW8.out hb)
  obtain ⟨AH, cH, rfl⟩ := Kd.S_slice hoH
  have HH9 := Aside0.mk hoH
  clear hoH hb HG8 HW8 HO8
  go_wp2_with fail
  refine (hE _ _ _ _ _ (Kd.S_reads' HH9.out).2.2 (Kd.S_reads' HH9.out).2.1 (Kd.S_reads' HW9.out).2.2 (Kd.S_reads' HW9.out).2.1).mono ?_
  rintro e w' ⟨rfl, ⟨nd6, rfl⟩⟩
  have HG10 := Aside0.mk (Kd.S_drewN HG9.out nd6)
  clear HG9 HW9 HH9
  go_wp2_with fail
  refine (hHG _ _ _ (by have h := (Kd.S_reads' HG10.out).2.2; rwa [markR_length] at h) (Kd.S_reads' HG10.out).2.1).mono ?_
  rintro e w' ⟨rfl, ⟨nd7, rfl⟩⟩
  go_wp2
  go_ret
  exact ⟨rfl, by repeat (first | exact HB9.out | apply pw_below_drewN | apply below_drew1)⟩

end Go.Proofs.Ytkjligoamechkaa.X
