/- Contracts of functions, and plain facts: what each call answers, and what it leaves as it was. -/
import Derived.Test.YtddlhjhnnmkgaaaDoorHtF
import Derived.Test.YtddlhjhnnmkgaaaDoorNum
set_option linter.unusedVariables false
set_option linter.unusedSimpArgs false
namespace Go.Proofs.YtddlhjhnnmkgaaaDoor.X
open Go.RowKit Go.Proofs.YtddlhjhnnmkgaaaDoorW.PrintWords Go.Proofs.YtddlhjhnnmkgaaaDoorW.PrintLast Go.Proofs.YtddlhjhnnmkgaaaDoorW.PrintMore
attribute [local go_sem] max2_int min2_int max_two min_two max_three min_three max_four min_four
set_option maxHeartbeats 8000000 in
set_option maxRecDepth 100000 in
theorem implHT_no (f : Nat → Int) (n c g : Nat) (tub every today : Int) (hn : n ≤ 1048576) (hR : Rng f n) (ht : -32768 ≤ tub ∧ tub ≤ 32767) (hv : -128 ≤ every ∧ every ≤ 127) (hd : -32768 ≤ today ∧ today ≤ 32767) (hg : houseB f n tub every today = false) (w : World) (hB : Rw w g n f) :
    Calls Tryd.prog 7 #[.agg #[.slice (some ⟨g, 0, none⟩) n c, .int .i16 tub, .int .i8 every, .int .i16 today]] w fun e w' => e = .returned (.string (⟨#[]⟩ : ByteArray)) ∧ Below w.heap.size w w' := by
  have HB := Aside0.mk (hB.alloc (.cells #[.slice (some ⟨g, 0, none⟩) n c, .int .i16 tub, .int .i8 every, .int .i16 today] 31))
  have HH : Aside0 (Blk (w.alloc (.cells #[.slice (some ⟨g, 0, none⟩) n c, .int .i16 tub, .int .i8 every, .int .i16 today] 31)) w.heap.size 31 (hcells (some ⟨g, 0, none⟩) n c tub every today)) := ⟨Blk.new w _ _⟩
  have HW : Aside0 (Below w.heap.size w (w.alloc (.cells #[.slice (some ⟨g, 0, none⟩) n c, .int .i16 tub, .int .i8 every, .int .i16 today] 31))) := ⟨below_alloc (Below.refl _ _) _⟩
  have HV := Aside0.mk (fun W h => implVH_calls f n c g tub every today hn hR ht hv hd W h)
  rw [hg] at HV
  clear hR ht hv hd hB hn hg
  go_enter Tryd.func7, Tryd.ntmps7
  go_wp2_with (first | (refine wl_load (by rfl) 31 _ (by rfl) (w.heap.size) 0 (by rfl) 31 4 [.slice (some ⟨g, 0, none⟩) n c, .int .i16 tub, .int .i8 every, .int .i16 today] [.slice (some ⟨g, 0, none⟩) n c, .int .i16 tub, .int .i8 every, .int .i16 today] (by with_reducible repeat (first | exact HH.out | refine Blk.alloc ?_ _ | refine Rw.alloc ?_ _ | refine Arg.alloc ?_ _ | apply below_alloc | refine Blk.drew ?_ | refine Rw.drew ?_ | refine Arg.drew ?_ | apply below_drew | refine Blk.drewN ?_ _ | refine Rw.drewN ?_ _ | refine Arg.drewN ?_ _ | apply pw_below_drewN)) (by rfl) (by rfl) _ Tryd.underlying31 (by rfl) (by kernel_rfl) ?_))
  refine (HV.out _ (by with_reducible repeat (first | exact HB.out | refine Blk.alloc ?_ _ | refine Rw.alloc ?_ _ | refine Arg.alloc ?_ _ | apply below_alloc | refine Blk.drew ?_ | refine Rw.drew ?_ | refine Arg.drew ?_ | apply below_drew | refine Blk.drewN ?_ _ | refine Rw.drewN ?_ _ | refine Arg.drewN ?_ _ | apply pw_below_drewN))).mono ?_
  rintro e w1 ⟨rfl, hb⟩
  replace HH : Aside0 (Blk w1 (w.heap.size) 31 [.slice (some ⟨g, 0, none⟩) n c, .int .i16 tub, .int .i8 every, .int .i16 today]) := ⟨Blk.below (by with_reducible repeat (first | exact HH.out | refine Blk.alloc ?_ _ | refine Rw.alloc ?_ _ | refine Arg.alloc ?_ _ | apply below_alloc | refine Blk.drew ?_ | refine Rw.drew ?_ | refine Arg.drew ?_ | apply below_drew | refine Blk.drewN ?_ _ | refine Rw.drewN ?_ _ | refine Arg.drewN ?_ _ | apply pw_below_drewN)) hb⟩
  replace HB : Aside0 (Rw w1 g n f) := ⟨Rw.below (by with_reducible repeat (first | exact HB.out | refine Blk.alloc ?_ _ | refine Rw.alloc ?_ _ | refine Arg.alloc ?_ _ | apply below_alloc | refine Blk.drew ?_ | refine Rw.drew ?_ | refine Arg.drew ?_ | apply below_drew | refine Blk.drewN ?_ _ | refine Rw.drewN ?_ _ | refine Arg.drewN ?_ _ | apply pw_below_drewN)) hb⟩
  replace HW : Aside0 (Below w.heap.size w w1) := ⟨below_step (by with_reducible repeat (first | exact HW.out | refine Blk.alloc ?_ _ | refine Rw.alloc ?_ _ | refine Arg.alloc ?_ _ | apply below_alloc | refine Blk.drew ?_ | refine Rw.drew ?_ | refine Arg.drew ?_ | apply below_drew | refine Blk.drewN ?_ _ | refine Rw.drewN ?_ _ | refine Arg.drewN ?_ _ | apply pw_below_drewN)) hb⟩
  clear hb
  go_wp2
  go_ret
  exact ⟨rfl, HW.out⟩
set_option maxHeartbeats 8000000 in
set_option maxRecDepth 100000 in
theorem implHT_go (f : Nat → Int) (n c g : Nat) (tub every today : Int) (hn : n ≤ 1048576) (hR : Rng f n) (ht : -32768 ≤ tub ∧ tub ≤ 32767) (hv : -128 ≤ every ∧ every ≤ 127) (hd : -32768 ≤ today ∧ today ≤ 32767) (hg : houseB f n tub every today = true) (w : World) (hB : Rw w g n f) (hT : TabP w) :
    Calls Tryd.prog 7 #[.agg #[.slice (some ⟨g, 0, none⟩) n c, .int .i16 tub, .int .i8 every, .int .i16 today]] w fun e w' => e = .returned (.string (bsT (houseT f tub every today n))) ∧ Below w.heap.size w w' := by
  obtain ⟨hG, ⟨h1, h4⟩, gt, gv, gd⟩ := houseB_parts hg
  have HB := Aside0.mk (hB.alloc (.cells #[.slice (some ⟨g, 0, none⟩) n c, .int .i16 tub, .int .i8 every, .int .i16 today] 31))
  have HH : Aside0 (Blk (w.alloc (.cells #[.slice (some ⟨g, 0, none⟩) n c, .int .i16 tub, .int .i8 every, .int .i16 today] 31)) w.heap.size 31 (hcells (some ⟨g, 0, none⟩) n c tub every today)) := ⟨Blk.new w _ _⟩
  have HW : Aside0 (Below w.heap.size w (w.alloc (.cells #[.slice (some ⟨g, 0, none⟩) n c, .int .i16 tub, .int .i8 every, .int .i16 today] 31))) := ⟨below_alloc (Below.refl _ _) _⟩
  have HV := Aside0.mk (fun W h => implVH_calls f n c g tub every today hn hR ht hv hd W h)
  have HT := Aside0.mk hT
  have HG := Aside0.mk hG
  have HR := Aside0.mk hR
  have HZ := Aside0.mk (fun k (hk : k ≤ n) => houseT_len hG gt gv gd k hk)
  have HL0 : Aside0 (∀ (A : Option Addr) (c : Nat) (W : World), 3 ≤ c → Kd.C (Kd.int .i64) W A 3 [tub, every, today] → TabP W → Calls Tryd.prog 14 #[.slice A 3 c] W fun e w' => e = .returned (.string (bsT (houseT f tub every today 0))) ∧ Below W.heap.size W w') := ⟨fun A c W h1 h2 h3 => impl_line.calls 2000 A c [tub, every, today] _ W h2 h1 (implLine_f [tub, every] today (by simp) (by intro y hy; simp at hy; rcases hy with rfl | rfl | rfl <;> omega)) h3⟩
  have it : IntKind.i64.wrap tub = tub := IntWalk.i64_in _ ⟨by omega, by omega⟩
  have iv : IntKind.i64.wrap every = every := IntWalk.i64_in _ ⟨by omega, by omega⟩
  have id_ : IntKind.i64.wrap today = today := IntWalk.i64_in _ ⟨by omega, by omega⟩
  have hgl := hB.lt
  rw [hg] at HV
  clear hB hn hg hG h1 gt gv gd hT hR ht hv hd
  go_enter Tryd.func7, Tryd.ntmps7
  go_wp2_with (first | (refine wl_load (by rfl) 31 _ (by rfl) (w.heap.size) 0 (by rfl) 31 4 [.slice (some ⟨g, 0, none⟩) n c, .int .i16 tub, .int .i8 every, .int .i16 today] [.slice (some ⟨g, 0, none⟩) n c, .int .i16 tub, .int .i8 every, .int .i16 today] (by with_reducible repeat (first | exact HH.out | refine Blk.alloc ?_ _ | refine Rw.alloc ?_ _ | refine Arg.alloc ?_ _ | apply below_alloc | refine Blk.drew ?_ | refine Rw.drew ?_ | refine Arg.drew ?_ | apply below_drew | refine Blk.drewN ?_ _ | refine Rw.drewN ?_ _ | refine Arg.drewN ?_ _ | apply pw_below_drewN)) (by rfl) (by rfl) _ Tryd.underlying31 (by rfl) (by kernel_rfl) ?_))
  refine (HV.out _ (by with_reducible repeat (first | exact HB.out | refine Blk.alloc ?_ _ | refine Rw.alloc ?_ _ | refine Arg.alloc ?_ _ | apply below_alloc | refine Blk.drew ?_ | refine Rw.drew ?_ | refine Arg.drew ?_ | apply below_drew | refine Blk.drewN ?_ _ | refine Rw.drewN ?_ _ | refine Arg.drewN ?_ _ | apply pw_below_drewN))).mono ?_
  rintro e w1 ⟨rfl, hb⟩
  replace HH : Aside0 (Blk w1 (w.heap.size) 31 [.slice (some ⟨g, 0, none⟩) n c, .int .i16 tub, .int .i8 every, .int .i16 today]) := ⟨Blk.below (by with_reducible repeat (first | exact HH.out | refine Blk.alloc ?_ _ | refine Rw.alloc ?_ _ | refine Arg.alloc ?_ _ | apply below_alloc | refine Blk.drew ?_ | refine Rw.drew ?_ | refine Arg.drew ?_ | apply below_drew | refine Blk.drewN ?_ _ | refine Rw.drewN ?_ _ | refine Arg.drewN ?_ _ | apply pw_below_drewN)) hb⟩
  replace HB : Aside0 (Rw w1 g n f) := ⟨Rw.below (by with_reducible repeat (first | exact HB.out | refine Blk.alloc ?_ _ | refine Rw.alloc ?_ _ | refine Arg.alloc ?_ _ | apply below_alloc | refine Blk.drew ?_ | refine Rw.drew ?_ | refine Arg.drew ?_ | apply below_drew | refine Blk.drewN ?_ _ | refine Rw.drewN ?_ _ | refine Arg.drewN ?_ _ | apply pw_below_drewN)) hb⟩
  replace HW : Aside0 (Below w.heap.size w w1) := ⟨below_step (by with_reducible repeat (first | exact HW.out | refine Blk.alloc ?_ _ | refine Rw.alloc ?_ _ | refine Arg.alloc ?_ _ | apply below_alloc | refine Blk.drew ?_ | refine Rw.drew ?_ | refine Arg.drew ?_ | apply below_drew | refine Blk.drewN ?_ _ | refine Rw.drewN ?_ _ | refine Arg.drewN ?_ _ | apply pw_below_drewN)) hb⟩
  clear hb
  have cz1 := HH.out.cell 1 (v := .int .i16 tub) rfl
  have cz2 := HH.out.cell 2 (v := .int .i8 every) rfl
  have cz3 := HH.out.cell 3 (v := .int .i16 today) rfl
  go_wp2_with fail
  clear cz1 cz2 cz3
  refine (HL0.out _ _ _ (by decide) (C_nums64 (Blk.new w1 2 (nums .i64 [tub, every, today])) (by simp)) (HT.out.below (below_alloc HW.out _))).mono ?_
  rintro e w9 ⟨rfl, hb⟩
  replace HB : Aside0 (Rw w9 g n f) := ⟨(HB.out.alloc _).below hb⟩
  replace HH : Aside0 (Blk w9 w.heap.size 31 (hcells (some ⟨g, 0, none⟩) n c tub every today)) := ⟨(HH.out.alloc _).below hb⟩
  replace HW : Aside0 (Below w.heap.size w w9) := ⟨below_step (below_alloc HW.out _) hb⟩
  clear hb
  have ch0 := HH.out.cell 0 (v := .slice (some ⟨g, 0, none⟩) n c) rfl
  go_wp2
  clear ch0
  go_loopw [3, 23] (fun v3 v23 w' => ∃ k : Nat, k ≤ n ∧ v23 = .int .i64 k ∧ v3 = .string (bsT (houseT f tub every today k)) ∧ Aside0 (Rw w' g n f) ∧ Aside0 (Below w.heap.size w w')) (fun _ v23 _ => n - (intOf v23).toNat)
  case atStart => exact ⟨0, by omega, rfl, rfl, HB, HW⟩
  case round =>
    clear HB HW HH HL0
    obtain ⟨k, hk, rfl, rfl, HB, HW⟩ := hrel
    obtain ⟨wo, rfl⟩ : ∃ wo : World, wo = wr := ⟨_, rfl⟩
    have hk9 : IntKind.i64.wrap ((k : Int) + 1) = (k : Int) + 1 := IntWalk.i64_in _ ⟨by omega, by omega⟩
    by_cases hlt : k < n
    · have hki : (k : Int) < (n : Int) := by omega
      have hG := HG.out k hlt
      have hkk := hG.nums
      have hr : 0 ≤ f (25 * k + 24) ∧ f (25 * k + 24) ≤ ((500 : Nat) : Int) := ⟨hG.1 24 (by decide), hG.le (i := 24) (by decide)⟩
      have hsR := rng_stkR (HR.out.one hlt)
      have HN : Aside0 (∀ W, Calls Tryd.prog 15 #[.agg (cellsAt f (25 * k)).toArray] W fun e w' => ∃ v, e = .returned v ∧ Kd.R (Kd.int .i64) 2 w' W.heap.size (fun _ => True) v (kOf f (25 * k) ++ [f (25 * k + 24)]) ∧ Below W.heap.size W w') := ⟨fun W => by rw [cellsAt_stk]; exact numbersOf_calls _ (kOf_len f _) hsR.1 _ hsR.2 W⟩
      have HLK : Aside0 (∀ (A : Option Addr) (c : Nat) (W : World), (kOf f (25 * k) ++ [f (25 * k + 24)]).length ≤ c → Kd.C (Kd.int .i64) W A (kOf f (25 * k) ++ [f (25 * k + 24)]).length (kOf f (25 * k) ++ [f (25 * k + 24)]) → TabP W → Calls Tryd.prog 14 #[.slice A (kOf f (25 * k) ++ [f (25 * k + 24)]).length c] W fun e w' => e = .returned (.string (bsT (lineT (kOf f (25 * k)) (f (25 * k + 24))))) ∧ Below W.heap.size W w') := ⟨fun A c W h1 h2 h3 => impl_line.calls 2000 A c _ _ W h2 h1 (implLine_f _ _ (by rw [kOf_len]; decide) (fun y hy => by
        rw [List.mem_append] at hy
        rcases hy with hy | hy
        · have := hkk y hy; omega
        · simp at hy; subst hy; omega)) h3⟩
      have HS : Aside0 (bsT (houseT f tub every today (k + 1)) = bsT (houseT f tub every today k) ++ bsT (lineT (kOf f (25 * k)) (f (25 * k + 24)))) := ⟨by rw [bsT_append]; rfl⟩
      have y3 : (bsT (lineT (kOf f (25 * k)) (f (25 * k + 24)))).size ≤ 100000 := by
        rw [bsT_size]
        have := lineT_len hkk hr
        rw [kOf_len] at this
        omega
      have y4 : (bsT (houseT f tub every today k)).size ≤ 100000 := by rw [bsT_size]; exact Nat.le_trans (HZ.out k hk) (by omega)
      generalize bsT (lineT (kOf f (25 * k)) (f (25 * k + 24))) = D at *
      generalize hTT : bsT (houseT f tub every today k) = T at *
      generalize kOf f (25 * k) ++ [f (25 * k + 24)] = KL at *
      clear hG hkk hr hTT hsR
      have cz0 : T.size + D.size ≤ 9223372036854775807 := by omega
      have cza0 := eq_true cz0
      have czb0 := decide_eq_true cz0
      have czc0 : (9223372036854775807 < T.size + D.size) = False := eq_false (Nat.not_lt.2 cz0)
      clear cz0
      have hwl := Below.size HW.out
      have HX : Aside0 (Rw (wo.alloc (.cells #[.int .i16 0, .int .i16 0, .int .i16 0, .int .i16 0, .int .i16 0, .int .i16 0, .int .i16 0, .int .i16 0, .int .i16 0, .int .i16 0, .int .i16 0, .int .i16 0, .int .i16 0, .int .i16 0, .int .i16 0, .int .i16 0, .int .i16 0, .int .i16 0, .int .i16 0, .int .i16 0, .int .i16 0, .int .i16 0, .int .i16 0, .int .i16 0, .int .i32 0] 44)) wo.heap.size 1 (fun _ => 0)) := ⟨Rw.of_blk (f := fun _ => 0) (Blk.new wo _ _)⟩
      go_wp2_with (first | (refine rw_load (by rfl) 44 _ (by rfl) g (k * 25) (by rfl) f (25 * k) (by have h_ := HB.out.range (o := 25 * k) (q := k) rfl hlt; rwa [Nat.mul_comm k 25]) _ Tryd.underlying44 (by rfl) (by kernel_rfl) ?_) | (refine rw_store (by rfl) 44 _ _ (by rfl) (wo.heap.size) 0 (by rfl) 1 0 (fun _ => 0) f (25 * k) (by rfl) HX.out rfl (by decide) (by omega) (by kernel_rfl) ?_; intro w1 hw1 hg1; have HB1 : Aside0 (Rw w1 g n f) := ⟨(HB.out.alloc _).grown hg1 (by intro h_; injection h_ with h_; have := HB.out.lt; omega)⟩; have HW1 : Aside0 (Below w.heap.size w w1) := ⟨below_grown (below_alloc HW.out _) (by omega) (by simp; omega) hg1⟩; have HKB : Aside0 (w1.rangeAt wo.heap.size 0 (cellsAt f (25 * k))) := ⟨by have h_ := hw1.range (o := 0) (q := 0) rfl (by decide); exact h_⟩; clear hw1 hg1 HX HB HW) | (refine rw_load (by rfl) 44 _ (by rfl) wo.heap.size 0 (by rfl) f (25 * k) HKB.out _ Tryd.underlying44 (by rfl) (by kernel_rfl) ?_) | (go_at_call 15; refine (HN.out _).mono ?_; rintro e w2 ⟨v, rfl, hR, hb⟩; obtain ⟨A2, c2, rfl, hc2, hC⟩ := Kd.R_reads hR; have HC2 := Aside0.mk hC; have HB2 := Aside0.mk (HB1.out.below hb); have HW2 := Aside0.mk (below_step HW1.out hb); clear hb hR hC HKB HB1 HW1) | (go_at_call 14; refine (HLK.out _ _ _ hc2 HC2.out (HT.out.below HW2.out)).mono ?_; rintro e w3 ⟨rfl, hb⟩; have HB3 := Aside0.mk (HB2.out.below hb); have HW3 := Aside0.mk (below_step HW2.out hb); clear hb HC2 HB2 HW2))
      go_roundw
      case rel => exact ⟨k + 1, by omega, by go_num, by rw [HS.out], HB3, HW3⟩
      case measure => simp [intOf] <;> omega
    · have ek : k = n := by omega
      subst ek
      go_wp2
      go_ret
      exact ⟨rfl, HW.out⟩
theorem implHT_calls (f : Nat → Int) (n c g : Nat) (tub every today : Int) (hn : n ≤ 1048576) (hR : Rng f n) (ht : -32768 ≤ tub ∧ tub ≤ 32767) (hv : -128 ≤ every ∧ every ≤ 127) (hd : -32768 ≤ today ∧ today ≤ 32767) (w : World) (hB : Rw w g n f) (hT : TabP w) :
    Calls Tryd.prog 7 #[.agg #[.slice (some ⟨g, 0, none⟩) n c, .int .i16 tub, .int .i8 every, .int .i16 today]] w fun e w' => e = .returned (.string (houseTx f n tub every today)) ∧ Below w.heap.size w w' := by
  unfold houseTx
  cases hg : houseB f n tub every today
  · exact implHT_no f n c g tub every today hn hR ht hv hd hg w hB
  · exact implHT_go f n c g tub every today hn hR ht hv hd hg w hB hT
end Go.Proofs.YtddlhjhnnmkgaaaDoor.X
