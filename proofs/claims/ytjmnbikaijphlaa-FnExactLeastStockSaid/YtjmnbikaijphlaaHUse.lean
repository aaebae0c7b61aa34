/- Contracts of functions, and plain facts: what each call answers, and what it leaves as it was. -/
import Derived.Test.YtjmnbikaijphlaaHFacts
import Derived.Test.YtjmnbikaijphlaaHSeq
import Derived.Test.YtjmnbikaijphlaaX5
set_option linter.unusedVariables false
set_option linter.unusedSimpArgs false
namespace Go.Proofs.Ytjmnbikaijphlaa.X
open Go.RowKit Go.Proofs.YtjmnbikaijphlaaW.PrintWords Go.Proofs.YtjmnbikaijphlaaW.PrintLast Go.Proofs.YtjmnbikaijphlaaW.PrintMore
attribute [local go_sem] max2_int min2_int max_two min_two max_three min_three max_four min_four
set_option maxHeartbeats 8000000 in
set_option maxRecDepth 100000 in
theorem l05Use_calls (f : Nat → Int) (n q o : Nat) (hq : q < n) (ho : o = 25 * q) (hG : Good f o) (need : Int) (hn : 0 ≤ need ∧ need ≤ 500) (g : Nat) (w : World) (hB : Rw w g n f) :
    Calls Try.prog 82 #[.pointer (some ⟨g, o, none⟩), .int .i64 need] w fun e w' => e = .returned (.int .i64 (useF f o need).2) ∧ Rw w' g n (useF f o need).1 ∧ w.grownBy w' (some g) := by
  have HQ := Aside0.mk hq
  have HO := Aside0.mk ho
  have HG := Aside0.mk hG
  have HB := Aside0.mk hB
  have HN := Aside0.mk hn
  clear hq ho hG hB hn
  go_enter Try.func82, Try.ntmps82
  go_wp2
  go_loopw [5] (fun v5 w' => ∃ k : Nat, k ≤ 8 ∧ v5 = .int .i64 k ∧ Aside0 (Rw w' g n (mvs f o k)) ∧ Aside0 (w.grownBy w' (some g))) (fun v5 _ => 8 - (intOf v5).toNat)
  case atStart => exact ⟨0, by omega, rfl, HB, ⟨World.grownBy.refl _ _⟩⟩
  case round =>
    obtain ⟨k, hk, rfl, HA, HW⟩ := hrel
    have HG1 := Aside0.mk (HG.out.mvs k hk)
    by_cases hlt : k < 8
    · have b1 := HG1.out.1 (8 + k) (by omega)
      have b2 := HG1.out.1 (16 + k) (by omega)
      have b3 := HG1.out.two (i := 8 + k) (j := 16 + k) (by omega) (by omega) (by omega)
      have HF : Aside0 (mvs f o (k + 1) = mvF (mvs f o k) o k) := ⟨rfl⟩
      generalize mvs f o k = f1 at *
      have HF2 : Aside0 (mvF f1 o k = upd (upd f1 (o + (16 + k)) (f1 (o + (16 + k)) + f1 (o + (8 + k)))) (o + (8 + k)) 0) := ⟨rfl⟩
      go_wp2_with fail
      refine seq_region 16 (by kernel_rfl) (by kernel_rfl) (fun w1 hw_ => ?_)
      have HA1 : Aside0 (Rw w1 g n f1) := ⟨by rw [hw_]; exact HA.out.drew⟩
      have HW1 : Aside0 (w.grownBy w1 (some g)) := ⟨by rw [hw_]; exact grown_drew HW.out⟩
      clear hw_ HA HW
      have c1 := HA1.out.num (u := 16 + k) (j := o + 16 + k) HO.out HQ.out (by omega) (by omega)
      have c2 := HA1.out.num (u := 8 + k) (j := o + 8 + k) HO.out HQ.out (by omega) (by omega)
      have d1 := HA1.out.frozen (o + 16 + k)
      have d2 := HA1.out.frozen (o + 8 + k)
      generalize f1 (o + (8 + k)) = x at *
      generalize f1 (o + (16 + k)) = y at *
      simp only [List.take_succ_cons, List.take_zero, List.drop_succ_cons, List.drop_zero]
      repeat still_step
      try refine wpStill_nil ?_
      go_wp2
      go_roundw
      case rel => exact ⟨k + 1, by omega, by go_num, ⟨by rw [HF.out, HF2.out]; exact (HA1.out.setNum HO.out HQ.out (by omega) (by omega) _).setNum HO.out HQ.out (by omega) (by omega) _⟩, ⟨grown_setn (grown_setn HW1.out _ _) _ _⟩⟩
      case measure => simp [intOf] <;> omega
    · have hk8 : k = 8 := by omega
      rw [hk8] at HA HG1
      clear hk8
      have HU : Aside0 (useF f o need = tks (mvs f o 8) o need 8) := ⟨rfl⟩
      generalize mvs f o 8 = f8 at *
      go_wp2
      go_loopw [1, 6] (fun v1 v6 w' => ∃ k : Nat, k ≤ 8 ∧ v1 = .int .i64 (tks f8 o need k).2 ∧ v6 = .int .i64 (7 - (k : Int)) ∧ Aside0 (Rw w' g n (tks f8 o need k).1) ∧ Aside0 (w.grownBy w' (some g))) (fun _ v6 _ => (intOf v6 + 1).toNat)
      case atStart => exact ⟨0, by omega, rfl, rfl, HA, HW⟩
      case round =>
        clear HA HW HB
        obtain ⟨k, hk, rfl, rfl, HA, HW⟩ := hrel
        by_cases h8 : k = 8
        · subst h8
          generalize tks f8 o need 8 = T at *
          go_wp2
          go_ret
          exact ⟨by rw [HU.out]; rfl, by rw [HU.out]; exact HA.out, HW.out⟩
        · have HT : Aside0 (tks f8 o need (k + 1) = (tkF (tks f8 o need k).1 o (7 - k) (tkN (tks f8 o need k).1 o (7 - k) (tks f8 o need k).2), (tks f8 o need k).2 - tkN (tks f8 o need k).1 o (7 - k) (tks f8 o need k).2)) := ⟨rfl⟩
          obtain ⟨g1, g2, g3⟩ := HG1.out.tks HN.out.1 k (by omega)
          have HG2 := Aside0.mk g1
          have g4 : (tks f8 o need k).2 ≤ 500 := Int.le_trans g3 HN.out.2
          clear g1 g3
          generalize (tks f8 o need k).1 = f2 at *
          generalize (tks f8 o need k).2 = N at *
          have HM : Aside0 (tkN f2 o (7 - k) N = min N (f2 (o + (7 - k)))) := ⟨rfl⟩
          obtain ⟨t1, t2, t3⟩ := tkN_le (u := 7 - k) (need := N) (HG2.out.1 (7 - k) (by omega)) g2
          have t4 := HG2.out.le (i := 7 - k) (by omega)
          have t5 := HG2.out.1 (7 - k) (by omega)
          obtain ⟨u, hu⟩ : ∃ u, 7 - k = u := ⟨_, rfl⟩
          rw [hu] at HT HM t1 t2 t3 t4 t5
          generalize tkN f2 o u N = z at *
          cases u with
          | zero =>
            have ek : (7 - (k : Int)) = 0 := by omega
            have hk7 : k = 7 := by omega
            rw [hk7] at HT
            rw [ek]
            clear hu h8 hk ek hk7
            have HF2 := Aside0.mk (tkF_zero f2 o z)
            have c1 := HA.out.num (u := 0) (j := o) HO.out HQ.out (by omega) (by omega)
            have t6 := HG2.out.two (i := 0) (j := 24) (by omega) (by omega) (by omega)
            have t7 := HG2.out.1 24 (by omega)
            obtain ⟨x, HX⟩ : ∃ x, Aside0 (f2 (o + 0) = x) := ⟨_, ⟨rfl⟩⟩
            rw [HX.out] at HM t2 t4 t5 t6 c1 HF2
            go_wp2_with (go_at_call 114; refine (spec_l00Min.calls _ _ z _ (by rw [min_f, ← HM.out])).mono ?_; rintro e w2 ⟨rfl, hd⟩; have HA2 := Aside0.mk (HA.out.drawn hd); have HW2 := Aside0.mk (grown_drawn HW.out hd); clear hd HA HW)
            refine seq_region 12 (by kernel_rfl) (by kernel_rfl) (fun w3 hw_ => ?_)
            have HA1 : Aside0 (Rw w3 g n f2) := ⟨by rw [hw_]; exact HA2.out.drew⟩
            have HW1 : Aside0 (w.grownBy w3 (some g)) := ⟨by rw [hw_]; exact grown_drew HW2.out⟩
            clear hw_ HA2 HW2
            have c2 := HA1.out.num (u := 0) (j := o) HO.out HQ.out (by omega) (by omega)
            have c3 := HA1.out.rag (j := o + 24) HO.out HQ.out (by omega)
            rw [HX.out] at c2
            have d1 := HA1.out.frozen o
            have d2 := HA1.out.frozen (o + 24)
            generalize f2 (o + 24) = r at *
            simp only [List.take_succ_cons, List.take_zero, List.drop_succ_cons, List.drop_zero]
            repeat still_step
            try refine wpStill_nil ?_
            go_wp2
            go_roundw
            case rel => exact ⟨8, by omega, by rw [show tks f8 o need 8 = _ from HT.out], by rfl, ⟨by rw [show tks f8 o need 8 = _ from HT.out, HF2.out]; exact (HA1.out.setNum HO.out HQ.out (by omega) (by omega) _).setRag HO.out HQ.out (by omega) _⟩, ⟨grown_setn (grown_setn HW1.out _ _) _ _⟩⟩
            case measure => simp [intOf] <;> omega
          | succ v =>
            have ek : (7 - (k : Int)) = (v : Int) + 1 := by omega
            have hv : v < 7 := by omega
            have HK8 : Aside0 (k + 1 ≤ 8) := ⟨by omega⟩
            have hv1 : (0 : Int) ≤ (v : Int) + 1 := by omega
            have hv2 : (v : Int) + 1 < 8 := by omega
            have hv3 : (v : Int) < 8 := by omega
            have hv4 : IntKind.i64.wrap (v : Int) = v := IntWalk.i64_in _ ⟨by omega, by omega⟩
            have hv5 : IntKind.i64.wrap ((v : Int) + 1 - 1) = v := by rw [Int.add_sub_cancel]; exact hv4
            rw [ek]
            have HE := Aside0.mk ek
            have HK := Aside0.mk hu
            clear ek hu h8 hk
            have HF2 := Aside0.mk (tkF_succ f2 o v z)
            have c1 := HA.out.num (u := v + 1) (j := o + (v + 1)) HO.out HQ.out (by omega) (by omega)
            have t6 := HG2.out.two (i := v + 1) (j := 8 + v) (by omega) (by omega) (by omega)
            have t7 := HG2.out.1 (8 + v) (by omega)
            obtain ⟨x, HX⟩ : ∃ x, Aside0 (f2 (o + (v + 1)) = x) := ⟨_, ⟨rfl⟩⟩
            rw [HX.out] at HM t2 t4 t5 t6 c1 HF2
            go_wp2_with (go_at_call 114; refine (spec_l00Min.calls _ _ z _ (by rw [min_f, ← HM.out])).mono ?_; rintro e w2 ⟨rfl, hd⟩; have HA2 := Aside0.mk (HA.out.drawn hd); have HW2 := Aside0.mk (grown_drawn HW.out hd); clear hd HA HW)
            refine seq_region 12 (by kernel_rfl) (by kernel_rfl) (fun w3 hw_ => ?_)
            have HA1 : Aside0 (Rw w3 g n f2) := ⟨by rw [hw_]; exact HA2.out.drew⟩
            have HW1 : Aside0 (w.grownBy w3 (some g)) := ⟨by rw [hw_]; exact grown_drew HW2.out⟩
            clear hw_ HA2 HW2
            have c2 := HA1.out.num (u := v + 1) (j := o + (v + 1)) HO.out HQ.out (by omega) (by omega)
            rw [HX.out] at c2
            have d1 := HA1.out.frozen (o + (v + 1))
            simp only [List.take_succ_cons, List.take_zero, List.drop_succ_cons, List.drop_zero]
            repeat still_step
            try refine wpStill_nil ?_
            go_wp2
            refine seq_region 13 (by kernel_rfl) (by kernel_rfl) (fun w4 hw_ => ?_)
            have HA3 : Aside0 (Rw w4 g n (upd f2 (o + (v + 1)) (x - z))) := ⟨by rw [hw_]; exact (HA1.out.setNum HO.out HQ.out (by omega) (by omega) _).drew⟩
            have HW3 : Aside0 (w.grownBy w4 (some g)) := ⟨by rw [hw_]; exact grown_drew (grown_setn HW1.out _ _)⟩
            clear hw_ HA1 HW1
            have c4 := HA3.out.num (u := 8 + v) (j := o + 8 + v) HO.out HQ.out (by omega) (by omega)
            rw [upd_ne (by omega)] at c4
            have d3 := HA3.out.frozen (o + 8 + v)
            generalize f2 (o + (8 + v)) = y at *
            simp only [List.take_succ_cons, List.take_zero, List.drop_succ_cons, List.drop_zero]
            repeat still_step
            try refine wpStill_nil ?_
            go_wp2
            go_roundw
            case rel => exact ⟨k + 1, HK8.out, by rw [HT.out], by (try rfl) <;> (congr 1; have := HE.out; omega), ⟨by rw [HT.out, HF2.out]; exact HA3.out.setNum HO.out HQ.out (by omega) (by omega) _⟩, ⟨grown_setn HW3.out _ _⟩⟩
            case measure => simp [intOf] <;> omega
theorem idx8 (A : Array Value) (k : Nat) (hk : k < 8) (x : Int) (e : A[k]? = some (.int .i16 x)) (w : World) : (Instr.index 23 (.agg A) (.int .i64 k)).run Try.prog w = .ok (.int .i16 x) w := by
  have h1 : (0:Int) ≤ k := by omega
  have h2 : (k:Int) < 8 := by omega
  have e2 : A[(k:Int).toNat]? = some (.int .i16 x) := by simpa using e
  unfold Instr.index
  go_simp
set_option maxHeartbeats 8000000 in
set_option maxRecDepth 100000 in
theorem use_calls (f : Nat → Int) (n q o : Nat) (hq : q < n) (ho : o = 25 * q) (hG : Good f o) (need : Int) (hn : 0 ≤ need ∧ need ≤ 500) (g : Nat) (w : World) (hB : Rw w g n f) :
    Calls Try.prog 86 #[.pointer (some ⟨g, o, none⟩), .int .i64 need] w fun e w' => e = .returned (.int .i64 (useF f o need).2) ∧ Rw w' g n (useF f o need).1 ∧ w.grownBy w' (some g) := by
  have HQ := Aside0.mk hq
  have HO := Aside0.mk ho
  have HG := Aside0.mk hG
  have HB := Aside0.mk hB
  have HN := Aside0.mk hn
  have HR := Aside0.mk (hB.range8 (u := 8) (p := o + 8) ho hq (by omega) rfl)
  have HL := Aside0.mk (seg8_len f (o + 8))
  clear hq ho hG hB hn
  go_enter Try.func86, Try.ntmps86
  go_wp2_with (refine wpList_load_mid (by rfl) 23 _ (by rfl) g (o + 8) (by rfl) _ _ HR.out Try.underlying23 (by rfl) (by rw [HL.out]; kernel_rfl) ?_)
  go_loopw [13] (fun v5 w' => ∃ k : Nat, k ≤ 8 ∧ v5 = .int .i64 k ∧ Aside0 (Rw w' g n (mvs f o k)) ∧ Aside0 (w.grownBy w' (some g))) (fun v5 _ => 8 - (intOf v5).toNat)
  case atStart => exact ⟨0, by omega, rfl, HB, ⟨World.grownBy.refl _ _⟩⟩
  case round =>
    obtain ⟨k, hk, rfl, HA, HW⟩ := hrel
    have HG1 := Aside0.mk (HG.out.mvs k hk)
    by_cases hlt : k < 8
    · have b1 := HG1.out.1 (8 + k) (by omega)
      have b2 := HG1.out.1 (16 + k) (by omega)
      have b3 := HG1.out.two (i := 8 + k) (j := 16 + k) (by omega) (by omega) (by omega)
      have HF : Aside0 (mvs f o (k + 1) = mvF (mvs f o k) o k) := ⟨rfl⟩
      have HX := Aside0.mk (mvs_used (f := f) (o := o) hlt k (Nat.le_refl _))
      have hx : (seg8 f (o + 8)).toArray[k]? = some (.int .i16 (mvs f o k (o + (8 + k)))) := by rw [HX.out, seg8_get _ _ hlt, Nat.add_assoc]
      have hi := idx8 _ k hlt _ hx
      clear hx HX
      generalize (seg8 f (o + 8)).toArray = A at *
      generalize mvs f o k = f1 at *
      have HF2 : Aside0 (mvF f1 o k = upd (upd f1 (o + (16 + k)) (f1 (o + (16 + k)) + f1 (o + (8 + k)))) (o + (8 + k)) 0) := ⟨rfl⟩
      have HA1 : Aside0 (Rw wr.drew g n f1) := ⟨HA.out.drew⟩
      have HW1 : Aside0 (w.grownBy wr.drew (some g)) := ⟨grown_drew HW.out⟩
      clear HA HW
      have c1 := HA1.out.num (u := 16 + k) (j := o + 16 + k) HO.out HQ.out (by omega) (by omega)
      have c2 := HA1.out.num (u := 8 + k) (j := o + 8 + k) HO.out HQ.out (by omega) (by omega)
      have d1 := HA1.out.frozen (o + 16 + k)
      have d2 := HA1.out.frozen (o + 8 + k)
      generalize f1 (o + (8 + k)) = x at *
      generalize f1 (o + (16 + k)) = y at *
      go_wp2_with fail
      have i1 : IntKind.i16.wrap (y + x) = y + x := IntWalk.i16_in _ ⟨by omega, by omega⟩
      refine start_ (n := 20) (S := (fun w' => w'.cell? ⟨g, o + 16 + k, none⟩ = some (.int .i16 y))) (ds := [15, 19]) #[false, false, false, false, false, false, false, false, false, false, false, false, false, false, false, false, false, false, false, false] (by kernel_rfl) rfl rfl c1 (fun hHeld => ?_)
      generalize wr.drew = w1 at *
      refine pure_ (i := 0) (N := some 17) (v := ?_) (a' := ?_) #[true, false, false, false, false, false, false, false, false, false, false, false, false, false, false, false, false, false, false, false] rfl rfl (by kernel_rfl) (fun _ _ _ h => h) (Or.inl ⟨by rfl, ?_⟩) ?_ ?_
      rotate_left
      · intro w'
        go_simp
        with_reducible rfl
      rotate_left
      · simp only [Act.put, List.setIfInBounds_toArray, List.set_cons_zero, List.set_cons_succ, i64_w, i32_w]
        rfl
      refine pure_ (i := 1) (N := some 18) (v := ?_) (a' := ?_) #[true, true, false, false, false, false, false, false, false, false, false, false, false, false, false, false, false, false, false, false] rfl rfl (by kernel_rfl) (fun _ _ _ h => h) (Or.inl ⟨by rfl, ?_⟩) ?_ ?_
      rotate_left
      · intro w'
        go_simp
        with_reducible rfl
      rotate_left
      · simp only [Act.put, List.setIfInBounds_toArray, List.set_cons_zero, List.set_cons_succ, i64_w, i32_w]
        rfl
      refine pure_ (i := 2) (N := some 19) (v := ?_) (a' := ?_) #[true, true, true, false, false, false, false, false, false, false, false, false, false, false, false, false, false, false, false, false] rfl rfl (by kernel_rfl) (fun _ _ _ h => h) (Or.inl ⟨by rfl, ?_⟩) ?_ ?_
      rotate_left
      · intro w'
        go_simp
        with_reducible rfl
      rotate_left
      · simp only [Act.put, List.setIfInBounds_toArray, List.set_cons_zero, List.set_cons_succ, i64_w, i32_w]
        rfl
      refine pure_ (i := 3) (N := some 20) (v := ?_) (a' := ?_) #[true, true, true, true, false, false, false, false, false, false, false, false, false, false, false, false, false, false, false, false] rfl rfl (by kernel_rfl) (fun _ _ _ h => h) (Or.inl ⟨by rfl, ?_⟩) ?_ ?_
      rotate_left
      · intro w'
        go_simp
        with_reducible rfl
      rotate_left
      · simp only [Act.put, List.setIfInBounds_toArray, List.set_cons_zero, List.set_cons_succ, i64_w, i32_w]
        rfl
      refine pure_ (i := 4) (N := some 21) (v := ?_) (a' := ?_) #[true, true, true, true, true, false, false, false, false, false, false, false, false, false, false, false, false, false, false, false] rfl rfl (by kernel_rfl) (fun _ _ _ h => h) (Or.inl ⟨by rfl, ?_⟩) ?_ ?_
      rotate_left
      · intro w'
        go_simp
        with_reducible rfl
      rotate_left
      · simp only [Act.put, List.setIfInBounds_toArray, List.set_cons_zero, List.set_cons_succ, i64_w, i32_w]
        rfl
      refine pure_ (i := 5) (N := some 22) (v := ?_) (a' := ?_) #[true, true, true, true, true, true, false, false, false, false, false, false, false, false, false, false, false, false, false, false] rfl rfl (by kernel_rfl) (fun _ _ _ h => h) (Or.inl ⟨by rfl, ?_⟩) ?_ ?_
      rotate_left
      · intro w'
        go_simp
        with_reducible rfl
      rotate_left
      · simp only [Act.put, List.setIfInBounds_toArray, List.set_cons_zero, List.set_cons_succ, i64_w, i32_w]
        rfl
      refine pure_ (i := 6) (N := some 23) (v := ?_) (a' := ?_) #[true, true, true, true, true, true, true, false, false, false, false, false, false, false, false, false, false, false, false, false] rfl rfl (by kernel_rfl) (fun _ _ _ h => h) (Or.inl ⟨by rfl, ?_⟩) ?_ ?_
      rotate_left
      · intro w'
        go_simp
        with_reducible rfl
      rotate_left
      · simp only [Act.put, List.setIfInBounds_toArray, List.set_cons_zero, List.set_cons_succ, i64_w, i32_w]
        rfl
      refine pure_ (i := 7) (N := some 24) (v := ?_) (a' := ?_) #[true, true, true, true, true, true, true, true, false, false, false, false, false, false, false, false, false, false, false, false] rfl rfl (by kernel_rfl) (fun _ _ _ h => h) (Or.inl ⟨by rfl, ?_⟩) ?_ ?_
      rotate_left
      · intro w'
        go_simp
        with_reducible rfl
      rotate_left
      · simp only [Act.put, List.setIfInBounds_toArray, List.set_cons_zero, List.set_cons_succ, i64_w, i32_w]
        rfl
      refine pure_ (i := 8) (N := some 25) (v := ?_) (a' := ?_) #[true, true, true, true, true, true, true, true, true, false, false, false, false, false, false, false, false, false, false, false] rfl rfl (by kernel_rfl) (fun _ _ _ h => h) (Or.inl ⟨by rfl, ?_⟩) ?_ ?_
      rotate_left
      · intro w'
        go_simp
        with_reducible rfl
      rotate_left
      · simp only [Act.put, List.setIfInBounds_toArray, List.set_cons_zero, List.set_cons_succ, i64_w, i32_w]
        rfl
      refine take_ (i := 9) (N := some 26) (v := ?_) (a' := ?_) #[true, true, true, true, true, true, true, true, true, true, false, false, false, false, false, false, false, false, false, false] rfl rfl (by kernel_rfl) (fun _ _ _ h => h) (Or.inl ⟨by rfl, ?_⟩) hHeld ?_ ?_
      rotate_left
      · intro w' s0
        go_simp
        with_reducible rfl
      rotate_left
      · simp only [Act.put, List.setIfInBounds_toArray, List.set_cons_zero, List.set_cons_succ, i64_w, i32_w]
        rfl
      refine pure_ (i := 10) (N := some 27) (v := ?_) (a' := ?_) #[true, true, true, true, true, true, true, true, true, true, true, false, false, false, false, false, false, false, false, false] rfl rfl (by kernel_rfl) (fun _ _ _ h => h) (Or.inl ⟨by rfl, ?_⟩) ?_ ?_
      rotate_left
      · intro w'
        go_simp
        with_reducible rfl
      rotate_left
      · simp only [Act.put, List.setIfInBounds_toArray, List.set_cons_zero, List.set_cons_succ, i64_w, i32_w]
        rfl
      refine pure_ (i := 11) (N := some 28) (v := ?_) (a' := ?_) #[true, true, true, true, true, true, true, true, true, true, true, true, false, false, false, false, false, false, false, false] rfl rfl (by kernel_rfl) (fun _ _ _ h => h) (Or.inl ⟨by rfl, ?_⟩) ?_ ?_
      rotate_left
      · intro w'
        go_simp
        with_reducible rfl
      rotate_left
      · simp only [Act.put, List.setIfInBounds_toArray, List.set_cons_zero, List.set_cons_succ, i64_w, i32_w]
        rfl
      refine pure_ (i := 12) (N := some 29) (v := ?_) (a' := ?_) #[true, true, true, true, true, true, true, true, true, true, true, true, true, false, false, false, false, false, false, false] rfl rfl (by kernel_rfl) (fun _ _ _ h => h) (Or.inl ⟨by rfl, ?_⟩) ?_ ?_
      rotate_left
      · intro w'
        go_simp
        with_reducible rfl
      rotate_left
      · simp only [Act.put, List.setIfInBounds_toArray, List.set_cons_zero, List.set_cons_succ, i64_w, i32_w]
        rfl
      refine pure_ (i := 13) (N := some 30) (v := ?_) (a' := ?_) #[true, true, true, true, true, true, true, true, true, true, true, true, true, true, false, false, false, false, false, false] rfl rfl (by kernel_rfl) (fun _ _ _ h => h) (Or.inl ⟨by rfl, ?_⟩) ?_ ?_
      rotate_left
      · intro w'
        go_simp
        with_reducible rfl
      rotate_left
      · simp only [Act.put, List.setIfInBounds_toArray, List.set_cons_zero, List.set_cons_succ, i64_w, i32_w]
        rfl
      refine pure_ (i := 14) (N := some 31) (v := ?_) (a' := ?_) #[true, true, true, true, true, true, true, true, true, true, true, true, true, true, true, false, false, false, false, false] rfl rfl (by kernel_rfl) (fun _ _ _ h => h) (Or.inl ⟨by rfl, ?_⟩) ?_ ?_
      rotate_left
      · intro w'
        go_simp
        with_reducible rfl
      rotate_left
      · simp only [Act.put, List.setIfInBounds_toArray, List.set_cons_zero, List.set_cons_succ, i64_w, i32_w]
        rfl
      refine pure_ (i := 16) (N := some 32) (v := ?_) (a' := ?_) #[true, true, true, true, true, true, true, true, true, true, true, true, true, true, true, false, true, false, false, false] rfl rfl (by kernel_rfl) (fun _ _ _ h => h) (Or.inl ⟨by rfl, ?_⟩) ?_ ?_
      rotate_left
      · intro w'
        go_simp
        with_reducible rfl
      rotate_left
      · simp only [Act.put, List.setIfInBounds_toArray, List.set_cons_zero, List.set_cons_succ, i64_w, i32_w]
        rfl
      refine pure_ (i := 17) (N := some 33) (v := ?_) (a' := ?_) #[true, true, true, true, true, true, true, true, true, true, true, true, true, true, true, false, true, true, false, false] rfl rfl (by kernel_rfl) (fun _ _ _ h => h) (Or.inl ⟨by rfl, ?_⟩) ?_ ?_
      rotate_left
      · intro w'
        go_simp
        with_reducible rfl
      rotate_left
      · simp only [Act.put, List.setIfInBounds_toArray, List.set_cons_zero, List.set_cons_succ, i64_w, i32_w]
        rfl
      refine last_ (i := 15) (N := none) #[true, true, true, true, true, true, true, true, true, true, true, true, true, true, true, true, true, true, false, false] rfl rfl (by kernel_rfl) (by decide) (fun K hK => ?_)
      refine skip_ (w1 := ?_) (by rfl) rfl ?_ ?_
      rotate_left
      · go_simp
        rfl
      refine hK.out _ _ ?_
      clear hK K
      refine pure_ (i := 18) (N := some 34) (v := ?_) (a' := ?_) #[true, true, true, true, true, true, true, true, true, true, true, true, true, true, true, true, true, true, true, false] rfl rfl (by kernel_rfl) (fun _ _ _ h => h) (Or.inl ⟨by rfl, ?_⟩) ?_ ?_
      rotate_left
      · intro w'
        go_simp
        with_reducible rfl
      rotate_left
      · simp only [Act.put, List.setIfInBounds_toArray, List.set_cons_zero, List.set_cons_succ, i64_w, i32_w]
        rfl
      refine last_ (i := 19) (N := none) #[true, true, true, true, true, true, true, true, true, true, true, true, true, true, true, true, true, true, true, true] rfl rfl (by kernel_rfl) (by decide) (fun K hK => ?_)
      refine skip_ (w1 := ?_) (by rfl) rfl ?_ ?_
      rotate_left
      · go_simp
        rfl
      refine hK.out _ _ ?_
      clear hK K
      refine done_ (by kernel_rfl) ?_
      go_wp2
      go_roundw
      case rel => exact ⟨k + 1, by omega, by go_num, ⟨by rw [HF.out, HF2.out]; exact (HA1.out.setNum HO.out HQ.out (by omega) (by omega) _).setNum HO.out HQ.out (by omega) (by omega) _⟩, ⟨grown_setn (grown_setn HW1.out _ _) _ _⟩⟩
      case measure => simp [intOf] <;> omega
    · have hk8 : k = 8 := by omega
      rw [hk8] at HA HG1
      clear hk8
      have HU : Aside0 (useF f o need = tks (mvs f o 8) o need 8) := ⟨rfl⟩
      generalize mvs f o 8 = f8 at *
      go_wp2
      go_loopw [1, 7] (fun v1 v6 w' => ∃ k : Nat, k ≤ 8 ∧ v1 = .int .i64 (tks f8 o need k).2 ∧ v6 = .int .i64 (7 - (k : Int)) ∧ Aside0 (Rw w' g n (tks f8 o need k).1) ∧ Aside0 (w.grownBy w' (some g))) (fun _ v6 _ => (intOf v6 + 1).toNat)
      case atStart => exact ⟨0, by omega, rfl, rfl, HA, HW⟩
      case round =>
        clear HA HW HB
        obtain ⟨k, hk, rfl, rfl, HA, HW⟩ := hrel
        by_cases h8 : k = 8
        · subst h8
          generalize tks f8 o need 8 = T at *
          go_wp2
          go_ret
          exact ⟨by rw [HU.out]; rfl, by rw [HU.out]; exact HA.out, HW.out⟩
        · have HT : Aside0 (tks f8 o need (k + 1) = (tkF (tks f8 o need k).1 o (7 - k) (tkN (tks f8 o need k).1 o (7 - k) (tks f8 o need k).2), (tks f8 o need k).2 - tkN (tks f8 o need k).1 o (7 - k) (tks f8 o need k).2)) := ⟨rfl⟩
          obtain ⟨g1, g2, g3⟩ := HG1.out.tks HN.out.1 k (by omega)
          have HG2 := Aside0.mk g1
          have g4 : (tks f8 o need k).2 ≤ 500 := Int.le_trans g3 HN.out.2
          clear g1 g3
          generalize (tks f8 o need k).1 = f2 at *
          generalize (tks f8 o need k).2 = N at *
          have HM : Aside0 (tkN f2 o (7 - k) N = min N (f2 (o + (7 - k)))) := ⟨rfl⟩
          obtain ⟨t1, t2, t3⟩ := tkN_le (u := 7 - k) (need := N) (HG2.out.1 (7 - k) (by omega)) g2
          have t4 := HG2.out.le (i := 7 - k) (by omega)
          have t5 := HG2.out.1 (7 - k) (by omega)
          obtain ⟨u, hu⟩ : ∃ u, 7 - k = u := ⟨_, rfl⟩
          rw [hu] at HT HM t1 t2 t3 t4 t5
          generalize tkN f2 o u N = z at *
          cases u with
          | zero =>
            have ek : (7 - (k : Int)) = 0 := by omega
            have hk7 : k = 7 := by omega
            rw [hk7] at HT
            rw [ek]
            clear hu h8 hk ek hk7
            have HF2 := Aside0.mk (tkF_zero f2 o z)
            have c1 := HA.out.num (u := 0) (j := o) HO.out HQ.out (by omega) (by omega)
            have t6 := HG2.out.two (i := 0) (j := 24) (by omega) (by omega) (by omega)
            have t7 := HG2.out.1 24 (by omega)
            obtain ⟨x, HX⟩ : ∃ x, Aside0 (f2 (o + 0) = x) := ⟨_, ⟨rfl⟩⟩
            rw [HX.out] at HM t2 t4 t5 t6 c1 HF2
            have hm : (if x < N then x else N) = z := by rw [HM.out]; omega
            have hm2 : (if N < x then N else x) = z := by rw [HM.out]; omega
            go_wp2_with fail
            refine seq_region 11 (by kernel_rfl) (by kernel_rfl) (fun w3 hw_ => ?_)
            have HA1 : Aside0 (Rw w3 g n f2) := ⟨by rw [hw_]; exact HA.out.drew⟩
            have HW1 : Aside0 (w.grownBy w3 (some g)) := ⟨by rw [hw_]; exact grown_drew HW.out⟩
            clear hw_ HA HW
            have c2 := HA1.out.num (u := 0) (j := o) HO.out HQ.out (by omega) (by omega)
            have c3 := HA1.out.rag (j := o + 24) HO.out HQ.out (by omega)
            rw [HX.out] at c2
            have d1 := HA1.out.frozen o
            have d2 := HA1.out.frozen (o + 24)
            generalize f2 (o + 24) = r at *
            simp only [List.take_succ_cons, List.take_zero, List.drop_succ_cons, List.drop_zero]
            repeat still_step
            try refine wpStill_nil ?_
            go_wp2
            go_roundw
            case rel => exact ⟨8, by omega, by rw [show tks f8 o need 8 = _ from HT.out], by rfl, ⟨by rw [show tks f8 o need 8 = _ from HT.out, HF2.out]; exact (HA1.out.setNum HO.out HQ.out (by omega) (by omega) _).setRag HO.out HQ.out (by omega) _⟩, ⟨grown_setn (grown_setn HW1.out _ _) _ _⟩⟩
            case measure => simp [intOf] <;> omega
          | succ v =>
            have ek : (7 - (k : Int)) = (v : Int) + 1 := by omega
            have hv : v < 7 := by omega
            have HK8 : Aside0 (k + 1 ≤ 8) := ⟨by omega⟩
            have hv1 : (0 : Int) ≤ (v : Int) + 1 := by omega
            have hv2 : (v : Int) + 1 < 8 := by omega
            have hv3 : (v : Int) < 8 := by omega
            have hv4 : IntKind.i64.wrap (v : Int) = v := IntWalk.i64_in _ ⟨by omega, by omega⟩
            have hv5 : IntKind.i64.wrap ((v : Int) + 1 - 1) = v := by rw [Int.add_sub_cancel]; exact hv4
            rw [ek]
            have HE := Aside0.mk ek
            have HK := Aside0.mk hu
            clear ek hu h8 hk
            have HF2 := Aside0.mk (tkF_succ f2 o v z)
            have c1 := HA.out.num (u := v + 1) (j := o + (v + 1)) HO.out HQ.out (by omega) (by omega)
            have t6 := HG2.out.two (i := v + 1) (j := 8 + v) (by omega) (by omega) (by omega)
            have t7 := HG2.out.1 (8 + v) (by omega)
            obtain ⟨x, HX⟩ : ∃ x, Aside0 (f2 (o + (v + 1)) = x) := ⟨_, ⟨rfl⟩⟩
            rw [HX.out] at HM t2 t4 t5 t6 c1 HF2
            have hm : (if x < N then x else N) = z := by rw [HM.out]; omega
            have hm2 : (if N < x then N else x) = z := by rw [HM.out]; omega
            go_wp2_with fail
            refine seq_region 11 (by kernel_rfl) (by kernel_rfl) (fun w3 hw_ => ?_)
            have HA1 : Aside0 (Rw w3 g n f2) := ⟨by rw [hw_]; exact HA.out.drew⟩
            have HW1 : Aside0 (w.grownBy w3 (some g)) := ⟨by rw [hw_]; exact grown_drew HW.out⟩
            clear hw_ HA HW
            have c2 := HA1.out.num (u := v + 1) (j := o + (v + 1)) HO.out HQ.out (by omega) (by omega)
            rw [HX.out] at c2
            have d1 := HA1.out.frozen (o + (v + 1))
            simp only [List.take_succ_cons, List.take_zero, List.drop_succ_cons, List.drop_zero]
            repeat still_step
            try refine wpStill_nil ?_
            go_wp2
            refine seq_region 12 (by kernel_rfl) (by kernel_rfl) (fun w4 hw_ => ?_)
            have HA3 : Aside0 (Rw w4 g n (upd f2 (o + (v + 1)) (x - z))) := ⟨by rw [hw_]; exact (HA1.out.setNum HO.out HQ.out (by omega) (by omega) _).drew⟩
            have HW3 : Aside0 (w.grownBy w4 (some g)) := ⟨by rw [hw_]; exact grown_drew (grown_setn HW1.out _ _)⟩
            clear hw_ HA1 HW1
            have c4 := HA3.out.num (u := 8 + v) (j := o + 8 + v) HO.out HQ.out (by omega) (by omega)
            rw [upd_ne (by omega)] at c4
            have d3 := HA3.out.frozen (o + 8 + v)
            generalize f2 (o + (8 + v)) = y at *
            simp only [List.take_succ_cons, List.take_zero, List.drop_succ_cons, List.drop_zero]
            repeat still_step
            try refine wpStill_nil ?_
            go_wp2
            go_roundw
            case rel => exact ⟨k + 1, HK8.out, by rw [HT.out], by (try rfl) <;> (congr 1; have := HE.out; omega), ⟨by rw [HT.out, HF2.out]; exact HA3.out.setNum HO.out HQ.out (by omega) (by omega) _⟩, ⟨grown_setn HW3.out _ _⟩⟩
            case measure => simp [intOf] <;> omega
end Go.Proofs.Ytjmnbikaijphlaa.X
