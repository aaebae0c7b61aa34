/- Contracts of functions over blocks of cells: what each call answers, and what it leaves as it was. -/
import Derived.Test.YtkfbkmkaijonhaaMin
set_option linter.unusedVariables false
set_option linter.unusedSimpArgs false
namespace Go.Proofs.Ytkfbkmkaijonhaa.X
open Go.RowKit Go.Proofs.YtkfbkmkaijonhaaW.PrintWords Go.Proofs.YtkfbkmkaijonhaaW.PrintLast Go.Proofs.YtkfbkmkaijonhaaW.PrintMore
attribute [local go_sem] max2_int min2_int max_two min_two max_three min_three max_four min_four
theorem l00In_f (x a b : Int) : spec_l00In.f x a b = some (inR x a b) := by
  unfold spec_l00In.f inR
  by_cases h : x ≥ a
  · rw [if_pos h, decide_eq_true h, Bool.true_and]
  · rw [if_neg h, decide_eq_false h, Bool.false_and]
theorem within_f (x a b : Int) : impl_within.f x a b = some (inR x a b) := by
  unfold impl_within.f inR
  by_cases h : a ≤ x
  · rw [if_pos h, decide_eq_true h, Bool.true_and]
  · rw [if_neg h, decide_eq_false h, Bool.false_and]
theorem firstOf2_f (a b : Int) : impl_firstOf.f 3 [a, b] = some (if a = 0 then b else a) := by
  by_cases ha : a = 0 <;> by_cases hb : b = 0 <;> simp [impl_firstOf.f, impl_firstOf.l0, ha, hb, rd, show wrap64 1 = 1 by unfold wrap64; omega, show wrap64 2 = 2 by unfold wrap64; omega]
def downF (f : Nat → Int) : Nat → Int × Int
  | 0 => (0, 6)
  | n + 1 => if f n = 0 then ((n : Int), 0) else downF f n
theorem C_int2 {W : World} {g T : Nat} {a b : Int} (h : Blk W g T [.int .i64 a, .int .i64 b]) : Kd.C (Kd.int .i64) W (some ⟨g, 0, none⟩) 2 [a, b] := by
  refine ⟨rfl, by omega, fun _ => ⟨_, rfl, fun j p hj => ?_⟩⟩
  match j, hj with
  | 0, hj =>
    simp at hj
    subst hj
    refine ⟨_, rfl, rfl, fun i u hi => ?_⟩
    have : (⟨g, 0, none⟩ : Addr).add (0 * (Kd.int .i64).sz + i) = ⟨g, i, none⟩ := by rw [Nat.zero_mul, Nat.zero_add, Addr.add_mid, Nat.zero_add]
    rw [this]
    match i, hi with
    | 0, hi => exact h.cell 0 hi
  | 1, hj =>
    simp at hj
    subst hj
    refine ⟨_, rfl, rfl, fun i u hi => ?_⟩
    have : (⟨g, 0, none⟩ : Addr).add (1 * (Kd.int .i64).sz + i) = ⟨g, 1 + i, none⟩ := by rw [Addr.add_mid, Nat.zero_add]; rfl
    rw [this]
    match i, hi with
    | 0, hi => exact h.cell 1 hi
set_option maxHeartbeats 8000000 in
set_option maxRecDepth 100000 in
theorem specWst_bad (L : List Int) (hL : L.length = 72) (h8 : i8All L) (thick h t1 : Int) (shade : Bool) (w : World) (hc : askedF L [] (inR thick 1 9 && (inR h 0 24 && (inR t1 0 24 && decide (h ≤ t1)))) ≠ 0) :
    Calls Try.prog 21 #[(.agg (nums .i8 L).toArray), .int .i64 thick, .int .i64 h, .int .i64 t1, .bool shade] w fun e w' => e = .returned (.tuple #[.int .i64 0, .int .i64 (askedF L [] (inR thick 1 9 && (inR h 0 24 && (inR t1 0 24 && decide (h ≤ t1)))))]) ∧ Below w.heap.size w w' := by
  have HK := Aside0.mk (fun W A => asked_calls0 L hL h8 (inR thick 1 9 && (inR h 0 24 && (inR t1 0 24 && decide (h ≤ t1)))) w.heap.size W A)
  have F0 := fun W => spec_l00In.calls thick 1 9 _ W (l00In_f thick 1 9)
  have F1 := fun W => spec_l03From.calls h _ W (from_f h)
  have F2 := fun W => spec_l03From.calls t1 _ W (from_f t1)
  generalize askedF L [] (inR thick 1 9 && (inR h 0 24 && (inR t1 0 24 && decide (h ≤ t1)))) = code at *
  have hc2 : (code != 0) = true := by simpa using hc
  have HB0 : Aside0 (Blk (w.alloc (.cells (nums .i8 L).toArray 30)) w.heap.size 30 (nums .i8 L)) := ⟨Blk.new w _ _⟩
  clear hL h8 hc
  generalize inR thick 1 9 = b0 at *
  generalize inR h 0 24 = b1 at *
  generalize inR t1 0 24 = b2 at *
  cases b0
  · go_enter Try.func21, Try.ntmps21
    go_wp2_with fail
    refine (F0 _).mono ?_
    rintro e w' ⟨rfl, ⟨n0, rfl⟩⟩
    go_wp2_with (go_at_call 42; refine (HK.out _ _ (by repeat (first | exact HB0.out | apply Blk.drewN | apply Blk.drew | apply Blk.alloc))).mono ?_; rintro e w1 ⟨rfl, hb⟩; have HB1 := Aside0.mk (below_step (w := w) (by repeat (first | exact Below.refl _ _ | apply pw_below_drewN | apply below_drew | apply below_alloc)) hb); have HA1 := Aside0.mk (Blk.below (w := (w.alloc (.cells (nums .i8 L).toArray 30))) HB0.out (below_step (w := (w.alloc (.cells (nums .i8 L).toArray 30))) (by repeat (first | exact Below.refl _ _ | apply pw_below_drewN | apply below_drew | apply below_alloc)) hb)); clear hb)
    go_ret2
    exact ⟨rfl, HB1.out⟩
  · cases b1
    · go_enter Try.func21, Try.ntmps21
      go_wp2_with fail
      refine (F0 _).mono ?_
      rintro e w' ⟨rfl, ⟨n0, rfl⟩⟩
      go_wp2_with fail
      refine (F1 _).mono ?_
      rintro e w' ⟨rfl, ⟨n1, rfl⟩⟩
      go_wp2_with (go_at_call 42; refine (HK.out _ _ (by repeat (first | exact HB0.out | apply Blk.drewN | apply Blk.drew | apply Blk.alloc))).mono ?_; rintro e w1 ⟨rfl, hb⟩; have HB1 := Aside0.mk (below_step (w := w) (by repeat (first | exact Below.refl _ _ | apply pw_below_drewN | apply below_drew | apply below_alloc)) hb); have HA1 := Aside0.mk (Blk.below (w := (w.alloc (.cells (nums .i8 L).toArray 30))) HB0.out (below_step (w := (w.alloc (.cells (nums .i8 L).toArray 30))) (by repeat (first | exact Below.refl _ _ | apply pw_below_drewN | apply below_drew | apply below_alloc)) hb)); clear hb)
      go_ret2
      exact ⟨rfl, HB1.out⟩
    · cases b2
      · go_enter Try.func21, Try.ntmps21
        go_wp2_with fail
        refine (F0 _).mono ?_
        rintro e w' ⟨rfl, ⟨n0, rfl⟩⟩
        go_wp2_with fail
        refine (F1 _).mono ?_
        rintro e w' ⟨rfl, ⟨n1, rfl⟩⟩
        go_wp2_with fail
        refine (F2 _).mono ?_
        rintro e w' ⟨rfl, ⟨n2, rfl⟩⟩
        go_wp2_with (go_at_call 42; refine (HK.out _ _ (by repeat (first | exact HB0.out | apply Blk.drewN | apply Blk.drew | apply Blk.alloc))).mono ?_; rintro e w1 ⟨rfl, hb⟩; have HB1 := Aside0.mk (below_step (w := w) (by repeat (first | exact Below.refl _ _ | apply pw_below_drewN | apply below_drew | apply below_alloc)) hb); have HA1 := Aside0.mk (Blk.below (w := (w.alloc (.cells (nums .i8 L).toArray 30))) HB0.out (below_step (w := (w.alloc (.cells (nums .i8 L).toArray 30))) (by repeat (first | exact Below.refl _ _ | apply pw_below_drewN | apply below_drew | apply below_alloc)) hb)); clear hb)
        go_ret2
        exact ⟨rfl, HB1.out⟩
      · by_cases hle : h ≤ t1
        all_goals
          first | (have hle3 : decide (h ≤ t1) = true := decide_eq_true hle) | (have hle3 : decide (h ≤ t1) = false := decide_eq_false hle)
          rw [hle3] at HK
          clear hle
          go_enter Try.func21, Try.ntmps21
          go_wp2_with fail
          refine (F0 _).mono ?_
          rintro e w' ⟨rfl, ⟨n0, rfl⟩⟩
          go_wp2_with fail
          refine (F1 _).mono ?_
          rintro e w' ⟨rfl, ⟨n1, rfl⟩⟩
          go_wp2_with fail
          refine (F2 _).mono ?_
          rintro e w' ⟨rfl, ⟨n2, rfl⟩⟩
          go_wp2_with (go_at_call 42; refine (HK.out _ _ (by repeat (first | exact HB0.out | apply Blk.drewN | apply Blk.drew | apply Blk.alloc))).mono ?_; rintro e w1 ⟨rfl, hb⟩; have HB1 := Aside0.mk (below_step (w := w) (by repeat (first | exact Below.refl _ _ | apply pw_below_drewN | apply below_drew | apply below_alloc)) hb); have HA1 := Aside0.mk (Blk.below (w := (w.alloc (.cells (nums .i8 L).toArray 30))) HB0.out (below_step (w := (w.alloc (.cells (nums .i8 L).toArray 30))) (by repeat (first | exact Below.refl _ _ | apply pw_below_drewN | apply below_drew | apply below_alloc)) hb)); clear hb)
          go_ret2
          exact ⟨rfl, HB1.out⟩
set_option maxHeartbeats 8000000 in
set_option maxRecDepth 100000 in
theorem specWst_ok (L : List Int) (hL : L.length = 72) (h8 : i8All L) (hd : dayOk L = true) (thick : Int) (ht : inR thick 1 9 = true) (h n : Nat) (hn : h + n ≤ 24) (t1 : Int) (ht1 : t1 = (h : Int) + n) (shade : Bool) (R0 R1 : Int) (hR : downF (fun m : Nat => beh L thick shade h n (m : Int)) 1001 = (R0, R1)) (w : World) :
    Calls Try.prog 21 #[(.agg (nums .i8 L).toArray), .int .i64 thick, .int .i64 (h : Int), .int .i64 t1, .bool shade] w fun e w' => e = .returned (.tuple #[.int .i64 R0, .int .i64 R1]) ∧ Below w.heap.size w w' := by
  have e1 : inR (h : Int) 0 24 = true := by rw [inR_iff]; omega
  have e2 : inR t1 0 24 = true := by rw [inR_iff]; omega
  have hle3 : decide ((h : Int) ≤ t1) = true := decide_eq_true (by omega)
  have HK := Aside0.mk (fun W A => asked_calls0 L hL h8 true w.heap.size W A)
  rw [asked_none.2 ⟨hd, rfl⟩] at HK
  have F0 := fun W => spec_l00In.calls thick 1 9 _ W (l00In_f thick 1 9)
  have F1 := fun W => spec_l03From.calls h _ W (from_f h)
  have F2 := fun W => spec_l03From.calls t1 _ W (from_f t1)
  rw [ht] at F0
  rw [e1] at F1
  rw [e2] at F2
  obtain ⟨k0, k1⟩ := (inR_iff _ _ _).1 ht
  have HB0 : Aside0 (Blk (w.alloc (.cells (nums .i8 L).toArray 30)) w.heap.size 30 (nums .i8 L)) := ⟨Blk.new w _ _⟩
  have HBH := Aside0.mk (fun (wet : Int) (hw : washOk wet thick = true) W hB => l03Behind_calls L hL hd wet thick hw h n hn t1 ht1 shade w.heap.size W hB)
  have i2 : IntKind.i8.wrap thick = thick := IntWalk.i8_in _ ⟨by omega, by omega⟩
  obtain ⟨f, hf⟩ : ∃ f : Nat → Int, f = fun m : Nat => beh L thick shade h n (m : Int) := ⟨_, rfl⟩
  rw [← hf] at hR
  have HF := Aside0.mk (fun q : Nat => (show beh L thick shade h n (q : Int) = f q by rw [hf]))
  have HR0 := Aside0.mk hR
  clear hL h8 hd e1 e2 ht ht1 hf hR
  go_enter Try.func21, Try.ntmps21
  go_wp2_with fail
  refine (F0 _).mono ?_
  rintro e w' ⟨rfl, ⟨n0, rfl⟩⟩
  go_wp2_with fail
  refine (F1 _).mono ?_
  rintro e w' ⟨rfl, ⟨n1, rfl⟩⟩
  go_wp2_with fail
  refine (F2 _).mono ?_
  rintro e w' ⟨rfl, ⟨n2, rfl⟩⟩
  go_wp2_with (go_at_call 42; refine (HK.out _ _ (by repeat (first | exact HB0.out | apply Blk.drewN | apply Blk.drew | apply Blk.alloc))).mono ?_; rintro e w1 ⟨rfl, hb⟩; have HB1 := Aside0.mk (below_step (w := w) (by repeat (first | exact Below.refl _ _ | apply pw_below_drewN | apply below_drew | apply below_alloc)) hb); have HA1 := Aside0.mk (Blk.below (w := (w.alloc (.cells (nums .i8 L).toArray 30))) HB0.out (below_step (w := (w.alloc (.cells (nums .i8 L).toArray 30))) (by repeat (first | exact Below.refl _ _ | apply pw_below_drewN | apply below_drew | apply below_alloc)) hb)); clear hb)
  go_loopw [14] (fun v14 w' => ∃ q : Nat, q ≤ 1001 ∧ v14 = .int .i64 ((q : Int) - 1) ∧ Aside0 (downF f q = (R0, R1)) ∧ Aside0 (Blk w' w.heap.size 30 (nums .i8 L)) ∧ Aside0 (Below w.heap.size w w')) (fun v14 _ => (intOf v14 + 1).toNat)
  case atStart => exact ⟨1001, by omega, rfl, HR0, HA1, HB1⟩
  case round =>
    clear HA1 HB1 HR0
    obtain ⟨q, hq, rfl, HR, HA, HB⟩ := hrel
    rcases q with _ | m
    · have HR2 : Aside0 ((R0, R1) = ((0 : Int), (6 : Int))) := ⟨HR.out.symm⟩
      clear HR
      have e0 := congrArg Prod.fst HR2.out
      have e1 := congrArg Prod.snd HR2.out
      simp only at e0 e1
      subst e0 e1
      go_wp2
      go_ret2
      exact ⟨rfl, HB.out⟩
    · have HC := Aside0.mk (fun W hB => HBH.out (m : Int) (washOk_iff.2 ⟨⟨by omega, by omega⟩, k0, k1⟩) W hB)
      rw [HF.out m] at HC
      have HR2 := Aside0.mk (show (if f m = 0 then ((m : Int), 0) else downF f m) = (R0, R1) from HR.out)
      clear HR
      have e3 : ((m + 1 : Nat) : Int) - 1 = (m : Int) := by omega
      rw [e3]
      have i0 : (0 : Int) ≤ (m : Int) := by omega
      have i1 : (m : Int) ≤ 1000 := by omega
      have i3 : IntKind.i16.wrap (m : Int) = (m : Int) := IntWalk.i16_in _ ⟨by omega, by omega⟩
      generalize hy : f m = y at *
      clear hy
      by_cases hy0 : y = 0
      · subst hy0
        have e0 := congrArg Prod.fst HR2.out
        have e1 := congrArg Prod.snd HR2.out
        simp only [if_true, ↓reduceIte] at e0 e1
        subst e0 e1
        go_wp2_with (go_at_call 48; refine (HC.out _ (by repeat (first | exact HA.out | apply Blk.drewN | apply Blk.drew | apply Blk.alloc))).mono ?_; rintro e w2 ⟨rfl, hb⟩; have HB2 := Aside0.mk (below_step HB.out hb); have HA2 := Aside0.mk (HA.out.below hb); clear hb)
        go_ret2
        exact ⟨rfl, HB2.out⟩
      · have HR3 := Aside0.mk (show downF f m = (R0, R1) by have := HR2.out; rwa [if_neg hy0] at this)
        clear HR2
        go_wp2_with (go_at_call 48; refine (HC.out _ (by repeat (first | exact HA.out | apply Blk.drewN | apply Blk.drew | apply Blk.alloc))).mono ?_; rintro e w2 ⟨rfl, hb⟩; have HB2 := Aside0.mk (below_step HB.out hb); have HA2 := Aside0.mk (HA.out.below hb); clear hb)
        go_roundw
        case rel => exact ⟨m, by omega, by go_num, HR3, HA2, HB2⟩
        case measure => simp [intOf] <;> omega
theorem below_drawn0 {w w' : World} (h : Drawn0 w w') : Below w.heap.size w w' := by
  obtain ⟨n, rfl⟩ := h
  exact pw_below_drewN (Below.refl _ _) _
theorem within_below (x a b : Int) (W : World) : Calls Try.prog 53 #[.int .i64 x, .int .i64 a, .int .i64 b] W fun e w' => e = .returned (.bool (inR x a b)) ∧ Below W.heap.size W w' :=
  (impl_within.calls x a b _ W (within_f x a b)).mono (fun e w' h => ⟨h.1, below_drawn0 h.2⟩)
theorem unless_below (b : Bool) (c : Int) (W : World) : Calls Try.prog 52 #[.bool b, .int .i64 c] W fun e w' => e = .returned (.int .i64 (if b = true then 0 else c)) ∧ Below W.heap.size W w' :=
  (impl_unless.calls b c _ W (by unfold impl_unless.f; cases b <;> rfl)).mono (fun e w' h => ⟨h.1, below_drawn0 h.2⟩)
theorem firstOf2_below (a b : Int) (W : World) (A : Option Addr) (hC : Kd.C (Kd.int .i64) W A 2 [a, b]) : Calls Try.prog 51 #[.slice A 2 2] W fun e w' => e = .returned (.int .i64 (if a = 0 then b else a)) ∧ Below W.heap.size W w' :=
  (impl_firstOf.calls 3 A 2 [a, b] _ W hC (by simp) (firstOf2_f a b)).mono (fun e w' h => ⟨h.1, below_drawn0 h.2⟩)
theorem code_wst (L : List Int) (thick h t1 : Int) : (if codeF L [] h t1 = 0 then (if inR thick 1 9 = true then 0 else 2) else codeF L [] h t1) = askedF L [] (inR thick 1 9 && (inR h 0 24 && (inR t1 0 24 && decide (h ≤ t1)))) := by
  rw [code_eq]
  unfold askedF
  cases dayOk L <;> cases inR thick 1 9 <;> cases (inR h 0 24 && (inR t1 0 24 && decide (h ≤ t1))) <;> simp
set_option maxHeartbeats 8000000 in
set_option maxRecDepth 100000 in
theorem implWst_bad (L : List Int) (hL : L.length = 72) (h8 : i8All L) (thick h t1 : Int) (shade : Bool) (w : World) (hc : askedF L [] (inR thick 1 9 && (inR h 0 24 && (inR t1 0 24 && decide (h ≤ t1)))) ≠ 0) :
    Calls Try.prog 22 #[(.agg (nums .i8 L).toArray), .int .i64 thick, .int .i64 h, .int .i64 t1, .bool shade] w fun e w' => e = .returned (.tuple #[.int .i64 0, .int .i64 (askedF L [] (inR thick 1 9 && (inR h 0 24 && (inR t1 0 24 && decide (h ≤ t1)))))]) ∧ Below w.heap.size w w' := by
  rw [← code_wst] at hc ⊢
  have HC := Aside0.mk (fun W => dayCode0 L hL h8 h t1 W)
  have HW := Aside0.mk (fun W => within_below thick 1 9 W)
  generalize codeF L [] h t1 = code at *
  generalize inR thick 1 9 = b0 at *
  have HU := Aside0.mk (fun W => unless_below b0 2 W)
  generalize (if b0 = true then (0 : Int) else 2) = u at *
  have HFO := Aside0.mk (fun W A hC => firstOf2_below code u W A hC)
  generalize (if code = 0 then u else code) = res at *
  have hc2 : (res != 0) = true := by simpa using hc
  have HB0 : Aside0 (Blk (w.alloc (.cells (nums .i8 L).toArray 30)) w.heap.size 30 (nums .i8 L)) := ⟨Blk.new w _ _⟩
  have HN : Aside0 ((nums .i8 L).length = 72) := ⟨by rw [nums_len]; exact hL⟩
  have HS : Aside0 (((nums .i8 L).drop 0).take 72 = nums .i8 L) := ⟨by rw [List.drop_zero, List.take_of_length_le (by rw [HN.out]; exact Nat.le_refl _)]⟩
  clear hL h8 hc
  go_enter Try.func22, Try.ntmps22
  go_wp2_with (first | (refine wl_load (by rfl) 30 _ (by rfl) w.heap.size 0 (by rfl) 30 72 _ _ HB0.out HS.out HN.out _ Try.underlying30 (by rfl) (by kernel_rfl) ?_) | (go_at_call 45; refine (HC.out _).mono ?_; rintro e w1 ⟨rfl, hb⟩; have HB1 := Aside0.mk (below_step (below_alloc (Below.refl w.heap.size w) _) hb); have HA1 := Aside0.mk (HB0.out.below hb); clear hb) | (go_at_call 53; refine (HW.out _).mono ?_; rintro e w2 ⟨rfl, hb⟩; have HB2 := Aside0.mk (below_step HB1.out hb); have HA2 := Aside0.mk (HA1.out.below hb); clear hb HA1 HB1) | (go_at_call 52; refine (HU.out _).mono ?_; rintro e w3 ⟨rfl, hb⟩; have HB3 := Aside0.mk (below_step HB2.out hb); have HA3 := Aside0.mk (HA2.out.below hb); clear hb HA2 HB2) | (go_at_call 51; refine (HFO.out _ _ (C_int2 (by first | exact Blk.new _ _ _ | exact Blk.at_ (by simp) rfl | (apply Blk.drew; exact Blk.new _ _ _)))).mono ?_; rintro e w4 ⟨rfl, hb⟩; have HB4 := Aside0.mk (below_step (w := w) (by repeat (first | exact HB3.out | apply below_drew | apply below_alloc)) hb); have HA4 := Aside0.mk (Blk.below (w := _) (by repeat (first | exact HA3.out | apply Blk.drew | apply Blk.alloc)) hb); clear hb HA3 HB3))
  go_ret2
  exact ⟨rfl, HB4.out⟩
set_option maxHeartbeats 8000000 in
set_option maxRecDepth 100000 in
theorem implWst_ok (L : List Int) (hL : L.length = 72) (h8 : i8All L) (hd : dayOk L = true) (thick : Int) (ht : inR thick 1 9 = true) (h t1 : Nat) (h0 : h ≤ t1) (hto : t1 ≤ 24) (shade : Bool) (R0 R1 : Int) (hR : downF (fun m : Nat => beh L thick shade h (t1 - h) (m : Int)) 1001 = (R0, R1)) (w : World) :
    Calls Try.prog 22 #[(.agg (nums .i8 L).toArray), .int .i64 thick, .int .i64 (h : Int), .int .i64 (t1 : Int), .bool shade] w fun e w' => e = .returned (.tuple #[.int .i64 R0, .int .i64 R1]) ∧ Below w.heap.size w w' := by
  have e1 : inR (h : Int) 0 24 = true := by rw [inR_iff]; omega
  have e2 : inR (t1 : Int) 0 24 = true := by rw [inR_iff]; omega
  have HC := Aside0.mk (fun W => dayCode0 L hL h8 h t1 W)
  rw [code_eq, asked_none.2 ⟨hd, by rw [e1, e2, decide_eq_true (by omega)]; rfl⟩] at HC
  have HW := Aside0.mk (fun W => within_below thick 1 9 W)
  rw [ht] at HW
  have HU := Aside0.mk (fun W => unless_below true 2 W)
  simp only [if_true, ↓reduceIte] at HU
  have HFO := Aside0.mk (fun W A hC => firstOf2_below 0 0 W A hC)
  simp only [if_true, ↓reduceIte] at HFO
  obtain ⟨k0, k1⟩ := (inR_iff _ _ _).1 ht
  have HB0 : Aside0 (Blk (w.alloc (.cells (nums .i8 L).toArray 30)) w.heap.size 30 (nums .i8 L)) := ⟨Blk.new w _ _⟩
  have HN : Aside0 ((nums .i8 L).length = 72) := ⟨by rw [nums_len]; exact hL⟩
  have HS : Aside0 (((nums .i8 L).drop 0).take 72 = nums .i8 L) := ⟨by rw [List.drop_zero, List.take_of_length_le (by rw [HN.out]; exact Nat.le_refl _)]⟩
  obtain ⟨n, hn⟩ : ∃ n, n = 24 - h := ⟨_, rfl⟩
  obtain ⟨f, hf⟩ : ∃ f : Nat → Int, f = fun m : Nat => beh L thick shade h (t1 - h) (m : Int) := ⟨_, rfl⟩
  rw [← hf] at hR
  have HCO : Aside0 (∀ m : Nat, m ≤ 1000 → ∀ W, Calls Try.prog 49 #[(.agg (nums .i8 L).toArray), .agg #[.int .i16 (m : Int), .int .i8 thick], .int .i64 (h : Int), .bool shade] W fun e w' => ∃ A c l, e = .returned (.slice A (n + 1) c) ∧ n + 1 ≤ c ∧ Kd.C (Kd.int .i64) w' A (n + 1) l ∧ rd l ((t1 - h : Nat) : Int) = f m ∧ Below W.heap.size W w') := ⟨fun m hm W => (course_list L hL hd (m : Int) thick (washOk_iff.2 ⟨⟨by omega, by omega⟩, k0, k1⟩) h (by omega) n hn shade W).mono (by
    rintro e w' ⟨A, c, rfl, hc, hC, hb⟩
    exact ⟨A, c, _, rfl, hc, hC, by rw [hf]; exact map_getD _ _ _ (by omega), hb⟩)⟩
  have i2 : IntKind.i8.wrap thick = thick := IntWalk.i8_in _ ⟨by omega, by omega⟩
  have HR0 := Aside0.mk hR
  have j0 : (h : Int) ≤ (t1 : Int) := by omega
  have j1 : (t1 : Int) - (h : Int) < (n : Int) + 1 := by omega
  have j2 : (t1 : Int) ≤ 24 := by omega
  have j3 : n ≤ 24 := by omega
  clear hL h8 hd e1 e2 ht hf hR hn
  go_enter Try.func22, Try.ntmps22
  go_wp2_with (first | (refine wl_load (by rfl) 30 _ (by rfl) w.heap.size 0 (by rfl) 30 72 _ _ HB0.out HS.out HN.out _ Try.underlying30 (by rfl) (by kernel_rfl) ?_) | (go_at_call 45; refine (HC.out _).mono ?_; rintro e w1 ⟨rfl, hb⟩; have HB1 := Aside0.mk (below_step (below_alloc (Below.refl w.heap.size w) _) hb); have HA1 := Aside0.mk (HB0.out.below hb); clear hb) | (go_at_call 53; refine (HW.out _).mono ?_; rintro e w2 ⟨rfl, hb⟩; have HB2 := Aside0.mk (below_step HB1.out hb); have HA2 := Aside0.mk (HA1.out.below hb); clear hb HA1 HB1) | (go_at_call 52; refine (HU.out _).mono ?_; rintro e w3 ⟨rfl, hb⟩; have HB3 := Aside0.mk (below_step HB2.out hb); have HA3 := Aside0.mk (HA2.out.below hb); clear hb HA2 HB2) | (go_at_call 51; refine (HFO.out _ _ (C_int2 (by first | exact Blk.new _ _ _ | exact Blk.at_ (by simp) rfl | (apply Blk.drew; exact Blk.new _ _ _)))).mono ?_; rintro e w4 ⟨rfl, hb⟩; have HB4 := Aside0.mk (below_step (w := w) (by repeat (first | exact HB3.out | apply below_drew | apply below_alloc)) hb); have HA4 := Aside0.mk (Blk.below (w := _) (by repeat (first | exact HA3.out | apply Blk.drew | apply Blk.alloc)) hb); clear hb HA3 HB3))
  go_loopw [13] (fun v13 w' => ∃ q : Nat, q ≤ 1001 ∧ v13 = .int .i64 ((q : Int) - 1) ∧ Aside0 (downF f q = (R0, R1)) ∧ Aside0 (Blk w' w.heap.size 30 (nums .i8 L)) ∧ Aside0 (Below w.heap.size w w')) (fun v13 _ => (intOf v13 + 1).toNat)
  case atStart => exact ⟨1001, by omega, rfl, HR0, HA4, HB4⟩
  case round =>
    clear HA4 HB4 HR0
    obtain ⟨q, hq, rfl, HR, HA, HB⟩ := hrel
    rcases q with _ | m
    · have HR2 : Aside0 ((R0, R1) = ((0 : Int), (6 : Int))) := ⟨HR.out.symm⟩
      clear HR
      have e0 := congrArg Prod.fst HR2.out
      have e1 := congrArg Prod.snd HR2.out
      simp only at e0 e1
      subst e0 e1
      go_wp2
      go_ret2
      exact ⟨rfl, HB.out⟩
    · have HCC := Aside0.mk (HCO.out m (by omega))
      have HR2 := Aside0.mk (show (if f m = 0 then ((m : Int), 0) else downF f m) = (R0, R1) from HR.out)
      clear HR
      have e3 : ((m + 1 : Nat) : Int) - 1 = (m : Int) := by omega
      rw [e3]
      have i0 : (0 : Int) ≤ (m : Int) := by omega
      have i1 : (m : Int) ≤ 1000 := by omega
      have i3 : IntKind.i16.wrap (m : Int) = (m : Int) := IntWalk.i16_in _ ⟨by omega, by omega⟩
      generalize hy : f m = y at *
      clear hy
      by_cases hy0 : y = 0
      · subst hy0
        have e0 := congrArg Prod.fst HR2.out
        have e1 := congrArg Prod.snd HR2.out
        simp only [if_true, ↓reduceIte] at e0 e1
        subst e0 e1
        go_wp2_with (first | (refine wl_load (by rfl) 30 _ (by rfl) w.heap.size 0 (by rfl) 30 72 _ _ HA.out HS.out HN.out _ Try.underlying30 (by rfl) (by kernel_rfl) ?_) | (go_at_call 49; refine (HCC.out _).mono ?_; rintro e w2 ⟨A, c, l, rfl, hc, hC, hl, hb⟩; have HB2 := Aside0.mk (below_step HB.out hb); have HA2 := Aside0.mk (HA.out.below hb); obtain ⟨ad, rfl, hx⟩ := Kd.at_int hC ((t1 - h : Nat) : Int) (by omega) (by omega); rw [Int.toNat_natCast, hl] at hx; clear hb hc hC hl))
        go_ret2
        exact ⟨rfl, HB2.out⟩
      · have HR3 := Aside0.mk (show downF f m = (R0, R1) by have := HR2.out; rwa [if_neg hy0] at this)
        clear HR2
        go_wp2_with (first | (refine wl_load (by rfl) 30 _ (by rfl) w.heap.size 0 (by rfl) 30 72 _ _ HA.out HS.out HN.out _ Try.underlying30 (by rfl) (by kernel_rfl) ?_) | (go_at_call 49; refine (HCC.out _).mono ?_; rintro e w2 ⟨A, c, l, rfl, hc, hC, hl, hb⟩; have HB2 := Aside0.mk (below_step HB.out hb); have HA2 := Aside0.mk (HA.out.below hb); obtain ⟨ad, rfl, hx⟩ := Kd.at_int hC ((t1 - h : Nat) : Int) (by omega) (by omega); rw [Int.toNat_natCast, hl] at hx; clear hb hc hC hl))
        go_roundw
        case rel => exact ⟨m, by omega, by go_num, HR3, ⟨by repeat (first | exact HA2.out | apply Blk.drew)⟩, ⟨by repeat (first | exact HB2.out | apply below_drew)⟩⟩
        case measure => simp [intOf] <;> omega
set_option maxHeartbeats 8000000 in
set_option maxRecDepth 100000 in
theorem lawWst_calls (L : List Int) (hL : L.length = 72) (h8 : i8All L) (thick h t1 : Int) (shade : Bool) (w : World) :
    Calls Try.prog 6 #[(.agg (nums .i8 L).toArray), .int .i64 thick, .int .i64 h, .int .i64 t1, .bool shade] w fun e w' => e = .returned (.bool true) ∧ Below w.heap.size w w' := by
  have HTD := Aside0.mk (fun W => toDay_calls L hL W)
  have HB0 : Aside0 (Blk (w.alloc (.cells (nums .i8 L).toArray 25)) w.heap.size 25 (nums .i8 L)) := ⟨Blk.new w _ _⟩
  have HN : Aside0 ((nums .i8 L).length = 72) := ⟨by rw [nums_len]; exact hL⟩
  have HS : Aside0 (((nums .i8 L).drop 0).take 72 = nums .i8 L) := ⟨by rw [List.drop_zero, List.take_of_length_le (by rw [HN.out]; exact Nat.le_refl _)]⟩
  obtain ⟨r, c, HX, HY⟩ : ∃ r c, Aside0 (∀ W, Calls Try.prog 21 #[(.agg (nums .i8 L).toArray), .int .i64 thick, .int .i64 h, .int .i64 t1, .bool shade] W fun e w' => e = .returned (.tuple #[.int .i64 r, .int .i64 c]) ∧ Below W.heap.size W w') ∧ Aside0 (∀ W, Calls Try.prog 22 #[(.agg (nums .i8 L).toArray), .int .i64 thick, .int .i64 h, .int .i64 t1, .bool shade] W fun e w' => e = .returned (.tuple #[.int .i64 r, .int .i64 c]) ∧ Below W.heap.size W w') := by
    by_cases hc : askedF L [] (inR thick 1 9 && (inR h 0 24 && (inR t1 0 24 && decide (h ≤ t1)))) = 0
    · obtain ⟨hd, hf⟩ := asked_none.1 hc
      rw [Bool.and_eq_true] at hf
      obtain ⟨ht, hf⟩ := hf
      simp only [inR, Bool.and_eq_true, decide_eq_true_eq] at hf
      obtain ⟨m, rfl⟩ := Int.eq_ofNat_of_zero_le hf.1.1
      obtain ⟨m2, rfl⟩ := Int.eq_ofNat_of_zero_le hf.2.1.1
      exact ⟨_, _, ⟨fun W => specWst_ok L hL h8 hd thick ht m (m2 - m) (by omega) m2 (by omega) shade _ _ rfl W⟩, ⟨fun W => implWst_ok L hL h8 hd thick ht m m2 (by omega) (by omega) shade _ _ rfl W⟩⟩
    · exact ⟨_, _, ⟨fun W => specWst_bad L hL h8 thick h t1 shade W hc⟩, ⟨fun W => implWst_bad L hL h8 thick h t1 shade W hc⟩⟩
  clear hL h8
  go_enter Try.func6, Try.ntmps6
  go_wp2_with (first | (refine wl_load (by rfl) 25 _ (by rfl) w.heap.size 0 (by rfl) 25 72 _ _ HA2.out HS.out HN.out _ Try.underlying25 (by rfl) (by kernel_rfl) ?_) | (refine wl_load (by rfl) 25 _ (by rfl) w.heap.size 0 (by rfl) 25 72 _ _ HB0.out HS.out HN.out _ Try.underlying25 (by rfl) (by kernel_rfl) ?_) | (go_at_call 14; refine (HTD.out _).mono ?_; rintro e w3 ⟨rfl, hb⟩; have HB3 := Aside0.mk (below_step HB2.out hb); have HA3 := Aside0.mk (HA2.out.below hb); clear hb) | (go_at_call 14; refine (HTD.out _).mono ?_; rintro e w1 ⟨rfl, hb⟩; have HB1 := Aside0.mk (below_step (below_alloc (Below.refl w.heap.size w) _) hb); have HA1 := Aside0.mk (HB0.out.below hb); clear hb) | (go_at_call 21; refine (HX.out _).mono ?_; rintro e w2 ⟨rfl, hb⟩; have HB2 := Aside0.mk (below_step HB1.out hb); have HA2 := Aside0.mk (HA1.out.below hb); clear hb HB1 HA1) | (go_at_call 22; refine (HY.out _).mono ?_; rintro e w4 ⟨rfl, hb⟩; have HB4 := Aside0.mk (below_step HB3.out hb); clear hb))
  go_ret
  exact ⟨rfl, HB4.out⟩

end Go.Proofs.Ytkfbkmkaijonhaa.X
