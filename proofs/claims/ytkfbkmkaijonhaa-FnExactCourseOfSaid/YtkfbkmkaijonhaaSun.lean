/- Contracts of functions over blocks of cells: what each call answers, and what it leaves as it was. -/
import Derived.Test.YtkfbkmkaijonhaaSpec3
import Derived.Test.YtkfbkmkaijonhaaImpl2
import Derived.Test.YtkfbkmkaijonhaaDry3
set_option linter.unusedVariables false
set_option linter.unusedSimpArgs false
namespace Go.Proofs.Ytkfbkmkaijonhaa.X
open Go.RowKit Go.Proofs.YtkfbkmkaijonhaaW.PrintWords Go.Proofs.YtkfbkmkaijonhaaW.PrintLast Go.Proofs.YtkfbkmkaijonhaaW.PrintMore
attribute [local go_sem] max2_int min2_int max_two min_two max_three min_three max_four min_four
theorem asked_calls0 (L : List Int) (hL : L.length = 72) (h8 : i8All L) (fine : Bool) (g : Nat) (W : World) (A : Option Addr) (h1 : Blk W g 30 (nums .i8 L)) : Calls Try.prog 42 #[.pointer (some ⟨g, 0, none⟩), .slice A 0 0, .bool fine] W fun e w' => e = .returned (.int .i64 (askedF L [] fine)) ∧ Below W.heap.size W w' :=
  l03Asked_calls L hL h8 [] (by intro x hx; cases hx) fine g A 0 W h1 ⟨rfl, by simp, fun h => absurd h (by simp)⟩
theorem dayCode1 (L : List Int) (hL : L.length = 72) (h8 : i8All L) (wet thick : Int) (hw : wshR ⟨wet, thick⟩) (A : Option Addr) (h t1 : Int) (w : World) (hC : Kd.C k39 w A 1 [⟨wet, thick⟩]) :
    Calls Try.prog 45 #[(.agg (nums .i8 L).toArray), .slice A 1 1, .int .i64 h, .int .i64 t1] w fun e w' => e = .returned (.int .i64 (codeF L [⟨wet, thick⟩] h t1)) ∧ Below w.heap.size w w' :=
  dayCode_calls L hL h8 [⟨wet, thick⟩] (by intro x hx; simp at hx; subst hx; exact hw) A 1 h t1 w hC
theorem dayCode0 (L : List Int) (hL : L.length = 72) (h8 : i8All L) (h t1 : Int) (w : World) :
    Calls Try.prog 45 #[(.agg (nums .i8 L).toArray), .slice none 0 0, .int .i64 h, .int .i64 t1] w fun e w' => e = .returned (.int .i64 (codeF L [] h t1)) ∧ Below w.heap.size w w' :=
  dayCode_calls L hL h8 [] (by intro x hx; cases hx) none 0 h t1 w ⟨rfl, by simp, fun h => absurd h (by simp)⟩
set_option maxHeartbeats 8000000 in
set_option maxRecDepth 100000 in
theorem specSun_bad (L : List Int) (hL : L.length = 72) (h8 : i8All L) (h t1 : Int) (w : World) (hc : askedF L [] (inR h 0 24 && (inR t1 0 24 && decide (h ≤ t1))) ≠ 0) :
    Calls Try.prog 13 #[(.agg (nums .i8 L).toArray), .int .i64 h, .int .i64 t1] w fun e w' => e = .returned (.tuple #[.int .i64 0, .int .i64 (askedF L [] (inR h 0 24 && (inR t1 0 24 && decide (h ≤ t1))))]) ∧ Below w.heap.size w w' := by
  have HK := Aside0.mk (fun W A => asked_calls0 L hL h8 (inR h 0 24 && (inR t1 0 24 && decide (h ≤ t1))) w.heap.size W A)
  have hfr := fun x W => spec_l03From.calls x _ W (from_f x)
  generalize askedF L [] (inR h 0 24 && (inR t1 0 24 && decide (h ≤ t1))) = code at *
  have hc2 : (code != 0) = true := by simpa using hc
  have HB0 : Aside0 (Blk (w.alloc (.cells (nums .i8 L).toArray 30)) w.heap.size 30 (nums .i8 L)) := ⟨Blk.new w _ _⟩
  clear hL h8 hc
  generalize hb1 : inR h 0 24 = b1 at *
  generalize hb2 : inR t1 0 24 = b2 at *
  have F1 := fun W => hfr h W
  have F2 := fun W => hfr t1 W
  rw [hb1] at F1
  rw [hb2] at F2
  clear hb1 hb2 hfr
  cases b1
  · go_enter Try.func13, Try.ntmps13
    go_wp2_with fail
    refine (F1 _).mono ?_
    rintro e w' ⟨rfl, ⟨nd, rfl⟩⟩
    go_wp2_with (go_at_call 42; refine (HK.out _ _ (by repeat (first | exact HB0.out | apply Blk.drewN | apply Blk.drew | apply Blk.alloc))).mono ?_; rintro e w1 ⟨rfl, hb⟩; have HB1 := Aside0.mk (below_step (w := w) (by repeat (first | exact Below.refl _ _ | apply pw_below_drewN | apply below_drew | apply below_alloc)) hb); have HA1 := Aside0.mk (Blk.below (w := (w.alloc (.cells (nums .i8 L).toArray 30))) HB0.out (below_step (w := (w.alloc (.cells (nums .i8 L).toArray 30))) (by repeat (first | exact Below.refl _ _ | apply pw_below_drewN | apply below_drew | apply below_alloc)) hb)); clear hb)
    go_ret2
    exact ⟨rfl, HB1.out⟩
  · cases b2
    · go_enter Try.func13, Try.ntmps13
      go_wp2_with fail
      refine (F1 _).mono ?_
      rintro e w' ⟨rfl, ⟨nd, rfl⟩⟩
      go_wp2_with fail
      refine (F2 _).mono ?_
      rintro e w' ⟨rfl, ⟨nd2, rfl⟩⟩
      go_wp2_with (go_at_call 42; refine (HK.out _ _ (by repeat (first | exact HB0.out | apply Blk.drewN | apply Blk.drew | apply Blk.alloc))).mono ?_; rintro e w1 ⟨rfl, hb⟩; have HB1 := Aside0.mk (below_step (w := w) (by repeat (first | exact Below.refl _ _ | apply pw_below_drewN | apply below_drew | apply below_alloc)) hb); have HA1 := Aside0.mk (Blk.below (w := (w.alloc (.cells (nums .i8 L).toArray 30))) HB0.out (below_step (w := (w.alloc (.cells (nums .i8 L).toArray 30))) (by repeat (first | exact Below.refl _ _ | apply pw_below_drewN | apply below_drew | apply below_alloc)) hb)); clear hb)
      go_ret2
      exact ⟨rfl, HB1.out⟩
    · by_cases hle : h ≤ t1
      all_goals
        have hle2 := decide_eq_true_iff (p := h ≤ t1)
        first | (have hle3 : decide (h ≤ t1) = true := decide_eq_true hle) | (have hle3 : decide (h ≤ t1) = false := decide_eq_false hle)
        rw [hle3] at HK
        clear hle2 hle
        go_enter Try.func13, Try.ntmps13
        go_wp2_with fail
        refine (F1 _).mono ?_
        rintro e w' ⟨rfl, ⟨nd, rfl⟩⟩
        go_wp2_with fail
        refine (F2 _).mono ?_
        rintro e w' ⟨rfl, ⟨nd2, rfl⟩⟩
        go_wp2_with (go_at_call 42; refine (HK.out _ _ (by repeat (first | exact HB0.out | apply Blk.drewN | apply Blk.drew | apply Blk.alloc))).mono ?_; rintro e w1 ⟨rfl, hb⟩; have HB1 := Aside0.mk (below_step (w := w) (by repeat (first | exact Below.refl _ _ | apply pw_below_drewN | apply below_drew | apply below_alloc)) hb); have HA1 := Aside0.mk (Blk.below (w := (w.alloc (.cells (nums .i8 L).toArray 30))) HB0.out (below_step (w := (w.alloc (.cells (nums .i8 L).toArray 30))) (by repeat (first | exact Below.refl _ _ | apply pw_below_drewN | apply below_drew | apply below_alloc)) hb)); clear hb)
        go_ret2
        exact ⟨rfl, HB1.out⟩
set_option maxHeartbeats 8000000 in
set_option maxRecDepth 100000 in
theorem specSun_ok (L : List Int) (hL : L.length = 72) (h8 : i8All L) (hd : dayOk L = true) (h n : Nat) (hn : h + n ≤ 24) (t1 : Int) (ht : t1 = (h : Int) + n) (w : World) :
    Calls Try.prog 13 #[(.agg (nums .i8 L).toArray), .int .i64 h, .int .i64 t1] w fun e w' => e = .returned (.tuple #[.int .i64 (sunS L h n), .int .i64 0]) ∧ Below w.heap.size w w' := by
  have e1 : inR (h : Int) 0 24 = true := by rw [inR_iff]; omega
  have e2 : inR t1 0 24 = true := by rw [inR_iff]; omega
  have hle3 : decide ((h : Int) ≤ t1) = true := decide_eq_true (by omega)
  have HK := Aside0.mk (fun W A => asked_calls0 L hL h8 true w.heap.size W A)
  rw [asked_none.2 ⟨hd, rfl⟩] at HK
  have F1 := fun W => spec_l03From.calls h _ W (from_f h)
  have F2 := fun W => spec_l03From.calls t1 _ W (from_f t1)
  rw [e1] at F1
  rw [e2] at F2
  have HB0 : Aside0 (Blk (w.alloc (.cells (nums .i8 L).toArray 30)) w.heap.size 30 (nums .i8 L)) := ⟨Blk.new w _ _⟩
  have HL := Aside0.mk hL
  have HD := Aside0.mk hd
  have HT := Aside0.mk ht
  have ht1 : t1 ≤ (h : Int) + n := by omega
  have ht2 : (h : Int) + n ≤ t1 := by omega
  clear hL h8 hd e1 e2 ht
  go_enter Try.func13, Try.ntmps13
  go_wp2_with fail
  refine (F1 _).mono ?_
  rintro e w' ⟨rfl, ⟨nd, rfl⟩⟩
  go_wp2_with fail
  refine (F2 _).mono ?_
  rintro e w' ⟨rfl, ⟨nd2, rfl⟩⟩
  go_wp2_with (go_at_call 42; refine (HK.out _ _ (by repeat (first | exact HB0.out | apply Blk.drewN | apply Blk.drew | apply Blk.alloc))).mono ?_; rintro e w1 ⟨rfl, hb⟩; have HB1 := Aside0.mk (below_step (w := w) (by repeat (first | exact Below.refl _ _ | apply pw_below_drewN | apply below_drew | apply below_alloc)) hb); have HA1 := Aside0.mk (Blk.below (w := (w.alloc (.cells (nums .i8 L).toArray 30))) HB0.out (below_step (w := (w.alloc (.cells (nums .i8 L).toArray 30))) (by repeat (first | exact Below.refl _ _ | apply pw_below_drewN | apply below_drew | apply below_alloc)) hb)); clear hb)
  go_loopw [9, 10] (fun v9 v10 w' => ∃ q : Nat, h ≤ q ∧ q ≤ h + n ∧ v9 = .int .i64 (sunS L h (q - h)) ∧ v10 = .int .i64 q ∧ Aside0 (Blk w' w.heap.size 30 (nums .i8 L)) ∧ Aside0 (Below w.heap.size w w')) (fun _ v10 _ => h + n - (intOf v10).toNat)
  case atStart => exact ⟨h, by omega, by omega, by simp [sunS], rfl, HA1, HB1⟩
  case round =>
    clear HA1 HB1
    obtain ⟨q, hq0, hq1, rfl, rfl, HA, HB⟩ := hrel
    have hs := sunS_range HD.out h (q - h)
    by_cases hlt : q < h + n
    · obtain ⟨x, y, z, HS, HX⟩ := seg_letters (L := L) (k := q) (by have := HL.out; omega)
      have HE : Aside0 (sunS L h (q + 1 - h) = sunS L h (q - h) + x) := ⟨by have e : sunS L h (q - h + 1) = sunS L h (q - h) + L.getD (3 * (h + (q - h))) 0 := rfl; rw [show q + 1 - h = q - h + 1 by omega, e, show h + (q - h) = q by omega, HX.out.1]⟩
      have hx : 0 ≤ x ∧ x ≤ 9 := by rw [HX.out.1]; exact dayOk_get HD.out _
      obtain ⟨hx0, hx1⟩ := hx
      obtain ⟨hs0, hs1⟩ := hs
      have hq25 : q - h ≤ 24 := by omega
      generalize sunS L h (q - h) = s at *
      have c1 := HA.out.rangeAt (q * 3) (seg := [.int .i8 x, .int .i8 y, .int .i8 z]) HS.out 0 _ rfl
      rw [Nat.add_zero] at c1
      go_wp2
      go_roundw
      case rel => exact ⟨q + 1, by omega, by omega, by rw [HE.out], by go_num, HA, HB⟩
      case measure => simp [intOf]; omega
    · obtain rfl : q = h + n := by omega
      go_wp2
      go_ret2
      exact ⟨by simp, HB.out⟩
set_option maxHeartbeats 8000000 in
set_option maxRecDepth 100000 in
theorem implSun_bad (L : List Int) (hL : L.length = 72) (h8 : i8All L) (h t1 : Int) (w : World) (hc : codeF L [] h t1 ≠ 0) :
    Calls Try.prog 15 #[(.agg (nums .i8 L).toArray), .int .i64 h, .int .i64 t1] w fun e w' => e = .returned (.tuple #[.int .i64 0, .int .i64 (codeF L [] h t1)]) ∧ Below w.heap.size w w' := by
  have HC := Aside0.mk (fun W => dayCode0 L hL h8 h t1 W)
  generalize codeF L [] h t1 = code at *
  have hc2 : (code != 0) = true := by simpa using hc
  have HB0 : Aside0 (Blk (w.alloc (.cells (nums .i8 L).toArray 30)) w.heap.size 30 (nums .i8 L)) := ⟨Blk.new w _ _⟩
  have HN : Aside0 ((nums .i8 L).length = 72) := ⟨by rw [nums_len]; exact hL⟩
  have HS : Aside0 (((nums .i8 L).drop 0).take 72 = nums .i8 L) := ⟨by rw [List.drop_zero, List.take_of_length_le (by rw [HN.out]; exact Nat.le_refl _)]⟩
  clear hL h8 hc
  go_enter Try.func15, Try.ntmps15
  go_wp2_with (first | (refine wl_load (by rfl) 30 _ (by rfl) w.heap.size 0 (by rfl) 30 72 _ _ HB0.out HS.out HN.out _ Try.underlying30 (by rfl) (by kernel_rfl) ?_) | (go_at_call 45; refine (HC.out _).mono ?_; rintro e w1 ⟨rfl, hb⟩; have HB1 := Aside0.mk (below_step (below_alloc (Below.refl w.heap.size w) _) hb); have HA1 := Aside0.mk (HB0.out.below hb); clear hb))
  go_ret2
  exact ⟨rfl, HB1.out⟩
set_option maxHeartbeats 8000000 in
set_option maxRecDepth 100000 in
theorem implSun_ok (L : List Int) (hL : L.length = 72) (h8 : i8All L) (hd : dayOk L = true) (h n : Nat) (hn : h + n ≤ 24) (t1 : Int) (ht : t1 = (h : Int) + n) (w : World) :
    Calls Try.prog 15 #[(.agg (nums .i8 L).toArray), .int .i64 h, .int .i64 t1] w fun e w' => e = .returned (.tuple #[.int .i64 (sunS L h n), .int .i64 0]) ∧ Below w.heap.size w w' := by
  have HC := Aside0.mk (fun W => dayCode0 L hL h8 h t1 W)
  have e1 : inR (h : Int) 0 24 = true := by rw [inR_iff]; omega
  have e2 : inR t1 0 24 = true := by rw [inR_iff]; omega
  rw [code_eq, asked_none.2 ⟨hd, by rw [e1, e2, decide_eq_true (by omega)]; rfl⟩] at HC
  have HB0 : Aside0 (Blk (w.alloc (.cells (nums .i8 L).toArray 30)) w.heap.size 30 (nums .i8 L)) := ⟨Blk.new w _ _⟩
  have HN : Aside0 ((nums .i8 L).length = 72) := ⟨by rw [nums_len]; exact hL⟩
  have HS : Aside0 (((nums .i8 L).drop 0).take 72 = nums .i8 L) := ⟨by rw [List.drop_zero, List.take_of_length_le (by rw [HN.out]; exact Nat.le_refl _)]⟩
  have HL := Aside0.mk hL
  have HD := Aside0.mk hd
  have i0 : (0 : Int) ≤ t1 := by omega
  have i1 : t1 ≤ 24 := by omega
  have i2 : (h : Int) ≤ t1 := by omega
  have i3 : (0 : Int) ≤ (h : Int) := by omega
  obtain ⟨t2, rfl⟩ := Int.eq_ofNat_of_zero_le i0
  obtain rfl : n = t2 - h := by omega
  clear hL h8 hd e1 e2 ht
  have hld : h ≤ t2 := by omega
  by_cases h24 : h = 24
  · subst h24
    obtain rfl : t2 = 24 := by omega
    go_enter Try.func15, Try.ntmps15
    go_wp2_with (first | (refine wl_load (by rfl) 30 _ (by rfl) w.heap.size 0 (by rfl) 30 72 _ _ HB0.out HS.out HN.out _ Try.underlying30 (by rfl) (by kernel_rfl) ?_) | (go_at_call 45; refine (HC.out _).mono ?_; rintro e w1 ⟨rfl, hb⟩; have HB1 := Aside0.mk (below_step (below_alloc (Below.refl w.heap.size w) _) hb); have HA1 := Aside0.mk (HB0.out.below hb); clear hb))
    go_loopw [9, 23] (fun v9 v23 w' => v9 = .int .i64 0 ∧ v23 = .int .i64 0 ∧ Aside0 (Below w.heap.size w w')) (fun _ v23 _ => 0)
    case atStart => exact ⟨rfl, rfl, HB1⟩
    case round =>
      obtain ⟨rfl, rfl, HB⟩ := hrel
      go_wp2
      go_ret2
      exact ⟨rfl, HB.out⟩
  · go_enter Try.func15, Try.ntmps15
    go_wp2_with (first | (refine wl_load (by rfl) 30 _ (by rfl) w.heap.size 0 (by rfl) 30 72 _ _ HB0.out HS.out HN.out _ Try.underlying30 (by rfl) (by kernel_rfl) ?_) | (go_at_call 45; refine (HC.out _).mono ?_; rintro e w1 ⟨rfl, hb⟩; have HB1 := Aside0.mk (below_step (below_alloc (Below.refl w.heap.size w) _) hb); have HA1 := Aside0.mk (HB0.out.below hb); clear hb))
    go_loopw [9, 23] (fun v9 v23 w' => ∃ k : Nat, k ≤ t2 - h ∧ v9 = .int .i64 (sunS L h k) ∧ v23 = .int .i64 k ∧ Aside0 (Blk w' w.heap.size 30 (nums .i8 L)) ∧ Aside0 (Below w.heap.size w w')) (fun _ v23 _ => t2 - h - (intOf v23).toNat)
    case atStart => exact ⟨0, by omega, rfl, rfl, HA1, HB1⟩
    case round =>
      clear HA1 HB1
      obtain ⟨k, hk, rfl, rfl, HA, HB⟩ := hrel
      have hs := sunS_range HD.out h k
      by_cases hlt : k < t2 - h
      · obtain ⟨x, y, z, HS2, HX⟩ := seg_letters (L := L) (k := h + k) (by have := HL.out; omega)
        have HE : Aside0 (sunS L h (k + 1) = sunS L h k + x) := ⟨by rw [HX.out.1]; rfl⟩
        have hx : 0 ≤ x ∧ x ≤ 9 := by rw [HX.out.1]; exact dayOk_get HD.out _
        obtain ⟨hx0, hx1⟩ := hx
        obtain ⟨hs0, hs1⟩ := hs
        have hk25 : k ≤ 24 := by omega
        generalize sunS L h k = s at *
        have c1 := HA.out.rangeAt ((h + k) * 3) (seg := [.int .i8 x, .int .i8 y, .int .i8 z]) HS2.out 0 _ rfl
        have c2 := HA.out.rangeAt ((h + k) * 3) (seg := [.int .i8 x, .int .i8 y, .int .i8 z]) HS2.out 1 _ rfl
        have c3 := HA.out.rangeAt ((h + k) * 3) (seg := [.int .i8 x, .int .i8 y, .int .i8 z]) HS2.out 2 _ rfl
        rw [Nat.add_zero] at c1
        rw [Nat.add_mul] at c1 c2 c3
        go_wp2
        go_roundw
        case rel => exact ⟨k + 1, by omega, by rw [HE.out], by go_num, ⟨by repeat (first | exact HA.out | refine Blk.grown ?_ (grown_set _ _ _ _) (by have := HA.out.lt; intro e; injection e with e; omega) | apply Blk.alloc)⟩, ⟨by repeat (first | exact HB.out | refine below_set ?_ (by have := HB.out.size; omega) | apply below_alloc)⟩⟩
        case measure => simp [intOf]; omega
      · obtain rfl : k = t2 - h := by omega
        go_wp2
        go_ret2
        exact ⟨rfl, HB.out⟩
set_option maxHeartbeats 8000000 in
set_option maxRecDepth 100000 in
theorem lawSun_calls (L : List Int) (hL : L.length = 72) (h8 : i8All L) (h t1 : Int) (w : World) :
    Calls Try.prog 3 #[(.agg (nums .i8 L).toArray), .int .i64 h, .int .i64 t1] w fun e w' => e = .returned (.bool true) ∧ Below w.heap.size w w' := by
  have HTD := Aside0.mk (fun W => toDay_calls L hL W)
  have HB0 : Aside0 (Blk (w.alloc (.cells (nums .i8 L).toArray 25)) w.heap.size 25 (nums .i8 L)) := ⟨Blk.new w _ _⟩
  have HN : Aside0 ((nums .i8 L).length = 72) := ⟨by rw [nums_len]; exact hL⟩
  have HS : Aside0 (((nums .i8 L).drop 0).take 72 = nums .i8 L) := ⟨by rw [List.drop_zero, List.take_of_length_le (by rw [HN.out]; exact Nat.le_refl _)]⟩
  obtain ⟨r, c, HX, HY⟩ : ∃ r c, Aside0 (∀ W, Calls Try.prog 13 #[(.agg (nums .i8 L).toArray), .int .i64 h, .int .i64 t1] W fun e w' => e = .returned (.tuple #[.int .i64 r, .int .i64 c]) ∧ Below W.heap.size W w') ∧ Aside0 (∀ W, Calls Try.prog 15 #[(.agg (nums .i8 L).toArray), .int .i64 h, .int .i64 t1] W fun e w' => e = .returned (.tuple #[.int .i64 r, .int .i64 c]) ∧ Below W.heap.size W w') := by
    by_cases hc : askedF L [] (inR h 0 24 && (inR t1 0 24 && decide (h ≤ t1))) = 0
    · obtain ⟨hd, hf⟩ := asked_none.1 hc
      simp only [inR, Bool.and_eq_true, decide_eq_true_eq] at hf
      obtain ⟨m, rfl⟩ := Int.eq_ofNat_of_zero_le hf.1.1
      exact ⟨_, _, ⟨fun W => specSun_ok L hL h8 hd m (t1.toNat - m) (by omega) t1 (by omega) W⟩, ⟨fun W => implSun_ok L hL h8 hd m (t1.toNat - m) (by omega) t1 (by omega) W⟩⟩
    · exact ⟨_, _, ⟨fun W => specSun_bad L hL h8 h t1 W hc⟩, ⟨fun W => by
        have := implSun_bad L hL h8 h t1 W (by rw [code_eq]; exact hc)
        rw [code_eq] at this
        exact this⟩⟩
  clear hL h8
  go_enter Try.func3, Try.ntmps3
  go_wp2_with (first | (refine wl_load (by rfl) 25 _ (by rfl) w.heap.size 0 (by rfl) 25 72 _ _ HA2.out HS.out HN.out _ Try.underlying25 (by rfl) (by kernel_rfl) ?_) | (refine wl_load (by rfl) 25 _ (by rfl) w.heap.size 0 (by rfl) 25 72 _ _ HB0.out HS.out HN.out _ Try.underlying25 (by rfl) (by kernel_rfl) ?_) | (go_at_call 14; refine (HTD.out _).mono ?_; rintro e w3 ⟨rfl, hb⟩; have HB3 := Aside0.mk (below_step HB2.out hb); have HA3 := Aside0.mk (HA2.out.below hb); clear hb) | (go_at_call 14; refine (HTD.out _).mono ?_; rintro e w1 ⟨rfl, hb⟩; have HB1 := Aside0.mk (below_step (below_alloc (Below.refl w.heap.size w) _) hb); have HA1 := Aside0.mk (HB0.out.below hb); clear hb) | (go_at_call 13; refine (HX.out _).mono ?_; rintro e w2 ⟨rfl, hb⟩; have HB2 := Aside0.mk (below_step HB1.out hb); have HA2 := Aside0.mk (HA1.out.below hb); clear hb HB1 HA1) | (go_at_call 15; refine (HY.out _).mono ?_; rintro e w4 ⟨rfl, hb⟩; have HB4 := Aside0.mk (below_step HB3.out hb); clear hb))
  go_ret
  exact ⟨rfl, HB4.out⟩

end Go.Proofs.Ytkfbkmkaijonhaa.X
