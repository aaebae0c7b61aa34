/- Contracts of functions over blocks of cells: what each call answers, and what it leaves as it was. -/
import Derived.Test.YtkfbkmkaijonhaaLast
set_option linter.unusedVariables false
set_option linter.unusedSimpArgs false
namespace Go.Proofs.Ytkfbkmkaijonhaa.X
open Go.RowKit Go.Proofs.YtkfbkmkaijonhaaW.PrintWords Go.Proofs.YtkfbkmkaijonhaaW.PrintLast Go.Proofs.YtkfbkmkaijonhaaW.PrintMore
attribute [local go_sem] max2_int min2_int max_two min_two max_three min_three max_four min_four
set_option maxHeartbeats 8000000 in
set_option maxRecDepth 100000 in
theorem specFew_bad (L : List Int) (hL : L.length = 72) (h8 : i8All L) (wet thick : Int) (hw : wshR ⟨wet, thick⟩) (shade : Bool) (w : World) (hc : askedF L [⟨wet, thick⟩] (true) ≠ 0) :
    Calls Try.prog 34 #[(.agg (nums .i8 L).toArray), .agg #[.int .i16 wet, .int .i8 thick], .bool shade] w fun e w' => e = .returned (.tuple #[.int .i64 0, .int .i64 0, .int .i64 (askedF L [⟨wet, thick⟩] (true))]) ∧ Below w.heap.size w w' := by
  have HK := Aside0.mk (fun W A => asked_calls1 L hL h8 wet thick hw (true) w.heap.size W A)
  generalize askedF L [⟨wet, thick⟩] (true) = code at *
  have hc2 : (code != 0) = true := by simpa using hc
  clear h8 hw hL hc
  have HB0 : Aside0 (Blk ((w.alloc (.cells (nums .i8 L).toArray 30)).alloc (.cells #[.int .i16 wet, .int .i8 thick] 39)) w.heap.size 30 (nums .i8 L)) := ⟨(Blk.new w _ _).alloc _⟩
  have HV0 : Aside0 (Blk ((w.alloc (.cells (nums .i8 L).toArray 30)).alloc (.cells #[.int .i16 wet, .int .i8 thick] 39)) (w.heap.size + 1) 39 [.int .i16 wet, .int .i8 thick]) := ⟨Blk.at_ (by simp) rfl⟩
  go_enter Try.func34, Try.ntmps34
  go_wp2_with (go_at_call 42; refine (HK.out _ _ (HB0.out.alloc _) (C_wash1 (Blk.at_ (by simp) rfl))).mono ?_; rintro e w1 ⟨rfl, hb⟩; have HB1 := Aside0.mk (below_step (below_alloc (below_alloc (below_alloc (Below.refl w.heap.size w) _) _) _) hb); have HA1 := Aside0.mk ((HB0.out.alloc _).below hb); have HV1 := Aside0.mk ((HV0.out.alloc _).below hb); have d0 := HV1.out.cell 0 (v := .int .i16 wet) rfl; have d1 := HV1.out.cell 1 (v := .int .i8 thick) rfl; clear hb)
  go_ret3
  exact ⟨rfl, HB1.out⟩
set_option maxHeartbeats 8000000 in
set_option maxRecDepth 100000 in
theorem specFew_ok (L : List Int) (hL : L.length = 72) (h8 : i8All L) (hd : dayOk L = true) (wet thick : Int) (hw : washOk wet thick = true) (shade : Bool) (w : World) :
    Calls Try.prog 34 #[(.agg (nums .i8 L).toArray), .agg #[.int .i16 wet, .int .i8 thick], .bool shade] w fun e w' => e = .returned (.tuple #[.int .i64 (fewA (fewN (fun q => dryF L wet thick shade q) 25)), .int .i64 (fewB (fewN (fun q => dryF L wet thick shade q) 25)), .int .i64 (fewC (fewN (fun q => dryF L wet thick shade q) 25))]) ∧ Below w.heap.size w w' := by
  have HK := Aside0.mk (fun W A => asked_calls1 L hL h8 wet thick (by have := washOk_iff.1 hw; refine ⟨⟨?_, ?_⟩, ?_, ?_⟩ <;> simp <;> omega) true w.heap.size W A)
  rw [asked_wash.2 ⟨hd, hw, rfl⟩] at HK
  have hrg : ∀ q, q ≤ 24 → dryF L wet thick shade q = -1 ∨ ((q : Int) ≤ dryF L wet thick shade q ∧ dryF L wet thick shade q ≤ 24) := fun q hq => dryF_range L wet thick shade hq
  have HDRY := Aside0.mk (fun (q : Nat) (hq : q ≤ 24) W hW => l03Dry_calls L hL hd wet thick hw q hq shade w.heap.size W hW)
  obtain ⟨p, hp⟩ : ∃ p : Nat → Int, p = fun q => dryF L wet thick shade q := ⟨_, rfl⟩
  have hpq : ∀ q, dryF L wet thick shade q = p q := fun q => by rw [hp]
  simp only [hpq] at HDRY hrg ⊢
  clear hp hpq
  have HRG := Aside0.mk hrg
  clear hrg
  obtain ⟨R1, R2, R3, HFIN⟩ : ∃ R1 R2 R3, Aside0 (R1 = fewA (fewN (fun q => p q) 25) ∧ R2 = fewB (fewN (fun q => p q) 25) ∧ R3 = fewC (fewN (fun q => p q) 25)) := ⟨_, _, _, ⟨rfl, rfl, rfl⟩⟩
  rw [← HFIN.out.1, ← HFIN.out.2.1, ← HFIN.out.2.2]
  clear h8 hw hL hd
  have HB0 : Aside0 (Blk ((w.alloc (.cells (nums .i8 L).toArray 30)).alloc (.cells #[.int .i16 wet, .int .i8 thick] 39)) w.heap.size 30 (nums .i8 L)) := ⟨(Blk.new w _ _).alloc _⟩
  have HV0 : Aside0 (Blk ((w.alloc (.cells (nums .i8 L).toArray 30)).alloc (.cells #[.int .i16 wet, .int .i8 thick] 39)) (w.heap.size + 1) 39 [.int .i16 wet, .int .i8 thick]) := ⟨Blk.at_ (by simp) rfl⟩
  go_enter Try.func34, Try.ntmps34
  go_wp2_with (go_at_call 42; refine (HK.out _ _ (HB0.out.alloc _) (C_wash1 (Blk.at_ (by simp) rfl))).mono ?_; rintro e w1 ⟨rfl, hb⟩; have HB1 := Aside0.mk (below_step (below_alloc (below_alloc (below_alloc (Below.refl w.heap.size w) _) _) _) hb); have HA1 := Aside0.mk ((HB0.out.alloc _).below hb); have HV1 := Aside0.mk ((HV0.out.alloc _).below hb); have d0 := HV1.out.cell 0 (v := .int .i16 wet) rfl; have d1 := HV1.out.cell 1 (v := .int .i8 thick) rfl; clear hb)
  go_loopw [10, 11, 12] (fun va vb v9 w' => ∃ (q : Nat) (s : Option (Int × Int)), q ≤ 25 ∧ Aside0 (fewN (fun q => p q) q = s ∧ ∀ t, s = some t → 0 ≤ t.1 ∧ t.1 ≤ 24 ∧ 0 ≤ t.2 ∧ t.2 ≤ 24) ∧ va = .int .i64 (spA s) ∧ vb = .int .i64 (spB s) ∧ v9 = .int .i64 q ∧ Aside0 (Blk w' w.heap.size 30 (nums .i8 L)) ∧ Aside0 (Blk w' (w.heap.size + 1) 39 [.int .i16 wet, .int .i8 thick]) ∧ Aside0 (Below w.heap.size w w')) (fun _ _ v9 _ => 25 - (intOf v9).toNat)
  case atStart => exact ⟨0, none, by omega, ⟨rfl, fun t h => by cases h⟩, rfl, rfl, rfl, HA1, HV1, HB1⟩
  case round =>
    clear HA1 HV1 HB1
    obtain ⟨q, s, hq, HS, rfl, rfl, rfl, HA1, HV1, HB1⟩ := hrel
    have d0 := HV1.out.cell 0 (v := .int .i16 wet) rfl
    have d1 := HV1.out.cell 1 (v := .int .i8 thick) rfl
    by_cases hlt : q < 25
    · have HC1 := Aside0.mk (HDRY.out q (by omega))
      have hy := HRG.out q (by omega)
      cases s with
      | none =>
        have HST : Aside0 (fewN (fun q => p q) (q + 1) = if 0 ≤ p q then some ((q : Int), p q - q) else none) := ⟨fewN_none HS.out.1⟩
        clear HS
        generalize p q = y at HC1 hy HST
        simp only [spA, spB]
        by_cases hz : 0 ≤ y
        · have HS2 : Aside0 (fewN (fun q => p q) (q + 1) = some ((q : Int), y - q) ∧ ∀ t, some ((q : Int), y - q) = some t → 0 ≤ t.1 ∧ t.1 ≤ 24 ∧ 0 ≤ t.2 ∧ t.2 ≤ 24) := ⟨by rw [HST.out, if_pos hz], fun t h => by cases h; simp; omega⟩
          have hy0 : (q : Int) ≤ y := by omega
          have hy1 : y ≤ 24 := by omega
          clear HST hy
          go_wp2_with (first | (go_at_call 56; refine (HC1.out _ HA1.out).mono ?_; rintro e w2 ⟨rfl, hb⟩; have HB2 := Aside0.mk (below_step HB1.out hb); have HA2 := Aside0.mk (HA1.out.below hb); have HV2 := Aside0.mk (HV1.out.below hb); clear hb))
          go_roundw
          case rel => exact ⟨q + 1, _, by omega, HS2, rfl, rfl, by go_num, HA2, HV2, HB2⟩
          case measure => simp [intOf] <;> omega
        · have HS2 : Aside0 (fewN (fun q => p q) (q + 1) = none ∧ ∀ t, (none : Option (Int × Int)) = some t → 0 ≤ t.1 ∧ t.1 ≤ 24 ∧ 0 ≤ t.2 ∧ t.2 ≤ 24) := ⟨by rw [HST.out, if_neg hz], fun t h => by cases h⟩
          clear HST hy
          go_wp2_with (first | (go_at_call 56; refine (HC1.out _ HA1.out).mono ?_; rintro e w2 ⟨rfl, hb⟩; have HB2 := Aside0.mk (below_step HB1.out hb); have HA2 := Aside0.mk (HA1.out.below hb); have HV2 := Aside0.mk (HV1.out.below hb); clear hb))
          go_roundw
          case rel => exact ⟨q + 1, _, by omega, HS2, rfl, rfl, by go_num, HA2, HV2, HB2⟩
          case measure => simp [intOf] <;> omega
      | some t =>
        obtain ⟨b, l⟩ := t
        have HST : Aside0 (fewN (fun q => p q) (q + 1) = if 0 ≤ p q ∧ p q - q < l then some ((q : Int), p q - q) else some (b, l)) := ⟨fewN_some HS.out.1⟩
        obtain ⟨hb0, hb1, hl0, hl1⟩ := HS.out.2 _ rfl
        clear HS
        generalize p q = y at HC1 hy HST
        simp only [spA, spB] at hb0 hb1 hl0 hl1 ⊢
        by_cases hz : 0 ≤ y
        · have hy0 : (q : Int) ≤ y := by omega
          have hy1 : y ≤ 24 := by omega
          clear hy
          by_cases hl : y - q < l
          · have HS2 : Aside0 (fewN (fun q => p q) (q + 1) = some ((q : Int), y - q) ∧ ∀ t, some ((q : Int), y - q) = some t → 0 ≤ t.1 ∧ t.1 ≤ 24 ∧ 0 ≤ t.2 ∧ t.2 ≤ 24) := ⟨by rw [HST.out, if_pos ⟨hz, hl⟩], fun t h => by cases h; simp; omega⟩
            clear HST
            go_wp2_with (first | (go_at_call 56; refine (HC1.out _ HA1.out).mono ?_; rintro e w2 ⟨rfl, hb⟩; have HB2 := Aside0.mk (below_step HB1.out hb); have HA2 := Aside0.mk (HA1.out.below hb); have HV2 := Aside0.mk (HV1.out.below hb); clear hb))
            go_roundw
            case rel => exact ⟨q + 1, _, by omega, HS2, rfl, rfl, by go_num, HA2, HV2, HB2⟩
            case measure => simp [intOf] <;> omega
          · have HS2 : Aside0 (fewN (fun q => p q) (q + 1) = some (b, l) ∧ ∀ t, some (b, l) = some t → 0 ≤ t.1 ∧ t.1 ≤ 24 ∧ 0 ≤ t.2 ∧ t.2 ≤ 24) := ⟨by rw [HST.out, if_neg (fun h => hl h.2)], fun t h => by cases h; simp; omega⟩
            clear HST
            go_wp2_with (first | (go_at_call 56; refine (HC1.out _ HA1.out).mono ?_; rintro e w2 ⟨rfl, hb⟩; have HB2 := Aside0.mk (below_step HB1.out hb); have HA2 := Aside0.mk (HA1.out.below hb); have HV2 := Aside0.mk (HV1.out.below hb); clear hb))
            go_roundw
            case rel => exact ⟨q + 1, _, by omega, HS2, rfl, rfl, by go_num, HA2, HV2, HB2⟩
            case measure => simp [intOf] <;> omega
        · have HS2 : Aside0 (fewN (fun q => p q) (q + 1) = some (b, l) ∧ ∀ t, some (b, l) = some t → 0 ≤ t.1 ∧ t.1 ≤ 24 ∧ 0 ≤ t.2 ∧ t.2 ≤ 24) := ⟨by rw [HST.out, if_neg (fun h => hz h.1)], fun t h => by cases h; simp; omega⟩
          clear HST hy
          go_wp2_with (first | (go_at_call 56; refine (HC1.out _ HA1.out).mono ?_; rintro e w2 ⟨rfl, hb⟩; have HB2 := Aside0.mk (below_step HB1.out hb); have HA2 := Aside0.mk (HA1.out.below hb); have HV2 := Aside0.mk (HV1.out.below hb); clear hb))
          go_roundw
          case rel => exact ⟨q + 1, _, by omega, HS2, rfl, rfl, by go_num, HA2, HV2, HB2⟩
          case measure => simp [intOf] <;> omega
    · obtain rfl : q = 25 := by omega
      cases s with
      | none =>
        have HF : Aside0 (R1 = 0 ∧ R2 = 0 ∧ R3 = 6) := ⟨by have h := HFIN.out; rw [HS.out.1] at h; exact h⟩
        simp only [spA, spB]
        clear HS
        go_wp2
        go_ret3
        exact ⟨by rw [HF.out.1, HF.out.2.1, HF.out.2.2]; rfl, HB1.out⟩
      | some t =>
        obtain ⟨b, l⟩ := t
        have HF : Aside0 (R1 = b ∧ R2 = l ∧ R3 = 0) := ⟨by have h := HFIN.out; rw [HS.out.1] at h; exact h⟩
        obtain ⟨hb0, hb1, hl0, hl1⟩ := HS.out.2 _ rfl
        simp only [spA, spB] at hb0 hb1 hl0 hl1 ⊢
        clear HS
        go_wp2
        go_ret3
        exact ⟨by rw [HF.out.1, HF.out.2.1, HF.out.2.2]; rfl, HB1.out⟩
set_option maxHeartbeats 8000000 in
set_option maxRecDepth 100000 in
theorem implFew_bad (L : List Int) (hL : L.length = 72) (h8 : i8All L) (wet thick : Int) (hw : wshR ⟨wet, thick⟩) (shade : Bool) (w : World) (hc : codeF L [⟨wet, thick⟩] 0 24 ≠ 0) :
    Calls Try.prog 35 #[(.agg (nums .i8 L).toArray), .agg #[.int .i16 wet, .int .i8 thick], .bool shade] w fun e w' => e = .returned (.tuple #[.int .i64 0, .int .i64 0, .int .i64 (codeF L [⟨wet, thick⟩] 0 24)]) ∧ Below w.heap.size w w' := by
  have HC := Aside0.mk (fun W A => dayCode1 L hL h8 wet thick hw A 0 24 W)
  generalize codeF L [⟨wet, thick⟩] 0 24 = code at *
  have hc2 : (code != 0) = true := by simpa using hc
  have HB0 : Aside0 (Blk ((w.alloc (.cells (nums .i8 L).toArray 30)).alloc (.cells #[.int .i16 wet, .int .i8 thick] 39)) w.heap.size 30 (nums .i8 L)) := ⟨(Blk.new w _ _).alloc _⟩
  have HV0 : Aside0 (Blk ((w.alloc (.cells (nums .i8 L).toArray 30)).alloc (.cells #[.int .i16 wet, .int .i8 thick] 39)) (w.heap.size + 1) 39 [.int .i16 wet, .int .i8 thick]) := ⟨Blk.at_ (by simp) rfl⟩
  have HN : Aside0 ((nums .i8 L).length = 72) := ⟨by rw [nums_len]; exact hL⟩
  have HS : Aside0 (((nums .i8 L).drop 0).take 72 = nums .i8 L) := ⟨by rw [List.drop_zero, List.take_of_length_le (by rw [HN.out]; exact Nat.le_refl _)]⟩
  clear hL h8 hw hc
  go_enter Try.func35, Try.ntmps35
  go_wp2_with (first | (refine wl_load (by rfl) 30 _ (by rfl) w.heap.size 0 (by rfl) 30 72 _ _ HB0.out HS.out HN.out _ Try.underlying30 (by rfl) (by kernel_rfl) ?_) | (go_at_call 45; refine (HC.out _ _ (C_wash1 (Blk.at_ (by simp) rfl))).mono ?_; rintro e w1 ⟨rfl, hb⟩; have HB1 := Aside0.mk (below_step (below_alloc (below_alloc (below_alloc (Below.refl w.heap.size w) _) _) _) hb); have HA1 := Aside0.mk ((HB0.out.alloc _).below hb); have HV1 := Aside0.mk ((HV0.out.alloc _).below hb); have d0 := HV1.out.cell 0 (v := .int .i16 wet) rfl; have d1 := HV1.out.cell 1 (v := .int .i8 thick) rfl; clear hb))
  go_ret3
  exact ⟨rfl, HB1.out⟩
set_option maxHeartbeats 8000000 in
set_option maxRecDepth 100000 in
theorem implFew_ok (L : List Int) (hL : L.length = 72) (h8 : i8All L) (hd : dayOk L = true) (wet thick : Int) (hw : washOk wet thick = true) (shade : Bool) (w : World) :
    Calls Try.prog 35 #[(.agg (nums .i8 L).toArray), .agg #[.int .i16 wet, .int .i8 thick], .bool shade] w fun e w' => e = .returned (.tuple #[.int .i64 (fewA (fewN (fun q => dryF L wet thick shade q) 25)), .int .i64 (fewB (fewN (fun q => dryF L wet thick shade q) 25)), .int .i64 (fewC (fewN (fun q => dryF L wet thick shade q) 25))]) ∧ Below w.heap.size w w' := by
  have HC := Aside0.mk (fun W A => dayCode1 L hL h8 wet thick (by have := washOk_iff.1 hw; refine ⟨⟨?_, ?_⟩, ?_, ?_⟩ <;> simp <;> omega) A 0 24 W)
  rw [code_0, asked_wash.2 ⟨hd, hw, rfl⟩] at HC
  have HB0 : Aside0 (Blk ((w.alloc (.cells (nums .i8 L).toArray 30)).alloc (.cells #[.int .i16 wet, .int .i8 thick] 39)) w.heap.size 30 (nums .i8 L)) := ⟨(Blk.new w _ _).alloc _⟩
  have HV0 : Aside0 (Blk ((w.alloc (.cells (nums .i8 L).toArray 30)).alloc (.cells #[.int .i16 wet, .int .i8 thick] 39)) (w.heap.size + 1) 39 [.int .i16 wet, .int .i8 thick]) := ⟨Blk.at_ (by simp) rfl⟩
  have HN : Aside0 ((nums .i8 L).length = 72) := ⟨by rw [nums_len]; exact hL⟩
  have HS : Aside0 (((nums .i8 L).drop 0).take 72 = nums .i8 L) := ⟨by rw [List.drop_zero, List.take_of_length_le (by rw [HN.out]; exact Nat.le_refl _)]⟩
  have hrg : ∀ q, q ≤ 24 → dryF L wet thick shade q = -1 ∨ ((q : Int) ≤ dryF L wet thick shade q ∧ dryF L wet thick shade q ≤ 24) := fun q hq => dryF_range L wet thick shade hq
  have HDRY := Aside0.mk (fun (q : Nat) (hq : q ≤ 24) W => dryAt_calls L hL hd wet thick hw q hq shade W)
  obtain ⟨p, hp⟩ : ∃ p : Nat → Int, p = fun q => dryF L wet thick shade q := ⟨_, rfl⟩
  have hpq : ∀ q, dryF L wet thick shade q = p q := fun q => by rw [hp]
  simp only [hpq] at HDRY hrg ⊢
  clear hp hpq
  have HRG := Aside0.mk hrg
  clear hrg
  obtain ⟨R1, R2, R3, HFIN⟩ : ∃ R1 R2 R3, Aside0 (R1 = fewA (fewN (fun q => p q) 25) ∧ R2 = fewB (fewN (fun q => p q) 25) ∧ R3 = fewC (fewN (fun q => p q) 25)) := ⟨_, _, _, ⟨rfl, rfl, rfl⟩⟩
  rw [← HFIN.out.1, ← HFIN.out.2.1, ← HFIN.out.2.2]
  clear h8 hw hL hd
  go_enter Try.func35, Try.ntmps35
  go_wp2_with (first | (refine wl_load (by rfl) 30 _ (by rfl) w.heap.size 0 (by rfl) 30 72 _ _ HB0.out HS.out HN.out _ Try.underlying30 (by rfl) (by kernel_rfl) ?_) | (go_at_call 45; refine (HC.out _ _ (C_wash1 (Blk.at_ (by simp) rfl))).mono ?_; rintro e w1 ⟨rfl, hb⟩; have HB1 := Aside0.mk (below_step (below_alloc (below_alloc (below_alloc (Below.refl w.heap.size w) _) _) _) hb); have HA1 := Aside0.mk ((HB0.out.alloc _).below hb); have HV1 := Aside0.mk ((HV0.out.alloc _).below hb); have d0 := HV1.out.cell 0 (v := .int .i16 wet) rfl; have d1 := HV1.out.cell 1 (v := .int .i8 thick) rfl; clear hb))
  go_loopw [10, 11, 21] (fun va vb v9 w' => ∃ (q : Nat) (s : Option (Int × Int)), q ≤ 25 ∧ Aside0 (fewN (fun q => p q) q = s ∧ ∀ t, s = some t → 0 ≤ t.1 ∧ t.1 ≤ 24 ∧ 0 ≤ t.2 ∧ t.2 ≤ 24) ∧ va = .int .i64 (imA s) ∧ vb = .int .i64 (imB s) ∧ v9 = .int .i64 q ∧ Aside0 (Blk w' w.heap.size 30 (nums .i8 L)) ∧ Aside0 (Blk w' (w.heap.size + 1) 39 [.int .i16 wet, .int .i8 thick]) ∧ Aside0 (Below w.heap.size w w')) (fun _ _ v9 _ => 25 - (intOf v9).toNat)
  case atStart => exact ⟨0, none, by omega, ⟨rfl, fun t h => by cases h⟩, rfl, rfl, rfl, HA1, HV1, HB1⟩
  case round =>
    clear HA1 HV1 HB1
    obtain ⟨q, s, hq, HS, rfl, rfl, rfl, HA1, HV1, HB1⟩ := hrel
    have d0 := HV1.out.cell 0 (v := .int .i16 wet) rfl
    have d1 := HV1.out.cell 1 (v := .int .i8 thick) rfl
    by_cases hlt : q < 25
    · have HC1 := Aside0.mk (HDRY.out q (by omega))
      have hy := HRG.out q (by omega)
      cases s with
      | none =>
        have HST : Aside0 (fewN (fun q => p q) (q + 1) = if 0 ≤ p q then some ((q : Int), p q - q) else none) := ⟨fewN_none HS.out.1⟩
        clear HS
        generalize p q = y at HC1 hy HST
        simp only [imA, imB]
        by_cases hz : 0 ≤ y
        · have HS2 : Aside0 (fewN (fun q => p q) (q + 1) = some ((q : Int), y - q) ∧ ∀ t, some ((q : Int), y - q) = some t → 0 ≤ t.1 ∧ t.1 ≤ 24 ∧ 0 ≤ t.2 ∧ t.2 ≤ 24) := ⟨by rw [HST.out, if_pos hz], fun t h => by cases h; simp; omega⟩
          have hy0 : (q : Int) ≤ y := by omega
          have hy1 : y ≤ 24 := by omega
          clear HST hy
          go_wp2_with (first | (refine wl_load (by rfl) 30 _ (by rfl) w.heap.size 0 (by rfl) 30 72 _ _ HA1.out HS.out HN.out _ Try.underlying30 (by rfl) (by kernel_rfl) ?_) | (go_at_call 57; refine (HC1.out _).mono ?_; rintro e w2 ⟨rfl, hb⟩; have HB2 := Aside0.mk (below_step HB1.out hb); have HA2 := Aside0.mk (HA1.out.below hb); have HV2 := Aside0.mk (HV1.out.below hb); clear hb))
          go_roundw
          case rel => exact ⟨q + 1, _, by omega, HS2, rfl, rfl, by go_num, HA2, HV2, HB2⟩
          case measure => simp [intOf] <;> omega
        · have HS2 : Aside0 (fewN (fun q => p q) (q + 1) = none ∧ ∀ t, (none : Option (Int × Int)) = some t → 0 ≤ t.1 ∧ t.1 ≤ 24 ∧ 0 ≤ t.2 ∧ t.2 ≤ 24) := ⟨by rw [HST.out, if_neg hz], fun t h => by cases h⟩
          clear HST hy
          go_wp2_with (first | (refine wl_load (by rfl) 30 _ (by rfl) w.heap.size 0 (by rfl) 30 72 _ _ HA1.out HS.out HN.out _ Try.underlying30 (by rfl) (by kernel_rfl) ?_) | (go_at_call 57; refine (HC1.out _).mono ?_; rintro e w2 ⟨rfl, hb⟩; have HB2 := Aside0.mk (below_step HB1.out hb); have HA2 := Aside0.mk (HA1.out.below hb); have HV2 := Aside0.mk (HV1.out.below hb); clear hb))
          go_roundw
          case rel => exact ⟨q + 1, _, by omega, HS2, rfl, rfl, by go_num, HA2, HV2, HB2⟩
          case measure => simp [intOf] <;> omega
      | some t =>
        obtain ⟨b, l⟩ := t
        have HST : Aside0 (fewN (fun q => p q) (q + 1) = if 0 ≤ p q ∧ p q - q < l then some ((q : Int), p q - q) else some (b, l)) := ⟨fewN_some HS.out.1⟩
        obtain ⟨hb0, hb1, hl0, hl1⟩ := HS.out.2 _ rfl
        clear HS
        generalize p q = y at HC1 hy HST
        simp only [imA, imB] at hb0 hb1 hl0 hl1 ⊢
        by_cases hz : 0 ≤ y
        · have hy0 : (q : Int) ≤ y := by omega
          have hy1 : y ≤ 24 := by omega
          clear hy
          by_cases hl : y - q < l
          · have HS2 : Aside0 (fewN (fun q => p q) (q + 1) = some ((q : Int), y - q) ∧ ∀ t, some ((q : Int), y - q) = some t → 0 ≤ t.1 ∧ t.1 ≤ 24 ∧ 0 ≤ t.2 ∧ t.2 ≤ 24) := ⟨by rw [HST.out, if_pos ⟨hz, hl⟩], fun t h => by cases h; simp; omega⟩
            clear HST
            go_wp2_with (first | (refine wl_load (by rfl) 30 _ (by rfl) w.heap.size 0 (by rfl) 30 72 _ _ HA1.out HS.out HN.out _ Try.underlying30 (by rfl) (by kernel_rfl) ?_) | (go_at_call 57; refine (HC1.out _).mono ?_; rintro e w2 ⟨rfl, hb⟩; have HB2 := Aside0.mk (below_step HB1.out hb); have HA2 := Aside0.mk (HA1.out.below hb); have HV2 := Aside0.mk (HV1.out.below hb); clear hb))
            go_roundw
            case rel => exact ⟨q + 1, _, by omega, HS2, rfl, rfl, by go_num, HA2, HV2, HB2⟩
            case measure => simp [intOf] <;> omega
          · have HS2 : Aside0 (fewN (fun q => p q) (q + 1) = some (b, l) ∧ ∀ t, some (b, l) = some t → 0 ≤ t.1 ∧ t.1 ≤ 24 ∧ 0 ≤ t.2 ∧ t.2 ≤ 24) := ⟨by rw [HST.out, if_neg (fun h => hl h.2)], fun t h => by cases h; simp; omega⟩
            clear HST
            go_wp2_with (first | (refine wl_load (by rfl) 30 _ (by rfl) w.heap.size 0 (by rfl) 30 72 _ _ HA1.out HS.out HN.out _ Try.underlying30 (by rfl) (by kernel_rfl) ?_) | (go_at_call 57; refine (HC1.out _).mono ?_; rintro e w2 ⟨rfl, hb⟩; have HB2 := Aside0.mk (below_step HB1.out hb); have HA2 := Aside0.mk (HA1.out.below hb); have HV2 := Aside0.mk (HV1.out.below hb); clear hb))
            go_roundw
            case rel => exact ⟨q + 1, _, by omega, HS2, rfl, rfl, by go_num, HA2, HV2, HB2⟩
            case measure => simp [intOf] <;> omega
        · have HS2 : Aside0 (fewN (fun q => p q) (q + 1) = some (b, l) ∧ ∀ t, some (b, l) = some t → 0 ≤ t.1 ∧ t.1 ≤ 24 ∧ 0 ≤ t.2 ∧ t.2 ≤ 24) := ⟨by rw [HST.out, if_neg (fun h => hz h.1)], fun t h => by cases h; simp; omega⟩
          clear HST hy
          go_wp2_with (first | (refine wl_load (by rfl) 30 _ (by rfl) w.heap.size 0 (by rfl) 30 72 _ _ HA1.out HS.out HN.out _ Try.underlying30 (by rfl) (by kernel_rfl) ?_) | (go_at_call 57; refine (HC1.out _).mono ?_; rintro e w2 ⟨rfl, hb⟩; have HB2 := Aside0.mk (below_step HB1.out hb); have HA2 := Aside0.mk (HA1.out.below hb); have HV2 := Aside0.mk (HV1.out.below hb); clear hb))
          go_roundw
          case rel => exact ⟨q + 1, _, by omega, HS2, rfl, rfl, by go_num, HA2, HV2, HB2⟩
          case measure => simp [intOf] <;> omega
    · obtain rfl : q = 25 := by omega
      cases s with
      | none =>
        have HF : Aside0 (R1 = 0 ∧ R2 = 0 ∧ R3 = 6) := ⟨by have h := HFIN.out; rw [HS.out.1] at h; exact h⟩
        simp only [imA, imB]
        clear HS
        go_wp2
        go_ret3
        exact ⟨by rw [HF.out.1, HF.out.2.1, HF.out.2.2]; rfl, HB1.out⟩
      | some t =>
        obtain ⟨b, l⟩ := t
        have HF : Aside0 (R1 = b ∧ R2 = l ∧ R3 = 0) := ⟨by have h := HFIN.out; rw [HS.out.1] at h; exact h⟩
        obtain ⟨hb0, hb1, hl0, hl1⟩ := HS.out.2 _ rfl
        simp only [imA, imB] at hb0 hb1 hl0 hl1 ⊢
        clear HS
        go_wp2
        go_ret3
        exact ⟨by rw [HF.out.1, HF.out.2.1, HF.out.2.2]; rfl, HB1.out⟩
set_option maxHeartbeats 8000000 in
set_option maxRecDepth 100000 in
theorem lawFew_calls (L : List Int) (hL : L.length = 72) (h8 : i8All L) (wet thick : Int) (hw : wshR ⟨wet, thick⟩) (shade : Bool) (w : World) :
    Calls Try.prog 11 #[(.agg (nums .i8 L).toArray), .agg #[.int .i16 wet, .int .i8 thick], .bool shade] w fun e w' => e = .returned (.bool true) ∧ Below w.heap.size w w' := by
  have HTD := Aside0.mk (fun W => toDay_calls L hL W)
  have HTW := Aside0.mk (fun W => laws_toWash.calls wet thick wet thick W rfl)
  have hu := Try.underlying25
  have hlen : (nums .i8 L).length = 72 := by rw [nums_len]; exact hL
  have hi : (Try.prog.info? 25).map (·.size) = some (nums .i8 L).length := by rw [hlen]; kernel_rfl
  have hone : ∀ v ∈ nums .i8 L, v.oneCell' = true := by simp [nums, Value.oneCell']
  obtain ⟨r0, r1, r2, HX, HY⟩ : ∃ r0 r1 r2, Aside0 (∀ W, Calls Try.prog 34 #[(.agg (nums .i8 L).toArray), .agg #[.int .i16 wet, .int .i8 thick], .bool shade] W fun e w' => e = .returned (.tuple #[.int .i64 r0, .int .i64 r1, .int .i64 r2]) ∧ Below W.heap.size W w') ∧ Aside0 (∀ W, Calls Try.prog 35 #[(.agg (nums .i8 L).toArray), .agg #[.int .i16 wet, .int .i8 thick], .bool shade] W fun e w' => e = .returned (.tuple #[.int .i64 r0, .int .i64 r1, .int .i64 r2]) ∧ Below W.heap.size W w') := by
    by_cases hc : askedF L [⟨wet, thick⟩] true = 0
    · obtain ⟨hd, hw2, _⟩ := asked_wash.1 hc
      exact ⟨_, _, _, ⟨fun W => specFew_ok L hL h8 hd wet thick hw2 shade W⟩, ⟨fun W => implFew_ok L hL h8 hd wet thick hw2 shade W⟩⟩
    · exact ⟨_, _, _, ⟨fun W => specFew_bad L hL h8 wet thick hw shade W hc⟩, ⟨fun W => by
        have := implFew_bad L hL h8 wet thick hw shade W (by rw [code_0]; exact hc)
        rw [code_0] at this
        exact this⟩⟩
  clear hL h8 hw
  go_enter Try.func11, Try.ntmps11
  go_wp2_with fail
  have HA : Aside0 (Blk ((w.alloc (.cells (nums .i8 L).toArray 25)).alloc (.cells #[.int .i16 wet, .int .i8 thick] 37)) w.heap.size 25 (nums .i8 L)) := ⟨(Blk.new w _ _).alloc _⟩
  have HV : Aside0 (Blk ((w.alloc (.cells (nums .i8 L).toArray 25)).alloc (.cells #[.int .i16 wet, .int .i8 thick] 37)) (w.heap.size + 1) 37 [.int .i16 wet, .int .i8 thick]) := ⟨Blk.at_ (by simp) rfl⟩
  have HB : Aside0 (Below w.heap.size w ((w.alloc (.cells (nums .i8 L).toArray 25)).alloc (.cells #[.int .i16 wet, .int .i8 thick] 37))) := ⟨below_alloc (below_alloc (Below.refl _ _) _) _⟩
  generalize ((w.alloc (.cells (nums .i8 L).toArray 25)).alloc (.cells #[.int .i16 wet, .int .i8 thick] 37)) = W1 at HA HV HB ⊢
  have c2 : W1.rangeAt w.heap.size 0 (nums .i8 L) := HA.out.rangeAt 0 (by rw [List.drop_zero, List.take_length])
  have c0 := HV.out.cell 0 (v := .int .i16 wet) rfl
  have c1 := HV.out.cell 1 (v := .int .i8 thick) rfl
  clear HA HV
  go_region_held3 (fun w' => w'.rangeAt w.heap.size 0 (nums .i8 L) ∧ w'.cell? ⟨w.heap.size + 1, 0, none⟩ = some (.int .i16 wet) ∧ w'.cell? ⟨w.heap.size + 1, 1, none⟩ = some (.int .i8 thick)) (first | exact ⟨d2, d0, d1⟩ | go_keep_ranges) ((first | (go_at_call 14; refine (HTD.out _).mono ?_; rintro e w2 ⟨rfl, hb⟩; have q0 := below_step (w := W1) (by repeat (first | exact Below.refl _ _ | assumption | apply below_drew | apply pw_below_drewN)) hb; clear hb; have d0 := pw_cell_below q0 c0; have d1 := pw_cell_below q0 c1; have d2 : World.rangeAt _ w.heap.size 0 (nums .i8 L) := fun j v hv => pw_cell_below q0 (c2 j v hv)) | (go_at_call 19; refine (HTW.out _).mono ?_; rintro e w2 ⟨rfl, hb⟩; have q0 := below_step (w := W1) (by repeat (first | exact Below.refl _ _ | assumption | apply below_drew | apply pw_below_drewN)) hb; clear hb; have d0 := pw_cell_below q0 c0; have d1 := pw_cell_below q0 c1; have d2 : World.rangeAt _ w.heap.size 0 (nums .i8 L) := fun j v hv => pw_cell_below q0 (c2 j v hv)) | (go_at_call 34; refine (HX.out _).mono ?_; rintro e w4 ⟨rfl, hb⟩; have q0 := below_step (w := W1) (by repeat (first | exact Below.refl _ _ | assumption | apply below_drew | apply pw_below_drewN)) hb; clear hb; have d0 := pw_cell_below q0 c0; have d1 := pw_cell_below q0 c1; have d2 : World.rangeAt _ w.heap.size 0 (nums .i8 L) := fun j v hv => pw_cell_below q0 (c2 j v hv))))
  have HB2 := Aside0.mk (below_step HB.out q0)
  clear q0 HB
  go_wp2_with fail
  go_region_held3 (fun w' => w'.rangeAt w.heap.size 0 (nums .i8 L) ∧ w'.cell? ⟨w.heap.size + 1, 0, none⟩ = some (.int .i16 wet) ∧ w'.cell? ⟨w.heap.size + 1, 1, none⟩ = some (.int .i8 thick)) (first | exact ⟨e2, e0, e1⟩ | go_keep_ranges) ((first | (go_at_call 14; refine (HTD.out _).mono ?_; rintro e w2 ⟨rfl, hb⟩; have q1 := below_step (w := w4) (by repeat (first | exact Below.refl _ _ | assumption | apply below_drew | apply pw_below_drewN)) hb; clear hb; have e0 := pw_cell_below q1 d0; have e1 := pw_cell_below q1 d1; have e2 : World.rangeAt _ w.heap.size 0 (nums .i8 L) := fun j v hv => pw_cell_below q1 (d2 j v hv)) | (go_at_call 19; refine (HTW.out _).mono ?_; rintro e w2 ⟨rfl, hb⟩; have q1 := below_step (w := w4) (by repeat (first | exact Below.refl _ _ | assumption | apply below_drew | apply pw_below_drewN)) hb; clear hb; have e0 := pw_cell_below q1 d0; have e1 := pw_cell_below q1 d1; have e2 : World.rangeAt _ w.heap.size 0 (nums .i8 L) := fun j v hv => pw_cell_below q1 (d2 j v hv)) | (go_at_call 35; refine (HY.out _).mono ?_; rintro e w6 ⟨rfl, hb⟩; have q1 := below_step (w := w4) (by repeat (first | exact Below.refl _ _ | assumption | apply below_drew | apply pw_below_drewN)) hb; clear hb; have e0 := pw_cell_below q1 d0; have e1 := pw_cell_below q1 d1; have e2 : World.rangeAt _ w.heap.size 0 (nums .i8 L) := fun j v hv => pw_cell_below q1 (d2 j v hv))))
  have HB3 := Aside0.mk (below_step HB2.out q1)
  go_wp2
  go_ret
  exact ⟨rfl, HB3.out⟩

end Go.Proofs.Ytkfbkmkaijonhaa.X
