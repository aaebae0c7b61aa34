/- Contracts of functions over blocks of cells: what each call answers, and what it leaves as it was. -/
import Derived.Test.YtkfbkmkaijonhaaDryx
import Derived.Test.YtkfbkmkaijonhaaDry4
set_option linter.unusedVariables false
set_option linter.unusedSimpArgs false
namespace Go.Proofs.Ytkfbkmkaijonhaa.X
open Go.RowKit Go.Proofs.YtkfbkmkaijonhaaW.PrintWords Go.Proofs.YtkfbkmkaijonhaaW.PrintLast Go.Proofs.YtkfbkmkaijonhaaW.PrintMore
attribute [local go_sem] max2_int min2_int max_two min_two max_three min_three max_four min_four
set_option maxHeartbeats 8000000 in
set_option maxRecDepth 100000 in
theorem specLast_bad (L : List Int) (hL : L.length = 72) (h8 : i8All L) (wet thick : Int) (hw : wshR ⟨wet, thick⟩) (shade : Bool) (w : World) (hc : askedF L [⟨wet, thick⟩] (true) ≠ 0) :
    Calls Try.prog 32 #[(.agg (nums .i8 L).toArray), .agg #[.int .i16 wet, .int .i8 thick], .bool shade] w fun e w' => e = .returned (.tuple #[.int .i64 0, .int .i64 (askedF L [⟨wet, thick⟩] (true))]) ∧ Below w.heap.size w w' := by
  have HK := Aside0.mk (fun W A => asked_calls1 L hL h8 wet thick hw (true) w.heap.size W A)
  generalize askedF L [⟨wet, thick⟩] (true) = code at *
  have hc2 : (code != 0) = true := by simpa using hc
  clear h8 hw hL hc
  have HB0 : Aside0 (Blk ((w.alloc (.cells (nums .i8 L).toArray 30)).alloc (.cells #[.int .i16 wet, .int .i8 thick] 39)) w.heap.size 30 (nums .i8 L)) := ⟨(Blk.new w _ _).alloc _⟩
  have HV0 : Aside0 (Blk ((w.alloc (.cells (nums .i8 L).toArray 30)).alloc (.cells #[.int .i16 wet, .int .i8 thick] 39)) (w.heap.size + 1) 39 [.int .i16 wet, .int .i8 thick]) := ⟨Blk.at_ (by simp) rfl⟩
  go_enter Try.func32, Try.ntmps32
  go_wp2_with (go_at_call 42; refine (HK.out _ _ (HB0.out.alloc _) (C_wash1 (Blk.at_ (by simp) rfl))).mono ?_; rintro e w1 ⟨rfl, hb⟩; have HB1 := Aside0.mk (below_step (below_alloc (below_alloc (below_alloc (Below.refl w.heap.size w) _) _) _) hb); have HA1 := Aside0.mk ((HB0.out.alloc _).below hb); have HV1 := Aside0.mk ((HV0.out.alloc _).below hb); have d0 := HV1.out.cell 0 (v := .int .i16 wet) rfl; have d1 := HV1.out.cell 1 (v := .int .i8 thick) rfl; clear hb)
  go_ret2
  exact ⟨rfl, HB1.out⟩
set_option maxHeartbeats 8000000 in
set_option maxRecDepth 100000 in
theorem specLast_ok (L : List Int) (hL : L.length = 72) (h8 : i8All L) (hd : dayOk L = true) (wet thick : Int) (hw : washOk wet thick = true) (shade : Bool) (w : World) :
    Calls Try.prog 32 #[(.agg (nums .i8 L).toArray), .agg #[.int .i16 wet, .int .i8 thick], .bool shade] w fun e w' => e = .returned (.tuple #[.int .i64 (if downN (fun q => decide (0 ≤ dryF L wet thick shade q)) 25 < 0 then 0 else downN (fun q => decide (0 ≤ dryF L wet thick shade q)) 25), .int .i64 (if downN (fun q => decide (0 ≤ dryF L wet thick shade q)) 25 < 0 then 6 else 0)]) ∧ Below w.heap.size w w' := by
  have HK := Aside0.mk (fun W A => asked_calls1 L hL h8 wet thick (by have := washOk_iff.1 hw; refine ⟨⟨?_, ?_⟩, ?_, ?_⟩ <;> simp <;> omega) true w.heap.size W A)
  rw [asked_wash.2 ⟨hd, hw, rfl⟩] at HK
  have HDRY := Aside0.mk (fun (q : Nat) (hq : q ≤ 24) W hW => l03Dry_calls L hL hd wet thick hw q hq shade w.heap.size W hW)
  obtain ⟨p, hp⟩ : ∃ p : Nat → Int, p = fun q => dryF L wet thick shade q := ⟨_, rfl⟩
  have hpq : ∀ q, dryF L wet thick shade q = p q := fun q => by rw [hp]
  simp only [hpq] at HDRY ⊢
  clear hp hpq
  obtain ⟨r, hr⟩ : ∃ r, r = downN (fun q => decide (0 ≤ p q)) 25 := ⟨_, rfl⟩
  rw [← hr]
  have HR := Aside0.mk hr
  clear hr
  obtain ⟨R1, R2, HFIN⟩ : ∃ R1 R2, Aside0 (R1 = (if r < 0 then 0 else r) ∧ R2 = (if r < 0 then (6 : Int) else 0)) := ⟨_, _, ⟨rfl, rfl⟩⟩
  rw [← HFIN.out.1, ← HFIN.out.2]
  clear h8 hw hL hd
  have HB0 : Aside0 (Blk ((w.alloc (.cells (nums .i8 L).toArray 30)).alloc (.cells #[.int .i16 wet, .int .i8 thick] 39)) w.heap.size 30 (nums .i8 L)) := ⟨(Blk.new w _ _).alloc _⟩
  have HV0 : Aside0 (Blk ((w.alloc (.cells (nums .i8 L).toArray 30)).alloc (.cells #[.int .i16 wet, .int .i8 thick] 39)) (w.heap.size + 1) 39 [.int .i16 wet, .int .i8 thick]) := ⟨Blk.at_ (by simp) rfl⟩
  go_enter Try.func32, Try.ntmps32
  go_wp2_with (go_at_call 42; refine (HK.out _ _ (HB0.out.alloc _) (C_wash1 (Blk.at_ (by simp) rfl))).mono ?_; rintro e w1 ⟨rfl, hb⟩; have HB1 := Aside0.mk (below_step (below_alloc (below_alloc (below_alloc (Below.refl w.heap.size w) _) _) _) hb); have HA1 := Aside0.mk ((HB0.out.alloc _).below hb); have HV1 := Aside0.mk ((HV0.out.alloc _).below hb); have d0 := HV1.out.cell 0 (v := .int .i16 wet) rfl; have d1 := HV1.out.cell 1 (v := .int .i8 thick) rfl; clear hb)
  go_loopw [9] (fun v9 w' => ∃ z : Int, -1 ≤ z ∧ z ≤ 24 ∧ v9 = .int .i64 z ∧ Aside0 (r = downN (fun q => decide (0 ≤ p q)) (z + 1).toNat) ∧ Aside0 (Blk w' w.heap.size 30 (nums .i8 L)) ∧ Aside0 (Blk w' (w.heap.size + 1) 39 [.int .i16 wet, .int .i8 thick]) ∧ Aside0 (Below w.heap.size w w')) (fun v9 _ => (intOf v9 + 1).toNat)
  case atStart => exact ⟨24, by omega, by omega, rfl, HR, HA1, HV1, HB1⟩
  case round =>
    clear HR
    clear HA1 HV1 HB1
    obtain ⟨z, hz0, hz1, rfl, HR, HA1, HV1, HB1⟩ := hrel
    by_cases hlt : 0 ≤ z
    · obtain ⟨q, rfl⟩ := Int.eq_ofNat_of_zero_le hlt
      have HC1 := Aside0.mk (HDRY.out q (by omega))
      have HE : Aside0 (r = if decide (0 ≤ p q) = true then (q : Int) else downN (fun q => decide (0 ≤ p q)) q) := ⟨by rw [HR.out, show ((q : Int) + 1).toNat = q + 1 by omega]; rfl⟩
      have d0 := HV1.out.cell 0 (v := .int .i16 wet) rfl
      have d1 := HV1.out.cell 1 (v := .int .i8 thick) rfl
      generalize p q = y at HC1 HE
      clear HR
      by_cases hy : 0 ≤ y
      · have HQ : Aside0 (r = (q : Int)) := ⟨by rw [HE.out, if_pos (by simpa using hy)]⟩
        have HQ1 : Aside0 ((if r < 0 then 0 else r) = (q : Int)) := ⟨by rw [HQ.out, if_neg (by omega)]⟩
        have HQ2 : Aside0 ((if r < 0 then (6 : Int) else 0) = 0) := ⟨by rw [HQ.out, if_neg (by omega)]⟩
        have HF : Aside0 (R1 = (q : Int) ∧ R2 = 0) := ⟨by have h := HFIN.out; rw [HQ1.out, HQ2.out] at h; exact h⟩
        clear HE HQ HQ1 HQ2
        go_wp2_with (first | (go_at_call 56; refine (HC1.out _ HA1.out).mono ?_; rintro e w2 ⟨rfl, hb⟩; have HB2 := Aside0.mk (below_step HB1.out hb); have HA2 := Aside0.mk (HA1.out.below hb); have HV2 := Aside0.mk (HV1.out.below hb); clear hb))
        go_ret2
        exact ⟨by rw [HF.out.1, HF.out.2]; rfl, HB2.out⟩
      · have HQ : Aside0 (r = downN (fun q => decide (0 ≤ p q)) q) := ⟨by rw [HE.out, if_neg (by simpa using hy)]⟩
        clear HE
        go_wp2_with (first | (go_at_call 56; refine (HC1.out _ HA1.out).mono ?_; rintro e w2 ⟨rfl, hb⟩; have HB2 := Aside0.mk (below_step HB1.out hb); have HA2 := Aside0.mk (HA1.out.below hb); have HV2 := Aside0.mk (HV1.out.below hb); clear hb))
        go_roundw
        case rel => exact ⟨(q : Int) - 1, by omega, by omega, rfl, ⟨by rw [HQ.out, show ((q : Int) - 1 + 1).toNat = q by omega]⟩, HA2, HV2, HB2⟩
        case measure => simp [intOf] <;> omega
    · obtain rfl : z = -1 := by omega
      have HQ : Aside0 (r = -1) := ⟨HR.out⟩
      have HQ1 : Aside0 ((if r < 0 then 0 else r) = 0) := ⟨by rw [HQ.out]; rfl⟩
      have HQ2 : Aside0 ((if r < 0 then (6 : Int) else 0) = 6) := ⟨by rw [HQ.out]; rfl⟩
      have HF : Aside0 (R1 = 0 ∧ R2 = 6) := ⟨by have h := HFIN.out; rw [HQ1.out, HQ2.out] at h; exact h⟩
      clear HR HQ HQ1 HQ2
      go_wp2
      go_ret2
      exact ⟨by rw [HF.out.1, HF.out.2]; rfl, HB1.out⟩
set_option maxHeartbeats 8000000 in
set_option maxRecDepth 100000 in
theorem implLast_bad (L : List Int) (hL : L.length = 72) (h8 : i8All L) (wet thick : Int) (hw : wshR ⟨wet, thick⟩) (shade : Bool) (w : World) (hc : codeF L [⟨wet, thick⟩] 0 24 ≠ 0) :
    Calls Try.prog 33 #[(.agg (nums .i8 L).toArray), .agg #[.int .i16 wet, .int .i8 thick], .bool shade] w fun e w' => e = .returned (.tuple #[.int .i64 0, .int .i64 (codeF L [⟨wet, thick⟩] 0 24)]) ∧ Below w.heap.size w w' := by
  have HC := Aside0.mk (fun W A => dayCode1 L hL h8 wet thick hw A 0 24 W)
  generalize codeF L [⟨wet, thick⟩] 0 24 = code at *
  have hc2 : (code != 0) = true := by simpa using hc
  have HB0 : Aside0 (Blk ((w.alloc (.cells (nums .i8 L).toArray 30)).alloc (.cells #[.int .i16 wet, .int .i8 thick] 39)) w.heap.size 30 (nums .i8 L)) := ⟨(Blk.new w _ _).alloc _⟩
  have HV0 : Aside0 (Blk ((w.alloc (.cells (nums .i8 L).toArray 30)).alloc (.cells #[.int .i16 wet, .int .i8 thick] 39)) (w.heap.size + 1) 39 [.int .i16 wet, .int .i8 thick]) := ⟨Blk.at_ (by simp) rfl⟩
  have HN : Aside0 ((nums .i8 L).length = 72) := ⟨by rw [nums_len]; exact hL⟩
  have HS : Aside0 (((nums .i8 L).drop 0).take 72 = nums .i8 L) := ⟨by rw [List.drop_zero, List.take_of_length_le (by rw [HN.out]; exact Nat.le_refl _)]⟩
  clear hL h8 hw hc
  go_enter Try.func33, Try.ntmps33
  go_wp2_with (first | (refine wl_load (by rfl) 30 _ (by rfl) w.heap.size 0 (by rfl) 30 72 _ _ HB0.out HS.out HN.out _ Try.underlying30 (by rfl) (by kernel_rfl) ?_) | (go_at_call 45; refine (HC.out _ _ (C_wash1 (Blk.at_ (by simp) rfl))).mono ?_; rintro e w1 ⟨rfl, hb⟩; have HB1 := Aside0.mk (below_step (below_alloc (below_alloc (below_alloc (Below.refl w.heap.size w) _) _) _) hb); have HA1 := Aside0.mk ((HB0.out.alloc _).below hb); have HV1 := Aside0.mk ((HV0.out.alloc _).below hb); have d0 := HV1.out.cell 0 (v := .int .i16 wet) rfl; have d1 := HV1.out.cell 1 (v := .int .i8 thick) rfl; clear hb))
  go_ret2
  exact ⟨rfl, HB1.out⟩
set_option maxHeartbeats 8000000 in
set_option maxRecDepth 100000 in
theorem implLast_ok (L : List Int) (hL : L.length = 72) (h8 : i8All L) (hd : dayOk L = true) (wet thick : Int) (hw : washOk wet thick = true) (shade : Bool) (w : World) :
    Calls Try.prog 33 #[(.agg (nums .i8 L).toArray), .agg #[.int .i16 wet, .int .i8 thick], .bool shade] w fun e w' => e = .returned (.tuple #[.int .i64 (if downN (fun q => decide (0 ≤ dryF L wet thick shade q)) 25 < 0 then 0 else downN (fun q => decide (0 ≤ dryF L wet thick shade q)) 25), .int .i64 (if downN (fun q => decide (0 ≤ dryF L wet thick shade q)) 25 < 0 then 6 else 0)]) ∧ Below w.heap.size w w' := by
  have HC := Aside0.mk (fun W A => dayCode1 L hL h8 wet thick (by have := washOk_iff.1 hw; refine ⟨⟨?_, ?_⟩, ?_, ?_⟩ <;> simp <;> omega) A 0 24 W)
  rw [code_0, asked_wash.2 ⟨hd, hw, rfl⟩] at HC
  have HB0 : Aside0 (Blk ((w.alloc (.cells (nums .i8 L).toArray 30)).alloc (.cells #[.int .i16 wet, .int .i8 thick] 39)) w.heap.size 30 (nums .i8 L)) := ⟨(Blk.new w _ _).alloc _⟩
  have HV0 : Aside0 (Blk ((w.alloc (.cells (nums .i8 L).toArray 30)).alloc (.cells #[.int .i16 wet, .int .i8 thick] 39)) (w.heap.size + 1) 39 [.int .i16 wet, .int .i8 thick]) := ⟨Blk.at_ (by simp) rfl⟩
  have HN : Aside0 ((nums .i8 L).length = 72) := ⟨by rw [nums_len]; exact hL⟩
  have HS : Aside0 (((nums .i8 L).drop 0).take 72 = nums .i8 L) := ⟨by rw [List.drop_zero, List.take_of_length_le (by rw [HN.out]; exact Nat.le_refl _)]⟩
  have HDRY := Aside0.mk (fun (q : Nat) (hq : q ≤ 24) W => dryAt_calls L hL hd wet thick hw q hq shade W)
  obtain ⟨p, hp⟩ : ∃ p : Nat → Int, p = fun q => dryF L wet thick shade q := ⟨_, rfl⟩
  have hpq : ∀ q, dryF L wet thick shade q = p q := fun q => by rw [hp]
  simp only [hpq] at HDRY ⊢
  clear hp hpq
  obtain ⟨r, hr⟩ : ∃ r, r = downN (fun q => decide (0 ≤ p q)) 25 := ⟨_, rfl⟩
  rw [← hr]
  have HR := Aside0.mk hr
  clear hr
  obtain ⟨R1, R2, HFIN⟩ : ∃ R1 R2, Aside0 (R1 = (if r < 0 then 0 else r) ∧ R2 = (if r < 0 then (6 : Int) else 0)) := ⟨_, _, ⟨rfl, rfl⟩⟩
  rw [← HFIN.out.1, ← HFIN.out.2]
  clear h8 hw hL hd
  go_enter Try.func33, Try.ntmps33
  go_wp2_with (first | (refine wl_load (by rfl) 30 _ (by rfl) w.heap.size 0 (by rfl) 30 72 _ _ HB0.out HS.out HN.out _ Try.underlying30 (by rfl) (by kernel_rfl) ?_) | (go_at_call 45; refine (HC.out _ _ (C_wash1 (Blk.at_ (by simp) rfl))).mono ?_; rintro e w1 ⟨rfl, hb⟩; have HB1 := Aside0.mk (below_step (below_alloc (below_alloc (below_alloc (Below.refl w.heap.size w) _) _) _) hb); have HA1 := Aside0.mk ((HB0.out.alloc _).below hb); have HV1 := Aside0.mk ((HV0.out.alloc _).below hb); have d0 := HV1.out.cell 0 (v := .int .i16 wet) rfl; have d1 := HV1.out.cell 1 (v := .int .i8 thick) rfl; clear hb))
  go_loopw [9] (fun v9 w' => ∃ z : Int, -1 ≤ z ∧ z ≤ 24 ∧ v9 = .int .i64 z ∧ Aside0 (r = downN (fun q => decide (0 ≤ p q)) (z + 1).toNat) ∧ Aside0 (Blk w' w.heap.size 30 (nums .i8 L)) ∧ Aside0 (Blk w' (w.heap.size + 1) 39 [.int .i16 wet, .int .i8 thick]) ∧ Aside0 (Below w.heap.size w w')) (fun v9 _ => (intOf v9 + 1).toNat)
  case atStart => exact ⟨24, by omega, by omega, rfl, HR, HA1, HV1, HB1⟩
  case round =>
    clear HR
    clear HA1 HV1 HB1
    obtain ⟨z, hz0, hz1, rfl, HR, HA1, HV1, HB1⟩ := hrel
    by_cases hlt : 0 ≤ z
    · obtain ⟨q, rfl⟩ := Int.eq_ofNat_of_zero_le hlt
      have HC1 := Aside0.mk (HDRY.out q (by omega))
      have HE : Aside0 (r = if decide (0 ≤ p q) = true then (q : Int) else downN (fun q => decide (0 ≤ p q)) q) := ⟨by rw [HR.out, show ((q : Int) + 1).toNat = q + 1 by omega]; rfl⟩
      have d0 := HV1.out.cell 0 (v := .int .i16 wet) rfl
      have d1 := HV1.out.cell 1 (v := .int .i8 thick) rfl
      generalize p q = y at HC1 HE
      clear HR
      by_cases hy : 0 ≤ y
      · have HQ : Aside0 (r = (q : Int)) := ⟨by rw [HE.out, if_pos (by simpa using hy)]⟩
        have HQ1 : Aside0 ((if r < 0 then 0 else r) = (q : Int)) := ⟨by rw [HQ.out, if_neg (by omega)]⟩
        have HQ2 : Aside0 ((if r < 0 then (6 : Int) else 0) = 0) := ⟨by rw [HQ.out, if_neg (by omega)]⟩
        have HF : Aside0 (R1 = (q : Int) ∧ R2 = 0) := ⟨by have h := HFIN.out; rw [HQ1.out, HQ2.out] at h; exact h⟩
        clear HE HQ HQ1 HQ2
        go_wp2_with (first | (refine wl_load (by rfl) 30 _ (by rfl) w.heap.size 0 (by rfl) 30 72 _ _ HA1.out HS.out HN.out _ Try.underlying30 (by rfl) (by kernel_rfl) ?_) | (go_at_call 57; refine (HC1.out _).mono ?_; rintro e w2 ⟨rfl, hb⟩; have HB2 := Aside0.mk (below_step HB1.out hb); have HA2 := Aside0.mk (HA1.out.below hb); have HV2 := Aside0.mk (HV1.out.below hb); clear hb))
        go_ret2
        exact ⟨by rw [HF.out.1, HF.out.2]; rfl, HB2.out⟩
      · have HQ : Aside0 (r = downN (fun q => decide (0 ≤ p q)) q) := ⟨by rw [HE.out, if_neg (by simpa using hy)]⟩
        clear HE
        go_wp2_with (first | (refine wl_load (by rfl) 30 _ (by rfl) w.heap.size 0 (by rfl) 30 72 _ _ HA1.out HS.out HN.out _ Try.underlying30 (by rfl) (by kernel_rfl) ?_) | (go_at_call 57; refine (HC1.out _).mono ?_; rintro e w2 ⟨rfl, hb⟩; have HB2 := Aside0.mk (below_step HB1.out hb); have HA2 := Aside0.mk (HA1.out.below hb); have HV2 := Aside0.mk (HV1.out.below hb); clear hb))
        go_roundw
        case rel => exact ⟨(q : Int) - 1, by omega, by omega, rfl, ⟨by rw [HQ.out, show ((q : Int) - 1 + 1).toNat = q by omega]⟩, HA2, HV2, HB2⟩
        case measure => simp [intOf] <;> omega
    · obtain rfl : z = -1 := by omega
      have HQ : Aside0 (r = -1) := ⟨HR.out⟩
      have HQ1 : Aside0 ((if r < 0 then 0 else r) = 0) := ⟨by rw [HQ.out]; rfl⟩
      have HQ2 : Aside0 ((if r < 0 then (6 : Int) else 0) = 6) := ⟨by rw [HQ.out]; rfl⟩
      have HF : Aside0 (R1 = 0 ∧ R2 = 6) := ⟨by have h := HFIN.out; rw [HQ1.out, HQ2.out] at h; exact h⟩
      clear HR HQ HQ1 HQ2
      go_wp2
      go_ret2
      exact ⟨by rw [HF.out.1, HF.out.2]; rfl, HB1.out⟩
set_option maxHeartbeats 8000000 in
set_option maxRecDepth 100000 in
theorem lawLast_calls (L : List Int) (hL : L.length = 72) (h8 : i8All L) (wet thick : Int) (hw : wshR ⟨wet, thick⟩) (shade : Bool) (w : World) :
    Calls Try.prog 10 #[(.agg (nums .i8 L).toArray), .agg #[.int .i16 wet, .int .i8 thick], .bool shade] w fun e w' => e = .returned (.bool true) ∧ Below w.heap.size w w' := by
  have HTD := Aside0.mk (fun W => toDay_calls L hL W)
  have HTW := Aside0.mk (fun W => laws_toWash.calls wet thick wet thick W rfl)
  have hu := Try.underlying25
  have hlen : (nums .i8 L).length = 72 := by rw [nums_len]; exact hL
  have hi : (Try.prog.info? 25).map (·.size) = some (nums .i8 L).length := by rw [hlen]; kernel_rfl
  have hone : ∀ v ∈ nums .i8 L, v.oneCell' = true := by simp [nums, Value.oneCell']
  obtain ⟨r0, r1, HX, HY⟩ : ∃ r0 r1, Aside0 (∀ W, Calls Try.prog 32 #[(.agg (nums .i8 L).toArray), .agg #[.int .i16 wet, .int .i8 thick], .bool shade] W fun e w' => e = .returned (.tuple #[.int .i64 r0, .int .i64 r1]) ∧ Below W.heap.size W w') ∧ Aside0 (∀ W, Calls Try.prog 33 #[(.agg (nums .i8 L).toArray), .agg #[.int .i16 wet, .int .i8 thick], .bool shade] W fun e w' => e = .returned (.tuple #[.int .i64 r0, .int .i64 r1]) ∧ Below W.heap.size W w') := by
    by_cases hc : askedF L [⟨wet, thick⟩] true = 0
    · obtain ⟨hd, hw2, _⟩ := asked_wash.1 hc
      exact ⟨_, _, ⟨fun W => specLast_ok L hL h8 hd wet thick hw2 shade W⟩, ⟨fun W => implLast_ok L hL h8 hd wet thick hw2 shade W⟩⟩
    · exact ⟨_, _, ⟨fun W => specLast_bad L hL h8 wet thick hw shade W hc⟩, ⟨fun W => by
        have := implLast_bad L hL h8 wet thick hw shade W (by rw [code_0]; exact hc)
        rw [code_0] at this
        exact this⟩⟩
  clear hL h8 hw
  go_enter Try.func10, Try.ntmps10
  go_wp2_with fail
  have HA : Aside0 (Blk ((w.alloc (.cells (nums .i8 L).toArray 25)).alloc (.cells #[.int .i16 wet, .int .i8 thick] 37)) w.heap.size 25 (nums .i8 L)) := ⟨(Blk.new w _ _).alloc _⟩
  have HV : Aside0 (Blk ((w.alloc (.cells (nums .i8 L).toArray 25)).alloc (.cells #[.int .i16 wet, .int .i8 thick] 37)) (w.heap.size + 1) 37 [.int .i16 wet, .int .i8 thick]) := ⟨Blk.at_ (by simp) rfl⟩
  have HB : Aside0 (Below w.heap.size w ((w.alloc (.cells (nums .i8 L).toArray 25)).alloc (.cells #[.int .i16 wet, .int .i8 thick] 37))) := ⟨below_alloc (below_alloc (Below.refl _ _) _) _⟩
  generalize ((w.alloc (.cells (nums .i8 L).toArray 25)).alloc (.cells #[.int .i16 wet, .int .i8 thick] 37)) = W1 at HA HV HB ⊢
  have c2 : W1.rangeAt w.heap.size 0 (nums .i8 L) := HA.out.rangeAt 0 (by rw [List.drop_zero, List.take_length])
  have c0 := HV.out.cell 0 (v := .int .i16 wet) rfl
  have c1 := HV.out.cell 1 (v := .int .i8 thick) rfl
  clear HA HV
  go_region_held3 (fun w' => w'.rangeAt w.heap.size 0 (nums .i8 L) ∧ w'.cell? ⟨w.heap.size + 1, 0, none⟩ = some (.int .i16 wet) ∧ w'.cell? ⟨w.heap.size + 1, 1, none⟩ = some (.int .i8 thick)) (first | exact ⟨d2, d0, d1⟩ | go_keep_ranges) ((first | (go_at_call 14; refine (HTD.out _).mono ?_; rintro e w2 ⟨rfl, hb⟩; have q0 := below_step (w := W1) (by repeat (first | exact Below.refl _ _ | assumption | apply below_drew | apply pw_below_drewN)) hb; clear hb; have d0 := pw_cell_below q0 c0; have d1 := pw_cell_below q0 c1; have d2 : World.rangeAt _ w.heap.size 0 (nums .i8 L) := fun j v hv => pw_cell_below q0 (c2 j v hv)) | (go_at_call 19; refine (HTW.out _).mono ?_; rintro e w2 ⟨rfl, hb⟩; have q0 := below_step (w := W1) (by repeat (first | exact Below.refl _ _ | assumption | apply below_drew | apply pw_below_drewN)) hb; clear hb; have d0 := pw_cell_below q0 c0; have d1 := pw_cell_below q0 c1; have d2 : World.rangeAt _ w.heap.size 0 (nums .i8 L) := fun j v hv => pw_cell_below q0 (c2 j v hv)) | (go_at_call 32; refine (HX.out _).mono ?_; rintro e w4 ⟨rfl, hb⟩; have q0 := below_step (w := W1) (by repeat (first | exact Below.refl _ _ | assumption | apply below_drew | apply pw_below_drewN)) hb; clear hb; have d0 := pw_cell_below q0 c0; have d1 := pw_cell_below q0 c1; have d2 : World.rangeAt _ w.heap.size 0 (nums .i8 L) := fun j v hv => pw_cell_below q0 (c2 j v hv))))
  have HB2 := Aside0.mk (below_step HB.out q0)
  clear q0 HB
  go_wp2_with fail
  go_region_held3 (fun w' => w'.rangeAt w.heap.size 0 (nums .i8 L) ∧ w'.cell? ⟨w.heap.size + 1, 0, none⟩ = some (.int .i16 wet) ∧ w'.cell? ⟨w.heap.size + 1, 1, none⟩ = some (.int .i8 thick)) (first | exact ⟨e2, e0, e1⟩ | go_keep_ranges) ((first | (go_at_call 14; refine (HTD.out _).mono ?_; rintro e w2 ⟨rfl, hb⟩; have q1 := below_step (w := w4) (by repeat (first | exact Below.refl _ _ | assumption | apply below_drew | apply pw_below_drewN)) hb; clear hb; have e0 := pw_cell_below q1 d0; have e1 := pw_cell_below q1 d1; have e2 : World.rangeAt _ w.heap.size 0 (nums .i8 L) := fun j v hv => pw_cell_below q1 (d2 j v hv)) | (go_at_call 19; refine (HTW.out _).mono ?_; rintro e w2 ⟨rfl, hb⟩; have q1 := below_step (w := w4) (by repeat (first | exact Below.refl _ _ | assumption | apply below_drew | apply pw_below_drewN)) hb; clear hb; have e0 := pw_cell_below q1 d0; have e1 := pw_cell_below q1 d1; have e2 : World.rangeAt _ w.heap.size 0 (nums .i8 L) := fun j v hv => pw_cell_below q1 (d2 j v hv)) | (go_at_call 33; refine (HY.out _).mono ?_; rintro e w6 ⟨rfl, hb⟩; have q1 := below_step (w := w4) (by repeat (first | exact Below.refl _ _ | assumption | apply below_drew | apply pw_below_drewN)) hb; clear hb; have e0 := pw_cell_below q1 d0; have e1 := pw_cell_below q1 d1; have e2 : World.rangeAt _ w.heap.size 0 (nums .i8 L) := fun j v hv => pw_cell_below q1 (d2 j v hv))))
  have HB3 := Aside0.mk (below_step HB2.out q1)
  go_wp2
  go_ret
  exact ⟨rfl, HB3.out⟩

end Go.Proofs.Ytkfbkmkaijonhaa.X
