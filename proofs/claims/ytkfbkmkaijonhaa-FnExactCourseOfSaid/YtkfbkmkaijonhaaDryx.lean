/- Contracts of functions over blocks of cells: what each call answers, and what it leaves as it was. -/
import Derived.Test.YtkfbkmkaijonhaaRain
set_option linter.unusedVariables false
set_option linter.unusedSimpArgs false
namespace Go.Proofs.Ytkfbkmkaijonhaa.X
open Go.RowKit Go.Proofs.YtkfbkmkaijonhaaW.PrintWords Go.Proofs.YtkfbkmkaijonhaaW.PrintLast Go.Proofs.YtkfbkmkaijonhaaW.PrintMore
attribute [local go_sem] max2_int min2_int max_two min_two max_three min_three max_four min_four
set_option maxHeartbeats 8000000 in
set_option maxRecDepth 100000 in
theorem specDry_bad (L : List Int) (hL : L.length = 72) (h8 : i8All L) (wet thick : Int) (hw : wshR ⟨wet, thick⟩) (h : Int) (shade : Bool) (w : World) (hc : askedF L [⟨wet, thick⟩] (inR h 0 24) ≠ 0) :
    Calls Try.prog 30 #[(.agg (nums .i8 L).toArray), .agg #[.int .i16 wet, .int .i8 thick], .int .i64 h, .bool shade] w fun e w' => e = .returned (.tuple #[.int .i64 0, .int .i64 (askedF L [⟨wet, thick⟩] (inR h 0 24))]) ∧ Below w.heap.size w w' := by
  have hfr := fun W => spec_l03From.calls h _ W (from_f h)
  have HK := Aside0.mk (fun W A => asked_calls1 L hL h8 wet thick hw (inR h 0 24) w.heap.size W A)
  generalize askedF L [⟨wet, thick⟩] (inR h 0 24) = code at *
  have hc2 : (code != 0) = true := by simpa using hc
  clear h8 hw hL hc
  generalize inR h 0 24 = fine at *
  go_enter Try.func30, Try.ntmps30
  go_wp2_with fail
  have HA : Aside0 (Blk ((w.alloc (.cells (nums .i8 L).toArray 30)).alloc (.cells #[.int .i16 wet, .int .i8 thick] 39)) w.heap.size 30 (nums .i8 L)) := ⟨(Blk.new w _ _).alloc _⟩
  have HV : Aside0 (Blk ((w.alloc (.cells (nums .i8 L).toArray 30)).alloc (.cells #[.int .i16 wet, .int .i8 thick] 39)) (w.heap.size + 1) 39 [.int .i16 wet, .int .i8 thick]) := ⟨Blk.at_ (by simp) rfl⟩
  have HB : Aside0 (Below w.heap.size w ((w.alloc (.cells (nums .i8 L).toArray 30)).alloc (.cells #[.int .i16 wet, .int .i8 thick] 39))) := ⟨below_alloc (below_alloc (Below.refl _ _) _) _⟩
  generalize ((w.alloc (.cells (nums .i8 L).toArray 30)).alloc (.cells #[.int .i16 wet, .int .i8 thick] 39)) = W1 at HA HV HB ⊢
  have c0 := HV.out.cell 0 (v := .int .i16 wet) rfl
  have c1 := HV.out.cell 1 (v := .int .i8 thick) rfl
  go_region_held3 (fun w' => w'.cell? ⟨w.heap.size + 1, 0, none⟩ = some (.int .i16 wet) ∧ w'.cell? ⟨w.heap.size + 1, 1, none⟩ = some (.int .i8 thick)) (go_keep) ((first | (go_at_call 43; refine (hfr _).mono ?_; rintro e w' ⟨rfl, ⟨nd, rfl⟩⟩) | (go_at_call 42; refine (HK.out _ _ (by repeat (first | exact HA.out | apply Blk.drewN | apply Blk.drew | apply Blk.alloc)) (C_wash1 (by repeat (first | exact Blk.at_ (by simp) rfl | apply Blk.drewN | apply Blk.drew)))).mono ?_; rintro e w1 ⟨rfl, hb⟩; have HB1 := Aside0.mk (below_step (w := W1) (by repeat (first | exact Below.refl _ _ | apply pw_below_drewN | apply below_drew | apply below_alloc)) hb); clear hb; have HA1 := Aside0.mk (HA.out.below HB1.out); have HV1 := Aside0.mk (HV.out.below HB1.out); have d0 := HV1.out.cell 0 (v := .int .i16 wet) rfl; have d1 := HV1.out.cell 1 (v := .int .i8 thick) rfl)))
  all_goals
    go_wp2
    go_ret2
    exact ⟨rfl, below_step HB.out HB1.out⟩
set_option maxHeartbeats 8000000 in
set_option maxRecDepth 100000 in
theorem specDry_ok (L : List Int) (hL : L.length = 72) (h8 : i8All L) (hd : dayOk L = true) (wet thick : Int) (hw : washOk wet thick = true) (h : Nat) (hh : h ≤ 24) (shade : Bool) (w : World) :
    Calls Try.prog 30 #[(.agg (nums .i8 L).toArray), .agg #[.int .i16 wet, .int .i8 thick], .int .i64 h, .bool shade] w fun e w' => e = .returned (.tuple #[.int .i64 (if dryF L wet thick shade h < 0 then 0 else dryF L wet thick shade h), .int .i64 (if dryF L wet thick shade h < 0 then 6 else 0)]) ∧ Below w.heap.size w w' := by
  have hin : inR (h : Int) 0 24 = true := by rw [inR_iff]; omega
  have hfr := fun W => spec_l03From.calls h _ W (from_f h)
  rw [hin] at hfr
  have HK := Aside0.mk (fun W A => asked_calls1 L hL h8 wet thick (by have := washOk_iff.1 hw; refine ⟨⟨?_, ?_⟩, ?_, ?_⟩ <;> simp <;> omega) true w.heap.size W A)
  rw [asked_wash.2 ⟨hd, hw, rfl⟩] at HK
  have HDRY := Aside0.mk (fun W hW => l03Dry_calls L hL hd wet thick hw h hh shade w.heap.size W hW)
  generalize dryF L wet thick shade h = r at *
  obtain ⟨R1, HR1⟩ : ∃ R1, Aside0 (R1 = if r < 0 then 0 else r) := ⟨_, ⟨rfl⟩⟩
  obtain ⟨R2, HR2⟩ : ∃ R2, Aside0 (R2 = if r < 0 then (6 : Int) else 0) := ⟨_, ⟨rfl⟩⟩
  rw [← HR1.out, ← HR2.out]
  clear h8 hw hL hd
  go_enter Try.func30, Try.ntmps30
  go_wp2_with fail
  have HA : Aside0 (Blk ((w.alloc (.cells (nums .i8 L).toArray 30)).alloc (.cells #[.int .i16 wet, .int .i8 thick] 39)) w.heap.size 30 (nums .i8 L)) := ⟨(Blk.new w _ _).alloc _⟩
  have HV : Aside0 (Blk ((w.alloc (.cells (nums .i8 L).toArray 30)).alloc (.cells #[.int .i16 wet, .int .i8 thick] 39)) (w.heap.size + 1) 39 [.int .i16 wet, .int .i8 thick]) := ⟨Blk.at_ (by simp) rfl⟩
  have HB : Aside0 (Below w.heap.size w ((w.alloc (.cells (nums .i8 L).toArray 30)).alloc (.cells #[.int .i16 wet, .int .i8 thick] 39))) := ⟨below_alloc (below_alloc (Below.refl _ _) _) _⟩
  generalize ((w.alloc (.cells (nums .i8 L).toArray 30)).alloc (.cells #[.int .i16 wet, .int .i8 thick] 39)) = W1 at HA HV HB ⊢
  have c0 := HV.out.cell 0 (v := .int .i16 wet) rfl
  have c1 := HV.out.cell 1 (v := .int .i8 thick) rfl
  go_region_held3 (fun w' => w'.cell? ⟨w.heap.size + 1, 0, none⟩ = some (.int .i16 wet) ∧ w'.cell? ⟨w.heap.size + 1, 1, none⟩ = some (.int .i8 thick)) (go_keep) ((first | (go_at_call 43; refine (hfr _).mono ?_; rintro e w' ⟨rfl, ⟨nd, rfl⟩⟩) | (go_at_call 42; refine (HK.out _ _ (by repeat (first | exact HA.out | apply Blk.drewN | apply Blk.drew | apply Blk.alloc)) (C_wash1 (by repeat (first | exact Blk.at_ (by simp) rfl | apply Blk.drewN | apply Blk.drew)))).mono ?_; rintro e w1 ⟨rfl, hb⟩; have HB1 := Aside0.mk (below_step (w := W1) (by repeat (first | exact Below.refl _ _ | apply pw_below_drewN | apply below_drew | apply below_alloc)) hb); clear hb; have HA1 := Aside0.mk (HA.out.below HB1.out); have HV1 := Aside0.mk (HV.out.below HB1.out); have d0 := HV1.out.cell 0 (v := .int .i16 wet) rfl; have d1 := HV1.out.cell 1 (v := .int .i8 thick) rfl)))
  all_goals
    clear c0 c1
    by_cases hr : r < 0
    · have HQ1 : Aside0 (R1 = 0) := ⟨by rw [HR1.out, if_pos hr]⟩
      have HQ2 : Aside0 (R2 = 6) := ⟨by rw [HR2.out, if_pos hr]⟩
      go_wp2_with (first | (go_at_call 56; refine (HDRY.out _ HA1.out).mono ?_; rintro e w2 ⟨rfl, hb⟩; have HB2 := Aside0.mk (below_step HB1.out hb); clear hb))
      go_ret2
      exact ⟨by rw [HQ1.out, HQ2.out]; rfl, below_step HB.out HB2.out⟩
    · have HQ1 : Aside0 (R1 = r) := ⟨by rw [HR1.out, if_neg hr]⟩
      have HQ2 : Aside0 (R2 = 0) := ⟨by rw [HR2.out, if_neg hr]⟩
      go_wp2_with (first | (go_at_call 56; refine (HDRY.out _ HA1.out).mono ?_; rintro e w2 ⟨rfl, hb⟩; have HB2 := Aside0.mk (below_step HB1.out hb); clear hb))
      go_ret2
      exact ⟨by rw [HQ1.out, HQ2.out]; rfl, below_step HB.out HB2.out⟩
set_option maxHeartbeats 8000000 in
set_option maxRecDepth 100000 in
theorem implDry_bad (L : List Int) (hL : L.length = 72) (h8 : i8All L) (wet thick : Int) (hw : wshR ⟨wet, thick⟩) (h : Int) (shade : Bool) (w : World) (hc : codeF L [⟨wet, thick⟩] h 24 ≠ 0) :
    Calls Try.prog 31 #[(.agg (nums .i8 L).toArray), .agg #[.int .i16 wet, .int .i8 thick], .int .i64 h, .bool shade] w fun e w' => e = .returned (.tuple #[.int .i64 0, .int .i64 (codeF L [⟨wet, thick⟩] h 24)]) ∧ Below w.heap.size w w' := by
  have HC := Aside0.mk (fun W A => dayCode1 L hL h8 wet thick hw A h 24 W)
  generalize codeF L [⟨wet, thick⟩] h 24 = code at *
  have hc2 : (code != 0) = true := by simpa using hc
  have HB0 : Aside0 (Blk ((w.alloc (.cells (nums .i8 L).toArray 30)).alloc (.cells #[.int .i16 wet, .int .i8 thick] 39)) w.heap.size 30 (nums .i8 L)) := ⟨(Blk.new w _ _).alloc _⟩
  have HV0 : Aside0 (Blk ((w.alloc (.cells (nums .i8 L).toArray 30)).alloc (.cells #[.int .i16 wet, .int .i8 thick] 39)) (w.heap.size + 1) 39 [.int .i16 wet, .int .i8 thick]) := ⟨Blk.at_ (by simp) rfl⟩
  have HN : Aside0 ((nums .i8 L).length = 72) := ⟨by rw [nums_len]; exact hL⟩
  have HS : Aside0 (((nums .i8 L).drop 0).take 72 = nums .i8 L) := ⟨by rw [List.drop_zero, List.take_of_length_le (by rw [HN.out]; exact Nat.le_refl _)]⟩
  clear hL h8 hw hc
  go_enter Try.func31, Try.ntmps31
  go_wp2_with (first | (refine wl_load (by rfl) 30 _ (by rfl) w.heap.size 0 (by rfl) 30 72 _ _ HB0.out HS.out HN.out _ Try.underlying30 (by rfl) (by kernel_rfl) ?_) | (go_at_call 45; refine (HC.out _ _ (C_wash1 (Blk.at_ (by simp) rfl))).mono ?_; rintro e w1 ⟨rfl, hb⟩; have HB1 := Aside0.mk (below_step (below_alloc (below_alloc (below_alloc (Below.refl w.heap.size w) _) _) _) hb); have HA1 := Aside0.mk ((HB0.out.alloc _).below hb); have HV1 := Aside0.mk ((HV0.out.alloc _).below hb); have d0 := HV1.out.cell 0 (v := .int .i16 wet) rfl; have d1 := HV1.out.cell 1 (v := .int .i8 thick) rfl; clear hb))
  go_ret2
  exact ⟨rfl, HB1.out⟩
set_option maxHeartbeats 8000000 in
set_option maxRecDepth 100000 in
theorem implDry_ok (L : List Int) (hL : L.length = 72) (h8 : i8All L) (hd : dayOk L = true) (wet thick : Int) (hw : washOk wet thick = true) (h : Nat) (hh : h ≤ 24) (shade : Bool) (w : World) :
    Calls Try.prog 31 #[(.agg (nums .i8 L).toArray), .agg #[.int .i16 wet, .int .i8 thick], .int .i64 h, .bool shade] w fun e w' => e = .returned (.tuple #[.int .i64 (if dryF L wet thick shade h < 0 then 0 else dryF L wet thick shade h), .int .i64 (if dryF L wet thick shade h < 0 then 6 else 0)]) ∧ Below w.heap.size w w' := by
  have HC := Aside0.mk (fun W A => dayCode1 L hL h8 wet thick (by have := washOk_iff.1 hw; refine ⟨⟨?_, ?_⟩, ?_, ?_⟩ <;> simp <;> omega) A h 24 W)
  rw [code_eq, asked_wash.2 ⟨hd, hw, (by simp [inR]; omega)⟩] at HC
  have HB0 : Aside0 (Blk ((w.alloc (.cells (nums .i8 L).toArray 30)).alloc (.cells #[.int .i16 wet, .int .i8 thick] 39)) w.heap.size 30 (nums .i8 L)) := ⟨(Blk.new w _ _).alloc _⟩
  have HV0 : Aside0 (Blk ((w.alloc (.cells (nums .i8 L).toArray 30)).alloc (.cells #[.int .i16 wet, .int .i8 thick] 39)) (w.heap.size + 1) 39 [.int .i16 wet, .int .i8 thick]) := ⟨Blk.at_ (by simp) rfl⟩
  have HN : Aside0 ((nums .i8 L).length = 72) := ⟨by rw [nums_len]; exact hL⟩
  have HS : Aside0 (((nums .i8 L).drop 0).take 72 = nums .i8 L) := ⟨by rw [List.drop_zero, List.take_of_length_le (by rw [HN.out]; exact Nat.le_refl _)]⟩
  have HDRY := Aside0.mk (fun W => dryAt_calls L hL hd wet thick hw h hh shade W)
  generalize dryF L wet thick shade h = r at *
  obtain ⟨R1, HR1⟩ : ∃ R1, Aside0 (R1 = if r < 0 then 0 else r) := ⟨_, ⟨rfl⟩⟩
  obtain ⟨R2, HR2⟩ : ∃ R2, Aside0 (R2 = if r < 0 then (6 : Int) else 0) := ⟨_, ⟨rfl⟩⟩
  rw [← HR1.out, ← HR2.out]
  clear hL h8 hd hw
  go_enter Try.func31, Try.ntmps31
  by_cases hr : r < 0
  · have HQ1 : Aside0 (R1 = 0) := ⟨by rw [HR1.out, if_pos hr]⟩
    have HQ2 : Aside0 (R2 = 6) := ⟨by rw [HR2.out, if_pos hr]⟩
    go_wp2_with (first | (refine wl_load (by rfl) 30 _ (by rfl) w.heap.size 0 (by rfl) 30 72 _ _ HA1.out HS.out HN.out _ Try.underlying30 (by rfl) (by kernel_rfl) ?_) | (refine wl_load (by rfl) 30 _ (by rfl) w.heap.size 0 (by rfl) 30 72 _ _ HB0.out HS.out HN.out _ Try.underlying30 (by rfl) (by kernel_rfl) ?_) | (go_at_call 45; refine (HC.out _ _ (C_wash1 (Blk.at_ (by simp) rfl))).mono ?_; rintro e w1 ⟨rfl, hb⟩; have HB1 := Aside0.mk (below_step (below_alloc (below_alloc (below_alloc (Below.refl w.heap.size w) _) _) _) hb); have HA1 := Aside0.mk ((HB0.out.alloc _).below hb); have HV1 := Aside0.mk ((HV0.out.alloc _).below hb); have d0 := HV1.out.cell 0 (v := .int .i16 wet) rfl; have d1 := HV1.out.cell 1 (v := .int .i8 thick) rfl; clear hb) | (go_at_call 57; refine (HDRY.out _).mono ?_; rintro e w2 ⟨rfl, hb⟩; have HB2 := Aside0.mk (below_step HB1.out hb); clear hb))
    go_ret2
    exact ⟨by rw [HQ1.out, HQ2.out]; rfl, HB2.out⟩
  · have HQ1 : Aside0 (R1 = r) := ⟨by rw [HR1.out, if_neg hr]⟩
    have HQ2 : Aside0 (R2 = 0) := ⟨by rw [HR2.out, if_neg hr]⟩
    go_wp2_with (first | (refine wl_load (by rfl) 30 _ (by rfl) w.heap.size 0 (by rfl) 30 72 _ _ HA1.out HS.out HN.out _ Try.underlying30 (by rfl) (by kernel_rfl) ?_) | (refine wl_load (by rfl) 30 _ (by rfl) w.heap.size 0 (by rfl) 30 72 _ _ HB0.out HS.out HN.out _ Try.underlying30 (by rfl) (by kernel_rfl) ?_) | (go_at_call 45; refine (HC.out _ _ (C_wash1 (Blk.at_ (by simp) rfl))).mono ?_; rintro e w1 ⟨rfl, hb⟩; have HB1 := Aside0.mk (below_step (below_alloc (below_alloc (below_alloc (Below.refl w.heap.size w) _) _) _) hb); have HA1 := Aside0.mk ((HB0.out.alloc _).below hb); have HV1 := Aside0.mk ((HV0.out.alloc _).below hb); have d0 := HV1.out.cell 0 (v := .int .i16 wet) rfl; have d1 := HV1.out.cell 1 (v := .int .i8 thick) rfl; clear hb) | (go_at_call 57; refine (HDRY.out _).mono ?_; rintro e w2 ⟨rfl, hb⟩; have HB2 := Aside0.mk (below_step HB1.out hb); clear hb))
    go_ret2
    exact ⟨by rw [HQ1.out, HQ2.out]; rfl, HB2.out⟩
set_option maxHeartbeats 8000000 in
set_option maxRecDepth 100000 in
theorem lawDry_calls (L : List Int) (hL : L.length = 72) (h8 : i8All L) (wet thick : Int) (hw : wshR ⟨wet, thick⟩) (h : Int) (shade : Bool) (w : World) :
    Calls Try.prog 9 #[(.agg (nums .i8 L).toArray), .agg #[.int .i16 wet, .int .i8 thick], .int .i64 h, .bool shade] w fun e w' => e = .returned (.bool true) ∧ Below w.heap.size w w' := by
  have HTD := Aside0.mk (fun W => toDay_calls L hL W)
  have HTW := Aside0.mk (fun W => laws_toWash.calls wet thick wet thick W rfl)
  have hu := Try.underlying25
  have hlen : (nums .i8 L).length = 72 := by rw [nums_len]; exact hL
  have hi : (Try.prog.info? 25).map (·.size) = some (nums .i8 L).length := by rw [hlen]; kernel_rfl
  have hone : ∀ v ∈ nums .i8 L, v.oneCell' = true := by simp [nums, Value.oneCell']
  obtain ⟨r0, r1, HX, HY⟩ : ∃ r0 r1, Aside0 (∀ W, Calls Try.prog 30 #[(.agg (nums .i8 L).toArray), .agg #[.int .i16 wet, .int .i8 thick], .int .i64 h, .bool shade] W fun e w' => e = .returned (.tuple #[.int .i64 r0, .int .i64 r1]) ∧ Below W.heap.size W w') ∧ Aside0 (∀ W, Calls Try.prog 31 #[(.agg (nums .i8 L).toArray), .agg #[.int .i16 wet, .int .i8 thick], .int .i64 h, .bool shade] W fun e w' => e = .returned (.tuple #[.int .i64 r0, .int .i64 r1]) ∧ Below W.heap.size W w') := by
    by_cases hc : askedF L [⟨wet, thick⟩] (inR h 0 24) = 0
    · obtain ⟨hd, hw2, hf⟩ := asked_wash.1 hc
      rw [inR_iff] at hf
      obtain ⟨m, rfl⟩ := Int.eq_ofNat_of_zero_le hf.1
      exact ⟨_, _, ⟨fun W => specDry_ok L hL h8 hd wet thick hw2 m (by omega) shade W⟩, ⟨fun W => implDry_ok L hL h8 hd wet thick hw2 m (by omega) shade W⟩⟩
    · exact ⟨_, _, ⟨fun W => specDry_bad L hL h8 wet thick hw h shade W hc⟩, ⟨fun W => by
        have := implDry_bad L hL h8 wet thick hw h shade W (by rw [code_24]; exact hc)
        rw [code_24] at this
        exact this⟩⟩
  clear hL h8 hw
  go_enter Try.func9, Try.ntmps9
  go_wp2_with fail
  have HA : Aside0 (Blk ((w.alloc (.cells (nums .i8 L).toArray 25)).alloc (.cells #[.int .i16 wet, .int .i8 thick] 37)) w.heap.size 25 (nums .i8 L)) := ⟨(Blk.new w _ _).alloc _⟩
  have HV : Aside0 (Blk ((w.alloc (.cells (nums .i8 L).toArray 25)).alloc (.cells #[.int .i16 wet, .int .i8 thick] 37)) (w.heap.size + 1) 37 [.int .i16 wet, .int .i8 thick]) := ⟨Blk.at_ (by simp) rfl⟩
  have HB : Aside0 (Below w.heap.size w ((w.alloc (.cells (nums .i8 L).toArray 25)).alloc (.cells #[.int .i16 wet, .int .i8 thick] 37))) := ⟨below_alloc (below_alloc (Below.refl _ _) _) _⟩
  generalize ((w.alloc (.cells (nums .i8 L).toArray 25)).alloc (.cells #[.int .i16 wet, .int .i8 thick] 37)) = W1 at HA HV HB ⊢
  have c2 : W1.rangeAt w.heap.size 0 (nums .i8 L) := HA.out.rangeAt 0 (by rw [List.drop_zero, List.take_length])
  have c0 := HV.out.cell 0 (v := .int .i16 wet) rfl
  have c1 := HV.out.cell 1 (v := .int .i8 thick) rfl
  clear HA HV
  go_region_held3 (fun w' => w'.rangeAt w.heap.size 0 (nums .i8 L) ∧ w'.cell? ⟨w.heap.size + 1, 0, none⟩ = some (.int .i16 wet) ∧ w'.cell? ⟨w.heap.size + 1, 1, none⟩ = some (.int .i8 thick)) (first | exact ⟨d2, d0, d1⟩ | go_keep_ranges) ((first | (go_at_call 14; refine (HTD.out _).mono ?_; rintro e w2 ⟨rfl, hb⟩; have q0 := below_step (w := W1) (by repeat (first | exact Below.refl _ _ | assumption | apply below_drew | apply pw_below_drewN)) hb; clear hb; have d0 := pw_cell_below q0 c0; have d1 := pw_cell_below q0 c1; have d2 : World.rangeAt _ w.heap.size 0 (nums .i8 L) := fun j v hv => pw_cell_below q0 (c2 j v hv)) | (go_at_call 19; refine (HTW.out _).mono ?_; rintro e w2 ⟨rfl, hb⟩; have q0 := below_step (w := W1) (by repeat (first | exact Below.refl _ _ | assumption | apply below_drew | apply pw_below_drewN)) hb; clear hb; have d0 := pw_cell_below q0 c0; have d1 := pw_cell_below q0 c1; have d2 : World.rangeAt _ w.heap.size 0 (nums .i8 L) := fun j v hv => pw_cell_below q0 (c2 j v hv)) | (go_at_call 30; refine (HX.out _).mono ?_; rintro e w4 ⟨rfl, hb⟩; have q0 := below_step (w := W1) (by repeat (first | exact Below.refl _ _ | assumption | apply below_drew | apply pw_below_drewN)) hb; clear hb; have d0 := pw_cell_below q0 c0; have d1 := pw_cell_below q0 c1; have d2 : World.rangeAt _ w.heap.size 0 (nums .i8 L) := fun j v hv => pw_cell_below q0 (c2 j v hv))))
  have HB2 := Aside0.mk (below_step HB.out q0)
  clear q0 HB
  go_wp2_with fail
  go_region_held3 (fun w' => w'.rangeAt w.heap.size 0 (nums .i8 L) ∧ w'.cell? ⟨w.heap.size + 1, 0, none⟩ = some (.int .i16 wet) ∧ w'.cell? ⟨w.heap.size + 1, 1, none⟩ = some (.int .i8 thick)) (first | exact ⟨e2, e0, e1⟩ | go_keep_ranges) ((first | (go_at_call 14; refine (HTD.out _).mono ?_; rintro e w2 ⟨rfl, hb⟩; have q1 := below_step (w := w4) (by repeat (first | exact Below.refl _ _ | assumption | apply below_drew | apply pw_below_drewN)) hb; clear hb; have e0 := pw_cell_below q1 d0; have e1 := pw_cell_below q1 d1; have e2 : World.rangeAt _ w.heap.size 0 (nums .i8 L) := fun j v hv => pw_cell_below q1 (d2 j v hv)) | (go_at_call 19; refine (HTW.out _).mono ?_; rintro e w2 ⟨rfl, hb⟩; have q1 := below_step (w := w4) (by repeat (first | exact Below.refl _ _ | assumption | apply below_drew | apply pw_below_drewN)) hb; clear hb; have e0 := pw_cell_below q1 d0; have e1 := pw_cell_below q1 d1; have e2 : World.rangeAt _ w.heap.size 0 (nums .i8 L) := fun j v hv => pw_cell_below q1 (d2 j v hv)) | (go_at_call 31; refine (HY.out _).mono ?_; rintro e w6 ⟨rfl, hb⟩; have q1 := below_step (w := w4) (by repeat (first | exact Below.refl _ _ | assumption | apply below_drew | apply pw_below_drewN)) hb; clear hb; have e0 := pw_cell_below q1 d0; have e1 := pw_cell_below q1 d1; have e2 : World.rangeAt _ w.heap.size 0 (nums .i8 L) := fun j v hv => pw_cell_below q1 (d2 j v hv))))
  have HB3 := Aside0.mk (below_step HB2.out q1)
  go_wp2
  go_ret
  exact ⟨rfl, HB3.out⟩

end Go.Proofs.Ytkfbkmkaijonhaa.X
