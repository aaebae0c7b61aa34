/- Contracts of functions over blocks of cells: what each call answers, and what it leaves as it was. -/
import Derived.Test.YtkfbkmkaijonhaaMin
import Derived.Test.YtkfbkmkaijonhaaDryx
import Derived.Test.YtkfbkmkaijonhaaMarkQ
import Derived.Test.YtkfbkmkaijonhaaDry6
set_option linter.unusedVariables false
set_option linter.unusedSimpArgs false
namespace Go.Proofs.Ytkfbkmkaijonhaa.X
open Go.RowKit Go.Proofs.YtkfbkmkaijonhaaW.PrintWords Go.Proofs.YtkfbkmkaijonhaaW.PrintLast Go.Proofs.YtkfbkmkaijonhaaW.PrintMore
attribute [local go_sem] max2_int min2_int max_two min_two max_three min_three max_four min_four
set_option maxHeartbeats 8000000 in
set_option maxRecDepth 100000 in
theorem specCrs_bad (L : List Int) (hL : L.length = 72) (h8 : i8All L) (wet thick : Int) (hw : wshR ⟨wet, thick⟩) (h : Int) (shade : Bool) (w : World) (hc : askedF L [⟨wet, thick⟩] (inR h 0 24) ≠ 0) :
    Calls Try.prog 25 #[(.agg (nums .i8 L).toArray), .agg #[.int .i16 wet, .int .i8 thick], .int .i64 h, .bool shade] w fun e w' => ∃ v, e = .returned (.tuple #[v, .int .i64 (askedF L [⟨wet, thick⟩] (inR h 0 24))]) ∧ Kd.R (Kd.int .i64) 2 w' w.heap.size (fun _ => True) v ([] : List Int) ∧ Below w.heap.size w w' := by
  have hfr := fun W => spec_l03From.calls h _ W (from_f h)
  have HK := Aside0.mk (fun W A => asked_calls1 L hL h8 wet thick hw (inR h 0 24) w.heap.size W A)
  generalize askedF L [⟨wet, thick⟩] (inR h 0 24) = code at *
  have hc2 : (code != 0) = true := by simpa using hc
  clear h8 hw hL hc
  generalize inR h 0 24 = fine at *
  go_enter Try.func25, Try.ntmps25
  go_wp2_with fail
  have HA : Aside0 (Blk (((w.alloc (.cells (nums .i8 L).toArray 30)).alloc (.cells #[.int .i16 wet, .int .i8 thick] 39)).alloc (.cells #[] 2)) w.heap.size 30 (nums .i8 L)) := ⟨((Blk.new w _ _).alloc _).alloc _⟩
  have HV : Aside0 (Blk (((w.alloc (.cells (nums .i8 L).toArray 30)).alloc (.cells #[.int .i16 wet, .int .i8 thick] 39)).alloc (.cells #[] 2)) (w.heap.size + 1) 39 [.int .i16 wet, .int .i8 thick]) := ⟨(Blk.at_ (by simp) rfl).alloc _⟩
  have HB : Aside0 (Below w.heap.size w (((w.alloc (.cells (nums .i8 L).toArray 30)).alloc (.cells #[.int .i16 wet, .int .i8 thick] 39)).alloc (.cells #[] 2))) := ⟨below_alloc (below_alloc (below_alloc (Below.refl _ _) _) _) _⟩
  have HR : Aside0 (Kd.R (Kd.int .i64) 2 (((w.alloc (.cells (nums .i8 L).toArray 30)).alloc (.cells #[.int .i16 wet, .int .i8 thick] 39)).alloc (.cells #[] 2)) w.heap.size (fun _ => True) (.slice (some ⟨w.heap.size + 1 + 1, 0, none⟩) 0 0) ([] : List Int)) := ⟨by
    have ho := own_lit ((w.alloc (.cells (nums .i8 L).toArray 30)).alloc (.cells #[.int .i16 wet, .int .i8 thick] 39)) w.heap.size 2 .i64 [] (by simp; omega) (by simp)
    have hr : Kd.R (Kd.int .i64) 2 _ w.heap.size (fun _ => True) _ ([] : List Int) := Kd.R_of_own (enc := Value.int .i64) (h1 := fun _ => rfl) (ok := fun _ => True) ho (fun _ _ => trivial)
    simpa [show nums .i64 [] = [] from rfl] using hr⟩
  generalize hv10 : Value.slice (some ⟨w.heap.size + 1 + 1, 0, none⟩) 0 0 = v10 at *
  generalize (((w.alloc (.cells (nums .i8 L).toArray 30)).alloc (.cells #[.int .i16 wet, .int .i8 thick] 39)).alloc (.cells #[] 2)) = W1 at HA HV HB HR ⊢
  have c0 := HV.out.cell 0 (v := .int .i16 wet) rfl
  have c1 := HV.out.cell 1 (v := .int .i8 thick) rfl
  go_region_held3 (fun w' => w'.cell? ⟨w.heap.size + 1, 0, none⟩ = some (.int .i16 wet) ∧ w'.cell? ⟨w.heap.size + 1, 1, none⟩ = some (.int .i8 thick)) (go_keep) ((first | (go_at_call 43; refine (hfr _).mono ?_; rintro e w' ⟨rfl, ⟨nd, rfl⟩⟩) | (go_at_call 42; refine (HK.out _ _ (by repeat (first | exact HA.out | apply Blk.drewN | apply Blk.drew | apply Blk.alloc)) (C_wash1 (by repeat (first | exact Blk.at_ (by simp) rfl | apply Blk.drewN | apply Blk.drew)))).mono ?_; rintro e w1 ⟨rfl, hb⟩; have HB1 := Aside0.mk (below_step (w := W1) (by repeat (first | exact Below.refl _ _ | apply pw_below_drewN | apply below_drew | apply below_alloc)) hb); clear hb; have HA1 := Aside0.mk (HA.out.below HB1.out); have HV1 := Aside0.mk (HV.out.below HB1.out); have d0 := HV1.out.cell 0 (v := .int .i16 wet) rfl; have d1 := HV1.out.cell 1 (v := .int .i8 thick) rfl)))
  all_goals
    have HR1 := Aside0.mk (Kd.R_below HR.out HB1.out)
    go_wp2
    go_ret2
    exact ⟨_, rfl, HR1.out, below_step HB.out HB1.out⟩
set_option maxHeartbeats 8000000 in
set_option maxRecDepth 100000 in
theorem specCrs_ok (L : List Int) (hL : L.length = 72) (h8 : i8All L) (hd : dayOk L = true) (wet thick : Int) (hw : washOk wet thick = true) (h : Nat) (hh : h ≤ 24) (shade : Bool) (w : World) :
    Calls Try.prog 25 #[(.agg (nums .i8 L).toArray), .agg #[.int .i16 wet, .int .i8 thick], .int .i64 h, .bool shade] w fun e w' => ∃ v, e = .returned (.tuple #[v, .int .i64 0]) ∧ Kd.R (Kd.int .i64) 2 w' w.heap.size (fun _ => True) v (crs L thick shade h wet (24 - h)) ∧ Below w.heap.size w w' := by
  have hin : inR (h : Int) 0 24 = true := by rw [inR_iff]; omega
  have hfr := fun W => spec_l03From.calls h _ W (from_f h)
  rw [hin] at hfr
  have HK := Aside0.mk (fun W A => asked_calls1 L hL h8 wet thick (by have := washOk_iff.1 hw; refine ⟨⟨?_, ?_⟩, ?_, ?_⟩ <;> simp <;> omega) true w.heap.size W A)
  rw [asked_wash.2 ⟨hd, hw, rfl⟩] at HK
  have HBH := Aside0.mk (fun (n : Nat) (hn : h + n ≤ 24) (t1 : Int) ht W hB => l03Behind_calls L hL hd wet thick hw h n hn t1 ht shade w.heap.size W hB)
  obtain ⟨cr, hcr⟩ : ∃ cr : Nat → List Int, cr = crs L thick shade h wet := ⟨_, rfl⟩
  obtain ⟨f, hf⟩ : ∃ f : Nat → Int, f = fun n => beh L thick shade h n wet := ⟨_, rfl⟩
  have HF := Aside0.mk (fun q : Nat => (show beh L thick shade h q wet = f q by rw [hf]))
  have HS := Aside0.mk (fun q : Nat => (show cr (q + 1) = cr q ++ [f (q + 1)] by rw [hcr, hf]; exact crs_snoc _ _ _ _ _ _))
  have HLn := Aside0.mk (fun q : Nat => (show (cr q).length = q by rw [hcr]; exact crs_length _ _ _ _ _ _))
  have HZ := Aside0.mk (show cr 0 = [] by rw [hcr]; rfl)
  rw [← hcr]
  clear h8 hw hL hd hin hcr hf
  go_enter Try.func25, Try.ntmps25
  go_wp2_with fail
  have HA : Aside0 (Blk (((w.alloc (.cells (nums .i8 L).toArray 30)).alloc (.cells #[.int .i16 wet, .int .i8 thick] 39)).alloc (.cells #[] 2)) w.heap.size 30 (nums .i8 L)) := ⟨((Blk.new w _ _).alloc _).alloc _⟩
  have HV : Aside0 (Blk (((w.alloc (.cells (nums .i8 L).toArray 30)).alloc (.cells #[.int .i16 wet, .int .i8 thick] 39)).alloc (.cells #[] 2)) (w.heap.size + 1) 39 [.int .i16 wet, .int .i8 thick]) := ⟨(Blk.at_ (by simp) rfl).alloc _⟩
  have HB : Aside0 (Below w.heap.size w (((w.alloc (.cells (nums .i8 L).toArray 30)).alloc (.cells #[.int .i16 wet, .int .i8 thick] 39)).alloc (.cells #[] 2))) := ⟨below_alloc (below_alloc (below_alloc (Below.refl _ _) _) _) _⟩
  have HR : Aside0 (Kd.R (Kd.int .i64) 2 (((w.alloc (.cells (nums .i8 L).toArray 30)).alloc (.cells #[.int .i16 wet, .int .i8 thick] 39)).alloc (.cells #[] 2)) w.heap.size (fun _ => True) (.slice (some ⟨w.heap.size + 1 + 1, 0, none⟩) 0 0) ([] : List Int)) := ⟨by
    have ho := own_lit ((w.alloc (.cells (nums .i8 L).toArray 30)).alloc (.cells #[.int .i16 wet, .int .i8 thick] 39)) w.heap.size 2 .i64 [] (by simp; omega) (by simp)
    have hr : Kd.R (Kd.int .i64) 2 _ w.heap.size (fun _ => True) _ ([] : List Int) := Kd.R_of_own (enc := Value.int .i64) (h1 := fun _ => rfl) (ok := fun _ => True) ho (fun _ _ => trivial)
    simpa [show nums .i64 [] = [] from rfl] using hr⟩
  generalize hv10 : Value.slice (some ⟨w.heap.size + 1 + 1, 0, none⟩) 0 0 = v10 at *
  generalize (((w.alloc (.cells (nums .i8 L).toArray 30)).alloc (.cells #[.int .i16 wet, .int .i8 thick] 39)).alloc (.cells #[] 2)) = W1 at HA HV HB HR ⊢
  have c0 := HV.out.cell 0 (v := .int .i16 wet) rfl
  have c1 := HV.out.cell 1 (v := .int .i8 thick) rfl
  go_region_held3 (fun w' => w'.cell? ⟨w.heap.size + 1, 0, none⟩ = some (.int .i16 wet) ∧ w'.cell? ⟨w.heap.size + 1, 1, none⟩ = some (.int .i8 thick)) (go_keep) ((first | (go_at_call 43; refine (hfr _).mono ?_; rintro e w' ⟨rfl, ⟨nd, rfl⟩⟩) | (go_at_call 42; refine (HK.out _ _ (by repeat (first | exact HA.out | apply Blk.drewN | apply Blk.drew | apply Blk.alloc)) (C_wash1 (by repeat (first | exact Blk.at_ (by simp) rfl | apply Blk.drewN | apply Blk.drew)))).mono ?_; rintro e w1 ⟨rfl, hb⟩; have HB1 := Aside0.mk (below_step (w := W1) (by repeat (first | exact Below.refl _ _ | apply pw_below_drewN | apply below_drew | apply below_alloc)) hb); clear hb; have HA1 := Aside0.mk (HA.out.below HB1.out); have HV1 := Aside0.mk (HV.out.below HB1.out); have d0 := HV1.out.cell 0 (v := .int .i16 wet) rfl; have d1 := HV1.out.cell 1 (v := .int .i8 thick) rfl)))
  all_goals
    have HR1 := Aside0.mk (Kd.R_below HR.out HB1.out)
    have HB2 := Aside0.mk (below_step HB.out HB1.out)
    clear c0 c1 d0 d1 HR HB HB1 HA HV hv10
    rw [← HZ.out] at HR1
    go_wp2
    go_loopw [10, 12] (fun v10 v12 w' => ∃ q : Nat, h ≤ q ∧ q ≤ 24 ∧ v12 = .int .i64 ((q : Int) + 1) ∧ Aside0 (Kd.R (Kd.int .i64) 2 w' w.heap.size (fun _ => True) v10 (cr (q - h))) ∧ Aside0 (Blk w' w.heap.size 30 (nums .i8 L)) ∧ Aside0 (Blk w' (w.heap.size + 1) 39 [.int .i16 wet, .int .i8 thick]) ∧ Aside0 (Below w.heap.size w w')) (fun _ v12 _ => 26 - (intOf v12).toNat)
    case atStart => exact ⟨h, by omega, by omega, by go_num, ⟨by rw [Nat.sub_self]; exact HR1.out⟩, HA1, HV1, HB2⟩
    case round =>
      clear HR1 HA1 HV1 HB2
      obtain ⟨q, hq0, hq1, rfl, HR, HA, HV, HB⟩ := hrel
      by_cases hlt : q < 24
      · have HC := Aside0.mk (fun W hB => HBH.out (q + 1 - h) (by omega) ((q : Int) + 1) (by omega) W hB)
        rw [HF.out] at HC
        have HXS : Aside0 (cr (q + 1 - h) = cr (q - h) ++ [f (q + 1 - h)]) := ⟨by rw [show q + 1 - h = q - h + 1 by omega]; exact HS.out _⟩
        have HXL : Aside0 ((cr (q - h)).length ≤ 24) := ⟨by rw [HLn.out]; omega⟩
        generalize cr (q - h) = xs at *
        generalize f (q + 1 - h) = u at *
        have c0 := HV.out.cell 0 (v := .int .i16 wet) rfl
        have c1 := HV.out.cell 1 (v := .int .i8 thick) rfl
        go_wp2_with (first
          | (go_at_call 48; refine (HC.out _ (by repeat (first | exact HA.out | apply Blk.drewN | apply Blk.drew | apply Blk.alloc))).mono ?_; rintro e w2 ⟨rfl, hb⟩; have HB2 := Aside0.mk (below_step HB.out hb); have HA2 := Aside0.mk (HA.out.below hb); have HV2 := Aside0.mk (HV.out.below hb); have HR2 := Aside0.mk (Kd.R_below HR.out hb); clear hb HA HV HR HB)
          | ((with_reducible refine gate_builtin (b := .append) (xs := #[.tmp 29, .tmp 35]) rfl ?_); at_builtin; refine Kd.R_append (Kd.int .i64) (w0 := w) w.heap.size rfl (.tmp 29) (.tmp 35) 47 2 (.int .i64 0) 8 rfl Try.underlying47 (by kernel_rfl) rfl (by decide) (by decide) _ xs u [.int .i64 u] (fun _ => True) (fun _ => False) rfl rfl rfl (fun _ hk => hk.elim) (fun _ _ => trivial) HR2.out HB2.out (by have := HB2.out.size; exact this) (by have := HXL.out; omega) ?_; intro v5 w5 hr5 hb5 hg5 _; have HA5 := Aside0.mk (HA2.out.grown hg5 (Kd.R_ne HR2.out HA2.out (by decide))); have HV5 := Aside0.mk (HV2.out.grown hg5 (Kd.R_ne HR2.out HV2.out (by decide))); have HR5 := Aside0.mk hr5; have HB5 := Aside0.mk hb5; clear hr5 hb5 hg5 HA2 HV2 HR2 HB2))
        go_roundw
        case rel => exact ⟨q + 1, by omega, by omega, by go_num, ⟨by rw [HXS.out]; exact HR5.out⟩, HA5, HV5, HB5⟩
        case measure => simp [intOf] <;> omega
      · obtain rfl : q = 24 := by omega
        go_wp2
        go_ret2
        exact ⟨_, rfl, HR.out, HB.out⟩
set_option maxHeartbeats 8000000 in
set_option maxRecDepth 100000 in
theorem implCrs_bad (L : List Int) (hL : L.length = 72) (h8 : i8All L) (wet thick : Int) (hw : wshR ⟨wet, thick⟩) (h : Int) (shade : Bool) (w : World) (hc : codeF L [⟨wet, thick⟩] h 24 ≠ 0) :
    Calls Try.prog 26 #[(.agg (nums .i8 L).toArray), .agg #[.int .i16 wet, .int .i8 thick], .int .i64 h, .bool shade] w fun e w' => ∃ v, e = .returned (.tuple #[v, .int .i64 (codeF L [⟨wet, thick⟩] h 24)]) ∧ Kd.Q (Kd.int .i64) 2 w' w.heap.size (fun _ => True) v ([] : List Int) ∧ Below w.heap.size w w' := by
  have HC := Aside0.mk (fun W A => dayCode1 L hL h8 wet thick hw A h 24 W)
  generalize codeF L [⟨wet, thick⟩] h 24 = code at *
  have hc2 : (code != 0) = true := by simpa using hc
  have HB0 : Aside0 (Blk ((w.alloc (.cells (nums .i8 L).toArray 30)).alloc (.cells #[.int .i16 wet, .int .i8 thick] 39)) w.heap.size 30 (nums .i8 L)) := ⟨(Blk.new w _ _).alloc _⟩
  have HV0 : Aside0 (Blk ((w.alloc (.cells (nums .i8 L).toArray 30)).alloc (.cells #[.int .i16 wet, .int .i8 thick] 39)) (w.heap.size + 1) 39 [.int .i16 wet, .int .i8 thick]) := ⟨Blk.at_ (by simp) rfl⟩
  have HN : Aside0 ((nums .i8 L).length = 72) := ⟨by rw [nums_len]; exact hL⟩
  have HS : Aside0 (((nums .i8 L).drop 0).take 72 = nums .i8 L) := ⟨by rw [List.drop_zero, List.take_of_length_le (by rw [HN.out]; exact Nat.le_refl _)]⟩
  clear hL h8 hw hc
  go_enter Try.func26, Try.ntmps26
  go_wp2_with (first | (refine wl_load (by rfl) 30 _ (by rfl) w.heap.size 0 (by rfl) 30 72 _ _ HB0.out HS.out HN.out _ Try.underlying30 (by rfl) (by kernel_rfl) ?_) | (refine wl_load (by rfl) 30 _ (by rfl) w.heap.size 0 (by rfl) 30 72 _ _ HA1.out HS.out HN.out _ Try.underlying30 (by rfl) (by kernel_rfl) ?_) | (go_at_call 45; refine (HC.out _ _ (C_wash1 (Blk.at_ (by simp) rfl))).mono ?_; rintro e w1 ⟨rfl, hb⟩; have HB1 := Aside0.mk (below_step (below_alloc (below_alloc (below_alloc (Below.refl w.heap.size w) _) _) _) hb); have HA1 := Aside0.mk ((HB0.out.alloc _).below hb); have HV1 := Aside0.mk ((HV0.out.alloc _).below hb); have d0 := HV1.out.cell 0 (v := .int .i16 wet) rfl; have d1 := HV1.out.cell 1 (v := .int .i8 thick) rfl; clear hb))
  go_ret2
  exact ⟨_, rfl, Kd.Q_nil _ _ _ _ _, HB1.out⟩
set_option maxHeartbeats 8000000 in
set_option maxRecDepth 100000 in
theorem implCrs_ok (L : List Int) (hL : L.length = 72) (h8 : i8All L) (hd : dayOk L = true) (wet thick : Int) (hw : washOk wet thick = true) (h : Nat) (hh : h ≤ 24) (shade : Bool) (w : World) :
    Calls Try.prog 26 #[(.agg (nums .i8 L).toArray), .agg #[.int .i16 wet, .int .i8 thick], .int .i64 h, .bool shade] w fun e w' => ∃ v, e = .returned (.tuple #[v, .int .i64 0]) ∧ Kd.Q (Kd.int .i64) 2 w' w.heap.size (fun _ => True) v (crs L thick shade h wet (24 - h)) ∧ Below w.heap.size w w' := by
  have HC := Aside0.mk (fun W A => dayCode1 L hL h8 wet thick (by have := washOk_iff.1 hw; refine ⟨⟨?_, ?_⟩, ?_, ?_⟩ <;> simp <;> omega) A h 24 W)
  rw [code_24, asked_wash.2 ⟨hd, hw, (by simp [inR]; omega)⟩] at HC
  have HB0 : Aside0 (Blk ((w.alloc (.cells (nums .i8 L).toArray 30)).alloc (.cells #[.int .i16 wet, .int .i8 thick] 39)) w.heap.size 30 (nums .i8 L)) := ⟨(Blk.new w _ _).alloc _⟩
  have HV0 : Aside0 (Blk ((w.alloc (.cells (nums .i8 L).toArray 30)).alloc (.cells #[.int .i16 wet, .int .i8 thick] 39)) (w.heap.size + 1) 39 [.int .i16 wet, .int .i8 thick]) := ⟨Blk.at_ (by simp) rfl⟩
  have HN : Aside0 ((nums .i8 L).length = 72) := ⟨by rw [nums_len]; exact hL⟩
  have HS : Aside0 (((nums .i8 L).drop 0).take 72 = nums .i8 L) := ⟨by rw [List.drop_zero, List.take_of_length_le (by rw [HN.out]; exact Nat.le_refl _)]⟩
  have HCO : Aside0 (∀ W, Calls Try.prog 49 #[(.agg (nums .i8 L).toArray), .agg #[.int .i16 wet, .int .i8 thick], .int .i64 (h : Int), .bool shade] W fun e w' => ∃ g n c, e = .returned (.slice (some ⟨g, 0, none⟩) (n + 1) c) ∧ n + 1 ≤ c ∧ Aside0 (Kd.Q (Kd.int .i64) 2 w' W.heap.size (fun _ => True) (.slice (if c = 1 then some ⟨g, 0, none⟩ else some ⟨g, 1, none⟩) n (c - 1)) (crs L thick shade h wet (24 - h))) ∧ Below W.heap.size W w') := ⟨fun W => (course_calls L hL hd wet thick hw h hh shade W).mono (by
    rintro e w' ⟨v, rfl, hR, hb⟩
    obtain ⟨g, c, rfl, _, _, _⟩ := Kd.R_form hR (by rw [courseF_length]; omega)
    have hc := (Kd.Q_reads' (Kd.Q_of_R hR)).2.1
    have hq := Kd.Q_drop (k := 1) (Kd.Q_of_R hR) (by rw [courseF_length]; omega)
    rw [crs_drop] at hq
    rw [courseF_length] at hq hc ⊢
    exact ⟨g, 24 - h, c, rfl, hc, ⟨hq⟩, hb⟩)⟩
  clear hL h8 hd hw
  generalize crs L thick shade h wet (24 - h) = l at *
  go_enter Try.func26, Try.ntmps26
  go_wp2_with (first | (refine wl_load (by rfl) 30 _ (by rfl) w.heap.size 0 (by rfl) 30 72 _ _ HB0.out HS.out HN.out _ Try.underlying30 (by rfl) (by kernel_rfl) ?_) | (refine wl_load (by rfl) 30 _ (by rfl) w.heap.size 0 (by rfl) 30 72 _ _ HA1.out HS.out HN.out _ Try.underlying30 (by rfl) (by kernel_rfl) ?_) | (go_at_call 45; refine (HC.out _ _ (C_wash1 (Blk.at_ (by simp) rfl))).mono ?_; rintro e w1 ⟨rfl, hb⟩; have HB1 := Aside0.mk (below_step (below_alloc (below_alloc (below_alloc (Below.refl w.heap.size w) _) _) _) hb); have HA1 := Aside0.mk ((HB0.out.alloc _).below hb); have HV1 := Aside0.mk ((HV0.out.alloc _).below hb); have d0 := HV1.out.cell 0 (v := .int .i16 wet) rfl; have d1 := HV1.out.cell 1 (v := .int .i8 thick) rfl; clear hb) | (go_at_call 49; refine (HCO.out _).mono ?_; rintro e w2 ⟨g, n, c, rfl, hc, HQ, hb⟩; have HB2 := Aside0.mk (below_step HB1.out hb); have HQ2 := Aside0.mk (Kd.Q_lower HQ.out (by have := HB1.out.size; omega : w.heap.size ≤ _)); clear hb HQ))
  all_goals
    have HQ3 := HQ2.out
    first | (have e1 : c = 1 := (by assumption); subst e1; rw [if_pos rfl] at HQ3) | rw [if_neg (by assumption)] at HQ3
    have HQ4 := Aside0.mk HQ3
    clear HQ3
    go_ret2
    exact ⟨_, rfl, HQ4.out, HB2.out⟩

end Go.Proofs.Ytkfbkmkaijonhaa.X
