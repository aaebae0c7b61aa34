/- Contracts of functions over blocks of cells: what each call answers, and what it leaves as it was. -/
import Derived.Test.YtkfbkmkaijonhaaMin
set_option linter.unusedVariables false
set_option linter.unusedSimpArgs false
namespace Go.Proofs.Ytkfbkmkaijonhaa.X
open Go.RowKit Go.Proofs.YtkfbkmkaijonhaaW.PrintWords Go.Proofs.YtkfbkmkaijonhaaW.PrintLast Go.Proofs.YtkfbkmkaijonhaaW.PrintMore
attribute [local go_sem] max2_int min2_int max_two min_two max_three min_three max_four min_four
set_option maxHeartbeats 8000000 in
set_option maxRecDepth 100000 in
theorem specTake_bad (L : List Int) (hL : L.length = 72) (h8 : i8All L) (wet thick : Int) (hw : wshR ⟨wet, thick⟩) (h : Int) (shade : Bool) (w : World) (hc : askedF L [⟨wet, thick⟩] (inR h 0 24) ≠ 0) :
    Calls Try.prog 23 #[(.agg (nums .i8 L).toArray), .agg #[.int .i16 wet, .int .i8 thick], .int .i64 h, .bool shade] w fun e w' => e = .returned (.tuple #[.int .i64 0, .int .i64 0, .int .i64 (askedF L [⟨wet, thick⟩] (inR h 0 24))]) ∧ Below w.heap.size w w' := by
  have hfr := fun W => spec_l03From.calls h _ W (from_f h)
  have HK := Aside0.mk (fun W A => asked_calls1 L hL h8 wet thick hw (inR h 0 24) w.heap.size W A)
  generalize askedF L [⟨wet, thick⟩] (inR h 0 24) = code at *
  have hc2 : (code != 0) = true := by simpa using hc
  clear h8 hw hL hc
  generalize inR h 0 24 = fine at *
  go_enter Try.func23, Try.ntmps23
  go_wp2_with fail
  have HA : Aside0 (Blk ((w.alloc (.cells (nums .i8 L).toArray 30)).alloc (.cells #[.int .i16 wet, .int .i8 thick] 39)) w.heap.size 30 (nums .i8 L)) := ⟨(Blk.new w _ _).alloc _⟩
  have HV : Aside0 (Blk ((w.alloc (.cells (nums .i8 L).toArray 30)).alloc (.cells #[.int .i16 wet, .int .i8 thick] 39)) (w.heap.size + 1) 39 [.int .i16 wet, .int .i8 thick]) := ⟨Blk.at_ (by simp) rfl⟩
  have HB : Aside0 (Below w.heap.size w ((w.alloc (.cells (nums .i8 L).toArray 30)).alloc (.cells #[.int .i16 wet, .int .i8 thick] 39))) := ⟨below_alloc (below_alloc (Below.refl _ _) _) _⟩
  generalize ((w.alloc (.cells (nums .i8 L).toArray 30)).alloc (.cells #[.int .i16 wet, .int .i8 thick] 39)) = W1 at HA HV HB ⊢
  have c0 := HV.out.cell 0 (v := .int .i16 wet) rfl
  have c1 := HV.out.cell 1 (v := .int .i8 thick) rfl
  go_region_held3 (fun w' => w'.cell? ⟨w.heap.size + 1, 0, none⟩ = some (.int .i16 wet) ∧ w'.cell? ⟨w.heap.size + 1, 1, none⟩ = some (.int .i8 thick)) (go_keep) ((first | (go_at_call 43; refine (hfr _).mono ?_; rintro e w' ⟨rfl, ⟨nd, rfl⟩⟩) | (go_at_call 42; refine (HK.out _ _ (by repeat (first | exact HA.out | apply Blk.drewN | apply Blk.drew | apply Blk.alloc)) (C_wash1 (by repeat (first | exact Blk.at_ (by simp) rfl | apply Blk.drewN | apply Blk.drew)))).mono ?_; rintro e w1 ⟨rfl, hb⟩; have HB1 := Aside0.mk (below_step (w := W1) (by repeat (first | exact Below.refl _ _ | apply pw_below_drewN | apply below_drew | apply below_alloc)) hb); clear hb; have HA1 := Aside0.mk (HA.out.below HB1.out); have HV1 := Aside0.mk (HV.out.below HB1.out); have d0 := HV1.out.cell 0 (v := .int .i16 wet) rfl; have d1 := HV1.out.cell 1 (v := .int .i8 thick) rfl)))
  all_goals
    go_wp2
    go_ret3
    exact ⟨rfl, below_step HB.out HB1.out⟩
set_option maxHeartbeats 8000000 in
set_option maxRecDepth 100000 in
theorem specTake_ok (L : List Int) (hL : L.length = 72) (h8 : i8All L) (hd : dayOk L = true) (wet thick : Int) (hw : washOk wet thick = true) (h : Nat) (hh : h ≤ 24) (shade : Bool) (w : World) :
    Calls Try.prog 23 #[(.agg (nums .i8 L).toArray), .agg #[.int .i16 wet, .int .i8 thick], .int .i64 h, .bool shade] w fun e w' => e = .returned (.tuple #[.int .i64 ((h : Int) + ((takeN (fun j => beh L thick shade h j wet) (24 - h)).1 : Int)), .int .i64 (takeN (fun j => beh L thick shade h j wet) (24 - h)).2, .int .i64 0]) ∧ Below w.heap.size w w' := by
  have hin : inR (h : Int) 0 24 = true := by rw [inR_iff]; omega
  have hfr := fun W => spec_l03From.calls h _ W (from_f h)
  rw [hin] at hfr
  have HK := Aside0.mk (fun W A => asked_calls1 L hL h8 wet thick (by have := washOk_iff.1 hw; refine ⟨⟨?_, ?_⟩, ?_, ?_⟩ <;> simp <;> omega) true w.heap.size W A)
  rw [asked_wash.2 ⟨hd, hw, rfl⟩] at HK
  obtain ⟨⟨hw0, hw1⟩, _⟩ := washOk_iff.1 hw
  have HBE := Aside0.mk (fun (n : Nat) (hn : h + n ≤ 24) W hW => l03Behind_calls L hL hd wet thick hw h n hn ((h : Int) + n) rfl shade w.heap.size W hW)
  obtain ⟨f, hf⟩ : ∃ f : Nat → Int, f = fun j => beh L thick shade h j wet := ⟨_, rfl⟩
  have hfq : ∀ q, beh L thick shade h q wet = f q := fun q => by rw [hf]
  have HF0 : Aside0 (f 0 = wet) := ⟨by rw [hf]; rfl⟩
  simp only [hfq] at HBE ⊢
  clear hf hfq
  have hix := takeN_idx (fun j => f j) (24 - h)
  obtain ⟨R1, R2, HFIN⟩ : ∃ R1 R2, Aside0 (R1 = (h : Int) + ((takeN (fun j => f j) (24 - h)).1 : Int) ∧ R2 = (takeN (fun j => f j) (24 - h)).2) := ⟨_, _, ⟨rfl, rfl⟩⟩
  rw [← HFIN.out.1, ← HFIN.out.2]
  clear h8 hw hL hd hix
  go_enter Try.func23, Try.ntmps23
  go_wp2_with fail
  have HA : Aside0 (Blk ((w.alloc (.cells (nums .i8 L).toArray 30)).alloc (.cells #[.int .i16 wet, .int .i8 thick] 39)) w.heap.size 30 (nums .i8 L)) := ⟨(Blk.new w _ _).alloc _⟩
  have HV : Aside0 (Blk ((w.alloc (.cells (nums .i8 L).toArray 30)).alloc (.cells #[.int .i16 wet, .int .i8 thick] 39)) (w.heap.size + 1) 39 [.int .i16 wet, .int .i8 thick]) := ⟨Blk.at_ (by simp) rfl⟩
  have HB : Aside0 (Below w.heap.size w ((w.alloc (.cells (nums .i8 L).toArray 30)).alloc (.cells #[.int .i16 wet, .int .i8 thick] 39))) := ⟨below_alloc (below_alloc (Below.refl _ _) _) _⟩
  generalize ((w.alloc (.cells (nums .i8 L).toArray 30)).alloc (.cells #[.int .i16 wet, .int .i8 thick] 39)) = W1 at HA HV HB ⊢
  have c0 := HV.out.cell 0 (v := .int .i16 wet) rfl
  have c1 := HV.out.cell 1 (v := .int .i8 thick) rfl
  go_region_held3 (fun w' => w'.cell? ⟨w.heap.size + 1, 0, none⟩ = some (.int .i16 wet) ∧ w'.cell? ⟨w.heap.size + 1, 1, none⟩ = some (.int .i8 thick)) (go_keep) ((first | (go_at_call 43; refine (hfr _).mono ?_; rintro e w' ⟨rfl, ⟨nd, rfl⟩⟩) | (go_at_call 42; refine (HK.out _ _ (by repeat (first | exact HA.out | apply Blk.drewN | apply Blk.drew | apply Blk.alloc)) (C_wash1 (by repeat (first | exact Blk.at_ (by simp) rfl | apply Blk.drewN | apply Blk.drew)))).mono ?_; rintro e w1 ⟨rfl, hb⟩; have HB1 := Aside0.mk (below_step (w := W1) (by repeat (first | exact Below.refl _ _ | apply pw_below_drewN | apply below_drew | apply below_alloc)) hb); clear hb; have HA1 := Aside0.mk (HA.out.below HB1.out); have HV1 := Aside0.mk (HV.out.below HB1.out); have d0 := HV1.out.cell 0 (v := .int .i16 wet) rfl; have d1 := HV1.out.cell 1 (v := .int .i8 thick) rfl)))
  all_goals
    clear c0 c1
    go_wp2_with fail
    go_loopw [12, 13, 14, 15] (fun va vb v9 vx w' => ∃ q : Nat, q ≤ 24 - h ∧ va = .int .i64 ((h : Int) + ((takeN (fun j => f j) q).1 : Int)) ∧ vb = .int .i64 (takeN (fun j => f j) q).2 ∧ v9 = .int .i64 (((h + q : Nat) : Int) + 1) ∧ Aside0 (Blk w' w.heap.size 30 (nums .i8 L)) ∧ Aside0 (Blk w' (w.heap.size + 1) 39 [.int .i16 wet, .int .i8 thick]) ∧ Aside0 (Below W1.heap.size W1 w')) (fun _ _ v9 _ _ => 25 - (intOf v9).toNat)
    case atStart => exact ⟨0, by omega, by simp [takeN], by rw [← HF0.out]; rfl, by go_num, HA1, HV1, HB1⟩
    case round =>
      clear HA1 HV1 HB1 d0 d1
      obtain ⟨q, hq, rfl, rfl, rfl, HA1, HV1, HB1⟩ := hrel
      have d0 := HV1.out.cell 0 (v := .int .i16 wet) rfl
      have d1 := HV1.out.cell 1 (v := .int .i8 thick) rfl
      by_cases hlt : q < 24 - h
      · have HC1 := Aside0.mk (HBE.out (q + 1) (by omega))
        have HT : Aside0 (takeN (fun j => f j) (q + 1) = if f (q + 1) < (takeN (fun j => f j) q).2 then (q + 1, f (q + 1)) else takeN (fun j => f j) q) := ⟨by rw [takeN]⟩
        have hix := takeN_idx (fun j => f j) q
        generalize f (q + 1) = x at HC1 HT
        generalize takeN (fun j => f j) q = t at HT hix ⊢
        obtain ⟨b, l⟩ := t
        simp only at HT hix ⊢
        have HAR : Aside0 ((h : Int) + ((q + 1 : Nat) : Int) = ((h + q : Nat) : Int) + 1) := ⟨by omega⟩
        rw [HAR.out] at HC1
        obtain ⟨m, hm⟩ : ∃ m, m = h + q := ⟨_, rfl⟩
        rw [← hm] at HC1 HAR ⊢
        have HM := Aside0.mk hm
        have hm24 : m < 24 := by omega
        clear hm
        by_cases hx : x < l
        · have HT2 : Aside0 (takeN (fun j => f j) (q + 1) = (q + 1, x)) := ⟨by rw [HT.out, if_pos hx]⟩
          clear HT
          go_wp2_with (go_at_call 48; refine (HC1.out _ HA1.out).mono ?_; rintro e w2 ⟨rfl, hb⟩; have HB2 := Aside0.mk (below_step HB1.out hb); have HA2 := Aside0.mk (HA1.out.below hb); have HV2 := Aside0.mk (HV1.out.below hb); clear hb)
          go_roundw
          case rel => exact ⟨q + 1, by omega, by rw [HT2.out, HAR.out], by rw [HT2.out], by have := HM.out; congr 1; omega, HA2, HV2, HB2⟩
          case measure => simp [intOf] <;> omega
        · have HT2 : Aside0 (takeN (fun j => f j) (q + 1) = (b, l)) := ⟨by rw [HT.out, if_neg hx]⟩
          clear HT
          go_wp2_with (go_at_call 48; refine (HC1.out _ HA1.out).mono ?_; rintro e w2 ⟨rfl, hb⟩; have HB2 := Aside0.mk (below_step HB1.out hb); have HA2 := Aside0.mk (HA1.out.below hb); have HV2 := Aside0.mk (HV1.out.below hb); clear hb)
          go_roundw
          case rel => exact ⟨q + 1, by omega, by rw [HT2.out], by rw [HT2.out], by have := HM.out; congr 1; omega, HA2, HV2, HB2⟩
          case measure => simp [intOf] <;> omega
      · obtain rfl : q = 24 - h := by omega
        have HF := HFIN
        clear HFIN
        have hix := takeN_idx (fun j => f j) (24 - h)
        generalize takeN (fun j => f j) (24 - h) = t at HF hix ⊢
        go_wp2
        go_ret3
        exact ⟨by rw [HF.out.1, HF.out.2]; rfl, below_step HB.out HB1.out⟩
set_option maxHeartbeats 8000000 in
set_option maxRecDepth 100000 in
theorem implTake_bad (L : List Int) (hL : L.length = 72) (h8 : i8All L) (wet thick : Int) (hw : wshR ⟨wet, thick⟩) (h : Int) (shade : Bool) (w : World) (hc : codeF L [⟨wet, thick⟩] h 24 ≠ 0) :
    Calls Try.prog 24 #[(.agg (nums .i8 L).toArray), .agg #[.int .i16 wet, .int .i8 thick], .int .i64 h, .bool shade] w fun e w' => e = .returned (.tuple #[.int .i64 0, .int .i64 0, .int .i64 (codeF L [⟨wet, thick⟩] h 24)]) ∧ Below w.heap.size w w' := by
  have HC := Aside0.mk (fun W A => dayCode1 L hL h8 wet thick hw A h 24 W)
  generalize codeF L [⟨wet, thick⟩] h 24 = code at *
  have hc2 : (code != 0) = true := by simpa using hc
  have HB0 : Aside0 (Blk ((w.alloc (.cells (nums .i8 L).toArray 30)).alloc (.cells #[.int .i16 wet, .int .i8 thick] 39)) w.heap.size 30 (nums .i8 L)) := ⟨(Blk.new w _ _).alloc _⟩
  have HV0 : Aside0 (Blk ((w.alloc (.cells (nums .i8 L).toArray 30)).alloc (.cells #[.int .i16 wet, .int .i8 thick] 39)) (w.heap.size + 1) 39 [.int .i16 wet, .int .i8 thick]) := ⟨Blk.at_ (by simp) rfl⟩
  have HN : Aside0 ((nums .i8 L).length = 72) := ⟨by rw [nums_len]; exact hL⟩
  have HS : Aside0 (((nums .i8 L).drop 0).take 72 = nums .i8 L) := ⟨by rw [List.drop_zero, List.take_of_length_le (by rw [HN.out]; exact Nat.le_refl _)]⟩
  clear hL h8 hw hc
  go_enter Try.func24, Try.ntmps24
  go_wp2_with (first | (refine wl_load (by rfl) 30 _ (by rfl) w.heap.size 0 (by rfl) 30 72 _ _ HB0.out HS.out HN.out _ Try.underlying30 (by rfl) (by kernel_rfl) ?_) | (go_at_call 45; refine (HC.out _ _ (C_wash1 (Blk.at_ (by simp) rfl))).mono ?_; rintro e w1 ⟨rfl, hb⟩; have HB1 := Aside0.mk (below_step (below_alloc (below_alloc (below_alloc (Below.refl w.heap.size w) _) _) _) hb); have HA1 := Aside0.mk ((HB0.out.alloc _).below hb); have HV1 := Aside0.mk ((HV0.out.alloc _).below hb); have d0 := HV1.out.cell 0 (v := .int .i16 wet) rfl; have d1 := HV1.out.cell 1 (v := .int .i8 thick) rfl; clear hb))
  go_ret3
  exact ⟨rfl, HB1.out⟩
set_option maxHeartbeats 8000000 in
set_option maxRecDepth 100000 in
theorem implTake_ok (L : List Int) (hL : L.length = 72) (h8 : i8All L) (hd : dayOk L = true) (wet thick : Int) (hw : washOk wet thick = true) (h : Nat) (hh : h ≤ 24) (shade : Bool) (w : World) :
    Calls Try.prog 24 #[(.agg (nums .i8 L).toArray), .agg #[.int .i16 wet, .int .i8 thick], .int .i64 h, .bool shade] w fun e w' => e = .returned (.tuple #[.int .i64 ((h : Int) + ((takeN (fun j => beh L thick shade h j wet) (24 - h)).1 : Int)), .int .i64 (takeN (fun j => beh L thick shade h j wet) (24 - h)).2, .int .i64 0]) ∧ Below w.heap.size w w' := by
  have HC := Aside0.mk (fun W A => dayCode1 L hL h8 wet thick (by have := washOk_iff.1 hw; refine ⟨⟨?_, ?_⟩, ?_, ?_⟩ <;> simp <;> omega) A h 24 W)
  rw [code_eq, asked_wash.2 ⟨hd, hw, (by simp [inR]; omega)⟩] at HC
  have HB0 : Aside0 (Blk ((w.alloc (.cells (nums .i8 L).toArray 30)).alloc (.cells #[.int .i16 wet, .int .i8 thick] 39)) w.heap.size 30 (nums .i8 L)) := ⟨(Blk.new w _ _).alloc _⟩
  have HV0 : Aside0 (Blk ((w.alloc (.cells (nums .i8 L).toArray 30)).alloc (.cells #[.int .i16 wet, .int .i8 thick] 39)) (w.heap.size + 1) 39 [.int .i16 wet, .int .i8 thick]) := ⟨Blk.at_ (by simp) rfl⟩
  have HN : Aside0 ((nums .i8 L).length = 72) := ⟨by rw [nums_len]; exact hL⟩
  have HS : Aside0 (((nums .i8 L).drop 0).take 72 = nums .i8 L) := ⟨by rw [List.drop_zero, List.take_of_length_le (by rw [HN.out]; exact Nat.le_refl _)]⟩
  obtain ⟨n, hn⟩ : ∃ n, n = 24 - h := ⟨_, rfl⟩
  have HCO := Aside0.mk (fun W => course_list L hL hd wet thick hw h hh n hn shade W)
  rw [← hn]
  obtain ⟨f, hf⟩ : ∃ f : Nat → Int, f = fun j => beh L thick shade h j wet := ⟨_, rfl⟩
  have hfq : ∀ q, beh L thick shade h q wet = f q := fun q => by rw [hf]
  simp only [hfq] at HCO ⊢
  clear hf hfq
  have hix := takeN_idx (fun j => f j) n
  have HMN := Aside0.mk (fun A c W hC => min_calls (fun j => f j) n (by omega) A c W hC)
  have HIX := Aside0.mk (fun A c W hc hC => index_list (takeN (fun j => f j) n).2 (fun j => f j) n (by omega) A c hc W hC)
  rw [take_ix] at HIX
  generalize takeN (fun j => f j) n = t at HMN HIX hix ⊢
  obtain ⟨b, l⟩ := t
  simp only at HMN HIX hix ⊢
  have hn24 : n ≤ 24 := by omega
  clear h8 hw hL hd hn
  go_enter Try.func24, Try.ntmps24
  go_wp2_with (first | (refine wl_load (by rfl) 30 _ (by rfl) w.heap.size 0 (by rfl) 30 72 _ _ HA1.out HS.out HN.out _ Try.underlying30 (by rfl) (by kernel_rfl) ?_) | (refine wl_load (by rfl) 30 _ (by rfl) w.heap.size 0 (by rfl) 30 72 _ _ HB0.out HS.out HN.out _ Try.underlying30 (by rfl) (by kernel_rfl) ?_) | (go_at_call 45; refine (HC.out _ _ (C_wash1 (Blk.at_ (by simp) rfl))).mono ?_; rintro e w1 ⟨rfl, hb⟩; have HB1 := Aside0.mk (below_step (below_alloc (below_alloc (below_alloc (Below.refl w.heap.size w) _) _) _) hb); have HA1 := Aside0.mk ((HB0.out.alloc _).below hb); have HV1 := Aside0.mk ((HV0.out.alloc _).below hb); have d0 := HV1.out.cell 0 (v := .int .i16 wet) rfl; have d1 := HV1.out.cell 1 (v := .int .i8 thick) rfl; clear hb) | (go_at_call 49; refine (HCO.out _).mono ?_; rintro e w2 ⟨A, c, rfl, hc, hC, hb⟩; have HB2 := Aside0.mk (below_step HB1.out hb); have HCC := Aside0.mk hC; have HCL := Aside0.mk hc; clear hb hc hC) | (go_at_call 54; refine (HMN.out _ _ _ HCC.out).mono ?_; rintro e w3 ⟨rfl, ⟨nd, rfl⟩⟩) | (go_at_call 55; refine (HIX.out _ _ _ HCL.out (Kd.C_below HCC.out (pw_below_drewN (Below.refl _ _) _))).mono ?_; rintro e w4 ⟨rfl, ⟨nd2, rfl⟩⟩))
  go_ret3
  exact ⟨rfl, by repeat (first | exact HB2.out | apply pw_below_drewN | apply below_drew)⟩
set_option maxHeartbeats 8000000 in
set_option maxRecDepth 100000 in
theorem lawTake_calls (L : List Int) (hL : L.length = 72) (h8 : i8All L) (wet thick : Int) (hw : wshR ⟨wet, thick⟩) (h : Int) (shade : Bool) (w : World) :
    Calls Try.prog 7 #[(.agg (nums .i8 L).toArray), .agg #[.int .i16 wet, .int .i8 thick], .int .i64 h, .bool shade] w fun e w' => e = .returned (.bool true) ∧ Below w.heap.size w w' := by
  have HTD := Aside0.mk (fun W => toDay_calls L hL W)
  have HTW := Aside0.mk (fun W => laws_toWash.calls wet thick wet thick W rfl)
  have hu := Try.underlying25
  have hlen : (nums .i8 L).length = 72 := by rw [nums_len]; exact hL
  have hi : (Try.prog.info? 25).map (·.size) = some (nums .i8 L).length := by rw [hlen]; kernel_rfl
  have hone : ∀ v ∈ nums .i8 L, v.oneCell' = true := by simp [nums, Value.oneCell']
  obtain ⟨r0, r1, r2, HX, HY⟩ : ∃ r0 r1 r2, Aside0 (∀ W, Calls Try.prog 23 #[(.agg (nums .i8 L).toArray), .agg #[.int .i16 wet, .int .i8 thick], .int .i64 h, .bool shade] W fun e w' => e = .returned (.tuple #[.int .i64 r0, .int .i64 r1, .int .i64 r2]) ∧ Below W.heap.size W w') ∧ Aside0 (∀ W, Calls Try.prog 24 #[(.agg (nums .i8 L).toArray), .agg #[.int .i16 wet, .int .i8 thick], .int .i64 h, .bool shade] W fun e w' => e = .returned (.tuple #[.int .i64 r0, .int .i64 r1, .int .i64 r2]) ∧ Below W.heap.size W w') := by
    by_cases hc : askedF L [⟨wet, thick⟩] (inR h 0 24) = 0
    · obtain ⟨hd, hw2, hf⟩ := asked_wash.1 hc
      rw [inR_iff] at hf
      obtain ⟨m, rfl⟩ := Int.eq_ofNat_of_zero_le hf.1
      exact ⟨_, _, _, ⟨fun W => specTake_ok L hL h8 hd wet thick hw2 m (by omega) shade W⟩, ⟨fun W => implTake_ok L hL h8 hd wet thick hw2 m (by omega) shade W⟩⟩
    · exact ⟨_, _, _, ⟨fun W => specTake_bad L hL h8 wet thick hw h shade W hc⟩, ⟨fun W => by
        have := implTake_bad L hL h8 wet thick hw h shade W (by rw [code_24]; exact hc)
        rw [code_24] at this
        exact this⟩⟩
  clear hL h8 hw
  go_enter Try.func7, Try.ntmps7
  go_wp2_with fail
  have HA : Aside0 (Blk ((w.alloc (.cells (nums .i8 L).toArray 25)).alloc (.cells #[.int .i16 wet, .int .i8 thick] 37)) w.heap.size 25 (nums .i8 L)) := ⟨(Blk.new w _ _).alloc _⟩
  have HV : Aside0 (Blk ((w.alloc (.cells (nums .i8 L).toArray 25)).alloc (.cells #[.int .i16 wet, .int .i8 thick] 37)) (w.heap.size + 1) 37 [.int .i16 wet, .int .i8 thick]) := ⟨Blk.at_ (by simp) rfl⟩
  have HB : Aside0 (Below w.heap.size w ((w.alloc (.cells (nums .i8 L).toArray 25)).alloc (.cells #[.int .i16 wet, .int .i8 thick] 37))) := ⟨below_alloc (below_alloc (Below.refl _ _) _) _⟩
  generalize ((w.alloc (.cells (nums .i8 L).toArray 25)).alloc (.cells #[.int .i16 wet, .int .i8 thick] 37)) = W1 at HA HV HB ⊢
  have c2 : W1.rangeAt w.heap.size 0 (nums .i8 L) := HA.out.rangeAt 0 (by rw [List.drop_zero, List.take_length])
  have c0 := HV.out.cell 0 (v := .int .i16 wet) rfl
  have c1 := HV.out.cell 1 (v := .int .i8 thick) rfl
  clear HA HV
  go_region_held3 (fun w' => w'.rangeAt w.heap.size 0 (nums .i8 L) ∧ w'.cell? ⟨w.heap.size + 1, 0, none⟩ = some (.int .i16 wet) ∧ w'.cell? ⟨w.heap.size + 1, 1, none⟩ = some (.int .i8 thick)) (first | exact ⟨d2, d0, d1⟩ | go_keep_ranges) ((first | (go_at_call 14; refine (HTD.out _).mono ?_; rintro e w2 ⟨rfl, hb⟩; have q0 := below_step (w := W1) (by repeat (first | exact Below.refl _ _ | assumption | apply below_drew | apply pw_below_drewN)) hb; clear hb; have d0 := pw_cell_below q0 c0; have d1 := pw_cell_below q0 c1; have d2 : World.rangeAt _ w.heap.size 0 (nums .i8 L) := fun j v hv => pw_cell_below q0 (c2 j v hv)) | (go_at_call 19; refine (HTW.out _).mono ?_; rintro e w2 ⟨rfl, hb⟩; have q0 := below_step (w := W1) (by repeat (first | exact Below.refl _ _ | assumption | apply below_drew | apply pw_below_drewN)) hb; clear hb; have d0 := pw_cell_below q0 c0; have d1 := pw_cell_below q0 c1; have d2 : World.rangeAt _ w.heap.size 0 (nums .i8 L) := fun j v hv => pw_cell_below q0 (c2 j v hv)) | (go_at_call 23; refine (HX.out _).mono ?_; rintro e w4 ⟨rfl, hb⟩; have q0 := below_step (w := W1) (by repeat (first | exact Below.refl _ _ | assumption | apply below_drew | apply pw_below_drewN)) hb; clear hb; have d0 := pw_cell_below q0 c0; have d1 := pw_cell_below q0 c1; have d2 : World.rangeAt _ w.heap.size 0 (nums .i8 L) := fun j v hv => pw_cell_below q0 (c2 j v hv))))
  have HB2 := Aside0.mk (below_step HB.out q0)
  clear q0 HB
  go_wp2_with fail
  go_region_held3 (fun w' => w'.rangeAt w.heap.size 0 (nums .i8 L) ∧ w'.cell? ⟨w.heap.size + 1, 0, none⟩ = some (.int .i16 wet) ∧ w'.cell? ⟨w.heap.size + 1, 1, none⟩ = some (.int .i8 thick)) (first | exact ⟨e2, e0, e1⟩ | go_keep_ranges) ((first | (go_at_call 14; refine (HTD.out _).mono ?_; rintro e w2 ⟨rfl, hb⟩; have q1 := below_step (w := w4) (by repeat (first | exact Below.refl _ _ | assumption | apply below_drew | apply pw_below_drewN)) hb; clear hb; have e0 := pw_cell_below q1 d0; have e1 := pw_cell_below q1 d1; have e2 : World.rangeAt _ w.heap.size 0 (nums .i8 L) := fun j v hv => pw_cell_below q1 (d2 j v hv)) | (go_at_call 19; refine (HTW.out _).mono ?_; rintro e w2 ⟨rfl, hb⟩; have q1 := below_step (w := w4) (by repeat (first | exact Below.refl _ _ | assumption | apply below_drew | apply pw_below_drewN)) hb; clear hb; have e0 := pw_cell_below q1 d0; have e1 := pw_cell_below q1 d1; have e2 : World.rangeAt _ w.heap.size 0 (nums .i8 L) := fun j v hv => pw_cell_below q1 (d2 j v hv)) | (go_at_call 24; refine (HY.out _).mono ?_; rintro e w6 ⟨rfl, hb⟩; have q1 := below_step (w := w4) (by repeat (first | exact Below.refl _ _ | assumption | apply below_drew | apply pw_below_drewN)) hb; clear hb; have e0 := pw_cell_below q1 d0; have e1 := pw_cell_below q1 d1; have e2 : World.rangeAt _ w.heap.size 0 (nums .i8 L) := fun j v hv => pw_cell_below q1 (d2 j v hv))))
  have HB3 := Aside0.mk (below_step HB2.out q1)
  go_wp2
  go_ret
  exact ⟨rfl, HB3.out⟩

end Go.Proofs.Ytkfbkmkaijonhaa.X
