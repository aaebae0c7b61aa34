/- Contracts of functions over blocks of cells: what each call answers, and what it leaves as it was. -/
import Derived.Test.YtkfbkmkaijonhaaCrs
import Derived.Test.YtkfbkmkaijonhaaWst
set_option linter.unusedVariables false
set_option linter.unusedSimpArgs false
namespace Go.Proofs.Ytkfbkmkaijonhaa.X
open Go.RowKit Go.Proofs.YtkfbkmkaijonhaaW.PrintWords Go.Proofs.YtkfbkmkaijonhaaW.PrintLast Go.Proofs.YtkfbkmkaijonhaaW.PrintMore
attribute [local go_sem] max2_int min2_int max_two min_two max_three min_three max_four min_four
theorem Q_readsN {e : Nat} {w : World} {base : Nat} {ok : Nat → Prop} {A : Option Addr} {n c : Nat} {xs : List Int} (h : Kd.Q (Kd.int .i64) e w base ok (.slice A n c) xs) : Kd.C (Kd.int .i64) w A n xs := by
  obtain ⟨h1, _, h2⟩ := Kd.Q_reads' h
  rw [h1]
  exact h2
set_option maxHeartbeats 8000000 in
set_option maxRecDepth 100000 in
theorem lawCrs_calls (L : List Int) (hL : L.length = 72) (h8 : i8All L) (wet thick : Int) (hw : wshR ⟨wet, thick⟩) (h : Int) (shade : Bool) (w : World) :
    Calls Try.prog 8 #[(.agg (nums .i8 L).toArray), .agg #[.int .i16 wet, .int .i8 thick], .int .i64 h, .bool shade] w fun e w' => e = .returned (.bool true) ∧ Below w.heap.size w w' := by
  have HTD := Aside0.mk (fun W => toDay_calls L hL W)
  have HTW := Aside0.mk (fun W => laws_toWash.calls wet thick wet thick W rfl)
  have hu := Try.underlying25
  have hlen : (nums .i8 L).length = 72 := by rw [nums_len]; exact hL
  have hi : (Try.prog.info? 25).map (·.size) = some (nums .i8 L).length := by rw [hlen]; kernel_rfl
  have hone : ∀ v ∈ nums .i8 L, v.oneCell' = true := by simp [nums, Value.oneCell']
  obtain ⟨l, code, hl24, HX0, HY0⟩ : ∃ l code, l.length ≤ 24 ∧ Aside0 (∀ W, Calls Try.prog 25 #[(.agg (nums .i8 L).toArray), .agg #[.int .i16 wet, .int .i8 thick], .int .i64 h, .bool shade] W fun e w' => ∃ v, e = .returned (.tuple #[v, .int .i64 code]) ∧ Kd.R (Kd.int .i64) 2 w' W.heap.size (fun _ => True) v l ∧ Below W.heap.size W w') ∧ Aside0 (∀ W, Calls Try.prog 26 #[(.agg (nums .i8 L).toArray), .agg #[.int .i16 wet, .int .i8 thick], .int .i64 h, .bool shade] W fun e w' => ∃ v, e = .returned (.tuple #[v, .int .i64 code]) ∧ Kd.Q (Kd.int .i64) 2 w' W.heap.size (fun _ => True) v l ∧ Below W.heap.size W w') := by
    by_cases hc : askedF L [⟨wet, thick⟩] (inR h 0 24) = 0
    · obtain ⟨hd, hw2, hf⟩ := asked_wash.1 hc
      simp only [inR, Bool.and_eq_true, decide_eq_true_eq] at hf
      obtain ⟨m, rfl⟩ := Int.eq_ofNat_of_zero_le hf.1
      exact ⟨crs L thick shade m wet (24 - m), 0, by rw [crs_length]; omega, ⟨fun W => specCrs_ok L hL h8 hd wet thick hw2 m (by omega) shade W⟩, ⟨fun W => implCrs_ok L hL h8 hd wet thick hw2 m (by omega) shade W⟩⟩
    · exact ⟨[], _, by simp, ⟨fun W => specCrs_bad L hL h8 wet thick hw h shade W hc⟩, ⟨fun W => by
        have := implCrs_bad L hL h8 wet thick hw h shade W (by rw [code_24]; exact hc)
        rw [code_24] at this
        exact this⟩⟩
  obtain ⟨n, hn⟩ : ∃ n, n = l.length := ⟨_, rfl⟩
  obtain ⟨l2, hl2⟩ : ∃ l2, l2 = seqL 1 n := ⟨_, rfl⟩
  have hl2n : l2.length = n := by rw [hl2]; exact seqL_length _ _
  obtain ⟨m, hm⟩ : ∃ m : Int, m = 1 + (n : Int) := ⟨_, rfl⟩
  have HX : Aside0 (∀ W, Calls Try.prog 25 #[(.agg (nums .i8 L).toArray), .agg #[.int .i16 wet, .int .i8 thick], .int .i64 h, .bool shade] W fun e w' => ∃ A c, e = .returned (.tuple #[.slice A n c, .int .i64 code]) ∧ n ≤ c ∧ Kd.C (Kd.int .i64) w' A n l ∧ Below W.heap.size W w') := ⟨fun W => (HX0.out W).mono (by
    rintro e w' ⟨v, rfl, hR, hb⟩
    obtain ⟨A, c, rfl, hc, hC⟩ := Kd.R_reads hR
    rw [← hn] at hc hC ⊢
    exact ⟨A, c, rfl, hc, hC, hb⟩)⟩
  have HY : Aside0 (∀ W, Calls Try.prog 26 #[(.agg (nums .i8 L).toArray), .agg #[.int .i16 wet, .int .i8 thick], .int .i64 h, .bool shade] W fun e w' => ∃ A c, e = .returned (.tuple #[.slice A n c, .int .i64 code]) ∧ n ≤ c ∧ Kd.Q (Kd.int .i64) 2 w' W.heap.size (fun _ => True) (.slice A n c) l ∧ Below W.heap.size W w') := ⟨fun W => (HY0.out W).mono (by
    rintro e w' ⟨v, rfl, hR, hb⟩
    obtain ⟨A, c, rfl, hc⟩ := Kd.Q_slice hR
    rw [← hn] at hc hR ⊢
    exact ⟨A, c, rfl, hc, hR, hb⟩)⟩
  have HEQ : Aside0 (∀ A c A' c' W, Kd.C (Kd.int .i64) W A n l → n ≤ c → Kd.C (Kd.int .i64) W A' n l → n ≤ c' → Calls Try.prog 27 #[.slice A n c, .slice A' n c'] W fun e w' => e = .returned (.bool true) ∧ Below W.heap.size W w') := ⟨fun A c A' c' W h1 h2 h3 h4 => by
    rw [hn] at h1 h2 h3 h4 ⊢
    exact (laws_eqInt64S.calls (l.length + 1) A c l A' c' l true W h1 h2 h3 h4 (eqInt64S_f (by omega) (by omega))).mono (fun e w' hh => ⟨hh.1, below_drawn0 hh.2⟩)⟩
  have HHD : Aside0 (∀ A c W, Kd.C (Kd.int .i64) W A n l2 → n ≤ c → Calls Try.prog 29 #[.slice A n c, .int .i64 1] W fun e w' => e = .returned (.int .i64 m) ∧ Below W.heap.size W w') := ⟨fun A c W h1 h2 => by
    have h3 := heldS_f 1 n (by omega) (by omega) (by omega) (k := n + 1) (by omega)
    rw [← hl2, ← hm] at h3
    rw [← hl2n] at h1 h2 ⊢
    exact (laws_heldInt64S.calls (n + 1) A c l2 1 m W h1 h2 h3).mono (fun e w' hh => ⟨hh.1, below_drawn0 hh.2⟩)⟩
  have HMK : Aside0 (∀ (w0 W : World) A c, Below w0.heap.size w0 W → Kd.Q (Kd.int .i64) 2 W w0.heap.size (fun _ => True) (.slice A n c) l → Calls Try.prog 28 #[.slice A n c, .int .i64 1] W fun e w' => e = .returned (.int .i64 m) ∧ Kd.Q (Kd.int .i64) 2 w' w0.heap.size (fun _ => True) (.slice A n c) l2 ∧ Below w0.heap.size w0 w') := ⟨fun w0 W A c h1 h2 => by
    have h3 := markS_f 1 l (by omega) (by omega) (by omega) (k := n + 1) (by omega)
    rw [← hn, ← hl2, ← hm] at h3
    exact (markQ_calls (n + 1) (fun _ => True) _ l 1 m l2 w0 W h1 h2 h3).mono (fun e w' hh => ⟨hh.1, Kd.Q_mono hh.2.1 (fun _ _ => trivial), hh.2.2.1⟩)⟩
  have hm0 : ¬ (m < 0) := by omega
  have hm1 : decide (m < 0) = false := decide_eq_false hm0
  clear hL h8 hw HX0 HY0 hl2 hl2n hm hn hm0
  go_enter Try.func8, Try.ntmps8
  go_wp2_with fail
  have HA : Aside0 (Blk ((w.alloc (.cells (nums .i8 L).toArray 25)).alloc (.cells #[.int .i16 wet, .int .i8 thick] 37)) w.heap.size 25 (nums .i8 L)) := ⟨(Blk.new w _ _).alloc _⟩
  have HV : Aside0 (Blk ((w.alloc (.cells (nums .i8 L).toArray 25)).alloc (.cells #[.int .i16 wet, .int .i8 thick] 37)) (w.heap.size + 1) 37 [.int .i16 wet, .int .i8 thick]) := ⟨Blk.at_ (by simp) rfl⟩
  have HB : Aside0 (Below w.heap.size w ((w.alloc (.cells (nums .i8 L).toArray 25)).alloc (.cells #[.int .i16 wet, .int .i8 thick] 37))) := ⟨below_alloc (below_alloc (Below.refl _ _) _) _⟩
  generalize ((w.alloc (.cells (nums .i8 L).toArray 25)).alloc (.cells #[.int .i16 wet, .int .i8 thick] 37)) = W1 at HA HV HB ⊢
  have c2 : W1.rangeAt w.heap.size 0 (nums .i8 L) := HA.out.rangeAt 0 (by rw [List.drop_zero, List.take_length])
  have c0 := HV.out.cell 0 (v := .int .i16 wet) rfl
  have c1 := HV.out.cell 1 (v := .int .i8 thick) rfl
  clear HA HV
  go_region_held3 (fun w' => w'.rangeAt w.heap.size 0 (nums .i8 L) ∧ w'.cell? ⟨w.heap.size + 1, 0, none⟩ = some (.int .i16 wet) ∧ w'.cell? ⟨w.heap.size + 1, 1, none⟩ = some (.int .i8 thick)) (first | exact ⟨d2, d0, d1⟩ | go_keep_ranges) ((first | (go_at_call 14; refine (HTD.out _).mono ?_; rintro e w2 ⟨rfl, hb⟩; have q0 := below_step (w := W1) (by repeat (first | exact Below.refl _ _ | assumption | apply below_drew | apply pw_below_drewN)) hb; clear hb; have d0 := pw_cell_below q0 c0; have d1 := pw_cell_below q0 c1; have d2 : World.rangeAt _ w.heap.size 0 (nums .i8 L) := fun j v hv => pw_cell_below q0 (c2 j v hv)) | (go_at_call 19; refine (HTW.out _).mono ?_; rintro e w2 ⟨rfl, hb⟩; have q0 := below_step (w := W1) (by repeat (first | exact Below.refl _ _ | assumption | apply below_drew | apply pw_below_drewN)) hb; clear hb; have d0 := pw_cell_below q0 c0; have d1 := pw_cell_below q0 c1; have d2 : World.rangeAt _ w.heap.size 0 (nums .i8 L) := fun j v hv => pw_cell_below q0 (c2 j v hv)) | (go_at_call 25; refine (HX.out _).mono ?_; rintro e w4 ⟨A4, c4, rfl, hn4, hc4, hb⟩; have HC4 := Aside0.mk hc4; clear hc4; have q0 := below_step (w := W1) (by repeat (first | exact Below.refl _ _ | assumption | apply below_drew | apply pw_below_drewN)) hb; clear hb; have d0 := pw_cell_below q0 c0; have d1 := pw_cell_below q0 c1; have d2 : World.rangeAt _ w.heap.size 0 (nums .i8 L) := fun j v hv => pw_cell_below q0 (c2 j v hv))))
  have HB2 := Aside0.mk (below_step HB.out q0)
  clear q0 HB
  go_wp2_with fail
  go_region_held3 (fun w' => w'.rangeAt w.heap.size 0 (nums .i8 L) ∧ w'.cell? ⟨w.heap.size + 1, 0, none⟩ = some (.int .i16 wet) ∧ w'.cell? ⟨w.heap.size + 1, 1, none⟩ = some (.int .i8 thick)) (first | exact ⟨e2, e0, e1⟩ | go_keep_ranges) ((first | (go_at_call 14; refine (HTD.out _).mono ?_; rintro e w2 ⟨rfl, hb⟩; have q1 := below_step (w := w4) (by repeat (first | exact Below.refl _ _ | assumption | apply below_drew | apply pw_below_drewN)) hb; clear hb; have e0 := pw_cell_below q1 d0; have e1 := pw_cell_below q1 d1; have e2 : World.rangeAt _ w.heap.size 0 (nums .i8 L) := fun j v hv => pw_cell_below q1 (d2 j v hv)) | (go_at_call 19; refine (HTW.out _).mono ?_; rintro e w2 ⟨rfl, hb⟩; have q1 := below_step (w := w4) (by repeat (first | exact Below.refl _ _ | assumption | apply below_drew | apply pw_below_drewN)) hb; clear hb; have e0 := pw_cell_below q1 d0; have e1 := pw_cell_below q1 d1; have e2 : World.rangeAt _ w.heap.size 0 (nums .i8 L) := fun j v hv => pw_cell_below q1 (d2 j v hv)) | (go_at_call 26; refine (HY.out _).mono ?_; rintro e w6 ⟨A6, c6, rfl, hn6, hq, hb⟩; have HQ6 := Aside0.mk (Kd.Q_lower (base' := w4.heap.size) hq (Below.size (w := w4) (by repeat (first | exact Below.refl _ _ | assumption | apply below_drew | apply pw_below_drewN)))); clear hq; have q1 := below_step (w := w4) (by repeat (first | exact Below.refl _ _ | assumption | apply below_drew | apply pw_below_drewN)) hb; clear hb; have e0 := pw_cell_below q1 d0; have e1 := pw_cell_below q1 d1; have e2 : World.rangeAt _ w.heap.size 0 (nums .i8 L) := fun j v hv => pw_cell_below q1 (d2 j v hv))))
  have QB6 := Aside0.mk q1
  clear q1
  go_wp2_with (first | (go_at_call 27; refine (HEQ.out _ _ _ _ _ (Q_readsN HQ6.out) hn6 (Kd.C_below HC4.out QB6.out) hn4).mono ?_; rintro e w7 ⟨rfl, hb⟩; have HQ7 := Aside0.mk (Kd.Q_below HQ6.out hb); have QB7 := Aside0.mk (below_step QB6.out hb); clear hb HQ6 QB6) | (go_at_call 28; refine (HMK.out w4 _ _ _ QB7.out HQ7.out).mono ?_; rintro e w8 ⟨rfl, hq, hb⟩; have HQ8 := Aside0.mk hq; have QB8 := Aside0.mk hb; clear hb hq HQ7 QB7) | (go_at_call 29; refine (HHD.out _ _ _ (Q_readsN HQ8.out) hn6).mono ?_; rintro e w9 ⟨rfl, hb⟩; have HQ9 := Aside0.mk (Kd.Q_below HQ8.out hb); have QB9 := Aside0.mk (below_step QB8.out hb); clear hb HQ8 QB8))
  have f0 := pw_cell_below QB9.out d0
  have f1 := pw_cell_below QB9.out d1
  have f2 : World.rangeAt w9 w.heap.size 0 (nums .i8 L) := fun j v hv => pw_cell_below QB9.out (d2 j v hv)
  go_region_held3 (fun w' => w'.rangeAt w.heap.size 0 (nums .i8 L) ∧ w'.cell? ⟨w.heap.size + 1, 0, none⟩ = some (.int .i16 wet) ∧ w'.cell? ⟨w.heap.size + 1, 1, none⟩ = some (.int .i8 thick)) (first | exact ⟨g2, g0, g1⟩ | go_keep_ranges) ((first | (go_at_call 14; refine (HTD.out _).mono ?_; rintro e w2 ⟨rfl, hb⟩; have q2 := below_step (w := w9) (by repeat (first | exact Below.refl _ _ | assumption | apply below_drew | apply pw_below_drewN)) hb; clear hb; have g0 := pw_cell_below q2 f0; have g1 := pw_cell_below q2 f1; have g2 : World.rangeAt _ w.heap.size 0 (nums .i8 L) := fun j v hv => pw_cell_below q2 (f2 j v hv)) | (go_at_call 19; refine (HTW.out _).mono ?_; rintro e w2 ⟨rfl, hb⟩; have q2 := below_step (w := w9) (by repeat (first | exact Below.refl _ _ | assumption | apply below_drew | apply pw_below_drewN)) hb; clear hb; have g0 := pw_cell_below q2 f0; have g1 := pw_cell_below q2 f1; have g2 : World.rangeAt _ w.heap.size 0 (nums .i8 L) := fun j v hv => pw_cell_below q2 (f2 j v hv)) | (go_at_call 26; refine (HY.out _).mono ?_; rintro e w10 ⟨A10, c10, rfl, hn10, hq, hb⟩; have HQ10 := Aside0.mk (Kd.Q_lower (base' := w9.heap.size) hq (Below.size (w := w9) (by repeat (first | exact Below.refl _ _ | assumption | apply below_drew | apply pw_below_drewN)))); clear hq; have q2 := below_step (w := w9) (by repeat (first | exact Below.refl _ _ | assumption | apply below_drew | apply pw_below_drewN)) hb; clear hb; have g0 := pw_cell_below q2 f0; have g1 := pw_cell_below q2 f1; have g2 : World.rangeAt _ w.heap.size 0 (nums .i8 L) := fun j v hv => pw_cell_below q2 (f2 j v hv))))
  have QB10 := Aside0.mk (below_step QB9.out q2)
  have HG10 := Aside0.mk (Kd.Q_below HQ9.out q2)
  clear q2
  go_wp2_with (first | (go_at_call 27; refine (HEQ.out _ _ _ _ _ (Q_readsN HQ10.out) hn10 (Kd.C_below HC4.out QB10.out) hn4).mono ?_; rintro e w11 ⟨rfl, hb⟩; have HQ11 := Aside0.mk (Kd.Q_below HG10.out hb); have QB11 := Aside0.mk (below_step QB10.out hb); clear hb HG10 QB10) | (go_at_call 29; refine (HHD.out _ _ _ (Q_readsN HQ11.out) hn6).mono ?_; rintro e w12 ⟨rfl, hb⟩; have QB12 := Aside0.mk (below_step QB11.out hb); clear hb QB11))
  go_ret
  exact ⟨rfl, below_step HB2.out QB12.out⟩

end Go.Proofs.Ytkfbkmkaijonhaa.X
