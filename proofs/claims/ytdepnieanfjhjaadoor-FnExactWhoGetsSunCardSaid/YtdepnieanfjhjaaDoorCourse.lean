/- Contracts of functions, and plain facts: what each call answers, and what it leaves as it was. -/
import Derived.Test.YtdepnieanfjhjaaDoorImpl1
import Derived.Test.YtdepnieanfjhjaaDoorX14
set_option linter.unusedVariables false
set_option linter.unusedSimpArgs false
namespace Go.Proofs.YtdepnieanfjhjaaDoor.X
open Go.RowKit Go.Proofs.YtdepnieanfjhjaaDoorW.PrintWords Go.Proofs.YtdepnieanfjhjaaDoorW.PrintLast Go.Proofs.YtdepnieanfjhjaaDoorW.PrintMore
attribute [local go_sem] max2_int min2_int max_two min_two max_three min_three max_four min_four
set_option maxHeartbeats 8000000 in
set_option maxRecDepth 100000 in
theorem course_calls (L : List Int) (hL : L.length = 72) (hd : dayOk L = true) (wet thick : Int) (hw : washOk wet thick = true) (h : Nat) (hh : h ≤ 24) (shade : Bool) (w : World) :
    Calls Tryd.prog 29 #[(.agg (nums .i8 L).toArray), .agg #[.int .i16 wet, .int .i8 thick], .int .i64 h, .bool shade] w fun e w' => ∃ v, e = .returned v ∧ Kd.R (Kd.int .i64) 2 w' w.heap.size (fun _ => True) v (courseF L thick shade h wet (24 - h)) ∧ Below w.heap.size w w' := by
  obtain ⟨⟨hw0, hw1⟩, ht0, ht1⟩ := washOk_iff.1 hw
  clear hw
  have HL := Aside0.mk hL
  have HD := Aside0.mk hd
  have hc := fun (x y z a b : Int) (s : Bool) (r : Int) (W : World) H => impl_Weather_hour.calls x y z a b s r W H
  clear hL hd
  go_enter Tryd.func29, Tryd.ntmps29
  go_wp2
  go_loopw [9, 10] (fun v9 v10 w' => ∃ q : Nat, h ≤ q ∧ q ≤ 24 ∧ v10 = .int .i64 q ∧ Aside0 (Blk w' w.heap.size 33 (nums .i8 L)) ∧ Aside0 (Blk w' (w.heap.size + 1) 52 [.int .i16 wet, .int .i8 thick]) ∧ Aside0 (Kd.R (Kd.int .i64) 2 w' w.heap.size (fun _ => True) v9 (courseF L thick shade h wet (q - h))) ∧ Aside0 (Below w.heap.size w w')) (fun _ v10 _ => 24 - (intOf v10).toNat)
  case atStart => exact ⟨h, by omega, by omega, rfl, ⟨((Blk.new w _ _).alloc _).alloc _⟩, ⟨(Blk.at_ (by simp) rfl).alloc _⟩, ⟨by
    rw [Nat.sub_self]
    have ho := own_lit ((w.alloc (.cells (nums .i8 L).toArray 33)).alloc (.cells #[.int .i16 wet, .int .i8 thick] 52)) w.heap.size 2 .i64 [wet] (by simp; omega) (by simp)
    have hr : Kd.R (Kd.int .i64) 2 _ w.heap.size (fun _ => True) _ [wet] := Kd.R_of_own (enc := Value.int .i64) (h1 := fun _ => rfl) (ok := fun _ => True) ho (fun _ _ => trivial)
    simpa [courseF, beh, nums, List.range_succ] using hr⟩, ⟨below_alloc (below_alloc (below_alloc (Below.refl _ _) _) _) _⟩⟩
  case round =>
    obtain ⟨q, hq0, hq1, rfl, HA, HV, HR, HB⟩ := hrel
    by_cases hlt : q < 24
    · obtain ⟨x, y, z, HS, HX⟩ := seg_letters (L := L) (k := q) (by have := HL.out; omega)
      have hbr := beh_range (shade := shade) HD.out ht0 (q - h) h wet hw0 hw1
      have HE := Aside0.mk (beh_at L thick shade hq0 wet)
      have HXS : Aside0 (courseF L thick shade h wet (q + 1 - h) = courseF L thick shade h wet (q - h) ++ [beh L thick shade h (q + 1 - h) wet]) := ⟨by rw [show q + 1 - h = q - h + 1 by omega]; exact courseF_snoc _ _ _ _ _ _⟩
      have hlen : (courseF L thick shade h wet (q - h)).length = (q - h) + 1 := courseF_length _ _ _ _ _ _
      have hgt := courseF_get L thick shade h wet (q - h) (q - h) (Nat.le_refl _)
      generalize beh L thick shade h (q - h) wet = u at HE hbr hgt
      have HF : Aside0 (impl_Weather_hour.f x y z u thick shade = some (beh L thick shade h (q + 1 - h) wet)) := ⟨by obtain ⟨rfl, rfl, rfl⟩ := HX.out; rw [HE.out]; exact hour_f shade hbr.1 hbr.2 ht0 (dayOk_get HD.out _) (dayOk_get HD.out _) (dayOk_get HD.out _)⟩
      generalize beh L thick shade h (q + 1 - h) wet = u1 at HF HXS
      generalize courseF L thick shade h wet (q - h) = xs at HR HXS hlen hgt
      obtain ⟨m, hm⟩ : ∃ m, m = q - h := ⟨_, rfl⟩
      rw [← hm] at hlen hgt
      have HXL : Aside0 (xs.length ≤ 25) := ⟨by omega⟩
      obtain ⟨g, cap, rfl, hgb, hgl, _⟩ := Kd.R_form HR.out (by omega)
      rw [hlen] at HR ⊢
      have hC := (Kd.R_reads' HR.out).2.2
      obtain ⟨ad, e, hx⟩ := Kd.at_int hC (m : Int) (by omega) (by omega)
      injection e with e
      subst e
      rw [add_plain, Int.toNat_natCast, show rd xs (m : Int) = u by rw [← hgt]; rfl] at hx
      have c0 : wr.drew.cell? ⟨w.heap.size + 1, 1, none⟩ = some (.int .i8 thick) := HV.out.cell 1 rfl
      have c1 := HA.out.drew.rangeAt (q * 3) (seg := [.int .i8 x, .int .i8 y, .int .i8 z]) HS.out 0 _ rfl
      have c2 := HA.out.drew.rangeAt (q * 3) (seg := [.int .i8 x, .int .i8 y, .int .i8 z]) HS.out 1 _ rfl
      have c3 := HA.out.drew.rangeAt (q * 3) (seg := [.int .i8 x, .int .i8 y, .int .i8 z]) HS.out 2 _ rfl
      have c4 : wr.drew.cell? ⟨g, m, none⟩ = some (.int .i64 u) := hx
      rw [Nat.add_zero] at c1
      have i0 : (0 : Int) ≤ (q : Int) := by omega
      have i1 : (q : Int) < 24 := by omega
      have HT : Aside0 (wrap64 thick = thick) := ⟨w64 (by omega) (by omega)⟩
      have HM : Aside0 (wrap64 (m : Int) = m) := ⟨w64 (by omega) (by omega)⟩
      have i4 : (0 : Int) ≤ (m : Int) := by omega
      have i5 : (m : Int) < (m : Int) + 1 := by omega
      have hm25 : m ≤ 24 := by omega
      clear hx hC HE hgt hlen hm hgb hgl HX HS HL HD
      go_wp2_with fail
      refine start_ (n := 18) (S := fun w' => w'.cell? ⟨w.heap.size + 1, 1, none⟩ = some (.int .i8 thick) ∧ w'.cell? ⟨w.heap.size, q * 3, none⟩ = some (.int .i8 x) ∧ w'.cell? ⟨w.heap.size, q * 3 + 1, none⟩ = some (.int .i8 y) ∧ w'.cell? ⟨w.heap.size, q * 3 + 2, none⟩ = some (.int .i8 z) ∧ w'.cell? ⟨g, m, none⟩ = some (.int .i64 u)) (ds := [16]) #[false, false, false, false, false, false, false, false, false, false, false, false, false, false, false, false, false, false] (by kernel_rfl) rfl rfl ⟨c0, c1, c2, c3, c4⟩ (fun hHeld => ?_)
      have HA9 := Aside0.mk (HA.out.drew)
      have HV9 := Aside0.mk (HV.out.drew)
      have HR9 := Aside0.mk (Kd.R_drew HR.out)
      have HB9 := Aside0.mk (below_drew HB.out)
      generalize wr.drew = w9 at HA9 HV9 HR9 HB9 hHeld ⊢
      clear HA HV HR HB c0 c1 c2 c3 c4
      refine pure_ (i := 0) (N := some 20) (v := ?_) (a' := ?_) #[true, false, false, false, false, false, false, false, false, false, false, false, false, false, false, false, false, false] rfl rfl (by kernel_rfl) (fun _ _ _ h => h) (Or.inl ⟨by rfl, ?_⟩) ?_ ?_
      rotate_left
      · intro w'
        go_simp
        with_reducible rfl
      rotate_left
      · simp only [Act.put, List.setIfInBounds_toArray, List.set_cons_zero, List.set_cons_succ, i64_w, i32_w, HT.out, HM.out]
        rfl
      refine pure_ (i := 1) (N := some 21) (v := ?_) (a' := ?_) #[true, true, false, false, false, false, false, false, false, false, false, false, false, false, false, false, false, false] rfl rfl (by kernel_rfl) (fun _ _ _ h => h) (Or.inl ⟨by rfl, ?_⟩) ?_ ?_
      rotate_left
      · intro w'
        go_simp
        with_reducible rfl
      rotate_left
      · simp only [Act.put, List.setIfInBounds_toArray, List.set_cons_zero, List.set_cons_succ, i64_w, i32_w, HT.out, HM.out]
        rfl
      refine pure_ (i := 2) (N := some 22) (v := ?_) (a' := ?_) #[true, true, true, false, false, false, false, false, false, false, false, false, false, false, false, false, false, false] rfl rfl (by kernel_rfl) (fun _ _ _ h => h) (Or.inl ⟨by rfl, ?_⟩) ?_ ?_
      rotate_left
      · intro w'
        go_simp
        with_reducible rfl
      rotate_left
      · simp only [Act.put, List.setIfInBounds_toArray, List.set_cons_zero, List.set_cons_succ, i64_w, i32_w, HT.out, HM.out]
        rfl
      refine take_ (i := 3) (N := some 23) (v := ?_) (a' := ?_) #[true, true, true, true, false, false, false, false, false, false, false, false, false, false, false, false, false, false] rfl rfl (by kernel_rfl) (fun _ _ _ h => h) (Or.inl ⟨by rfl, ?_⟩) hHeld ?_ ?_
      rotate_left
      · rintro w' ⟨s0, s1, s2, s3, s4⟩
        go_simp
        with_reducible rfl
      rotate_left
      · simp only [Act.put, List.setIfInBounds_toArray, List.set_cons_zero, List.set_cons_succ, i64_w, i32_w, HT.out, HM.out]
        rfl
      refine pure_ (i := 4) (N := some 24) (v := ?_) (a' := ?_) #[true, true, true, true, true, false, false, false, false, false, false, false, false, false, false, false, false, false] rfl rfl (by kernel_rfl) (fun _ _ _ h => h) (Or.inl ⟨by rfl, ?_⟩) ?_ ?_
      rotate_left
      · intro w'
        go_simp
        with_reducible rfl
      rotate_left
      · simp only [Act.put, List.setIfInBounds_toArray, List.set_cons_zero, List.set_cons_succ, i64_w, i32_w, HT.out, HM.out]
        rfl
      refine pure_ (i := 5) (N := some 25) (v := ?_) (a' := ?_) #[true, true, true, true, true, true, false, false, false, false, false, false, false, false, false, false, false, false] rfl rfl (by kernel_rfl) (fun _ _ _ h => h) (Or.inl ⟨by rfl, ?_⟩) ?_ ?_
      rotate_left
      · intro w'
        go_simp
        with_reducible rfl
      rotate_left
      · simp only [Act.put, List.setIfInBounds_toArray, List.set_cons_zero, List.set_cons_succ, i64_w, i32_w, HT.out, HM.out]
        rfl
      refine pure_ (i := 6) (N := some 26) (v := ?_) (a' := ?_) #[true, true, true, true, true, true, true, false, false, false, false, false, false, false, false, false, false, false] rfl rfl (by kernel_rfl) (fun _ _ _ h => h) (Or.inl ⟨by rfl, ?_⟩) ?_ ?_
      rotate_left
      · intro w'
        go_simp
        with_reducible rfl
      rotate_left
      · simp only [Act.put, List.setIfInBounds_toArray, List.set_cons_zero, List.set_cons_succ, i64_w, i32_w, HT.out, HM.out]
        rfl
      refine pure_ (i := 7) (N := some 27) (v := ?_) (a' := ?_) #[true, true, true, true, true, true, true, true, false, false, false, false, false, false, false, false, false, false] rfl rfl (by kernel_rfl) (fun _ _ _ h => h) (Or.inl ⟨by rfl, ?_⟩) ?_ ?_
      rotate_left
      · intro w'
        go_simp
        with_reducible rfl
      rotate_left
      · simp only [Act.put, List.setIfInBounds_toArray, List.set_cons_zero, List.set_cons_succ, i64_w, i32_w, HT.out, HM.out]
        rfl
      refine pure_ (i := 8) (N := some 28) (v := ?_) (a' := ?_) #[true, true, true, true, true, true, true, true, true, false, false, false, false, false, false, false, false, false] rfl rfl (by kernel_rfl) (fun _ _ _ h => h) (Or.inl ⟨by rfl, ?_⟩) ?_ ?_
      rotate_left
      · intro w'
        go_simp
        with_reducible rfl
      rotate_left
      · simp only [Act.put, List.setIfInBounds_toArray, List.set_cons_zero, List.set_cons_succ, i64_w, i32_w, HT.out, HM.out]
        rfl
      refine take_ (i := 9) (N := some 29) (v := ?_) (a' := ?_) #[true, true, true, true, true, true, true, true, true, true, false, false, false, false, false, false, false, false] rfl rfl (by kernel_rfl) (fun _ _ _ h => h) (Or.inl ⟨by rfl, ?_⟩) hHeld ?_ ?_
      rotate_left
      · rintro w' ⟨s0, s1, s2, s3, s4⟩
        go_simp
        with_reducible rfl
      rotate_left
      · simp only [Act.put, List.setIfInBounds_toArray, List.set_cons_zero, List.set_cons_succ, i64_w, i32_w, HT.out, HM.out]
        rfl
      refine pure_ (i := 10) (N := some 30) (v := ?_) (a' := ?_) #[true, true, true, true, true, true, true, true, true, true, true, false, false, false, false, false, false, false] rfl rfl (by kernel_rfl) (fun _ _ _ h => h) (Or.inl ⟨by rfl, ?_⟩) ?_ ?_
      rotate_left
      · intro w'
        go_simp
        with_reducible rfl
      rotate_left
      · simp only [Act.put, List.setIfInBounds_toArray, List.set_cons_zero, List.set_cons_succ, i64_w, i32_w, HT.out, HM.out]
        rfl
      refine take_ (i := 11) (N := some 31) (v := ?_) (a' := ?_) #[true, true, true, true, true, true, true, true, true, true, true, true, false, false, false, false, false, false] rfl rfl (by kernel_rfl) (fun _ _ _ h => h) (Or.inl ⟨by rfl, ?_⟩) hHeld ?_ ?_
      rotate_left
      · rintro w' ⟨s0, s1, s2, s3, s4⟩
        go_simp
        with_reducible rfl
      rotate_left
      · simp only [Act.put, List.setIfInBounds_toArray, List.set_cons_zero, List.set_cons_succ, i64_w, i32_w, HT.out, HM.out]
        rfl
      refine pure_ (i := 12) (N := some 32) (v := ?_) (a' := ?_) #[true, true, true, true, true, true, true, true, true, true, true, true, true, false, false, false, false, false] rfl rfl (by kernel_rfl) (fun _ _ _ h => h) (Or.inl ⟨by rfl, ?_⟩) ?_ ?_
      rotate_left
      · intro w'
        go_simp
        with_reducible rfl
      rotate_left
      · simp only [Act.put, List.setIfInBounds_toArray, List.set_cons_zero, List.set_cons_succ, i64_w, i32_w, HT.out, HM.out]
        rfl
      refine pure_ (i := 13) (N := some 33) (v := ?_) (a' := ?_) #[true, true, true, true, true, true, true, true, true, true, true, true, true, true, false, false, false, false] rfl rfl (by kernel_rfl) (fun _ _ _ h => h) (Or.inl ⟨by rfl, ?_⟩) ?_ ?_
      rotate_left
      · intro w'
        go_simp
        with_reducible rfl
      rotate_left
      · simp only [Act.put, List.setIfInBounds_toArray, List.set_cons_zero, List.set_cons_succ, i64_w, i32_w, HT.out, HM.out]
        rfl
      refine one_ (i := 14) (N := some 34) #[true, true, true, true, true, true, true, true, true, true, true, true, true, true, true, false, false, false] rfl rfl (by kernel_rfl) (by decide) (fun K hK => ?_)
      refine goes_ Tryd.func42 (by kernel_rfl) rfl #[.agg #[.int .i8 x, .int .i8 y, .int .i8 z], .int .i64 u, .int .i64 thick, .bool shade] (by rfl) rfl rfl (by (try simp only [List.map_toArray, List.map_cons, List.map_nil]); first | done | rfl) ?_
      refine (hc _ _ _ _ _ _ _ _ HF.out).mono ?_
      rintro e w1 ⟨rfl, hb⟩
      have HA1 := Aside0.mk (HA9.out.below hb)
      have HV1 := Aside0.mk (HV9.out.below hb)
      have HR1 := Aside0.mk (Kd.R_below HR9.out hb)
      have HB1 := Aside0.mk (below_step HB9.out hb)
      refine ⟨_, rfl, ?_⟩
      refine hK.out _ _ ⟨pw_cell_below hb hHeld.1, pw_cell_below hb hHeld.2.1, pw_cell_below hb hHeld.2.2.1, pw_cell_below hb hHeld.2.2.2.1, pw_cell_below hb hHeld.2.2.2.2⟩ (fun hHeld => ?_)
      clear hK K
      refine norm_ (a' := ?_) ?_ ?_
      rotate_left
      · show Act.put _ (some 34) _ = _
        simp only [Act.put, List.setIfInBounds_toArray, List.set_cons_zero, List.set_cons_succ, i64_w, i32_w, HT.out, HM.out]
        rfl
      clear hb HA9 HV9 HR9 HB9
      refine one_ (i := 15) (N := some 35) #[true, true, true, true, true, true, true, true, true, true, true, true, true, true, true, true, false, false] rfl rfl (by kernel_rfl) (by decide) (fun K hK => ?_)
      refine value_ (v := ?_) (w1 := ?_) (by rfl) rfl ?_ ?_
      rotate_left
      rotate_left
      · go_simp
        first | (refine ⟨?_, ?_⟩ <;> rfl) | rfl
      refine hK.out _ _ ⟨(pw_cell_below (below_alloc (Below.refl _ _) _) hHeld.1), (pw_cell_below (below_alloc (Below.refl _ _) _) hHeld.2.1), (pw_cell_below (below_alloc (Below.refl _ _) _) hHeld.2.2.1), (pw_cell_below (below_alloc (Below.refl _ _) _) hHeld.2.2.2.1), (pw_cell_below (below_alloc (Below.refl _ _) _) hHeld.2.2.2.2)⟩ (fun hHeld => ?_)
      clear hK K
      refine norm_ (a' := ?_) ?_ ?_
      rotate_left
      · show Act.put _ (some 35) _ = _
        simp only [Act.put, List.setIfInBounds_toArray, List.set_cons_zero, List.set_cons_succ, i64_w, i32_w, HT.out, HM.out]
        rfl
      refine last_ (i := 16) (N := some 36) #[true, true, true, true, true, true, true, true, true, true, true, true, true, true, true, true, true, false] rfl rfl (by kernel_rfl) (by decide) (fun K hK => ?_)
      refine Kd.R_append_step (Kd.int .i64) (w0 := w) w.heap.size (by rfl) _ _ 28 2 (.int .i64 0) 8 (by rfl) Tryd.underlying28 (by kernel_rfl) rfl (by decide) (by decide) (.slice (some ⟨g, 0, none⟩) (m + 1) cap) xs u1 [.int .i64 u1] (fun _ => True) (fun _ => False) (by rfl) (by rfl) rfl (fun _ hk => hk.elim) (fun _ _ => trivial) HR1.out HB1.out (by have := HB1.out.size; exact this) (by have := HXL.out; omega) ?_
      intro v1 w2 hr2 hb2 hg2 _
      have HA2 := Aside0.mk (HA1.out.grown hg2 (Kd.R_ne HR1.out HA1.out (by decide)))
      have HV2 := Aside0.mk (HV1.out.grown hg2 (Kd.R_ne HR1.out HV1.out (by decide)))
      have HR2 := Aside0.mk hr2
      have HB2 := Aside0.mk hb2
      clear hr2 hb2 hg2 HA1 HV1 HR1 HB1 hHeld
      refine hK.out _ _ ?_
      clear hK K
      refine norm_ (a' := ?_) ?_ ?_
      rotate_left
      · show Act.put _ (some 36) _ = _
        simp only [Act.put, List.setIfInBounds_toArray, List.set_cons_zero, List.set_cons_succ, i64_w, i32_w, HT.out, HM.out]
        rfl
      refine pure_ (i := 17) (N := some 9) (v := ?_) (a' := ?_) #[true, true, true, true, true, true, true, true, true, true, true, true, true, true, true, true, true, true] rfl rfl (by kernel_rfl) (fun _ _ _ h => h) (Or.inl ⟨by rfl, ?_⟩) ?_ ?_
      rotate_left
      · intro w'
        go_simp
        with_reducible rfl
      rotate_left
      · simp only [Act.put, List.setIfInBounds_toArray, List.set_cons_zero, List.set_cons_succ, i64_w, i32_w, HT.out, HM.out]
        rfl
      refine done_ (by kernel_rfl) ?_
      go_wp2
      go_roundw
      case rel => exact ⟨q + 1, by omega, by omega, by go_num, HA2, HV2, ⟨by rw [HXS.out]; exact HR2.out⟩, HB2⟩
      case measure => simp [intOf]; omega
    · obtain rfl : q = 24 := by omega
      go_wp2
      go_ret
      exact ⟨_, rfl, HR.out, HB.out⟩
end Go.Proofs.YtdepnieanfjhjaaDoor.X
