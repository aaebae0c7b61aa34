/- Contracts of functions over blocks of cells: what each call answers, and what it leaves as it was. -/
import Derived.Test.YtkfbkmkaijonhaaSun
set_option linter.unusedVariables false
set_option linter.unusedSimpArgs false
namespace Go.Proofs.Ytkfbkmkaijonhaa.X
open Go.RowKit Go.Proofs.YtkfbkmkaijonhaaW.PrintWords Go.Proofs.YtkfbkmkaijonhaaW.PrintLast Go.Proofs.YtkfbkmkaijonhaaW.PrintMore
attribute [local go_sem] max2_int min2_int max_two min_two max_three min_three max_four min_four
/-- the first hour of rain, counted from an hour on; -1 if there is none -/
def rainF (L : List Int) (h : Nat) : Int := wxI rainW L h (24 - h) 0
theorem wxI_range (p : Int → Int → Int → Bool) (L : List Int) : ∀ n h j : Nat, wxI p L h n j = -1 ∨ ((j : Int) ≤ wxI p L h n j ∧ wxI p L h n j < (j : Int) + n)
  | 0, h, j => .inl rfl
  | n + 1, h, j => by
    unfold wxI
    split
    · right; omega
    · have := wxI_range p L n (h + 1) (j + 1); omega
set_option maxHeartbeats 8000000 in
set_option maxRecDepth 100000 in
theorem specRain_bad (L : List Int) (hL : L.length = 72) (h8 : i8All L) (h : Int) (w : World) (hc : askedF L [] (inR h 0 24) ≠ 0) :
    Calls Try.prog 16 #[(.agg (nums .i8 L).toArray), .int .i64 h] w fun e w' => e = .returned (.tuple #[.int .i64 0, .int .i64 (askedF L [] (inR h 0 24))]) ∧ Below w.heap.size w w' := by
  have HK := Aside0.mk (fun W A => asked_calls0 L hL h8 (inR h 0 24) w.heap.size W A)
  have hfr := fun x W => spec_l03From.calls x _ W (from_f x)
  generalize askedF L [] (inR h 0 24) = code at *
  have hc2 : (code != 0) = true := by simpa using hc
  have HB0 : Aside0 (Blk (w.alloc (.cells (nums .i8 L).toArray 30)) w.heap.size 30 (nums .i8 L)) := ⟨Blk.new w _ _⟩
  clear hL h8 hc
  go_enter Try.func16, Try.ntmps16
  go_wp2_with (first | (go_at_call 43; refine (hfr _ _).mono ?_; rintro e w' ⟨rfl, ⟨nd, rfl⟩⟩) | (go_at_call 42; refine (HK.out _ _ (by repeat (first | exact HB0.out | apply Blk.drewN | apply Blk.drew | apply Blk.alloc))).mono ?_; rintro e w1 ⟨rfl, hb⟩; have HB1 := Aside0.mk (below_step (w := w) (by repeat (first | exact Below.refl _ _ | apply pw_below_drewN | apply below_drew | apply below_alloc)) hb); have HA1 := Aside0.mk (Blk.below (w := (w.alloc (.cells (nums .i8 L).toArray 30))) HB0.out (below_step (w := (w.alloc (.cells (nums .i8 L).toArray 30))) (by repeat (first | exact Below.refl _ _ | apply pw_below_drewN | apply below_drew | apply below_alloc)) hb)); clear hb))
  go_ret2
  exact ⟨rfl, HB1.out⟩
set_option maxHeartbeats 8000000 in
set_option maxRecDepth 100000 in
theorem specRain_ok (L : List Int) (hL : L.length = 72) (h8 : i8All L) (hd : dayOk L = true) (h : Nat) (hh : h ≤ 24) (w : World) :
    Calls Try.prog 16 #[(.agg (nums .i8 L).toArray), .int .i64 h] w fun e w' => e = .returned (.tuple #[.int .i64 (if rainF L h < 0 then 0 else h + rainF L h), .int .i64 (if rainF L h < 0 then 6 else 0)]) ∧ Below w.heap.size w w' := by
  have e1 : inR (h : Int) 0 24 = true := by rw [inR_iff]; omega
  have HK := Aside0.mk (fun W A => asked_calls0 L hL h8 true w.heap.size W A)
  rw [asked_none.2 ⟨hd, rfl⟩] at HK
  have hfr := fun W => spec_l03From.calls h _ W (from_f h)
  rw [e1] at hfr
  have HB0 : Aside0 (Blk (w.alloc (.cells (nums .i8 L).toArray 30)) w.heap.size 30 (nums .i8 L)) := ⟨Blk.new w _ _⟩
  have HL := Aside0.mk hL
  obtain ⟨R1, HR1⟩ : ∃ R1, Aside0 (R1 = if rainF L h < 0 then 0 else (h : Int) + rainF L h) := ⟨_, ⟨rfl⟩⟩
  obtain ⟨R2, HR2⟩ : ∃ R2, Aside0 (R2 = if rainF L h < 0 then (6 : Int) else 0) := ⟨_, ⟨rfl⟩⟩
  rw [← HR1.out, ← HR2.out]
  clear hL h8 hd e1
  go_enter Try.func16, Try.ntmps16
  go_wp2_with (first | (go_at_call 43; refine (hfr _).mono ?_; rintro e w' ⟨rfl, ⟨nd, rfl⟩⟩) | (go_at_call 42; refine (HK.out _ _ (by repeat (first | exact HB0.out | apply Blk.drewN | apply Blk.drew | apply Blk.alloc))).mono ?_; rintro e w1 ⟨rfl, hb⟩; have HB1 := Aside0.mk (below_step (w := w) (by repeat (first | exact Below.refl _ _ | apply pw_below_drewN | apply below_drew | apply below_alloc)) hb); have HA1 := Aside0.mk (Blk.below (w := (w.alloc (.cells (nums .i8 L).toArray 30))) HB0.out (below_step (w := (w.alloc (.cells (nums .i8 L).toArray 30))) (by repeat (first | exact Below.refl _ _ | apply pw_below_drewN | apply below_drew | apply below_alloc)) hb)); clear hb))
  go_loopw [7] (fun v7 w' => ∃ q : Nat, h ≤ q ∧ q ≤ 24 ∧ v7 = .int .i64 q ∧ Aside0 (rainF L h = wxI rainW L q (24 - q) (q - h)) ∧ Aside0 (Blk w' w.heap.size 30 (nums .i8 L)) ∧ Aside0 (Below w.heap.size w w')) (fun v7 _ => 24 - (intOf v7).toNat)
  case atStart => exact ⟨h, by omega, by omega, rfl, ⟨by rw [Nat.sub_self]; rfl⟩, HA1, HB1⟩
  case round =>
    clear HA1 HB1
    obtain ⟨q, hq0, hq1, rfl, HI, HA, HB⟩ := hrel
    by_cases hlt : q < 24
    · obtain ⟨x, y, z, HS, HX⟩ := seg_letters (L := L) (k := q) (by have := HL.out; omega)
      have HE : Aside0 (rainF L h = if rainW x y z = true then ((q - h : Nat) : Int) else wxI rainW L (q + 1) (24 - (q + 1)) (q + 1 - h)) := ⟨by rw [HI.out, show 24 - q = 24 - (q + 1) + 1 by omega, HX.out.1, HX.out.2.1, HX.out.2.2, show q + 1 - h = q - h + 1 by omega]; rfl⟩
      have c3 := HA.out.rangeAt (q * 3) (seg := [.int .i8 x, .int .i8 y, .int .i8 z]) HS.out 2 _ rfl
      by_cases hz : 0 < z
      · have HE3 : Aside0 (rainF L h = ((q - h : Nat) : Int)) := ⟨by rw [HE.out, if_pos (by simpa [rainW] using hz)]⟩
        have HQ1 : Aside0 (R1 = (q : Int)) := ⟨by rw [HR1.out, HE3.out, if_neg (by omega)]; omega⟩
        have HQ2 : Aside0 (R2 = 0) := ⟨by rw [HR2.out, HE3.out, if_neg (by omega)]⟩
        clear HE HE3 HI HX HS
        go_wp2
        go_ret2
        exact ⟨by rw [HQ1.out, HQ2.out]; rfl, HB.out⟩
      · have HE2 : Aside0 (rainF L h = wxI rainW L (q + 1) (24 - (q + 1)) (q + 1 - h)) := ⟨by rw [HE.out, if_neg (by simpa [rainW] using hz)]⟩
        clear HE HI HX HS
        go_wp2
        go_roundw
        case rel => exact ⟨q + 1, by omega, by omega, by go_num, HE2, HA, HB⟩
        case measure => simp [intOf]; omega
    · obtain rfl : q = 24 := by omega
      have HE : Aside0 (rainF L h = -1) := ⟨HI.out⟩
      have HQ1 : Aside0 (R1 = 0) := ⟨by rw [HR1.out, HE.out]; rfl⟩
      have HQ2 : Aside0 (R2 = 6) := ⟨by rw [HR2.out, HE.out]; rfl⟩
      clear HE HI
      go_wp2
      go_ret2
      exact ⟨by rw [HQ1.out, HQ2.out]; rfl, HB.out⟩
set_option maxHeartbeats 8000000 in
set_option maxRecDepth 100000 in
theorem implRain_bad (L : List Int) (hL : L.length = 72) (h8 : i8All L) (h : Int) (w : World) (hc : codeF L [] h 24 ≠ 0) :
    Calls Try.prog 17 #[(.agg (nums .i8 L).toArray), .int .i64 h] w fun e w' => e = .returned (.tuple #[.int .i64 0, .int .i64 (codeF L [] h 24)]) ∧ Below w.heap.size w w' := by
  have HC := Aside0.mk (fun W => dayCode0 L hL h8 h 24 W)
  generalize codeF L [] h 24 = code at *
  have hc2 : (code != 0) = true := by simpa using hc
  have HB0 : Aside0 (Blk (w.alloc (.cells (nums .i8 L).toArray 30)) w.heap.size 30 (nums .i8 L)) := ⟨Blk.new w _ _⟩
  have HN : Aside0 ((nums .i8 L).length = 72) := ⟨by rw [nums_len]; exact hL⟩
  have HS : Aside0 (((nums .i8 L).drop 0).take 72 = nums .i8 L) := ⟨by rw [List.drop_zero, List.take_of_length_le (by rw [HN.out]; exact Nat.le_refl _)]⟩
  clear hL h8 hc
  go_enter Try.func17, Try.ntmps17
  go_wp2_with (first | (refine wl_load (by rfl) 30 _ (by rfl) w.heap.size 0 (by rfl) 30 72 _ _ HB0.out HS.out HN.out _ Try.underlying30 (by rfl) (by kernel_rfl) ?_) | (go_at_call 45; refine (HC.out _).mono ?_; rintro e w1 ⟨rfl, hb⟩; have HB1 := Aside0.mk (below_step (below_alloc (Below.refl w.heap.size w) _) hb); have HA1 := Aside0.mk (HB0.out.below hb); clear hb))
  go_ret2
  exact ⟨rfl, HB1.out⟩
set_option maxHeartbeats 8000000 in
set_option maxRecDepth 100000 in
theorem implRain_ok (L : List Int) (hL : L.length = 72) (h8 : i8All L) (hd : dayOk L = true) (h : Nat) (hh : h ≤ 24) (w : World) :
    Calls Try.prog 17 #[(.agg (nums .i8 L).toArray), .int .i64 h] w fun e w' => e = .returned (.tuple #[.int .i64 (if rainF L h < 0 then 0 else h + rainF L h), .int .i64 (if rainF L h < 0 then 6 else 0)]) ∧ Below w.heap.size w w' := by
  have HC := Aside0.mk (fun W => dayCode0 L hL h8 h 24 W)
  rw [code_24, asked_none.2 ⟨hd, by rw [inR_iff]; omega⟩] at HC
  have HB0 : Aside0 (Blk (w.alloc (.cells (nums .i8 L).toArray 30)) w.heap.size 30 (nums .i8 L)) := ⟨Blk.new w _ _⟩
  have HN : Aside0 ((nums .i8 L).length = 72) := ⟨by rw [nums_len]; exact hL⟩
  have HS : Aside0 (((nums .i8 L).drop 0).take 72 = nums .i8 L) := ⟨by rw [List.drop_zero, List.take_of_length_le (by rw [HN.out]; exact Nat.le_refl _)]⟩
  have hr0 := wxI_range rainW L (24 - h) h 0
  obtain ⟨R1, HR1⟩ : ∃ R1, Aside0 (R1 = if rainF L h < 0 then 0 else (h : Int) + rainF L h) := ⟨_, ⟨rfl⟩⟩
  obtain ⟨R2, HR2⟩ : ∃ R2, Aside0 (R2 = if rainF L h < 0 then (6 : Int) else 0) := ⟨_, ⟨rfl⟩⟩
  rw [← HR1.out, ← HR2.out]
  unfold rainF at HR1 HR2
  by_cases h24 : h = 24
  · subst h24
    have HX := Aside0.mk (fun W hW => idxWx_rain L hL h8 w.heap.size 0 0 0 (by omega) 0 (by omega) W hW)
    rw [show wxI rainW L 24 (24 - 24) 0 = -1 from rfl] at HR1 HR2
    rw [show wxI rainW L 0 0 0 = -1 from rfl] at HX
    clear hL h8 hd hr0
    have HQ1 : Aside0 (R1 = 0) := ⟨by rw [HR1.out]; rfl⟩
    have HQ2 : Aside0 (R2 = 6) := ⟨by rw [HR2.out]; rfl⟩
    clear HR1 HR2
    go_enter Try.func17, Try.ntmps17
    go_wp2_with (first | (refine wl_load (by rfl) 30 _ (by rfl) w.heap.size 0 (by rfl) 30 72 _ _ HB0.out HS.out HN.out _ Try.underlying30 (by rfl) (by kernel_rfl) ?_) | (go_at_call 45; refine (HC.out _).mono ?_; rintro e w1 ⟨rfl, hb⟩; have HB1 := Aside0.mk (below_step (below_alloc (Below.refl w.heap.size w) _) hb); have HA1 := Aside0.mk (HB0.out.below hb); clear hb) | (go_at_call 46; refine (HX.out _ HA1.out).mono ?_; rintro e w2 ⟨rfl, hb⟩; have HB2 := Aside0.mk (below_step HB1.out hb); clear hb))
    go_ret2
    exact ⟨by rw [HQ1.out, HQ2.out]; rfl, HB2.out⟩
  · have HX := Aside0.mk (fun W hW => idxWx_rain L hL h8 w.heap.size h (24 - h) (24 - h) (by omega) (h * 3) rfl W hW)
    have hh2 : h < 24 := by omega
    have hr1 : wxI rainW L h (24 - h) 0 ≤ 24 := by omega
    have hr2 : -1 ≤ wxI rainW L h (24 - h) 0 := by omega
    clear hr0
    generalize wxI rainW L h (24 - h) 0 = r at *
    have i0 : (0 : Int) ≤ (h : Int) := by omega
    have i1 : (h : Int) ≤ 24 := by omega
    clear hL h8 hd
    go_enter Try.func17, Try.ntmps17
    by_cases hr : r < 0
    · have HQ1 : Aside0 (R1 = 0) := ⟨by rw [HR1.out, if_pos hr]⟩
      have HQ2 : Aside0 (R2 = 6) := ⟨by rw [HR2.out, if_pos hr]⟩
      go_wp2_with (first | (refine wl_load (by rfl) 30 _ (by rfl) w.heap.size 0 (by rfl) 30 72 _ _ HB0.out HS.out HN.out _ Try.underlying30 (by rfl) (by kernel_rfl) ?_) | (go_at_call 45; refine (HC.out _).mono ?_; rintro e w1 ⟨rfl, hb⟩; have HB1 := Aside0.mk (below_step (below_alloc (Below.refl w.heap.size w) _) hb); have HA1 := Aside0.mk (HB0.out.below hb); clear hb) | (go_at_call 46; refine (HX.out _ HA1.out).mono ?_; rintro e w2 ⟨rfl, hb⟩; have HB2 := Aside0.mk (below_step HB1.out hb); clear hb))
      go_ret2
      exact ⟨by rw [HQ1.out, HQ2.out]; rfl, HB2.out⟩
    · have HQ1 : Aside0 (R1 = (h : Int) + r) := ⟨by rw [HR1.out, if_neg hr]⟩
      have HQ2 : Aside0 (R2 = 0) := ⟨by rw [HR2.out, if_neg hr]⟩
      go_wp2_with (first | (refine wl_load (by rfl) 30 _ (by rfl) w.heap.size 0 (by rfl) 30 72 _ _ HB0.out HS.out HN.out _ Try.underlying30 (by rfl) (by kernel_rfl) ?_) | (go_at_call 45; refine (HC.out _).mono ?_; rintro e w1 ⟨rfl, hb⟩; have HB1 := Aside0.mk (below_step (below_alloc (Below.refl w.heap.size w) _) hb); have HA1 := Aside0.mk (HB0.out.below hb); clear hb) | (go_at_call 46; refine (HX.out _ HA1.out).mono ?_; rintro e w2 ⟨rfl, hb⟩; have HB2 := Aside0.mk (below_step HB1.out hb); clear hb))
      go_ret2
      exact ⟨by rw [HQ1.out, HQ2.out]; rfl, HB2.out⟩
set_option maxHeartbeats 8000000 in
set_option maxRecDepth 100000 in
theorem lawRain_calls (L : List Int) (hL : L.length = 72) (h8 : i8All L) (h : Int) (w : World) :
    Calls Try.prog 4 #[(.agg (nums .i8 L).toArray), .int .i64 h] w fun e w' => e = .returned (.bool true) ∧ Below w.heap.size w w' := by
  have HTD := Aside0.mk (fun W => toDay_calls L hL W)
  have HB0 : Aside0 (Blk (w.alloc (.cells (nums .i8 L).toArray 25)) w.heap.size 25 (nums .i8 L)) := ⟨Blk.new w _ _⟩
  have HN : Aside0 ((nums .i8 L).length = 72) := ⟨by rw [nums_len]; exact hL⟩
  have HS : Aside0 (((nums .i8 L).drop 0).take 72 = nums .i8 L) := ⟨by rw [List.drop_zero, List.take_of_length_le (by rw [HN.out]; exact Nat.le_refl _)]⟩
  obtain ⟨r, c, HX, HY⟩ : ∃ r c, Aside0 (∀ W, Calls Try.prog 16 #[(.agg (nums .i8 L).toArray), .int .i64 h] W fun e w' => e = .returned (.tuple #[.int .i64 r, .int .i64 c]) ∧ Below W.heap.size W w') ∧ Aside0 (∀ W, Calls Try.prog 17 #[(.agg (nums .i8 L).toArray), .int .i64 h] W fun e w' => e = .returned (.tuple #[.int .i64 r, .int .i64 c]) ∧ Below W.heap.size W w') := by
    by_cases hc : askedF L [] (inR h 0 24) = 0
    · obtain ⟨hd, hf⟩ := asked_none.1 hc
      rw [inR_iff] at hf
      obtain ⟨m, rfl⟩ := Int.eq_ofNat_of_zero_le hf.1
      exact ⟨_, _, ⟨fun W => specRain_ok L hL h8 hd m (by omega) W⟩, ⟨fun W => implRain_ok L hL h8 hd m (by omega) W⟩⟩
    · exact ⟨_, _, ⟨fun W => specRain_bad L hL h8 h W hc⟩, ⟨fun W => by
        have := implRain_bad L hL h8 h W (by rw [code_24]; exact hc)
        rw [code_24] at this
        exact this⟩⟩
  clear hL h8
  go_enter Try.func4, Try.ntmps4
  go_wp2_with (first | (refine wl_load (by rfl) 25 _ (by rfl) w.heap.size 0 (by rfl) 25 72 _ _ HA2.out HS.out HN.out _ Try.underlying25 (by rfl) (by kernel_rfl) ?_) | (refine wl_load (by rfl) 25 _ (by rfl) w.heap.size 0 (by rfl) 25 72 _ _ HB0.out HS.out HN.out _ Try.underlying25 (by rfl) (by kernel_rfl) ?_) | (go_at_call 14; refine (HTD.out _).mono ?_; rintro e w3 ⟨rfl, hb⟩; have HB3 := Aside0.mk (below_step HB2.out hb); have HA3 := Aside0.mk (HA2.out.below hb); clear hb) | (go_at_call 14; refine (HTD.out _).mono ?_; rintro e w1 ⟨rfl, hb⟩; have HB1 := Aside0.mk (below_step (below_alloc (Below.refl w.heap.size w) _) hb); have HA1 := Aside0.mk (HB0.out.below hb); clear hb) | (go_at_call 16; refine (HX.out _).mono ?_; rintro e w2 ⟨rfl, hb⟩; have HB2 := Aside0.mk (below_step HB1.out hb); have HA2 := Aside0.mk (HA1.out.below hb); clear hb HB1 HA1) | (go_at_call 17; refine (HY.out _).mono ?_; rintro e w4 ⟨rfl, hb⟩; have HB4 := Aside0.mk (below_step HB3.out hb); clear hb))
  go_ret
  exact ⟨rfl, HB4.out⟩

end Go.Proofs.Ytkfbkmkaijonhaa.X
