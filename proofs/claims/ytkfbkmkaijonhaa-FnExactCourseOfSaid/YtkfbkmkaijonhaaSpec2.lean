/- Contracts of functions over blocks of cells: what each call answers, and what it leaves as it was. -/
import Derived.Test.YtkfbkmkaijonhaaSpec1
import Derived.Test.YtkfbkmkaijonhaaX6
set_option linter.unusedVariables false
set_option linter.unusedSimpArgs false
namespace Go.Proofs.Ytkfbkmkaijonhaa.X
open Go.RowKit Go.Proofs.YtkfbkmkaijonhaaW.PrintWords Go.Proofs.YtkfbkmkaijonhaaW.PrintLast Go.Proofs.YtkfbkmkaijonhaaW.PrintMore
attribute [local go_sem] max2_int min2_int max_two min_two max_three min_three max_four min_four
theorem washOk_iff {a b : Int} : washOk a b = true ↔ (0 ≤ a ∧ a ≤ 1000) ∧ (1 ≤ b ∧ b ≤ 9) := by simp [washOk, inR]
set_option maxHeartbeats 400000 in
set_option maxRecDepth 100000 in
theorem l03Behind_calls (L : List Int) (hL : L.length = 72) (hd : dayOk L = true) (wet thick : Int) (hw : washOk wet thick = true) (h n : Nat) (hh : h + n ≤ 24) (t1 : Int) (hto : t1 = (h : Int) + n) (shade : Bool) (g : Nat) (w : World) (hB : Blk w g 30 (nums .i8 L)) :
    Calls Try.prog 48 #[.pointer (some ⟨g, 0, none⟩), .agg #[.int .i16 wet, .int .i8 thick], .int .i64 h, .int .i64 t1, .bool shade] w fun e w' => e = .returned (.int .i64 (beh L thick shade h n wet)) ∧ Below w.heap.size w w' := by
  subst hto
  obtain ⟨⟨hw0, hw1⟩, ht0, ht1⟩ := washOk_iff.1 hw
  clear hw
  have HL := Aside0.mk hL
  have HD := Aside0.mk hd
  have HB0 := Aside0.mk hB
  have hc := fun (a b x y z : Int) (s : Bool) (r : Int) (W : World) H => spec_l03Hour.calls a b x y z s r W H
  clear hL hd hB
  go_enter Try.func48, Try.ntmps48
  go_wp2
  go_loopw [11, 12] (fun v11 v12 w' => ∃ q : Nat, h ≤ q ∧ q ≤ h + n ∧ v11 = .int .i64 (beh L thick shade h (q - h) wet) ∧ v12 = .int .i64 q ∧ Aside0 (Blk w' g 30 (nums .i8 L)) ∧ Aside0 (Blk w' w.heap.size 39 [.int .i16 wet, .int .i8 thick]) ∧ Aside0 (Below w.heap.size w w')) (fun _ v12 _ => h + n - (intOf v12).toNat)
  case atStart => exact ⟨h, by omega, by omega, by simp [beh], rfl, ⟨HB0.out.alloc _⟩, ⟨Blk.new w _ _⟩, ⟨below_alloc (Below.refl _ _) _⟩⟩
  case round =>
    obtain ⟨q, hq0, hq1, rfl, rfl, HA, HV, HB⟩ := hrel
    have hbr := beh_range (shade := shade) HD.out ht0 (q - h) h wet hw0 hw1
    by_cases hlt : q < h + n
    · obtain ⟨x, y, z, HS, HX⟩ := seg_letters (L := L) (k := q) (by have := HL.out; omega)
      have HE := Aside0.mk (beh_at L thick shade hq0 wet)
      generalize beh L thick shade h (q - h) wet = u at HE hbr
      have HF : Aside0 (spec_l03Hour.f u thick x y z shade = some (beh L thick shade h (q + 1 - h) wet)) := ⟨by obtain ⟨rfl, rfl, rfl⟩ := HX.out; rw [HE.out]; exact l03Hour_f shade hbr.1 hbr.2 ht0 (dayOk_get HD.out _) (dayOk_get HD.out _) (dayOk_get HD.out _)⟩
      have c0 := HV.out.cell 1 (v := .int .i8 thick) rfl
      have c1 := HA.out.rangeAt (q * 3) (seg := [.int .i8 x, .int .i8 y, .int .i8 z]) HS.out 0 _ rfl
      have c2 := HA.out.rangeAt (q * 3) (seg := [.int .i8 x, .int .i8 y, .int .i8 z]) HS.out 1 _ rfl
      have c3 := HA.out.rangeAt (q * 3) (seg := [.int .i8 x, .int .i8 y, .int .i8 z]) HS.out 2 _ rfl
      rw [Nat.add_zero] at c1
      have i0 : (0 : Int) ≤ (q : Int) := by omega
      have i1 : (q : Int) < 24 := by omega
      have i2 : IntKind.i64.wrap thick = thick := IntWalk.i64_in _ ⟨by omega, by omega⟩
      go_wp2_with fail
      go_region_held3 (fun w' => w'.cell? ⟨w.heap.size, 1, none⟩ = some (.int .i8 thick) ∧ w'.cell? ⟨g, q * 3, none⟩ = some (.int .i8 x) ∧ w'.cell? ⟨g, q * 3 + 1, none⟩ = some (.int .i8 y) ∧ w'.cell? ⟨g, q * 3 + 2, none⟩ = some (.int .i8 z)) (go_keep) ((go_at_call 71; refine (hc _ _ _ _ _ _ _ _ HF.out).mono ?_; rintro e w1 ⟨rfl, hb⟩; replace hb := below_step (w := wr) (below_drew (Below.refl _ _)) hb; have d0 := pw_cell_below hb c0; have d1 := pw_cell_below hb c1; have d2 := pw_cell_below hb c2; have d3 := pw_cell_below hb c3))
      go_wp2
      go_roundw
      case rel => exact ⟨q + 1, by omega, by omega, rfl, by go_num, ⟨HA.out.below hb⟩, ⟨HV.out.below hb⟩, ⟨below_step HB.out hb⟩⟩
      case measure => simp [intOf]; omega
    · obtain rfl : q = h + n := by omega
      go_wp2
      go_ret
      exact ⟨by simp, HB.out⟩
set_option maxHeartbeats 8000000 in
set_option maxRecDepth 100000 in
theorem l03Dry_calls (L : List Int) (hL : L.length = 72) (hd : dayOk L = true) (wet thick : Int) (hw : washOk wet thick = true) (h : Nat) (hh : h ≤ 24) (shade : Bool) (g : Nat) (w : World) (hB : Blk w g 30 (nums .i8 L)) :
    Calls Try.prog 56 #[.pointer (some ⟨g, 0, none⟩), .agg #[.int .i16 wet, .int .i8 thick], .int .i64 h, .bool shade] w fun e w' => e = .returned (.int .i64 (dryF L wet thick shade h)) ∧ Below w.heap.size w w' := by
  have HC := Aside0.mk (fun (q : Nat) (hq0 : h ≤ q) (hq1 : q ≤ 24) W hW => l03Behind_calls L hL hd wet thick hw h (q - h) (by omega) q (by omega) shade g W hW)
  have HB0 := Aside0.mk hB
  obtain ⟨R, hR⟩ : ∃ R, R = dryF L wet thick shade h := ⟨_, rfl⟩
  rw [← hR]
  have HR := Aside0.mk hR
  clear hL hd hB hw hR
  go_enter Try.func56, Try.ntmps56
  go_wp2
  go_loopw [9] (fun v9 w' => ∃ q : Nat, h ≤ q ∧ q ≤ 25 ∧ v9 = .int .i64 q ∧ Aside0 (R = findI (fun q => decide (beh L thick shade h (q - h) wet = 0)) q (25 - q)) ∧ Aside0 (Blk w' g 30 (nums .i8 L)) ∧ Aside0 (Blk w' w.heap.size 39 [.int .i16 wet, .int .i8 thick]) ∧ Aside0 (Below w.heap.size w w')) (fun v9 _ => 25 - (intOf v9).toNat)
  case atStart => exact ⟨h, by omega, by omega, rfl, HR, ⟨HB0.out.alloc _⟩, ⟨Blk.new w _ _⟩, ⟨below_alloc (Below.refl _ _) _⟩⟩
  case round =>
    obtain ⟨q, hq0, hq1, rfl, HF, HA, HV, HB⟩ := hrel
    clear HR
    by_cases hlt : q ≤ 24
    · have HC2 := Aside0.mk (HC.out q hq0 hlt _ HA.out)
      have HE : Aside0 (R = if decide (beh L thick shade h (q - h) wet = 0) = true then (q : Int) else findI (fun q => decide (beh L thick shade h (q - h) wet = 0)) (q + 1) (25 - (q + 1))) := ⟨by rw [HF.out, show 25 - q = 25 - (q + 1) + 1 by omega]; rfl⟩
      have c0 := HV.out.cell 0 (v := .int .i16 wet) rfl
      have c1 := HV.out.cell 1 (v := .int .i8 thick) rfl
      generalize beh L thick shade h (q - h) wet = u at HC2 HE
      by_cases hu : u = 0
      · subst hu
        have HE2 : Aside0 (R = (q : Int)) := ⟨HE.out⟩
        clear HE HF
        go_wp2_with (go_at_call 48; refine HC2.out.mono ?_; rintro e w1 ⟨rfl, hb⟩; have HB1 := Aside0.mk (below_step HB.out hb); clear hb)
        go_ret
        exact ⟨by rw [HE2.out]; rfl, HB1.out⟩
      · have hu2 : (u == 0) = false := by simpa using hu
        have HE2 : Aside0 (R = findI (fun q => decide (beh L thick shade h (q - h) wet = 0)) (q + 1) (25 - (q + 1))) := ⟨by rw [HE.out, if_neg (by simpa using hu)]⟩
        clear HE HF hu
        go_wp2_with (go_at_call 48; refine HC2.out.mono ?_; rintro e w1 ⟨rfl, hb⟩; have HB1 := Aside0.mk (below_step HB.out hb); have HA1 := Aside0.mk (HA.out.below hb); have HV1 := Aside0.mk (HV.out.below hb); clear hb)
        go_roundw
        case rel => exact ⟨q + 1, by omega, by omega, by go_num, HE2, HA1, HV1, HB1⟩
        case measure => simp [intOf]; omega
    · obtain rfl : q = 25 := by omega
      have HE2 : Aside0 (R = -1) := ⟨HF.out⟩
      clear HF
      go_wp2
      go_ret
      exact ⟨by rw [HE2.out]; rfl, HB.out⟩

end Go.Proofs.Ytkfbkmkaijonhaa.X
