/- Contracts of functions over blocks of cells: what each call answers, and what it leaves as it was. -/
import Derived.Test.YtjmnbikaijphlaaVh
set_option linter.unusedVariables false
set_option linter.unusedSimpArgs false
namespace Go.Proofs.Ytjmnbikaijphlaa.X
open Go.RowKit Go.Proofs.YtjmnbikaijphlaaW.PrintWords Go.Proofs.YtjmnbikaijphlaaW.PrintLast Go.Proofs.YtjmnbikaijphlaaW.PrintMore
attribute [local go_sem] max2_int min2_int max_two min_two max_three min_three max_four min_four
set_option maxHeartbeats 8000000 in
set_option maxRecDepth 100000 in
theorem implVH_calls (f : Nat → Int) (n c g : Nat) (tub every today : Int) (hn : n ≤ 1048576) (hR : Rng f n) (ht : -32768 ≤ tub ∧ tub ≤ 32767) (hv : -128 ≤ every ∧ every ≤ 127) (hd : -32768 ≤ today ∧ today ≤ 32767) (w : World) (hB : Rw w g n f) :
    Calls Try.prog 28 #[.agg #[.slice (some ⟨g, 0, none⟩) n c, .int .i16 tub, .int .i8 every, .int .i16 today]] w fun e w' => e = .returned (.bool (houseB f n tub every today)) ∧ Below w.heap.size w w' := by
  have HC := Aside0.mk (fun W h => vhHas_calls f n c g hn hR W h)
  have HB := Aside0.mk hB
  have HO : Aside0 (houseB f n tub every today = (goodsB f n && (decide (1 ≤ n ∧ n ≤ 4) && decide (0 ≤ tub ∧ tub ≤ 1000) && decide (1 ≤ every ∧ every ≤ 7) && decide (0 ≤ today ∧ today ≤ 60)))) := ⟨rfl⟩
  generalize houseB f n tub every today = ok at *
  obtain ⟨ht1, ht2⟩ := ht
  obtain ⟨hv1, hv2⟩ := hv
  obtain ⟨hd1, hd2⟩ := hd
  have i1 : IntKind.i64.wrap tub = tub := IntWalk.i64_in _ ⟨by omega, by omega⟩
  have i2 : IntKind.i64.wrap every = every := IntWalk.i64_in _ ⟨by omega, by omega⟩
  have i3 : IntKind.i64.wrap today = today := IntWalk.i64_in _ ⟨by omega, by omega⟩
  have HS := Aside0.mk (fun W => sizeK_q (some ⟨g, 0, none⟩) n c W)
  have HI := Aside0.mk (fun W => within_q n 1 4 W)
  have HT := Aside0.mk (fun W => within_q tub 0 1000 W)
  have HV := Aside0.mk (fun W => within_q every 1 7 W)
  have HD := Aside0.mk (fun W => within_q today 0 60 W)
  have HN : Aside0 (decide ((1 : Int) ≤ (n : Int) ∧ (n : Int) ≤ 4) = decide (1 ≤ n ∧ n ≤ 4)) := ⟨by rw [decide_eq_decide]; omega⟩
  rw [HN.out] at HI
  generalize goodsB f n = gd at *
  generalize decide (1 ≤ n ∧ n ≤ 4) = p at *
  generalize decide (0 ≤ tub ∧ tub ≤ 1000) = t at *
  generalize decide (1 ≤ every ∧ every ≤ 7) = v at *
  generalize decide (0 ≤ today ∧ today ≤ 60) = d at *
  have HO3 : Aside0 (ok = (p && gd && t && v && d)) := ⟨by rw [HO.out]; cases p <;> cases gd <;> cases t <;> cases v <;> rfl⟩
  clear HO HN hR hB
  cases p
  · go_enter Try.func28, Try.ntmps28
    go_wp2_with (first | (go_at_call 71; (with_reducible refine (HS.out _).mono ?_); rintro e w' ⟨rfl, rfl⟩) | (go_at_call 70; (with_reducible refine (HI.out _).mono ?_); rintro e w' ⟨rfl, rfl⟩) | (go_at_call 70; (with_reducible refine (HT.out _).mono ?_); rintro e w' ⟨rfl, rfl⟩) | (go_at_call 70; (with_reducible refine (HV.out _).mono ?_); rintro e w' ⟨rfl, rfl⟩) | (go_at_call 70; (with_reducible refine (HD.out _).mono ?_); rintro e w' ⟨rfl, rfl⟩) | (go_at_call 72; refine (HC.out _ (HB.out.alloc _)).mono ?_; rintro e w1 ⟨rfl, hb⟩; have HW1 := Aside0.mk (below_step (below_alloc (Below.refl w.heap.size w) _) hb); have HH1 := Aside0.mk ((Blk.new w 40 (hcells (some ⟨g, 0, none⟩) n c tub every today)).below hb); clear hb; have c1 := HH1.out.cell 1 (v := .int .i16 tub) rfl; have c2 := HH1.out.cell 2 (v := .int .i8 every) rfl; have c3 := HH1.out.cell 3 (v := .int .i16 today) rfl))
    go_ret
    exact ⟨by rw [HO3.out]; rfl, by first | exact HW1.out | exact below_alloc (Below.refl _ _) _⟩
  · cases gd
    · go_enter Try.func28, Try.ntmps28
      go_wp2_with (first | (go_at_call 71; (with_reducible refine (HS.out _).mono ?_); rintro e w' ⟨rfl, rfl⟩) | (go_at_call 70; (with_reducible refine (HI.out _).mono ?_); rintro e w' ⟨rfl, rfl⟩) | (go_at_call 70; (with_reducible refine (HT.out _).mono ?_); rintro e w' ⟨rfl, rfl⟩) | (go_at_call 70; (with_reducible refine (HV.out _).mono ?_); rintro e w' ⟨rfl, rfl⟩) | (go_at_call 70; (with_reducible refine (HD.out _).mono ?_); rintro e w' ⟨rfl, rfl⟩) | (go_at_call 72; refine (HC.out _ (HB.out.alloc _)).mono ?_; rintro e w1 ⟨rfl, hb⟩; have HW1 := Aside0.mk (below_step (below_alloc (Below.refl w.heap.size w) _) hb); have HH1 := Aside0.mk ((Blk.new w 40 (hcells (some ⟨g, 0, none⟩) n c tub every today)).below hb); clear hb; have c1 := HH1.out.cell 1 (v := .int .i16 tub) rfl; have c2 := HH1.out.cell 2 (v := .int .i8 every) rfl; have c3 := HH1.out.cell 3 (v := .int .i16 today) rfl))
      go_ret
      exact ⟨by rw [HO3.out]; rfl, by first | exact HW1.out | exact below_alloc (Below.refl _ _) _⟩
    · cases t
      · go_enter Try.func28, Try.ntmps28
        go_wp2_with (first | (go_at_call 71; (with_reducible refine (HS.out _).mono ?_); rintro e w' ⟨rfl, rfl⟩) | (go_at_call 70; (with_reducible refine (HI.out _).mono ?_); rintro e w' ⟨rfl, rfl⟩) | (go_at_call 70; (with_reducible refine (HT.out _).mono ?_); rintro e w' ⟨rfl, rfl⟩) | (go_at_call 70; (with_reducible refine (HV.out _).mono ?_); rintro e w' ⟨rfl, rfl⟩) | (go_at_call 70; (with_reducible refine (HD.out _).mono ?_); rintro e w' ⟨rfl, rfl⟩) | (go_at_call 72; refine (HC.out _ (HB.out.alloc _)).mono ?_; rintro e w1 ⟨rfl, hb⟩; have HW1 := Aside0.mk (below_step (below_alloc (Below.refl w.heap.size w) _) hb); have HH1 := Aside0.mk ((Blk.new w 40 (hcells (some ⟨g, 0, none⟩) n c tub every today)).below hb); clear hb; have c1 := HH1.out.cell 1 (v := .int .i16 tub) rfl; have c2 := HH1.out.cell 2 (v := .int .i8 every) rfl; have c3 := HH1.out.cell 3 (v := .int .i16 today) rfl))
        go_ret
        exact ⟨by rw [HO3.out]; rfl, by first | exact HW1.out | exact below_alloc (Below.refl _ _) _⟩
      · cases v
        · go_enter Try.func28, Try.ntmps28
          go_wp2_with (first | (go_at_call 71; (with_reducible refine (HS.out _).mono ?_); rintro e w' ⟨rfl, rfl⟩) | (go_at_call 70; (with_reducible refine (HI.out _).mono ?_); rintro e w' ⟨rfl, rfl⟩) | (go_at_call 70; (with_reducible refine (HT.out _).mono ?_); rintro e w' ⟨rfl, rfl⟩) | (go_at_call 70; (with_reducible refine (HV.out _).mono ?_); rintro e w' ⟨rfl, rfl⟩) | (go_at_call 70; (with_reducible refine (HD.out _).mono ?_); rintro e w' ⟨rfl, rfl⟩) | (go_at_call 72; refine (HC.out _ (HB.out.alloc _)).mono ?_; rintro e w1 ⟨rfl, hb⟩; have HW1 := Aside0.mk (below_step (below_alloc (Below.refl w.heap.size w) _) hb); have HH1 := Aside0.mk ((Blk.new w 40 (hcells (some ⟨g, 0, none⟩) n c tub every today)).below hb); clear hb; have c1 := HH1.out.cell 1 (v := .int .i16 tub) rfl; have c2 := HH1.out.cell 2 (v := .int .i8 every) rfl; have c3 := HH1.out.cell 3 (v := .int .i16 today) rfl))
          go_ret
          exact ⟨by rw [HO3.out]; rfl, by first | exact HW1.out | exact below_alloc (Below.refl _ _) _⟩
        · go_enter Try.func28, Try.ntmps28
          go_wp2_with (first | (go_at_call 71; (with_reducible refine (HS.out _).mono ?_); rintro e w' ⟨rfl, rfl⟩) | (go_at_call 70; (with_reducible refine (HI.out _).mono ?_); rintro e w' ⟨rfl, rfl⟩) | (go_at_call 70; (with_reducible refine (HT.out _).mono ?_); rintro e w' ⟨rfl, rfl⟩) | (go_at_call 70; (with_reducible refine (HV.out _).mono ?_); rintro e w' ⟨rfl, rfl⟩) | (go_at_call 70; (with_reducible refine (HD.out _).mono ?_); rintro e w' ⟨rfl, rfl⟩) | (go_at_call 72; refine (HC.out _ (HB.out.alloc _)).mono ?_; rintro e w1 ⟨rfl, hb⟩; have HW1 := Aside0.mk (below_step (below_alloc (Below.refl w.heap.size w) _) hb); have HH1 := Aside0.mk ((Blk.new w 40 (hcells (some ⟨g, 0, none⟩) n c tub every today)).below hb); clear hb; have c1 := HH1.out.cell 1 (v := .int .i16 tub) rfl; have c2 := HH1.out.cell 2 (v := .int .i8 every) rfl; have c3 := HH1.out.cell 3 (v := .int .i16 today) rfl))
          go_ret
          exact ⟨by rw [HO3.out]; rfl, by first | exact HW1.out | exact below_alloc (Below.refl _ _) _⟩

end Go.Proofs.Ytjmnbikaijphlaa.X
