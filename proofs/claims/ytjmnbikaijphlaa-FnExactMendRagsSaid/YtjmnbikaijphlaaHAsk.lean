/- Contracts of functions, and plain facts: what each call answers, and what it leaves as it was. -/
import Derived.Test.YtjmnbikaijphlaaHValid
set_option linter.unusedVariables false
set_option linter.unusedSimpArgs false
namespace Go.Proofs.Ytjmnbikaijphlaa.X
open Go.RowKit Go.Proofs.YtjmnbikaijphlaaW.PrintWords Go.Proofs.YtjmnbikaijphlaaW.PrintLast Go.Proofs.YtjmnbikaijphlaaW.PrintMore
attribute [local go_sem] max2_int min2_int max_two min_two max_three min_three max_four min_four
/-- the code of a house, a kind and what else is asked -/
def askC (ok : Bool) (kind : Int) (n : Nat) (fine : Bool) : Int := if ok = true then (if (decide (0 ≤ kind ∧ kind ≤ (n : Int) - 1) && fine) = true then 0 else 2) else 1
theorem askC_zero {ok : Bool} {kind : Int} {n : Nat} {fine : Bool} (h : askC ok kind n fine = 0) : ok = true ∧ (0 ≤ kind ∧ kind ≤ (n : Int) - 1) ∧ fine = true := by
  unfold askC at h
  split at h
  · split at h
    · rename_i h1 h2; simp only [Bool.and_eq_true, decide_eq_true_eq] at h2; exact ⟨h1, h2.1, h2.2⟩
    · cases h
  · cases h
/-- pieces are added -/
def addF (f : Nat → Int) (o : Nat) (p : Int) : Nat → Int := upd f (o + 7) (f (o + 7) + p)
/-- rags are mended -/
def mendF (f : Nat → Int) (o u : Nat) (p : Int) : Nat → Int := upd (upd f (o + 24) (f (o + 24) - p)) (o + u) (f (o + u) + p)
theorem addF_rng {f : Nat → Int} {o : Nat} {p : Int} (h : Good f o) (hp : 0 ≤ p ∧ p ≤ 500) : Rng1 (addF f o p) o := by
  refine ⟨fun j hj => ?_, ?_⟩
  · unfold addF
    rw [upd_at]
    have h1 := h.1 j (by omega)
    have h2 := h.le (i := j) (by omega)
    split
    · rename_i e; subst e; omega
    · omega
  · unfold addF
    rw [upd_at, if_neg (by omega)]
    have h1 := h.1 24 (by omega)
    have h2 := h.le (i := 24) (by omega)
    omega
set_option maxHeartbeats 8000000 in
set_option maxRecDepth 100000 in
theorem l05Asked_calls (f : Nat → Int) (n c g hb : Nat) (tub every today : Int) (kind : Int) (fine : Bool) (hn : n ≤ 1048576) (hR : Rng f n) (ht : -32768 ≤ tub ∧ tub ≤ 32767) (hv : -128 ≤ every ∧ every ≤ 127) (hd : -32768 ≤ today ∧ today ≤ 32767) (w : World) (hH : Blk w hb 40 (hcells (some ⟨g, 0, none⟩) n c tub every today)) (hB : Rw w g n f) :
    Calls Try.prog 98 #[.pointer (some ⟨hb, 0, none⟩), .int .i64 kind, .bool fine] w fun e w' => e = .returned (.int .i64 (askC (houseB f n tub every today) kind n fine)) ∧ Below w.heap.size w w' := by
  have HK := Aside0.mk (l05Ok_calls f n c g hb tub every today hn hR ht hv hd w hH hB)
  have HI := Aside0.mk (fun W => in_q kind 0 ((n : Int) - 1) W)
  have HA : Aside0 (askC (houseB f n tub every today) kind n fine = if houseB f n tub every today = true then (if (decide (0 ≤ kind ∧ kind ≤ (n : Int) - 1) && fine) = true then 0 else 2) else 1) := ⟨rfl⟩
  have HH := Aside0.mk hH
  generalize askC (houseB f n tub every today) kind n fine = r at *
  generalize houseB f n tub every today = ok at *
  generalize decide (0 ≤ kind ∧ kind ≤ (n : Int) - 1) = b at *
  have hw1 : IntKind.i64.wrap ((n : Int) - 1) = (n : Int) - 1 := IntWalk.i64_in _ ⟨by omega, by omega⟩
  clear hR ht hv hd hH hB
  cases ok
  · go_enter Try.func98, Try.ntmps98
    go_wp2_with fail
    refine HK.out.mono ?_
    rintro e w1 ⟨rfl, hb⟩
    have HW := Aside0.mk hb
    clear hb
    go_wp2
    go_ret
    exact ⟨by rw [HA.out]; rfl, HW.out⟩
  · cases b
    all_goals cases fine
    all_goals
      go_enter Try.func98, Try.ntmps98
      go_wp2_with fail
      refine HK.out.mono ?_
      rintro e w1 ⟨rfl, hb⟩
      have HW := Aside0.mk hb
      have c0 := (HH.out.below hb).cell 0 (v := .slice (some ⟨g, 0, none⟩) n c) rfl
      clear hb
      go_wp2_with (go_at_call 74; refine (HI.out _).mono ?_; rintro e w' ⟨rfl, rfl⟩)
      go_ret
      exact ⟨by rw [HA.out]; rfl, HW.out⟩
set_option maxHeartbeats 8000000 in
set_option maxRecDepth 100000 in
theorem kindCode_calls (f : Nat → Int) (n c g : Nat) (tub every today : Int) (kind pieces : Int) (hn : n ≤ 1048576) (hR : Rng f n) (ht : -32768 ≤ tub ∧ tub ≤ 32767) (hv : -128 ≤ every ∧ every ≤ 127) (hd : -32768 ≤ today ∧ today ≤ 32767) (w : World) (hB : Rw w g n f) :
    Calls Try.prog 99 #[.agg #[.slice (some ⟨g, 0, none⟩) n c, .int .i16 tub, .int .i8 every, .int .i16 today], .int .i64 kind, .int .i64 pieces] w fun e w' => e = .returned (.int .i64 (askC (houseB f n tub every today) kind n (decide (0 ≤ pieces ∧ pieces ≤ 500)))) ∧ Below w.heap.size w w' := by
  have HK := Aside0.mk (fun W h => implVH_calls f n c g tub every today hn hR ht hv hd W h)
  have HSZ := Aside0.mk (fun W => sizeK_q (some ⟨g, 0, none⟩) n c W)
  have HI := Aside0.mk (fun W => within_q kind 0 ((n : Int) - 1) W)
  have HP := Aside0.mk (fun W => isPieces_q pieces W)
  have HA : Aside0 (askC (houseB f n tub every today) kind n (decide (0 ≤ pieces ∧ pieces ≤ 500)) = if houseB f n tub every today = true then (if (decide (0 ≤ kind ∧ kind ≤ (n : Int) - 1) && (decide (0 ≤ pieces ∧ pieces ≤ 500))) = true then 0 else 2) else 1) := ⟨rfl⟩
  obtain ⟨r, hr⟩ : ∃ r, askC (houseB f n tub every today) kind n (decide (0 ≤ pieces ∧ pieces ≤ 500)) = r := ⟨_, rfl⟩
  rw [hr] at HA ⊢
  generalize houseB f n tub every today = ok at *
  generalize decide (0 ≤ kind ∧ kind ≤ (n : Int) - 1) = b at *
  generalize decide (0 ≤ pieces ∧ pieces ≤ 500) = fine at *
  have HU1 := Aside0.mk (fun W => unless_q ok 1 W)
  obtain ⟨c1, hc1⟩ : ∃ x, (if ok = true then (0 : Int) else 1) = x := ⟨_, rfl⟩
  rw [hc1] at HU1
  have hsub : IntKind.i64.wrap ((n : Int) - 1) = (n : Int) - 1 := IntWalk.i64_in _ ⟨by omega, by omega⟩
  have HB0 : Aside0 (Blk (w.alloc (.cells #[.slice (some ⟨g, 0, none⟩) n c, .int .i16 tub, .int .i8 every, .int .i16 today] 40)) w.heap.size 40 (hcells (some ⟨g, 0, none⟩) n c tub every today)) := ⟨Blk.new w _ _⟩
  have HR1 : Aside0 (Rw (w.alloc (.cells #[.slice (some ⟨g, 0, none⟩) n c, .int .i16 tub, .int .i8 every, .int .i16 today] 40)).drew g n f) := ⟨(hB.alloc _).drew⟩
  have HW1 : Aside0 (Below w.heap.size w (w.alloc (.cells #[.slice (some ⟨g, 0, none⟩) n c, .int .i16 tub, .int .i8 every, .int .i16 today] 40)).drew) := ⟨below_drew (below_alloc (Below.refl _ _) _)⟩
  have c_0 := HB0.out.drew.cell 0 (v := .slice (some ⟨g, 0, none⟩) n c) rfl
  have c_1 := HB0.out.drew.cell 1 (v := .int .i16 tub) rfl
  have c_2 := HB0.out.drew.cell 2 (v := .int .i8 every) rfl
  have c_3 := HB0.out.drew.cell 3 (v := .int .i16 today) rfl
  clear hR ht hv hd hB hr HB0
  cases b
  · have HU2 := Aside0.mk (fun W => unless_q false 2 W)
    obtain ⟨c2, hc2⟩ : ∃ x, (if false = true then (0 : Int) else 2) = x := ⟨_, rfl⟩
    rw [hc2] at HU2
    have HZ : Aside0 (r = firstL [c1, c2]) := ⟨by rw [HA.out, ← hc1, ← hc2]; cases ok <;> rfl⟩
    clear hc1 hc2 HA
    go_enter Try.func99, Try.ntmps99
    go_wp2_with fail
    refine start_ (n := 17) (S := (fun w' => w'.cell? ⟨w.heap.size, 0, none⟩ = some (.slice (some ⟨g, 0, none⟩) n c) ∧ w'.cell? ⟨w.heap.size, 1, none⟩ = some (.int .i16 tub) ∧ w'.cell? ⟨w.heap.size, 2, none⟩ = some (.int .i8 every) ∧ w'.cell? ⟨w.heap.size, 3, none⟩ = some (.int .i16 today))) (ds := []) #[false, false, false, false, false, false, false, false, false, false, false, false, false, false, false, false, false] (by kernel_rfl) rfl rfl ⟨c_0, c_1, c_2, c_3⟩ (fun hHeld => ?_)
    generalize (w.alloc (.cells #[.slice (some ⟨g, 0, none⟩) n c, .int .i16 tub, .int .i8 every, .int .i16 today] 40)).drew = w1 at *
    refine take_ (i := 0) (N := some 7) (v := ?_) (a' := ?_) #[true, false, false, false, false, false, false, false, false, false, false, false, false, false, false, false, false] rfl rfl (by kernel_rfl) (fun _ _ _ h => h) (Or.inl ⟨by rfl, ?_⟩) hHeld ?_ ?_
    rotate_left
    · rintro w' ⟨s0, s1, s2, s3⟩
      go_simp
      with_reducible rfl
    rotate_left
    · simp only [Act.put, List.setIfInBounds_toArray, List.set_cons_zero, List.set_cons_succ, i64_w, i32_w, hsub]
      rfl
    refine pure_ (i := 3) (N := some 10) (v := ?_) (a' := ?_) #[true, false, false, true, false, false, false, false, false, false, false, false, false, false, false, false, false] rfl rfl (by kernel_rfl) (fun _ _ _ h => h) (Or.inl ⟨by rfl, ?_⟩) ?_ ?_
    rotate_left
    · intro w'
      go_simp
      with_reducible rfl
    rotate_left
    · simp only [Act.put, List.setIfInBounds_toArray, List.set_cons_zero, List.set_cons_succ, i64_w, i32_w, hsub]
      rfl
    refine pure_ (i := 4) (N := some 11) (v := ?_) (a' := ?_) #[true, false, false, true, true, false, false, false, false, false, false, false, false, false, false, false, false] rfl rfl (by kernel_rfl) (fun _ _ _ h => h) (Or.inl ⟨by rfl, ?_⟩) ?_ ?_
    rotate_left
    · intro w'
      go_simp
      with_reducible rfl
    rotate_left
    · simp only [Act.put, List.setIfInBounds_toArray, List.set_cons_zero, List.set_cons_succ, i64_w, i32_w, hsub]
      rfl
    refine take_ (i := 5) (N := some 12) (v := ?_) (a' := ?_) #[true, false, false, true, true, true, false, false, false, false, false, false, false, false, false, false, false] rfl rfl (by kernel_rfl) (fun _ _ _ h => h) (Or.inl ⟨by rfl, ?_⟩) hHeld ?_ ?_
    rotate_left
    · rintro w' ⟨s0, s1, s2, s3⟩
      go_simp
      with_reducible rfl
    rotate_left
    · simp only [Act.put, List.setIfInBounds_toArray, List.set_cons_zero, List.set_cons_succ, i64_w, i32_w, hsub]
      rfl
    refine one_ (i := 1) (N := some 8) #[true, true, false, true, true, true, false, false, false, false, false, false, false, false, false, false, false] rfl rfl (by kernel_rfl) (by decide) (fun K hK => ?_)
    refine goes_ Try.func28 (by kernel_rfl) rfl #[.agg #[.slice (some ⟨g, 0, none⟩) n c, .int .i16 tub, .int .i8 every, .int .i16 today]] (by rfl) rfl rfl (by (try simp only [List.map_toArray, List.map_cons, List.map_nil]); first | done | rfl) ?_
    refine (HK.out _ HR1.out).mono ?_
    rintro e w2 ⟨rfl, hb⟩
    have HW2 := Aside0.mk (below_step HW1.out hb)
    refine ⟨_, rfl, ?_⟩
    refine hK.out _ _ (by obtain ⟨s0, s1, s2, s3⟩ := hHeld; exact ⟨pw_cell_below hb s0, pw_cell_below hb s1, pw_cell_below hb s2, pw_cell_below hb s3⟩) (fun hHeld => ?_)
    clear hK K
    clear hb
    refine norm_ (a' := ?_) ?_ ?_
    rotate_left
    · show Act.put _ (some 8) _ = _
      simp only [Act.put, List.setIfInBounds_toArray, List.set_cons_zero, List.set_cons_succ, i64_w, i32_w, hsub]
      rfl
    refine one_ (i := 2) (N := some 9) #[true, true, true, true, true, true, false, false, false, false, false, false, false, false, false, false, false] rfl rfl (by kernel_rfl) (by decide) (fun K hK => ?_)
    refine goes_ Try.func84 (by kernel_rfl) rfl #[.bool ok, .int .i64 1] (by rfl) rfl rfl (by (try simp only [List.map_toArray, List.map_cons, List.map_nil]); first | done | rfl) ?_
    refine (HU1.out _).mono ?_
    rintro e w' ⟨rfl, rfl⟩
    refine ⟨_, rfl, ?_⟩
    refine hK.out _ _ hHeld (fun hHeld => ?_)
    clear hK K
    refine norm_ (a' := ?_) ?_ ?_
    rotate_left
    · show Act.put _ (some 9) _ = _
      simp only [Act.put, List.setIfInBounds_toArray, List.set_cons_zero, List.set_cons_succ, i64_w, i32_w, hsub]
      rfl
    refine one_ (i := 6) (N := some 13) #[true, true, true, true, true, true, true, false, false, false, false, false, false, false, false, false, false] rfl rfl (by kernel_rfl) (by decide) (fun K hK => ?_)
    refine goes_ Try.func71 (by kernel_rfl) rfl #[.slice (some ⟨g, 0, none⟩) n c] (by rfl) rfl rfl (by (try simp only [List.map_toArray, List.map_cons, List.map_nil]); first | done | rfl) ?_
    refine (HSZ.out _).mono ?_
    rintro e w' ⟨rfl, rfl⟩
    refine ⟨_, rfl, ?_⟩
    refine hK.out _ _ hHeld (fun hHeld => ?_)
    clear hK K
    refine norm_ (a' := ?_) ?_ ?_
    rotate_left
    · show Act.put _ (some 13) _ = _
      simp only [Act.put, List.setIfInBounds_toArray, List.set_cons_zero, List.set_cons_succ, i64_w, i32_w, hsub]
      rfl
    refine pure_ (i := 7) (N := some 14) (v := ?_) (a' := ?_) #[true, true, true, true, true, true, true, true, false, false, false, false, false, false, false, false, false] rfl rfl (by kernel_rfl) (fun _ _ _ h => h) (Or.inl ⟨by rfl, ?_⟩) ?_ ?_
    rotate_left
    · intro w'
      go_simp
      with_reducible rfl
    rotate_left
    · simp only [Act.put, List.setIfInBounds_toArray, List.set_cons_zero, List.set_cons_succ, i64_w, i32_w, hsub]
      rfl
    refine one_ (i := 8) (N := some 15) #[true, true, true, true, true, true, true, true, true, false, false, false, false, false, false, false, false] rfl rfl (by kernel_rfl) (by decide) (fun K hK => ?_)
    refine goes_ Try.func70 (by kernel_rfl) rfl #[.int .i64 kind, .int .i64 0, .int .i64 ((n : Int) - 1)] (by rfl) rfl rfl (by (try simp only [List.map_toArray, List.map_cons, List.map_nil]); first | done | rfl) ?_
    refine (HI.out _).mono ?_
    rintro e w' ⟨rfl, rfl⟩
    refine ⟨_, rfl, ?_⟩
    refine hK.out _ _ hHeld (fun hHeld => ?_)
    clear hK K
    refine norm_ (a' := ?_) ?_ ?_
    rotate_left
    · show Act.put _ (some 15) _ = _
      simp only [Act.put, List.setIfInBounds_toArray, List.set_cons_zero, List.set_cons_succ, i64_w, i32_w, hsub]
      rfl
    refine pure_ (i := 9) (N := some 16) (v := ?_) (a' := ?_) #[true, true, true, true, true, true, true, true, true, true, false, false, false, false, false, false, false] rfl rfl (by kernel_rfl) (fun _ _ _ h => h) (Or.inl ⟨by rfl, ?_⟩) ?_ ?_
    rotate_left
    · intro w'
      go_simp
      with_reducible rfl
    rotate_left
    · simp only [Act.put, List.setIfInBounds_toArray, List.set_cons_zero, List.set_cons_succ, i64_w, i32_w, hsub]
      rfl
    refine pure_ (i := 10) (N := some 17) (v := undef) (a' := ?_) #[true, true, true, true, true, true, true, true, true, true, true, false, false, false, false, false, false] rfl rfl (by kernel_rfl) (fun _ _ _ h => h) (Or.inr ⟨by rfl, rfl⟩) ?_ ?_
    rotate_left
    · simp only [Act.put, List.setIfInBounds_toArray, List.set_cons_zero, List.set_cons_succ, i64_w, i32_w, hsub]
      rfl
    refine pure_ (i := 11) (N := some 18) (v := undef) (a' := ?_) #[true, true, true, true, true, true, true, true, true, true, true, true, false, false, false, false, false] rfl rfl (by kernel_rfl) (fun _ _ _ h => h) (Or.inr ⟨by rfl, rfl⟩) ?_ ?_
    rotate_left
    · simp only [Act.put, List.setIfInBounds_toArray, List.set_cons_zero, List.set_cons_succ, i64_w, i32_w, hsub]
      rfl
    refine pure_ (i := 12) (N := some 19) (v := ?_) (a' := ?_) #[true, true, true, true, true, true, true, true, true, true, true, true, true, false, false, false, false] rfl rfl (by kernel_rfl) (fun _ _ _ h => h) (Or.inl ⟨by rfl, ?_⟩) ?_ ?_
    rotate_left
    · intro w'
      go_simp
      with_reducible rfl
    rotate_left
    · simp only [Act.put, List.setIfInBounds_toArray, List.set_cons_zero, List.set_cons_succ, i64_w, i32_w, hsub]
      rfl
    refine one_ (i := 13) (N := some 20) #[true, true, true, true, true, true, true, true, true, true, true, true, true, true, false, false, false] rfl rfl (by kernel_rfl) (by decide) (fun K hK => ?_)
    refine goes_ Try.func84 (by kernel_rfl) rfl #[.bool false, .int .i64 2] (by rfl) rfl rfl (by (try simp only [List.map_toArray, List.map_cons, List.map_nil]); first | done | rfl) ?_
    refine (HU2.out _).mono ?_
    rintro e w' ⟨rfl, rfl⟩
    refine ⟨_, rfl, ?_⟩
    refine hK.out _ _ hHeld (fun hHeld => ?_)
    clear hK K
    refine norm_ (a' := ?_) ?_ ?_
    rotate_left
    · show Act.put _ (some 20) _ = _
      simp only [Act.put, List.setIfInBounds_toArray, List.set_cons_zero, List.set_cons_succ, i64_w, i32_w, hsub]
      rfl
    refine one_ (i := 14) (N := some 21) #[true, true, true, true, true, true, true, true, true, true, true, true, true, true, true, false, false] rfl rfl (by kernel_rfl) (by decide) (fun K hK => ?_)
    refine value_ (v := ?_) (w1 := ?_) (by rfl) rfl ?_ ?_
    rotate_left
    rotate_left
    · go_simp
      first | (refine ⟨?_, ?_⟩ <;> rfl) | rfl
    refine hK.out _ _ (by obtain ⟨s0, s1, s2, s3⟩ := hHeld; exact ⟨pw_cell_below (below_alloc (Below.refl _ _) _) s0, pw_cell_below (below_alloc (Below.refl _ _) _) s1, pw_cell_below (below_alloc (Below.refl _ _) _) s2, pw_cell_below (below_alloc (Below.refl _ _) _) s3⟩) (fun hHeld => ?_)
    clear hK K
    refine norm_ (a' := ?_) ?_ ?_
    rotate_left
    · show Act.put _ (some 21) _ = _
      simp only [Act.put, List.setIfInBounds_toArray, List.set_cons_zero, List.set_cons_succ, i64_w, i32_w, hsub]
      rfl
    refine one_ (i := 15) (N := some 22) #[true, true, true, true, true, true, true, true, true, true, true, true, true, true, true, true, false] rfl rfl (by kernel_rfl) (by decide) (fun K hK => ?_)
    refine goes_ Try.func83 (by kernel_rfl) rfl #[.slice (some ⟨_, 0, none⟩) 2 2] (by rfl) rfl rfl (by (try simp only [List.map_toArray, List.map_cons, List.map_nil]); first | done | rfl) ?_
    refine (firstOf_q [c1, c2] _ 2 2 _ rfl (by decide) (fun k hk => by
          have : k = 0 ∨ k = 1 := by omega
          rcases this with rfl | rfl <;> (go_simp; try rfl))).mono ?_
    rintro e w' ⟨rfl, rfl⟩
    refine ⟨_, rfl, ?_⟩
    refine hK.out _ _ hHeld (fun hHeld => ?_)
    clear hK K
    refine norm_ (a' := ?_) ?_ ?_
    rotate_left
    · show Act.put _ (some 22) _ = _
      simp only [Act.put, List.setIfInBounds_toArray, List.set_cons_zero, List.set_cons_succ, i64_w, i32_w, hsub]
      rfl
    refine pure_ (i := 16) (N := some 6) (v := ?_) (a' := ?_) #[true, true, true, true, true, true, true, true, true, true, true, true, true, true, true, true, true] rfl rfl (by kernel_rfl) (fun _ _ _ h => h) (Or.inl ⟨by rfl, ?_⟩) ?_ ?_
    rotate_left
    · intro w'
      go_simp
      with_reducible rfl
    rotate_left
    · simp only [Act.put, List.setIfInBounds_toArray, List.set_cons_zero, List.set_cons_succ, i64_w, i32_w, hsub]
      rfl
    refine done_ (by kernel_rfl) ?_
    go_wp2
    go_ret
    exact ⟨by rw [HZ.out]; rfl, below_alloc HW2.out _⟩
  · have HU2 := Aside0.mk (fun W => unless_q fine 2 W)
    obtain ⟨c2, hc2⟩ : ∃ x, (if fine = true then (0 : Int) else 2) = x := ⟨_, rfl⟩
    rw [hc2] at HU2
    have HZ : Aside0 (r = firstL [c1, c2]) := ⟨by rw [HA.out, ← hc1, ← hc2]; cases ok <;> cases fine <;> rfl⟩
    clear hc1 hc2 HA
    go_enter Try.func99, Try.ntmps99
    go_wp2_with fail
    refine start_ (n := 17) (S := (fun w' => w'.cell? ⟨w.heap.size, 0, none⟩ = some (.slice (some ⟨g, 0, none⟩) n c) ∧ w'.cell? ⟨w.heap.size, 1, none⟩ = some (.int .i16 tub) ∧ w'.cell? ⟨w.heap.size, 2, none⟩ = some (.int .i8 every) ∧ w'.cell? ⟨w.heap.size, 3, none⟩ = some (.int .i16 today))) (ds := []) #[false, false, false, false, false, false, false, false, false, false, false, false, false, false, false, false, false] (by kernel_rfl) rfl rfl ⟨c_0, c_1, c_2, c_3⟩ (fun hHeld => ?_)
    generalize (w.alloc (.cells #[.slice (some ⟨g, 0, none⟩) n c, .int .i16 tub, .int .i8 every, .int .i16 today] 40)).drew = w1 at *
    refine take_ (i := 0) (N := some 7) (v := ?_) (a' := ?_) #[true, false, false, false, false, false, false, false, false, false, false, false, false, false, false, false, false] rfl rfl (by kernel_rfl) (fun _ _ _ h => h) (Or.inl ⟨by rfl, ?_⟩) hHeld ?_ ?_
    rotate_left
    · rintro w' ⟨s0, s1, s2, s3⟩
      go_simp
      with_reducible rfl
    rotate_left
    · simp only [Act.put, List.setIfInBounds_toArray, List.set_cons_zero, List.set_cons_succ, i64_w, i32_w, hsub]
      rfl
    refine pure_ (i := 3) (N := some 10) (v := ?_) (a' := ?_) #[true, false, false, true, false, false, false, false, false, false, false, false, false, false, false, false, false] rfl rfl (by kernel_rfl) (fun _ _ _ h => h) (Or.inl ⟨by rfl, ?_⟩) ?_ ?_
    rotate_left
    · intro w'
      go_simp
      with_reducible rfl
    rotate_left
    · simp only [Act.put, List.setIfInBounds_toArray, List.set_cons_zero, List.set_cons_succ, i64_w, i32_w, hsub]
      rfl
    refine pure_ (i := 4) (N := some 11) (v := ?_) (a' := ?_) #[true, false, false, true, true, false, false, false, false, false, false, false, false, false, false, false, false] rfl rfl (by kernel_rfl) (fun _ _ _ h => h) (Or.inl ⟨by rfl, ?_⟩) ?_ ?_
    rotate_left
    · intro w'
      go_simp
      with_reducible rfl
    rotate_left
    · simp only [Act.put, List.setIfInBounds_toArray, List.set_cons_zero, List.set_cons_succ, i64_w, i32_w, hsub]
      rfl
    refine take_ (i := 5) (N := some 12) (v := ?_) (a' := ?_) #[true, false, false, true, true, true, false, false, false, false, false, false, false, false, false, false, false] rfl rfl (by kernel_rfl) (fun _ _ _ h => h) (Or.inl ⟨by rfl, ?_⟩) hHeld ?_ ?_
    rotate_left
    · rintro w' ⟨s0, s1, s2, s3⟩
      go_simp
      with_reducible rfl
    rotate_left
    · simp only [Act.put, List.setIfInBounds_toArray, List.set_cons_zero, List.set_cons_succ, i64_w, i32_w, hsub]
      rfl
    refine one_ (i := 1) (N := some 8) #[true, true, false, true, true, true, false, false, false, false, false, false, false, false, false, false, false] rfl rfl (by kernel_rfl) (by decide) (fun K hK => ?_)
    refine goes_ Try.func28 (by kernel_rfl) rfl #[.agg #[.slice (some ⟨g, 0, none⟩) n c, .int .i16 tub, .int .i8 every, .int .i16 today]] (by rfl) rfl rfl (by (try simp only [List.map_toArray, List.map_cons, List.map_nil]); first | done | rfl) ?_
    refine (HK.out _ HR1.out).mono ?_
    rintro e w2 ⟨rfl, hb⟩
    have HW2 := Aside0.mk (below_step HW1.out hb)
    refine ⟨_, rfl, ?_⟩
    refine hK.out _ _ (by obtain ⟨s0, s1, s2, s3⟩ := hHeld; exact ⟨pw_cell_below hb s0, pw_cell_below hb s1, pw_cell_below hb s2, pw_cell_below hb s3⟩) (fun hHeld => ?_)
    clear hK K
    clear hb
    refine norm_ (a' := ?_) ?_ ?_
    rotate_left
    · show Act.put _ (some 8) _ = _
      simp only [Act.put, List.setIfInBounds_toArray, List.set_cons_zero, List.set_cons_succ, i64_w, i32_w, hsub]
      rfl
    refine one_ (i := 2) (N := some 9) #[true, true, true, true, true, true, false, false, false, false, false, false, false, false, false, false, false] rfl rfl (by kernel_rfl) (by decide) (fun K hK => ?_)
    refine goes_ Try.func84 (by kernel_rfl) rfl #[.bool ok, .int .i64 1] (by rfl) rfl rfl (by (try simp only [List.map_toArray, List.map_cons, List.map_nil]); first | done | rfl) ?_
    refine (HU1.out _).mono ?_
    rintro e w' ⟨rfl, rfl⟩
    refine ⟨_, rfl, ?_⟩
    refine hK.out _ _ hHeld (fun hHeld => ?_)
    clear hK K
    refine norm_ (a' := ?_) ?_ ?_
    rotate_left
    · show Act.put _ (some 9) _ = _
      simp only [Act.put, List.setIfInBounds_toArray, List.set_cons_zero, List.set_cons_succ, i64_w, i32_w, hsub]
      rfl
    refine one_ (i := 6) (N := some 13) #[true, true, true, true, true, true, true, false, false, false, false, false, false, false, false, false, false] rfl rfl (by kernel_rfl) (by decide) (fun K hK => ?_)
    refine goes_ Try.func71 (by kernel_rfl) rfl #[.slice (some ⟨g, 0, none⟩) n c] (by rfl) rfl rfl (by (try simp only [List.map_toArray, List.map_cons, List.map_nil]); first | done | rfl) ?_
    refine (HSZ.out _).mono ?_
    rintro e w' ⟨rfl, rfl⟩
    refine ⟨_, rfl, ?_⟩
    refine hK.out _ _ hHeld (fun hHeld => ?_)
    clear hK K
    refine norm_ (a' := ?_) ?_ ?_
    rotate_left
    · show Act.put _ (some 13) _ = _
      simp only [Act.put, List.setIfInBounds_toArray, List.set_cons_zero, List.set_cons_succ, i64_w, i32_w, hsub]
      rfl
    refine pure_ (i := 7) (N := some 14) (v := ?_) (a' := ?_) #[true, true, true, true, true, true, true, true, false, false, false, false, false, false, false, false, false] rfl rfl (by kernel_rfl) (fun _ _ _ h => h) (Or.inl ⟨by rfl, ?_⟩) ?_ ?_
    rotate_left
    · intro w'
      go_simp
      with_reducible rfl
    rotate_left
    · simp only [Act.put, List.setIfInBounds_toArray, List.set_cons_zero, List.set_cons_succ, i64_w, i32_w, hsub]
      rfl
    refine one_ (i := 8) (N := some 15) #[true, true, true, true, true, true, true, true, true, false, false, false, false, false, false, false, false] rfl rfl (by kernel_rfl) (by decide) (fun K hK => ?_)
    refine goes_ Try.func70 (by kernel_rfl) rfl #[.int .i64 kind, .int .i64 0, .int .i64 ((n : Int) - 1)] (by rfl) rfl rfl (by (try simp only [List.map_toArray, List.map_cons, List.map_nil]); first | done | rfl) ?_
    refine (HI.out _).mono ?_
    rintro e w' ⟨rfl, rfl⟩
    refine ⟨_, rfl, ?_⟩
    refine hK.out _ _ hHeld (fun hHeld => ?_)
    clear hK K
    refine norm_ (a' := ?_) ?_ ?_
    rotate_left
    · show Act.put _ (some 15) _ = _
      simp only [Act.put, List.setIfInBounds_toArray, List.set_cons_zero, List.set_cons_succ, i64_w, i32_w, hsub]
      rfl
    refine pure_ (i := 9) (N := some 16) (v := ?_) (a' := ?_) #[true, true, true, true, true, true, true, true, true, true, false, false, false, false, false, false, false] rfl rfl (by kernel_rfl) (fun _ _ _ h => h) (Or.inl ⟨by rfl, ?_⟩) ?_ ?_
    rotate_left
    · intro w'
      go_simp
      with_reducible rfl
    rotate_left
    · simp only [Act.put, List.setIfInBounds_toArray, List.set_cons_zero, List.set_cons_succ, i64_w, i32_w, hsub]
      rfl
    refine pure_ (i := 10) (N := some 17) (v := ?_) (a' := ?_) #[true, true, true, true, true, true, true, true, true, true, true, false, false, false, false, false, false] rfl rfl (by kernel_rfl) (fun _ _ _ h => h) (Or.inl ⟨by rfl, ?_⟩) ?_ ?_
    rotate_left
    · intro w'
      go_simp
      with_reducible rfl
    rotate_left
    · simp only [Act.put, List.setIfInBounds_toArray, List.set_cons_zero, List.set_cons_succ, i64_w, i32_w, hsub]
      rfl
    refine one_ (i := 11) (N := some 18) #[true, true, true, true, true, true, true, true, true, true, true, true, false, false, false, false, false] rfl rfl (by kernel_rfl) (by decide) (fun K hK => ?_)
    refine goes_ Try.func85 (by kernel_rfl) rfl #[.int .i64 pieces] (by rfl) rfl rfl (by (try simp only [List.map_toArray, List.map_cons, List.map_nil]); first | done | rfl) ?_
    refine (HP.out _).mono ?_
    rintro e w' ⟨rfl, rfl⟩
    refine ⟨_, rfl, ?_⟩
    refine hK.out _ _ hHeld (fun hHeld => ?_)
    clear hK K
    refine norm_ (a' := ?_) ?_ ?_
    rotate_left
    · show Act.put _ (some 18) _ = _
      simp only [Act.put, List.setIfInBounds_toArray, List.set_cons_zero, List.set_cons_succ, i64_w, i32_w, hsub]
      rfl
    refine pure_ (i := 12) (N := some 19) (v := ?_) (a' := ?_) #[true, true, true, true, true, true, true, true, true, true, true, true, true, false, false, false, false] rfl rfl (by kernel_rfl) (fun _ _ _ h => h) (Or.inl ⟨by rfl, ?_⟩) ?_ ?_
    rotate_left
    · intro w'
      go_simp
      with_reducible rfl
    rotate_left
    · simp only [Act.put, List.setIfInBounds_toArray, List.set_cons_zero, List.set_cons_succ, i64_w, i32_w, hsub]
      rfl
    refine one_ (i := 13) (N := some 20) #[true, true, true, true, true, true, true, true, true, true, true, true, true, true, false, false, false] rfl rfl (by kernel_rfl) (by decide) (fun K hK => ?_)
    refine goes_ Try.func84 (by kernel_rfl) rfl #[.bool fine, .int .i64 2] (by rfl) rfl rfl (by (try simp only [List.map_toArray, List.map_cons, List.map_nil]); first | done | rfl) ?_
    refine (HU2.out _).mono ?_
    rintro e w' ⟨rfl, rfl⟩
    refine ⟨_, rfl, ?_⟩
    refine hK.out _ _ hHeld (fun hHeld => ?_)
    clear hK K
    refine norm_ (a' := ?_) ?_ ?_
    rotate_left
    · show Act.put _ (some 20) _ = _
      simp only [Act.put, List.setIfInBounds_toArray, List.set_cons_zero, List.set_cons_succ, i64_w, i32_w, hsub]
      rfl
    refine one_ (i := 14) (N := some 21) #[true, true, true, true, true, true, true, true, true, true, true, true, true, true, true, false, false] rfl rfl (by kernel_rfl) (by decide) (fun K hK => ?_)
    refine value_ (v := ?_) (w1 := ?_) (by rfl) rfl ?_ ?_
    rotate_left
    rotate_left
    · go_simp
      first | (refine ⟨?_, ?_⟩ <;> rfl) | rfl
    refine hK.out _ _ (by obtain ⟨s0, s1, s2, s3⟩ := hHeld; exact ⟨pw_cell_below (below_alloc (Below.refl _ _) _) s0, pw_cell_below (below_alloc (Below.refl _ _) _) s1, pw_cell_below (below_alloc (Below.refl _ _) _) s2, pw_cell_below (below_alloc (Below.refl _ _) _) s3⟩) (fun hHeld => ?_)
    clear hK K
    refine norm_ (a' := ?_) ?_ ?_
    rotate_left
    · show Act.put _ (some 21) _ = _
      simp only [Act.put, List.setIfInBounds_toArray, List.set_cons_zero, List.set_cons_succ, i64_w, i32_w, hsub]
      rfl
    refine one_ (i := 15) (N := some 22) #[true, true, true, true, true, true, true, true, true, true, true, true, true, true, true, true, false] rfl rfl (by kernel_rfl) (by decide) (fun K hK => ?_)
    refine goes_ Try.func83 (by kernel_rfl) rfl #[.slice (some ⟨_, 0, none⟩) 2 2] (by rfl) rfl rfl (by (try simp only [List.map_toArray, List.map_cons, List.map_nil]); first | done | rfl) ?_
    refine (firstOf_q [c1, c2] _ 2 2 _ rfl (by decide) (fun k hk => by
          have : k = 0 ∨ k = 1 := by omega
          rcases this with rfl | rfl <;> (go_simp; try rfl))).mono ?_
    rintro e w' ⟨rfl, rfl⟩
    refine ⟨_, rfl, ?_⟩
    refine hK.out _ _ hHeld (fun hHeld => ?_)
    clear hK K
    refine norm_ (a' := ?_) ?_ ?_
    rotate_left
    · show Act.put _ (some 22) _ = _
      simp only [Act.put, List.setIfInBounds_toArray, List.set_cons_zero, List.set_cons_succ, i64_w, i32_w, hsub]
      rfl
    refine pure_ (i := 16) (N := some 6) (v := ?_) (a' := ?_) #[true, true, true, true, true, true, true, true, true, true, true, true, true, true, true, true, true] rfl rfl (by kernel_rfl) (fun _ _ _ h => h) (Or.inl ⟨by rfl, ?_⟩) ?_ ?_
    rotate_left
    · intro w'
      go_simp
      with_reducible rfl
    rotate_left
    · simp only [Act.put, List.setIfInBounds_toArray, List.set_cons_zero, List.set_cons_succ, i64_w, i32_w, hsub]
      rfl
    refine done_ (by kernel_rfl) ?_
    go_wp2
    go_ret
    exact ⟨by rw [HZ.out]; rfl, below_alloc HW2.out _⟩
end Go.Proofs.Ytjmnbikaijphlaa.X
