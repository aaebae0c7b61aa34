/- Contracts of functions, and plain facts: what each call answers, and what it leaves as it was. -/
import Derived.Test.YtjmnbikaijphlaaHTo
set_option linter.unusedVariables false
set_option linter.unusedSimpArgs false
namespace Go.Proofs.Ytjmnbikaijphlaa.X
open Go.RowKit Go.Proofs.YtjmnbikaijphlaaW.PrintWords Go.Proofs.YtjmnbikaijphlaaW.PrintLast Go.Proofs.YtjmnbikaijphlaaW.PrintMore
attribute [local go_sem] max2_int min2_int max_two min_two max_three min_three max_four min_four
/-- eight cells, as an array's equality sees them -/
def seg (f : Nat → Int) (o u : Nat) : Array Value := ((List.range 8).map fun i => Value.int .i16 (f (o + (u + i)))).toArray
theorem part8 (f : Nat → Int) (o u : Nat) (hu : u = 0 ∨ u = 8 ∨ u = 16) (w : World) : (part 23 (cellsAt f o).toArray u).run Try.prog w = .ok (.agg (seg f o u)) w := by
  have e : (List.take 8 (List.drop u (cellsAt f o))).toArray = seg f o u := by rcases hu with rfl | rfl | rfl <;> rfl
  obtain ⟨i0, hi, h1⟩ : ∃ i, Try.prog.info? 23 = some i ∧ i.size = 8 := by
    have hs : (Try.prog.info? 23).map (·.size) = some 8 := by kernel_rfl
    cases h : Try.prog.info? 23 with
    | none => rw [h] at hs; cases hs
    | some i => rw [h] at hs; exact ⟨i, rfl, by simpa using hs⟩
  unfold part
  simp [isAgg, run_underlying Try.underlying23, Sem.run_bind, sizeOf, typeInfo, hi, h1, e]
theorem partR (f : Nat → Int) (o : Nat) (w : World) : (part 21 (cellsAt f o).toArray 24).run Try.prog w = .ok (.int .i32 (f (o + 24))) w := by
  have hg : (cellsAt f o).toArray[24]? = some (.int .i32 (f (o + 24))) := by rfl
  unfold part
  simp [isAgg, run_underlying Try.underlying21, hg, Sem.run_bind]
def sameS (f : Nat → Int) (o : Nat) (f' : Nat → Int) (o' : Nat) : Bool := ((List.range 8).all fun i => f (o + (0 + i)) == f' (o' + (0 + i))) && (((List.range 8).all fun i => f (o + (8 + i)) == f' (o' + (8 + i))) && (((List.range 8).all fun i => f (o + (16 + i)) == f' (o' + (16 + i))) && f (o + 24) == f' (o' + 24)))
theorem sameS_iff (f : Nat → Int) (o : Nat) (f' : Nat → Int) (o' : Nat) : sameS f o f' o' = true ↔ ∀ j, j < 25 → f (o + j) = f' (o' + j) := by
  unfold sameS
  simp only [Bool.and_eq_true, List.all_eq_true, List.mem_range, beq_iff_eq]
  constructor
  · rintro ⟨h1, h2, h3, h4⟩ j hj
    rcases Nat.lt_or_ge j 8 with h | h
    · have := h1 j h; rwa [Nat.zero_add] at this
    · rcases Nat.lt_or_ge j 16 with h' | h'
      · have := h2 (j - 8) (by omega); rwa [show 8 + (j - 8) = j by omega] at this
      · rcases Nat.lt_or_ge j 24 with h'' | h''
        · have := h3 (j - 16) (by omega); rwa [show 16 + (j - 16) = j by omega] at this
        · obtain rfl : j = 24 := by omega
          exact h4
  · intro h
    exact ⟨fun i hi => h _ (by omega), fun i hi => h _ (by omega), fun i hi => h _ (by omega), h 24 (by omega)⟩
theorem eqStk_run (f f' : Nat → Int) (o o' d : Nat) (w : World) : (Op.equalIn (d + 1 + 1 + 1) 27 (.agg (cellsAt f o).toArray) (.agg (cellsAt f' o').toArray)).run Try.prog w = .ok (sameS f o f' o') w := by
  have hi : (Try.prog.info? 22).map (·.size) = some 1 := by kernel_rfl
  have ha : ∀ u, (Op.equalIn (d + 1 + 1) 23 (.agg (seg f o u)) (.agg (seg f' o' u))).run Try.prog w = .ok ((List.range 8).all fun i => f (o + (u + i)) == f' (o' + (u + i))) w := fun u =>
    run_eq_arr Try.underlying23 Try.underlying22 hi (fun i => f (o + (u + i))) (fun i => f' (o' + (u + i)))
  have hr : (Op.equalIn (d + 1 + 1) 21 (.int .i32 (f (o + 24))) (.int .i32 (f' (o' + 24)))).run Try.prog w = .ok (f (o + 24) == f' (o' + 24)) w := run_equalIn_int w _ _ _ _ _ _ Try.underlying21
  refine eqA_of Try.underlying27 (by kernel_rfl) ?_
  exact eqf_cons rfl (part8 f o 0 (.inl rfl) w) (part8 f' o' 0 (.inl rfl) w) (ha 0) (eqf_cons rfl (part8 f o 8 (.inr (.inl rfl)) w) (part8 f' o' 8 (.inr (.inl rfl)) w) (ha 8) (eqf_cons rfl (part8 f o 16 (.inr (.inr rfl)) w) (part8 f' o' 16 (.inr (.inr rfl)) w) (ha 16) (eqf_last rfl (partR f o w) (partR f' o' w) hr)))
theorem neqStk_run (f f' : Nat → Int) (o o' : Nat) (w : World) : (binOp .neq 27 (.agg (cellsAt f o).toArray) (.agg (cellsAt f' o').toArray)).run Try.prog w = .ok (.bool (!sameS f o f' o')) w := by
  rw [run_neq_struct, eqStk_run]; rfl
/-- two rows of n stocks are the same -/
def sameR (f f' : Nat → Int) (n : Nat) : Bool := (List.range n).all fun q => sameS f (25 * q) f' (25 * q)
theorem sameR_succ (f f' : Nat → Int) (k : Nat) : sameR f f' (k + 1) = (sameR f f' k && sameS f (25 * k) f' (25 * k)) := by
  unfold sameR; rw [List.range_succ, List.all_append]; simp
theorem sameR_false {f f' : Nat → Int} {k n : Nat} (h : sameS f (25 * k) f' (25 * k) = false) (hk : k < n) : sameR f f' n = false := by
  unfold sameR
  rw [Bool.eq_false_iff]
  intro h2
  have := List.all_eq_true.1 h2 k (List.mem_range.2 hk)
  rw [this] at h; cases h
set_option maxHeartbeats 8000000 in
set_option maxRecDepth 100000 in
theorem slEqual_calls (f f' : Nat → Int) (n c c' ga gb : Nat) (hn : n ≤ 1048576) (w : World) (hA : Rw w ga n f) (hB : Rw w gb n f') :
    Calls Try.prog 67 #[.slice (some ⟨ga, 0, none⟩) n c, .slice (some ⟨gb, 0, none⟩) n c'] w fun e w' => e = .returned (.bool (sameR f f' n)) ∧ Drawn0 w w' := by
  have HA0 := Aside0.mk hA
  have HC0 := Aside0.mk hB
  clear hA hB
  go_enter Try.func67, Try.ntmps67
  go_wp2
  go_loopw [13] (fun v13 w' => ∃ k : Nat, k ≤ n ∧ v13 = .int .i64 k ∧ Aside0 (sameR f f' k = true) ∧ Aside0 (Drawn0 w w')) (fun v13 _ => n - (intOf v13).toNat)
  case atStart => exact ⟨0, by omega, rfl, ⟨rfl⟩, ⟨Drawn0.refl _⟩⟩
  case round =>
    obtain ⟨k, hk, rfl, HK, HD⟩ := hrel
    by_cases hlt : k < n
    · have HS : Aside0 (sameR f f' (k + 1) = (sameR f f' k && sameS f (25 * k) f' (25 * k))) := ⟨sameR_succ f f' k⟩
      have HSF : Aside0 (sameS f (25 * k) f' (25 * k) = false → sameR f f' n = false) := ⟨fun h => sameR_false h hlt⟩
      have hne := fun W => neqStk_run f f' (25 * k) (25 * k) W
      generalize sameS f (25 * k) f' (25 * k) = b at *
      cases b
      all_goals
        go_wp2_with fail
        refine seq_all (by kernel_rfl) (by kernel_rfl) (fun w1 hw1 => ?_)
        have HR1 : Aside0 (w1.rangeAt ga (k * 25) (cellsAt f (25 * k))) := ⟨by rw [hw1, Nat.mul_comm k 25]; exact (HA0.out.drawn HD.out).drew.range rfl hlt⟩
        have HR2 : Aside0 (w1.rangeAt gb (k * 25) (cellsAt f' (25 * k))) := ⟨by rw [hw1, Nat.mul_comm k 25]; exact (HC0.out.drawn HD.out).drew.range rfl hlt⟩
        have HD1 : Aside0 (Drawn0 w w1) := ⟨by rw [hw1]; exact HD.out.step 1⟩
        clear hw1 HD
        repeat (first | (refine still_load rfl 27 _ rfl (.pointer (some ⟨ga, k * 25, none⟩)) (.agg (cellsAt f (25 * k)).toArray) (by rfl) (run_loadAt_mid w1 ga (k * 25) 27 _ _ HR1.out Try.underlying27 (by rfl) (by rw [cellsAt_len]; kernel_rfl)) ?_) | (refine still_load rfl 27 _ rfl (.pointer (some ⟨gb, k * 25, none⟩)) (.agg (cellsAt f' (25 * k)).toArray) (by rfl) (run_loadAt_mid w1 gb (k * 25) 27 _ _ HR2.out Try.underlying27 (by rfl) (by rw [cellsAt_len]; kernel_rfl)) ?_) | still_step)
        refine wpStill_nil ?_
        go_wp2
      · go_ret
        exact ⟨by rw [HSF.out trivial]; rfl, HD1.out⟩
      · go_roundw
        case rel => exact ⟨k + 1, by omega, by go_num, ⟨by rw [HS.out, HK.out]; rfl⟩, HD1⟩
        case measure => simp [intOf] <;> omega
    · have hkn : k = n := by omega
      have HK2 : Aside0 (sameR f f' n = true) := ⟨by rw [← hkn]; exact HK.out⟩
      go_wp2
      go_ret
      exact ⟨by rw [HK2.out]; rfl, HD.out⟩
/-- two houses are the same -/
def sameH (f f' : Nat → Int) (n n' : Nat) (t t' v v' d d' : Int) : Bool := decide (t = t') && decide (v = v') && decide (d = d') && decide (n = n') && sameR f f' n
theorem sameH_t {f f' : Nat → Int} {n n' : Nat} {t t' v v' d d' : Int} (h : t ≠ t') : sameH f f' n n' t t' v v' d d' = false := by simp [sameH, h]
theorem sameH_v {f f' : Nat → Int} {n n' : Nat} {t t' v v' d d' : Int} (h : v ≠ v') : sameH f f' n n' t t' v v' d d' = false := by simp [sameH, h]
theorem sameH_d {f f' : Nat → Int} {n n' : Nat} {t t' v v' d d' : Int} (h : d ≠ d') : sameH f f' n n' t t' v v' d d' = false := by simp [sameH, h]
theorem sameH_n {f f' : Nat → Int} {n n' : Nat} {t t' v v' d d' : Int} (h : n ≠ n') : sameH f f' n n' t t' v v' d d' = false := by simp [sameH, h]
theorem sameH_all {f f' : Nat → Int} {n : Nat} {t v d : Int} : sameH f f' n n t t v v d d = sameR f f' n := by simp [sameH]
set_option maxHeartbeats 8000000 in
set_option maxRecDepth 100000 in
theorem specSH_calls (f f' : Nat → Int) (n n' c c' ga gb : Nat) (t t' v v' d d' : Int) (hn : n ≤ 1048576) (hn' : n' ≤ 1048576) (w : World) (hA : Rw w ga n f) (hB : Rw w gb n' f') :
    Calls Try.prog 23 #[.agg #[.slice (some ⟨ga, 0, none⟩) n c, .int .i16 t, .int .i8 v, .int .i16 d], .agg #[.slice (some ⟨gb, 0, none⟩) n' c', .int .i16 t', .int .i8 v', .int .i16 d']] w fun e w' => e = .returned (.bool (sameH f f' n n' t t' v v' d d')) ∧ Below w.heap.size w w' := by
  have HA0 := Aside0.mk hA
  have HC0 := Aside0.mk hB
  clear hA hB
  by_cases ht : t = t'
  · subst ht
    by_cases hv : v = v'
    · subst hv
      by_cases hd : d = d'
      · subst hd
        by_cases hn2 : n = n'
        · subst hn2
          rw [sameH_all]
          go_enter Try.func23, Try.ntmps23
          go_wp2
          go_loopw [5] (fun v5 w' => ∃ k : Nat, k ≤ n ∧ v5 = .int .i64 k ∧ Aside0 (sameR f f' k = true) ∧ Aside0 (Blk w' w.heap.size 40 (hcells (some ⟨ga, 0, none⟩) n c t v d)) ∧ Aside0 (Blk w' (w.heap.size + 1) 40 (hcells (some ⟨gb, 0, none⟩) n c' t v d)) ∧ Aside0 (Rw w' ga n f) ∧ Aside0 (Rw w' gb n f') ∧ Aside0 (Below w.heap.size w w')) (fun v5 _ => n - (intOf v5).toNat)
          case atStart => exact ⟨0, by omega, rfl, ⟨rfl⟩, ⟨(Blk.new w _ _).alloc _⟩, ⟨Blk.at_ (by simp) rfl⟩, ⟨(HA0.out.alloc _).alloc _⟩, ⟨(HC0.out.alloc _).alloc _⟩, ⟨below_alloc (below_alloc (Below.refl _ _) _) _⟩⟩
          case round =>
            clear HA0 HC0
            obtain ⟨k, hk, rfl, HK, HBa, HBb, HA, HC, HW⟩ := hrel
            have a0 := HBa.out.cell 0 (v := .slice (some ⟨ga, 0, none⟩) n c) rfl
            have b0 := HBb.out.cell 0 (v := .slice (some ⟨gb, 0, none⟩) n c') rfl
            by_cases hlt : k < n
            · have HS : Aside0 (sameR f f' (k + 1) = (sameR f f' k && sameS f (25 * k) f' (25 * k))) := ⟨sameR_succ f f' k⟩
              have HSF : Aside0 (sameS f (25 * k) f' (25 * k) = false → sameR f f' n = false) := ⟨fun h => sameR_false h hlt⟩
              have hne := fun W => neqStk_run f f' (25 * k) (25 * k) W
              generalize sameS f (25 * k) f' (25 * k) = b at *
              cases b
              all_goals
                go_wp2_with fail
                refine seq_all (by kernel_rfl) (by kernel_rfl) (fun w1 hw1 => ?_)
                have HR1 : Aside0 (w1.rangeAt ga (k * 25) (cellsAt f (25 * k))) := ⟨by rw [hw1, Nat.mul_comm k 25]; exact HA.out.drew.range rfl hlt⟩
                have HR2 : Aside0 (w1.rangeAt gb (k * 25) (cellsAt f' (25 * k))) := ⟨by rw [hw1, Nat.mul_comm k 25]; exact HC.out.drew.range rfl hlt⟩
                have HBa1 : Aside0 (Blk w1 w.heap.size 40 (hcells (some ⟨ga, 0, none⟩) n c t v d)) := ⟨by rw [hw1]; exact HBa.out.drew⟩
                have HBb1 : Aside0 (Blk w1 (w.heap.size + 1) 40 (hcells (some ⟨gb, 0, none⟩) n c' t v d)) := ⟨by rw [hw1]; exact HBb.out.drew⟩
                have HA1 : Aside0 (Rw w1 ga n f) := ⟨by rw [hw1]; exact HA.out.drew⟩
                have HC1 : Aside0 (Rw w1 gb n f') := ⟨by rw [hw1]; exact HC.out.drew⟩
                have HW1 : Aside0 (Below w.heap.size w w1) := ⟨by rw [hw1]; exact below_drew HW.out⟩
                clear hw1 HA HC HW HBa HBb a0 b0
                have a0 := HBa1.out.cell 0 (v := .slice (some ⟨ga, 0, none⟩) n c) rfl
                have b0 := HBb1.out.cell 0 (v := .slice (some ⟨gb, 0, none⟩) n c') rfl
                repeat (first | (refine still_load rfl 27 _ rfl (.pointer (some ⟨ga, k * 25, none⟩)) (.agg (cellsAt f (25 * k)).toArray) (by rfl) (run_loadAt_mid w1 ga (k * 25) 27 _ _ HR1.out Try.underlying27 (by rfl) (by rw [cellsAt_len]; kernel_rfl)) ?_) | (refine still_load rfl 27 _ rfl (.pointer (some ⟨gb, k * 25, none⟩)) (.agg (cellsAt f' (25 * k)).toArray) (by rfl) (run_loadAt_mid w1 gb (k * 25) 27 _ _ HR2.out Try.underlying27 (by rfl) (by rw [cellsAt_len]; kernel_rfl)) ?_) | still_step)
                refine wpStill_nil ?_
                go_wp2
              · go_ret
                exact ⟨by rw [HSF.out trivial]; rfl, HW1.out⟩
              · go_roundw
                case rel => exact ⟨k + 1, by omega, by go_num, ⟨by rw [HS.out, HK.out]; rfl⟩, HBa1, HBb1, HA1, HC1, HW1⟩
                case measure => simp [intOf] <;> omega
            · have hkn : k = n := by omega
              have HK2 : Aside0 (sameR f f' n = true) := ⟨by rw [← hkn]; exact HK.out⟩
              go_wp2
              go_ret
              exact ⟨by rw [HK2.out]; rfl, HW.out⟩
        · rw [sameH_n hn2]
          have bn : ((n : Int) != (n' : Int)) = true := by simp only [bne_iff_ne, ne_eq]; omega
          have bn' : ((n : Int) == (n' : Int)) = false := by simp only [beq_eq_false_iff_ne, ne_eq]; omega
          have bn2 : (n == n') = false := by simpa using hn2
          have bn3 : (n != n') = true := by simpa using hn2
          clear hn2
          go_enter Try.func23, Try.ntmps23
          go_wp2
          go_ret
          exact ⟨rfl, by repeat (first | exact Below.refl _ _ | apply below_alloc | apply pw_below_drewN | apply below_drew)⟩
      · rw [sameH_d hd]
        have bd : (d != d') = true := by simpa using hd
        have bd' : (d == d') = false := by simpa using hd
        have bd2 : decide (d = d') = false := decide_eq_false hd
        clear hd
        go_enter Try.func23, Try.ntmps23
        go_wp2
        go_ret
        exact ⟨rfl, by repeat (first | exact Below.refl _ _ | apply below_alloc | apply pw_below_drewN | apply below_drew)⟩
    · rw [sameH_v hv]
      have bv : (v != v') = true := by simpa using hv
      have bv' : (v == v') = false := by simpa using hv
      have bv2 : decide (v = v') = false := decide_eq_false hv
      clear hv
      go_enter Try.func23, Try.ntmps23
      go_wp2
      go_ret
      exact ⟨rfl, by repeat (first | exact Below.refl _ _ | apply below_alloc | apply pw_below_drewN | apply below_drew)⟩
  · rw [sameH_t ht]
    have bt : (t != t') = true := by simpa using ht
    have bt' : (t == t') = false := by simpa using ht
    have bt2 : decide (t = t') = false := decide_eq_false ht
    clear ht
    go_enter Try.func23, Try.ntmps23
    go_wp2
    go_ret
    exact ⟨rfl, by repeat (first | exact Below.refl _ _ | apply below_alloc | apply pw_below_drewN | apply below_drew)⟩
set_option maxHeartbeats 8000000 in
set_option maxRecDepth 100000 in
theorem slEqualNe_calls (n n' c c' : Nat) (A B : Option Addr) (hne : n ≠ n') (w : World) :
    Calls Try.prog 67 #[.slice A n c, .slice B n' c'] w fun e w' => e = .returned (.bool false) ∧ Drawn0 w w' := by
  have bn : ((n : Int) != (n' : Int)) = true := by simp only [bne_iff_ne, ne_eq]; omega
  have bn' : ((n : Int) == (n' : Int)) = false := by simp only [beq_eq_false_iff_ne, ne_eq]; omega
  have bn2 : (n == n') = false := by simpa using hne
  have bn3 : (n != n') = true := by simpa using hne
  clear hne
  go_enter Try.func67, Try.ntmps67
  go_wp2
  go_ret
  exact ⟨rfl, Drawn0.refl _⟩
set_option maxHeartbeats 8000000 in
set_option maxRecDepth 100000 in
theorem implSH_calls (f f' : Nat → Int) (n n' c c' ga gb : Nat) (t t' v v' d d' : Int) (hn : n ≤ 1048576) (hn' : n' ≤ 1048576) (w : World) (hA : Rw w ga n f) (hB : Rw w gb n' f') :
    Calls Try.prog 25 #[.agg #[.slice (some ⟨ga, 0, none⟩) n c, .int .i16 t, .int .i8 v, .int .i16 d], .agg #[.slice (some ⟨gb, 0, none⟩) n' c', .int .i16 t', .int .i8 v', .int .i16 d']] w fun e w' => e = .returned (.bool (sameH f f' n n' t t' v v' d d')) ∧ Below w.heap.size w w' := by
  have HA0 := Aside0.mk hA
  have HC0 := Aside0.mk hB
  have HE : Aside0 (∀ W, Rw W ga n f → Rw W gb n' f' → Calls Try.prog 67 #[.slice (some ⟨ga, 0, none⟩) n c, .slice (some ⟨gb, 0, none⟩) n' c'] W fun e w' => e = .returned (.bool (decide (n = n') && sameR f f' n)) ∧ Drawn0 W w') := ⟨fun W h h' => by
    by_cases e : n = n'
    · subst e; simpa using slEqual_calls f f' n c c' ga gb hn W h h'
    · simpa [e] using slEqualNe_calls n n' c c' _ _ e W⟩
  have HO : Aside0 (sameH f f' n n' t t' v v' d d' = (decide (t = t') && decide (v = v') && decide (d = d') && (decide (n = n') && sameR f f' n))) := ⟨by simp [sameH, Bool.and_assoc]⟩
  clear hA hB
  generalize sameH f f' n n' t t' v v' d d' = ok at *
  generalize (decide (n = n') && sameR f f' n) = b at *
  cases b
  · have HO2 : Aside0 (ok = false) := ⟨by rw [HO.out]; simp⟩
    clear HO
    go_enter Try.func25, Try.ntmps25
    go_wp2_with ((go_at_call 67; refine (HE.out _ (by repeat (first | (with_reducible exact HA0.out) | apply Rw.alloc)) (by repeat (first | (with_reducible exact HC0.out) | apply Rw.alloc))).mono ?_; rintro e w1 ⟨rfl, ⟨nd, rfl⟩⟩))
    go_ret
    exact ⟨by rw [HO2.out]; rfl, by repeat (first | exact Below.refl _ _ | apply below_alloc | apply pw_below_drewN | apply below_drew)⟩
  · by_cases ht : t = t'
    · subst ht
      by_cases hv : v = v'
      · subst hv
        by_cases hd : d = d'
        · subst hd
          have HO2 : Aside0 (ok = true) := ⟨by rw [HO.out]; simp⟩
          clear HO
          go_enter Try.func25, Try.ntmps25
          go_wp2_with ((go_at_call 67; refine (HE.out _ (by repeat (first | (with_reducible exact HA0.out) | apply Rw.alloc)) (by repeat (first | (with_reducible exact HC0.out) | apply Rw.alloc))).mono ?_; rintro e w1 ⟨rfl, ⟨nd, rfl⟩⟩))
          go_ret
          exact ⟨by rw [HO2.out]; rfl, by repeat (first | exact Below.refl _ _ | apply below_alloc | apply pw_below_drewN | apply below_drew)⟩
        · have bd : (d != d') = true := by simpa using hd
          have bd' : (d == d') = false := by simpa using hd
          have bd2 : decide (d = d') = false := decide_eq_false hd
          have HO2 : Aside0 (ok = false) := ⟨by rw [HO.out]; simp [hd]⟩
          clear hd HO
          go_enter Try.func25, Try.ntmps25
          go_wp2_with ((go_at_call 67; refine (HE.out _ (by repeat (first | (with_reducible exact HA0.out) | apply Rw.alloc)) (by repeat (first | (with_reducible exact HC0.out) | apply Rw.alloc))).mono ?_; rintro e w1 ⟨rfl, ⟨nd, rfl⟩⟩))
          go_ret
          exact ⟨by rw [HO2.out]; rfl, by repeat (first | exact Below.refl _ _ | apply below_alloc | apply pw_below_drewN | apply below_drew)⟩
      · have bv : (v != v') = true := by simpa using hv
        have bv' : (v == v') = false := by simpa using hv
        have bv2 : decide (v = v') = false := decide_eq_false hv
        have HO2 : Aside0 (ok = false) := ⟨by rw [HO.out]; simp [hv]⟩
        clear hv HO
        go_enter Try.func25, Try.ntmps25
        go_wp2_with ((go_at_call 67; refine (HE.out _ (by repeat (first | (with_reducible exact HA0.out) | apply Rw.alloc)) (by repeat (first | (with_reducible exact HC0.out) | apply Rw.alloc))).mono ?_; rintro e w1 ⟨rfl, ⟨nd, rfl⟩⟩))
        go_ret
        exact ⟨by rw [HO2.out]; rfl, by repeat (first | exact Below.refl _ _ | apply below_alloc | apply pw_below_drewN | apply below_drew)⟩
    · have bt : (t != t') = true := by simpa using ht
      have bt' : (t == t') = false := by simpa using ht
      have bt2 : decide (t = t') = false := decide_eq_false ht
      have HO2 : Aside0 (ok = false) := ⟨by rw [HO.out]; simp [ht]⟩
      clear ht HO
      go_enter Try.func25, Try.ntmps25
      go_wp2_with ((go_at_call 67; refine (HE.out _ (by repeat (first | (with_reducible exact HA0.out) | apply Rw.alloc)) (by repeat (first | (with_reducible exact HC0.out) | apply Rw.alloc))).mono ?_; rintro e w1 ⟨rfl, ⟨nd, rfl⟩⟩))
      go_ret
      exact ⟨by rw [HO2.out]; rfl, by repeat (first | exact Below.refl _ _ | apply below_alloc | apply pw_below_drewN | apply below_drew)⟩
end Go.Proofs.Ytjmnbikaijphlaa.X
