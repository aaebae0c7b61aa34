/- Contracts of functions, and plain facts: what each call answers, and what it leaves as it was. -/
import Derived.Test.YtjegcpagdpjidaaF1
import Derived.Test.YtjegcpagdpjidaaG9
import Derived.Test.YtjegcpagdpjidaaX10
import Derived.Test.YtjegcpagdpjidaaX5
import Derived.Test.YtjegcpagdpjidaaX7
set_option linter.unusedVariables false
set_option linter.unusedSimpArgs false
namespace Go.Proofs.Ytjegcpagdpjidaa.X
open Go.RowKit Go.Proofs.YtjegcpagdpjidaaW.PrintWords Go.Proofs.YtjegcpagdpjidaaW.PrintLast Go.Proofs.YtjegcpagdpjidaaW.PrintMore
attribute [local go_sem] max2_int min2_int max_two min_two max_three min_three max_four min_four
/-- the edges behind a fold -/
def stepE (f : Int) (e : Int × Int × Int × Int) : Int × Int × Int × Int :=
  if f = 0 then (wrap64 (e.1 + e.2.1), 0, wrap64 (e.2.2.1 * 2), wrap64 (e.2.2.2 * 2))
  else if f = 1 then (wrap64 (e.1 * 2), wrap64 (e.2.1 * 2), wrap64 (e.2.2.1 + e.2.2.2), 0)
  else if f = 2 then (e.2.1, e.1, wrap64 (e.2.2.1 * 3), wrap64 (e.2.2.2 * 3))
  else (wrap64 (e.1 * 3), wrap64 (e.2.1 * 3), e.2.2.2, e.2.2.1)
def edgesE : List Int → Int × Int × Int × Int → Int × Int × Int × Int
  | [], e => e
  | f :: fs, e => edgesE fs (stepE f e)
/-- are all folds -/
def areF (l : List Int) : Bool := l.all fun x => decide (0 ≤ x) && decide (x ≤ 3)
/-- what EdgesAfter tells -/
def edgesAfterF (l : List Int) : (Int × Int × Int × Int) × Int :=
  if 12 < l.length then ((0, 0, 0, 0), 3) else if areF l = true then (edgesE l (1, 1, 1, 1), 0) else ((0, 0, 0, 0), 2)
def edV (e : Int × Int × Int × Int) : Value := .agg #[.int .i64 e.1, .int .i64 e.2.1, .int .i64 e.2.2.1, .int .i64 e.2.2.2]
theorem areF_drop {l : List Int} {k : Nat} (hk : k < l.length) (h : areF (l.drop k) = true) : 0 ≤ rd l k ∧ rd l k ≤ 3 ∧ areF (l.drop (k + 1)) = true := by
  unfold areF at h ⊢
  rw [List.drop_eq_getElem_cons hk, List.all_cons, Bool.and_eq_true] at h
  have : rd l (k : Int) = l[k] := by simp [rd, List.getElem?_eq_getElem hk]
  rw [this]
  refine ⟨?_, ?_, h.2⟩ <;> simp at h <;> omega
theorem areF_first {l : List Int} {k : Nat} (hk : k < l.length) : areF (l.drop k) = ((decide (0 ≤ rd l k) && decide (rd l k ≤ 3)) && areF (l.drop (k + 1))) := by
  unfold areF
  have : rd l (k : Int) = l[k] := by simp [rd, List.getElem?_eq_getElem hk]
  rw [List.drop_eq_getElem_cons hk, List.all_cons, this]
theorem edgesE_drop {l : List Int} {k : Nat} (hk : k < l.length) (e : Int × Int × Int × Int) : edgesE (l.drop k) e = edgesE (l.drop (k + 1)) (stepE (rd l k) e) := by
  have : rd l (k : Int) = l[k] := by simp [rd, List.getElem?_eq_getElem hk]
  rw [List.drop_eq_getElem_cons hk, this]
  rfl
theorem quiet_D {P : Program} {f : FuncId} {args : Array Value} {w : World} {n : Nat} {v : Value} (h : Calls P f args (w.drewN n) fun e w' => e = .returned v ∧ Drawn0 (w.drewN n) w') : Calls P f args (w.drewN n) fun e w'' => e = .returned v ∧ ∃ m, w'' = w.drewN m := Calls.quiet_of (h.mono fun _ _ ⟨he, hd⟩ => ⟨he, hd.out⟩)
--EXT laws.eqEdges
set_option maxHeartbeats 4000000 in
set_option maxRecDepth 100000 in
theorem specEdges_long (A0 : Option Addr) (c0 : Nat) (l0 : List Int) (w : World) (hr0 : Kd.C (Kd.int .i64) w A0 l0.length l0) (hl : 12 < l0.length) :
    Calls Try.prog 24 #[.slice A0 l0.length c0] w fun e w' => e = .returned (.tuple #[edV (0, 0, 0, 0), .int .i64 3]) ∧ Below w.heap.size w w' := by
  have hl2 : decide (12 < l0.length) = true := decide_eq_true hl
  clear hr0
  go_enter Try.func24, Try.ntmps24
  go_wp2
  refine bodyPost_ret (v := .tuple #[edV (0, 0, 0, 0), .int .i64 3]) (by simp [results, Try.results24, go_sem, edV]) rfl ⟨rfl, ?_⟩
  repeat (first | exact Below.refl _ _ | refine below_set ?_ (by omega) | apply pw_below_drewN | apply below_drew1 | apply below_alloc)
set_option maxHeartbeats 4000000 in
set_option maxRecDepth 100000 in
theorem specEdges_bad (A0 : Option Addr) (c0 : Nat) (l0 : List Int) (w : World) (hr0 : Kd.C (Kd.int .i64) w A0 l0.length l0) (hl : l0.length ≤ 12) (hb : areF l0 = false) :
    Calls Try.prog 24 #[.slice A0 l0.length c0] w fun e w' => e = .returned (.tuple #[edV (0, 0, 0, 0), .int .i64 2]) ∧ Below w.heap.size w w' := by
  have hl2 : decide (12 < l0.length) = false := decide_eq_false (by omega)
  have HR0 := Aside0.mk hr0
  have HBD := Aside0.mk hb
  have hF := fun (x : Int) (W : World) (b : Bool) (h : (decide (0 ≤ x) && decide (x ≤ 3)) = b) => spec_l04Fold.calls x b W (by rw [← h]; unfold spec_l04Fold.f spec_l00In.f; by_cases h0 : 0 ≤ x <;> simp [h0])
  clear hr0 hb
  go_enter Try.func24, Try.ntmps24
  go_wp2
  go_loopw [4] (fun v4 w' => ∃ k : Nat, k ≤ l0.length ∧ v4 = .int .i64 k ∧ Aside0 (areF (l0.drop k) = false) ∧ Drawn0 (w.alloc (Obj.cells #[Value.int IntKind.i64 0, Value.int IntKind.i64 0, Value.int IntKind.i64 0, Value.int IntKind.i64 0] 46)) w') (fun v4 _ => l0.length - (intOf v4).toNat)
  case atStart => exact ⟨0, by omega, rfl, HBD, Drawn0.refl _⟩
  case round =>
    obtain ⟨k, hk, rfl, HA, ⟨m1, rfl⟩⟩ := hrel
    by_cases hlt : k < l0.length
    · obtain ⟨ad, rfl, hx⟩ := Kd.at_int HR0.out (k : Int) (by omega) (by omega)
      have hx' : (w.alloc (Obj.cells #[Value.int IntKind.i64 0, Value.int IntKind.i64 0, Value.int IntKind.i64 0, Value.int IntKind.i64 0] 46)).cell? (ad.add k) = some (.int .i64 (rd l0 k)) := pw_cell_below (below_alloc (Below.refl _ _) _) (by simpa using hx)
      clear hx
      have hfi := HA.out
      rw [areF_first hlt] at hfi
      cases hb : (decide (0 ≤ rd l0 k) && decide (rd l0 k ≤ 3))
      · have hc := fun W => hF (rd l0 k) W _ hb
        clear hfi hb hF
        generalize rd l0 k = x at *
        go_wp2_with (go_at_call 60; refine (hc _).mono ?_; rintro e w' ⟨rfl, ⟨nd, rfl⟩⟩)
        refine bodyPost_ret (v := .tuple #[edV (0, 0, 0, 0), .int .i64 2]) (by simp [results, Try.results24, go_sem, edV]) rfl ⟨rfl, ?_⟩
        repeat (first | exact Below.refl _ _ | refine below_set ?_ (by omega) | apply pw_below_drewN | apply below_drew1 | apply below_alloc)
      · have hc := fun W => hF (rd l0 k) W _ hb
        rw [hb, Bool.true_and] at hfi
        have HFI := Aside0.mk hfi
        clear hfi hb hF
        go_wp2_with (go_at_call 60; refine (hc _).mono ?_; rintro e w' ⟨rfl, ⟨nd, rfl⟩⟩)
        go_roundw
        case rel => exact ⟨k + 1, by omega, by go_num, HFI, by repeat (first | exact Drawn0.refl _ | apply Drawn0.step)⟩
        case measure => simp [intOf]; omega
    · have := HA.out
      rw [List.drop_eq_nil_of_le (by omega)] at this
      cases this
set_option maxHeartbeats 8000000 in
set_option maxRecDepth 100000 in
theorem specEdges_ok (A0 : Option Addr) (c0 : Nat) (l0 : List Int) (w : World) (hr0 : Kd.C (Kd.int .i64) w A0 l0.length l0) (hl : l0.length ≤ 12) (hb : areF l0 = true) :
    Calls Try.prog 24 #[.slice A0 l0.length c0] w fun e w' => e = .returned (.tuple #[edV (edgesE l0 (1, 1, 1, 1)), .int .i64 0]) ∧ Below w.heap.size w w' := by
  have hl2 : decide (12 < l0.length) = false := decide_eq_false (by omega)
  have HR0 := Aside0.mk hr0
  have HBD := Aside0.mk hb
  have hF := fun (x : Int) (W : World) (h : 0 ≤ x ∧ x ≤ 3) => spec_l04Fold.calls x true W (by unfold spec_l04Fold.f spec_l00In.f; simp [h.1, h.2])
  have hY := fun (x : Int) (W : World) => spec_l04By.calls x (if x ≥ 2 then 3 else 2) W (by unfold spec_l04By.f; split <;> rfl)
  clear hr0 hb
  go_enter Try.func24, Try.ntmps24
  go_wp2
  go_loopw [4] (fun v4 w' => ∃ k : Nat, k ≤ l0.length ∧ v4 = .int .i64 k ∧ Aside0 (areF (l0.drop k) = true) ∧ Drawn0 (w.alloc (Obj.cells #[Value.int IntKind.i64 0, Value.int IntKind.i64 0, Value.int IntKind.i64 0, Value.int IntKind.i64 0] 46)) w') (fun v4 _ => l0.length - (intOf v4).toNat)
  case atStart => exact ⟨0, by omega, rfl, HBD, Drawn0.refl _⟩
  case round =>
    obtain ⟨k, hk, rfl, HA, ⟨m1, rfl⟩⟩ := hrel
    by_cases hlt : k < l0.length
    · obtain ⟨ad, rfl, hx⟩ := Kd.at_int HR0.out (k : Int) (by omega) (by omega)
      have hx' : (w.alloc (Obj.cells #[Value.int IntKind.i64 0, Value.int IntKind.i64 0, Value.int IntKind.i64 0, Value.int IntKind.i64 0] 46)).cell? (ad.add k) = some (.int .i64 (rd l0 k)) := pw_cell_below (below_alloc (Below.refl _ _) _) (by simpa using hx)
      clear hx
      obtain ⟨h0, h3, hd⟩ := areF_drop hlt HA.out
      have hc := fun W => hF (rd l0 k) W ⟨h0, h3⟩
      have HFI := Aside0.mk hd
      clear hd hF hY h0 h3
      generalize rd l0 k = x at *
      go_wp2_with (go_at_call 60; refine (hc _).mono ?_; rintro e w' ⟨rfl, ⟨nd, rfl⟩⟩)
      go_roundw
      case rel => exact ⟨k + 1, by omega, by go_num, HFI, by repeat (first | exact Drawn0.refl _ | apply Drawn0.step)⟩
      case measure => simp [intOf]; omega
    · clear hF
      go_wp2
      go_loopw [6] (fun v6 w' => ∃ (k : Nat) (e0 e1 e2 e3 : Int), k ≤ l0.length ∧ v6 = .int .i64 k ∧ Aside0 (areF (l0.drop k) = true) ∧ Aside0 (edgesE (l0.drop k) (e0, e1, e2, e3) = edgesE l0 (1, 1, 1, 1)) ∧ Aside0 (w'.heap[w.heap.size]? = some (.cells #[.int .i64 0, .int .i64 0, .int .i64 0, .int .i64 0] 46 (0, 0))) ∧ Aside0 (w'.heap[w.heap.size + 1]? = some (.cells #[.int .i64 e0, .int .i64 e1, .int .i64 e2, .int .i64 e3] 46 (0, 0))) ∧ Aside0 (Below w.heap.size w w')) (fun v6 _ => l0.length - (intOf v6).toNat)
      case atStart => exact ⟨0, 1, 1, 1, 1, by omega, rfl, HBD, ⟨rfl⟩, ⟨blk_alloc (blk_drewN (blk_new w _) m1) _⟩, ⟨by have e : ((w.alloc (Obj.cells #[Value.int IntKind.i64 0, Value.int IntKind.i64 0, Value.int IntKind.i64 0, Value.int IntKind.i64 0] 46)).drewN m1).heap.size = w.heap.size + 1 := (by simp); rw [← e]; exact blk_new _ _⟩, ⟨by repeat (first | exact Below.refl _ _ | apply pw_below_drewN | apply below_drew1 | apply below_alloc)⟩⟩
      case round =>
        clear HA hlt hk
        obtain ⟨k, e0, e1, e2, e3, hk, rfl, HA, HE, HZ, HG, HB⟩ := hrel
        have g0 : wr.cell? ⟨w.heap.size + 1, 0, none⟩ = some (.int .i64 e0) := (blk_cell HG.out 0).trans rfl
        have g1 : wr.cell? ⟨w.heap.size + 1, 1, none⟩ = some (.int .i64 e1) := (blk_cell HG.out 1).trans rfl
        have g2 : wr.cell? ⟨w.heap.size + 1, 2, none⟩ = some (.int .i64 e2) := (blk_cell HG.out 2).trans rfl
        have g3 : wr.cell? ⟨w.heap.size + 1, 3, none⟩ = some (.int .i64 e3) := (blk_cell HG.out 3).trans rfl
        have gf : ∀ j, wr.frozen? ⟨w.heap.size + 1, j, none⟩ = false := blk_frozen HG.out
        by_cases hlt : k < l0.length
        · obtain ⟨ad, rfl, hx⟩ := Kd.at_int HR0.out (k : Int) (by omega) (by omega)
          have hx' : wr.cell? (ad.add k) = some (.int .i64 (rd l0 k)) := pw_cell_below HB.out (by simpa using hx)
          clear hx
          obtain ⟨h0, h3, hd⟩ := areF_drop hlt HA.out
          have HFI := Aside0.mk hd
          clear hd HA
          obtain ⟨x, hX⟩ : ∃ x, x = rd l0 k := ⟨_, rfl⟩
          rw [← hX] at hx' h0 h3
          have HX := Aside0.mk hX.symm
          clear hX
          obtain rfl | rfl | rfl | rfl : x = 0 ∨ x = 1 ∨ x = 2 ∨ x = 3 := by omega
          · go_wp2_with (go_at_call 61; refine (hY _ _).mono ?_; rintro e w' ⟨rfl, ⟨nd, rfl⟩⟩)
            go_roundw
            case rel => exact ⟨k + 1, wrap64 (e0 + e1), 0, wrap64 (e2 * 2), wrap64 (e3 * 2), by omega, by go_num, HFI, ⟨by rw [← HE.out, edgesE_drop hlt, HX.out]; first | done | rfl⟩, ⟨by repeat (first | exact HZ.out | refine blk_far ?_ (by simp) _ | refine blk_drewN ?_ _)⟩, ⟨by exact blk_set (blk_set (blk_set (blk_set (blk_drewN HG.out _) 0 _) 1 _) 2 _) 3 _⟩, ⟨by repeat (first | exact HB.out | refine below_set ?_ (by omega) | apply pw_below_drewN | apply below_drew1)⟩⟩
            case measure => first | (simp [intOf]; done) | (simp [intOf]; omega)
          · go_wp2_with (go_at_call 61; refine (hY _ _).mono ?_; rintro e w' ⟨rfl, ⟨nd, rfl⟩⟩)
            go_roundw
            case rel => exact ⟨k + 1, wrap64 (e0 * 2), wrap64 (e1 * 2), wrap64 (e2 + e3), 0, by omega, by go_num, HFI, ⟨by rw [← HE.out, edgesE_drop hlt, HX.out]; first | done | rfl⟩, ⟨by repeat (first | exact HZ.out | refine blk_far ?_ (by simp) _ | refine blk_drewN ?_ _)⟩, ⟨by exact blk_set (blk_set (blk_set (blk_set (blk_drewN HG.out _) 2 _) 3 _) 0 _) 1 _⟩, ⟨by repeat (first | exact HB.out | refine below_set ?_ (by omega) | apply pw_below_drewN | apply below_drew1)⟩⟩
            case measure => first | (simp [intOf]; done) | (simp [intOf]; omega)
          · go_wp2_with (go_at_call 61; refine (hY _ _).mono ?_; rintro e w' ⟨rfl, ⟨nd, rfl⟩⟩)
            go_roundw
            case rel => exact ⟨k + 1, e1, e0, wrap64 (e2 * 3), wrap64 (e3 * 3), by omega, by go_num, HFI, ⟨by rw [← HE.out, edgesE_drop hlt, HX.out]; first | done | rfl⟩, ⟨by repeat (first | exact HZ.out | refine blk_far ?_ (by simp) _ | refine blk_drewN ?_ _)⟩, ⟨by exact blk_set (blk_set (blk_set (blk_set (blk_drewN HG.out _) 0 _) 1 _) 2 _) 3 _⟩, ⟨by repeat (first | exact HB.out | refine below_set ?_ (by omega) | apply pw_below_drewN | apply below_drew1)⟩⟩
            case measure => first | (simp [intOf]; done) | (simp [intOf]; omega)
          · go_wp2_with (go_at_call 61; refine (hY _ _).mono ?_; rintro e w' ⟨rfl, ⟨nd, rfl⟩⟩)
            go_roundw
            case rel => exact ⟨k + 1, wrap64 (e0 * 3), wrap64 (e1 * 3), e3, e2, by omega, by go_num, HFI, ⟨by rw [← HE.out, edgesE_drop hlt, HX.out]; first | done | rfl⟩, ⟨by repeat (first | exact HZ.out | refine blk_far ?_ (by simp) _ | refine blk_drewN ?_ _)⟩, ⟨by exact blk_set (blk_set (blk_set (blk_set (blk_drewN HG.out _) 2 _) 3 _) 0 _) 1 _⟩, ⟨by repeat (first | exact HB.out | refine below_set ?_ (by omega) | apply pw_below_drewN | apply below_drew1)⟩⟩
            case measure => first | (simp [intOf]; done) | (simp [intOf]; omega)
        · have hz0 : wr.cell? ⟨w.heap.size, 0, none⟩ = some (.int .i64 0) := (blk_cell HZ.out 0).trans rfl
          have hz1 : wr.cell? ⟨w.heap.size, 1, none⟩ = some (.int .i64 0) := (blk_cell HZ.out 1).trans rfl
          have hz2 : wr.cell? ⟨w.heap.size, 2, none⟩ = some (.int .i64 0) := (blk_cell HZ.out 2).trans rfl
          have hz3 : wr.cell? ⟨w.heap.size, 3, none⟩ = some (.int .i64 0) := (blk_cell HZ.out 3).trans rfl
          have zf : ∀ j, wr.frozen? ⟨w.heap.size, j, none⟩ = false := blk_frozen HZ.out
          have HE2 : Aside0 ((e0, e1, e2, e3) = edgesE l0 (1, 1, 1, 1)) := ⟨by have := HE.out; rw [List.drop_eq_nil_of_le (by omega)] at this; exact this⟩
          clear hY
          go_wp2
          refine bodyPost_ret (v := .tuple #[edV (e0, e1, e2, e3), .int .i64 0]) (by simp [results, Try.results24, go_sem, edV, hz0, hz1, hz2, hz3]) rfl ⟨by rw [← HE2.out], ?_⟩
          repeat (first | exact HB.out | refine below_set ?_ (by omega) | apply pw_below_drewN | apply below_drew1)
--EXT impl.EdgesAfter
theorem areWithin_03 (l : List Int) : impl_areWithin.f l 0 3 = some (areF l) := rfl
theorem firstOf_two (a b : Int) : impl_firstOf.f 3 [a, b] = some (if a = 0 then b else a) := by
  unfold impl_firstOf.f
  simp [impl_firstOf.l0, rd, wrap64]
  split
  · split <;> simp_all
  · rfl
set_option maxHeartbeats 8000000 in
set_option maxRecDepth 100000 in
theorem implEdges_bad (A0 : Option Addr) (c0 : Nat) (l0 : List Int) (w : World) (hr0 : Kd.C (Kd.int .i64) w A0 l0.length l0) (hc0 : l0.length ≤ c0) (code : Int) (hcode : code ≠ 0) (h : code = if 12 < l0.length then 3 else if areF l0 = true then 0 else 2) :
    Calls Try.prog 23 #[.slice A0 l0.length c0] w fun e w' => e = .returned (.tuple #[edV (0, 0, 0, 0), .int .i64 code]) ∧ Below w.heap.size w w' := by
  have h1 := fun (b : Bool) (c : Int) (W : World) => impl_unless.calls b c (if b = true then 0 else c) W (by unfold impl_unless.f; split <;> rfl)
  have h2 := fun (W : World) (hb : Below w.heap.size w W) => impl_areWithin.calls A0 c0 l0 0 3 (areF l0) W (Kd.C_below hr0 hb) hc0 (areWithin_03 l0)
  obtain ⟨x1, hx1⟩ : ∃ x : Int, x = if decide ((l0.length : Int) ≤ 12) = true then 0 else 3 := ⟨_, rfl⟩
  obtain ⟨x2, hx2⟩ : ∃ x : Int, x = if areF l0 = true then 0 else 2 := ⟨_, rfl⟩
  have hx : (if x1 = 0 then x2 else x1) = code := by
    rw [h, hx1, hx2]
    by_cases hl : 12 < l0.length
    · rw [if_neg (show ¬ (decide ((l0.length : Int) ≤ 12) = true) by simp; omega), if_pos hl]; rfl
    · rw [if_pos (show (decide ((l0.length : Int) ≤ 12) = true) by simp; omega), if_neg hl]; rfl
  have h3 := fun (A : Option Addr) (c : Nat) (W : World) hr hc => impl_firstOf.calls 3 A c [x1, x2] code W hr hc (by rw [firstOf_two, hx])
  have h1a := h1 (decide ((l0.length : Int) ≤ 12)) 3
  have h1b := h1 (areF l0) 2
  rw [← hx1] at h1a
  rw [← hx2] at h1b
  have hcb : (code != 0) = true := by simpa using hcode
  clear hr0 hc0 hx h hx1 hx2 h1 hcode
  generalize areF l0 = b2 at *
  go_enter Try.func23, Try.ntmps23
  go_wp2_with fail
  refine (h1a _).mono ?_
  rintro e w' ⟨rfl, ⟨nd0, rfl⟩⟩
  go_wp2_with (first
    | (go_at_call 56; refine (h1b _).mono ?_; rintro e w' ⟨rfl, ⟨nd1, rfl⟩⟩)
    | (go_at_call 54; refine (h2 _ (by repeat (first | exact Below.refl _ _ | apply pw_below_drewN | apply below_drew1 | apply below_alloc))).mono ?_; rintro e w2 ⟨rfl, hb2⟩; have HZ2 := Aside0.mk (blk_below (blk_drewN (blk_new w (Obj.cells #[Value.int IntKind.i64 0, Value.int IntKind.i64 0, Value.int IntKind.i64 0, Value.int IntKind.i64 0] 46)) _) hb2); have HB2 := Aside0.mk (below_step (w := w) (by repeat (first | exact Below.refl _ _ | apply pw_below_drewN | apply below_drew1 | apply below_alloc)) hb2); clear hb2)
    | ((with_reducible refine gate_dst (N := 19) rfl ?_); refine Kd.R_lit (Kd.int .i64) _ 2 ?hg (N := 19) ?hd (xs := ([x1, x2] : List Int)) (inner := [.int .i64 x1, .int .i64 x2]) (ok := fun _ => True) (okp := fun _ => True) ?hr ?hp (fun _ hk => hk) trivial (Below.refl _ _) (Nat.le_refl _) (by simp) ?_; (case hd => rfl); (case hg => rfl); (case hr => first | (go_simp; done) | (go_simp; rfl)); (case hp => exact (Reps.one (show Kd.M (Kd.int .i64) _ _ _ x1 [.int .i64 x1] from rfl) (Reps.one (show Kd.M (Kd.int .i64) _ _ _ x2 [.int .i64 x2] from rfl) (Reps.none _ _)))); intro v3 w3 ho hb hg_ hnew_; clear hg_ hnew_; have HO3 := Aside0.mk (Kd.R_reads ho); have HZ3 := Aside0.mk (blk_below (blk_drewN HZ2.out _) hb); have HB3 := Aside0.mk (below_step (pw_below_drewN HB2.out _) hb); have z0 : w3.cell? ⟨w.heap.size, 0, none⟩ = some (.int .i64 0) := (blk_cell HZ3.out 0).trans rfl; have z1 : w3.cell? ⟨w.heap.size, 1, none⟩ = some (.int .i64 0) := (blk_cell HZ3.out 1).trans rfl; have z2 : w3.cell? ⟨w.heap.size, 2, none⟩ = some (.int .i64 0) := (blk_cell HZ3.out 2).trans rfl; have z3 : w3.cell? ⟨w.heap.size, 3, none⟩ = some (.int .i64 0) := (blk_cell HZ3.out 3).trans rfl; have zf : ∀ j, w3.frozen? ⟨w.heap.size, j, none⟩ = false := blk_frozen HZ3.out; clear hb ho; obtain ⟨A3, c3, hv3, hc3, hr3⟩ := HO3.out; subst hv3; have HR3 := Aside0.mk hr3; have HC3 := Aside0.mk hc3; clear hr3 hc3)
    | (go_at_call 55; refine (h3 _ _ _ HR3.out HC3.out).mono ?_; rintro e w' ⟨rfl, ⟨nd3, rfl⟩⟩))
  refine bodyPost_ret (v := .tuple #[edV (0, 0, 0, 0), .int .i64 code]) (by simp [results, Try.results23, go_sem, edV, z0, z1, z2, z3]) rfl ⟨rfl, ?_⟩
  repeat (first | exact HB3.out | refine below_set ?_ (by omega) | apply pw_below_drewN | apply below_drew1)
set_option maxHeartbeats 8000000 in
set_option maxRecDepth 100000 in
theorem implEdges_ok (A0 : Option Addr) (c0 : Nat) (l0 : List Int) (w : World) (hr0 : Kd.C (Kd.int .i64) w A0 l0.length l0) (hc0 : l0.length ≤ c0) (hl : l0.length ≤ 12) (hb : areF l0 = true) :
    Calls Try.prog 23 #[.slice A0 l0.length c0] w fun e w' => e = .returned (.tuple #[edV (edgesE l0 (1, 1, 1, 1)), .int .i64 0]) ∧ Below w.heap.size w w' := by
  have hm := Kd.C_max hr0
  have h1 := fun (b : Bool) (c : Int) (W : World) => impl_unless.calls b c (if b = true then 0 else c) W (by unfold impl_unless.f; split <;> rfl)
  have h2 := fun (W : World) (hB : Below w.heap.size w W) => impl_areWithin.calls A0 c0 l0 0 3 true W (Kd.C_below hr0 hB) hc0 (by rw [areWithin_03, hb])
  obtain ⟨x1, hx1⟩ : ∃ x : Int, x = 0 := ⟨_, rfl⟩
  obtain ⟨x2, hx2⟩ : ∃ x : Int, x = 0 := ⟨_, rfl⟩
  have h3 := fun (A : Option Addr) (c : Nat) (W : World) hr hc => impl_firstOf.calls 3 A c [x1, x2] 0 W hr hc (by rw [firstOf_two, hx1, hx2]; rfl)
  have h1a := h1 (decide ((l0.length : Int) ≤ 12)) 3
  have h1b := h1 true 2
  rw [if_pos (by simp; omega), ← hx1] at h1a
  rw [if_pos rfl, ← hx2] at h1b
  have HR0 := Aside0.mk hr0
  have HA0 := Aside0.mk hb
  have hP := fun (f : Int) (W : World) => impl_partsOf.calls f _ W rfl
  have hH := fun (f : Int) (W : World) => impl_isHigh.calls f (decide (f = 1 ∨ f = 3)) W (by unfold impl_isHigh.f; by_cases h : f = 1 <;> by_cases h' : f = 3 <;> simp [h, h'])
  clear hr0 hc0 hx1 hx2 h1 hb
  go_enter Try.func23, Try.ntmps23
  go_wp2_with fail
  refine (h1a _).mono ?_
  rintro e w' ⟨rfl, ⟨nd0, rfl⟩⟩
  go_wp2_with (first
    | (go_at_call 56; refine (h1b _).mono ?_; rintro e w' ⟨rfl, ⟨nd1, rfl⟩⟩)
    | (go_at_call 54; refine (h2 _ (by repeat (first | exact Below.refl _ _ | apply pw_below_drewN | apply below_drew1 | apply below_alloc))).mono ?_; rintro e w2 ⟨rfl, hb2⟩; have HZ2 := Aside0.mk (blk_below (blk_drewN (blk_new w (Obj.cells #[Value.int IntKind.i64 0, Value.int IntKind.i64 0, Value.int IntKind.i64 0, Value.int IntKind.i64 0] 46)) _) hb2); have HB2 := Aside0.mk (below_step (w := w) (by repeat (first | exact Below.refl _ _ | apply pw_below_drewN | apply below_drew1 | apply below_alloc)) hb2); clear hb2)
    | ((with_reducible refine gate_dst (N := 19) rfl ?_); refine Kd.R_lit (Kd.int .i64) _ 2 ?hg (N := 19) ?hd (xs := ([x1, x2] : List Int)) (inner := [.int .i64 x1, .int .i64 x2]) (ok := fun _ => True) (okp := fun _ => True) ?hr ?hp (fun _ hk => hk) trivial (Below.refl _ _) (Nat.le_refl _) (by simp) ?_; (case hd => rfl); (case hg => rfl); (case hr => first | (go_simp; done) | (go_simp; rfl)); (case hp => exact (Reps.one (show Kd.M (Kd.int .i64) _ _ _ x1 [.int .i64 x1] from rfl) (Reps.one (show Kd.M (Kd.int .i64) _ _ _ x2 [.int .i64 x2] from rfl) (Reps.none _ _)))); intro v3 w3 ho hb hg_ hnew_; clear hg_ hnew_; have HO3 := Aside0.mk (Kd.R_reads ho); have HZ3 := Aside0.mk (blk_below (blk_drewN HZ2.out _) hb); have HB3 := Aside0.mk (below_step (pw_below_drewN HB2.out _) hb); have z0 : w3.cell? ⟨w.heap.size, 0, none⟩ = some (.int .i64 0) := (blk_cell HZ3.out 0).trans rfl; have z1 : w3.cell? ⟨w.heap.size, 1, none⟩ = some (.int .i64 0) := (blk_cell HZ3.out 1).trans rfl; have z2 : w3.cell? ⟨w.heap.size, 2, none⟩ = some (.int .i64 0) := (blk_cell HZ3.out 2).trans rfl; have z3 : w3.cell? ⟨w.heap.size, 3, none⟩ = some (.int .i64 0) := (blk_cell HZ3.out 3).trans rfl; have zf : ∀ j, w3.frozen? ⟨w.heap.size, j, none⟩ = false := blk_frozen HZ3.out; clear hb ho; obtain ⟨A3, c3, hv3, hc3, hr3⟩ := HO3.out; subst hv3; have HR3 := Aside0.mk hr3; have HC3 := Aside0.mk hc3; clear hr3 hc3)
    | (go_at_call 55; refine (h3 _ _ _ HR3.out HC3.out).mono ?_; rintro e w4 ⟨rfl, ⟨nd3, hw4⟩⟩; have hb4 : Below w3.heap.size w3 w4 := (by rw [hw4]; exact pw_below_drewN (Below.refl _ _) _); clear hw4 z0 z1 z2 z3 zf; have HZ4 := Aside0.mk (blk_below HZ3.out hb4); have HB4 := Aside0.mk (below_step (w := w) HB3.out hb4); have z0 : w4.cell? ⟨w.heap.size, 0, none⟩ = some (.int .i64 0) := (blk_cell HZ4.out 0).trans rfl; have z1 : w4.cell? ⟨w.heap.size, 1, none⟩ = some (.int .i64 0) := (blk_cell HZ4.out 1).trans rfl; have z2 : w4.cell? ⟨w.heap.size, 2, none⟩ = some (.int .i64 0) := (blk_cell HZ4.out 2).trans rfl; have z3 : w4.cell? ⟨w.heap.size, 3, none⟩ = some (.int .i64 0) := (blk_cell HZ4.out 3).trans rfl; have zf : ∀ j, w4.frozen? ⟨w.heap.size, j, none⟩ = false := blk_frozen HZ4.out; clear hb4))
  have hgw := blk_lt HZ4.out
  have hgn : (w.heap.size : Nat) ≠ w4.heap.size := Nat.ne_of_lt hgw
  clear h1a h1b h2 h3 z0 z1 z2 z3 zf
  go_loopw [28] (fun v28 w' => ∃ (k : Nat) (e0 e1 e2 e3 : Int), k ≤ l0.length ∧ v28 = .int .i64 k ∧ Aside0 (areF (l0.drop k) = true) ∧ Aside0 (edgesE (l0.drop k) (e0, e1, e2, e3) = edgesE l0 (1, 1, 1, 1)) ∧ Aside0 (w'.heap[w.heap.size]? = some (.cells #[.int .i64 0, .int .i64 0, .int .i64 0, .int .i64 0] 46 (0, 0))) ∧ Aside0 (w'.heap[w4.heap.size]? = some (.cells #[.int .i64 e0, .int .i64 e1, .int .i64 e2, .int .i64 e3] 46 (0, 0))) ∧ Aside0 (Below w.heap.size w w')) (fun v28 _ => l0.length - (intOf v28).toNat)
  case atStart => exact ⟨0, 1, 1, 1, 1, by omega, rfl, HA0, ⟨rfl⟩, ⟨blk_alloc HZ4.out _⟩, ⟨blk_new w4 _⟩, ⟨below_alloc HB4.out _⟩⟩
  case round =>
    obtain ⟨k, e0, e1, e2, e3, hk, rfl, HA, HE, HZ, HG, HB⟩ := hrel
    have g0 : wr.cell? ⟨w4.heap.size, 0, none⟩ = some (.int .i64 e0) := (blk_cell HG.out 0).trans rfl
    have g1 : wr.cell? ⟨w4.heap.size, 1, none⟩ = some (.int .i64 e1) := (blk_cell HG.out 1).trans rfl
    have g2 : wr.cell? ⟨w4.heap.size, 2, none⟩ = some (.int .i64 e2) := (blk_cell HG.out 2).trans rfl
    have g3 : wr.cell? ⟨w4.heap.size, 3, none⟩ = some (.int .i64 e3) := (blk_cell HG.out 3).trans rfl
    have gf : ∀ j, wr.frozen? ⟨w4.heap.size, j, none⟩ = false := blk_frozen HG.out
    by_cases hlt : k < l0.length
    · obtain ⟨ad, rfl, hx⟩ := Kd.at_int HR0.out (k : Int) (by omega) (by omega)
      have hx' : wr.cell? (ad.add k) = some (.int .i64 (rd l0 k)) := pw_cell_below HB.out (by simpa using hx)
      clear hx
      obtain ⟨h0, h3, hd⟩ := areF_drop hlt HA.out
      have HFI := Aside0.mk hd
      clear hd HA
      obtain ⟨x, hX⟩ : ∃ x, x = rd l0 k := ⟨_, rfl⟩
      rw [← hX] at hx' h0 h3
      have HX := Aside0.mk hX.symm
      clear hX
      obtain rfl | rfl | rfl | rfl : x = 0 ∨ x = 1 ∨ x = 2 ∨ x = 3 := by omega
      · have hp := fun W => impl_partsOf.calls 0 2 W (by simp [impl_partsOf.f, wrap64, Int.tdiv])
        have hh := fun W => hH 0 W
        clear hP hH
        go_wp2
        go_quiet ((go_at_call 58; exact quiet_D (hp _)))
        go_wp2_with (go_at_call 59; refine (hh _).mono ?_; rintro e w' ⟨rfl, ⟨nd, rfl⟩⟩)
        -- R0
        go_region
        go_wp2
        go_roundw
        case rel => exact ⟨k + 1, wrap64 (e0 + e1), 0, wrap64 (e2 * 2), wrap64 (e3 * 2), by omega, by go_num, HFI, ⟨by rw [← HE.out, edgesE_drop hlt, HX.out]; first | done | rfl⟩, ⟨blk_far (blk_far (blk_far (blk_far (blk_drewN HZ.out _) hgn _) hgn _) hgn _) hgn _⟩, ⟨blk_set (blk_set (blk_set (blk_set (blk_drewN HG.out _) 0 _) 1 _) 2 _) 3 _⟩, ⟨by repeat (first | exact HB.out | refine below_set ?_ (by omega) | apply pw_below_drewN | apply below_drew1)⟩⟩
        case measure => first | (simp [intOf]; done) | (simp [intOf]; omega)
      · have hp := fun W => impl_partsOf.calls 1 2 W (by simp [impl_partsOf.f, wrap64, Int.tdiv])
        have hh := fun W => hH 1 W
        clear hP hH
        go_wp2
        go_quiet ((go_at_call 58; exact quiet_D (hp _)))
        go_wp2_with (go_at_call 59; refine (hh _).mono ?_; rintro e w' ⟨rfl, ⟨nd, rfl⟩⟩)
        -- R1
        go_quiet (fail)
        go_wp2
        go_region
        go_wp2
        go_roundw
        case rel => exact ⟨k + 1, wrap64 (e0 * 2), wrap64 (e1 * 2), wrap64 (e2 + e3), 0, by omega, by go_num, HFI, ⟨by rw [← HE.out, edgesE_drop hlt, HX.out]; first | done | rfl⟩, ⟨blk_far (blk_far (blk_far (blk_far (blk_drewN HZ.out _) hgn _) hgn _) hgn _) hgn _⟩, ⟨blk_set (blk_set (blk_set (blk_set (blk_drewN HG.out _) 2 _) 3 _) 0 _) 1 _⟩, ⟨by repeat (first | exact HB.out | refine below_set ?_ (by omega) | apply pw_below_drewN | apply below_drew1)⟩⟩
        case measure => first | (simp [intOf]; done) | (simp [intOf]; omega)
      · have hp := fun W => impl_partsOf.calls 2 3 W (by simp [impl_partsOf.f, wrap64, Int.tdiv])
        have hh := fun W => hH 2 W
        clear hP hH
        go_wp2
        go_quiet ((go_at_call 58; exact quiet_D (hp _)))
        go_wp2_with (go_at_call 59; refine (hh _).mono ?_; rintro e w' ⟨rfl, ⟨nd, rfl⟩⟩)
        -- R2
        go_region
        go_wp2
        go_roundw
        case rel => exact ⟨k + 1, e1, e0, wrap64 (e2 * 3), wrap64 (e3 * 3), by omega, by go_num, HFI, ⟨by rw [← HE.out, edgesE_drop hlt, HX.out]; first | done | rfl⟩, ⟨blk_far (blk_far (blk_far (blk_far (blk_drewN HZ.out _) hgn _) hgn _) hgn _) hgn _⟩, ⟨blk_set (blk_set (blk_set (blk_set (blk_drewN HG.out _) 0 _) 1 _) 2 _) 3 _⟩, ⟨by repeat (first | exact HB.out | refine below_set ?_ (by omega) | apply pw_below_drewN | apply below_drew1)⟩⟩
        case measure => first | (simp [intOf]; done) | (simp [intOf]; omega)
      · have hp := fun W => impl_partsOf.calls 3 3 W (by simp [impl_partsOf.f, wrap64, Int.tdiv])
        have hh := fun W => hH 3 W
        clear hP hH
        go_wp2
        go_quiet ((go_at_call 58; exact quiet_D (hp _)))
        go_wp2_with (go_at_call 59; refine (hh _).mono ?_; rintro e w' ⟨rfl, ⟨nd, rfl⟩⟩)
        -- R3
        go_quiet (fail)
        go_wp2
        go_region
        go_wp2
        go_roundw
        case rel => exact ⟨k + 1, wrap64 (e0 * 3), wrap64 (e1 * 3), e3, e2, by omega, by go_num, HFI, ⟨by rw [← HE.out, edgesE_drop hlt, HX.out]; first | done | rfl⟩, ⟨blk_far (blk_far (blk_far (blk_far (blk_drewN HZ.out _) hgn _) hgn _) hgn _) hgn _⟩, ⟨blk_set (blk_set (blk_set (blk_set (blk_drewN HG.out _) 2 _) 3 _) 0 _) 1 _⟩, ⟨by repeat (first | exact HB.out | refine below_set ?_ (by omega) | apply pw_below_drewN | apply below_drew1)⟩⟩
        case measure => first | (simp [intOf]; done) | (simp [intOf]; omega)
    · have hz0 : wr.cell? ⟨w.heap.size, 0, none⟩ = some (.int .i64 0) := (blk_cell HZ.out 0).trans rfl
      have hz1 : wr.cell? ⟨w.heap.size, 1, none⟩ = some (.int .i64 0) := (blk_cell HZ.out 1).trans rfl
      have hz2 : wr.cell? ⟨w.heap.size, 2, none⟩ = some (.int .i64 0) := (blk_cell HZ.out 2).trans rfl
      have hz3 : wr.cell? ⟨w.heap.size, 3, none⟩ = some (.int .i64 0) := (blk_cell HZ.out 3).trans rfl
      have zf : ∀ j, wr.frozen? ⟨w.heap.size, j, none⟩ = false := blk_frozen HZ.out
      have HE2 : Aside0 ((e0, e1, e2, e3) = edgesE l0 (1, 1, 1, 1)) := ⟨by have := HE.out; rw [List.drop_eq_nil_of_le (by omega)] at this; exact this⟩
      clear hP hH
      go_wp2
      refine bodyPost_ret (v := .tuple #[edV (e0, e1, e2, e3), .int .i64 0]) (by simp [results, Try.results23, go_sem, edV, hz0, hz1, hz2, hz3]) rfl ⟨by rw [← HE2.out], ?_⟩
      repeat (first | exact HB.out | refine below_set ?_ (by omega) | apply pw_below_drewN | apply below_drew1)
end Go.Proofs.Ytjegcpagdpjidaa.X
