/- Contracts of functions, and plain facts: what each call answers, and what it leaves as it was. -/
import Derived.Test.YtjmnbikaijphlaaHUk
import Derived.Test.YtjmnbikaijphlaaHDa
set_option linter.unusedVariables false
set_option linter.unusedSimpArgs false
namespace Go.Proofs.Ytjmnbikaijphlaa.X
open Go.RowKit Go.Proofs.YtjmnbikaijphlaaW.PrintWords Go.Proofs.YtjmnbikaijphlaaW.PrintLast Go.Proofs.YtjmnbikaijphlaaW.PrintMore
attribute [local go_sem] max2_int min2_int max_two min_two max_three min_three max_four min_four
/-- the numbers of stocks of new pieces -/
def newF (N : Nat → Int) : Nat → Int := fun i => if i % 25 = 7 then N (i / 25) else 0
theorem newF_at (N : Nat → Int) (k : Nat) : cellsAt (newF N) (25 * k) = cellsAt (newF fun _ => N k) 0 := cellsAt_congr fun j hj => by
  have h1 : (25 * k + j) % 25 = j := by omega
  have h2 : (25 * k + j) / 25 = k := by omega
  have h3 : (0 + j) % 25 = j := by omega
  simp only [newF, h1, h2, h3]
theorem flat_succ (f : Nat → Int) (k : Nat) : flat f (k + 1) = flat f k ++ cellsAt f (25 * k) := by
  unfold flat cellsAt
  rw [show (k + 1) * 25 = k * 25 + 25 by omega, List.range_add, List.map_append, List.map_map]
  congr 1
  apply List.map_congr_left
  intro j hj
  rw [List.mem_range] at hj
  have e0 : (k * 25 + j) % 25 = j % 25 := by omega
  have e : kd (k * 25 + j) = kd j := by unfold kd; rw [e0]
  show Value.int (kd (k * 25 + j)) _ = _
  rw [e, Nat.mul_comm k 25]
theorem upd_new (p : Int) : cellsAt (upd (fun _ => 0) 7 p) 0 = cellsAt (newF fun _ => p) 0 := cellsAt_congr fun j hj => by
  simp only [newF, upd]
  by_cases h : j = 7
  · subst h; rfl
  · rw [if_neg (by omega), if_neg (by omega)]
set_option maxHeartbeats 4000000 in
set_option maxRecDepth 100000 in
theorem l05Fresh_calls (p : Int) (hp : 0 ≤ p ∧ p ≤ 500) (w : World) : Calls Try.prog 77 #[.int .i64 p] w fun e w' => e = .returned (.agg (cellsAt (newF fun _ => p) 0).toArray) ∧ Below w.heap.size w w' := by
  have HA : Aside0 (Rw ((w.alloc (.cells #[.int .i16 0, .int .i16 0, .int .i16 0, .int .i16 0, .int .i16 0, .int .i16 0, .int .i16 0, .int .i16 0, .int .i16 0, .int .i16 0, .int .i16 0, .int .i16 0, .int .i16 0, .int .i16 0, .int .i16 0, .int .i16 0, .int .i16 0, .int .i16 0, .int .i16 0, .int .i16 0, .int .i16 0, .int .i16 0, .int .i16 0, .int .i16 0, .int .i32 0] 27)).alloc (.cells #[.int .i16 0, .int .i16 0, .int .i16 0, .int .i16 0, .int .i16 0, .int .i16 0, .int .i16 0, .int .i16 0, .int .i16 0, .int .i16 0, .int .i16 0, .int .i16 0, .int .i16 0, .int .i16 0, .int .i16 0, .int .i16 0, .int .i16 0, .int .i16 0, .int .i16 0, .int .i16 0, .int .i16 0, .int .i16 0, .int .i16 0, .int .i16 0, .int .i32 0] 27)) (w.heap.size + 1) 1 (fun _ => 0)) := ⟨Rw.of_blk (f := fun _ => 0) (Blk.at_ (by simp) rfl)⟩
  have HO : Aside0 (Rw ((w.alloc (.cells #[.int .i16 0, .int .i16 0, .int .i16 0, .int .i16 0, .int .i16 0, .int .i16 0, .int .i16 0, .int .i16 0, .int .i16 0, .int .i16 0, .int .i16 0, .int .i16 0, .int .i16 0, .int .i16 0, .int .i16 0, .int .i16 0, .int .i16 0, .int .i16 0, .int .i16 0, .int .i16 0, .int .i16 0, .int .i16 0, .int .i16 0, .int .i16 0, .int .i32 0] 27)).alloc (.cells #[.int .i16 0, .int .i16 0, .int .i16 0, .int .i16 0, .int .i16 0, .int .i16 0, .int .i16 0, .int .i16 0, .int .i16 0, .int .i16 0, .int .i16 0, .int .i16 0, .int .i16 0, .int .i16 0, .int .i16 0, .int .i16 0, .int .i16 0, .int .i16 0, .int .i16 0, .int .i16 0, .int .i16 0, .int .i16 0, .int .i16 0, .int .i16 0, .int .i32 0] 27)) w.heap.size 1 (fun _ => 0)) := ⟨Rw.alloc (Rw.of_blk (f := fun _ => 0) (Blk.new w _ _)) _⟩
  have HW : Aside0 (Below w.heap.size w ((w.alloc (.cells #[.int .i16 0, .int .i16 0, .int .i16 0, .int .i16 0, .int .i16 0, .int .i16 0, .int .i16 0, .int .i16 0, .int .i16 0, .int .i16 0, .int .i16 0, .int .i16 0, .int .i16 0, .int .i16 0, .int .i16 0, .int .i16 0, .int .i16 0, .int .i16 0, .int .i16 0, .int .i16 0, .int .i16 0, .int .i16 0, .int .i16 0, .int .i16 0, .int .i32 0] 27)).alloc (.cells #[.int .i16 0, .int .i16 0, .int .i16 0, .int .i16 0, .int .i16 0, .int .i16 0, .int .i16 0, .int .i16 0, .int .i16 0, .int .i16 0, .int .i16 0, .int .i16 0, .int .i16 0, .int .i16 0, .int .i16 0, .int .i16 0, .int .i16 0, .int .i16 0, .int .i16 0, .int .i16 0, .int .i16 0, .int .i16 0, .int .i16 0, .int .i16 0, .int .i32 0] 27))) := ⟨below_alloc (below_alloc (Below.refl _ _) _) _⟩
  have h16 : IntKind.i16.wrap p = p := IntWalk.i16_in _ ⟨by omega, by omega⟩
  clear hp
  go_enter Try.func77, Try.ntmps77
  go_wp2_with (first | (refine rw_store (by rfl) 27 _ _ (by rfl) (w.heap.size + 1) 0 (by rfl) 1 0 (fun _ => 0) (fun _ => 0) 0 (by rfl) HA.out rfl (by decide) (by decide) (by kernel_rfl) ?_; intro w1 hw1 hg1; have HA1 : Aside0 (Rw w1 (w.heap.size + 1) 1 (fun _ => 0)) := ⟨Rw.congr hw1 (fun i hi => by simp only [put25]; split <;> rfl)⟩; have HO1 : Aside0 (Rw w1 w.heap.size 1 (fun _ => 0)) := ⟨HO.out.grown hg1 (by intro h_; injection h_ with h_; omega)⟩; have HW1 : Aside0 (Below w.heap.size w w1) := ⟨below_grown HW.out (by omega) (Below.size HW.out) hg1⟩; clear hw1 hg1 HA HO HW; have c7 := HA1.out.cell (i := 7) (by decide); have d7 := HA1.out.frozen 7; simp only [kd] at c7) | (refine rw_load (by rfl) 27 _ (by rfl) (w.heap.size + 1) 0 (by rfl) (upd (fun _ => 0) 7 p) 0 ((HA1.out.set (i := 7) (by decide) (by rfl) p).range (o := 0) (q := 0) rfl (by decide)) _ Try.underlying27 (by rfl) (by kernel_rfl) ?_) | (refine rw_store (by rfl) 27 _ _ (by rfl) (w.heap.size) 0 (by rfl) 1 0 (fun _ => 0) (upd (fun _ => 0) 7 p) 0 (by rfl) (HO1.out.other (by omega)) rfl (by decide) (by decide) (by kernel_rfl) ?_; intro w2 hw2 hg2; have HO2 := Aside0.mk hw2; have HW2 : Aside0 (Below w.heap.size w w2) := ⟨below_grown (below_setc HW1.out (by omega)) (by omega) (Below.size (below_setc HW1.out (by omega))) hg2⟩; clear hw2 hg2))
  refine bodyPost_ret (v := .agg (cellsAt (upd (fun _ => 0) 7 p) 0).toArray) (results_cell1 (by rfl) _ _ w.heap.size (cellsAt (upd (fun _ => 0) 7 p) 0) _ (by rfl) (by have h_ := HO2.out.range (o := 0) (q := 0) rfl (by decide); rwa [cells_put] at h_) Try.underlying27 (by rfl) (by kernel_rfl)) rfl ⟨by rw [upd_new], HW2.out⟩
set_option maxHeartbeats 4000000 in
set_option maxRecDepth 100000 in
theorem newStock_calls (p : Int) (hp : 0 ≤ p ∧ p ≤ 500) (w : World) : Calls Try.prog 79 #[.int .i64 p] w fun e w' => e = .returned (.agg (cellsAt (newF fun _ => p) 0).toArray) ∧ Below w.heap.size w w' := by
  have HA : Aside0 (Rw ((w.alloc (.cells #[.int .i16 0, .int .i16 0, .int .i16 0, .int .i16 0, .int .i16 0, .int .i16 0, .int .i16 0, .int .i16 0, .int .i16 0, .int .i16 0, .int .i16 0, .int .i16 0, .int .i16 0, .int .i16 0, .int .i16 0, .int .i16 0, .int .i16 0, .int .i16 0, .int .i16 0, .int .i16 0, .int .i16 0, .int .i16 0, .int .i16 0, .int .i16 0, .int .i32 0] 27)).alloc (.cells #[.int .i16 0, .int .i16 0, .int .i16 0, .int .i16 0, .int .i16 0, .int .i16 0, .int .i16 0, .int .i16 0, .int .i16 0, .int .i16 0, .int .i16 0, .int .i16 0, .int .i16 0, .int .i16 0, .int .i16 0, .int .i16 0, .int .i16 0, .int .i16 0, .int .i16 0, .int .i16 0, .int .i16 0, .int .i16 0, .int .i16 0, .int .i16 0, .int .i32 0] 27)) (w.heap.size + 1) 1 (fun _ => 0)) := ⟨Rw.of_blk (f := fun _ => 0) (Blk.at_ (by simp) rfl)⟩
  have HO : Aside0 (Rw ((w.alloc (.cells #[.int .i16 0, .int .i16 0, .int .i16 0, .int .i16 0, .int .i16 0, .int .i16 0, .int .i16 0, .int .i16 0, .int .i16 0, .int .i16 0, .int .i16 0, .int .i16 0, .int .i16 0, .int .i16 0, .int .i16 0, .int .i16 0, .int .i16 0, .int .i16 0, .int .i16 0, .int .i16 0, .int .i16 0, .int .i16 0, .int .i16 0, .int .i16 0, .int .i32 0] 27)).alloc (.cells #[.int .i16 0, .int .i16 0, .int .i16 0, .int .i16 0, .int .i16 0, .int .i16 0, .int .i16 0, .int .i16 0, .int .i16 0, .int .i16 0, .int .i16 0, .int .i16 0, .int .i16 0, .int .i16 0, .int .i16 0, .int .i16 0, .int .i16 0, .int .i16 0, .int .i16 0, .int .i16 0, .int .i16 0, .int .i16 0, .int .i16 0, .int .i16 0, .int .i32 0] 27)) w.heap.size 1 (fun _ => 0)) := ⟨Rw.alloc (Rw.of_blk (f := fun _ => 0) (Blk.new w _ _)) _⟩
  have HW : Aside0 (Below w.heap.size w ((w.alloc (.cells #[.int .i16 0, .int .i16 0, .int .i16 0, .int .i16 0, .int .i16 0, .int .i16 0, .int .i16 0, .int .i16 0, .int .i16 0, .int .i16 0, .int .i16 0, .int .i16 0, .int .i16 0, .int .i16 0, .int .i16 0, .int .i16 0, .int .i16 0, .int .i16 0, .int .i16 0, .int .i16 0, .int .i16 0, .int .i16 0, .int .i16 0, .int .i16 0, .int .i32 0] 27)).alloc (.cells #[.int .i16 0, .int .i16 0, .int .i16 0, .int .i16 0, .int .i16 0, .int .i16 0, .int .i16 0, .int .i16 0, .int .i16 0, .int .i16 0, .int .i16 0, .int .i16 0, .int .i16 0, .int .i16 0, .int .i16 0, .int .i16 0, .int .i16 0, .int .i16 0, .int .i16 0, .int .i16 0, .int .i16 0, .int .i16 0, .int .i16 0, .int .i16 0, .int .i32 0] 27))) := ⟨below_alloc (below_alloc (Below.refl _ _) _) _⟩
  have h16 : IntKind.i16.wrap p = p := IntWalk.i16_in _ ⟨by omega, by omega⟩
  clear hp
  go_enter Try.func79, Try.ntmps79
  go_wp2_with (first | (refine rw_store (by rfl) 27 _ _ (by rfl) (w.heap.size + 1) 0 (by rfl) 1 0 (fun _ => 0) (fun _ => 0) 0 (by rfl) HA.out rfl (by decide) (by decide) (by kernel_rfl) ?_; intro w1 hw1 hg1; have HA1 : Aside0 (Rw w1 (w.heap.size + 1) 1 (fun _ => 0)) := ⟨Rw.congr hw1 (fun i hi => by simp only [put25]; split <;> rfl)⟩; have HO1 : Aside0 (Rw w1 w.heap.size 1 (fun _ => 0)) := ⟨HO.out.grown hg1 (by intro h_; injection h_ with h_; omega)⟩; have HW1 : Aside0 (Below w.heap.size w w1) := ⟨below_grown HW.out (by omega) (Below.size HW.out) hg1⟩; clear hw1 hg1 HA HO HW; have c7 := HA1.out.cell (i := 7) (by decide); have d7 := HA1.out.frozen 7; simp only [kd] at c7) | (refine rw_load (by rfl) 27 _ (by rfl) (w.heap.size + 1) 0 (by rfl) (upd (fun _ => 0) 7 p) 0 ((HA1.out.set (i := 7) (by decide) (by rfl) p).range (o := 0) (q := 0) rfl (by decide)) _ Try.underlying27 (by rfl) (by kernel_rfl) ?_) | (refine rw_store (by rfl) 27 _ _ (by rfl) (w.heap.size) 0 (by rfl) 1 0 (fun _ => 0) (upd (fun _ => 0) 7 p) 0 (by rfl) (HO1.out.other (by omega)) rfl (by decide) (by decide) (by kernel_rfl) ?_; intro w2 hw2 hg2; have HO2 := Aside0.mk hw2; have HW2 : Aside0 (Below w.heap.size w w2) := ⟨below_grown (below_setc HW1.out (by omega)) (by omega) (Below.size (below_setc HW1.out (by omega))) hg2⟩; clear hw2 hg2))
  refine bodyPost_ret (v := .agg (cellsAt (upd (fun _ => 0) 7 p) 0).toArray) (results_cell1 (by rfl) _ _ w.heap.size (cellsAt (upd (fun _ => 0) 7 p) 0) _ (by rfl) (by have h_ := HO2.out.range (o := 0) (q := 0) rfl (by decide); rwa [cells_put] at h_) Try.underlying27 (by rfl) (by kernel_rfl)) rfl ⟨by rw [upd_new], HW2.out⟩
theorem cells_new (p : Int) : cellsAt (newF fun _ => p) 0 = [.int .i16 0, .int .i16 0, .int .i16 0, .int .i16 0, .int .i16 0, .int .i16 0, .int .i16 0, .int .i16 (p), .int .i16 0, .int .i16 0, .int .i16 0, .int .i16 0, .int .i16 0, .int .i16 0, .int .i16 0, .int .i16 0, .int .i16 0, .int .i16 0, .int .i16 0, .int .i16 0, .int .i16 0, .int .i16 0, .int .i16 0, .int .i16 0, .int .i32 0] := by rfl
theorem flat_new (N : Nat → Int) (k : Nat) : flat (newF N) k ++ [.int .i16 0, .int .i16 0, .int .i16 0, .int .i16 0, .int .i16 0, .int .i16 0, .int .i16 0, .int .i16 (N k), .int .i16 0, .int .i16 0, .int .i16 0, .int .i16 0, .int .i16 0, .int .i16 0, .int .i16 0, .int .i16 0, .int .i16 0, .int .i16 0, .int .i16 0, .int .i16 0, .int .i16 0, .int .i16 0, .int .i16 0, .int .i16 0, .int .i32 0] = flat (newF N) (k + 1) := by rw [flat_succ, newF_at, cells_new]
theorem l05Fresh_lit (p : Int) (hp : 0 ≤ p ∧ p ≤ 500) (w : World) : Calls Try.prog 77 #[.int .i64 p] w fun e w' => e = .returned (.agg #[.int .i16 0, .int .i16 0, .int .i16 0, .int .i16 0, .int .i16 0, .int .i16 0, .int .i16 0, .int .i16 (p), .int .i16 0, .int .i16 0, .int .i16 0, .int .i16 0, .int .i16 0, .int .i16 0, .int .i16 0, .int .i16 0, .int .i16 0, .int .i16 0, .int .i16 0, .int .i16 0, .int .i16 0, .int .i16 0, .int .i16 0, .int .i16 0, .int .i32 0]) ∧ Below w.heap.size w w' := (l05Fresh_calls p hp w).mono (by rintro e w' ⟨rfl, hb⟩; exact ⟨by rw [cells_new], hb⟩)
theorem newStock_lit (p : Int) (hp : 0 ≤ p ∧ p ≤ 500) (w : World) : Calls Try.prog 79 #[.int .i64 p] w fun e w' => e = .returned (.agg #[.int .i16 0, .int .i16 0, .int .i16 0, .int .i16 0, .int .i16 0, .int .i16 0, .int .i16 0, .int .i16 (p), .int .i16 0, .int .i16 0, .int .i16 0, .int .i16 0, .int .i16 0, .int .i16 0, .int .i16 0, .int .i16 0, .int .i16 0, .int .i16 0, .int .i16 0, .int .i16 0, .int .i16 0, .int .i16 0, .int .i16 0, .int .i16 0, .int .i32 0]) ∧ Below w.heap.size w w' := (newStock_calls p hp w).mono (by rintro e w' ⟨rfl, hb⟩; exact ⟨by rw [cells_new], hb⟩)
theorem on_ {ops : Array Oper} {oi : Oper} {a : Act} {X Y : Prop} (hw : Region.wanted oi (yielded ops a.tmps) = true) (h : X) : if Region.wanted oi (yielded ops a.tmps) = true then X else Y := by rw [if_pos hw]; exact h
def nhB (N : Nat → Int) (n : Nat) (tub every : Int) : Bool := (decide (1 ≤ (n : Int) ∧ (n : Int) ≤ 4) && (decide (0 ≤ tub ∧ tub ≤ 1000) && decide (1 ≤ every ∧ every ≤ 7))) && needB N n
/-- the first of n numbers that is above 0, or -1 -/
def FI (N : Nat → Int) (n : Nat) (R : Int) : Prop := (∃ k : Nat, k < n ∧ 0 < N k ∧ (∀ j, j < k → N j ≤ 0) ∧ R = (k : Int)) ∨ ((∀ k, k < n → N k ≤ 0) ∧ R = -1)
theorem FI_ex (N : Nat → Int) : ∀ n, ∃ R, FI N n R
  | 0 => ⟨-1, .inr ⟨fun k hk => by omega, rfl⟩⟩
  | n + 1 => by
    obtain ⟨R, ⟨k, h1, h2, h3, h4⟩ | ⟨h1, h2⟩⟩ := FI_ex N n
    · exact ⟨R, .inl ⟨k, by omega, h2, h3, h4⟩⟩
    · by_cases h : 0 < N n
      · exact ⟨n, .inl ⟨n, by omega, h, h1, rfl⟩⟩
      · exact ⟨-1, .inr ⟨fun k hk => by rcases Nat.lt_or_ge k n with h_ | h_; exact h1 k h_; (have : k = n := by omega); subst this; omega, rfl⟩⟩
theorem FI_one {N : Nat → Int} {n : Nat} {R R' : Int} (h : FI N n R) (h' : FI N n R') : R = R' := by
  rcases h with ⟨k, h1, h2, h3, h4⟩ | ⟨h1, h2⟩ <;> rcases h' with ⟨k', h1', h2', h3', h4'⟩ | ⟨h1', h2'⟩
  · rcases Nat.lt_trichotomy k k' with h | h | h
    · have := h3' k h; omega
    · omega
    · have := h3 k' h; omega
  · have := h1' k h1; omega
  · have := h1 k' h1'; omega
  · omega
/-- the first day and kind that are short, or none -/
def FIS (S : List (List Int)) (i : Nat) (R : Int) : Prop := FI (Nof (S.getD i [])) (S.getD i []).length R
def FSp (S : List (List Int)) (m : Nat) (a b code : Int) : Prop := (∃ i k : Nat, i < m ∧ FIS S i k ∧ (∀ j, j < i → FIS S j (-1)) ∧ a = (i : Int) ∧ b = (k : Int) ∧ code = 0) ∨ ((∀ j, j < m → FIS S j (-1)) ∧ a = 0 ∧ b = 0 ∧ code = 6)
theorem FSp_ex (S : List (List Int)) : ∀ m, ∃ a b code, FSp S m a b code
  | 0 => ⟨0, 0, 6, .inr ⟨fun k hk => by omega, rfl, rfl, rfl⟩⟩
  | m + 1 => by
    obtain ⟨a, b, code, ⟨i, k, h1, h2⟩ | ⟨h1, h2, h3, h4⟩⟩ := FSp_ex S m
    · exact ⟨a, b, code, .inl ⟨i, k, by omega, h2⟩⟩
    · obtain ⟨R, hR⟩ := FI_ex (Nof (S.getD m [])) (S.getD m []).length
      have hR0 := hR
      rcases hR with ⟨k, _, _, _, hk⟩ | ⟨_, hk⟩
      · subst hk; exact ⟨m, k, 0, .inl ⟨m, k, by omega, hR0, h1, rfl, rfl, rfl⟩⟩
      · subst hk; exact ⟨0, 0, 6, .inr ⟨fun j hj => by rcases Nat.lt_or_ge j m with h_ | h_; exact h1 j h_; (have : j = m := by omega); subst this; exact hR0, rfl, rfl, rfl⟩⟩
theorem FSp.found {S : List (List Int)} {m i k : Nat} {a b code : Int} (h : FSp S m a b code) (hi : i < m) (hp : ∀ j, j < i → FIS S j (-1)) (hk : FIS S i k) : a = (i : Int) ∧ b = (k : Int) ∧ code = 0 := by
  rcases h with ⟨i', k', h1, h2, h3, h4, h5, h6⟩ | ⟨h1, _⟩
  · rcases Nat.lt_trichotomy i i' with h | h | h
    · have := FI_one (h3 i h) hk; omega
    · subst h
      have := FI_one h2 hk
      exact ⟨h4, by omega, h6⟩
    · have := FI_one (hp i' h) h2; omega
  · have := FI_one (h1 i hi) hk; omega
theorem FSp.none {S : List (List Int)} {m : Nat} {a b code : Int} (h : FSp S m a b code) (hp : ∀ j, j < m → FIS S j (-1)) : a = 0 ∧ b = 0 ∧ code = 6 := by
  rcases h with ⟨i', k', h1, h2, h3, h4, h5, h6⟩ | ⟨h1, h2⟩
  · have := FI_one (hp i' h1) h2; omega
  · exact h2
theorem firstClo (x : Int) (w : World) : Calls Try.prog 107 #[.int .i64 x] w fun e w' => e = .returned (.bool (decide (0 < x))) ∧ w' = w := by
  go_enter Try.func107, Try.ntmps107
  go_wp2
  go_ret
  exact ⟨rfl, rfl⟩
set_option maxHeartbeats 8000000 in
set_option maxRecDepth 100000 in
theorem idxPos_calls (N : Nat → Int) (n c : Nat) (A : Option Addr) (R : Int) (hn : n ≤ 1000) (hR : FI N n R) (w : World) (hA : NdA w A n N) :
    Calls Try.prog 106 #[.slice A n c, .func (.func 107) #[] #[]] w fun e w' => e = .returned (.int .i64 R) ∧ w' = w := by
  have HA := Aside0.mk hA
  have HR := Aside0.mk hR
  have HCL := Aside0.mk (fun x W => firstClo x W)
  clear hA hR
  go_enter Try.func106, Try.ntmps106
  go_wp2
  go_loop [8] (fun v8 => ∃ k : Nat, k ≤ n ∧ v8 = .int .i64 k ∧ Aside0 (∀ j, j < k → N j ≤ 0)) (fun v8 => n - (intOf v8).toNat)
  case atStart => exact ⟨0, by omega, rfl, ⟨fun j hj => by omega⟩⟩
  case round =>
    obtain ⟨k, hk, rfl, HI⟩ := hrel
    have hk9 : IntKind.i64.wrap ((k : Int) + 1) = (k : Int) + 1 := IntWalk.i64_in _ ⟨by omega, by omega⟩
    by_cases hlt : k < n
    · have hki : (k : Int) < (n : Int) := by omega
      obtain ⟨gN, rfl, hNd⟩ := HA.out (by omega)
      have ck := hNd.at (k := k) (j := k) hlt rfl
      have HC := Aside0.mk (HCL.out (N k))
      clear hNd
      by_cases hp : 0 < N k
      · have HE : Aside0 (R = (k : Int)) := ⟨FI_one HR.out (.inl ⟨k, hlt, hp, HI.out, rfl⟩)⟩
        rw [decide_eq_true hp] at HC
        go_wp2_with (go_at_call 107; refine (HC.out _).mono ?_; rintro e w' ⟨rfl, rfl⟩)
        go_ret
        exact ⟨by rw [HE.out]; rfl, rfl⟩
      · have HI2 : Aside0 (∀ j, j < k + 1 → N j ≤ 0) := ⟨fun j hj => by rcases Nat.lt_or_ge j k with h_ | h_; exact HI.out j h_; (have : j = k := by omega); subst this; omega⟩
        rw [decide_eq_false hp] at HC
        go_wp2_with (go_at_call 107; refine (HC.out _).mono ?_; rintro e w' ⟨rfl, rfl⟩)
        go_round
        case rel => exact ⟨k + 1, by omega, by go_num, HI2⟩
        case measure => simp [intOf] <;> omega
    · have HE : Aside0 (R = -1) := ⟨FI_one HR.out (.inr ⟨fun j hj => HI.out j (by omega), rfl⟩)⟩
      go_wp2
      go_ret
      exact ⟨by rw [HE.out]; rfl, rfl⟩
/-- numbers that are read, out of the midst of a row -/
def NdO (w : World) (b o n : Nat) (N : Nat → Int) : Prop := b < w.heap.size ∧ ∀ k, k < n → w.cell? ⟨b, o + k, none⟩ = some (.int .i64 (N k))
section
variable {w w1 : World} {b o n : Nat} {N : Nat → Int} {S : Nat → Prop}
theorem NdO.kept (h : NdO w b o n N) (hk : Kept w w1 S) (hn : ¬ S b) : NdO w1 b o n N := ⟨Nat.lt_of_lt_of_le h.1 hk.1, fun k hl => cell_kept (h.2 k hl) hk hn⟩
theorem NdO.below (h : NdO w b o n N) (hb : Below w.heap.size w w1) : NdO w1 b o n N := h.kept (Kept.of_below hb (fun _ => False)) (fun h => h)
theorem NdO.alloc (h : NdO w b o n N) (x : Obj) : NdO (w.alloc x) b o n N := h.below (below_alloc (Below.refl _ _) x)
theorem NdO.drew (h : NdO w b o n N) : NdO w.drew b o n N := h
theorem NdO.grown (h : NdO w b o n N) {row : Option Nat} (hg : w.grownBy w1 row) (hne : some b ≠ row) : NdO w1 b o n N := h.kept (kept_grown hg) (fun e => hne e.symm)
theorem NdO.at (h : NdO w b o n N) {k j : Nat} (hk : k < n) (hj : j = o + k) : w.cell? ⟨b, j, none⟩ = some (.int .i64 (N k)) := by subst hj; exact h.2 _ hk
end
set_option maxHeartbeats 8000000 in
set_option maxRecDepth 100000 in
theorem day_okO (f N : Nat → Int) (n c g hb gN oN cN : Nat) (tub every today : Int) (hn : 0 < n ∧ n ≤ 4) (hG : Fine f n) (hN : ∀ k, k < n → 0 ≤ N k ∧ N k ≤ 500) (ht : 0 ≤ tub ∧ tub ≤ 1000) (hv : 1 ≤ every ∧ every ≤ 7) (hd : 0 ≤ today ∧ today < 60) (h1 : gN ≠ g) (h2 : gN ≠ hb) (h3 : hb ≠ g)  (w : World) (hH : Blk w hb 40 (hcells (some ⟨g, 0, none⟩) n c tub every today)) (hB : Rw w g n f) (hNd : NdO w gN oN n N) :
    Calls Try.prog 93 #[.pointer (some ⟨hb, 0, none⟩), .slice (some ⟨gN, oN, none⟩) n cN] w fun e w' => ∃ v : Value, e = .returned (v) ∧ w'.ownsRow w.heap.size 2 1 v n (nums .i64 (shL f N n)) ∧ Rw w' g n (dayF f N n tub every today) ∧ Blk w' hb 40 (hcells (some ⟨g, 0, none⟩) n c tub every (today + 1)) ∧ KpG w w' (fun k => k = g ∨ k = hb) := by
  obtain ⟨i0, hi, hz0, hz1, hz2⟩ := info_parts int64Info
  have HI := Aside0.mk (And.intro hi (And.intro hz0 (And.intro hz1 hz2)))
  have HG : Aside0 (∀ q, q ≤ n → Fine (dsF f N q) n) := ⟨fun q hq => dsF_fine hG (fun k hk => (hN k hk).1) q hq⟩
  have HN := Aside0.mk hN
  have HU : Aside0 (∀ (F : Nat → Int) (k : Nat), k < n → Fine F n → ∀ W : World, Rw W g n F → Calls Try.prog 86 #[.pointer (some ⟨g, k * 25, none⟩), .int .i64 (N k)] W fun e w' => e = .returned (.int .i64 (useF F (25 * k) (N k)).2) ∧ Rw w' g n (useF F (25 * k) (N k)).1 ∧ W.grownBy w' (some g)) := ⟨fun F k hk hF W h => by rw [Nat.mul_comm k 25]; exact use_calls F n k (25 * k) hk rfl (hF k hk) (N k) (hN k hk) g W h⟩
  have HB := Aside0.mk hB
  have HH := Aside0.mk hH
  have HD := Aside0.mk hNd
  have hgl := hB.lt
  have hhl := hH.lt
  have hnl := hNd.1
  have hd60 : decide (today = 60) = false := decide_eq_false (by omega)
  have c0 := hH.cell 0 (v := .slice (some ⟨g, 0, none⟩) n c) rfl
  clear hi hz0 hz1 hz2 hG hN hB hH hNd
  go_enter Try.func93, Try.ntmps93
  have b0 := ((HH.out.alloc (.cells #[] 2))).cell 0 (v := .slice (some ⟨g, 0, none⟩) n c) rfl
  go_wp2_with fail
  clear b0 c0
  obtain ⟨w1, hw_⟩ : ∃ W_, W_ = w.alloc (.cells #[] 2) := ⟨_, rfl⟩
  rw [← hw_]
  have HD1 : Aside0 (NdO w1 gN oN n N) := ⟨by rw [hw_]; exact HD.out.alloc _⟩
  have HH1 : Aside0 (Blk w1 hb 40 (hcells (some ⟨g, 0, none⟩) n c tub every today)) := ⟨by rw [hw_]; exact HH.out.alloc _⟩
  have HB1 : Aside0 (Rw w1 g n f) := ⟨by rw [hw_]; exact HB.out.alloc _⟩
  have HV1 : Aside0 (w1.ownsRow w.heap.size 2 1 (.slice (some ⟨w.heap.size, 0, none⟩) 0 0) 0 []) := ⟨by rw [hw_]; exact World.ownsRow_made w #[] 0 (by exact Nat.le_refl _) (by decide) (by rfl)⟩
  have HK1 : Aside0 (KpG w w1 (fun k => k = g ∨ k = hb)) := ⟨by rw [hw_]; exact KpG.of_below (below_alloc (Below.refl _ _) (.cells #[] 2)) _⟩
  clear hw_ HB HH HD
  go_loopw [5, 13] (fun v5 v13 w' => ∃ (k : Nat) (v : Value), k ≤ n ∧ v5 = v ∧ v13 = .int .i64 k ∧ Aside0 (w'.ownsRow w.heap.size 2 1 v k (nums .i64 (shL f N k))) ∧ Aside0 (Rw w' g n (dsF f N k)) ∧ Aside0 (Blk w' hb 40 (hcells (some ⟨g, 0, none⟩) n c tub every today)) ∧ Aside0 (NdO w' gN oN n N) ∧ Aside0 (KpG w w' (fun k => k = g ∨ k = hb))) (fun _ v13 _ => n - (intOf v13).toNat)
  case atStart => exact ⟨0, _, by omega, rfl, rfl, HV1, HB1, HH1, HD1, HK1⟩
  case round =>
    clear HV1 HB1 HH1 HD1 HK1
    obtain ⟨k, v, hk, rfl, rfl, HV, HR, HH, HD, HK⟩ := hrel
    have c0 := HH.out.cell 0 (v := .slice (some ⟨g, 0, none⟩) n c) rfl
    by_cases hlt : k < n
    · have HF := Aside0.mk (HG.out k hk)
      have HDS : Aside0 (dsF f N (k + 1) = (useF (dsF f N k) (25 * k) (N k)).1) := ⟨rfl⟩
      have HSS : Aside0 (shL f N (k + 1) = shL f N k ++ [(useF (dsF f N k) (25 * k) (N k)).2]) := ⟨rfl⟩
      generalize dsF f N k = F at *
      have hn0 : 0 ≤ N k ∧ N k ≤ 500 := HN.out k hlt
      obtain ⟨wo, rfl⟩ : ∃ wo : World, wo = wr := ⟨_, rfl⟩
      go_wp2
      clear c0
      have HV1 : Aside0 (wo.drew.ownsRow w.heap.size 2 1 u5 k (nums .i64 (shL f N k))) := ⟨HV.out⟩
      have HR1 : Aside0 (Rw wo.drew g n F) := ⟨HR.out.drew⟩
      have HH1 : Aside0 (Blk wo.drew hb 40 (hcells (some ⟨g, 0, none⟩) n c tub every today)) := ⟨HH.out.drew⟩
      have HD1 : Aside0 (NdO wo.drew gN oN n N) := ⟨HD.out.drew⟩
      have HK1 : Aside0 (KpG w wo.drew (fun k => k = g ∨ k = hb)) := ⟨HK.out.drew⟩
      clear HV HR HH HD HK
      have c0 := HH1.out.cell 0 (v := .slice (some ⟨g, 0, none⟩) n c) rfl
      have cn := HD1.out.at (k := k) (j := oN + k) hlt rfl
      have hkn : (k : Int) < n := by omega
      go_region_held3 (fun w' => w'.cell? ⟨hb, 0, none⟩ = some (.slice (some ⟨g, 0, none⟩) n c) ∧ w'.cell? ⟨gN, oN + k, none⟩ = some (.int .i64 (N k))) (first | exact ⟨c0, cn⟩ | exact ⟨e0, en⟩ | exact ⟨f0, fn⟩ | go_keep) ((first | (go_at_call 86; (with_reducible refine (HU.out F k hlt HF.out _ HR1.out).mono ?_); rintro e w2 ⟨rfl, hR_, hg_⟩; have HK2 := Aside0.mk (KpG.of_grown hg_ HK1.out (fun k_ e_ => by injection e_ with e_; exact .inl (.inl e_.symm))); have HS2 : Aside0 (w.heap.size ≤ w2.heap.size) := ⟨HK2.out.2.1⟩; have HV2 : Aside0 (w2.ownsRow w.heap.size 2 1 u5 k (nums .i64 (shL f N k))) := ⟨own_other HV1.out hg_ (.inr (own_ne HV1.out hgl).symm)⟩; have HH2 := Aside0.mk (HH1.out.grown hg_ (by intro h_; injection h_ with h_; omega)); have HD2 := Aside0.mk (HD1.out.grown hg_ (by intro h_; injection h_ with h_; omega)); have HR2 := Aside0.mk hR_; clear hR_ hg_; have e0 := HH2.out.cell 0 (v := .slice (some ⟨g, 0, none⟩) n c) rfl; have en := HD2.out.at (k := k) (j := oN + k) hlt rfl; obtain ⟨s, hs_⟩ : ∃ s, (useF F (25 * k) (N k)).2 = s := ⟨_, rfl⟩; rw [hs_]; have HSX := Aside0.mk hs_; clear hs_) | (refine step_append_lies _ (by rfl) _ _ 45 (by rfl) w.heap.size 2 i0 _ 1 8 Try.underlying45 HI.out.1 HI.out.2.1 HI.out.2.2.1 HI.out.2.2.2 (by rfl) (by decide) _ k (nums .i64 (shL f N k)) (by rfl) (pw_own_below HV2.out (below_alloc (Below.refl _ _) _)) ⟨w2.heap.size, 0, none⟩ 1 1 [.int .i64 s] (by rfl) (by rfl) (by intro j u hj; match j, hj with | 0, hj => (injection hj with hj; subst hj; exact (Blk.new w2 _ [.int .i64 s]).cell 0 rfl) | (j + 1), hj => (simp at hj)) (by intro u hu; simp at hu; subst hu; rfl) (by decide) (by unfold maxLen; omega) (by omega) (by have := HS2.out; simp <;> omega) _ rfl ?_; intro g' cap' w3 hown hgrow hat hlt'; have HR4 := Aside0.mk (Rw.grown (HR2.out.alloc _) hgrow (own_ne HV2.out hgl)); have HH4 := Aside0.mk (Blk.grown (HH2.out.alloc _) hgrow (own_ne HV2.out hhl)); have HD4 := Aside0.mk (NdO.grown (HD2.out.alloc _) hgrow (own_ne HV2.out hnl)); have HK4 := Aside0.mk (KpG.of_grown hgrow (HK2.out.alloc _) (fun k_ e_ => .inr (own_base HV2.out k_ e_))); have HV4 := Aside0.mk hown; clear hown hgrow hat hlt'; have f0 := HH4.out.cell 0 (v := .slice (some ⟨g, 0, none⟩) n c) rfl; have fn := HD4.out.at (k := k) (j := oN + k) hlt rfl)))
      go_wp2
      go_roundw
      case rel => exact ⟨k + 1, _, by omega, rfl, by go_num, ⟨by rw [HSS.out, ← nums_snoc, HSX.out]; exact HV4.out⟩, ⟨by rw [HDS.out]; exact HR4.out⟩, HH4, HD4, HK4⟩
      case measure => simp [intOf] <;> omega
    · have ek : k = n := by omega
      clear c0
      subst ek
      have HFN := Aside0.mk (HG.out k (Nat.le_refl k))
      obtain ⟨wo, rfl⟩ : ∃ wo : World, wo = wr := ⟨_, rfl⟩
      have c0 := HH.out.cell 0 (v := .slice (some ⟨g, 0, none⟩) k c) rfl
      have i1 : IntKind.i16.wrap (today + 1) = today + 1 := IntWalk.i16_in _ ⟨by omega, by omega⟩
      have i3 : IntKind.i16.wrap every = every := IntWalk.i16_in _ ⟨by omega, by omega⟩
      have hv0 : every ≠ 0 := by omega
      go_wp2_with fail
      clear c0
      refine seq_all (by kernel_rfl) (by kernel_rfl) (fun w5 hw_ => ?_)
      have HH5 : Aside0 (Blk w5 hb 40 (hcells (some ⟨g, 0, none⟩) k c tub every today)) := ⟨by rw [hw_]; exact HH.out.drew⟩
      have HR5 : Aside0 (Rw w5 g k (dsF f N k)) := ⟨by rw [hw_]; exact HR.out.drew⟩
      have HV5 : Aside0 (w5.ownsRow w.heap.size 2 1 u5 k (nums .i64 (shL f N k))) := ⟨by rw [hw_]; exact HV.out⟩
      have HK5 : Aside0 (KpG w w5 (fun k => k = g ∨ k = hb)) := ⟨by rw [hw_]; exact HK.out.drew⟩
      clear hw_ HV HR HH HD HK
      have e2 := HH5.out.cell 2 (v := .int .i8 every) rfl
      have e3 := HH5.out.cell 3 (v := .int .i16 today) rfl
      have HY : Aside0 (dayF f N k tub every today = if Int.tmod (today + 1) every = 0 then (wsAll (dsF f N k) tub k).1 else dsF f N k) := ⟨rfl⟩
      repeat still_step
      try refine wpStill_nil ?_
      clear e2 e3
      by_cases hz : Int.tmod (today + 1) every = 0
      · rw [if_pos hz] at HY
        have hzb : (Int.tmod (today + 1) every == 0) = true := by simpa using hz
        rw [hzb]
        have HWA := Aside0.mk (fun W h h' => wash_calls (dsF f N k) k c g hb tub every today hn.2 HFN.out ht h3 W h h')
        go_wp2_with fail
        refine (HWA.out _ HH5.out HR5.out).mono ?_
        rintro e w6 ⟨rfl, hR_, hg_⟩
        have HV6 : Aside0 (w6.ownsRow w.heap.size 2 1 u5 k (nums .i64 (shL f N k))) := ⟨own_other HV5.out hg_ (.inr (own_ne HV5.out hgl).symm)⟩
        have HH6 := Aside0.mk (HH5.out.grown hg_ (by intro h_; injection h_ with h_; omega))
        have HK6 := Aside0.mk (KpG.of_grown hg_ HK5.out (fun k_ e_ => by injection e_ with e_; exact .inl (.inl e_.symm)))
        have HR6 := Aside0.mk hR_
        clear hR_ hg_ HV5 HH5 HK5 HR5
        have c3 := HH6.out.cell 3 (v := .int .i16 today) rfl
        have d3 := HH6.out.frozen 3
        go_wp2
        go_ret
        exact ⟨_, rfl, own_other HV6.out (grown_set _ _ _ _) (.inr (own_ne HV6.out hhl).symm), by rw [HY.out]; exact Rw.other HR6.out h3, HH6.out.set 3 _, HK6.out.setCell (.inl (.inr rfl)) _⟩
      · rw [if_neg hz] at HY
        have hzb : (Int.tmod (today + 1) every == 0) = false := by simpa using hz
        rw [hzb]
        have c3 := HH5.out.cell 3 (v := .int .i16 today) rfl
        have d3 := HH5.out.frozen 3
        go_wp2
        go_ret
        exact ⟨_, rfl, own_other HV5.out (grown_set _ _ _ _) (.inr (own_ne HV5.out hhl).symm), by rw [HY.out]; exact Rw.other HR5.out h3, HH5.out.set 3 _, HK5.out.setCell (.inl (.inr rfl)) _⟩
theorem newF_good {p : Int} (hp : 0 ≤ p ∧ p ≤ 500) : Fine (newF fun _ => p) 1 := by
  intro q hq
  have e : q = 0 := by omega
  subst e
  refine ⟨fun j hj => ?_, ?_⟩
  · show 0 ≤ (if (25 * 0 + j) % 25 = 7 then p else 0)
    split
    · exact hp.1
    · exact Int.le_refl _
  · have : tot (newF fun _ => p) (25 * 0) = p := by simp [tot, newF]
    omega
/-- the numbers of a kind of p new pieces behind i days, and what was short at day i -/
def lsF (p tub every : Int) (N : Nat → Int) : Nat → Nat → Int
  | 0 => newF fun _ => p
  | i + 1 => dayF (lsF p tub every N i) (fun _ => N i) 1 tub every (i : Int)
def lsS (p tub every : Int) (N : Nat → Int) (i : Nat) : Int := shF (lsF p tub every N i) (fun _ => N i) 0
theorem lsF_fine {p tub every : Int} {N : Nat → Int} {m : Nat} (hp : 0 ≤ p ∧ p ≤ 500) (ht : 0 ≤ tub) (hN : ∀ i, i < m → 0 ≤ N i) : ∀ i, i ≤ m → Fine (lsF p tub every N i) 1
  | 0, _ => newF_good hp
  | i + 1, hi => dayF_fine (lsF_fine hp ht hN i (by omega)) (fun _ _ => hN i (by omega)) ht
theorem needB_one {N : Nat → Int} (h : 0 ≤ N 0 ∧ N 0 ≤ 500) : needB N 1 = true := by simp [needB, h.1, h.2]
/-- the first of n numbers for which P holds: it and 0, or 0 and 6 -/
def LP (P : Nat → Prop) (n : Nat) (a code : Int) : Prop := (∃ p : Nat, p < n ∧ P p ∧ (∀ q, q < p → ¬ P q) ∧ a = (p : Int) ∧ code = 0) ∨ ((∀ q, q < n → ¬ P q) ∧ a = 0 ∧ code = 6)
theorem LP_ex (P : Nat → Prop) : ∀ n, ∃ a code, LP P n a code
  | 0 => ⟨0, 6, .inr ⟨fun q hq => by omega, rfl, rfl⟩⟩
  | n + 1 => by
    obtain ⟨a, code, ⟨p, h1, h2, h3, h4⟩ | ⟨h1, h2⟩⟩ := LP_ex P n
    · exact ⟨a, code, .inl ⟨p, by omega, h2, h3, h4⟩⟩
    · by_cases h : P n
      · exact ⟨n, 0, .inl ⟨n, by omega, h, h1, rfl, rfl⟩⟩
      · exact ⟨0, 6, .inr ⟨fun q hq => by rcases Nat.lt_or_ge q n with h_ | h_; exact h1 q h_; (have : q = n := by omega); subst this; exact h, rfl, rfl⟩⟩
theorem LP.found {P : Nat → Prop} {n p : Nat} {a code : Int} (h : LP P n a code) (hp : p < n) (hP : P p) (hq : ∀ q, q < p → ¬ P q) : a = (p : Int) ∧ code = 0 := by
  rcases h with ⟨p', h1, h2, h3, h4, h5⟩ | ⟨h1, _⟩
  · rcases Nat.lt_trichotomy p p' with h | h | h
    · exact absurd hP (h3 p h)
    · subst h; exact ⟨h4, h5⟩
    · exact absurd h2 (hq p' h)
  · exact absurd hP (h1 p hp)
theorem LP.none {P : Nat → Prop} {n : Nat} {a code : Int} (h : LP P n a code) (hq : ∀ q, q < n → ¬ P q) : a = 0 ∧ code = 6 := by
  rcases h with ⟨p', h1, h2, h3, h4, h5⟩ | ⟨_, h1⟩
  · exact absurd h2 (hq p' h1)
  · exact h1
/-- what is asked of a day -/
def lsN (l : List (List Int)) (kd : Nat) : Nat → Int := fun i => (l.getD i []).getD kd 0
def lsD (l : List (List Int)) (kd i : Nat) : Bool := decide (kd < (l.getD i []).length) && decide (0 ≤ lsN l kd i ∧ lsN l kd i ≤ 500)
def lsDs (l : List (List Int)) (kd : Nat) : Nat → Bool
  | 0 => true
  | i + 1 => lsDs l kd i && lsD l kd i
theorem lsDs_iff (l : List (List Int)) (kd : Nat) : ∀ m, lsDs l kd m = true ↔ ∀ i, i < m → lsD l kd i = true
  | 0 => by simp [lsDs]
  | m + 1 => by
    rw [lsDs, Bool.and_eq_true, lsDs_iff l kd m]
    constructor
    · rintro ⟨h1, h2⟩ i hi
      rcases Nat.lt_or_ge i m with h | h
      · exact h1 i h
      · have : i = m := by omega
        subst this; exact h2
    · exact fun h => ⟨fun i hi => h i (by omega), h m (by omega)⟩
def lsL (l : List (List Int)) (kd : Nat) : Nat → List Int
  | 0 => []
  | i + 1 => lsL l kd i ++ [lsN l kd i]
theorem lsL_len (l : List (List Int)) (kd : Nat) : ∀ i, (lsL l kd i).length = i
  | 0 => rfl
  | i + 1 => by rw [lsL, List.length_append, lsL_len l kd i]; rfl
theorem lsL_get (l : List (List Int)) (kd : Nat) : ∀ m i, i < m → (lsL l kd m).getD i 0 = lsN l kd i
  | m + 1, i, hi => by
    rw [lsL, List.getD_eq_getElem?_getD]
    rcases Nat.lt_or_ge i m with h | h
    · rw [List.getElem?_append_left (by rw [lsL_len]; exact h), ← List.getD_eq_getElem?_getD]
      exact lsL_get l kd m i h
    · have : i = m := by omega
      subst this
      rw [List.getElem?_append_right (by rw [lsL_len]; omega), lsL_len, Nat.sub_self]; rfl
end Go.Proofs.Ytjmnbikaijphlaa.X
