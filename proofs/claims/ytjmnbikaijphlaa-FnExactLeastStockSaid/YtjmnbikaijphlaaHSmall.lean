/- Contracts of functions, and plain facts: what each call answers, and what it leaves as it was. -/
import Derived.Test.YtjmnbikaijphlaaHFacts
import Derived.Test.YtjmnbikaijphlaaX5
import Derived.Test.YtjmnbikaijphlaaX6
set_option linter.unusedVariables false
set_option linter.unusedSimpArgs false
namespace Go.Proofs.Ytjmnbikaijphlaa.X
open Go.RowKit Go.Proofs.YtjmnbikaijphlaaW.PrintWords Go.Proofs.YtjmnbikaijphlaaW.PrintLast Go.Proofs.YtjmnbikaijphlaaW.PrintMore
attribute [local go_sem] max2_int min2_int max_two min_two max_three min_three max_four min_four
theorem within_f (x lo hi : Int) : impl_within.f x lo hi = some (decide (lo ≤ x ∧ x ≤ hi)) := by
  unfold impl_within.f
  by_cases h : lo ≤ x
  · rw [if_pos h]; simp [h]
  · rw [if_neg h]; simp [h]
theorem in_f (x lo hi : Int) : spec_l00In.f x lo hi = some (decide (lo ≤ x ∧ x ≤ hi)) := by
  unfold spec_l00In.f
  by_cases h : x ≥ lo
  · rw [if_pos h]; simp; omega
  · rw [if_neg h]; simp; omega
theorem within_c (x lo hi : Int) (w : World) : Calls Try.prog 70 #[.int .i64 x, .int .i64 lo, .int .i64 hi] w fun e w' => e = .returned (.bool (decide (lo ≤ x ∧ x ≤ hi))) ∧ Drawn0 w w' := impl_within.calls x lo hi _ w (within_f _ _ _)
theorem in_c (x lo hi : Int) (w : World) : Calls Try.prog 74 #[.int .i64 x, .int .i64 lo, .int .i64 hi] w fun e w' => e = .returned (.bool (decide (lo ≤ x ∧ x ≤ hi))) ∧ Drawn0 w w' := spec_l00In.calls x lo hi _ w (in_f _ _ _)
theorem count_c (x : Int) (w : World) : Calls Try.prog 76 #[.int .i64 x] w fun e w' => e = .returned (.bool (decide (0 ≤ x ∧ x ≤ 500))) ∧ Drawn0 w w' := spec_l05Count.calls x _ w (by unfold spec_l05Count.f; rw [in_f]; rfl)
theorem isPieces_c (x : Int) (w : World) : Calls Try.prog 85 #[.int .i64 x] w fun e w' => e = .returned (.bool (decide (0 ≤ x ∧ x ≤ 500))) ∧ Drawn0 w w' := impl_isPieces.calls x _ w (by unfold impl_isPieces.f; rw [within_f]; rfl)
theorem tub_c (t v : Int) (w : World) : Calls Try.prog 75 #[.int .i64 t, .int .i64 v] w fun e w' => e = .returned (.bool (decide (0 ≤ t ∧ t ≤ 1000) && decide (1 ≤ v ∧ v ≤ 7))) ∧ Drawn0 w w' := spec_l05Tub.calls t v _ w (by
  unfold spec_l05Tub.f
  rw [in_f, Option.bind_some]
  by_cases h : 0 ≤ t ∧ t ≤ 1000
  · rw [if_pos (decide_eq_true h), in_f, Option.bind_some, decide_eq_true h, Bool.true_and]
  · rw [decide_eq_false h]; rfl)
theorem unless_c (b : Bool) (c : Int) (w : World) : Calls Try.prog 84 #[.bool b, .int .i64 c] w fun e w' => e = .returned (.int .i64 (if b = true then 0 else c)) ∧ Drawn0 w w' := impl_unless.calls b c _ w (by unfold impl_unless.f; split <;> rfl)
/-- the first code that is not 0 -/
def first2 (a b : Int) : Int := if a = 0 then b else a
theorem firstOf2_f (a b : Int) : impl_firstOf.f 5 [a, b] = some (first2 a b) := by
  unfold impl_firstOf.f first2
  by_cases ha : a = 0
  · subst ha
    by_cases hb : b = 0
    · subst hb; simp [impl_firstOf.l0, rd, wrap64]
    · simp [impl_firstOf.l0, rd, wrap64, hb]
  · simp [impl_firstOf.l0, rd, wrap64, ha]
theorem firstOf2_c (a b : Int) (A : Option Addr) (w : World) (c : Nat) (hc : 2 ≤ c) (h : Kd.C (Kd.int .i64) w A 2 [a, b]) : Calls Try.prog 83 #[.slice A 2 c] w fun e w' => e = .returned (.int .i64 (first2 a b)) ∧ Drawn0 w w' :=
  impl_firstOf.calls 5 A c [a, b] _ w h hc (firstOf2_f a b)
set_option maxHeartbeats 8000000 in
set_option maxRecDepth 100000 in
theorem in_q (x lo hi : Int) (w : World) : Calls Try.prog 74 #[.int .i64 x, .int .i64 lo, .int .i64 hi] w fun e w' => e = .returned (.bool (decide (lo ≤ x ∧ x ≤ hi))) ∧ w' = w := by
  by_cases h1 : lo ≤ x
  · have c : decide (lo ≤ x) = true := decide_eq_true h1
    have e : decide (lo ≤ x ∧ x ≤ hi) = decide (x ≤ hi) := by simp [h1]
    rw [e]
    clear h1 e
    go_enter Try.func74, Try.ntmps74
    go_wp2
    go_ret
    exact ⟨by first | rfl | (simp; done), rfl⟩
  · have c : decide (lo ≤ x) = false := decide_eq_false h1
    have e : decide (lo ≤ x ∧ x ≤ hi) = false := by simp [h1]
    rw [e]
    clear h1 e
    go_enter Try.func74, Try.ntmps74
    go_wp2
    go_ret
    exact ⟨by first | rfl | (simp; done), rfl⟩
set_option maxHeartbeats 8000000 in
set_option maxRecDepth 100000 in
theorem within_q (x lo hi : Int) (w : World) : Calls Try.prog 70 #[.int .i64 x, .int .i64 lo, .int .i64 hi] w fun e w' => e = .returned (.bool (decide (lo ≤ x ∧ x ≤ hi))) ∧ w' = w := by
  by_cases h1 : lo ≤ x
  · have c : decide (lo ≤ x) = true := decide_eq_true h1
    have e : decide (lo ≤ x ∧ x ≤ hi) = decide (x ≤ hi) := by simp [h1]
    rw [e]
    clear h1 e
    go_enter Try.func70, Try.ntmps70
    go_wp2
    go_ret
    exact ⟨by first | rfl | (simp; done), rfl⟩
  · have c : decide (lo ≤ x) = false := decide_eq_false h1
    have e : decide (lo ≤ x ∧ x ≤ hi) = false := by simp [h1]
    rw [e]
    clear h1 e
    go_enter Try.func70, Try.ntmps70
    go_wp2
    go_ret
    exact ⟨by first | rfl | (simp; done), rfl⟩
set_option maxHeartbeats 8000000 in
set_option maxRecDepth 100000 in
theorem count_q (x : Int) (w : World) : Calls Try.prog 76 #[.int .i64 x] w fun e w' => e = .returned (.bool (decide (0 ≤ x ∧ x ≤ 500))) ∧ w' = w := by
  have HC := Aside0.mk (fun W => in_q x 0 500 W)
  generalize decide (0 ≤ x ∧ x ≤ 500) = b at *
  go_enter Try.func76, Try.ntmps76
  go_wp2_with (go_at_call 74; refine (HC.out _).mono ?_; rintro e w' ⟨rfl, rfl⟩)
  go_ret
  exact ⟨rfl, rfl⟩
set_option maxHeartbeats 8000000 in
set_option maxRecDepth 100000 in
theorem isPieces_q (x : Int) (w : World) : Calls Try.prog 85 #[.int .i64 x] w fun e w' => e = .returned (.bool (decide (0 ≤ x ∧ x ≤ 500))) ∧ w' = w := by
  have HC := Aside0.mk (fun W => within_q x 0 500 W)
  generalize decide (0 ≤ x ∧ x ≤ 500) = b at *
  go_enter Try.func85, Try.ntmps85
  go_wp2_with (go_at_call 70; refine (HC.out _).mono ?_; rintro e w' ⟨rfl, rfl⟩)
  go_ret
  exact ⟨rfl, rfl⟩
set_option maxHeartbeats 8000000 in
set_option maxRecDepth 100000 in
theorem tub_q (t v : Int) (w : World) : Calls Try.prog 75 #[.int .i64 t, .int .i64 v] w fun e w' => e = .returned (.bool (decide (0 ≤ t ∧ t ≤ 1000) && decide (1 ≤ v ∧ v ≤ 7))) ∧ w' = w := by
  have HC := Aside0.mk (fun W => in_q t 0 1000 W)
  have HD := Aside0.mk (fun W => in_q v 1 7 W)
  generalize decide (0 ≤ t ∧ t ≤ 1000) = b at *
  generalize decide (1 ≤ v ∧ v ≤ 7) = d at *
  cases b
  all_goals
    go_enter Try.func75, Try.ntmps75
    go_wp2_with (first | (go_at_call 74; (with_reducible refine (HC.out _).mono ?_); rintro e w' ⟨rfl, rfl⟩) | (go_at_call 74; (with_reducible refine (HD.out _).mono ?_); rintro e w' ⟨rfl, rfl⟩))
    go_ret
    exact ⟨rfl, rfl⟩
set_option maxHeartbeats 8000000 in
set_option maxRecDepth 100000 in
theorem unless_q (b : Bool) (c : Int) (w : World) : Calls Try.prog 84 #[.bool b, .int .i64 c] w fun e w' => e = .returned (.int .i64 (if b = true then 0 else c)) ∧ w' = w := by
  cases b
  all_goals
    go_enter Try.func84, Try.ntmps84
    go_wp2
    go_ret
    exact ⟨rfl, rfl⟩
set_option maxHeartbeats 8000000 in
set_option maxRecDepth 100000 in
theorem sizeK_q (A : Option Addr) (n c : Nat) (w : World) : Calls Try.prog 71 #[.slice A n c] w fun e w' => e = .returned (.int .i64 n) ∧ w' = w := by
  go_enter Try.func71, Try.ntmps71
  go_wp2
  go_ret
  exact ⟨rfl, rfl⟩
set_option maxHeartbeats 8000000 in
set_option maxRecDepth 100000 in
theorem sizeN_q (A : Option Addr) (n c : Nat) (w : World) : Calls Try.prog 78 #[.slice A n c] w fun e w' => e = .returned (.int .i64 n) ∧ w' = w := by
  go_enter Try.func78, Try.ntmps78
  go_wp2
  go_ret
  exact ⟨rfl, rfl⟩
/-- the first number that is not 0 -/
def firstL : List Int → Int
  | [] => 0
  | x :: xs => if x = 0 then firstL xs else x
theorem firstL_drop {l : List Int} {k : Nat} (hk : k < l.length) : firstL (l.drop k) = if l.getD k 0 = 0 then firstL (l.drop (k + 1)) else l.getD k 0 := by
  rw [List.drop_eq_getElem_cons hk, List.getD_eq_getElem?_getD, List.getElem?_eq_getElem hk]; rfl
set_option maxHeartbeats 8000000 in
set_option maxRecDepth 100000 in
theorem firstOf_q (l : List Int) (g n c : Nat) (w : World) (hl : l.length = n) (hn : n ≤ 100) (hc : ∀ k, k < n → w.cell? ⟨g, k, none⟩ = some (.int .i64 (l.getD k 0))) : Calls Try.prog 83 #[.slice (some ⟨g, 0, none⟩) n c] w fun e w' => e = .returned (.int .i64 (firstL l)) ∧ w' = w := by
  have HL := Aside0.mk hl
  have HC := Aside0.mk hc
  clear hl hc
  obtain ⟨r, HX⟩ : ∃ r, Aside0 (firstL (l.drop 0) = r ∧ firstL l = r) := ⟨_, ⟨rfl, rfl⟩⟩
  rw [HX.out.2]
  go_enter Try.func83, Try.ntmps83
  go_wp2
  go_loop [7] (fun v7 => ∃ k : Nat, k ≤ n ∧ v7 = .int .i64 k ∧ Aside0 (firstL (l.drop k) = r)) (fun v7 => n - (intOf v7).toNat)
  case atStart => exact ⟨0, by omega, rfl, ⟨HX.out.1⟩⟩
  case round =>
    clear HX
    obtain ⟨k, hk, rfl, HI⟩ := hrel
    by_cases hlt : k < n
    · have c1 := HC.out k hlt
      have HJ := Aside0.mk (firstL_drop (l := l) (k := k) (by have := HL.out; omega))
      generalize l.getD k 0 = x at *
      by_cases hx : x = 0
      · have HI2 : Aside0 (firstL (l.drop (k + 1)) = r) := ⟨by rw [← HI.out, HJ.out, if_pos hx]⟩
        subst hx
        clear HJ HI
        go_wp2
        go_round
        case rel => exact ⟨k + 1, by omega, by go_num, HI2⟩
        case measure => simp [intOf] <;> omega
      · have HI2 : Aside0 (x = r) := ⟨by rw [← HI.out, HJ.out, if_neg hx]⟩
        have hx1 : (x != 0) = true := by simpa using hx
        have hx2 : (x == 0) = false := by simpa using hx
        have hx3 : decide (x = 0) = false := decide_eq_false hx
        clear HJ HI
        go_wp2
        go_ret
        exact ⟨by rw [← HI2.out]; rfl, rfl⟩
    · have HI2 : Aside0 (0 = r) := ⟨by rw [← HI.out, List.drop_of_length_le (by have := HL.out; omega)]; rfl⟩
      clear HI
      go_wp2
      go_ret
      exact ⟨by rw [← HI2.out]; rfl, rfl⟩
end Go.Proofs.Ytjmnbikaijphlaa.X
