/- Contracts of functions, and plain facts: what each call answers, and what it leaves as it was. -/
import Derived.Test.YtddlhjhnnmkgaaaDoorHFacts
import Derived.Test.YtddlhjhnnmkgaaaDoorX5
set_option linter.unusedVariables false
set_option linter.unusedSimpArgs false
namespace Go.Proofs.YtddlhjhnnmkgaaaDoor.X
open Go.RowKit Go.Proofs.YtddlhjhnnmkgaaaDoorW.PrintWords Go.Proofs.YtddlhjhnnmkgaaaDoorW.PrintLast Go.Proofs.YtddlhjhnnmkgaaaDoorW.PrintMore
attribute [local go_sem] max2_int min2_int max_two min_two max_three min_three max_four min_four
theorem within_f (x lo hi : Int) : impl_within.f x lo hi = some (decide (lo ≤ x ∧ x ≤ hi)) := by
  unfold impl_within.f
  by_cases h : lo ≤ x
  · rw [if_pos h]; simp [h]
  · rw [if_neg h]; simp [h]
theorem in_f (x lo hi : Int) : spec_l00In.f x lo hi = some (decide (lo ≤ x ∧ x ≤ hi)) := by
  unfold spec_l00In.f
  by_cases h : x ≥ lo
  · rw [if_pos h]; simp; omega
  · rw [if_neg h]; simp; omega
theorem within_c (x lo hi : Int) (w : World) : Calls Tryd.prog 23 #[.int .i64 x, .int .i64 lo, .int .i64 hi] w fun e w' => e = .returned (.bool (decide (lo ≤ x ∧ x ≤ hi))) ∧ Drawn0 w w' := impl_within.calls x lo hi _ w (within_f _ _ _)
theorem in_c (x lo hi : Int) (w : World) : Calls Tryd.prog 18 #[.int .i64 x, .int .i64 lo, .int .i64 hi] w fun e w' => e = .returned (.bool (decide (lo ≤ x ∧ x ≤ hi))) ∧ Drawn0 w w' := spec_l00In.calls x lo hi _ w (in_f _ _ _)
theorem tub_c (t v : Int) (w : World) : Calls Tryd.prog 19 #[.int .i64 t, .int .i64 v] w fun e w' => e = .returned (.bool (decide (0 ≤ t ∧ t ≤ 1000) && decide (1 ≤ v ∧ v ≤ 7))) ∧ Drawn0 w w' := spec_l05Tub.calls t v _ w (by
  unfold spec_l05Tub.f
  rw [in_f, Option.bind_some]
  by_cases h : 0 ≤ t ∧ t ≤ 1000
  · rw [if_pos (decide_eq_true h), in_f, Option.bind_some, decide_eq_true h, Bool.true_and]
  · rw [decide_eq_false h]; rfl)
set_option maxHeartbeats 8000000 in
set_option maxRecDepth 100000 in
theorem in_q (x lo hi : Int) (w : World) : Calls Tryd.prog 18 #[.int .i64 x, .int .i64 lo, .int .i64 hi] w fun e w' => e = .returned (.bool (decide (lo ≤ x ∧ x ≤ hi))) ∧ w' = w := by
  by_cases h1 : lo ≤ x
  · have c : decide (lo ≤ x) = true := decide_eq_true h1
    have e : decide (lo ≤ x ∧ x ≤ hi) = decide (x ≤ hi) := by simp [h1]
    rw [e]
    clear h1 e
    go_enter Tryd.func18, Tryd.ntmps18
    go_wp2
    go_ret
    exact ⟨by first | rfl | (simp; done), rfl⟩
  · have c : decide (lo ≤ x) = false := decide_eq_false h1
    have e : decide (lo ≤ x ∧ x ≤ hi) = false := by simp [h1]
    rw [e]
    clear h1 e
    go_enter Tryd.func18, Tryd.ntmps18
    go_wp2
    go_ret
    exact ⟨by first | rfl | (simp; done), rfl⟩
set_option maxHeartbeats 8000000 in
set_option maxRecDepth 100000 in
theorem within_q (x lo hi : Int) (w : World) : Calls Tryd.prog 23 #[.int .i64 x, .int .i64 lo, .int .i64 hi] w fun e w' => e = .returned (.bool (decide (lo ≤ x ∧ x ≤ hi))) ∧ w' = w := by
  by_cases h1 : lo ≤ x
  · have c : decide (lo ≤ x) = true := decide_eq_true h1
    have e : decide (lo ≤ x ∧ x ≤ hi) = decide (x ≤ hi) := by simp [h1]
    rw [e]
    clear h1 e
    go_enter Tryd.func23, Tryd.ntmps23
    go_wp2
    go_ret
    exact ⟨by first | rfl | (simp; done), rfl⟩
  · have c : decide (lo ≤ x) = false := decide_eq_false h1
    have e : decide (lo ≤ x ∧ x ≤ hi) = false := by simp [h1]
    rw [e]
    clear h1 e
    go_enter Tryd.func23, Tryd.ntmps23
    go_wp2
    go_ret
    exact ⟨by first | rfl | (simp; done), rfl⟩
set_option maxHeartbeats 8000000 in
set_option maxRecDepth 100000 in
theorem tub_q (t v : Int) (w : World) : Calls Tryd.prog 19 #[.int .i64 t, .int .i64 v] w fun e w' => e = .returned (.bool (decide (0 ≤ t ∧ t ≤ 1000) && decide (1 ≤ v ∧ v ≤ 7))) ∧ w' = w := by
  have HC := Aside0.mk (fun W => in_q t 0 1000 W)
  have HD := Aside0.mk (fun W => in_q v 1 7 W)
  generalize decide (0 ≤ t ∧ t ≤ 1000) = b at *
  generalize decide (1 ≤ v ∧ v ≤ 7) = d at *
  cases b
  all_goals
    go_enter Tryd.func19, Tryd.ntmps19
    go_wp2_with (first | (go_at_call 18; (with_reducible refine (HC.out _).mono ?_); rintro e w' ⟨rfl, rfl⟩) | (go_at_call 18; (with_reducible refine (HD.out _).mono ?_); rintro e w' ⟨rfl, rfl⟩))
    go_ret
    exact ⟨rfl, rfl⟩
set_option maxHeartbeats 8000000 in
set_option maxRecDepth 100000 in
theorem sizeK_q (A : Option Addr) (n c : Nat) (w : World) : Calls Tryd.prog 24 #[.slice A n c] w fun e w' => e = .returned (.int .i64 n) ∧ w' = w := by
  go_enter Tryd.func24, Tryd.ntmps24
  go_wp2
  go_ret
  exact ⟨rfl, rfl⟩
end Go.Proofs.YtddlhjhnnmkgaaaDoor.X
