/- Contracts of functions over blocks of cells: what each call answers, and what it leaves as it was. -/
import Derived.Test.YtjmnbikaijphlaaRows4
import Derived.Test.YtjmnbikaijphlaaX5
import Derived.Test.YtjmnbikaijphlaaX6
set_option linter.unusedVariables false
set_option linter.unusedSimpArgs false
namespace Go.Proofs.Ytjmnbikaijphlaa.X
open Go.RowKit Go.Proofs.YtjmnbikaijphlaaW.PrintWords Go.Proofs.YtjmnbikaijphlaaW.PrintLast Go.Proofs.YtjmnbikaijphlaaW.PrintMore
attribute [local go_sem] max2_int min2_int max_two min_two max_three min_three max_four min_four
theorem within_f (x lo hi : Int) : impl_within.f x lo hi = some (decide (lo ≤ x ∧ x ≤ hi)) := by
  unfold impl_within.f
  by_cases h : lo ≤ x
  · rw [if_pos h]; simp [h]
  · rw [if_neg h]; simp [h]
theorem in_f (x lo hi : Int) : spec_l00In.f x lo hi = some (decide (lo ≤ x ∧ x ≤ hi)) := by
  unfold spec_l00In.f
  by_cases h : x ≥ lo
  · rw [if_pos h]; simp; omega
  · rw [if_neg h]; simp; omega
theorem within_c (x lo hi : Int) (w : World) : Calls Try.prog 70 #[.int .i64 x, .int .i64 lo, .int .i64 hi] w fun e w' => e = .returned (.bool (decide (lo ≤ x ∧ x ≤ hi))) ∧ Drawn0 w w' := impl_within.calls x lo hi _ w (within_f _ _ _)
theorem in_c (x lo hi : Int) (w : World) : Calls Try.prog 74 #[.int .i64 x, .int .i64 lo, .int .i64 hi] w fun e w' => e = .returned (.bool (decide (lo ≤ x ∧ x ≤ hi))) ∧ Drawn0 w w' := spec_l00In.calls x lo hi _ w (in_f _ _ _)
theorem count_c (x : Int) (w : World) : Calls Try.prog 76 #[.int .i64 x] w fun e w' => e = .returned (.bool (decide (0 ≤ x ∧ x ≤ 500))) ∧ Drawn0 w w' := spec_l05Count.calls x _ w (by unfold spec_l05Count.f; rw [in_f]; rfl)
theorem isPieces_c (x : Int) (w : World) : Calls Try.prog 85 #[.int .i64 x] w fun e w' => e = .returned (.bool (decide (0 ≤ x ∧ x ≤ 500))) ∧ Drawn0 w w' := impl_isPieces.calls x _ w (by unfold impl_isPieces.f; rw [within_f]; rfl)
theorem tub_c (t v : Int) (w : World) : Calls Try.prog 75 #[.int .i64 t, .int .i64 v] w fun e w' => e = .returned (.bool (decide (0 ≤ t ∧ t ≤ 1000) && decide (1 ≤ v ∧ v ≤ 7))) ∧ Drawn0 w w' := spec_l05Tub.calls t v _ w (by
  unfold spec_l05Tub.f
  rw [in_f, Option.bind_some]
  by_cases h : 0 ≤ t ∧ t ≤ 1000
  · rw [if_pos (decide_eq_true h), in_f, Option.bind_some, decide_eq_true h, Bool.true_and]
  · rw [decide_eq_false h]; rfl)
theorem unless_c (b : Bool) (c : Int) (w : World) : Calls Try.prog 84 #[.bool b, .int .i64 c] w fun e w' => e = .returned (.int .i64 (if b = true then 0 else c)) ∧ Drawn0 w w' := impl_unless.calls b c _ w (by unfold impl_unless.f; split <;> rfl)
/-- the first code that is not 0 -/
def first2 (a b : Int) : Int := if a = 0 then b else a
theorem firstOf2_f (a b : Int) : impl_firstOf.f 5 [a, b] = some (first2 a b) := by
  unfold impl_firstOf.f first2
  by_cases ha : a = 0
  · subst ha
    by_cases hb : b = 0
    · subst hb; simp [impl_firstOf.l0, rd, wrap64]
    · simp [impl_firstOf.l0, rd, wrap64, hb]
  · simp [impl_firstOf.l0, rd, wrap64, ha]
theorem firstOf2_c (a b : Int) (A : Option Addr) (w : World) (c : Nat) (hc : 2 ≤ c) (h : Kd.C (Kd.int .i64) w A 2 [a, b]) : Calls Try.prog 83 #[.slice A 2 c] w fun e w' => e = .returned (.int .i64 (first2 a b)) ∧ Drawn0 w w' :=
  impl_firstOf.calls 5 A c [a, b] _ w h hc (firstOf2_f a b)

end Go.Proofs.Ytjmnbikaijphlaa.X
