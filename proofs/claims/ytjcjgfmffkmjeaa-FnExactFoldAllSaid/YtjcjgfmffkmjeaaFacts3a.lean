/- Plain facts of the printed functions: no program in sight. -/
import Derived.Test.YtjcjgfmffkmjeaaX0
import Derived.Test.YtjcjgfmffkmjeaaX5
import Derived.Test.YtjcjgfmffkmjeaaX12
import Derived.Test.YtjcjgfmffkmjeaaFacts1
set_option linter.unusedVariables false
set_option linter.unusedSimpArgs false
namespace Go.Proofs.Ytjcjgfmffkmjeaa.X
open Go.RowKit Go.Proofs.YtjcjgfmffkmjeaaW.PrintWords Go.Proofs.YtjcjgfmffkmjeaaW.PrintLast Go.Proofs.YtjcjgfmffkmjeaaW.PrintMore
theorem wf16 {n : Int} (h : (Lit.int .i16 n).wf = true) : -32768 ≤ n ∧ n ≤ 32767 := by
  have hmin : IntKind.i16.min = -32768 := rfl
  have hmax : IntKind.i16.max = 32767 := rfl
  simp only [Lit.wf, Bool.and_eq_true, decide_eq_true_eq] at h
  omega
theorem w16 {n : Int} (h0 : -32768 ≤ n) (h1 : n ≤ 32767) : IntKind.i16.wrap n = n := IntWalk.i16_in n ⟨h0, h1⟩
theorem within_f (x a b : Int) : impl_within.f x a b = some (decide (a ≤ x ∧ x ≤ b)) := by
  unfold impl_within.f; split <;> simp [*]
theorem l00In_f (x a b : Int) : spec_l00In.f x a b = some (decide (a ≤ x ∧ x ≤ b)) := by
  unfold spec_l00In.f
  split
  all_goals first | exact congrArg some (decide_eq_decide.mpr (by omega)) | exact congrArg some (decide_eq_false (by omega)).symm
/-- a valid sheet -/
def Sh (a b c : Int) : Prop := 1 ≤ a ∧ a ≤ 1296 ∧ 1 ≤ b ∧ b ≤ 1296 ∧ 1 ≤ c ∧ c ≤ 144
instance (a b c : Int) : Decidable (Sh a b c) := by unfold Sh; infer_instance
theorem validSheet_f {a b c : Int} (ha : -32768 ≤ a ∧ a ≤ 32767) (hb : -32768 ≤ b ∧ b ≤ 32767) (hc : -32768 ≤ c ∧ c ≤ 32767) : impl_ValidSheet.f a b c = some (decide (Sh a b c)) := by
  unfold impl_ValidSheet.f
  simp only [within_f, w64i (show -9223372036854775808 ≤ a by omega) (by omega), w64i (show -9223372036854775808 ≤ b by omega) (by omega), w64i (show -9223372036854775808 ≤ c by omega) (by omega), Option.bind_some, Sh]
  repeat' split
  all_goals simp only [decide_eq_true_eq] at *
  all_goals first | exact congrArg some (decide_eq_decide.mpr (by omega)) | exact congrArg some (decide_eq_false (by omega)).symm
theorem l04Ok_f {a b c : Int} (ha : -32768 ≤ a ∧ a ≤ 32767) (hb : -32768 ≤ b ∧ b ≤ 32767) (hc : -32768 ≤ c ∧ c ≤ 32767) : spec_l04Ok.f a b c = some (decide (Sh a b c)) := by
  unfold spec_l04Ok.f spec_l04Side.f
  simp only [l00In_f, w64i (show -9223372036854775808 ≤ a by omega) (by omega), w64i (show -9223372036854775808 ≤ b by omega) (by omega), w64i (show -9223372036854775808 ≤ c by omega) (by omega), Option.bind_some, Sh]
  repeat' split
  all_goals simp only [decide_eq_true_eq] at *
  all_goals first | exact congrArg some (decide_eq_decide.mpr (by omega)) | exact congrArg some (decide_eq_false (by omega)).symm
theorem Sh.bd {a b c : Int} (h : Sh a b c) : (-32768 ≤ a ∧ a ≤ 32767) ∧ (-32768 ≤ b ∧ b ≤ 32767) ∧ (-32768 ≤ c ∧ c ≤ 32767) := by unfold Sh at h; omega
/-- a fold's sheet and code -/
def madeF (a b c fold : Int) : Int × Int × Int × Int :=
  if fold < 0 ∨ 3 < fold then (0, 0, 0, 2)
  else if (if fold = 1 ∨ fold = 3 then b else a) % (2 + fold / 2) ≠ 0 then (0, 0, 0, 4)
  else if 144 < c * (2 + fold / 2) then (0, 0, 0, 3)
  else if fold = 1 ∨ fold = 3 then (a, b / (2 + fold / 2), c * (2 + fold / 2), 0)
  else (a / (2 + fold / 2), b, c * (2 + fold / 2), 0)
theorem l04Fold_f (x : Int) : spec_l04Fold.f x = some (decide (0 ≤ x ∧ x ≤ 3)) := by
  unfold spec_l04Fold.f
  rw [l00In_f]
  rfl
theorem areWithin_f (l : List Int) (a b : Int) : impl_areWithin.f l a b = some (l.all fun x => decide (a ≤ x ∧ x ≤ b)) := by
  unfold impl_areWithin.f
  congr 1
  congr 1
  funext x
  simp

end Go.Proofs.Ytjcjgfmffkmjeaa.X
