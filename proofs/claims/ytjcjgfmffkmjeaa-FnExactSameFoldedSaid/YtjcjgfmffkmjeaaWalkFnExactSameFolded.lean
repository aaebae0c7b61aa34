/- FnExactSameFolded: for every input the law's function returns true: the walk, and the plain law that it comes to. -/
import Derived.Test.YtjcjgfmffkmjeaaX3
set_option linter.unusedVariables false
namespace Go.Proofs.Ytjcjgfmffkmjeaa.fnExactSameFolded
open Go.RowKit Go.Proofs.Ytjcjgfmffkmjeaa.X Go.Proofs.YtjcjgfmffkmjeaaW.PrintWords Go.Proofs.YtjcjgfmffkmjeaaW.PrintLast

theorem wf16 {n : Int} (h : (Lit.int .i16 n).wf = true) : -32768 ≤ n ∧ n ≤ 32767 := by
  have hmin : IntKind.i16.min = -32768 := rfl
  have hmax : IntKind.i16.max = 32767 := rfl
  simp only [Lit.wf, Bool.and_eq_true, decide_eq_true_eq] at h
  omega
theorem w64 {n : Int} (h : -32768 ≤ n ∧ n ≤ 32767) : wrap64 n = n := by unfold wrap64; omega

def okS (a b c : Int) : Bool := decide (1 ≤ a ∧ a ≤ 1296 ∧ 1 ≤ b ∧ b ≤ 1296 ∧ 1 ≤ c ∧ c ≤ 144)

theorem within_f (x a b : Int) : impl_within.f x a b = some (decide (a ≤ x ∧ x ≤ b)) := by
  unfold impl_within.f; split <;> simp [*]
theorem l00In_f (x a b : Int) : spec_l00In.f x a b = some (decide (a ≤ x ∧ x ≤ b)) := by
  unfold spec_l00In.f
  split
  all_goals first | exact congrArg some (decide_eq_decide.mpr (by omega)) | exact congrArg some (decide_eq_false (by omega)).symm

theorem validSheet_f {a b c : Int} (ha : -32768 ≤ a ∧ a ≤ 32767) (hb : -32768 ≤ b ∧ b ≤ 32767) (hc : -32768 ≤ c ∧ c ≤ 32767) : impl_ValidSheet.f a b c = some (okS a b c) := by
  unfold impl_ValidSheet.f
  simp only [within_f, w64 ha, w64 hb, w64 hc, Option.bind_some, okS]
  repeat' split
  all_goals simp only [decide_eq_true_eq] at *
  all_goals first | exact congrArg some (decide_eq_decide.mpr (by omega)) | exact congrArg some (decide_eq_false (by omega)).symm
theorem l04Ok_f {a b c : Int} (ha : -32768 ≤ a ∧ a ≤ 32767) (hb : -32768 ≤ b ∧ b ≤ 32767) (hc : -32768 ≤ c ∧ c ≤ 32767) : spec_l04Ok.f a b c = some (okS a b c) := by
  unfold spec_l04Ok.f spec_l04Side.f
  simp only [l00In_f, w64 ha, w64 hb, w64 hc, Option.bind_some, okS]
  repeat' split
  all_goals simp only [decide_eq_true_eq] at *
  all_goals first | exact congrArg some (decide_eq_decide.mpr (by omega)) | exact congrArg some (decide_eq_false (by omega)).symm

theorem walk (a0 : S24) (a1 : S24) (w : World) (w0 : (Lit.int .i16 a0.f0).wf = true ∧ (Lit.int .i16 a0.f1).wf = true ∧ (Lit.int .i16 a0.f2).wf = true) (w1 : (Lit.int .i16 a1.f0).wf = true ∧ (Lit.int .i16 a1.f1).wf = true ∧ (Lit.int .i16 a1.f2).wf = true) :
    Calls Try.prog 3 #[.agg #[.int .i16 a0.f0, .int .i16 a0.f1, .int .i16 a0.f2], .agg #[.int .i16 a1.f0, .int .i16 a1.f1, .int .i16 a1.f2]] w fun e w' => e = .returned (.bool true) ∧ Below w.heap.size w w' := by
  refine laws_FnExactSameFolded.calls _ _ _ _ _ _ _ w ?_
  obtain ⟨ha, hb, hc⟩ := w0
  obtain ⟨hd, he, hf⟩ := w1
  have ha := wf16 ha
  have hb := wf16 hb
  have hc := wf16 hc
  have hd := wf16 hd
  have he := wf16 he
  have hf := wf16 hf
  unfold laws_FnExactSameFolded.f laws_toSheet.f
  simp only [Option.bind_some]
  unfold spec_SameFolded.f impl_SameFolded.f
  simp only [l04Ok_f ha hb hc, l04Ok_f hd he hf, validSheet_f ha hb hc, validSheet_f hd he hf, Option.bind_some]
  repeat' split
  all_goals simp_all
end Go.Proofs.Ytjcjgfmffkmjeaa.fnExactSameFolded
