/- FnExactFoldAll: for every input the law's function returns true: the walk, and the plain law that it comes to. -/
import Derived.Test.YtjcjgfmffkmjeaaX0
import Derived.Test.YtjcjgfmffkmjeaaX5
import Derived.Test.YtjcjgfmffkmjeaaX36
import Derived.Test.YtjcjgfmffkmjeaaFacts3b
import Derived.Test.YtjcjgfmffkmjeaaFacts6c
set_option linter.unusedVariables false
set_option linter.unusedSimpArgs false
namespace Go.Proofs.Ytjcjgfmffkmjeaa.fnExactFoldAll
open Go.RowKit Go.Proofs.Ytjcjgfmffkmjeaa.X Go.Proofs.YtjcjgfmffkmjeaaW.PrintWords Go.Proofs.YtjcjgfmffkmjeaaW.PrintLast

theorem law {a b c : Int} (ha : -32768 ≤ a ∧ a ≤ 32767) (hb : -32768 ≤ b ∧ b ≤ 32767) (hc : -32768 ≤ c ∧ c ≤ 32767) (l : List Int) : ∃ k, laws_FnExactFoldAll.f k a b c l = some true := by
  by_cases hbig : (l.length : Int) > 1048576
  · exact ⟨0, by unfold laws_FnExactFoldAll.f; rw [if_pos hbig]⟩
  · obtain ⟨K1, h1⟩ := toInt64S_ev (l := l) (by omega)
    obtain ⟨K2, h2⟩ := eqInt64S_ev (a := l) (b := l) (by omega)
    refine ⟨K1 + K2 + l.length + 10, ?_⟩
    have e1 := h1 (K1 + K2 + l.length + 10) (by omega)
    have e1' := h1 (K1 + K2 + l.length + 9) (by omega)
    have e2 := h2 (K1 + K2 + l.length + 9) (by omega)
    simp only at e1 e1' e2
    unfold laws_FnExactFoldAll.f laws_toSheet.f
    rw [if_neg hbig]
    simp only [Option.bind_some, e1, specAll_f ha hb hc (show l.length + 1 < K1 + K2 + l.length + 10 by omega), implAll_f ha hb hc (l := l) (by omega) (show l.length + 2 < K1 + K2 + l.length + 10 by omega), eqSheet_f, and_self, decide_true, if_true, bne_self_eq_false]
    simp only [laws_FnExactFoldAll.j0, Bool.false_eq_true, if_false, e1', e2, Option.bind_some, decide_true, if_true]
theorem walk (a0 : S24) (A1 : Option Addr) (c1 : Nat) (l1 : (List Int)) (w : World) (w0 : (Lit.int .i16 a0.f0).wf = true ∧ (Lit.int .i16 a0.f1).wf = true ∧ (Lit.int .i16 a0.f2).wf = true) (hr1 : Kd.C (Kd.int .i64) w A1 l1.length l1) (hc1 : l1.length ≤ c1) (w1 : ∀ x_ ∈ l1, (Lit.int .i64 x_).wf = true) :
    Calls Try.prog 11 #[.agg #[.int .i16 a0.f0, .int .i16 a0.f1, .int .i16 a0.f2], .slice A1 l1.length c1] w fun e w' => e = .returned (.bool true) ∧ Below w.heap.size w w' := by
  obtain ⟨ha, hb, hc⟩ := w0
  have ha := wf16 ha
  have hb := wf16 hb
  have hc := wf16 hc
  obtain ⟨k, h⟩ := law ha hb hc l1
  exact laws_FnExactFoldAll.calls k _ _ _ A1 c1 l1 true w hr1 hc1 h

end Go.Proofs.Ytjcjgfmffkmjeaa.fnExactFoldAll
