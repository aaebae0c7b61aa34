/- FnExactFoldsPossible: for every input the law's function returns true: the walk, and the plain law that it comes to. -/
import Derived.Test.YtjcjgfmffkmjeaaX0
import Derived.Test.YtjcjgfmffkmjeaaX5
import Derived.Test.YtjcjgfmffkmjeaaX33
import Derived.Test.YtjcjgfmffkmjeaaFacts6b
set_option linter.unusedVariables false
set_option linter.unusedSimpArgs false
namespace Go.Proofs.Ytjcjgfmffkmjeaa.fnExactFoldsPossible
open Go.RowKit Go.Proofs.Ytjcjgfmffkmjeaa.X Go.Proofs.YtjcjgfmffkmjeaaW.PrintWords Go.Proofs.YtjcjgfmffkmjeaaW.PrintLast

theorem law {a b c : Int} (ha : -32768 ≤ a ∧ a ≤ 32767) (hb : -32768 ≤ b ∧ b ≤ 32767) (hc : -32768 ≤ c ∧ c ≤ 32767) : ∃ k, laws_FnExactFoldsPossible.f k a b c = some true := by
  have hl := possibleF_len a b c
  obtain ⟨K1, h1⟩ := eqInt64S_ev (a := (possibleF a b c).1) (b := (possibleF a b c).1) (by omega)
  obtain ⟨K2, h2⟩ := markInt64S_ev (l := (possibleF a b c).1) (m := 1) (by omega) (by omega)
  obtain ⟨K3, h3⟩ := heldInt64S_ev (n := (possibleF a b c).1.length) (m := 1) (by omega) (by omega)
  refine ⟨K1 + K2 + K3 + 10, ?_⟩
  have e1 := h1 (K1 + K2 + K3 + 10) (by omega)
  have e1' := h1 (K1 + K2 + K3 + 9) (by omega)
  have e2 := h2 (K1 + K2 + K3 + 9) (by omega)
  have e3 := h3 (K1 + K2 + K3 + 9) (by omega)
  have e3' := h3 (K1 + K2 + K3 + 8) (by omega)
  simp only at e1 e1' e2 e3 e3'
  have hneg : ¬ (1 + ((possibleF a b c).1.length : Int) < 0) := by omega
  unfold laws_FnExactFoldsPossible.f laws_toSheet.f
  simp only [Option.bind_some, specPoss_f ha hb hc (show 5 < K1 + K2 + K3 + 10 by omega), implPoss_f ha hb hc (show 5 < K1 + K2 + K3 + 10 by omega), e1, decide_true, if_true, bne_self_eq_false]
  simp only [laws_FnExactFoldsPossible.j0, Bool.false_eq_true, if_false, e2, e3, Option.bind_some, hneg, if_true, laws_toSheet.f, implPoss_f ha hb hc (show 5 < K1 + K2 + K3 + 9 by omega), e1', decide_true, bne_self_eq_false]
  simp only [laws_FnExactFoldsPossible.j1, Bool.false_eq_true, if_false, e3', Option.bind_some, hneg, if_true]
theorem walk (a0 : S24) (w : World) (w0 : (Lit.int .i16 a0.f0).wf = true ∧ (Lit.int .i16 a0.f1).wf = true ∧ (Lit.int .i16 a0.f2).wf = true) :
    Calls Try.prog 10 #[.agg #[.int .i16 a0.f0, .int .i16 a0.f1, .int .i16 a0.f2]] w fun e w' => e = .returned (.bool true) ∧ Below w.heap.size w w' := by
  obtain ⟨ha, hb, hc⟩ := w0
  have ha := wf16 ha
  have hb := wf16 hb
  have hc := wf16 hc
  obtain ⟨k, h⟩ := law ha hb hc
  exact laws_FnExactFoldsPossible.calls k _ _ _ true w h

end Go.Proofs.Ytjcjgfmffkmjeaa.fnExactFoldsPossible
