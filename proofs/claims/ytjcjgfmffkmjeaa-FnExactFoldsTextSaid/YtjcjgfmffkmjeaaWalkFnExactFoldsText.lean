/- FnExactFoldsText: for every input the law's function returns true: the walk, and the plain law that it comes to. -/
import Derived.Test.YtjcjgfmffkmjeaaX10
import Derived.Test.YtjcjgfmffkmjeaaFacts4
set_option linter.unusedVariables false
namespace Go.Proofs.Ytjcjgfmffkmjeaa.fnExactFoldsText
open Go.RowKit Go.Proofs.Ytjcjgfmffkmjeaa.X Go.Proofs.YtjcjgfmffkmjeaaW.PrintWords Go.Proofs.YtjcjgfmffkmjeaaW.PrintLast

theorem law (l : List Int) : ∃ k, laws_FnExactFoldsText.f k l = some true := by
  by_cases hb : (l.length : Int) > 1048576
  · exact ⟨0, by unfold laws_FnExactFoldsText.f; rw [if_pos hb]⟩
  · obtain ⟨K1, h1⟩ := toInt64S_ev (l := l) (by omega)
    obtain ⟨K2, h2⟩ := specFoldsText_ev (l := l) (by omega)
    obtain ⟨K3, h3⟩ := implFoldsText_ev (l := l) (by omega)
    obtain ⟨K4, h4⟩ := eqInt64S_ev (a := l) (b := l) (by omega)
    refine ⟨K1 + K2 + K3 + K4, ?_⟩
    have e1 := h1 (K1 + K2 + K3 + K4) (by omega)
    have e2 := h2 (K1 + K2 + K3 + K4) (by omega)
    have e3 := h3 (K1 + K2 + K3 + K4) (by omega)
    have e4 := h4 (K1 + K2 + K3 + K4) (by omega)
    simp only at e1 e2 e3 e4
    unfold laws_FnExactFoldsText.f
    rw [if_neg hb]
    simp only [e1, e2, e3, e4, Option.bind_some, if_true, decide_true]

theorem walk (A0 : Option Addr) (c0 : Nat) (l0 : (List Int)) (w : World) (hr0 : Kd.C (Kd.int .i64) w A0 l0.length l0) (hc0 : l0.length ≤ c0) (w0 : ∀ x_ ∈ l0, (Lit.int .i64 x_).wf = true) :
    Calls Try.prog 5 #[.slice A0 l0.length c0] w fun e w' => e = .returned (.bool true) ∧ Below w.heap.size w w' := by
  obtain ⟨k, h⟩ := law l0
  exact laws_FnExactFoldsText.calls k A0 c0 l0 true w hr0 hc0 h
end Go.Proofs.Ytjcjgfmffkmjeaa.fnExactFoldsText
