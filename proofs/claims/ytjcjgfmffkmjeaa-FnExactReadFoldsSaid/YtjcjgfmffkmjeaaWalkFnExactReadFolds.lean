/- FnExactReadFolds: for every input the law's function returns true: the walk, and the plain law that it comes to. -/
import Derived.Test.YtjcjgfmffkmjeaaX0
import Derived.Test.YtjcjgfmffkmjeaaX11
import Derived.Test.YtjcjgfmffkmjeaaFacts7
set_option linter.unusedVariables false
set_option linter.unusedSimpArgs false
namespace Go.Proofs.Ytjcjgfmffkmjeaa.fnExactReadFolds
open Go.RowKit Go.Proofs.Ytjcjgfmffkmjeaa.X Go.Proofs.YtjcjgfmffkmjeaaW.PrintWords Go.Proofs.YtjcjgfmffkmjeaaW.PrintLast

theorem law (s : ByteArray) : ∃ k, laws_FnExactReadFolds.f k s = some true := by
  by_cases hbig : (s.size : Int) > 1048576
  · exact ⟨0, by unfold laws_FnExactReadFolds.f; rw [if_pos hbig]⟩
  have hs : s.size ≤ 1048576 := by omega
  have hl := readFoldsF_len s
  obtain ⟨K1, h1⟩ := eqInt64S_ev (a := (readFoldsF s).1) (b := (readFoldsF s).1) (by omega)
  obtain ⟨K2, h2⟩ := markInt64S_ev (l := (readFoldsF s).1) (m := 1) (by omega) (by omega)
  obtain ⟨K3, h3⟩ := heldInt64S_ev (n := (readFoldsF s).1.length) (m := 1) (by omega) (by omega)
  refine ⟨K1 + K2 + K3 + 6 * s.size + 10, ?_⟩
  have e1 := h1 (K1 + K2 + K3 + 6 * s.size + 10) (by omega)
  have e1' := h1 (K1 + K2 + K3 + 6 * s.size + 9) (by omega)
  have e2 := h2 (K1 + K2 + K3 + 6 * s.size + 9) (by omega)
  have e3 := h3 (K1 + K2 + K3 + 6 * s.size + 9) (by omega)
  have e3' := h3 (K1 + K2 + K3 + 6 * s.size + 8) (by omega)
  simp only at e1 e1' e2 e3 e3'
  have hneg : ¬ (1 + ((readFoldsF s).1.length : Int) < 0) := by omega
  unfold laws_FnExactReadFolds.f
  rw [if_neg hbig]
  simp only [Option.bind_some, specRead_f hs (show 6 * s.size < K1 + K2 + K3 + 6 * s.size + 10 by omega), implRead_f hs, e1, decide_true, if_true, bne_self_eq_false]
  simp only [laws_FnExactReadFolds.j0, Bool.false_eq_true, if_false, e2, e3, Option.bind_some, hneg, if_true, implRead_f hs, e1', decide_true, bne_self_eq_false]
  simp only [laws_FnExactReadFolds.j1, Bool.false_eq_true, if_false, e3', Option.bind_some, hneg, if_true]
theorem walk (a0 : ByteArray) (w : World) (w0 : a0.size ≤ 140737488351232) :
    Calls Try.prog 4 #[.string a0] w fun e w' => e = .returned (.bool true) ∧ Below w.heap.size w w' := by
  obtain ⟨k, h⟩ := law a0
  exact laws_FnExactReadFolds.calls k a0 true w h
end Go.Proofs.Ytjcjgfmffkmjeaa.fnExactReadFolds
