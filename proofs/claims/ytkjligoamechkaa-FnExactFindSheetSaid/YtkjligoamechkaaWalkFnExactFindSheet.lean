/- FnExactFindSheet: for every input the law's function returns true: the walk, and the plain law that it comes to. -/
import Derived.Test.YtkjligoamechkaaX15
import Derived.Test.YtkjligoamechkaaFactsD3
set_option linter.unusedVariables false
set_option linter.unusedSimpArgs false
namespace Go.Proofs.Ytkjligoamechkaa.fnExactFindSheet
open Go.RowKit Go.Proofs.Ytkjligoamechkaa.X Go.Proofs.YtkjligoamechkaaW.PrintWords Go.Proofs.YtkjligoamechkaaW.PrintLast

theorem law {l : List (List Int)} (v : Int) (hm : l.length ≤ 9223372036854775807) (hr : ∀ p ∈ l, p.length ≤ 9223372036854775807) : laws_FnExactFindSheet.f 9000000 l v = some true := by
  obtain ⟨r, h1, h2⟩ := szSS_f hm hr
  unfold laws_FnExactFindSheet.f
  rw [h1 _ (by omega), Option.bind_some]
  by_cases h0 : r < 0
  · rw [if_pos h0]
  · obtain ⟨hl, hf⟩ := h2 (by omega)
    rw [if_neg h0, toSS_f hl hf (by omega), Option.bind_some, specFind_f v hl hf (by omega), Option.bind_some, Option.bind_some, implFind_f v hl hf (by omega), Option.bind_some, if_pos rfl, if_pos rfl]
    show laws_FnExactFindSheet.j0 (8999999 + 1) l l _ = _
    rw [laws_FnExactFindSheet.j0, if_neg (by simp), toSS_f hl hf (by omega), Option.bind_some, eqSS_f hl hf (by omega), Option.bind_some, if_pos rfl]

theorem walk (A0 : Option Addr) (c0 : Nat) (l0 : (List (List Int))) (a1 : Int) (w : World) (hr0 : Kd.C (Kd.slice 2 (Kd.int .i64)) w A0 l0.length l0) (hc0 : l0.length ≤ c0) (w0 : ∀ x_ ∈ l0, ∀ y_ ∈ x_, (Lit.int .i64 y_).wf = true) (w1 : (Lit.int .i64 a1).wf = true) :
    Calls Try.prog 4 #[.slice A0 l0.length c0, .int .i64 a1] w fun e w' => e = .returned (.bool true) ∧ Below w.heap.size w w' := by
  exact laws_FnExactFindSheet.calls 9000000 A0 c0 l0 a1 true w hr0 hc0 (law a1 (Kd.C_max hr0) (rows_max hr0))
end Go.Proofs.Ytkjligoamechkaa.fnExactFindSheet
