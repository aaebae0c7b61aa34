/- What an argument of 24 times three small numbers reads as; plain theorems. -/
import Derived.Test.YtkfbkmkaijonhaaOpenArr
import Derived.Test.YtkfbkmkaijonhaaSpec1
set_option linter.unusedVariables false
set_option linter.unusedSimpArgs false
namespace Go.Proofs.Ytkfbkmkaijonhaa.X
open Go.RowKit Go.ChangeShapes Go.WideShapes Go.Proofs.YtkfbkmkaijonhaaW.PrintWords
abbrev dayK : Kd (List (Int × Int × Int)) := Kd.arr 24 (Kd.pair (Kd.int .i8) (Kd.pair (Kd.int .i8) (Kd.int .i8))) (by decide)
abbrev dayQ (xs : List (Int × Int × Int)) : Prop := ∀ x ∈ xs, (Lit.int .i8 x.1).wf = true ∧ (Lit.int .i8 x.2.1).wf = true ∧ (Lit.int .i8 x.2.2).wf = true
theorem opens_day {P : Program} {t e b : TypeId} {f0 f1 f2 : Field} (ht : P.underlying t = some (.array 24 e)) (hc : P.cellsOf t = 72) (he : P.underlying e = some (.struct #[f0, f1, f2])) (hce : P.cellsOf e = 3) (hb : P.underlying b = some (.int .i8)) (hcb : P.cellsOf b = 1)
    (h0 : f0.type = b ∧ f0.offset = 0) (h1 : f1.type = b ∧ f1.offset = 1) (h2 : f2.type = b ∧ f2.offset = 2) : Opens P t dayK dayQ := by
  obtain ⟨h0, o0⟩ := h0
  obtain ⟨h1, o1⟩ := h1
  obtain ⟨h2, o2⟩ := h2
  have hi : Opens P b (Kd.int .i8) (fun n => (Lit.int .i8 n).wf = true) := opens_int hb
  have hf : OpensFs P 0 [f0, f1, f2] (Kd.pair (Kd.int .i8) (Kd.pair (Kd.int .i8) (Kd.int .i8))) (fun a => (Lit.int .i8 a.1).wf = true ∧ (Lit.int .i8 a.2.1).wf = true ∧ (Lit.int .i8 a.2.2).wf = true) :=
    opensFs_cons (d1 := Kd.int .i8) o0 (show P.cellsOf f0.type = 1 by rw [h0]; exact hcb) (by rw [h0]; exact hi) (opensFs_cons (d1 := Kd.int .i8) o1 (show P.cellsOf f1.type = 1 by rw [h1]; exact hcb) (by rw [h1]; exact hi) (opensFs_last (d := Kd.int .i8) o2 (show P.cellsOf f2.type = 1 by rw [h2]; exact hcb) (by rw [h2]; exact hi)))
  have hs : Opens P e (Kd.pair (Kd.int .i8) (Kd.pair (Kd.int .i8) (Kd.int .i8))) (fun a => (Lit.int .i8 a.1).wf = true ∧ (Lit.int .i8 a.2.1).wf = true ∧ (Lit.int .i8 a.2.2).wf = true) := opens_struct he (by rw [hce]; rfl) hf
  intro H enc w base spare held fuel cs x hx
  exact opens_arr (d := Kd.pair (Kd.int .i8) (Kd.pair (Kd.int .i8) (Kd.int .i8))) ht (by rw [hce]; rfl) (by rw [hc]; rfl) hs hx
theorem day_of {w : World} {xs : List (Int × Int × Int)} {cs : List Value} (h : dayK.K w xs cs) (hq : dayQ xs) : ∃ L : List Int, cs = nums .i8 L ∧ L.length = 72 ∧ i8All L := by
  have hf := reps_flat (fun x : Int × Int × Int => [Value.int .i8 x.1, .int .i8 x.2.1, .int .i8 x.2.2]) (by
    rintro p c ⟨c0, c1, rfl, rfl, c2, c3, rfl, rfl, rfl⟩
    rfl) xs cs h.2
  refine ⟨xs.flatMap fun x => [x.1, x.2.1, x.2.2], ?_, ?_, ?_⟩
  · rw [hf, nums, List.map_flatMap]; rfl
  · have h24 := h.1
    have : ∀ ys : List (Int × Int × Int), (ys.flatMap fun x => [x.1, x.2.1, x.2.2]).length = 3 * ys.length := by
      intro ys
      induction ys with
      | nil => rfl
      | cons y ys ih => rw [List.flatMap_cons, List.length_append, ih, List.length_cons]; simp; omega
    rw [this, h24]
  · intro x hx
    rw [List.mem_flatMap] at hx
    obtain ⟨p, hp, hx⟩ := hx
    obtain ⟨q0, q1, q2⟩ := hq p hp
    have b0 := bounds_i8 q0
    have b1 := bounds_i8 q1
    have b2 := bounds_i8 q2
    simp only [List.mem_cons, List.not_mem_nil, or_false] at hx
    rcases hx with rfl | rfl | rfl <;> omega
end Go.Proofs.Ytkfbkmkaijonhaa.X
