/- Contracts of functions, and plain facts: what each call answers, and what it leaves as it was. -/
import Derived.Test.YtddlhjhnnmkgaaaDoorOpenArr
import Derived.Test.YtddlhjhnnmkgaaaDoorPcs
set_option linter.unusedVariables false
set_option linter.unusedSimpArgs false
namespace Go.Proofs.YtddlhjhnnmkgaaaDoor.X
open Go.RowKit Go.ChangeShapes Go.WideShapes Go.Proofs.YtddlhjhnnmkgaaaDoorW.PrintWords
abbrev arr8K : Kd (List Int) := Kd.arr 8 (Kd.int .i16) (by decide)
abbrev stockK : Kd (List Int × List Int × List Int × Int) := Kd.pair arr8K (Kd.pair arr8K (Kd.pair arr8K (Kd.int .i32)))
abbrev arr8Q (xs : List Int) : Prop := ∀ x ∈ xs, (Lit.int .i16 x).wf = true
abbrev stockQ (x : List Int × List Int × List Int × Int) : Prop := arr8Q x.1 ∧ arr8Q x.2.1 ∧ arr8Q x.2.2.1 ∧ (Lit.int .i32 x.2.2.2).wf = true
theorem opens_stock {P : Program} {t a8 b c : TypeId} {f0 f1 f2 f3 : Field} (ht : P.underlying t = some (.struct #[f0, f1, f2, f3])) (hc : P.cellsOf t = 25) (ha : P.underlying a8 = some (.array 8 b)) (hca : P.cellsOf a8 = 8) (hb : P.underlying b = some (.int .i16)) (hcb : P.cellsOf b = 1) (hcc : P.underlying c = some (.int .i32)) (hc1 : P.cellsOf c = 1)
    (h0 : f0.type = a8 ∧ f0.offset = 0) (h1 : f1.type = a8 ∧ f1.offset = 8) (h2 : f2.type = a8 ∧ f2.offset = 16) (h3 : f3.type = c ∧ f3.offset = 24) : Opens P t stockK stockQ := by
  obtain ⟨h0, o0⟩ := h0
  obtain ⟨h1, o1⟩ := h1
  obtain ⟨h2, o2⟩ := h2
  obtain ⟨h3, o3⟩ := h3
  have hi : Opens P b (Kd.int .i16) (fun n => (Lit.int .i16 n).wf = true) := opens_int hb
  have hj : Opens P c (Kd.int .i32) (fun n => (Lit.int .i32 n).wf = true) := opens_int hcc
  have hA : Opens P a8 arr8K arr8Q := opens_arr (d := Kd.int .i16) ha (by rw [hcb]; rfl) (by rw [hca]; rfl) hi
  have hf : OpensFs P 0 [f0, f1, f2, f3] stockK stockQ :=
    opensFs_cons (d1 := arr8K) o0 (show P.cellsOf f0.type = 8 by rw [h0]; exact hca) (by rw [h0]; exact hA) (opensFs_cons (d1 := arr8K) o1 (show P.cellsOf f1.type = 8 by rw [h1]; exact hca) (by rw [h1]; exact hA) (opensFs_cons (d1 := arr8K) o2 (show P.cellsOf f2.type = 8 by rw [h2]; exact hca) (by rw [h2]; exact hA) (opensFs_last (d := Kd.int .i32) o3 (show P.cellsOf f3.type = 1 by rw [h3]; exact hc1) (by rw [h3]; exact hj))))
  have hs : Opens P t stockK stockQ := opens_struct ht (by rw [hc]; rfl) hf
  intro H enc w base spare held fuel cs x hx
  exact hs hx
theorem arr8_of {w : World} {xs : List Int} {cs : List Value} (h : arr8K.K w xs cs) : cs = nums .i16 xs ∧ xs.length = 8 := by
  have hf := reps_flat (fun x : Int => [Value.int .i16 x]) (by
    rintro p c rfl
    rfl) xs cs h.2
  refine ⟨?_, h.1⟩
  rw [hf]
  unfold nums
  clear hf h
  induction xs with
  | nil => rfl
  | cons x xs ih => rw [List.flatMap_cons, ih]; rfl
theorem range_of {xs : List Int} (h : ∀ x ∈ xs, -32768 ≤ x ∧ x ≤ 32767) (j : Nat) : -32768 ≤ xs.getD j 0 ∧ xs.getD j 0 ≤ 32767 := by
  rw [List.getD_eq_getElem?_getD]
  rcases Nat.lt_or_ge j xs.length with hj | hj
  · rw [List.getElem?_eq_getElem hj]
    exact h _ (List.getElem_mem hj)
  · rw [List.getElem?_eq_none hj]; simp
theorem stock_of {w : World} {x : List Int × List Int × List Int × Int} {cs : List Value} (h : stockK.K w x cs) (hq : stockQ x) : ∃ (K : List Int) (r : Int), cs = stk K r ∧ K.length = 24 ∧ stkR K r := by
  obtain ⟨a, b, c, r⟩ := x
  obtain ⟨c0, c1, rfl, h0, d0, d1, rfl, h1, e0, e1, rfl, h2, h3⟩ := h
  obtain ⟨rfl, la⟩ := arr8_of h0
  obtain ⟨rfl, lb⟩ := arr8_of h1
  obtain ⟨rfl, lc⟩ := arr8_of h2
  obtain ⟨q0, q1, q2, q3⟩ := hq
  have h3' : e1 = [.int .i32 r] := h3
  subst h3'
  refine ⟨a ++ b ++ c, r, by simp [stk, nums], by simp [List.length_append] at *; omega, fun j => range_of (fun x hx => ?_) j, (bounds_i32 q3).1, (bounds_i32 q3).2⟩
  simp only [List.mem_append] at hx
  rcases hx with (hx | hx) | hx
  · exact bounds_i16 (q0 x hx)
  · exact bounds_i16 (q1 x hx)
  · exact bounds_i16 (q2 x hx)
end Go.Proofs.YtddlhjhnnmkgaaaDoor.X
