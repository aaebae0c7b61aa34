/- Contracts of functions, and plain facts, of more texts than one: put together, since a claim takes 60 files. -/
import Derived.Test.YtdepnieanfjhjaaOpen
import Derived.Test.YtdepnieanfjhjaaWArr
import Derived.Test.YtdepnieanfjhjaaSpec1
/- what stood in the text OpenArr -/
set_option linter.unusedVariables false
set_option linter.unusedSimpArgs false
namespace Go.Proofs.YtdepnieanfjhjaaW.PrintWords
open Go.RowKit Go.ChangeShapes Go.WideShapes Go.Deep

theorem opens_arr {α : Type} {P : Program} {t e : TypeId} {n : Nat} {d : Kd α} {Q : α → Prop} {hs : 0 < d.sz} (ht : P.underlying t = some (.array n e)) (hs2 : P.cellsOf e = d.sz) (hc : P.cellsOf t = n * d.sz) (ho : Opens P e d Q) :
    Opens P t (Kd.arr n d hs) (fun xs => ∀ x ∈ xs, Q x) := by
  intro H enc w base spare held fuel cs x h
  obtain ⟨xs, m, _, _, hl, hxs, hg⟩ := DataW.trod_array ht h
  obtain ⟨l, hll, hlp⟩ := list_of (fun i (b : α) => d.K w b ((cs.drop (i * d.sz)).take d.sz) ∧ Q b) n (fun i hi => by
    have h2 := hg i hi
    rw [hs2, List.getElem?_eq_getElem (by omega)] at h2
    exact ho h2)
  exact ⟨l, ⟨hll, by rw [hl, hc, hll], fun j p hj => (hlp j p hj).1⟩, fun b hb => by obtain ⟨j, hj⟩ := List.getElem?_of_mem hb; exact (hlp j b hj).2⟩
theorem reps_flat {α : Type} {R : α → List Value → Prop} {sz : Nat} (f : α → List Value) (hf : ∀ p c, R p c → c = f p) : ∀ (xs : List α) (cs : List Value), Reps R sz xs cs → cs = xs.flatMap f
  | [], cs, h => by have := h.1; simp at this; simp [this]
  | x :: xs, cs, h => by
    have h0 := hf _ _ (h.2 0 x rfl)
    have ht := reps_flat (R := R) (sz := sz) f hf xs (cs.drop sz) ⟨by rw [List.length_drop, h.1, List.length_cons, Nat.succ_mul]; omega, fun j p hj => by
      have := h.2 (j + 1) p (by simpa using hj)
      rwa [Nat.succ_mul, Nat.add_comm, ← List.drop_drop] at this⟩
    rw [List.flatMap_cons, ← h0, ← ht]
    simp
theorem agg_of_arr {P : Program} {w : World} {r : Reach} {b : Nat} {t e : TypeId} {n : Nat} {v : Value} {l : List Value} (ht : P.underlying t = some (.array n e)) (hv : Value.okWide P w r b t v) (h : v.cells.toList = l) : v = .agg l.toArray := by
  simp only [Value.okWide, ht] at hv
  obtain ⟨cs, rfl, _⟩ := hv
  rw [← h]
  simp [Value.cells]
end Go.Proofs.YtdepnieanfjhjaaW.PrintWords

/- what stood in the text OpenDay -/
set_option linter.unusedVariables false
set_option linter.unusedSimpArgs false
namespace Go.Proofs.Ytdepnieanfjhjaa.X
open Go.RowKit Go.ChangeShapes Go.WideShapes Go.Proofs.YtdepnieanfjhjaaW.PrintWords
abbrev dayK : Kd (List (Int × Int × Int)) := Kd.arr 24 (Kd.pair (Kd.int .i8) (Kd.pair (Kd.int .i8) (Kd.int .i8))) (by decide)
abbrev dayQ (xs : List (Int × Int × Int)) : Prop := ∀ x ∈ xs, (Lit.int .i8 x.1).wf = true ∧ (Lit.int .i8 x.2.1).wf = true ∧ (Lit.int .i8 x.2.2).wf = true
theorem opens_day {P : Program} {t e b : TypeId} {f0 f1 f2 : Field} (ht : P.underlying t = some (.array 24 e)) (hc : P.cellsOf t = 72) (he : P.underlying e = some (.struct #[f0, f1, f2])) (hce : P.cellsOf e = 3) (hb : P.underlying b = some (.int .i8)) (hcb : P.cellsOf b = 1)
    (h0 : f0.type = b ∧ f0.offset = 0) (h1 : f1.type = b ∧ f1.offset = 1) (h2 : f2.type = b ∧ f2.offset = 2) : Opens P t dayK dayQ := by
  obtain ⟨h0, o0⟩ := h0
  obtain ⟨h1, o1⟩ := h1
  obtain ⟨h2, o2⟩ := h2
  have hi : Opens P b (Kd.int .i8) (fun n => (Lit.int .i8 n).wf = true) := opens_int hb
  have hf : OpensFs P 0 [f0, f1, f2] (Kd.pair (Kd.int .i8) (Kd.pair (Kd.int .i8) (Kd.int .i8))) (fun a => (Lit.int .i8 a.1).wf = true ∧ (Lit.int .i8 a.2.1).wf = true ∧ (Lit.int .i8 a.2.2).wf = true) :=
    opensFs_cons (d1 := Kd.int .i8) o0 (show P.cellsOf f0.type = 1 by rw [h0]; exact hcb) (by rw [h0]; exact hi) (opensFs_cons (d1 := Kd.int .i8) o1 (show P.cellsOf f1.type = 1 by rw [h1]; exact hcb) (by rw [h1]; exact hi) (opensFs_last (d := Kd.int .i8) o2 (show P.cellsOf f2.type = 1 by rw [h2]; exact hcb) (by rw [h2]; exact hi)))
  have hs : Opens P e (Kd.pair (Kd.int .i8) (Kd.pair (Kd.int .i8) (Kd.int .i8))) (fun a => (Lit.int .i8 a.1).wf = true ∧ (Lit.int .i8 a.2.1).wf = true ∧ (Lit.int .i8 a.2.2).wf = true) := opens_struct he (by rw [hce]; rfl) hf
  intro H enc w base spare held fuel cs x hx
  exact opens_arr (d := Kd.pair (Kd.int .i8) (Kd.pair (Kd.int .i8) (Kd.int .i8))) ht (by rw [hce]; rfl) (by rw [hc]; rfl) hs hx
theorem day_of {w : World} {xs : List (Int × Int × Int)} {cs : List Value} (h : dayK.K w xs cs) (hq : dayQ xs) : ∃ L : List Int, cs = nums .i8 L ∧ L.length = 72 ∧ i8All L := by
  have hf := reps_flat (fun x : Int × Int × Int => [Value.int .i8 x.1, .int .i8 x.2.1, .int .i8 x.2.2]) (by
    rintro p c ⟨c0, c1, rfl, rfl, c2, c3, rfl, rfl, rfl⟩
    rfl) xs cs h.2
  refine ⟨xs.flatMap fun x => [x.1, x.2.1, x.2.2], ?_, ?_, ?_⟩
  · rw [hf, nums, List.map_flatMap]; rfl
  · have h24 := h.1
    have : ∀ ys : List (Int × Int × Int), (ys.flatMap fun x => [x.1, x.2.1, x.2.2]).length = 3 * ys.length := by
      intro ys
      induction ys with
      | nil => rfl
      | cons y ys ih => rw [List.flatMap_cons, List.length_append, ih, List.length_cons]; simp; omega
    rw [this, h24]
  · intro x hx
    rw [List.mem_flatMap] at hx
    obtain ⟨p, hp, hx⟩ := hx
    obtain ⟨q0, q1, q2⟩ := hq p hp
    have b0 := bounds_i8 q0
    have b1 := bounds_i8 q1
    have b2 := bounds_i8 q2
    simp only [List.mem_cons, List.not_mem_nil, or_false] at hx
    rcases hx with rfl | rfl | rfl <;> omega
end Go.Proofs.Ytdepnieanfjhjaa.X
