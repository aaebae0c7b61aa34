/- What an array's reading as data tells of its cells; plain theorems over any program. -/
import Derived.Test.YtddlhjhnnmkgaaaDoorOpen
import Derived.Test.YtddlhjhnnmkgaaaDoorWArr
set_option linter.unusedVariables false
set_option linter.unusedSimpArgs false
namespace Go.Proofs.YtddlhjhnnmkgaaaDoorW.PrintWords
open Go.RowKit Go.ChangeShapes Go.WideShapes Go.Deep

theorem opens_arr {α : Type} {P : Program} {t e : TypeId} {n : Nat} {d : Kd α} {Q : α → Prop} {hs : 0 < d.sz} (ht : P.underlying t = some (.array n e)) (hs2 : P.cellsOf e = d.sz) (hc : P.cellsOf t = n * d.sz) (ho : Opens P e d Q) :
    Opens P t (Kd.arr n d hs) (fun xs => ∀ x ∈ xs, Q x) := by
  intro H enc w base spare held fuel cs x h
  obtain ⟨xs, m, _, _, hl, hxs, hg⟩ := DataW.trod_array ht h
  obtain ⟨l, hll, hlp⟩ := list_of (fun i (b : α) => d.K w b ((cs.drop (i * d.sz)).take d.sz) ∧ Q b) n (fun i hi => by
    have h2 := hg i hi
    rw [hs2, List.getElem?_eq_getElem (by omega)] at h2
    exact ho h2)
  exact ⟨l, ⟨hll, by rw [hl, hc, hll], fun j p hj => (hlp j p hj).1⟩, fun b hb => by obtain ⟨j, hj⟩ := List.getElem?_of_mem hb; exact (hlp j b hj).2⟩
theorem reps_flat {α : Type} {R : α → List Value → Prop} {sz : Nat} (f : α → List Value) (hf : ∀ p c, R p c → c = f p) : ∀ (xs : List α) (cs : List Value), Reps R sz xs cs → cs = xs.flatMap f
  | [], cs, h => by have := h.1; simp at this; simp [this]
  | x :: xs, cs, h => by
    have h0 := hf _ _ (h.2 0 x rfl)
    have ht := reps_flat (R := R) (sz := sz) f hf xs (cs.drop sz) ⟨by rw [List.length_drop, h.1, List.length_cons, Nat.succ_mul]; omega, fun j p hj => by
      have := h.2 (j + 1) p (by simpa using hj)
      rwa [Nat.succ_mul, Nat.add_comm, ← List.drop_drop] at this⟩
    rw [List.flatMap_cons, ← h0, ← ht]
    simp
theorem agg_of_arr {P : Program} {w : World} {r : Reach} {b : Nat} {t e : TypeId} {n : Nat} {v : Value} {l : List Value} (ht : P.underlying t = some (.array n e)) (hv : Value.okWide P w r b t v) (h : v.cells.toList = l) : v = .agg l.toArray := by
  simp only [Value.okWide, ht] at hv
  obtain ⟨cs, rfl, _⟩ := hv
  rw [← h]
  simp [Value.cells]
end Go.Proofs.YtddlhjhnnmkgaaaDoorW.PrintWords
