/- Blocks of cells that are known whole: read, written, kept; plain theorems over any program. -/
import Derived.Test.YtdepnieanfjhjaaWMore
import Derived.Deep.MidRow
set_option linter.unusedVariables false
set_option linter.unusedSimpArgs false
namespace Go.Proofs.YtdepnieanfjhjaaW.PrintWords
open Go.RowKit
/-- block g holds these cells -/
def Blk (w : World) (g t : Nat) (cs : List Value) : Prop := w.heap[g]? = some (.cells cs.toArray t (0, 0))
section
variable {w w1 : World} {g t : Nat} {cs : List Value}
theorem Blk.lt (h : Blk w g t cs) : g < w.heap.size := by
  unfold Blk at h
  exact (Array.getElem?_eq_some_iff.1 h).1
theorem Blk.cell (h : Blk w g t cs) (j : Nat) {v : Value} (hj : cs[j]? = some v) : w.cell? ⟨g, j, none⟩ = some v := by
  rw [cell_of_row w g j _ t _ h]; simpa using hj
theorem Blk.frozen (h : Blk w g t cs) (j : Nat) : w.frozen? ⟨g, j, none⟩ = false := frozen_of_row w g j _ t h
theorem Blk.below (h : Blk w g t cs) (hb : Below w.heap.size w w1) : Blk w1 g t cs := (hb.block g h.lt).trans h
theorem Blk.new (w : World) (t : Nat) (cs : List Value) : Blk (w.alloc (.cells cs.toArray t)) w.heap.size t cs := heap_alloc_new w _
theorem Blk.at_ {W : World} {C : Array Value} {n : Nat} (h : W.heap.size = n) (e : C = cs.toArray) : Blk (W.alloc (.cells C t)) n t cs := by subst h; subst e; exact Blk.new W t cs
theorem Blk.alloc (h : Blk w g t cs) (o : Obj) : Blk (w.alloc o) g t cs := h.below (below_alloc (Below.refl _ _) o)
theorem Blk.drewN (h : Blk w g t cs) (n : Nat) : Blk (w.drewN n) g t cs := h
theorem Blk.drew (h : Blk w g t cs) : Blk w.drew g t cs := h
theorem Blk.grown (h : Blk w g t cs) {row : Option Nat} (hg : w.grownBy w1 row) (hne : some g ≠ row) : Blk w1 g t cs := (hg.block g h.lt hne).trans h
theorem Blk.rangeAt (h : Blk w g t cs) (o : Nat) {seg : List Value} (hs : (cs.drop o).take seg.length = seg) : w.rangeAt g o seg := fun j v hv => by
  refine h.cell (o + j) ?_
  have hj := (List.getElem?_eq_some_iff.1 hv).1
  rw [← hs, List.getElem?_take, if_pos hj, List.getElem?_drop] at hv
  exact hv
theorem Blk.there (h : Blk w g t cs) (o n : Nat) (hf : o + n ≤ cs.length) : w.there g o n := fun j hj => by
  refine ⟨?_, h.frozen _⟩
  rw [h.cell (o + j) (List.getElem?_eq_getElem (by omega))]
  rfl
/-- one cell written -/
theorem Blk.set (h : Blk w g t cs) (j : Nat) (v : Value) : Blk (w.setCell ⟨g, j, none⟩ v) g t (cs.set j v) := by
  have := heap_setCell_same w g j cs.toArray t v h
  unfold Blk
  rw [this]
  simp
theorem grown_set (w : World) (g j : Nat) (v : Value) : w.grownBy (w.setCell ⟨g, j, none⟩ v) (some g) := by
  refine ⟨rfl, rfl, rfl, by simp [World.setCell], fun i hi hne => heap_setCell_other w _ i v (fun e => hne (by rw [e]))⟩
theorem Blk.setCells : ∀ (vs : List Value) (o : Nat) {w : World} {cs : List Value}, Blk w g t cs → o + vs.length ≤ cs.length → Blk (w.setCells g o vs) g t (cs.take o ++ vs ++ cs.drop (o + vs.length)) ∧ w.grownBy (w.setCells g o vs) (some g)
  | [], o, w, cs, h, hf => ⟨by simpa [World.setCells] using h, World.grownBy.refl _ _⟩
  | v :: vs, o, w, cs, h, hf => by
    have h1 := Blk.setCells vs (o + 1) (h.set o v) (by simp at hf ⊢; omega)
    refine ⟨?_, World.grownBy.trans (grown_set w g o v) h1.2⟩
    have e : (cs.set o v).take (o + 1) ++ vs ++ (cs.set o v).drop (o + 1 + vs.length) = cs.take o ++ (v :: vs) ++ cs.drop (o + (v :: vs).length) := by
      have hlt : o < cs.length := by simp at hf; omega
      rw [List.drop_set_of_lt (by omega), List.take_set, List.take_add_one, List.set_append_right _ _ (by simp; omega), List.getElem?_eq_getElem hlt]
      simp [Nat.min_eq_left (Nat.le_of_lt hlt), Nat.add_assoc, Nat.add_comm 1]
    rw [← e]
    exact h1.1
end
/-- one piece more is copied -/
theorem copy_step {α : Type} {A Z : List α} {o m : Nat} (hA : o + m ≤ A.length) (hZ : o + m ≤ Z.length) :
    (A.take o ++ Z.drop o).take o ++ (A.drop o).take m ++ (A.take o ++ Z.drop o).drop (o + m) = A.take (o + m) ++ Z.drop (o + m) := by
  have h1 : (A.take o).length = o := by rw [List.length_take]; omega
  have h2 : (A.take o ++ Z.drop o).take o = A.take o := by rw [List.take_append_of_le_length (by omega), List.take_of_length_le (by omega)]
  have h3 : (A.take o ++ Z.drop o).drop (o + m) = Z.drop (o + m) := by rw [← List.drop_drop, List.drop_append_of_le_length (by omega), List.drop_of_length_le (l := List.take o A) (by omega), List.nil_append, List.drop_drop]
  rw [h2, h3, ← List.take_add]
section
variable {P : Program} {ops : Array Oper} {rest : List Oper} {o : Oper} {a : Act} {w : World} {Q : Exit → Act → World → Prop}
/-- cells read as one value -/
theorem wl_load (hgd : o.guard = none) (ty : TypeId) (x : Operand) (ho : o.op = .load ty x) (g off : Nat) (hx : a.eval x = .pointer (some ⟨g, off, none⟩)) (t n : Nat) (cs seg : List Value)
    (hB : Blk w g t cs) (hs : (cs.drop off).take n = seg) (hn : seg.length = n) (d : TypeDesc) (hu : P.underlying ty = some d) (hd : d.isRow = true) (hi : (P.info? ty).map (·.size) = some n)
    (h : wpList P ops Q rest (a.put o.dst (.agg seg.toArray)) w) : wpList P ops Q (o :: rest) a w :=
  wpList_load_mid hgd ty x ho g off hx seg d (hB.rangeAt off (by rw [hn]; exact hs)) hu hd (by rw [hn]; exact hi) h
/-- cells written as one value -/
theorem wl_store (hgd : o.guard = none) (ty : TypeId) (x y : Operand) (ho : o.op = .store ty x y) (g off : Nat) (hx : a.eval x = .pointer (some ⟨g, off, none⟩)) (t n : Nat) (cs seg : List Value) (hy : a.eval y = .agg seg.toArray)
    (hB : Blk w g t cs) (hn : seg.length = n) (hf : off + n ≤ cs.length) (hi : (P.info? ty).map (·.size) = some n) (h1 : seg.all (·.oneCell') = true)
    (h : ∀ w1 : World, Blk w1 g t (cs.take off ++ seg ++ cs.drop (off + n)) → w.grownBy w1 (some g) → wpList P ops Q rest (a.put o.dst undef) w1) : wpList P ops Q (o :: rest) a w := by
  subst hn
  have hw := Blk.setCells seg off hB hf
  refine wpList_store_mid hgd ty x y ho g off seg.toArray hx hy (by simpa using hB.there off seg.length hf) (by simpa using hi) (all_oneCell_toArray (by simpa using h1)) ?_
  simpa using h _ hw.1 hw.2
theorem Blk.all {w : World} {g t n : Nat} {cs seg : List Value} (h : Blk w g t (cs.take 0 ++ seg ++ cs.drop (0 + n))) (hn : cs.length ≤ n) : Blk w g t seg := by
  rw [Nat.zero_add, List.take_zero, List.nil_append, List.drop_of_length_le hn, List.append_nil] at h; exact h
/-- a result that lies in a block -/
theorem Blk.result {fn : Func} {p : Tmp} {ty : TypeId} (h : fn.results = #[.cell p ty]) (tmps : Array Value) (w : World) (g t : Nat) (cs : List Value) (d : TypeDesc)
    (hp : tmps.getD p undef = .pointer (some ⟨g, 0, none⟩)) (hg : Blk w g t cs) (hu : P.underlying ty = some d) (hd : (match d with | .struct _ | .array _ _ => true | _ => false) = true) (hi : (P.info? ty).map (·.size) = some cs.length) :
    (results fn tmps).run P w = .ok (.agg cs.toArray) w := results_cell_row h tmps w g t cs.toArray (0, 0) d hp hg hu hd (by simpa using hi)
end
end Go.Proofs.YtdepnieanfjhjaaW.PrintWords
