/- Contracts of functions, and plain facts, of more texts than one: put together, since a claim takes 60 files. -/
import Derived.Test.YtdepnieanfjhjaaDoorWMore
import Derived.Deep.MidRow
import Derived.Test.YtdepnieanfjhjaaDoorX0
import Derived.Test.YtdepnieanfjhjaaDoorX5
/- what stood in the text Blk -/
set_option linter.unusedVariables false
set_option linter.unusedSimpArgs false
namespace Go.Proofs.YtdepnieanfjhjaaDoorW.PrintWords
open Go.RowKit
/-- block g holds these cells -/
def Blk (w : World) (g t : Nat) (cs : List Value) : Prop := w.heap[g]? = some (.cells cs.toArray t (0, 0))
section
variable {w w1 : World} {g t : Nat} {cs : List Value}
theorem Blk.lt (h : Blk w g t cs) : g < w.heap.size := by
  unfold Blk at h
  exact (Array.getElem?_eq_some_iff.1 h).1
theorem Blk.cell (h : Blk w g t cs) (j : Nat) {v : Value} (hj : cs[j]? = some v) : w.cell? ⟨g, j, none⟩ = some v := by
  rw [cell_of_row w g j _ t _ h]; simpa using hj
theorem Blk.frozen (h : Blk w g t cs) (j : Nat) : w.frozen? ⟨g, j, none⟩ = false := frozen_of_row w g j _ t h
theorem Blk.below (h : Blk w g t cs) (hb : Below w.heap.size w w1) : Blk w1 g t cs := (hb.block g h.lt).trans h
theorem Blk.new (w : World) (t : Nat) (cs : List Value) : Blk (w.alloc (.cells cs.toArray t)) w.heap.size t cs := heap_alloc_new w _
theorem Blk.at_ {W : World} {C : Array Value} {n : Nat} (h : W.heap.size = n) (e : C = cs.toArray) : Blk (W.alloc (.cells C t)) n t cs := by subst h; subst e; exact Blk.new W t cs
theorem Blk.alloc (h : Blk w g t cs) (o : Obj) : Blk (w.alloc o) g t cs := h.below (below_alloc (Below.refl _ _) o)
theorem Blk.drewN (h : Blk w g t cs) (n : Nat) : Blk (w.drewN n) g t cs := h
theorem Blk.drew (h : Blk w g t cs) : Blk w.drew g t cs := h
theorem Blk.grown (h : Blk w g t cs) {row : Option Nat} (hg : w.grownBy w1 row) (hne : some g ≠ row) : Blk w1 g t cs := (hg.block g h.lt hne).trans h
theorem Blk.rangeAt (h : Blk w g t cs) (o : Nat) {seg : List Value} (hs : (cs.drop o).take seg.length = seg) : w.rangeAt g o seg := fun j v hv => by
  refine h.cell (o + j) ?_
  have hj := (List.getElem?_eq_some_iff.1 hv).1
  rw [← hs, List.getElem?_take, if_pos hj, List.getElem?_drop] at hv
  exact hv
theorem Blk.there (h : Blk w g t cs) (o n : Nat) (hf : o + n ≤ cs.length) : w.there g o n := fun j hj => by
  refine ⟨?_, h.frozen _⟩
  rw [h.cell (o + j) (List.getElem?_eq_getElem (by omega))]
  rfl
/-- one cell written -/
theorem Blk.set (h : Blk w g t cs) (j : Nat) (v : Value) : Blk (w.setCell ⟨g, j, none⟩ v) g t (cs.set j v) := by
  have := heap_setCell_same w g j cs.toArray t v h
  unfold Blk
  rw [this]
  simp
theorem grown_set (w : World) (g j : Nat) (v : Value) : w.grownBy (w.setCell ⟨g, j, none⟩ v) (some g) := by
  refine ⟨rfl, rfl, rfl, by simp [World.setCell], fun i hi hne => heap_setCell_other w _ i v (fun e => hne (by rw [e]))⟩
theorem Blk.setCells : ∀ (vs : List Value) (o : Nat) {w : World} {cs : List Value}, Blk w g t cs → o + vs.length ≤ cs.length → Blk (w.setCells g o vs) g t (cs.take o ++ vs ++ cs.drop (o + vs.length)) ∧ w.grownBy (w.setCells g o vs) (some g)
  | [], o, w, cs, h, hf => ⟨by simpa [World.setCells] using h, World.grownBy.refl _ _⟩
  | v :: vs, o, w, cs, h, hf => by
    have h1 := Blk.setCells vs (o + 1) (h.set o v) (by simp at hf ⊢; omega)
    refine ⟨?_, World.grownBy.trans (grown_set w g o v) h1.2⟩
    have e : (cs.set o v).take (o + 1) ++ vs ++ (cs.set o v).drop (o + 1 + vs.length) = cs.take o ++ (v :: vs) ++ cs.drop (o + (v :: vs).length) := by
      have hlt : o < cs.length := by simp at hf; omega
      rw [List.drop_set_of_lt (by omega), List.take_set, List.take_add_one, List.set_append_right _ _ (by simp; omega), List.getElem?_eq_getElem hlt]
      simp [Nat.min_eq_left (Nat.le_of_lt hlt), Nat.add_assoc, Nat.add_comm 1]
    rw [← e]
    exact h1.1
end
/-- one piece more is copied -/
theorem copy_step {α : Type} {A Z : List α} {o m : Nat} (hA : o + m ≤ A.length) (hZ : o + m ≤ Z.length) :
    (A.take o ++ Z.drop o).take o ++ (A.drop o).take m ++ (A.take o ++ Z.drop o).drop (o + m) = A.take (o + m) ++ Z.drop (o + m) := by
  have h1 : (A.take o).length = o := by rw [List.length_take]; omega
  have h2 : (A.take o ++ Z.drop o).take o = A.take o := by rw [List.take_append_of_le_length (by omega), List.take_of_length_le (by omega)]
  have h3 : (A.take o ++ Z.drop o).drop (o + m) = Z.drop (o + m) := by rw [← List.drop_drop, List.drop_append_of_le_length (by omega), List.drop_of_length_le (l := List.take o A) (by omega), List.nil_append, List.drop_drop]
  rw [h2, h3, ← List.take_add]
section
variable {P : Program} {ops : Array Oper} {rest : List Oper} {o : Oper} {a : Act} {w : World} {Q : Exit → Act → World → Prop}
/-- cells read as one value -/
theorem wl_load (hgd : o.guard = none) (ty : TypeId) (x : Operand) (ho : o.op = .load ty x) (g off : Nat) (hx : a.eval x = .pointer (some ⟨g, off, none⟩)) (t n : Nat) (cs seg : List Value)
    (hB : Blk w g t cs) (hs : (cs.drop off).take n = seg) (hn : seg.length = n) (d : TypeDesc) (hu : P.underlying ty = some d) (hd : d.isRow = true) (hi : (P.info? ty).map (·.size) = some n)
    (h : wpList P ops Q rest (a.put o.dst (.agg seg.toArray)) w) : wpList P ops Q (o :: rest) a w :=
  wpList_load_mid hgd ty x ho g off hx seg d (hB.rangeAt off (by rw [hn]; exact hs)) hu hd (by rw [hn]; exact hi) h
/-- cells written as one value -/
theorem wl_store (hgd : o.guard = none) (ty : TypeId) (x y : Operand) (ho : o.op = .store ty x y) (g off : Nat) (hx : a.eval x = .pointer (some ⟨g, off, none⟩)) (t n : Nat) (cs seg : List Value) (hy : a.eval y = .agg seg.toArray)
    (hB : Blk w g t cs) (hn : seg.length = n) (hf : off + n ≤ cs.length) (hi : (P.info? ty).map (·.size) = some n) (h1 : seg.all (·.oneCell') = true)
    (h : ∀ w1 : World, Blk w1 g t (cs.take off ++ seg ++ cs.drop (off + n)) → w.grownBy w1 (some g) → wpList P ops Q rest (a.put o.dst undef) w1) : wpList P ops Q (o :: rest) a w := by
  subst hn
  have hw := Blk.setCells seg off hB hf
  refine wpList_store_mid hgd ty x y ho g off seg.toArray hx hy (by simpa using hB.there off seg.length hf) (by simpa using hi) (all_oneCell_toArray (by simpa using h1)) ?_
  simpa using h _ hw.1 hw.2
theorem Blk.all {w : World} {g t n : Nat} {cs seg : List Value} (h : Blk w g t (cs.take 0 ++ seg ++ cs.drop (0 + n))) (hn : cs.length ≤ n) : Blk w g t seg := by
  rw [Nat.zero_add, List.take_zero, List.nil_append, List.drop_of_length_le hn, List.append_nil] at h; exact h
/-- a result that lies in a block -/
theorem Blk.result {fn : Func} {p : Tmp} {ty : TypeId} (h : fn.results = #[.cell p ty]) (tmps : Array Value) (w : World) (g t : Nat) (cs : List Value) (d : TypeDesc)
    (hp : tmps.getD p undef = .pointer (some ⟨g, 0, none⟩)) (hg : Blk w g t cs) (hu : P.underlying ty = some d) (hd : (match d with | .struct _ | .array _ _ => true | _ => false) = true) (hi : (P.info? ty).map (·.size) = some cs.length) :
    (results fn tmps).run P w = .ok (.agg cs.toArray) w := results_cell_row h tmps w g t cs.toArray (0, 0) d hp hg hu hd (by simpa using hi)
end
end Go.Proofs.YtdepnieanfjhjaaDoorW.PrintWords

/- what stood in the text Ir -/
set_option linter.unusedVariables false
set_option linter.unusedSimpArgs false
namespace Go.Proofs.YtdepnieanfjhjaaDoor.X
open Go.RowKit Go.Proofs.YtdepnieanfjhjaaDoorW.PrintWords Go.Proofs.YtdepnieanfjhjaaDoorW.PrintLast Go.Proofs.YtdepnieanfjhjaaDoorW.PrintMore
attribute [local go_sem] max2_int min2_int max_two min_two max_three min_three max_four min_four
/-- what a call leaves as it was: all blocks but those of S -/
def KpG (w W : World) (S : Nat → Prop) : Prop := Below 0 w W ∧ Kept w W S
section
variable {w W W2 : World} {S : Nat → Prop}
theorem KpG.of_below (h : Below w.heap.size w W) (S : Nat → Prop) : KpG w W S := ⟨h.mono (Nat.zero_le _), Kept.of_below h S⟩
theorem KpG.of_grown {row : Option Nat} (hg : W.grownBy W2 row) (h : KpG w W S) (hr : ∀ k, row = some k → S k ∨ w.heap.size ≤ k) : KpG w W2 S := ⟨h.1.grown hg (Nat.zero_le _) (fun k _ => Nat.zero_le _), Kept.of_grown hg h.2 hr⟩
theorem KpG.below (h : KpG w W S) (hb : Below W.heap.size W W2) : KpG w W2 S := ⟨h.1.trans (hb.mono (Nat.zero_le _)), h.2.below hb⟩
theorem KpG.alloc (h : KpG w W S) (o : Obj) : KpG w (W.alloc o) S := h.below (below_alloc (Below.refl _ _) o)
theorem KpG.drew (h : KpG w W S) : KpG w W.drew S := h.below (below_drew (Below.refl _ _))
theorem KpG.setCell (h : KpG w W S) {p : Addr} (hp : S p.block ∨ w.heap.size ≤ p.block) (u : Value) : KpG w (W.setCell p u) S := ⟨h.1.setCell (Nat.zero_le _) u, h.2.setCell hp u⟩
theorem KpG.refl (w : World) (S : Nat → Prop) : KpG w w S := KpG.of_below (Below.refl _ _) S
theorem KpG.size (h : KpG w W S) : w.heap.size ≤ W.heap.size := h.2.1
theorem KpG.trans (h : KpG w W S) (h2 : KpG W W2 S) : KpG w W2 S := ⟨h.1.trans h2.1, Nat.le_trans h.2.1 h2.2.1, fun k hk hn => (h2.2.2 k (Nat.lt_of_lt_of_le hk h.2.1) hn).trans (h.2.2 k hk hn)⟩
/-- only blocks of S that are new were written: nothing below was -/
theorem KpG.to_below {B : Nat} (h : KpG w W S) (hB : ∀ k, S k → B ≤ k) (hs : B ≤ w.heap.size) : Below B w W :=
  ⟨h.1.os, h.1.tape, h.1.output, h.1.size, fun b hb => h.2.2 b (Nat.lt_of_lt_of_le hb hs) (fun hn => by have := hB b hn; omega)⟩
theorem KpG.sub {S' : Nat → Prop} (h : KpG w W S) (hS : ∀ k, k < w.heap.size → S k → S' k) : KpG w W S' := ⟨h.1, h.2.1, fun k hk hn => h.2.2 k hk (fun hs => hn (hS k hk hs))⟩
end
theorem int64Info : (Tryd.prog.info? 2).map (fun i => (i.zero, i.size, i.bytes)) = some (some (.int .i64 0), 1, 8) := by kernel_rfl
theorem nums_snoc (xs : List Int) (x : Int) : nums .i64 xs ++ [.int .i64 x] = nums .i64 (xs ++ [x]) := by simp [nums]
/-- a row of int64 of one's own -/
def Ir (w : World) (base : Nat) (v : Value) (l : List Int) : Prop := w.ownsRow base 2 1 v l.length (nums .i64 l)
section
variable {w w1 : World} {base base' : Nat} {v : Value} {l : List Int} {S : Nat → Prop}
theorem Ir.lower (h : Ir w base v l) (hb : base' ≤ base) : Ir w base' v l := own_weaken h hb
theorem Ir.below (h : Ir w base v l) (hb : Below w.heap.size w w1) : Ir w1 base v l := pw_own_below h hb
theorem Ir.alloc (h : Ir w base v l) (o : Obj) : Ir (w.alloc o) base v l := h.below (below_alloc (Below.refl _ _) o)
theorem Ir.drew (h : Ir w base v l) : Ir w.drew base v l := h
theorem Ir.drewN (h : Ir w base v l) (k : Nat) : Ir (w.drewN k) base v l := h
theorem Ir.grown (h : Ir w base v l) {row : Option Nat} (hg : w.grownBy w1 row) (hne : v.ownBlock = none ∨ v.ownBlock ≠ row) : Ir w1 base v l := own_other h hg hne
theorem Ir.kept (h : Ir w base v l) (hk : Kept w w1 S) (hn : ∀ k, v.ownBlock = some k → ¬ S k) : Ir w1 base v l := own_move h (fun k hv => hk.2 k (own_lt h k hv) (hn k hv))
theorem Ir.row (h : Ir w base v l) : (Kd.int .i64).R 2 w base (fun k => v.ownBlock = some k) v l := Kd.R_of_own h (fun _ h => h)
theorem Ir.of_row {ok : Nat → Prop} (h : (Kd.int .i64).R 2 w base ok v l) : Ir w base v l := Kd.own_of_R h
theorem Ir.ne (h : Ir w base v l) {g : Nat} (hg : g < base) : v.ownBlock ≠ some g := fun he => by have := own_base h g he; omega
end
end Go.Proofs.YtdepnieanfjhjaaDoor.X
