/- Contracts of functions, and plain facts, of more texts than one: put together, since a claim takes 60 files. -/
import Derived.Test.YtjegcpagdpjidaaFF
import Derived.Test.YtjegcpagdpjidaaF6a
import Derived.Test.YtjegcpagdpjidaaX29
import Derived.Test.YtjegcpagdpjidaaWMore
import Derived.Deep.MidRow
import Derived.Test.YtjegcpagdpjidaaWEqStruct
/- what stood in the text FG -/
set_option linter.unusedVariables false
set_option linter.unusedSimpArgs false
namespace Go.Proofs.Ytjegcpagdpjidaa.X
open Go.RowKit Go.Proofs.YtjegcpagdpjidaaW.PrintWords Go.Proofs.YtjegcpagdpjidaaW.PrintLast Go.Proofs.YtjegcpagdpjidaaW.PrintMore
attribute [local go_sem] max2_int min2_int max_two min_two max_three min_three max_four min_four
theorem same_turned {y : S26} (h : ShS y) : impl_SameFolded.f y.f0 y.f1 y.f2 y.f1 y.f0 y.f2 = some (true, 0) := by
  have hb := Sh.bd h
  unfold impl_SameFolded.f
  rw [validSheet_f hb.1 hb.2.1 hb.2.2, Option.bind_some, if_pos (decide_eq_true (show Sh y.f0 y.f1 y.f2 from h)), validSheet_f hb.2.1 hb.1 hb.2.2, Option.bind_some, if_pos (decide_eq_true (show Sh y.f1 y.f0 y.f2 by unfold ShS Sh at h; unfold Sh; omega))]
  split
  · rfl
  · simp
theorem same_unlike {x y : S26} {L : List Int} (hx : ShS x) (hy : ShS y) (hp : Path x L y) : impl_SameFolded.f y.f0 y.f1 y.f2 x.f0 x.f1 x.f2 = some (decide ((L.length : Int) = 0), 0) := by
  have hb := Sh.bd hx
  have hc := Sh.bd hy
  unfold impl_SameFolded.f
  rw [validSheet_f hc.1 hc.2.1 hc.2.2, Option.bind_some, if_pos (decide_eq_true (show Sh y.f0 y.f1 y.f2 from hy)), validSheet_f hb.1 hb.2.1 hb.2.2, Option.bind_some, if_pos (decide_eq_true (show Sh x.f0 x.f1 x.f2 from hx))]
  by_cases hL : L = []
  · subst hL
    cases hp
    simp
  · have h2 := (prodF_pos hp.all).2 hL
    have h3 := hp.layers
    have hx2 : 1 ≤ x.f2 := hx.2.2.2.2.1
    have h4 : x.f2 * 2 ≤ x.f2 * prodF L := Int.mul_le_mul_of_nonneg_left h2 (by omega)
    have h5 : ¬ y.f2 = x.f2 := by omega
    have hb5 : (y.f2 == x.f2) = false := beq_eq_false_iff_ne.2 h5
    simp [hb5, hL]
theorem unfold_fold {y z : S26} {f : Int} (hf : 0 ≤ f ∧ f ≤ 3) (hy : ShS y) (hz : ShS z) (h : mkS y f = some z) : unfoldF z.f0 z.f1 z.f2 f = (y.f0, y.f1, y.f2, 0) := by
  unfold ShS Sh at hy
  rcases mkS_cases h hf with ⟨rfl, h1, h2, rfl⟩ | ⟨rfl, h1, h2, rfl⟩ | ⟨rfl, h1, h2, rfl⟩ | ⟨rfl, h1, h2, rfl⟩
  · rw [unfoldF_0 (show Sh _ _ _ from hz)]
    simp only
    rw [if_neg (by omega), if_neg (by omega), show y.f0 / 2 * 2 = y.f0 by omega, show y.f2 * 2 / 2 = y.f2 by omega]
  · rw [unfoldF_1 (show Sh _ _ _ from hz)]
    simp only
    rw [if_neg (by omega), if_neg (by omega), show y.f1 / 2 * 2 = y.f1 by omega, show y.f2 * 2 / 2 = y.f2 by omega]
  · rw [unfoldF_2 (show Sh _ _ _ from hz)]
    simp only
    rw [if_neg (by omega), if_neg (by omega), show y.f0 / 3 * 3 = y.f0 by omega, show y.f2 * 3 / 3 = y.f2 by omega]
  · rw [unfoldF_3 (show Sh _ _ _ from hz)]
    simp only
    rw [if_neg (by omega), if_neg (by omega), show y.f1 / 3 * 3 = y.f1 by omega, show y.f2 * 3 / 3 = y.f2 by omega]
theorem fold_unfold {y : S26} {f a b c : Int} (hf : 0 ≤ f ∧ f ≤ 3) (hy : ShS y) (h : unfoldF y.f0 y.f1 y.f2 f = (a, b, c, 0)) : Sh a b c ∧ foldF a b c f = (y.f0, y.f1, y.f2, 0) := by
  have hy' := hy
  unfold ShS Sh at hy'
  have key : Sh a b c ∧ madeF a b c f = (y.f0, y.f1, y.f2, 0) := by
    rcases f4 hf with rfl | rfl | rfl | rfl
    · rw [unfoldF_0 (show Sh _ _ _ from hy)] at h
      split at h
      · simp at h
      · split at h
        · simp at h
        · simp only [Prod.mk.injEq] at h
          obtain ⟨rfl, rfl, rfl, _⟩ := h
          refine ⟨by unfold Sh; omega, ?_⟩
          rw [madeF_0, if_neg (by omega), if_neg (by omega), show y.f0 * 2 / 2 = y.f0 by omega, show y.f2 / 2 * 2 = y.f2 by omega]
    · rw [unfoldF_1 (show Sh _ _ _ from hy)] at h
      split at h
      · simp at h
      · split at h
        · simp at h
        · simp only [Prod.mk.injEq] at h
          obtain ⟨rfl, rfl, rfl, _⟩ := h
          refine ⟨by unfold Sh; omega, ?_⟩
          rw [madeF_1, if_neg (by omega), if_neg (by omega), show y.f1 * 2 / 2 = y.f1 by omega, show y.f2 / 2 * 2 = y.f2 by omega]
    · rw [unfoldF_2 (show Sh _ _ _ from hy)] at h
      split at h
      · simp at h
      · split at h
        · simp at h
        · simp only [Prod.mk.injEq] at h
          obtain ⟨rfl, rfl, rfl, _⟩ := h
          refine ⟨by unfold Sh; omega, ?_⟩
          rw [madeF_2, if_neg (by omega), if_neg (by omega), show y.f0 * 3 / 3 = y.f0 by omega, show y.f2 / 3 * 3 = y.f2 by omega]
    · rw [unfoldF_3 (show Sh _ _ _ from hy)] at h
      split at h
      · simp at h
      · split at h
        · simp at h
        · simp only [Prod.mk.injEq] at h
          obtain ⟨rfl, rfl, rfl, _⟩ := h
          refine ⟨by unfold Sh; omega, ?_⟩
          rw [madeF_3, if_neg (by omega), if_neg (by omega), show y.f1 * 3 / 3 = y.f1 by omega, show y.f2 / 3 * 3 = y.f2 by omega]
  refine ⟨key.1, ?_⟩
  unfold foldF
  rw [if_pos key.1]
  exact key.2
theorem fold_some {y : S26} {f a b c : Int} (hy : ShS y) (h : foldF y.f0 y.f1 y.f2 f = (a, b, c, 0)) : mkS y f = some ⟨a, b, c⟩ := by
  unfold foldF at h
  rw [if_pos (show Sh y.f0 y.f1 y.f2 from hy)] at h
  unfold mkS
  rw [h]
  rfl
end Go.Proofs.Ytjegcpagdpjidaa.X

/- what stood in the text Blk -/
set_option linter.unusedVariables false
set_option linter.unusedSimpArgs false
namespace Go.Proofs.YtjegcpagdpjidaaW.PrintWords
open Go.RowKit
/-- block g holds these cells -/
def Blk (w : World) (g t : Nat) (cs : List Value) : Prop := w.heap[g]? = some (.cells cs.toArray t (0, 0))
section
variable {w w1 : World} {g t : Nat} {cs : List Value}
theorem Blk.lt (h : Blk w g t cs) : g < w.heap.size := by
  unfold Blk at h
  exact (Array.getElem?_eq_some_iff.1 h).1
theorem Blk.cell (h : Blk w g t cs) (j : Nat) {v : Value} (hj : cs[j]? = some v) : w.cell? ⟨g, j, none⟩ = some v := by
  rw [cell_of_row w g j _ t _ h]; simpa using hj
theorem Blk.frozen (h : Blk w g t cs) (j : Nat) : w.frozen? ⟨g, j, none⟩ = false := frozen_of_row w g j _ t h
theorem Blk.below (h : Blk w g t cs) (hb : Below w.heap.size w w1) : Blk w1 g t cs := (hb.block g h.lt).trans h
theorem Blk.new (w : World) (t : Nat) (cs : List Value) : Blk (w.alloc (.cells cs.toArray t)) w.heap.size t cs := heap_alloc_new w _
theorem Blk.at_ {W : World} {C : Array Value} {n : Nat} (h : W.heap.size = n) (e : C = cs.toArray) : Blk (W.alloc (.cells C t)) n t cs := by subst h; subst e; exact Blk.new W t cs
theorem Blk.alloc (h : Blk w g t cs) (o : Obj) : Blk (w.alloc o) g t cs := h.below (below_alloc (Below.refl _ _) o)
theorem Blk.drewN (h : Blk w g t cs) (n : Nat) : Blk (w.drewN n) g t cs := h
theorem Blk.drew (h : Blk w g t cs) : Blk w.drew g t cs := h
theorem Blk.grown (h : Blk w g t cs) {row : Option Nat} (hg : w.grownBy w1 row) (hne : some g ≠ row) : Blk w1 g t cs := (hg.block g h.lt hne).trans h
theorem Blk.rangeAt (h : Blk w g t cs) (o : Nat) {seg : List Value} (hs : (cs.drop o).take seg.length = seg) : w.rangeAt g o seg := fun j v hv => by
  refine h.cell (o + j) ?_
  have hj := (List.getElem?_eq_some_iff.1 hv).1
  rw [← hs, List.getElem?_take, if_pos hj, List.getElem?_drop] at hv
  exact hv
theorem Blk.there (h : Blk w g t cs) (o n : Nat) (hf : o + n ≤ cs.length) : w.there g o n := fun j hj => by
  refine ⟨?_, h.frozen _⟩
  rw [h.cell (o + j) (List.getElem?_eq_getElem (by omega))]
  rfl
/-- one cell written -/
theorem Blk.set (h : Blk w g t cs) (j : Nat) (v : Value) : Blk (w.setCell ⟨g, j, none⟩ v) g t (cs.set j v) := by
  have := heap_setCell_same w g j cs.toArray t v h
  unfold Blk
  rw [this]
  simp
theorem grown_set (w : World) (g j : Nat) (v : Value) : w.grownBy (w.setCell ⟨g, j, none⟩ v) (some g) := by
  refine ⟨rfl, rfl, rfl, by simp [World.setCell], fun i hi hne => heap_setCell_other w _ i v (fun e => hne (by rw [e]))⟩
theorem Blk.setCells : ∀ (vs : List Value) (o : Nat) {w : World} {cs : List Value}, Blk w g t cs → o + vs.length ≤ cs.length → Blk (w.setCells g o vs) g t (cs.take o ++ vs ++ cs.drop (o + vs.length)) ∧ w.grownBy (w.setCells g o vs) (some g)
  | [], o, w, cs, h, hf => ⟨by simpa [World.setCells] using h, World.grownBy.refl _ _⟩
  | v :: vs, o, w, cs, h, hf => by
    have h1 := Blk.setCells vs (o + 1) (h.set o v) (by simp at hf ⊢; omega)
    refine ⟨?_, World.grownBy.trans (grown_set w g o v) h1.2⟩
    have e : (cs.set o v).take (o + 1) ++ vs ++ (cs.set o v).drop (o + 1 + vs.length) = cs.take o ++ (v :: vs) ++ cs.drop (o + (v :: vs).length) := by
      have hlt : o < cs.length := by simp at hf; omega
      rw [List.drop_set_of_lt (by omega), List.take_set, List.take_add_one, List.set_append_right _ _ (by simp; omega), List.getElem?_eq_getElem hlt]
      simp [Nat.min_eq_left (Nat.le_of_lt hlt), Nat.add_assoc, Nat.add_comm 1]
    rw [← e]
    exact h1.1
end
/-- one piece more is copied -/
theorem copy_step {α : Type} {A Z : List α} {o m : Nat} (hA : o + m ≤ A.length) (hZ : o + m ≤ Z.length) :
    (A.take o ++ Z.drop o).take o ++ (A.drop o).take m ++ (A.take o ++ Z.drop o).drop (o + m) = A.take (o + m) ++ Z.drop (o + m) := by
  have h1 : (A.take o).length = o := by rw [List.length_take]; omega
  have h2 : (A.take o ++ Z.drop o).take o = A.take o := by rw [List.take_append_of_le_length (by omega), List.take_of_length_le (by omega)]
  have h3 : (A.take o ++ Z.drop o).drop (o + m) = Z.drop (o + m) := by rw [← List.drop_drop, List.drop_append_of_le_length (by omega), List.drop_of_length_le (l := List.take o A) (by omega), List.nil_append, List.drop_drop]
  rw [h2, h3, ← List.take_add]
section
variable {P : Program} {ops : Array Oper} {rest : List Oper} {o : Oper} {a : Act} {w : World} {Q : Exit → Act → World → Prop}
/-- cells read as one value -/
theorem wl_load (hgd : o.guard = none) (ty : TypeId) (x : Operand) (ho : o.op = .load ty x) (g off : Nat) (hx : a.eval x = .pointer (some ⟨g, off, none⟩)) (t n : Nat) (cs seg : List Value)
    (hB : Blk w g t cs) (hs : (cs.drop off).take n = seg) (hn : seg.length = n) (d : TypeDesc) (hu : P.underlying ty = some d) (hd : d.isRow = true) (hi : (P.info? ty).map (·.size) = some n)
    (h : wpList P ops Q rest (a.put o.dst (.agg seg.toArray)) w) : wpList P ops Q (o :: rest) a w :=
  wpList_load_mid hgd ty x ho g off hx seg d (hB.rangeAt off (by rw [hn]; exact hs)) hu hd (by rw [hn]; exact hi) h
/-- cells written as one value -/
theorem wl_store (hgd : o.guard = none) (ty : TypeId) (x y : Operand) (ho : o.op = .store ty x y) (g off : Nat) (hx : a.eval x = .pointer (some ⟨g, off, none⟩)) (t n : Nat) (cs seg : List Value) (hy : a.eval y = .agg seg.toArray)
    (hB : Blk w g t cs) (hn : seg.length = n) (hf : off + n ≤ cs.length) (hi : (P.info? ty).map (·.size) = some n) (h1 : seg.all (·.oneCell') = true)
    (h : ∀ w1 : World, Blk w1 g t (cs.take off ++ seg ++ cs.drop (off + n)) → w.grownBy w1 (some g) → wpList P ops Q rest (a.put o.dst undef) w1) : wpList P ops Q (o :: rest) a w := by
  subst hn
  have hw := Blk.setCells seg off hB hf
  refine wpList_store_mid hgd ty x y ho g off seg.toArray hx hy (by simpa using hB.there off seg.length hf) (by simpa using hi) (all_oneCell_toArray (by simpa using h1)) ?_
  simpa using h _ hw.1 hw.2
theorem Blk.all {w : World} {g t n : Nat} {cs seg : List Value} (h : Blk w g t (cs.take 0 ++ seg ++ cs.drop (0 + n))) (hn : cs.length ≤ n) : Blk w g t seg := by
  rw [Nat.zero_add, List.take_zero, List.nil_append, List.drop_of_length_le hn, List.append_nil] at h; exact h
/-- a result that lies in a block -/
theorem Blk.result {fn : Func} {p : Tmp} {ty : TypeId} (h : fn.results = #[.cell p ty]) (tmps : Array Value) (w : World) (g t : Nat) (cs : List Value) (d : TypeDesc)
    (hp : tmps.getD p undef = .pointer (some ⟨g, 0, none⟩)) (hg : Blk w g t cs) (hu : P.underlying ty = some d) (hd : (match d with | .struct _ | .array _ _ => true | _ => false) = true) (hi : (P.info? ty).map (·.size) = some cs.length) :
    (results fn tmps).run P w = .ok (.agg cs.toArray) w := results_cell_row h tmps w g t cs.toArray (0, 0) d hp hg hu hd (by simpa using hi)
end
end Go.Proofs.YtjegcpagdpjidaaW.PrintWords

/- what stood in the text Sb -/
set_option linter.unusedVariables false
set_option linter.unusedSimpArgs false
namespace Go.Proofs.Ytjegcpagdpjidaa.X
open Go.RowKit Go.Proofs.YtjegcpagdpjidaaW.PrintWords Go.Proofs.YtjegcpagdpjidaaW.PrintLast Go.Proofs.YtjegcpagdpjidaaW.PrintMore
attribute [local go_sem] max2_int min2_int max_two min_two max_three min_three max_four min_four
theorem stored_below {W ws : World} {o : Obj} (hg : (W.alloc o).grownBy ws (some W.heap.size)) : Below W.heap.size W ws :=
  pw_below_grown (below_alloc (Below.refl _ _) o) (some W.heap.size) (by simp) hg (fun k_ e_ => by injection e_ with e_; omega)
end Go.Proofs.Ytjegcpagdpjidaa.X

/- what stood in the text AEq -/
set_option linter.unusedVariables false
set_option linter.unusedSimpArgs false
namespace Go.Proofs.YtjegcpagdpjidaaW.PrintWords
open Go.RowKit
theorem run_eq_loop {P : Program} {w : World} (step : Nat → Option Bool × Unit → Sem (ForInStep (Option Bool × Unit))) (c : Nat → Bool) : ∀ (l : List Nat), (∀ i ∈ l, (step i (none, ())).run P w = .ok (if c i = true then .yield (none, ()) else .done (some false, ())) w) →
    (forIn l ((none : Option Bool), ()) step).run P w = .ok (if l.all c = true then (none, ()) else (some false, ())) w
  | [], _ => rfl
  | i :: l, h => by
    have h1 := h i (List.mem_cons_self ..)
    have h2 := run_eq_loop (P := P) (w := w) step c l (fun j hj => h j (List.mem_cons_of_mem _ hj))
    rw [List.forIn_cons, Sem.run_bind, h1]
    cases hc : c i
    · simp [hc]
    · simp only [if_true, Result.andThen_ok, List.all_cons, hc, Bool.true_and]
      exact h2
theorem run_eq_arr {P : Program} {w : World} {t e : TypeId} {n d : Nat} {k : IntKind} (hu : P.underlying t = some (.array n e)) (he : P.underlying e = some (.int k)) (hs : (P.info? e).map (·.size) = some 1) (A B : Nat → Int) :
    (Op.equalIn (d + 1 + 1) t (.agg ((List.range n).map fun i => .int k (A i)).toArray) (.agg ((List.range n).map fun i => .int k (B i)).toArray)).run P w = .ok ((List.range n).all fun i => A i == B i) w := by
  obtain ⟨i0, hi, h1⟩ : ∃ i, P.info? e = some i ∧ i.size = 1 := by
    cases h : P.info? e with
    | none => rw [h] at hs; cases hs
    | some i => rw [h] at hs; exact ⟨i, rfl, by simpa using hs⟩
  have hp : ∀ (C : Nat → Int) (i : Nat), i < n → (part e ((List.range n).map fun i => Value.int k (C i)).toArray (i * 1)).run P w = .ok (.int k (C i)) w := fun C i hi' => by
    have hg : ((List.range n).map fun i => Value.int k (C i)).toArray[i]? = some (.int k (C i)) := by simp [List.getElem?_range hi']
    unfold part
    simp [isAgg, run_underlying he, hg, Sem.run_bind]
  have hq : ∀ (a b : Int), (Op.equalIn (d + 1) e (.int k a) (.int k b)).run P w = .ok (a == b) w := fun a b => by
    unfold Op.equalIn
    simp [run_underlying he, Sem.run_bind]
  unfold Op.equalIn
  simp only [run_underlying hu, Sem.run_bind, Result.andThen_ok]
  have hsz : (sizeOf e).run P w = .ok 1 w := by simp [sizeOf, typeInfo, hi, h1]
  rw [hsz]
  simp only [Result.andThen_ok, Std.Legacy.Range.forIn_eq_forIn_range']
  have hr : List.range' 0 [:n].size = List.range n := by simp [List.range_eq_range', Std.Legacy.Range.size]
  rw [hr, run_eq_loop _ (fun i => A i == B i) (List.range n) (fun i hi' => by
    have hi2 := List.mem_range.1 hi'
    simp only [Sem.run_bind, hp A i hi2, hp B i hi2, Result.andThen_ok, hq]
    cases A i == B i <;> simp)]
  cases (List.range n).all fun i => A i == B i <;> simp
end Go.Proofs.YtjegcpagdpjidaaW.PrintWords
