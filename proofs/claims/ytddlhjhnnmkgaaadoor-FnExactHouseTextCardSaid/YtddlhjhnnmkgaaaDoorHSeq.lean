/- Contracts of functions, and plain facts: what each call answers, and what it leaves as it was. -/
import Derived.Test.YtddlhjhnnmkgaaaDoorBlk
import Derived.StillTailTactics
import Derived.Test.YtddlhjhnnmkgaaaDoorWEqStruct
set_option linter.unusedVariables false
set_option linter.unusedSimpArgs false
namespace Go.Proofs.YtddlhjhnnmkgaaaDoorW.PrintWords
open Go.RowKit
theorem seq_region {P : Program} {id : Nat} {Q : Exit → Act → World → Prop} {a : Act} {w : World} {l : List Oper} (n : Nat) (hm : P.follows .mixedOrders = true) (hB : Region.lexTailB .any l.toArray n = true)
    (h : ∀ w1 : World, w1 = w.drew → wpStill P l.toArray w1 (fun a' => wpList P l.toArray Q (l.drop n) a' w1) (l.take n) a) : (Code.region id l.toArray true).wp P Q a w :=
  wp_region_still_tail n hm hB (h _ rfl)
theorem seq_all {P : Program} {id : Nat} {Q : Exit → Act → World → Prop} {a : Act} {w : World} {l : List Oper} (hm : P.follows .mixedOrders = true) (hB : Region.lexB .any l.toArray = true)
    (h : ∀ w1 : World, w1 = w.drew → wpStill P l.toArray w1 (fun a' => Q .normal a' w1) l a) : (Code.region id l.toArray true).wp P Q a w :=
  wp_region_still_lit hm hB (h _ rfl)
/-- an operation whose guard is off, and one whose guard is on -/
theorem still_off {P : Program} {ops : Array Oper} {w : World} {Q : Act → Prop} {a : Act} {o : Oper} {rest : List Oper} (hw : Region.wanted o (yielded ops a.tmps) = false)
    (h : wpStill P ops w Q rest (a.put o.dst undef)) : wpStill P ops w Q (o :: rest) a := by
  unfold wpStill; rw [if_neg (by rw [hw]; decide)]; exact h
theorem still_on {P : Program} {ops : Array Oper} {w : World} {Q : Act → Prop} {a : Act} {o : Oper} {rest : List Oper} (hw : Region.wanted o (yielded ops a.tmps) = true)
    (h : ∀ K : Act → Prop, (∀ a, wpStill P ops w Q rest a → K a) → o.still P a w K) : wpStill P ops w Q (o :: rest) a := by
  unfold wpStill; rw [if_pos hw]; exact h _ (fun _ h => h)
theorem still_act {P : Program} {ops : Array Oper} {w : World} {Q : Act → Prop} {a a' : Act} {l : List Oper} (ha : a = a') (h : wpStill P ops w Q l a') : wpStill P ops w Q l a := by subst ha; exact h
/-- a load of which the run is known, in such a walk -/
theorem still_load {P : Program} {ops : Array Oper} {w : World} {Q : Act → Prop} {a : Act} {o : Oper} {rest : List Oper} (hgd : o.guard = none) (ty : TypeId) (x : Operand) (ho : o.op = .load ty x) (p v : Value) (hx : a.eval x = p) (hr : (Instr.loadAt ty p).run P w = .ok v w)
    (h : wpStill P ops w Q rest (a.put o.dst v)) : wpStill P ops w Q (o :: rest) a := by
  subst hx
  have hw : Region.wanted o (yielded ops a.tmps) = true := by simp [Region.wanted, hgd]
  have he : (execOp a.eval o).run P w = .ok (.value v) w := by
    simp only [execOp, ho]
    simp [Sem.run_bind, hr]
  unfold wpStill
  rw [if_pos hw]
  unfold Oper.still
  rw [he]
  exact ⟨rfl, h⟩
theorem run_eq_loop {P : Program} {w : World} (step : Nat → Option Bool × Unit → Sem (ForInStep (Option Bool × Unit))) (c : Nat → Bool) : ∀ (l : List Nat), (∀ i ∈ l, (step i (none, ())).run P w = .ok (if c i = true then .yield (none, ()) else .done (some false, ())) w) →
    (forIn l ((none : Option Bool), ()) step).run P w = .ok (if l.all c = true then (none, ()) else (some false, ())) w
  | [], _ => rfl
  | i :: l, h => by
    have h1 := h i (List.mem_cons_self ..)
    have h2 := run_eq_loop (P := P) (w := w) step c l (fun j hj => h j (List.mem_cons_of_mem _ hj))
    rw [List.forIn_cons, Sem.run_bind, h1]
    cases hc : c i
    · simp [hc]
    · simp only [if_true, Result.andThen_ok, List.all_cons, hc, Bool.true_and]
      exact h2
theorem run_eq_arr {P : Program} {w : World} {t e : TypeId} {n d : Nat} {k : IntKind} (hu : P.underlying t = some (.array n e)) (he : P.underlying e = some (.int k)) (hs : (P.info? e).map (·.size) = some 1) (A B : Nat → Int) :
    (Op.equalIn (d + 1 + 1) t (.agg ((List.range n).map fun i => .int k (A i)).toArray) (.agg ((List.range n).map fun i => .int k (B i)).toArray)).run P w = .ok ((List.range n).all fun i => A i == B i) w := by
  obtain ⟨i0, hi, h1⟩ : ∃ i, P.info? e = some i ∧ i.size = 1 := by
    cases h : P.info? e with
    | none => rw [h] at hs; cases hs
    | some i => rw [h] at hs; exact ⟨i, rfl, by simpa using hs⟩
  have hp : ∀ (C : Nat → Int) (i : Nat), i < n → (part e ((List.range n).map fun i => Value.int k (C i)).toArray (i * 1)).run P w = .ok (.int k (C i)) w := fun C i hi' => by
    have hg : ((List.range n).map fun i => Value.int k (C i)).toArray[i]? = some (.int k (C i)) := by simp [List.getElem?_range hi']
    unfold part
    simp [isAgg, run_underlying he, hg, Sem.run_bind]
  have hq : ∀ (a b : Int), (Op.equalIn (d + 1) e (.int k a) (.int k b)).run P w = .ok (a == b) w := fun a b => by
    unfold Op.equalIn
    simp [run_underlying he, Sem.run_bind]
  unfold Op.equalIn
  simp only [run_underlying hu, Sem.run_bind, Result.andThen_ok]
  have hsz : (sizeOf e).run P w = .ok 1 w := by simp [sizeOf, typeInfo, hi, h1]
  rw [hsz]
  simp only [Result.andThen_ok, Std.Legacy.Range.forIn_eq_forIn_range']
  have hr : List.range' 0 [:n].size = List.range n := by simp [List.range_eq_range', Std.Legacy.Range.size]
  rw [hr, run_eq_loop _ (fun i => A i == B i) (List.range n) (fun i hi' => by
    have hi2 := List.mem_range.1 hi'
    simp only [Sem.run_bind, hp A i hi2, hp B i hi2, Result.andThen_ok, hq]
    cases A i == B i <;> simp)]
  cases (List.range n).all fun i => A i == B i <;> simp
end Go.Proofs.YtddlhjhnnmkgaaaDoorW.PrintWords
