/- Plain facts: no program's step in sight. -/
import Derived.Test.YtjmnbikaijphlaaRows2
set_option linter.unusedVariables false
set_option linter.unusedSimpArgs false
namespace Go.Proofs.Ytjmnbikaijphlaa.X
open Go.RowKit Go.Proofs.YtjmnbikaijphlaaW.PrintWords Go.Proofs.YtjmnbikaijphlaaW.PrintLast Go.Proofs.YtjmnbikaijphlaaW.PrintMore
/-- marks up to cell m -/
def markTo (F : Nat → Int) (k : Int) (m : Nat) : Nat → Int := fun i => if i < m then (kd i).wrap (k + i) else F i
theorem markTo_step (F : Nat → Int) (k : Int) (m : Nat) : upd (markTo F k m) m ((kd m).wrap (k + m)) = markTo F k (m + 1) := by
  funext i
  unfold upd markTo
  by_cases h : i = m
  · subst h; simp
  · rw [if_neg h]
    by_cases h2 : i < m
    · rw [if_pos h2, if_pos (by omega)]
    · rw [if_neg h2, if_neg (by omega)]
theorem markTo_zero (F : Nat → Int) (k : Int) : markTo F k 0 = F := by funext i; simp [markTo]
theorem Rw.mark16 {w : World} {g n : Nat} {F : Nat → Int} {k : Int} {m : Nat} (h : Rw w g n (markTo F k m)) {q u j : Nat} (hq : q < n) (hu : u < 24) (hm : m = 25 * q + u) (hj : j = m) {x : Int} (hx : x = IntKind.i16.wrap (k + m)) : Rw (w.setCell ⟨g, j, none⟩ (.int .i16 x)) g n (markTo F k (m + 1)) := by
  subst hx
  rw [hj]
  have e : kd m = .i16 := by rw [hm]; exact kd_num hu
  have := h.set (i := m) (by omega) e.symm (IntKind.i16.wrap (k + m))
  rw [← markTo_step, e]
  exact this
theorem Rw.mark32 {w : World} {g n : Nat} {F : Nat → Int} {k : Int} {m : Nat} (h : Rw w g n (markTo F k m)) {q j : Nat} (hq : q < n) (hm : m = 25 * q + 24) (hj : j = m) {x : Int} (hx : x = IntKind.i32.wrap (k + m)) : Rw (w.setCell ⟨g, j, none⟩ (.int .i32 x)) g n (markTo F k (m + 1)) := by
  subst hx
  rw [hj]
  have e : kd m = .i32 := by rw [hm]; exact kd_rag q
  have := h.set (i := m) (by omega) e.symm (IntKind.i32.wrap (k + m))
  rw [← markTo_step, e]
  exact this
/-- a slice of stocks: nil, or the head of a block -/
def Sl (w : World) (B n : Nat) (f : Nat → Int) (A : Option Addr) : Prop := (A = none ∧ n = 0) ∨ ∃ g, A = some ⟨g, 0, none⟩ ∧ B ≤ g ∧ Rw w g n f
/-- 25 cells copied -/
def put25 (F : Nat → Int) (o : Nat) (f : Nat → Int) (p : Nat) : Nat → Int := fun i => if o ≤ i ∧ i < o + 25 then f (p + (i - o)) else F i
theorem getElem?_three {α : Type} (A B C : List α) (o : Nat) (hA : A.length = o) (i : Nat) : (A ++ B ++ C)[i]? = if i < o then A[i]? else if i < o + B.length then B[i - o]? else C[i - o - B.length]? := by
  subst hA
  by_cases h1 : i < A.length
  · rw [if_pos h1, List.append_assoc, List.getElem?_append_left h1]
  · rw [if_neg h1, List.append_assoc, List.getElem?_append_right (by omega)]
    by_cases h2 : i < A.length + B.length
    · rw [if_pos h2, List.getElem?_append_left (by omega)]
    · rw [if_neg h2, List.getElem?_append_right (by omega)]
theorem Rw.store25 {w : World} {g n : Nat} {F f : Nat → Int} (h : Rw w g n F) {o q p : Nat} (ho : o = 25 * q) (hq : q < n) (hp : p % 25 = 0) : Rw (w.setCells g o (cellsAt f p)) g n (put25 F o f p) ∧ w.grownBy (w.setCells g o (cellsAt f p)) (some g) := by
  subst ho
  obtain ⟨cs, t, h1, h2, h3⟩ := h
  have hB : Blk w g t cs.toList := by unfold Blk; simpa using h1
  obtain ⟨h4, h5⟩ := Blk.setCells (cellsAt f p) (25 * q) hB (by rw [cellsAt_len]; simp; omega)
  refine ⟨⟨_, t, h4, by simp [cellsAt_len]; omega, fun i hi => ?_⟩, h5⟩
  rw [List.getElem?_toArray, getElem?_three _ _ _ (25 * q) (by simp; omega), cellsAt_len]
  unfold put25
  by_cases c1 : i < 25 * q
  · rw [if_pos c1, List.getElem?_take_of_lt c1, if_neg (by omega)]
    simpa using h3 i hi
  · rw [if_neg c1]
    by_cases c2 : i < 25 * q + 25
    · rw [if_pos c2, if_pos ⟨by omega, c2⟩, cellsAt, List.getElem?_map, List.getElem?_range (by omega)]
      have e0 : (i - 25 * q) % 25 = i % 25 := by omega
      have e : kd i = kd (i - 25 * q) := by unfold kd; rw [e0]
      simp only [Option.map_some, e]
    · rw [if_neg c2, if_neg (by omega), List.getElem?_drop]
      rw [← h3 i hi, Array.getElem?_toList, show 25 * q + 25 + (i - 25 * q - 25) = i by omega]
theorem Rw.there {w : World} {g n : Nat} {F : Nat → Int} (h : Rw w g n F) {o q : Nat} (ho : o = 25 * q) (hq : q < n) : w.there g o 25 := fun j hj => by
  subst ho
  exact ⟨by rw [h.cell (i := 25 * q + j) (by omega)]; rfl, h.frozen _⟩
theorem cellsAt_one (f : Nat → Int) (p : Nat) : (cellsAt f p).all (·.oneCell') = true := by simp [cellsAt, Value.oneCell']
section
variable {P : Program} {ops : Array Oper} {rest : List Oper} {o : Oper} {a : Act} {w : World} {Q : Exit → Act → World → Prop}
/-- a stock read out of a row -/
theorem rw_load (hgd : o.guard = none) (ty : TypeId) (x : Operand) (ho : o.op = .load ty x) (g off : Nat) (hx : a.eval x = .pointer (some ⟨g, off, none⟩)) (f : Nat → Int) (p : Nat) (hR : w.rangeAt g off (cellsAt f p)) (d : TypeDesc) (hu : P.underlying ty = some d) (hd : d.isRow = true) (hi : (P.info? ty).map (·.size) = some 25)
    (h : wpList P ops Q rest (a.put o.dst (.agg (cellsAt f p).toArray)) w) : wpList P ops Q (o :: rest) a w :=
  wpList_load_mid hgd ty x ho g off hx (cellsAt f p) d hR hu hd (by rw [cellsAt_len]; exact hi) h
/-- a stock written into a row -/
theorem rw_store (hgd : o.guard = none) (ty : TypeId) (x y : Operand) (ho : o.op = .store ty x y) (g off : Nat) (hx : a.eval x = .pointer (some ⟨g, off, none⟩)) (n q : Nat) (F f : Nat → Int) (p : Nat) (hy : a.eval y = .agg (cellsAt f p).toArray)
    (hB : Rw w g n F) (hoff : off = 25 * q) (hq : q < n) (hp : p % 25 = 0) (hi : (P.info? ty).map (·.size) = some 25)
    (h : ∀ w1 : World, Rw w1 g n (put25 F off f p) → w.grownBy w1 (some g) → wpList P ops Q rest (a.put o.dst undef) w1) : wpList P ops Q (o :: rest) a w := by
  have hw := hB.store25 (f := f) hoff hq hp
  refine wpList_store_mid hgd ty x y ho g off (cellsAt f p).toArray hx hy (by simpa [cellsAt_len] using hB.there hoff hq) (by simpa [cellsAt_len] using hi) (all_oneCell_toArray (by simpa using cellsAt_one f p)) ?_
  simpa using h _ hw.1 hw.2
end
/-- the numbers of a stock, as a list and a number -/
def kOf (f : Nat → Int) (o : Nat) : List Int := (List.range 24).map fun j => f (o + j)
theorem kOf_len (f : Nat → Int) (o : Nat) : (kOf f o).length = 24 := by simp [kOf]
theorem kOf_get (f : Nat → Int) (o : Nat) {j : Nat} (h : j < 24) : (kOf f o).getD j 0 = f (o + j) := by
  rw [List.getD_eq_getElem?_getD, kOf, List.getElem?_map, List.getElem?_range h]; rfl
theorem cellsAt_stk (f : Nat → Int) (o : Nat) : cellsAt f o = stk (kOf f o) (f (o + 24)) := rfl
theorem cellsAt_congr {f f' : Nat → Int} {o o' : Nat} (h : ∀ j, j < 25 → f (o + j) = f' (o' + j)) : cellsAt f o = cellsAt f' o' := by
  unfold cellsAt
  apply List.map_congr_left
  intro j hj
  rw [List.mem_range] at hj
  rw [h j hj]
/-- the numbers that there can be in a row of n stocks -/
def Rng (f : Nat → Int) (n : Nat) : Prop := ∀ i, i < 25 * n → (kd i = .i16 → -32768 ≤ f i ∧ f i ≤ 32767) ∧ (kd i = .i32 → -2147483648 ≤ f i ∧ f i ≤ 2147483647)
/-- the law's argument: where its stocks lie -/
def Arg (w : World) (n : Nat) (f : Nat → Int) (A : Option Addr) : Prop := 0 < n → ∃ b o, A = some ⟨b, o, none⟩ ∧ ∀ i, i < 25 * n → w.cell? ⟨b, o + i, none⟩ = some (.int (kd i) (f i))
theorem Arg.below {w w1 : World} {n : Nat} {f : Nat → Int} {A : Option Addr} (h : Arg w n f A) (hb : Below w.heap.size w w1) : Arg w1 n f A := fun hn => by
  obtain ⟨b, o, e, h1⟩ := h hn
  refine ⟨b, o, e, fun i hi => ?_⟩
  have h2 := h1 i hi
  rw [hb.cell ?_]
  · exact h2
  · show b < w.heap.size
    unfold World.cell? at h2
    split at h2
    · rename_i cs _ _ hh; exact (Array.getElem?_eq_some_iff.1 hh).1
    · cases h2
theorem Arg.range {w : World} {n : Nat} {f : Nat → Int} {b o : Nat} (h : ∀ i, i < 25 * n → w.cell? ⟨b, o + i, none⟩ = some (.int (kd i) (f i))) {q p : Nat} (hq : q < n) (hp : p = o + 25 * q) : w.rangeAt b p (cellsAt f (25 * q)) := fun j v hv => by
  subst hp
  have hj : j < 25 := by have := (List.getElem?_eq_some_iff.1 hv).1; rwa [cellsAt_len] at this
  rw [Nat.add_assoc, h (25 * q + j) (by omega)]
  rw [cellsAt, List.getElem?_map, List.getElem?_range hj] at hv
  rw [← Option.some.inj hv]
  have e : kd (25 * q + j) = kd j := by unfold kd; congr 1; rw [Nat.mul_add_mod]
  rw [e]
theorem put25_same (F : Nat → Int) (o : Nat) (f : Nat → Int) (i : Nat) (h1 : o ≤ i) (h2 : i < o + 25) : put25 F o f o i = f i := by
  unfold put25; rw [if_pos ⟨h1, h2⟩]; congr 1; omega
theorem put25_ne (F : Nat → Int) (o : Nat) (f : Nat → Int) (p i : Nat) (h : i < o ∨ o + 25 ≤ i) : put25 F o f p i = F i := by
  unfold put25; rw [if_neg (by omega)]
/-- the first k stocks of f, nothing behind them -/
def cut (f : Nat → Int) (k : Nat) : Nat → Int := fun i => if i < 25 * k then f i else 0
theorem cut_put (f : Nat → Int) (k : Nat) : put25 (cut f k) (25 * k) f (25 * k) = cut f (k + 1) := by
  funext i
  simp only [cut, put25]
  by_cases h : 25 * k ≤ i ∧ i < 25 * k + 25
  · rw [if_pos h, if_pos (by omega)]; congr 1; omega
  · rw [if_neg h]
    by_cases h2 : i < 25 * k
    · rw [if_pos h2, if_pos (by omega)]
    · rw [if_neg h2, if_neg (by omega)]
theorem rw_cut {w : World} {g n k o : Nat} {f : Nat → Int} (h : Rw w g n (put25 (cut f k) o f (25 * k))) (ho : o = 25 * k) : Rw w g n (cut f (k + 1)) := by
  subst ho; rw [← cut_put]; exact h

theorem Rw.other {w : World} {g n : Nat} {f : Nat → Int} (h : Rw w g n f) {b j : Nat} {v : Value} (hne : b ≠ g) : Rw (w.setCell ⟨b, j, none⟩ v) g n f := h.grown (grown_set w b j v) (fun e => hne (by injection e with e; exact e.symm))
theorem blk_other {w : World} {g t : Nat} {cs : List Value} (h : Blk w g t cs) {b j : Nat} {v : Value} (hne : b ≠ g) : Blk (w.setCell ⟨b, j, none⟩ v) g t cs := h.grown (grown_set w b j v) (fun e => hne (by injection e with e; exact e.symm))
theorem below_setc {w w1 : World} {B b j : Nat} {v : Value} (h : Below B w w1) (hb : B ≤ b) : Below B w (w1.setCell ⟨b, j, none⟩ v) := h.setCell hb v
/-- the cells of a house -/
def hcells (A : Option Addr) (n c : Nat) (tub every today : Int) : List Value := [.slice A n c, .int .i16 tub, .int .i8 every, .int .i16 today]

end Go.Proofs.Ytjmnbikaijphlaa.X
