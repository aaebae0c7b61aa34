/- Contracts of functions, and plain facts: what each call answers, and what it leaves as it was. -/
import Derived.Test.YtddlhjhnnmkgaaaDoorStock
import Derived.Test.YtddlhjhnnmkgaaaDoorStk
import Derived.Test.YtddlhjhnnmkgaaaDoorX5
set_option linter.unusedVariables false
set_option linter.unusedSimpArgs false
namespace Go.Proofs.YtddlhjhnnmkgaaaDoor.X
open Go.RowKit Go.Proofs.YtddlhjhnnmkgaaaDoorW.PrintWords Go.Proofs.YtddlhjhnnmkgaaaDoorW.PrintLast Go.Proofs.YtddlhjhnnmkgaaaDoorW.PrintMore
attribute [local go_sem] max2_int min2_int max_two min_two max_three min_three max_four min_four
/-- the kind of the number in a cell of a row of stocks -/
def kd (i : Nat) : IntKind := if i % 25 = 24 then .i32 else .i16
theorem kd_num {q u : Nat} (h : u < 24) : kd (25 * q + u) = .i16 := if_neg (by omega)
theorem kd_rag (q : Nat) : kd (25 * q + 24) = .i32 := if_pos (by omega)
/-- one number in place of another -/
def upd (f : Nat → Int) (i : Nat) (x : Int) : Nat → Int := fun j => if j = i then x else f j
theorem upd_same (f : Nat → Int) (i : Nat) (x : Int) : upd f i x i = x := if_pos rfl
theorem upd_ne {f : Nat → Int} {i j : Nat} {x : Int} (h : j ≠ i) : upd f i x j = f j := if_neg h
/-- the first n stocks of block g hold the numbers f -/
def Rw (w : World) (g n : Nat) (f : Nat → Int) : Prop := ∃ (cs : Array Value) (t : Nat), w.heap[g]? = some (.cells cs t (0, 0)) ∧ 25 * n ≤ cs.size ∧ ∀ i, i < 25 * n → cs[i]? = some (.int (kd i) (f i))
section
variable {w w1 : World} {g n : Nat} {f : Nat → Int}
theorem Rw.lt (h : Rw w g n f) : g < w.heap.size := by
  obtain ⟨cs, t, h1, _⟩ := h
  exact (Array.getElem?_eq_some_iff.1 h1).1
theorem Rw.cell (h : Rw w g n f) {i : Nat} (hi : i < 25 * n) : w.cell? ⟨g, i, none⟩ = some (.int (kd i) (f i)) := by
  obtain ⟨cs, t, h1, h2, h3⟩ := h
  rw [cell_of_row w g i _ t _ h1]; exact h3 i hi
theorem Rw.num (h : Rw w g n f) {o q u j : Nat} (ho : o = 25 * q) (hq : q < n) (hu : u < 24) (hj : j = o + u) : w.cell? ⟨g, j, none⟩ = some (.int .i16 (f (o + u))) := by
  subst ho hj
  rw [h.cell (by omega), kd_num hu]
theorem Rw.rag (h : Rw w g n f) {o q j : Nat} (ho : o = 25 * q) (hq : q < n) (hj : j = o + 24) : w.cell? ⟨g, j, none⟩ = some (.int .i32 (f (o + 24))) := by
  subst ho hj
  rw [h.cell (by omega), kd_rag]
theorem Rw.frozen (h : Rw w g n f) (j : Nat) : w.frozen? ⟨g, j, none⟩ = false := by
  obtain ⟨cs, t, h1, _⟩ := h
  exact frozen_of_row w g j _ t h1
theorem Rw.block (h : Rw w g n f) (hb : w1.heap[g]? = w.heap[g]?) : Rw w1 g n f := by
  obtain ⟨cs, t, h1, h2⟩ := h
  exact ⟨cs, t, hb.trans h1, h2⟩
theorem Rw.below (h : Rw w g n f) (hb : Below w.heap.size w w1) : Rw w1 g n f := h.block (hb.block g h.lt)
theorem Rw.grown (h : Rw w g n f) {row : Option Nat} (hg : w.grownBy w1 row) (hne : some g ≠ row) : Rw w1 g n f := h.block (hg.block g h.lt hne)
theorem Rw.alloc (h : Rw w g n f) (o : Obj) : Rw (w.alloc o) g n f := h.below (below_alloc (Below.refl _ _) o)
theorem Rw.drew (h : Rw w g n f) : Rw w.drew g n f := h
theorem Rw.drewN (h : Rw w g n f) (k : Nat) : Rw (w.drewN k) g n f := h
theorem Rw.set (h : Rw w g n f) {i : Nat} (hi : i < 25 * n) {k : IntKind} (hk : k = kd i) (x : Int) : Rw (w.setCell ⟨g, i, none⟩ (.int k x)) g n (upd f i x) := by
  subst hk
  obtain ⟨cs, t, h1, h2, h3⟩ := h
  refine ⟨cs.setIfInBounds i (.int (kd i) x), t, heap_setCell_same w g i cs t _ h1, by simpa using h2, fun j hj => ?_⟩
  by_cases e : j = i
  · subst e
    rw [Array.getElem?_setIfInBounds_self_of_lt (by omega), upd_same]
  · rw [Array.getElem?_setIfInBounds_ne (Ne.symm e), h3 j hj, upd_ne e]
theorem Rw.setNum (h : Rw w g n f) {o q u j : Nat} (ho : o = 25 * q) (hq : q < n) (hu : u < 24) (hj : j = o + u) (x : Int) : Rw (w.setCell ⟨g, j, none⟩ (.int .i16 x)) g n (upd f (o + u) x) := by
  subst ho hj
  exact h.set (by omega) (kd_num hu).symm x
theorem Rw.setRag (h : Rw w g n f) {o q j : Nat} (ho : o = 25 * q) (hq : q < n) (hj : j = o + 24) (x : Int) : Rw (w.setCell ⟨g, j, none⟩ (.int .i32 x)) g n (upd f (o + 24) x) := by
  subst ho hj
  exact h.set (by omega) (kd_rag q).symm x
theorem Rw.congr (h : Rw w g n f) {f' : Nat → Int} (e : ∀ i, i < 25 * n → f' i = f i) : Rw w g n f' := by
  obtain ⟨cs, t, h1, h2, h3⟩ := h
  exact ⟨cs, t, h1, h2, fun i hi => by rw [h3 i hi, e i hi]⟩
end
theorem Rw.drawn {w w1 : World} {g n : Nat} {f : Nat → Int} (h : Rw w g n f) (hd : Drawn0 w w1) : Rw w1 g n f := by
  obtain ⟨k, rfl⟩ := hd
  exact h.drewN k
theorem grown_drawn {w w1 w2 : World} {row : Option Nat} (h : w.grownBy w1 row) (hd : Drawn0 w1 w2) : w.grownBy w2 row := by
  obtain ⟨k, rfl⟩ := hd
  exact ⟨h.os, h.tape, h.output, h.size, h.block⟩
theorem grown_below {w w1 w2 : World} {row : Option Nat} (h : w.grownBy w1 row) (hb : Below w1.heap.size w1 w2) : w.grownBy w2 row :=
  World.grownBy.trans h ⟨hb.os, hb.tape, hb.output, hb.size, fun k hk _ => hb.block k hk⟩
theorem below_grown {w w1 w2 : World} {B g : Nat} (h : Below B w w1) (hs : B ≤ g) (hB : B ≤ w1.heap.size) (hg : w1.grownBy w2 (some g)) : Below B w w2 :=
  pw_below_grown h _ hB hg (fun k e => by injection e with e; omega)
theorem grown_drew {w w1 : World} {row : Option Nat} (h : w.grownBy w1 row) : w.grownBy w1.drew row := ⟨h.os, h.tape, h.output, h.size, h.block⟩
theorem grown_setn {w w1 : World} {g : Nat} (h : w.grownBy w1 (some g)) (j : Nat) (v : Value) : w.grownBy (w1.setCell ⟨g, j, none⟩ v) (some g) := World.grownBy.trans h (grown_set w1 g j v)
/-- the 25 cells of a stock from o on -/
def cellsAt (f : Nat → Int) (o : Nat) : List Value := (List.range 25).map fun j => .int (kd j) (f (o + j))
theorem cellsAt_len (f : Nat → Int) (o : Nat) : (cellsAt f o).length = 25 := by simp [cellsAt]
theorem Rw.range {w : World} {g n : Nat} {f : Nat → Int} (h : Rw w g n f) {o q : Nat} (ho : o = 25 * q) (hq : q < n) : w.rangeAt g o (cellsAt f o) := fun j v hv => by
  subst ho
  have hj : j < 25 := by have := (List.getElem?_eq_some_iff.1 hv).1; rwa [cellsAt_len] at this
  rw [h.cell (by omega)]
  rw [cellsAt, List.getElem?_map, List.getElem?_range hj] at hv
  rw [← Option.some.inj hv]
  have e : kd (25 * q + j) = kd j := by unfold kd; congr 1; rw [Nat.mul_add_mod]
  rw [e]
/-- the numbers of one stock -/
def fOf (K : List Int) (r : Int) : Nat → Int := fun i => if i < 24 then K.getD i 0 else r
theorem stk_cellsAt {K : List Int} (hK : K.length = 24) (r : Int) : stk K r = cellsAt (fOf K r) 0 := by
  match K, hK with
  | [a0, a1, a2, a3, a4, a5, a6, a7, a8, a9, a10, a11, a12, a13, a14, a15, a16, a17, a18, a19, a20, a21, a22, a23], _ => rfl
theorem Rw.of_blk {w : World} {g t : Nat} {f : Nat → Int} (h : Blk w g t (cellsAt f 0)) : Rw w g 1 f := by
  refine ⟨_, t, h, by simp [cellsAt_len], fun i hi => ?_⟩
  simp [cellsAt, List.getElem?_range (show i < 25 by omega)]
/-- used pieces become dirty ones -/
def mvF (f : Nat → Int) (o u : Nat) : Nat → Int := upd (upd f (o + (16 + u)) (f (o + (16 + u)) + f (o + (8 + u)))) (o + (8 + u)) 0
def mvs (f : Nat → Int) (o : Nat) : Nat → Nat → Int
  | 0 => f
  | q + 1 => mvF (mvs f o q) o q
/-- pieces of use u are taken: state, need -/
def tkN (f : Nat → Int) (o u : Nat) (need : Int) : Int := min need (f (o + u))
def tkF (f : Nat → Int) (o u : Nat) (x : Int) : Nat → Int := if u = 0 then upd (upd f (o + u) (f (o + u) - x)) (o + 24) (f (o + 24) + x) else upd (upd f (o + u) (f (o + u) - x)) (o + (8 + (u - 1))) (f (o + (8 + (u - 1))) + x)
def tks (f : Nat → Int) (o : Nat) (need : Int) : Nat → (Nat → Int) × Int
  | 0 => (f, need)
  | q + 1 => (tkF (tks f o need q).1 o (7 - q) (tkN (tks f o need q).1 o (7 - q) (tks f o need q).2), (tks f o need q).2 - tkN (tks f o need q).1 o (7 - q) (tks f o need q).2)
def useF (f : Nat → Int) (o : Nat) (need : Int) : (Nat → Int) × Int := tks (mvs f o 8) o need 8
/-- all pieces of a stock -/
def tot (f : Nat → Int) (o : Nat) : Int := f (o + 0) + f (o + 1) + f (o + 2) + f (o + 3) + f (o + 4) + f (o + 5) + f (o + 6) + f (o + 7) + f (o + 8) + f (o + 9) + f (o + 10) + f (o + 11) + f (o + 12) + f (o + 13) + f (o + 14) + f (o + 15) + f (o + 16) + f (o + 17) + f (o + 18) + f (o + 19) + f (o + 20) + f (o + 21) + f (o + 22) + f (o + 23) + f (o + 24)
def Good (f : Nat → Int) (o : Nat) : Prop := (∀ j, j < 25 → 0 ≤ f (o + j)) ∧ tot f o ≤ 500
theorem Good.all {f : Nat → Int} {o : Nat} (h : Good f o) : 0 ≤ f (o + 0) ∧ 0 ≤ f (o + 1) ∧ 0 ≤ f (o + 2) ∧ 0 ≤ f (o + 3) ∧ 0 ≤ f (o + 4) ∧ 0 ≤ f (o + 5) ∧ 0 ≤ f (o + 6) ∧ 0 ≤ f (o + 7) ∧ 0 ≤ f (o + 8) ∧ 0 ≤ f (o + 9) ∧ 0 ≤ f (o + 10) ∧ 0 ≤ f (o + 11) ∧ 0 ≤ f (o + 12) ∧ 0 ≤ f (o + 13) ∧ 0 ≤ f (o + 14) ∧ 0 ≤ f (o + 15) ∧ 0 ≤ f (o + 16) ∧ 0 ≤ f (o + 17) ∧ 0 ≤ f (o + 18) ∧ 0 ≤ f (o + 19) ∧ 0 ≤ f (o + 20) ∧ 0 ≤ f (o + 21) ∧ 0 ≤ f (o + 22) ∧ 0 ≤ f (o + 23) ∧ 0 ≤ f (o + 24) :=
  ⟨h.1 0 (by decide), h.1 1 (by decide), h.1 2 (by decide), h.1 3 (by decide), h.1 4 (by decide), h.1 5 (by decide), h.1 6 (by decide), h.1 7 (by decide), h.1 8 (by decide), h.1 9 (by decide), h.1 10 (by decide), h.1 11 (by decide), h.1 12 (by decide), h.1 13 (by decide), h.1 14 (by decide), h.1 15 (by decide), h.1 16 (by decide), h.1 17 (by decide), h.1 18 (by decide), h.1 19 (by decide), h.1 20 (by decide), h.1 21 (by decide), h.1 22 (by decide), h.1 23 (by decide), h.1 24 (by decide)⟩
theorem upd_at (f : Nat → Int) (o i j : Nat) (x : Int) : upd f (o + i) x (o + j) = if j = i then x else f (o + j) := by
  unfold upd
  by_cases h : j = i
  · subst h; simp
  · rw [if_neg (by omega), if_neg h]
theorem lt8 {u : Nat} (h : u < 8) : u = 0 ∨ u = 1 ∨ u = 2 ∨ u = 3 ∨ u = 4 ∨ u = 5 ∨ u = 6 ∨ u = 7 := by omega
set_option maxHeartbeats 2000000 in
/-- what one change of a cell does to the whole -/
theorem tot_upd (f : Nat → Int) (o i : Nat) (x : Int) (hi : i < 25) : tot (upd f (o + i) x) o = tot f o - f (o + i) + x := by
  unfold tot
  simp only [upd_at]
  have : i = 0 ∨ i = 1 ∨ i = 2 ∨ i = 3 ∨ i = 4 ∨ i = 5 ∨ i = 6 ∨ i = 7 ∨ i = 8 ∨ i = 9 ∨ i = 10 ∨ i = 11 ∨ i = 12 ∨ i = 13 ∨ i = 14 ∨ i = 15 ∨ i = 16 ∨ i = 17 ∨ i = 18 ∨ i = 19 ∨ i = 20 ∨ i = 21 ∨ i = 22 ∨ i = 23 ∨ i = 24 := by omega
  rcases this with rfl | rfl | rfl | rfl | rfl | rfl | rfl | rfl | rfl | rfl | rfl | rfl | rfl | rfl | rfl | rfl | rfl | rfl | rfl | rfl | rfl | rfl | rfl | rfl | rfl <;> simp only [Nat.reduceEqDiff, if_true, if_false, ite_true, ite_false, reduceIte] <;> omega
theorem nonneg_upd {f : Nat → Int} {o i : Nat} {x : Int} (h : ∀ j, j < 25 → 0 ≤ f (o + j)) (hx : 0 ≤ x) : ∀ j, j < 25 → 0 ≤ upd f (o + i) x (o + j) := by
  intro j hj
  rw [upd_at]
  split
  · exact hx
  · exact h j hj
set_option maxHeartbeats 2000000 in
theorem Good.two {f : Nat → Int} {o i j : Nat} (h : Good f o) (hi : i < 25) (hj : j < 25) (hne : i ≠ j) : f (o + i) + f (o + j) ≤ 500 := by
  have h1 := tot_upd f o i 0 hi
  have h2 := tot_upd (upd f (o + i) 0) o j 0 hj
  have h3 : 0 ≤ tot (upd (upd f (o + i) 0) (o + j) 0) o := by
    have hn := nonneg_upd (i := j) (x := 0) (nonneg_upd (i := i) (x := 0) h.1 (by omega)) (by omega)
    unfold tot
    have := hn 0 (by decide); have := hn 1 (by decide); have := hn 2 (by decide); have := hn 3 (by decide); have := hn 4 (by decide); have := hn 5 (by decide); have := hn 6 (by decide); have := hn 7 (by decide); have := hn 8 (by decide); have := hn 9 (by decide); have := hn 10 (by decide); have := hn 11 (by decide); have := hn 12 (by decide); have := hn 13 (by decide); have := hn 14 (by decide); have := hn 15 (by decide); have := hn 16 (by decide); have := hn 17 (by decide); have := hn 18 (by decide); have := hn 19 (by decide); have := hn 20 (by decide); have := hn 21 (by decide); have := hn 22 (by decide); have := hn 23 (by decide); have := hn 24 (by decide)
    omega
  rw [h1] at h2
  rw [upd_at, if_neg (Ne.symm hne)] at h2
  have := h.2
  omega
theorem Good.le {f : Nat → Int} {o i : Nat} (h : Good f o) (hi : i < 25) : f (o + i) ≤ 500 := by
  rcases Nat.eq_zero_or_pos i with e | e
  · have := h.two hi (j := 1) (by decide) (by omega); have := h.1 1 (by decide); omega
  · have := h.two hi (j := 0) (by decide) (by omega); have := h.1 0 (by decide); omega
/-- pieces go from one cell to another -/
theorem Good.move {f : Nat → Int} {o i j : Nat} {x : Int} (h : Good f o) (hi : i < 25) (hj : j < 25) (hne : i ≠ j) (hx : 0 ≤ x) (hx2 : x ≤ f (o + i)) : Good (upd (upd f (o + i) (f (o + i) - x)) (o + j) (f (o + j) + x)) o := by
  refine ⟨nonneg_upd (nonneg_upd h.1 (by omega)) (by have := h.1 j hj; omega), ?_⟩
  rw [tot_upd _ _ _ _ hj, tot_upd _ _ _ _ hi, upd_at, if_neg (Ne.symm hne)]
  have := h.2
  omega
theorem upd_comm {f : Nat → Int} {i j : Nat} {x y : Int} (h : i ≠ j) : upd (upd f i x) j y = upd (upd f j y) i x := by
  funext k
  unfold upd
  by_cases h1 : k = j
  · rw [if_pos h1, if_neg (by omega), if_pos h1]
  · rw [if_neg h1, if_neg h1]
theorem Good.mv {f : Nat → Int} {o u : Nat} (h : Good f o) (hu : u < 8) : Good (mvF f o u) o := by
  have := h.move (i := 8 + u) (j := 16 + u) (x := f (o + (8 + u))) (by omega) (by omega) (by omega) (h.1 _ (by omega)) (Int.le_refl _)
  rw [Int.sub_self, upd_comm (by omega)] at this
  exact this
theorem Good.mvs {f : Nat → Int} {o : Nat} (h : Good f o) : ∀ q, q ≤ 8 → Good (mvs f o q) o
  | 0, _ => h
  | q + 1, hq => (Good.mvs h q (by omega)).mv (by omega)
theorem tkN_le {f : Nat → Int} {o u : Nat} {need : Int} (h : 0 ≤ f (o + u)) (hn : 0 ≤ need) : 0 ≤ tkN f o u need ∧ tkN f o u need ≤ f (o + u) ∧ tkN f o u need ≤ need := by
  unfold tkN; omega
theorem Good.tk {f : Nat → Int} {o u : Nat} {need : Int} (h : Good f o) (hu : u < 8) (hn : 0 ≤ need) : Good (tkF f o u (tkN f o u need)) o := by
  have h1 := tkN_le (h.1 u (by omega)) hn
  unfold tkF
  split
  · exact h.move (by omega) (by omega) (by omega) h1.1 h1.2.1
  · exact h.move (by omega) (by omega) (by omega) h1.1 h1.2.1
theorem Good.tks {f : Nat → Int} {o : Nat} {need : Int} (h : Good f o) (hn : 0 ≤ need) : ∀ q, q ≤ 8 → Good (tks f o need q).1 o ∧ 0 ≤ (tks f o need q).2 ∧ (tks f o need q).2 ≤ need
  | 0, _ => ⟨h, hn, Int.le_refl _⟩
  | q + 1, hq => by
    obtain ⟨h1, h2, h3⟩ := Good.tks h hn q (by omega)
    have h4 := tkN_le (h1.1 (7 - q) (by omega)) h2
    exact ⟨h1.tk (by omega) h2, by simp only [X.tks]; omega, by simp only [X.tks]; omega⟩
theorem Good.use {f : Nat → Int} {o : Nat} {need : Int} (h : Good f o) (hn : 0 ≤ need) : Good (useF f o need).1 o ∧ 0 ≤ (useF f o need).2 ∧ (useF f o need).2 ≤ need := (h.mvs 8 (by omega)).tks hn 8 (by omega)
/-- what lies elsewhere stays -/
theorem mvs_other {f : Nat → Int} {o i : Nat} (hi : i < o ∨ o + 25 ≤ i) : ∀ q, q ≤ 8 → mvs f o q i = f i
  | 0, _ => rfl
  | q + 1, hq => by
    have := mvs_other (f := f) hi q (by omega)
    simp only [mvs, mvF]
    rw [upd_ne (by omega), upd_ne (by omega), this]
theorem tkF_other {f : Nat → Int} {o i u : Nat} {x : Int} (hi : i < o ∨ o + 25 ≤ i) (hu : u < 8) : tkF f o u x i = f i := by
  unfold tkF
  split
  · rw [upd_ne (by omega), upd_ne (by omega)]
  · rw [upd_ne (by omega), upd_ne (by omega)]
theorem tks_other {f : Nat → Int} {o i : Nat} {need : Int} (hi : i < o ∨ o + 25 ≤ i) : ∀ q, q ≤ 8 → (tks f o need q).1 i = f i
  | 0, _ => rfl
  | q + 1, hq => by
    have := tks_other (f := f) (need := need) hi q (by omega)
    simp only [tks]
    rw [tkF_other hi (by omega), this]
theorem useF_other {f : Nat → Int} {o i : Nat} {need : Int} (hi : i < o ∨ o + 25 ≤ i) : (useF f o need).1 i = f i := by
  unfold useF
  rw [tks_other hi 8 (by omega), mvs_other hi 8 (by omega)]
theorem Good.congr {f f' : Nat → Int} {o : Nat} (h : Good f o) (e : ∀ j, j < 25 → f' (o + j) = f (o + j)) : Good f' o := by
  refine ⟨fun j hj => by rw [e j hj]; exact h.1 j hj, ?_⟩
  have : tot f' o = tot f o := by
    unfold tot
    rw [e 0 (by decide), e 1 (by decide), e 2 (by decide), e 3 (by decide), e 4 (by decide), e 5 (by decide), e 6 (by decide), e 7 (by decide), e 8 (by decide), e 9 (by decide), e 10 (by decide), e 11 (by decide), e 12 (by decide), e 13 (by decide), e 14 (by decide), e 15 (by decide), e 16 (by decide), e 17 (by decide), e 18 (by decide), e 19 (by decide), e 20 (by decide), e 21 (by decide), e 22 (by decide), e 23 (by decide), e 24 (by decide)]
  rw [this]; exact h.2
/-- all of n stocks are good -/
def Fine (f : Nat → Int) (n : Nat) : Prop := ∀ q, q < n → Good f (25 * q)
theorem Fine.use {f : Nat → Int} {n q : Nat} {need : Int} (h : Fine f n) (hq : q < n) (hn : 0 ≤ need) : Fine (useF f (25 * q) need).1 n := by
  intro p hp
  by_cases e : p = q
  · subst e; exact ((h p hp).use hn).1
  · exact (h p hp).congr fun j hj => useF_other (by omega)
/-- washing: u counted down from 7; the tub's rest -/
def wsN (f : Nat → Int) (o u : Nat) (left : Int) : Int := min left (f (o + (16 + u)))
def wsF (f : Nat → Int) (o u : Nat) (x : Int) : Nat → Int := upd (upd f (o + (16 + u)) (f (o + (16 + u)) - x)) (o + u) (f (o + u) + x)
def ws1 (f : Nat → Int) (o : Nat) (left : Int) : Nat → (Nat → Int) × Int
  | 0 => (f, left)
  | q + 1 => (wsF (ws1 f o left q).1 o (7 - q) (wsN (ws1 f o left q).1 o (7 - q) (ws1 f o left q).2), (ws1 f o left q).2 - wsN (ws1 f o left q).1 o (7 - q) (ws1 f o left q).2)
def wsAll (f : Nat → Int) (left : Int) : Nat → (Nat → Int) × Int
  | 0 => (f, left)
  | k + 1 => ws1 (wsAll f left k).1 (25 * k) (wsAll f left k).2 8
theorem wsN_le {f : Nat → Int} {o u : Nat} {left : Int} (h : 0 ≤ f (o + (16 + u))) (hn : 0 ≤ left) : 0 ≤ wsN f o u left ∧ wsN f o u left ≤ f (o + (16 + u)) ∧ wsN f o u left ≤ left := by
  unfold wsN; omega
theorem Good.ws1 {f : Nat → Int} {o : Nat} {left : Int} (h : Good f o) (hn : 0 ≤ left) : ∀ q, q ≤ 8 → Good (ws1 f o left q).1 o ∧ 0 ≤ (ws1 f o left q).2 ∧ (ws1 f o left q).2 ≤ left
  | 0, _ => ⟨h, hn, Int.le_refl _⟩
  | q + 1, hq => by
    obtain ⟨h1, h2, h3⟩ := Good.ws1 h hn q (by omega)
    have h4 := wsN_le (u := 7 - q) (h1.1 (16 + (7 - q)) (by omega)) h2
    refine ⟨?_, by simp only [X.ws1]; omega, by simp only [X.ws1]; omega⟩
    simp only [X.ws1, wsF]
    exact h1.move (by omega) (by omega) (by omega) h4.1 h4.2.1
theorem ws1_other {f : Nat → Int} {o i : Nat} {left : Int} (hi : i < o ∨ o + 25 ≤ i) : ∀ q, q ≤ 8 → (ws1 f o left q).1 i = f i
  | 0, _ => rfl
  | q + 1, hq => by
    have := ws1_other (f := f) (left := left) hi q (by omega)
    simp only [ws1, wsF]
    rw [upd_ne (by omega), upd_ne (by omega), this]
theorem Fine.ws1 {f : Nat → Int} {n k : Nat} {left : Int} (h : Fine f n) (hk : k < n) (hn : 0 ≤ left) : Fine (ws1 f (25 * k) left 8).1 n := by
  intro p hp
  by_cases e : p = k
  · subst e; exact ((h p hp).ws1 hn 8 (by omega)).1
  · exact (h p hp).congr fun j hj => ws1_other (by omega) 8 (by omega)
theorem Fine.wsAll {f : Nat → Int} {n : Nat} {left : Int} (h : Fine f n) (hn : 0 ≤ left) : ∀ k, k ≤ n → Fine (wsAll f left k).1 n ∧ 0 ≤ (wsAll f left k).2 ∧ (wsAll f left k).2 ≤ left
  | 0, _ => ⟨h, hn, Int.le_refl _⟩
  | k + 1, hk => by
    obtain ⟨h1, h2, h3⟩ := Fine.wsAll h hn k (by omega)
    have h4 := (h1 k (by omega)).ws1 h2 8 (by omega)
    exact ⟨h1.ws1 (by omega) h2, h4.2.1, by have := h4.2.2; simp only [X.wsAll]; omega⟩

theorem mvs_used {f : Nat → Int} {o j : Nat} (hj : j < 8) : ∀ q, q ≤ j → mvs f o q (o + (8 + j)) = f (o + (8 + j))
  | 0, _ => rfl
  | q + 1, hq => by
    have := mvs_used (f := f) (o := o) hj q (by omega)
    simp only [mvs, mvF]
    rw [upd_ne (by omega), upd_ne (by omega), this]
/-- eight cells from o on -/
def seg8 (f : Nat → Int) (o : Nat) : List Value := (List.range 8).map fun j => .int .i16 (f (o + j))
theorem seg8_len (f : Nat → Int) (o : Nat) : (seg8 f o).length = 8 := by simp [seg8]
theorem seg8_get (f : Nat → Int) (o : Nat) {j : Nat} (h : j < 8) : (seg8 f o).toArray[j]? = some (.int .i16 (f (o + j))) := by simp [seg8, List.getElem?_range h]
theorem Rw.range8 {w : World} {g n : Nat} {f : Nat → Int} (h : Rw w g n f) {o q u p : Nat} (ho : o = 25 * q) (hq : q < n) (hu : u ≤ 16) (hp : p = o + u) : w.rangeAt g p (seg8 f p) := fun j v hv => by
  subst ho hp
  have hj : j < 8 := by have := (List.getElem?_eq_some_iff.1 hv).1; rwa [seg8_len] at this
  rw [h.num (o := 25 * q) (u := u + j) rfl hq (by omega) (by omega)]
  rw [seg8, List.getElem?_map, List.getElem?_range hj] at hv
  rw [← Option.some.inj hv]
  show _ = some (Value.int .i16 (f (25 * q + u + j)))
  rw [Nat.add_assoc]
theorem tkF_zero (f : Nat → Int) (o : Nat) (x : Int) : tkF f o 0 x = upd (upd f (o + 0) (f (o + 0) - x)) (o + 24) (f (o + 24) + x) := if_pos rfl
theorem tkF_succ (f : Nat → Int) (o v : Nat) (x : Int) : tkF f o (v + 1) x = upd (upd f (o + (v + 1)) (f (o + (v + 1)) - x)) (o + (8 + v)) (f (o + (8 + v)) + x) := if_neg (by omega)
/-- marks up to cell m -/
def markTo (F : Nat → Int) (k : Int) (m : Nat) : Nat → Int := fun i => if i < m then (kd i).wrap (k + i) else F i
theorem markTo_step (F : Nat → Int) (k : Int) (m : Nat) : upd (markTo F k m) m ((kd m).wrap (k + m)) = markTo F k (m + 1) := by
  funext i
  unfold upd markTo
  by_cases h : i = m
  · subst h; simp
  · rw [if_neg h]
    by_cases h2 : i < m
    · rw [if_pos h2, if_pos (by omega)]
    · rw [if_neg h2, if_neg (by omega)]
theorem markTo_zero (F : Nat → Int) (k : Int) : markTo F k 0 = F := by funext i; simp [markTo]
theorem Rw.mark16 {w : World} {g n : Nat} {F : Nat → Int} {k : Int} {m : Nat} (h : Rw w g n (markTo F k m)) {q u j : Nat} (hq : q < n) (hu : u < 24) (hm : m = 25 * q + u) (hj : j = m) {x : Int} (hx : x = IntKind.i16.wrap (k + m)) : Rw (w.setCell ⟨g, j, none⟩ (.int .i16 x)) g n (markTo F k (m + 1)) := by
  subst hx
  rw [hj]
  have e : kd m = .i16 := by rw [hm]; exact kd_num hu
  have := h.set (i := m) (by omega) e.symm (IntKind.i16.wrap (k + m))
  rw [← markTo_step, e]
  exact this
theorem Rw.mark32 {w : World} {g n : Nat} {F : Nat → Int} {k : Int} {m : Nat} (h : Rw w g n (markTo F k m)) {q j : Nat} (hq : q < n) (hm : m = 25 * q + 24) (hj : j = m) {x : Int} (hx : x = IntKind.i32.wrap (k + m)) : Rw (w.setCell ⟨g, j, none⟩ (.int .i32 x)) g n (markTo F k (m + 1)) := by
  subst hx
  rw [hj]
  have e : kd m = .i32 := by rw [hm]; exact kd_rag q
  have := h.set (i := m) (by omega) e.symm (IntKind.i32.wrap (k + m))
  rw [← markTo_step, e]
  exact this
/-- a slice of stocks: nil, or the head of a block -/
def Sl (w : World) (B n : Nat) (f : Nat → Int) (A : Option Addr) : Prop := (A = none ∧ n = 0) ∨ ∃ g, A = some ⟨g, 0, none⟩ ∧ B ≤ g ∧ Rw w g n f
/-- 25 cells copied -/
def put25 (F : Nat → Int) (o : Nat) (f : Nat → Int) (p : Nat) : Nat → Int := fun i => if o ≤ i ∧ i < o + 25 then f (p + (i - o)) else F i
theorem getElem?_three {α : Type} (A B C : List α) (o : Nat) (hA : A.length = o) (i : Nat) : (A ++ B ++ C)[i]? = if i < o then A[i]? else if i < o + B.length then B[i - o]? else C[i - o - B.length]? := by
  subst hA
  by_cases h1 : i < A.length
  · rw [if_pos h1, List.append_assoc, List.getElem?_append_left h1]
  · rw [if_neg h1, List.append_assoc, List.getElem?_append_right (by omega)]
    by_cases h2 : i < A.length + B.length
    · rw [if_pos h2, List.getElem?_append_left (by omega)]
    · rw [if_neg h2, List.getElem?_append_right (by omega)]
theorem Rw.store25 {w : World} {g n : Nat} {F f : Nat → Int} (h : Rw w g n F) {o q p : Nat} (ho : o = 25 * q) (hq : q < n) (hp : p % 25 = 0) : Rw (w.setCells g o (cellsAt f p)) g n (put25 F o f p) ∧ w.grownBy (w.setCells g o (cellsAt f p)) (some g) := by
  subst ho
  obtain ⟨cs, t, h1, h2, h3⟩ := h
  have hB : Blk w g t cs.toList := by unfold Blk; simpa using h1
  obtain ⟨h4, h5⟩ := Blk.setCells (cellsAt f p) (25 * q) hB (by rw [cellsAt_len]; simp; omega)
  refine ⟨⟨_, t, h4, by simp [cellsAt_len]; omega, fun i hi => ?_⟩, h5⟩
  rw [List.getElem?_toArray, getElem?_three _ _ _ (25 * q) (by simp; omega), cellsAt_len]
  unfold put25
  by_cases c1 : i < 25 * q
  · rw [if_pos c1, List.getElem?_take_of_lt c1, if_neg (by omega)]
    simpa using h3 i hi
  · rw [if_neg c1]
    by_cases c2 : i < 25 * q + 25
    · rw [if_pos c2, if_pos ⟨by omega, c2⟩, cellsAt, List.getElem?_map, List.getElem?_range (by omega)]
      have e0 : (i - 25 * q) % 25 = i % 25 := by omega
      have e : kd i = kd (i - 25 * q) := by unfold kd; rw [e0]
      simp only [Option.map_some, e]
    · rw [if_neg c2, if_neg (by omega), List.getElem?_drop]
      rw [← h3 i hi, Array.getElem?_toList, show 25 * q + 25 + (i - 25 * q - 25) = i by omega]
theorem Rw.there {w : World} {g n : Nat} {F : Nat → Int} (h : Rw w g n F) {o q : Nat} (ho : o = 25 * q) (hq : q < n) : w.there g o 25 := fun j hj => by
  subst ho
  exact ⟨by rw [h.cell (i := 25 * q + j) (by omega)]; rfl, h.frozen _⟩
theorem cellsAt_one (f : Nat → Int) (p : Nat) : (cellsAt f p).all (·.oneCell') = true := by simp [cellsAt, Value.oneCell']
section
variable {P : Program} {ops : Array Oper} {rest : List Oper} {o : Oper} {a : Act} {w : World} {Q : Exit → Act → World → Prop}
/-- a stock read out of a row -/
theorem rw_load (hgd : o.guard = none) (ty : TypeId) (x : Operand) (ho : o.op = .load ty x) (g off : Nat) (hx : a.eval x = .pointer (some ⟨g, off, none⟩)) (f : Nat → Int) (p : Nat) (hR : w.rangeAt g off (cellsAt f p)) (d : TypeDesc) (hu : P.underlying ty = some d) (hd : d.isRow = true) (hi : (P.info? ty).map (·.size) = some 25)
    (h : wpList P ops Q rest (a.put o.dst (.agg (cellsAt f p).toArray)) w) : wpList P ops Q (o :: rest) a w :=
  wpList_load_mid hgd ty x ho g off hx (cellsAt f p) d hR hu hd (by rw [cellsAt_len]; exact hi) h
/-- a stock written into a row -/
theorem rw_store (hgd : o.guard = none) (ty : TypeId) (x y : Operand) (ho : o.op = .store ty x y) (g off : Nat) (hx : a.eval x = .pointer (some ⟨g, off, none⟩)) (n q : Nat) (F f : Nat → Int) (p : Nat) (hy : a.eval y = .agg (cellsAt f p).toArray)
    (hB : Rw w g n F) (hoff : off = 25 * q) (hq : q < n) (hp : p % 25 = 0) (hi : (P.info? ty).map (·.size) = some 25)
    (h : ∀ w1 : World, Rw w1 g n (put25 F off f p) → w.grownBy w1 (some g) → wpList P ops Q rest (a.put o.dst undef) w1) : wpList P ops Q (o :: rest) a w := by
  have hw := hB.store25 (f := f) hoff hq hp
  refine wpList_store_mid hgd ty x y ho g off (cellsAt f p).toArray hx hy (by simpa [cellsAt_len] using hB.there hoff hq) (by simpa [cellsAt_len] using hi) (all_oneCell_toArray (by simpa using cellsAt_one f p)) ?_
  simpa using h _ hw.1 hw.2
end
/-- the numbers of a stock, as a list and a number -/
def kOf (f : Nat → Int) (o : Nat) : List Int := (List.range 24).map fun j => f (o + j)
theorem kOf_len (f : Nat → Int) (o : Nat) : (kOf f o).length = 24 := by simp [kOf]
theorem kOf_get (f : Nat → Int) (o : Nat) {j : Nat} (h : j < 24) : (kOf f o).getD j 0 = f (o + j) := by
  rw [List.getD_eq_getElem?_getD, kOf, List.getElem?_map, List.getElem?_range h]; rfl
theorem cellsAt_stk (f : Nat → Int) (o : Nat) : cellsAt f o = stk (kOf f o) (f (o + 24)) := rfl
theorem cellsAt_congr {f f' : Nat → Int} {o o' : Nat} (h : ∀ j, j < 25 → f (o + j) = f' (o' + j)) : cellsAt f o = cellsAt f' o' := by
  unfold cellsAt
  apply List.map_congr_left
  intro j hj
  rw [List.mem_range] at hj
  rw [h j hj]
/-- the numbers that there can be in a row of n stocks -/
def Rng (f : Nat → Int) (n : Nat) : Prop := ∀ i, i < 25 * n → (kd i = .i16 → -32768 ≤ f i ∧ f i ≤ 32767) ∧ (kd i = .i32 → -2147483648 ≤ f i ∧ f i ≤ 2147483647)
/-- the law's argument: where its stocks lie -/
def Arg (w : World) (n : Nat) (f : Nat → Int) (A : Option Addr) : Prop := 0 < n → ∃ b o, A = some ⟨b, o, none⟩ ∧ ∀ i, i < 25 * n → w.cell? ⟨b, o + i, none⟩ = some (.int (kd i) (f i))
theorem Arg.below {w w1 : World} {n : Nat} {f : Nat → Int} {A : Option Addr} (h : Arg w n f A) (hb : Below w.heap.size w w1) : Arg w1 n f A := fun hn => by
  obtain ⟨b, o, e, h1⟩ := h hn
  refine ⟨b, o, e, fun i hi => ?_⟩
  have h2 := h1 i hi
  rw [hb.cell ?_]
  · exact h2
  · show b < w.heap.size
    unfold World.cell? at h2
    split at h2
    · rename_i cs _ _ hh; exact (Array.getElem?_eq_some_iff.1 hh).1
    · cases h2
theorem Arg.range {w : World} {n : Nat} {f : Nat → Int} {b o : Nat} (h : ∀ i, i < 25 * n → w.cell? ⟨b, o + i, none⟩ = some (.int (kd i) (f i))) {q p : Nat} (hq : q < n) (hp : p = o + 25 * q) : w.rangeAt b p (cellsAt f (25 * q)) := fun j v hv => by
  subst hp
  have hj : j < 25 := by have := (List.getElem?_eq_some_iff.1 hv).1; rwa [cellsAt_len] at this
  rw [Nat.add_assoc, h (25 * q + j) (by omega)]
  rw [cellsAt, List.getElem?_map, List.getElem?_range hj] at hv
  rw [← Option.some.inj hv]
  have e : kd (25 * q + j) = kd j := by unfold kd; congr 1; rw [Nat.mul_add_mod]
  rw [e]
theorem put25_same (F : Nat → Int) (o : Nat) (f : Nat → Int) (i : Nat) (h1 : o ≤ i) (h2 : i < o + 25) : put25 F o f o i = f i := by
  unfold put25; rw [if_pos ⟨h1, h2⟩]; congr 1; omega
theorem put25_ne (F : Nat → Int) (o : Nat) (f : Nat → Int) (p i : Nat) (h : i < o ∨ o + 25 ≤ i) : put25 F o f p i = F i := by
  unfold put25; rw [if_neg (by omega)]
/-- the first k stocks of f, nothing behind them -/
def cut (f : Nat → Int) (k : Nat) : Nat → Int := fun i => if i < 25 * k then f i else 0
theorem cut_put (f : Nat → Int) (k : Nat) : put25 (cut f k) (25 * k) f (25 * k) = cut f (k + 1) := by
  funext i
  simp only [cut, put25]
  by_cases h : 25 * k ≤ i ∧ i < 25 * k + 25
  · rw [if_pos h, if_pos (by omega)]; congr 1; omega
  · rw [if_neg h]
    by_cases h2 : i < 25 * k
    · rw [if_pos h2, if_pos (by omega)]
    · rw [if_neg h2, if_neg (by omega)]
theorem rw_cut {w : World} {g n k o : Nat} {f : Nat → Int} (h : Rw w g n (put25 (cut f k) o f (25 * k))) (ho : o = 25 * k) : Rw w g n (cut f (k + 1)) := by
  subst ho; rw [← cut_put]; exact h

theorem Rw.other {w : World} {g n : Nat} {f : Nat → Int} (h : Rw w g n f) {b j : Nat} {v : Value} (hne : b ≠ g) : Rw (w.setCell ⟨b, j, none⟩ v) g n f := h.grown (grown_set w b j v) (fun e => hne (by injection e with e; exact e.symm))
theorem blk_other {w : World} {g t : Nat} {cs : List Value} (h : Blk w g t cs) {b j : Nat} {v : Value} (hne : b ≠ g) : Blk (w.setCell ⟨b, j, none⟩ v) g t cs := h.grown (grown_set w b j v) (fun e => hne (by injection e with e; exact e.symm))
theorem below_setc {w w1 : World} {B b j : Nat} {v : Value} (h : Below B w w1) (hb : B ≤ b) : Below B w (w1.setCell ⟨b, j, none⟩ v) := h.setCell hb v
/-- the cells of a house -/
abbrev hcells (A : Option Addr) (n c : Nat) (tub every today : Int) : List Value := [.slice A n c, .int .i16 tub, .int .i8 every, .int .i16 today]
/-- the pieces of the stock from o on: its rags, and those of the first n uses -/
def sumF (f : Nat → Int) (o : Nat) : Nat → Int
  | 0 => f (o + 24)
  | n + 1 => sumF f o n + (f (o + n) + f (o + (8 + n)) + f (o + (16 + n)))
def fineF (f : Nat → Int) (o : Nat) : Nat → Bool
  | 0 => decide (0 ≤ f (o + 24))
  | n + 1 => fineF f o n && decide (0 ≤ f (o + n)) && decide (0 ≤ f (o + (8 + n))) && decide (0 ≤ f (o + (16 + n)))
def goodB (f : Nat → Int) (o : Nat) : Bool := fineF f o 8 && decide (sumF f o 8 ≤ 500)
theorem sumF_tot (f : Nat → Int) (o : Nat) : sumF f o 8 = tot f o := by
  simp only [sumF, tot, Nat.reduceAdd, Nat.add_zero]
  omega
set_option maxHeartbeats 1000000 in
theorem goodB_iff (f : Nat → Int) (o : Nat) : goodB f o = true ↔ Good f o := by
  unfold goodB
  rw [Bool.and_eq_true, decide_eq_true_eq, sumF_tot]
  constructor
  · rintro ⟨h1, h2⟩
    simp only [fineF, Nat.reduceAdd, Nat.add_zero, Bool.and_eq_true, decide_eq_true_eq] at h1
    refine ⟨fun j hj => ?_, h2⟩
    have : j = 0 ∨ j = 1 ∨ j = 2 ∨ j = 3 ∨ j = 4 ∨ j = 5 ∨ j = 6 ∨ j = 7 ∨ j = 8 ∨ j = 9 ∨ j = 10 ∨ j = 11 ∨ j = 12 ∨ j = 13 ∨ j = 14 ∨ j = 15 ∨ j = 16 ∨ j = 17 ∨ j = 18 ∨ j = 19 ∨ j = 20 ∨ j = 21 ∨ j = 22 ∨ j = 23 ∨ j = 24 := by omega
    rcases this with rfl | rfl | rfl | rfl | rfl | rfl | rfl | rfl | rfl | rfl | rfl | rfl | rfl | rfl | rfl | rfl | rfl | rfl | rfl | rfl | rfl | rfl | rfl | rfl | rfl <;> (try simp only [Nat.add_zero]) <;> simp only [h1]
  · intro h
    refine ⟨?_, h.2⟩
    have := h.1
    simp only [fineF, Nat.reduceAdd, Bool.and_eq_true, decide_eq_true_eq]
    exact ⟨⟨⟨⟨⟨⟨⟨⟨⟨⟨⟨⟨⟨⟨⟨⟨⟨⟨⟨⟨⟨⟨⟨⟨h.1 24 (by decide), h.1 0 (by decide)⟩, h.1 8 (by decide)⟩, h.1 16 (by decide)⟩, h.1 1 (by decide)⟩, h.1 9 (by decide)⟩, h.1 17 (by decide)⟩, h.1 2 (by decide)⟩, h.1 10 (by decide)⟩, h.1 18 (by decide)⟩, h.1 3 (by decide)⟩, h.1 11 (by decide)⟩, h.1 19 (by decide)⟩, h.1 4 (by decide)⟩, h.1 12 (by decide)⟩, h.1 20 (by decide)⟩, h.1 5 (by decide)⟩, h.1 13 (by decide)⟩, h.1 21 (by decide)⟩, h.1 6 (by decide)⟩, h.1 14 (by decide)⟩, h.1 22 (by decide)⟩, h.1 7 (by decide)⟩, h.1 15 (by decide)⟩, h.1 23 (by decide)⟩
/-- the numbers of the stock from o on are such as there can be -/
def Rng1 (f : Nat → Int) (o : Nat) : Prop := (∀ j, j < 24 → -32768 ≤ f (o + j) ∧ f (o + j) ≤ 32767) ∧ -2147483648 ≤ f (o + 24) ∧ f (o + 24) ≤ 2147483647
theorem Rng.one {f : Nat → Int} {n q : Nat} (h : Rng f n) (hq : q < n) : Rng1 f (25 * q) :=
  ⟨fun j hj => (h (25 * q + j) (by omega)).1 (kd_num hj), (h (25 * q + 24) (by omega)).2 (kd_rag q)⟩
theorem sumF_range {f : Nat → Int} {o : Nat} (h : Rng1 f o) : ∀ n : Nat, n ≤ 8 → -2147483648 - 98304 * (n : Int) ≤ sumF f o n ∧ sumF f o n ≤ 2147483647 + 98304 * (n : Int)
  | 0, _ => by have := h.2; simp only [sumF]; omega
  | n + 1, hn => by
    have := sumF_range h n (by omega)
    have := h.1 n (by omega)
    have := h.1 (8 + n) (by omega)
    have := h.1 (16 + n) (by omega)
    simp only [sumF]
    omega
theorem rng_stkR {f : Nat → Int} {o : Nat} (h : Rng1 f o) : stkR (kOf f o) (f (o + 24)) := by
  refine ⟨fun j => ?_, h.2⟩
  rcases Nat.lt_or_ge j 24 with hj | hj
  · rw [kOf_get f o hj]; exact h.1 j hj
  · rw [List.getD_eq_getElem?_getD, List.getElem?_eq_none (by rw [kOf_len]; exact hj)]; simp
theorem sumP_sumF (f : Nat → Int) (o : Nat) : ∀ n, n ≤ 8 → sumP (kOf f o) (f (o + 24)) n = sumF f o n
  | 0, _ => rfl
  | n + 1, hn => by
    simp only [sumP, sumF]
    rw [sumP_sumF f o n (by omega), kOf_get f o (by omega), kOf_get f o (by omega), kOf_get f o (by omega)]
theorem fineP_fineF (f : Nat → Int) (o : Nat) : ∀ n, n ≤ 8 → fineP (kOf f o) (f (o + 24)) n = fineF f o n
  | 0, _ => rfl
  | n + 1, hn => by
    simp only [fineP, fineF]
    rw [fineP_fineF f o n (by omega), kOf_get f o (by omega), kOf_get f o (by omega), kOf_get f o (by omega)]
theorem stkOk_goodB (f : Nat → Int) (o : Nat) : stkOk (kOf f o) (f (o + 24)) = goodB f o := by
  unfold stkOk goodB
  rw [fineP_fineF f o 8 (by omega), sumP_sumF f o 8 (by omega)]
/-- all of the first n stocks are good -/
def goodsB (f : Nat → Int) (n : Nat) : Bool := (List.range n).all fun q => goodB f (25 * q)
theorem goodsB_iff (f : Nat → Int) (n : Nat) : goodsB f n = true ↔ Fine f n := by
  unfold goodsB Fine
  rw [List.all_eq_true]
  constructor
  · intro h q hq; exact (goodB_iff _ _).1 (h q (List.mem_range.2 hq))
  · intro h q hq; exact (goodB_iff _ _).2 (h q (List.mem_range.1 hq))
/-- a house that there can be -/
def houseB (f : Nat → Int) (n : Nat) (tub every today : Int) : Bool := goodsB f n && (decide (1 ≤ n ∧ n ≤ 4) && decide (0 ≤ tub ∧ tub ≤ 1000) && decide (1 ≤ every ∧ every ≤ 7) && decide (0 ≤ today ∧ today ≤ 60))
/-- the first k are good -/
theorem goodsB_succ (f : Nat → Int) (k : Nat) : goodsB f (k + 1) = (goodsB f k && goodB f (25 * k)) := by
  unfold goodsB; rw [List.range_succ, List.all_append]; simp
theorem goodsB_false {f : Nat → Int} {k n : Nat} (h : goodB f (25 * k) = false) (hk : k < n) : goodsB f n = false := by
  rw [Bool.eq_false_iff]
  intro h2
  have := (goodsB_iff f n).1 h2 k hk
  rw [(goodB_iff _ _).2 this] at h; cases h

theorem Arg.alloc {w : World} {n : Nat} {f : Nat → Int} {A : Option Addr} (h : Arg w n f A) (o : Obj) : Arg (w.alloc o) n f A := h.below (below_alloc (Below.refl _ _) o)
theorem Arg.drew {w : World} {n : Nat} {f : Nat → Int} {A : Option Addr} (h : Arg w n f A) : Arg w.drew n f A := h
theorem Arg.drewN {w : World} {n : Nat} {f : Nat → Int} {A : Option Addr} (h : Arg w n f A) (k : Nat) : Arg (w.drewN k) n f A := h
theorem Arg.of_rw {w : World} {g n : Nat} {f : Nat → Int} (h : Rw w g n f) : Arg w n f (some ⟨g, 0, none⟩) := fun _ => ⟨g, 0, rfl, fun i hi => by rw [Nat.zero_add]; exact h.cell hi⟩
theorem Arg.nil {w : World} {f : Nat → Int} {A : Option Addr} : Arg w 0 f A := fun h => absurd h (by omega)

/-- all cells of n stocks -/
def flat (f : Nat → Int) (n : Nat) : List Value := (List.range (n * 25)).map fun i => .int (kd i) (f i)
theorem flat_len (f : Nat → Int) (n : Nat) : (flat f n).length = n * 25 := by simp [flat]
theorem flat_get (f : Nat → Int) {n i : Nat} (h : i < n * 25) : (flat f n)[i]? = some (.int (kd i) (f i)) := by simp [flat, List.getElem?_range h]
theorem flat_one (f : Nat → Int) (n : Nat) : ∀ u ∈ flat f n, u.oneCell' = true := by
  intro u hu
  simp only [flat, List.mem_map] at hu
  obtain ⟨i, _, rfl⟩ := hu
  rfl
theorem Rw.flat {w : World} {g n : Nat} {f : Nat → Int} (h : Rw w g n f) : ∀ j u, (flat f n)[j]? = some u → w.cell? ((⟨g, 0, none⟩ : Addr).add j) = some u := fun j u hu => by
  have hj : j < n * 25 := by have := (List.getElem?_eq_some_iff.1 hu).1; rwa [flat_len] at this
  have ha : (⟨g, 0, none⟩ : Addr).add j = ⟨g, j, none⟩ := by unfold Addr.add; split <;> simp_all
  rw [ha, h.cell (by omega), ← flat_get f hj]; exact hu
theorem Rw.of_owns {w : World} {base e g n cap : Nat} {f : Nat → Int} (h : w.ownsRow base e 25 (.slice (some ⟨g, 0, none⟩) n cap) n (X.flat f n)) : Rw w g n f ∧ base ≤ g ∧ n ≤ cap := by
  obtain ⟨_, h | ⟨g', cap', cur, hv, hb, hh, hn, _, hs, ht⟩⟩ := h
  · exact absurd h.1 (by simp)
  · injection hv with h1 h2 h3
    injection h1 with h1
    injection h1 with h1
    subst h1 h3
    refine ⟨⟨cur, e, hh, by rw [hs]; have := Nat.mul_le_mul_right 25 hn; omega, fun i hi => ?_⟩, hb, hn⟩
    have := flat_get f (n := n) (i := i) (by omega)
    rw [← ht, List.getElem?_take_of_lt (by omega)] at this
    simpa using this

theorem cells_put (F f : Nat → Int) : cellsAt (put25 F 0 f 0) 0 = cellsAt f 0 := cellsAt_congr fun j hj => put25_same F 0 f (0 + j) (by omega) (by omega)

theorem houseB_of {f : Nat → Int} {n : Nat} {tub every today : Int} (h : houseB f n tub every today = true) : Fine f n ∧ (0 < n ∧ n ≤ 4) ∧ (0 ≤ tub ∧ tub ≤ 1000) ∧ (1 ≤ every ∧ every ≤ 7) ∧ (0 ≤ today ∧ today ≤ 60) := by
  unfold houseB at h
  simp only [Bool.and_eq_true, decide_eq_true_eq] at h
  exact ⟨(goodsB_iff f n).1 h.1, ⟨by omega, by omega⟩, h.2.1.1.2, h.2.1.2, h.2.2⟩
end Go.Proofs.YtddlhjhnnmkgaaaDoor.X
