/- Contracts of functions, and plain facts: what each call answers, and what it leaves as it was. -/
import Derived.Test.YtjmnbikaijphlaaHDay
import Derived.Test.YtjmnbikaijphlaaX6
set_option linter.unusedVariables false
set_option linter.unusedSimpArgs false
namespace Go.Proofs.Ytjmnbikaijphlaa.X
open Go.RowKit Go.Proofs.YtjmnbikaijphlaaW.PrintWords Go.Proofs.YtjmnbikaijphlaaW.PrintLast Go.Proofs.YtjmnbikaijphlaaW.PrintMore
attribute [local go_sem] max2_int min2_int max_two min_two max_three min_three max_four min_four
theorem w64s {i : Nat} (h : i < 4611686018427387904) : wrap64 ((i : Int) + 1) = ((i + 1 : Nat) : Int) := by unfold wrap64; omega
theorem rd_eq {l : List Int} {i : Nat} (h : i < l.length) : rd l (i : Int) = l[i] := by simp [rd, List.getElem?_eq_getElem h]

theorem eqInt64S_loop (a b : List Int) (hl : a.length = b.length) (hn : a.length ≤ 4611686018427387903) : ∀ (d k i : Nat), i + d = a.length → d < k → laws_eqInt64S.l0 k a b i = some (decide (a.drop i = b.drop i)) := by
  intro d
  induction d with
  | zero =>
    intro k i hi hk
    obtain ⟨k, rfl⟩ : ∃ m, k = m + 1 := ⟨k - 1, by omega⟩
    simp only [laws_eqInt64S.l0]
    rw [if_neg (by omega), List.drop_eq_nil_of_le (by omega), List.drop_eq_nil_of_le (by omega)]
    rfl
  | succ d ih =>
    intro k i hi hk
    obtain ⟨k, rfl⟩ : ∃ m, k = m + 1 := ⟨k - 1, by omega⟩
    simp only [laws_eqInt64S.l0]
    rw [if_pos (by omega), if_pos (by omega), if_pos (by omega), rd_eq (by omega), rd_eq (by omega), w64s (by omega)]
    have ha : a.drop i = a[i] :: a.drop (i + 1) := List.drop_eq_getElem_cons (by omega)
    have hb : b.drop i = b[i] :: b.drop (i + 1) := List.drop_eq_getElem_cons (by omega)
    rw [ha, hb]
    split
    · rename_i h
      rw [ih k (i + 1) (by omega) (by omega)]
      simp only [List.cons.injEq, h, true_and]
    · rename_i h
      simp only [List.cons.injEq, h, false_and, decide_false]
theorem eqInt64S_f {l : List Int} (hl : l.length ≤ 4294967296) {k : Nat} (hk : l.length < k) : laws_eqInt64S.f k l l = some true := by
  unfold laws_eqInt64S.f
  rw [if_pos rfl]
  have := eqInt64S_loop l l rfl (by omega) l.length k 0 (by omega) hk
  simpa using this
def seqL (a : Int) (n : Nat) : List Int := (List.range n).map fun j : Nat => a + (j : Int)
theorem seqL_length (a : Int) (n : Nat) : (seqL a n).length = n := by simp [seqL]
theorem markS_loop (a : Int) (n : Nat) (h0 : 0 ≤ a) (h1 : a ≤ 4294967296) (hn : n ≤ 4294967296) : ∀ (d k i : Nat) (x : List Int), i + d = n → d < k → x.length = n → x.take i = seqL a i → laws_markInt64S.l0 k x (a + i) i = some (a + n, seqL a n) := by
  intro d
  induction d with
  | zero =>
    intro k i x hi hk hx ht
    obtain ⟨k, rfl⟩ : ∃ m, k = m + 1 := ⟨k - 1, by omega⟩
    obtain rfl : i = n := by omega
    rw [List.take_of_length_le (by omega)] at ht
    simp only [laws_markInt64S.l0]
    rw [if_neg (by omega), ht]
  | succ d ih =>
    intro k i x hi hk hx ht
    obtain ⟨k, rfl⟩ : ∃ m, k = m + 1 := ⟨k - 1, by omega⟩
    simp only [laws_markInt64S.l0]
    have e1 : wrap64 (a + (i : Int) + 1) = a + ((i + 1 : Nat) : Int) := by unfold wrap64; omega
    have e2 : wrap64 ((i : Int) + 1) = ((i + 1 : Nat) : Int) := by unfold wrap64; omega
    rw [if_pos (by omega), if_pos (by omega), e1, e2, Int.toNat_natCast]
    refine ih k (i + 1) _ (by omega) (by omega) (by simp [hx]) ?_
    have e3 : seqL a (i + 1) = seqL a i ++ [a + (i : Int)] := by simp [seqL, List.range_succ]
    rw [e3, ← ht, List.take_add_one, List.getElem?_set_self (by omega), List.take_set_of_le (by omega)]
    rfl
theorem markS_f (a : Int) (p : List Int) (h0 : 0 ≤ a) (h1 : a ≤ 4294967296) (hn : p.length ≤ 4294967296) {k : Nat} (hk : p.length < k) : laws_markInt64S.f k p a = some (a + p.length, seqL a p.length) := by
  unfold laws_markInt64S.f
  have := markS_loop a p.length h0 h1 hn p.length k 0 p (by omega) hk rfl (by simp [seqL])
  simpa using this
theorem seqL_rd {a : Int} {n i : Nat} (h : i < n) : rd (seqL a n) (i : Int) = a + (i : Int) := by simp [rd, seqL, h]
theorem heldS_loop (a : Int) (n : Nat) (h0 : 0 ≤ a) (h1 : a ≤ 4294967296) (hn : n ≤ 4294967296) : ∀ (d k i : Nat), i + d = n → d < k → laws_heldInt64S.l0 k (seqL a n) (a + i) i = some (a + n) := by
  intro d
  induction d with
  | zero =>
    intro k i hi hk
    obtain ⟨k, rfl⟩ : ∃ m, k = m + 1 := ⟨k - 1, by omega⟩
    have hlen := seqL_length a n
    simp only [laws_heldInt64S.l0]
    rw [if_neg (by omega)]
    congr 2
    omega
  | succ d ih =>
    intro k i hi hk
    obtain ⟨k, rfl⟩ : ∃ m, k = m + 1 := ⟨k - 1, by omega⟩
    have hlen := seqL_length a n
    have e1 : wrap64 (a + (i : Int) + 1) = a + ((i + 1 : Nat) : Int) := by unfold wrap64; omega
    simp only [laws_heldInt64S.l0]
    rw [if_pos (by omega), if_pos (by omega), seqL_rd (by omega), if_pos rfl, e1, w64s (by omega)]
    exact ih k (i + 1) (by omega) (by omega)
theorem heldS_f (a : Int) (n : Nat) (h0 : 0 ≤ a) (h1 : a ≤ 4294967296) (hn : n ≤ 4294967296) {k : Nat} (hk : n < k) : laws_heldInt64S.f k (seqL a n) a = some (a + n) := by
  unfold laws_heldInt64S.f
  have := heldS_loop a n h0 h1 hn n k 0 (by omega) hk
  simpa using this
/-- the wet behind each of the first n hours from h on -/
theorem toInt64S_loop (l : List Int) (hl : l.length ≤ 4294967296) : ∀ (d k i : Nat) (x : List Int), i + d = l.length → d < k → x.length = l.length → x.take i = l.take i → laws_toInt64S.l0 k l x i = some l := by
  intro d
  induction d with
  | zero =>
    intro k i x hi hk hx ht
    obtain ⟨k, rfl⟩ : ∃ m, k = m + 1 := ⟨k - 1, by omega⟩
    have : x = l := by rw [List.take_of_length_le (by omega), List.take_of_length_le (by omega)] at ht; exact ht
    subst this
    simp only [laws_toInt64S.l0]
    rw [if_neg (by omega)]
  | succ d ih =>
    intro k i x hi hk hx ht
    obtain ⟨k, rfl⟩ : ∃ m, k = m + 1 := ⟨k - 1, by omega⟩
    simp only [laws_toInt64S.l0]
    rw [if_pos (by omega), if_pos (by omega), if_pos (by omega), w64s (by omega), Int.toNat_natCast]
    refine ih k (i + 1) _ (by omega) (by omega) (by simp [hx]) ?_
    rw [rd_eq (by omega)]
    apply List.ext_getElem?
    intro j
    have h0 : i < x.length := by omega
    have hj := congrArg (fun z => z[j]?) ht
    simp only [List.getElem?_take] at hj ⊢
    by_cases h1 : j < i
    · rw [if_pos h1, if_pos h1] at hj
      rw [if_pos (by omega), if_pos (by omega), List.getElem?_set_ne (by omega), hj]
    · by_cases h2 : j = i
      · subst h2
        rw [if_pos (by omega), if_pos (by omega), List.getElem?_set_self h0, List.getElem?_eq_getElem (by omega)]
      · rw [if_neg (by omega), if_neg (by omega)]
theorem toInt64S_f {l : List Int} (hl : l.length ≤ 4294967296) {k : Nat} (hk : l.length < k) : laws_toInt64S.f k l = some l := by
  unfold laws_toInt64S.f
  rw [if_pos (by omega), if_pos (by omega)]
  exact toInt64S_loop l hl l.length k 0 _ (by omega) hk (by simp) (by simp)
/-- a row of int64 of the law's own -/
def Ir (w : World) (base : Nat) (v : Value) (l : List Int) : Prop := w.ownsRow base 2 1 v l.length (nums .i64 l)
section
variable {w w1 : World} {base base' : Nat} {v : Value} {l : List Int} {S : Nat → Prop}
theorem Ir.lower (h : Ir w base v l) (hb : base' ≤ base) : Ir w base' v l := own_weaken h hb
theorem Ir.below (h : Ir w base v l) (hb : Below w.heap.size w w1) : Ir w1 base v l := pw_own_below h hb
theorem Ir.alloc (h : Ir w base v l) (o : Obj) : Ir (w.alloc o) base v l := h.below (below_alloc (Below.refl _ _) o)
theorem Ir.drew (h : Ir w base v l) : Ir w.drew base v l := h
theorem Ir.drewN (h : Ir w base v l) (k : Nat) : Ir (w.drewN k) base v l := h
theorem Ir.grown (h : Ir w base v l) {row : Option Nat} (hg : w.grownBy w1 row) (hne : v.ownBlock = none ∨ v.ownBlock ≠ row) : Ir w1 base v l := own_other h hg hne
theorem Ir.kept (h : Ir w base v l) (hk : Kept w w1 S) (hn : ∀ k, v.ownBlock = some k → ¬ S k) : Ir w1 base v l := own_move h (fun k hv => hk.2 k (own_lt h k hv) (hn k hv))
theorem Ir.row (h : Ir w base v l) : (Kd.int .i64).R 2 w base (fun k => v.ownBlock = some k) v l := Kd.R_of_own h (fun _ h => h)
theorem Ir.of_row {ok : Nat → Prop} (h : (Kd.int .i64).R 2 w base ok v l) : Ir w base v l := Kd.own_of_R h
theorem Ir.ne (h : Ir w base v l) {g : Nat} (hg : g < base) : v.ownBlock ≠ some g := fun he => by have := own_base h g he; omega
end
theorem toI_calls (A : Option Addr) (c : Nat) (l : List Int) (hl : l.length ≤ 1048576) (hc : l.length ≤ c) (W : World) (hC : (Kd.int .i64).C W A l.length l) :
    Calls Try.prog 30 #[.slice A l.length c] W fun e w' => ∃ v : Value, e = .returned v ∧ Ir w' W.heap.size v l ∧ Below W.heap.size W w' :=
  (laws_toInt64S.calls (l.length + 1) A c l l W hC hc (toInt64S_f (by omega) (by omega))).mono (by
    rintro e w' ⟨v, rfl, hR, hb⟩
    exact ⟨v, rfl, Ir.of_row hR, hb⟩)
theorem eqI_calls (v v' : Value) (l : List Int) (b b' : Nat) (hl : l.length ≤ 1048576) (W : World) (h : Ir W b v l) (h' : Ir W b' v' l) :
    Calls Try.prog 32 #[v, v'] W fun e w' => e = .returned (.bool true) ∧ Below W.heap.size W w' := by
  obtain ⟨A, c, rfl, hc, hC⟩ := Kd.R_reads h.row
  obtain ⟨A', c', rfl, hc', hC'⟩ := Kd.R_reads h'.row
  exact (laws_eqInt64S.calls (l.length + 1) A c l A' c' l true W hC hc hC' hc' (eqInt64S_f (by omega) (by omega))).mono (by
    rintro e w' ⟨rfl, hd⟩
    exact ⟨rfl, hd.below⟩)
theorem heldI_calls (v : Value) (a : Int) (n b : Nat) (h0 : 0 ≤ a) (h1 : a ≤ 4294967296) (hn : n ≤ 1048576) (W : World) (h : Ir W b v (seqL a n)) :
    Calls Try.prog 54 #[v, .int .i64 a] W fun e w' => e = .returned (.int .i64 (a + n)) ∧ Below W.heap.size W w' := by
  obtain ⟨A, c, rfl, hc, hC⟩ := Kd.R_reads h.row
  exact (laws_heldInt64S.calls (n + 1) A c (seqL a n) a (a + n) W hC hc (heldS_f a n h0 h1 (by omega) (by omega))).mono (by
    rintro e w' ⟨rfl, hd⟩
    exact ⟨rfl, hd.below⟩)
theorem markI_calls (v : Value) (l : List Int) (a : Int) (h0 : 0 ≤ a) (h1 : a ≤ 4294967296) (hl : l.length ≤ 1048576) (w0 W : World) (hB : Below w0.heap.size w0 W) (h : Ir W w0.heap.size v l) :
    Calls Try.prog 33 #[v, .int .i64 a] W fun e w' => e = .returned (.int .i64 (a + l.length)) ∧ Ir w' w0.heap.size v (seqL a l.length) ∧ Below w0.heap.size w0 w' ∧ Kept W w' (fun k => v.ownBlock = some k) :=
  (laws_markInt64S.calls (l.length + 1) (fun k => v.ownBlock = some k) v l a (a + l.length) (seqL a l.length) w0 W hB h.row (markS_f a l h0 h1 (by omega) (by omega))).mono (by
    rintro e w' ⟨rfl, hR, hb, hk⟩
    exact ⟨rfl, Ir.of_row hR, hb, hk⟩)
/-- a row that was made is one that is read -/
theorem Ir.nda {w : World} {base n c : Nat} {A : Option Addr} {l : List Int} (h : Ir w base (.slice A n c) l) : NdA w A l.length (fun k => l.getD k 0) := fun hp => by
  obtain ⟨g, cap, hv, _, hlt, _⟩ := Kd.R_form h.row hp
  injection hv with hA hn hc
  subst hA hn hc
  refine ⟨g, rfl, hlt, fun k hk => ?_⟩
  have := (own_at h (k : Int) (by omega) (by omega)).1
  simpa [rd, List.getD_eq_getElem?_getD] using this
theorem Blk.keptK {w w1 : World} {g t : Nat} {cs : List Value} {S : Nat → Prop} (h : Blk w g t cs) (hk : Kept w w1 S) (hn : ¬ S g) : Blk w1 g t cs := (hk.2 g h.lt hn).trans h
theorem toI2_calls (A : Option Addr) (c : Nat) (l : List Int) (hl : l.length ≤ 1048576) (hc : l.length ≤ c) (W : World) (hC : (Kd.int .i64).C W A l.length l) :
    Calls Try.prog 30 #[.slice A l.length c] W fun e w' => ∃ (A' : Option Addr) (c' : Nat), e = .returned (.slice A' l.length c') ∧ l.length ≤ c' ∧ Ir w' W.heap.size (.slice A' l.length c') l ∧ Below W.heap.size W w' :=
  (toI_calls A c l hl hc W hC).mono (by
    rintro e w' ⟨v, rfl, hI, hb⟩
    obtain ⟨A', c', rfl, hc', hC'⟩ := Kd.R_reads hI.row
    exact ⟨A', c', rfl, hc', hI, hb⟩)
end Go.Proofs.Ytjmnbikaijphlaa.X
