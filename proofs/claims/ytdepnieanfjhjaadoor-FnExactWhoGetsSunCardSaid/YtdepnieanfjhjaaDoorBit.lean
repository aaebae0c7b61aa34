/- Contracts of functions, and plain facts: what each call answers, and what it leaves as it was. -/
import Derived.Test.YtdepnieanfjhjaaDoorSuf
import Derived.Test.YtdepnieanfjhjaaDoorX7
import Derived.Test.YtdepnieanfjhjaaDoorX9
import Derived.Test.YtdepnieanfjhjaaDoorX10
import Derived.Test.YtdepnieanfjhjaaDoorX14
import Derived.Lib.LaidTab
import Derived.Lib.TrailingZeros
import Derived.Shelf.Spec.TrailingZeros
import Derived.Laws.Bits64b
set_option linter.unusedVariables false
set_option linter.unusedSimpArgs false
namespace Go.Proofs.YtdepnieanfjhjaaDoor.X
open Go.RowKit Go.Proofs.YtdepnieanfjhjaaDoorW.PrintWords Go.Proofs.YtdepnieanfjhjaaDoorW.PrintLast Go.Proofs.YtdepnieanfjhjaaDoorW.PrintMore
attribute [local go_sem] max2_int min2_int max_two min_two max_three min_three max_four min_four
/-- the table that math/bits looks up, as start-up lays it -/
def TabD (w : World) : Prop := Lib.TabIs Tryd.prog w "math/bits.deBruijn64tab" .u8 (Lib.deBruijn64tab.map Int.ofNat)
theorem TabD.below {w w1 : World} (h : TabD w) (hb : Below w.heap.size w w1) : TabD w1 := by
  unfold TabD Lib.TabIs at h ⊢
  have hv := h
  unfold World.var? at h
  cases hg : Tryd.prog.globalNamed "math/bits.deBruijn64tab" with
  | none => rw [hg] at h; cases h
  | some g =>
    refine var?_below hb hg ?_ hv
    rw [hg] at h
    simp only [Option.bind_some] at h
    rcases Nat.lt_or_ge g w.heap.size with h1 | h1
    · exact h1
    · rw [Array.getElem?_eq_none h1] at h
      cases h
theorem TabD.drewN {w : World} (h : TabD w) (n : Nat) : TabD (w.drewN n) := h.below (pw_below_drewN (Below.refl _ _) _)
set_option maxHeartbeats 1000000 in
set_option maxRecDepth 100000 in
theorem tz64_core (x k idx : Nat) (w : World) (hx0 : ((x : Int) == 0) = false) (key : IntKind.u64.wrap (bits BinOp.and IntKind.u64 (x : Int) (IntKind.u64.wrap (-(x : Int))) * 285870213051353865) / 288230376151711744 = (idx : Int))
    (hi : idx < 64) (hk : k < 64) (hcell : w.cell? ⟨1, idx, none⟩ = some (.int .u8 k)) :
    Calls Tryd.prog 52 #[.int .u64 x] w fun e w' => e = .returned (.int .i64 k) ∧ w' = w := by
  go_enter Tryd.func52, Tryd.ntmps52
  go_wp2_with (simp only [key])
  go_ret
  exact ⟨rfl, rfl⟩
theorem ctz_cell (x : Nat) (h0 : x ≠ 0) (hx : x < 18446744073709551616) (w : World) (ht : TabD w) : Calls Tryd.prog 52 #[.int .u64 x] w fun e w' => e = .returned (.int .i64 (Lib.ctz 64 x)) ∧ w' = w := by
  obtain ⟨hlow, hk⟩ := Lib.lowest_bit 64 x h0 hx
  obtain ⟨hi, htab⟩ := Lib.deBruijn64_at _ hk
  have hc := Lib.TabIs.cell ht (g := 1) (by kernel_rfl) _ (by simpa [Lib.deBruijn64tab] using hi)
  rw [show ∀ i, (Lib.deBruijn64tab.map Int.ofNat).getD i 0 = ((Lib.deBruijn64tab.getD i 0 : Nat) : Int) from fun i => by simp [List.getD_eq_getElem?_getD, List.getElem?_map]; cases Lib.deBruijn64tab[i]? <;> rfl, htab] at hc
  exact tz64_core x _ _ w (by simp; omega) (tz64_key x _ hx h0 hlow) hi hk hc
set_option maxHeartbeats 1000000 in
set_option maxRecDepth 100000 in
theorem tz_calls (x : Nat) (h0 : x ≠ 0) (hx : x < 18446744073709551616) (w : World) (ht : TabD w) : Calls Tryd.prog 40 #[.int .u64 x] w fun e w' => e = .returned (.int .i64 (Lib.ctz 64 x)) ∧ w' = w := by
  have HC := Aside0.mk (ctz_cell x h0 hx w ht)
  generalize Lib.ctz 64 x = k at *
  clear h0 hx ht
  go_enter Tryd.func40, Tryd.ntmps40
  go_wp2_with fail
  refine HC.out.mono ?_
  rintro e w' ⟨rfl, rfl⟩
  go_wp2
  go_ret
  exact ⟨rfl, rfl⟩
/-- a set, its j lowest members taken away -/
def clrL (s : Nat) : Nat → Nat
  | 0 => s
  | j + 1 => clrL s j &&& (clrL s j - 1)
theorem clrL_all : ∀ s, s < 64 → ∀ j, j < 7 → clrL s j < 64 ∧ (clrL s j = 0 ↔ (ownL s).length ≤ j) ∧ (j < (ownL s).length → (Lib.ctz 64 (clrL s j) : Int) = (ownL s).getD j 0) := by decide +kernel
theorem w64s {i : Nat} (h : i < 4611686018427387904) : wrap64 ((i : Int) + 1) = ((i + 1 : Nat) : Int) := by unfold wrap64; omega
theorem rd_eq {l : List Int} {i : Nat} (h : i < l.length) : rd l (i : Int) = l[i] := by simp [rd, List.getElem?_eq_getElem h]
/-- rows of numbers compared -/
def cmpL : List Int → List Int → Int
  | [], [] => 0
  | [], _ :: _ => -1
  | _ :: _, [] => 1
  | x :: xs, y :: ys => if x < y then -1 else if y < x then 1 else cmpL xs ys
theorem cmpL_bef : ∀ a b : List Int, cmpL a b < 0 ↔ befL a b = true
  | [], [] => by simp [cmpL, befL]
  | [], _ :: _ => by simp [cmpL, befL]
  | _ :: _, [] => by simp [cmpL, befL]
  | x :: xs, y :: ys => by
    have ih := cmpL_bef xs ys
    unfold cmpL befL
    by_cases h1 : x < y
    · rw [if_pos h1, if_neg (by omega)]; simp [h1]
    · by_cases h2 : y < x
      · rw [if_neg h1, if_pos h2, if_neg (by omega)]; simp [h1]
      · rw [if_neg h1, if_neg h2, if_pos (by omega)]; exact ih
theorem cmp1_f (x y : Int) : cmp_Compare_int64.f x y = some (if x < y then -1 else if y < x then 1 else 0) := by
  unfold cmp_Compare_int64.f cmp_isNaN_int64.f
  simp only [bne_self_eq_false, Option.bind_some, Bool.false_eq_true, if_false]
  by_cases h1 : x < y
  · simp [h1]
  · by_cases h2 : y < x
    · simp [h1, h2]
    · simp [h1, h2]
theorem compare_loop (a b : List Int) (ha : a.length ≤ 4294967296) : ∀ (d k i : Nat), i + d = a.length → i ≤ b.length → d < k → slices_Compare_int64_int64.l0 k a b a (a.length : Int) i = some (cmpL (a.drop i) (b.drop i)) := by
  intro d
  induction d with
  | zero =>
    intro k i hi hb hk
    obtain ⟨k, rfl⟩ : ∃ m, k = m + 1 := ⟨k - 1, by omega⟩
    rw [slices_Compare_int64_int64.l0, if_neg (by omega), List.drop_of_length_le (by omega)]
    by_cases h : a.length < b.length
    · rw [if_pos (by omega), List.drop_eq_getElem_cons (show i < b.length by omega)]
      rfl
    · rw [if_neg (by omega), List.drop_of_length_le (l := b) (by omega)]
      rfl
  | succ d ih =>
    intro k i hi hb hk
    obtain ⟨k, rfl⟩ : ∃ m, k = m + 1 := ⟨k - 1, by omega⟩
    rw [slices_Compare_int64_int64.l0, if_pos (by omega), if_pos (by omega), if_pos (by omega)]
    rw [List.drop_eq_getElem_cons (show i < a.length by omega)]
    by_cases h : b.length ≤ i
    · rw [if_pos (by omega), List.drop_of_length_le h]
      rfl
    · rw [if_neg (by omega), if_pos (by omega), rd_eq (by omega), rd_eq (by omega), cmp1_f, Option.bind_some, w64s (by omega), ih k (i + 1) (by omega) (by omega) (by omega), List.drop_eq_getElem_cons (show i < b.length by omega)]
      generalize a[i] = x
      generalize b[i] = y
      generalize List.drop (i + 1) a = A
      generalize List.drop (i + 1) b = B
      rw [show cmpL (x :: A) (y :: B) = (if x < y then -1 else if y < x then 1 else cmpL A B) from rfl]
      by_cases h1 : x < y
      · simp [h1]
      · by_cases h2 : y < x
        · simp [h1, h2]
        · simp [h1, h2]
theorem compare_f (a b : List Int) (ha : a.length ≤ 4294967296) : slices_Compare_int64_int64.f (a.length + 1) a b = some (cmpL a b) := by
  unfold slices_Compare_int64_int64.f
  simpa using compare_loop a b ha a.length (a.length + 1) 0 (by omega) (by omega) (by omega)
theorem before_loop (a b : List Int) (ha : a.length ≤ 4294967296) (hb : b.length ≤ 4294967296) : ∀ (d k i : Nat), i + d = a.length → i ≤ b.length → 2 * d + 1 < k → spec_l01Before.l0 k a b i = some (befL (a.drop i) (b.drop i)) := by
  intro d
  induction d with
  | zero =>
    intro k i hi hib hk
    obtain ⟨k, rfl⟩ : ∃ m, k = m + 2 := ⟨k - 2, by omega⟩
    rw [spec_l01Before.l0, if_neg (by omega), spec_l01Before.j1, if_neg (by decide), List.drop_of_length_le (by omega)]
    by_cases h : a.length < b.length
    · rw [decide_eq_true (by omega), List.drop_eq_getElem_cons (show i < b.length by omega)]
      rfl
    · rw [decide_eq_false (by omega), List.drop_of_length_le (l := b) (by omega)]
      rfl
  | succ d ih =>
    intro k i hi hib hk
    obtain ⟨k, rfl⟩ : ∃ m, k = m + 2 := ⟨k - 2, by omega⟩
    rw [spec_l01Before.l0, if_pos (by omega), spec_l01Before.j1]
    rw [List.drop_eq_getElem_cons (show i < a.length by omega)]
    by_cases h : b.length ≤ i
    · rw [decide_eq_false (by omega), if_neg (by decide), List.drop_of_length_le h, decide_eq_false (by omega)]
      rfl
    · rw [decide_eq_true (by omega), if_pos rfl, if_pos (by omega), if_pos (by omega), if_pos (by omega), rd_eq (by omega), rd_eq (by omega), w64s (by omega), List.drop_eq_getElem_cons (show i < b.length by omega)]
      generalize a[i] = x
      generalize b[i] = y
      rw [show befL (x :: List.drop (i + 1) a) (y :: List.drop (i + 1) b) = (if x = y then befL (List.drop (i + 1) a) (List.drop (i + 1) b) else decide (x < y)) from rfl]
      by_cases h1 : x = y
      · rw [if_pos h1, if_pos h1, ih k (i + 1) (by omega) (by omega) (by omega)]
      · rw [if_neg h1, if_neg h1]
theorem before_f (a b : List Int) (ha : a.length ≤ 4294967296) (hb : b.length ≤ 4294967296) : spec_l01Before.f (2 * a.length + 2) a b = some (befL a b) := by
  unfold spec_l01Before.f
  simpa using before_loop a b ha hb a.length (2 * a.length + 2) 0 (by omega) (by omega) (by omega)
end Go.Proofs.YtdepnieanfjhjaaDoor.X
