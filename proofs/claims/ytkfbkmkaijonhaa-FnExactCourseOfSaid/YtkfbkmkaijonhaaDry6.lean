/- Plain facts: no program's step in sight. -/
import Derived.Test.YtkfbkmkaijonhaaDry5
import Derived.Test.YtkfbkmkaijonhaaX7
import Derived.Test.YtkfbkmkaijonhaaX8
set_option linter.unusedVariables false
set_option linter.unusedSimpArgs false
namespace Go.Proofs.Ytkfbkmkaijonhaa.X
open Go.RowKit Go.Proofs.YtkfbkmkaijonhaaW.PrintWords Go.Proofs.YtkfbkmkaijonhaaW.PrintLast Go.Proofs.YtkfbkmkaijonhaaW.PrintMore
theorem w64s {i : Nat} (h : i < 4611686018427387904) : wrap64 ((i : Int) + 1) = ((i + 1 : Nat) : Int) := by unfold wrap64; omega
theorem rd_eq {l : List Int} {i : Nat} (h : i < l.length) : rd l (i : Int) = l[i] := by simp [rd, List.getElem?_eq_getElem h]

theorem eqInt64S_loop (a b : List Int) (hl : a.length = b.length) (hn : a.length ≤ 4611686018427387903) : ∀ (d k i : Nat), i + d = a.length → d < k → laws_eqInt64S.l0 k a b i = some (decide (a.drop i = b.drop i)) := by
  intro d
  induction d with
  | zero =>
    intro k i hi hk
    obtain ⟨k, rfl⟩ : ∃ m, k = m + 1 := ⟨k - 1, by omega⟩
    simp only [laws_eqInt64S.l0]
    rw [if_neg (by omega), List.drop_eq_nil_of_le (by omega), List.drop_eq_nil_of_le (by omega)]
    rfl
  | succ d ih =>
    intro k i hi hk
    obtain ⟨k, rfl⟩ : ∃ m, k = m + 1 := ⟨k - 1, by omega⟩
    simp only [laws_eqInt64S.l0]
    rw [if_pos (by omega), if_pos (by omega), if_pos (by omega), rd_eq (by omega), rd_eq (by omega), w64s (by omega)]
    have ha : a.drop i = a[i] :: a.drop (i + 1) := List.drop_eq_getElem_cons (by omega)
    have hb : b.drop i = b[i] :: b.drop (i + 1) := List.drop_eq_getElem_cons (by omega)
    rw [ha, hb]
    split
    · rename_i h
      rw [ih k (i + 1) (by omega) (by omega)]
      simp only [List.cons.injEq, h, true_and]
    · rename_i h
      simp only [List.cons.injEq, h, false_and, decide_false]
theorem eqInt64S_f {l : List Int} (hl : l.length ≤ 4294967296) {k : Nat} (hk : l.length < k) : laws_eqInt64S.f k l l = some true := by
  unfold laws_eqInt64S.f
  rw [if_pos rfl]
  have := eqInt64S_loop l l rfl (by omega) l.length k 0 (by omega) hk
  simpa using this
def seqL (a : Int) (n : Nat) : List Int := (List.range n).map fun j : Nat => a + (j : Int)
theorem seqL_length (a : Int) (n : Nat) : (seqL a n).length = n := by simp [seqL]
theorem markS_loop (a : Int) (n : Nat) (h0 : 0 ≤ a) (h1 : a ≤ 4294967296) (hn : n ≤ 4294967296) : ∀ (d k i : Nat) (x : List Int), i + d = n → d < k → x.length = n → x.take i = seqL a i → laws_markInt64S.l0 k x (a + i) i = some (a + n, seqL a n) := by
  intro d
  induction d with
  | zero =>
    intro k i x hi hk hx ht
    obtain ⟨k, rfl⟩ : ∃ m, k = m + 1 := ⟨k - 1, by omega⟩
    obtain rfl : i = n := by omega
    rw [List.take_of_length_le (by omega)] at ht
    simp only [laws_markInt64S.l0]
    rw [if_neg (by omega), ht]
  | succ d ih =>
    intro k i x hi hk hx ht
    obtain ⟨k, rfl⟩ : ∃ m, k = m + 1 := ⟨k - 1, by omega⟩
    simp only [laws_markInt64S.l0]
    have e1 : wrap64 (a + (i : Int) + 1) = a + ((i + 1 : Nat) : Int) := by unfold wrap64; omega
    have e2 : wrap64 ((i : Int) + 1) = ((i + 1 : Nat) : Int) := by unfold wrap64; omega
    rw [if_pos (by omega), if_pos (by omega), e1, e2, Int.toNat_natCast]
    refine ih k (i + 1) _ (by omega) (by omega) (by simp [hx]) ?_
    have e3 : seqL a (i + 1) = seqL a i ++ [a + (i : Int)] := by simp [seqL, List.range_succ]
    rw [e3, ← ht, List.take_add_one, List.getElem?_set_self (by omega), List.take_set_of_le (by omega)]
    rfl
theorem markS_f (a : Int) (p : List Int) (h0 : 0 ≤ a) (h1 : a ≤ 4294967296) (hn : p.length ≤ 4294967296) {k : Nat} (hk : p.length < k) : laws_markInt64S.f k p a = some (a + p.length, seqL a p.length) := by
  unfold laws_markInt64S.f
  have := markS_loop a p.length h0 h1 hn p.length k 0 p (by omega) hk rfl (by simp [seqL])
  simpa using this
theorem seqL_rd {a : Int} {n i : Nat} (h : i < n) : rd (seqL a n) (i : Int) = a + (i : Int) := by simp [rd, seqL, h]
theorem heldS_loop (a : Int) (n : Nat) (h0 : 0 ≤ a) (h1 : a ≤ 4294967296) (hn : n ≤ 4294967296) : ∀ (d k i : Nat), i + d = n → d < k → laws_heldInt64S.l0 k (seqL a n) (a + i) i = some (a + n) := by
  intro d
  induction d with
  | zero =>
    intro k i hi hk
    obtain ⟨k, rfl⟩ : ∃ m, k = m + 1 := ⟨k - 1, by omega⟩
    have hlen := seqL_length a n
    simp only [laws_heldInt64S.l0]
    rw [if_neg (by omega)]
    congr 2
    omega
  | succ d ih =>
    intro k i hi hk
    obtain ⟨k, rfl⟩ : ∃ m, k = m + 1 := ⟨k - 1, by omega⟩
    have hlen := seqL_length a n
    have e1 : wrap64 (a + (i : Int) + 1) = a + ((i + 1 : Nat) : Int) := by unfold wrap64; omega
    simp only [laws_heldInt64S.l0]
    rw [if_pos (by omega), if_pos (by omega), seqL_rd (by omega), if_pos rfl, e1, w64s (by omega)]
    exact ih k (i + 1) (by omega) (by omega)
theorem heldS_f (a : Int) (n : Nat) (h0 : 0 ≤ a) (h1 : a ≤ 4294967296) (hn : n ≤ 4294967296) {k : Nat} (hk : n < k) : laws_heldInt64S.f k (seqL a n) a = some (a + n) := by
  unfold laws_heldInt64S.f
  have := heldS_loop a n h0 h1 hn n k 0 (by omega) hk
  simpa using this
/-- the wet behind each of the first n hours from h on -/
def crs (L : List Int) (thick : Int) (shade : Bool) (h : Nat) (wet : Int) (n : Nat) : List Int := (List.range n).map fun j => beh L thick shade h (j + 1) wet
theorem crs_length (L : List Int) (thick : Int) (shade : Bool) (h : Nat) (wet : Int) (n : Nat) : (crs L thick shade h wet n).length = n := by simp [crs]
theorem crs_snoc (L : List Int) (thick : Int) (shade : Bool) (h : Nat) (wet : Int) (n : Nat) : crs L thick shade h wet (n + 1) = crs L thick shade h wet n ++ [beh L thick shade h (n + 1) wet] := by
  simp [crs, List.range_succ]
theorem crs_drop (L : List Int) (thick : Int) (shade : Bool) (h : Nat) (wet : Int) (n : Nat) : (courseF L thick shade h wet n).drop 1 = crs L thick shade h wet n := by
  simp [crs, courseF, List.range_succ_eq_map, Function.comp_def]

end Go.Proofs.Ytkfbkmkaijonhaa.X
