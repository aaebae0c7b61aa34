/- Contracts of functions, and plain facts: what each call answers, and what it leaves as it was. -/
import Derived.Test.YtkjligoamechkaaX7
import Derived.Test.YtkjligoamechkaaX12
import Derived.Test.YtkjligoamechkaaX13
import Derived.Test.YtkjligoamechkaaX14
import Derived.Test.YtkjligoamechkaaFD2
set_option linter.unusedVariables false
set_option linter.unusedSimpArgs false
namespace Go.Proofs.Ytkjligoamechkaa.X
open Go.RowKit Go.Proofs.YtkjligoamechkaaW.PrintWords Go.Proofs.YtkjligoamechkaaW.PrintLast Go.Proofs.YtkjligoamechkaaW.PrintMore
attribute [local go_sem] max2_int min2_int max_two min_two max_three min_three max_four min_four
/-- where v lies first, from place j on; -1 where it does not -/
def ixR (v : Int) : List Int → Nat → Int
  | [], _ => -1
  | x :: xs, j => if x = v then (j : Int) else ixR v xs (j + 1)
def whereR (v : Int) : List (List Int) → Nat → Int × Int
  | [], _ => (-1, 0)
  | p :: ps, i => if 0 ≤ ixR v p 0 then ((i : Int), ixR v p 0) else whereR v ps (i + 1)
theorem index_loop (v : Int) (l : List Int) (hl : l.length ≤ 4611686018427387903) : ∀ (d k j : Nat), j + d = l.length → d < k → slices_Index_int64_int64.l0 k l v (l.length : Int) j = some (ixR v (l.drop j) j) := by
  intro d
  induction d with
  | zero =>
    intro k j hj hk
    obtain ⟨k, rfl⟩ : ∃ m, k = m + 1 := ⟨k - 1, by omega⟩
    simp only [slices_Index_int64_int64.l0]
    rw [if_neg (by omega), List.drop_eq_nil_of_le (by omega)]
    rfl
  | succ d ih =>
    intro k j hj hk
    obtain ⟨k, rfl⟩ : ∃ m, k = m + 1 := ⟨k - 1, by omega⟩
    simp only [slices_Index_int64_int64.l0]
    rw [if_pos (by omega), if_pos (by omega), if_pos (by omega), rd_eq (by omega), w64s (by omega), List.drop_eq_getElem_cons (by omega), ih k (j + 1) (by omega) (by omega)]
    simp only [ixR]
    by_cases h : l[j] = v
    · rw [if_pos h, if_pos h.symm]
    · rw [if_neg h, if_neg (fun e => h e.symm)]
theorem index_f (v : Int) {l : List Int} (hl : l.length ≤ 4611686018427387903) {k : Nat} (hk : l.length < k) : slices_Index_int64_int64.f k l v = some (ixR v l 0) := by
  unfold slices_Index_int64_int64.f
  have := index_loop v l hl l.length k 0 (by omega) hk
  simpa using this
theorem specWhere_loop (v : Int) (l : List (List Int)) (hl : l.length ≤ 1048576) (hf : l.flatten.length ≤ 1048576) : ∀ n : Nat,
    (∀ k i, i ≤ l.length → (l.drop i).flatten.length + 2 * (l.length - i) ≤ n → n < k → spec_l04Where.l0 k l v i = some (whereR v (l.drop i) i)) ∧
    (∀ k i j, ∀ hi : i < l.length, j ≤ l[i].length → (l[i].length - j) + (l.drop (i + 1)).flatten.length + 2 * (l.length - (i + 1)) + 1 ≤ n → n < k → spec_l04Where.l1 k l v i j = some (if 0 ≤ ixR v (l[i].drop j) j then ((i : Int), ixR v (l[i].drop j) j) else whereR v (l.drop (i + 1)) (i + 1))) := by
  intro n
  induction n using Nat.strongRecOn with
  | ind n ih =>
    constructor
    · intro k i hi hm hk
      obtain ⟨k, rfl⟩ : ∃ m, k = m + 1 := ⟨k - 1, by omega⟩
      rw [spec_l04Where.l0]
      by_cases hlt : i < l.length
      · have hd : l.drop i = l[i] :: l.drop (i + 1) := List.drop_eq_getElem_cons hlt
        rw [hd, List.flatten_cons, List.length_append] at hm
        have h := (ih (n - 1) (by omega)).2 k i 0 hlt (by omega) (by omega) (by omega)
        rw [show ((0 : Nat) : Int) = 0 from rfl, List.drop_zero] at h
        rw [if_pos (by omega), h, hd]
        rfl
      · rw [if_neg (by omega), List.drop_eq_nil_of_le (by omega)]
        rfl
    · intro k i j hi hj hm hk
      obtain ⟨k, rfl⟩ : ∃ m, k = m + 1 := ⟨k - 1, by omega⟩
      have hp := row_le (List.getElem_mem (l := l) (n := i) hi)
      rw [spec_l04Where.l1, if_pos (by omega), if_pos (by omega), rd_L1_eq hi]
      by_cases hlt : j < l[i].length
      · have hd : l[i].drop j = l[i][j] :: l[i].drop (j + 1) := List.drop_eq_getElem_cons hlt
        have hix : ixR v (l[i].drop j) j = if l[i][j] = v then (j : Int) else ixR v (l[i].drop (j + 1)) (j + 1) := by rw [hd]; rfl
        rw [if_pos (by omega), if_pos (by omega), rd_eq hlt]
        by_cases hv : l[i][j] = v
        · rw [if_pos hv] at hix
          simp only [hix]
          rw [if_pos hv, if_pos (show (0 : Int) ≤ (j : Int) by omega)]
        · rw [if_neg hv] at hix
          simp only [hix]
          rw [if_neg hv, w64s (by omega)]
          exact (ih (n - 1) (by omega)).2 k i (j + 1) hi (by omega) (by omega) (by omega)
      · obtain rfl : j = l[i].length := by omega
        rw [if_neg (by omega), w64s (by omega), (ih (n - 1) (by omega)).1 k (i + 1) (by omega) (by omega) (by omega), List.drop_length]
        simp [ixR]
theorem specWhere_f (v : Int) {l : List (List Int)} (hl : l.length ≤ 1048576) (hf : l.flatten.length ≤ 1048576) {k : Nat} (hk : 3145728 < k) : spec_l04Where.f k l v = some (whereR v l 0) := by
  unfold spec_l04Where.f
  have := (specWhere_loop v l hl hf (l.flatten.length + 2 * l.length)).1 k 0 (by omega) (by simp) (by omega)
  simpa using this
theorem ixR_neg (v : Int) : ∀ (l : List Int) (j : Nat), ixR v l j = -1 ∨ 0 ≤ ixR v l j
  | [], _ => .inl rfl
  | x :: xs, j => by
    unfold ixR
    split
    · exact .inr (by omega)
    · exact ixR_neg v xs (j + 1)
def foundR (w : Int × Int) : Int × Int × Int := if w.1 < 0 then (0, 0, 6) else (w.1, w.2, 0)
theorem implFind_loop (v : Int) (l : List (List Int)) (hl : l.length ≤ 1048576) (hf : l.flatten.length ≤ 1048576) : ∀ (d k i : Nat), i + d = l.length → d + 1048577 < k → impl_FindSheet.l0 k v l (l.length : Int) i = some (foundR (whereR v (l.drop i) i)) := by
  intro d
  induction d with
  | zero =>
    intro k i hi hk
    obtain ⟨k, rfl⟩ : ∃ m, k = m + 1 := ⟨k - 1, by omega⟩
    simp only [impl_FindSheet.l0]
    rw [if_neg (by omega), List.drop_eq_nil_of_le (by omega)]
    rfl
  | succ d ih =>
    intro k i hi hk
    obtain ⟨k, rfl⟩ : ∃ m, k = m + 1 := ⟨k - 1, by omega⟩
    have hp := row_le (List.getElem_mem (l := l) (n := i) (by omega))
    simp only [impl_FindSheet.l0]
    rw [if_pos (by omega), if_pos (by omega), if_pos (by omega), rd_L1_eq (by omega), index_f v (by omega) (by omega), Option.bind_some, List.drop_eq_getElem_cons (by omega)]
    simp only [whereR]
    by_cases h : 0 ≤ ixR v l[i] 0
    · rw [if_pos h, if_pos h]
      simp only [foundR]
      rw [if_neg (by omega)]
    · rw [if_neg h, if_neg h, w64s (by omega)]
      exact ih k (i + 1) (by omega) (by omega)
def findR (l : List (List Int)) (v : Int) : Int × Int × Int := if good0 l 0 = true then foundR (whereR v l 0) else (0, 0, 1)
theorem implFind_f (v : Int) {l : List (List Int)} (hl : l.length ≤ 1048576) (hf : l.flatten.length ≤ 1048576) {k : Nat} (hk : 2097154 < k) : impl_FindSheet.f k l v = some (findR l v) := by
  unfold impl_FindSheet.f findR
  rw [implCup_f hf, Option.bind_some]
  split
  · have := implFind_loop v l hl hf l.length k 0 (by omega) (by omega)
    simpa using this
  · rfl
theorem specFind_f (v : Int) {l : List (List Int)} (hl : l.length ≤ 1048576) (hf : l.flatten.length ≤ 1048576) {k : Nat} (hk : 5242885 < k) : spec_FindSheet.f k l v = some (findR l v) := by
  unfold spec_FindSheet.f findR foundR
  rw [specCup_f hl hf (by omega), Option.bind_some]
  split
  · rw [specWhere_f v hl hf (by omega), Option.bind_some]
    split <;> rfl
  · rfl
end Go.Proofs.Ytkjligoamechkaa.X
