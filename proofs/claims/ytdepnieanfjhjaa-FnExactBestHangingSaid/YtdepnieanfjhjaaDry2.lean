/- Contracts of functions, and plain facts: what each call answers, and what it leaves as it was. -/
import Derived.Test.YtdepnieanfjhjaaDry
import Derived.Test.YtdepnieanfjhjaaX12
set_option linter.unusedVariables false
set_option linter.unusedSimpArgs false
namespace Go.Proofs.Ytdepnieanfjhjaa.X
open Go.RowKit Go.Proofs.YtdepnieanfjhjaaW.PrintWords Go.Proofs.YtdepnieanfjhjaaW.PrintLast Go.Proofs.YtdepnieanfjhjaaW.PrintMore
attribute [local go_sem] max2_int min2_int max_two min_two max_three min_three max_four min_four
theorem rd_eq0 {l : List Int} {j : Nat} (h : j < l.length) : rd l (j : Int) = l[j] := by simp [rd, List.getElem?_eq_getElem h]
/-- where v lies in a list, counted from j on; -1 if it does not -/
def ixR (v : Int) : List Int → Nat → Int
  | [], _ => -1
  | x :: xs, j => if x = v then (j : Int) else ixR v xs (j + 1)
theorem index_loop (v : Int) (l : List Int) (hl : l.length ≤ 4611686018427387903) : ∀ (d k j : Nat), j + d = l.length → d < k → slices_Index_int64_int64.l0 k l v (l.length : Int) j = some (ixR v (l.drop j) j) := by
  intro d
  induction d with
  | zero =>
    intro k j hj hk
    obtain ⟨k, rfl⟩ : ∃ m, k = m + 1 := ⟨k - 1, by omega⟩
    simp only [slices_Index_int64_int64.l0]
    rw [if_neg (by omega), List.drop_eq_nil_of_le (by omega)]
    rfl
  | succ d ih =>
    intro k j hj hk
    obtain ⟨k, rfl⟩ : ∃ m, k = m + 1 := ⟨k - 1, by omega⟩
    simp only [slices_Index_int64_int64.l0]
    rw [if_pos (by omega), if_pos (by omega), if_pos (by omega), rd_eq0 (by omega), show wrap64 ((j : Int) + 1) = ((j + 1 : Nat) : Int) by unfold wrap64; omega, List.drop_eq_getElem_cons (by omega), ih k (j + 1) (by omega) (by omega)]
    simp only [ixR]
    by_cases h : l[j] = v
    · rw [if_pos h, if_pos h.symm]
    · rw [if_neg h, if_neg (fun e => h e.symm)]
theorem index_f (v : Int) {l : List Int} (hl : l.length ≤ 4611686018427387903) {k : Nat} (hk : l.length < k) : slices_Index_int64_int64.f k l v = some (ixR v l 0) := by
  unfold slices_Index_int64_int64.f
  have := index_loop v l hl l.length k 0 (by omega) hk
  simpa using this
theorem ixR_map (f : Nat → Int) (v : Int) : ∀ c j : Nat, ixR v ((List.range' j c).map f) j = findI (fun q => decide (f q = v)) j c
  | 0, j => rfl
  | c + 1, j => by
    rw [List.range'_succ, List.map_cons]
    unfold ixR findI
    rw [ixR_map f v c (j + 1)]
    by_cases h : f j = v
    · rw [if_pos h, if_pos (by simpa using h)]
    · rw [if_neg h, if_neg (by simpa using h)]
theorem findI_shift (p : Nat → Bool) (h : Nat) : ∀ c j : Nat, findI (fun q => p (q - h)) (h + j) c = if findI p j c < 0 then -1 else (h : Int) + findI p j c
  | 0, j => rfl
  | c + 1, j => by
    have ih := findI_shift p h c (j + 1)
    unfold findI
    rw [show h + j - h = j by omega]
    by_cases hp : p j = true
    · rw [if_pos hp, if_pos hp, if_neg (by omega)]; omega
    · rw [if_neg hp, if_neg hp]; exact ih
theorem course_range' (L : List Int) (thick : Int) (shade : Bool) (h : Nat) (wet : Int) (n : Nat) : courseF L thick shade h wet n = (List.range' 0 (n + 1)).map fun j => beh L thick shade h j wet := by rw [courseF, List.range_eq_range']
theorem dry_course (L : List Int) (wet thick : Int) (shade : Bool) {h : Nat} (hh : h ≤ 24) : dryF L wet thick shade h = if ixR 0 (courseF L thick shade h wet (24 - h)) 0 < 0 then -1 else (h : Int) + ixR 0 (courseF L thick shade h wet (24 - h)) 0 := by
  rw [course_range', ixR_map, show 24 - h + 1 = 25 - h by omega]
  have := findI_shift (fun j => decide (beh L thick shade h j wet = 0)) h (25 - h) 0
  rw [Nat.add_zero] at this
  exact this
theorem ixR_range (v : Int) : ∀ (l : List Int) (j : Nat), ixR v l j = -1 ∨ ((j : Int) ≤ ixR v l j ∧ ixR v l j < (j : Int) + l.length)
  | [], j => .inl rfl
  | x :: xs, j => by
    unfold ixR
    split
    · right; simp; omega
    · have := ixR_range v xs (j + 1); simp; omega
theorem dryF_range (L : List Int) (wet thick : Int) (shade : Bool) {h : Nat} (hh : h ≤ 24) : dryF L wet thick shade h = -1 ∨ ((h : Int) ≤ dryF L wet thick shade h ∧ dryF L wet thick shade h ≤ 24) := by
  have := findI_range (fun q => decide (beh L thick shade h (q - h) wet = 0)) (25 - h) h
  unfold dryF
  omega
/-- the least of numbers, z among them -/
def minL : Int → List Int → Int
  | z, [] => z
  | z, x :: xs => minL (if x < z then x else z) xs
/-- the first of n, n - 1, .. 0 that p takes; -1 if there is none -/
def downI (p : Nat → Bool) : Nat → Int
  | 0 => if p 0 = true then 0 else -1
  | n + 1 => if p (n + 1) = true then ((n + 1 : Nat) : Int) else downI p n
end Go.Proofs.Ytdepnieanfjhjaa.X
