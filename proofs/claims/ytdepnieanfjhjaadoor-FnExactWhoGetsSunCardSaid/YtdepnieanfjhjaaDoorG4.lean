/- Contracts of functions, and plain facts, of more texts than one: put together, since a claim takes 60 files. -/
import Derived.Test.YtdepnieanfjhjaaDoorX5
import Derived.Test.YtdepnieanfjhjaaDoorX6
import Derived.Test.YtdepnieanfjhjaaDoorX14
/- what stood in the text Dry -/
set_option linter.unusedVariables false
set_option linter.unusedSimpArgs false
namespace Go.Proofs.YtdepnieanfjhjaaDoor.X
open Go.RowKit Go.Proofs.YtdepnieanfjhjaaDoorW.PrintWords Go.Proofs.YtdepnieanfjhjaaDoorW.PrintLast Go.Proofs.YtdepnieanfjhjaaDoorW.PrintMore
attribute [local go_sem] max2_int min2_int max_two min_two max_three min_three max_four min_four
/-- x lies in a..b -/
def inR (x a b : Int) : Bool := decide (a ≤ x) && decide (x ≤ b)
theorem inR_iff (x a b : Int) : inR x a b = true ↔ a ≤ x ∧ x ≤ b := by simp [inR]
/-- are all numbers of a day 0 to 9 -/
def dayOk (L : List Int) : Bool := L.all fun x => inR x 0 9
/-- is a thing right -/
def washOk (wet thick : Int) : Bool := inR wet 0 1000 && inR thick 1 9
/-- what water is there behind an hour -/
def hourF (wet thick sun wind rain : Int) (shade : Bool) : Int :=
  if 0 < rain then (if wet + 5 * rain < 1000 then wet + 5 * rain else 1000)
  else if 0 < wet - (2 * wind + 2 + (if shade then 0 else 3 * sun)) / thick then wet - (2 * wind + 2 + (if shade then 0 else 3 * sun)) / thick else 0
/-- what water is there behind n hours from h on -/
def beh (L : List Int) (thick : Int) (shade : Bool) (h : Nat) : Nat → Int → Int
  | 0, wet => wet
  | n + 1, wet => beh L thick shade (h + 1) n (hourF wet thick (L.getD (3 * h) 0) (L.getD (3 * h + 1) 0) (L.getD (3 * h + 2) 0) shade)
theorem beh_succ (L : List Int) (thick : Int) (shade : Bool) : ∀ (n h : Nat) (wet : Int), beh L thick shade h (n + 1) wet = hourF (beh L thick shade h n wet) thick (L.getD (3 * (h + n)) 0) (L.getD (3 * (h + n) + 1) 0) (L.getD (3 * (h + n) + 2) 0) shade
  | 0, h, wet => by simp [beh]
  | n + 1, h, wet => by
    have := beh_succ L thick shade n (h + 1) (hourF wet thick (L.getD (3 * h) 0) (L.getD (3 * h + 1) 0) (L.getD (3 * h + 2) 0) shade)
    rw [beh, this, beh, show h + 1 + n = h + (n + 1) by omega]
theorem dayOk_get {L : List Int} (h : dayOk L = true) (i : Nat) : 0 ≤ L.getD i 0 ∧ L.getD i 0 ≤ 9 := by
  rcases Nat.lt_or_ge i L.length with hi | hi
  · rw [List.getD_eq_getElem?_getD, List.getElem?_eq_getElem hi]
    have := List.all_eq_true.1 h _ (List.getElem_mem hi)
    exact (inR_iff _ _ _).1 this
  · rw [List.getD_eq_getElem?_getD, List.getElem?_eq_none hi]; decide
theorem hourF_range {wet thick sun wind rain : Int} {shade : Bool} (h0 : 0 ≤ wet) (h1 : wet ≤ 1000) (ht : 1 ≤ thick) (hs : 0 ≤ sun ∧ sun ≤ 9) (hw : 0 ≤ wind ∧ wind ≤ 9) (hr : 0 ≤ rain ∧ rain ≤ 9) : 0 ≤ hourF wet thick sun wind rain shade ∧ hourF wet thick sun wind rain shade ≤ 1000 := by
  unfold hourF
  split
  · split <;> omega
  · have hb : 0 ≤ (2 * wind + 2 + (if shade = true then 0 else 3 * sun)) / thick := Int.ediv_nonneg (by split <;> omega) (by omega)
    generalize (2 * wind + 2 + (if shade = true then 0 else 3 * sun)) / thick = q at hb
    show 0 ≤ (if 0 < wet - q then wet - q else 0) ∧ (if 0 < wet - q then wet - q else 0) ≤ 1000
    split <;> omega
theorem beh_range {L : List Int} {thick : Int} {shade : Bool} (hd : dayOk L = true) (ht : 1 ≤ thick) : ∀ (n h : Nat) (wet : Int), 0 ≤ wet → wet ≤ 1000 → 0 ≤ beh L thick shade h n wet ∧ beh L thick shade h n wet ≤ 1000
  | 0, h, wet, h0, h1 => ⟨h0, h1⟩
  | n + 1, h, wet, h0, h1 => by
    have := hourF_range (shade := shade) h0 h1 ht (dayOk_get hd (3 * h)) (dayOk_get hd (3 * h + 1)) (dayOk_get hd (3 * h + 2))
    exact beh_range hd ht n (h + 1) _ this.1 this.2
/-- the water at each hour from h on up to the end -/
def courseF (L : List Int) (thick : Int) (shade : Bool) (h : Nat) (wet : Int) (n : Nat) : List Int := (List.range (n + 1)).map fun j => beh L thick shade h j wet
theorem courseF_length (L : List Int) (thick : Int) (shade : Bool) (h : Nat) (wet : Int) (n : Nat) : (courseF L thick shade h wet n).length = n + 1 := by simp [courseF]
theorem courseF_snoc (L : List Int) (thick : Int) (shade : Bool) (h : Nat) (wet : Int) (n : Nat) : courseF L thick shade h wet (n + 1) = courseF L thick shade h wet n ++ [beh L thick shade h (n + 1) wet] := by
  simp [courseF, List.range_succ]
theorem courseF_get (L : List Int) (thick : Int) (shade : Bool) (h : Nat) (wet : Int) (n j : Nat) (hj : j ≤ n) : (courseF L thick shade h wet n).getD j 0 = beh L thick shade h j wet := by
  rw [List.getD_eq_getElem?_getD, List.getElem?_eq_getElem (by simp [courseF]; omega)]
  simp [courseF]
theorem w64 {x : Int} (h0 : -9223372036854775808 ≤ x) (h1 : x ≤ 9223372036854775807) : wrap64 x = x := by unfold wrap64; omega
theorem l03Hour_f {wet thick sun wind rain : Int} (shade : Bool) (h0 : 0 ≤ wet) (h1 : wet ≤ 1000) (ht : 1 ≤ thick) (hs : 0 ≤ sun ∧ sun ≤ 9) (hw : 0 ≤ wind ∧ wind ≤ 9) (hr : 0 ≤ rain ∧ rain ≤ 9) :
    spec_l03Hour.f wet thick sun wind rain shade = some (hourF wet thick sun wind rain shade) := by
  unfold spec_l03Hour.f hourF spec_l00Min.f spec_l00Max.f
  by_cases hrp : 0 < rain
  · rw [if_pos hrp, if_pos hrp, w64 (x := rain) (by omega) (by omega), w64 (x := 5 * rain) (by omega) (by omega), w64 (by omega) (by omega)]
    split <;> rfl
  · rw [if_neg (by omega), if_neg hrp]
    have hd : ∀ y : Int, 0 ≤ y → y ≤ 1000 → 0 ≤ y / thick ∧ y / thick ≤ 1000 := fun y h h2 => ⟨Int.ediv_nonneg h (by omega), by have := Int.ediv_le_self thick h; omega⟩
    cases shade
    · have := hd (2 * wind + 2 + 3 * sun) (by omega) (by omega)
      rw [if_neg (by simp), if_neg (by omega), w64 (x := wind) (by omega) (by omega), w64 (x := 2 * wind) (by omega) (by omega), w64 (x := sun) (by omega) (by omega), w64 (x := 3 * sun) (by omega) (by omega), w64 (x := 2 * wind + 2) (by omega) (by omega), w64 (x := 2 * wind + 2 + 3 * sun) (by omega) (by omega), Int.tdiv_eq_ediv_of_nonneg (by omega), w64 (x := (2 * wind + 2 + 3 * sun) / thick) (by omega) (by omega), w64 (by omega) (by omega)]
      simp only [Bool.false_eq_true, if_false]
      by_cases hz : 0 < wet - (2 * wind + 2 + 3 * sun) / thick
      · rw [if_neg (by omega), if_pos hz]; rfl
      · by_cases hy : wet - (2 * wind + 2 + 3 * sun) / thick < 0
        · rw [if_pos (by omega), if_neg hz]; rfl
        · rw [if_neg (by omega), if_neg hz]; simp; omega
    · have := hd (2 * wind + 2) (by omega) (by omega)
      rw [if_pos rfl, if_neg (by omega), w64 (x := wind) (by omega) (by omega), w64 (x := 2 * wind) (by omega) (by omega), w64 (x := 2 * wind + 2) (by omega) (by omega), Int.tdiv_eq_ediv_of_nonneg (by omega), w64 (x := (2 * wind + 2) / thick) (by omega) (by omega), w64 (by omega) (by omega)]
      simp only [if_true, Int.add_zero]
      by_cases hz : 0 < wet - (2 * wind + 2) / thick
      · rw [if_neg (by omega), if_pos hz]; rfl
      · by_cases hy : wet - (2 * wind + 2) / thick < 0
        · rw [if_pos (by omega), if_neg hz]; rfl
        · rw [if_neg (by omega), if_neg hz]; simp; omega
theorem hour_f {wet thick sun wind rain : Int} (shade : Bool) (h0 : 0 ≤ wet) (h1 : wet ≤ 1000) (ht : 1 ≤ thick) (hs : 0 ≤ sun ∧ sun ≤ 9) (hw : 0 ≤ wind ∧ wind ≤ 9) (hr : 0 ≤ rain ∧ rain ≤ 9) :
    impl_Weather_hour.f sun wind rain wet thick shade = some (hourF wet thick sun wind rain shade) := by
  unfold impl_Weather_hour.f hourF mn mx
  by_cases hrp : 0 < rain
  · rw [if_pos hrp, if_pos hrp, w64 (x := rain) (by omega) (by omega), w64 (x := 5 * rain) (by omega) (by omega), w64 (by omega) (by omega)]
    congr 1
    split <;> split <;> omega
  · rw [if_neg (by omega), if_neg hrp]
    have hd : ∀ y : Int, 0 ≤ y → y ≤ 1000 → 0 ≤ y / thick ∧ y / thick ≤ 1000 := fun y h h2 => ⟨Int.ediv_nonneg h (by omega), by have := Int.ediv_le_self thick h; omega⟩
    cases shade
    · have := hd (2 * wind + 2 + 3 * sun) (by omega) (by omega)
      rw [if_neg (by simp), if_neg (by omega), w64 (x := wind) (by omega) (by omega), w64 (x := 2 * wind) (by omega) (by omega), w64 (x := sun) (by omega) (by omega), w64 (x := 3 * sun) (by omega) (by omega), w64 (x := 2 * wind + 2) (by omega) (by omega), w64 (x := 2 * wind + 2 + 3 * sun) (by omega) (by omega), Int.tdiv_eq_ediv_of_nonneg (by omega), w64 (x := (2 * wind + 2 + 3 * sun) / thick) (by omega) (by omega), w64 (by omega) (by omega)]
      simp only [Bool.false_eq_true, if_false]
      congr 1
      split <;> split <;> omega
    · have := hd (2 * wind + 2) (by omega) (by omega)
      rw [if_pos rfl, if_neg (by omega), w64 (x := wind) (by omega) (by omega), w64 (x := 2 * wind) (by omega) (by omega), w64 (x := 2 * wind + 2) (by omega) (by omega), Int.tdiv_eq_ediv_of_nonneg (by omega), w64 (x := (2 * wind + 2) / thick) (by omega) (by omega), w64 (by omega) (by omega)]
      simp only [if_true, Int.add_zero]
      congr 1
      split <;> split <;> omega
theorem beh_at (L : List Int) (thick : Int) (shade : Bool) {h q : Nat} (hq : h ≤ q) (wet : Int) : beh L thick shade h (q + 1 - h) wet = hourF (beh L thick shade h (q - h) wet) thick (L.getD (3 * q) 0) (L.getD (3 * q + 1) 0) (L.getD (3 * q + 2) 0) shade := by
  have := beh_succ L thick shade (q - h) h wet
  rw [show h + (q - h) = q by omega] at this
  rw [← this, show q + 1 - h = q - h + 1 by omega]
/-- the first of j, j + 1, .. of c numbers that p takes; -1 if there is none -/
def findI (p : Nat → Bool) : Nat → Nat → Int
  | _, 0 => -1
  | j, c + 1 => if p j = true then (j : Int) else findI p (j + 1) c
theorem findI_range (p : Nat → Bool) : ∀ (c j : Nat), findI p j c = -1 ∨ ((j : Int) ≤ findI p j c ∧ findI p j c < (j : Int) + c)
  | 0, j => .inl rfl
  | c + 1, j => by
    unfold findI
    split
    · right; omega
    · have := findI_range p c (j + 1); omega
/-- from which hour on a thing is dry -/
def dryF (L : List Int) (wet thick : Int) (shade : Bool) (h : Nat) : Int := findI (fun q => decide (beh L thick shade h (q - h) wet = 0)) h (25 - h)
end Go.Proofs.YtdepnieanfjhjaaDoor.X

/- what stood in the text Dry2 -/
set_option linter.unusedVariables false
set_option linter.unusedSimpArgs false
namespace Go.Proofs.YtdepnieanfjhjaaDoor.X
open Go.RowKit Go.Proofs.YtdepnieanfjhjaaDoorW.PrintWords Go.Proofs.YtdepnieanfjhjaaDoorW.PrintLast Go.Proofs.YtdepnieanfjhjaaDoorW.PrintMore
attribute [local go_sem] max2_int min2_int max_two min_two max_three min_three max_four min_four
theorem rd_eq0 {l : List Int} {j : Nat} (h : j < l.length) : rd l (j : Int) = l[j] := by simp [rd, List.getElem?_eq_getElem h]
/-- where v lies in a list, counted from j on; -1 if it does not -/
def ixR (v : Int) : List Int → Nat → Int
  | [], _ => -1
  | x :: xs, j => if x = v then (j : Int) else ixR v xs (j + 1)
theorem index_loop (v : Int) (l : List Int) (hl : l.length ≤ 4611686018427387903) : ∀ (d k j : Nat), j + d = l.length → d < k → slices_Index_int64_int64.l0 k l v (l.length : Int) j = some (ixR v (l.drop j) j) := by
  intro d
  induction d with
  | zero =>
    intro k j hj hk
    obtain ⟨k, rfl⟩ : ∃ m, k = m + 1 := ⟨k - 1, by omega⟩
    simp only [slices_Index_int64_int64.l0]
    rw [if_neg (by omega), List.drop_eq_nil_of_le (by omega)]
    rfl
  | succ d ih =>
    intro k j hj hk
    obtain ⟨k, rfl⟩ : ∃ m, k = m + 1 := ⟨k - 1, by omega⟩
    simp only [slices_Index_int64_int64.l0]
    rw [if_pos (by omega), if_pos (by omega), if_pos (by omega), rd_eq0 (by omega), show wrap64 ((j : Int) + 1) = ((j + 1 : Nat) : Int) by unfold wrap64; omega, List.drop_eq_getElem_cons (by omega), ih k (j + 1) (by omega) (by omega)]
    simp only [ixR]
    by_cases h : l[j] = v
    · rw [if_pos h, if_pos h.symm]
    · rw [if_neg h, if_neg (fun e => h e.symm)]
theorem index_f (v : Int) {l : List Int} (hl : l.length ≤ 4611686018427387903) {k : Nat} (hk : l.length < k) : slices_Index_int64_int64.f k l v = some (ixR v l 0) := by
  unfold slices_Index_int64_int64.f
  have := index_loop v l hl l.length k 0 (by omega) hk
  simpa using this
theorem ixR_map (f : Nat → Int) (v : Int) : ∀ c j : Nat, ixR v ((List.range' j c).map f) j = findI (fun q => decide (f q = v)) j c
  | 0, j => rfl
  | c + 1, j => by
    rw [List.range'_succ, List.map_cons]
    unfold ixR findI
    rw [ixR_map f v c (j + 1)]
    by_cases h : f j = v
    · rw [if_pos h, if_pos (by simpa using h)]
    · rw [if_neg h, if_neg (by simpa using h)]
theorem findI_shift (p : Nat → Bool) (h : Nat) : ∀ c j : Nat, findI (fun q => p (q - h)) (h + j) c = if findI p j c < 0 then -1 else (h : Int) + findI p j c
  | 0, j => rfl
  | c + 1, j => by
    have ih := findI_shift p h c (j + 1)
    unfold findI
    rw [show h + j - h = j by omega]
    by_cases hp : p j = true
    · rw [if_pos hp, if_pos hp, if_neg (by omega)]; omega
    · rw [if_neg hp, if_neg hp]; exact ih
theorem course_range' (L : List Int) (thick : Int) (shade : Bool) (h : Nat) (wet : Int) (n : Nat) : courseF L thick shade h wet n = (List.range' 0 (n + 1)).map fun j => beh L thick shade h j wet := by rw [courseF, List.range_eq_range']
theorem dry_course (L : List Int) (wet thick : Int) (shade : Bool) {h : Nat} (hh : h ≤ 24) : dryF L wet thick shade h = if ixR 0 (courseF L thick shade h wet (24 - h)) 0 < 0 then -1 else (h : Int) + ixR 0 (courseF L thick shade h wet (24 - h)) 0 := by
  rw [course_range', ixR_map, show 24 - h + 1 = 25 - h by omega]
  have := findI_shift (fun j => decide (beh L thick shade h j wet = 0)) h (25 - h) 0
  rw [Nat.add_zero] at this
  exact this
theorem ixR_range (v : Int) : ∀ (l : List Int) (j : Nat), ixR v l j = -1 ∨ ((j : Int) ≤ ixR v l j ∧ ixR v l j < (j : Int) + l.length)
  | [], j => .inl rfl
  | x :: xs, j => by
    unfold ixR
    split
    · right; simp; omega
    · have := ixR_range v xs (j + 1); simp; omega
theorem dryF_range (L : List Int) (wet thick : Int) (shade : Bool) {h : Nat} (hh : h ≤ 24) : dryF L wet thick shade h = -1 ∨ ((h : Int) ≤ dryF L wet thick shade h ∧ dryF L wet thick shade h ≤ 24) := by
  have := findI_range (fun q => decide (beh L thick shade h (q - h) wet = 0)) (25 - h) h
  unfold dryF
  omega
/-- the least of numbers, z among them -/
def minL : Int → List Int → Int
  | z, [] => z
  | z, x :: xs => minL (if x < z then x else z) xs
/-- the first of n, n - 1, .. 0 that p takes; -1 if there is none -/
def downI (p : Nat → Bool) : Nat → Int
  | 0 => if p 0 = true then 0 else -1
  | n + 1 => if p (n + 1) = true then ((n + 1 : Nat) : Int) else downI p n
end Go.Proofs.YtdepnieanfjhjaaDoor.X
