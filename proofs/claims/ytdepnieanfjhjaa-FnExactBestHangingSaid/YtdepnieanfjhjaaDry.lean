/- Contracts of functions, and plain facts: what each call answers, and what it leaves as it was. -/
import Derived.Test.YtdepnieanfjhjaaX5
import Derived.Test.YtdepnieanfjhjaaX6
import Derived.Test.YtdepnieanfjhjaaX12
set_option linter.unusedVariables false
set_option linter.unusedSimpArgs false
namespace Go.Proofs.Ytdepnieanfjhjaa.X
open Go.RowKit Go.Proofs.YtdepnieanfjhjaaW.PrintWords Go.Proofs.YtdepnieanfjhjaaW.PrintLast Go.Proofs.YtdepnieanfjhjaaW.PrintMore
attribute [local go_sem] max2_int min2_int max_two min_two max_three min_three max_four min_four
/-- x lies in a..b -/
def inR (x a b : Int) : Bool := decide (a ≤ x) && decide (x ≤ b)
theorem inR_iff (x a b : Int) : inR x a b = true ↔ a ≤ x ∧ x ≤ b := by simp [inR]
/-- are all numbers of a day 0 to 9 -/
def dayOk (L : List Int) : Bool := L.all fun x => inR x 0 9
/-- is a thing right -/
def washOk (wet thick : Int) : Bool := inR wet 0 1000 && inR thick 1 9
/-- what water is there behind an hour -/
def hourF (wet thick sun wind rain : Int) (shade : Bool) : Int :=
  if 0 < rain then (if wet + 5 * rain < 1000 then wet + 5 * rain else 1000)
  else if 0 < wet - (2 * wind + 2 + (if shade then 0 else 3 * sun)) / thick then wet - (2 * wind + 2 + (if shade then 0 else 3 * sun)) / thick else 0
/-- what water is there behind n hours from h on -/
def beh (L : List Int) (thick : Int) (shade : Bool) (h : Nat) : Nat → Int → Int
  | 0, wet => wet
  | n + 1, wet => beh L thick shade (h + 1) n (hourF wet thick (L.getD (3 * h) 0) (L.getD (3 * h + 1) 0) (L.getD (3 * h + 2) 0) shade)
theorem beh_succ (L : List Int) (thick : Int) (shade : Bool) : ∀ (n h : Nat) (wet : Int), beh L thick shade h (n + 1) wet = hourF (beh L thick shade h n wet) thick (L.getD (3 * (h + n)) 0) (L.getD (3 * (h + n) + 1) 0) (L.getD (3 * (h + n) + 2) 0) shade
  | 0, h, wet => by simp [beh]
  | n + 1, h, wet => by
    have := beh_succ L thick shade n (h + 1) (hourF wet thick (L.getD (3 * h) 0) (L.getD (3 * h + 1) 0) (L.getD (3 * h + 2) 0) shade)
    rw [beh, this, beh, show h + 1 + n = h + (n + 1) by omega]
theorem dayOk_get {L : List Int} (h : dayOk L = true) (i : Nat) : 0 ≤ L.getD i 0 ∧ L.getD i 0 ≤ 9 := by
  rcases Nat.lt_or_ge i L.length with hi | hi
  · rw [List.getD_eq_getElem?_getD, List.getElem?_eq_getElem hi]
    have := List.all_eq_true.1 h _ (List.getElem_mem hi)
    exact (inR_iff _ _ _).1 this
  · rw [List.getD_eq_getElem?_getD, List.getElem?_eq_none hi]; decide
theorem hourF_range {wet thick sun wind rain : Int} {shade : Bool} (h0 : 0 ≤ wet) (h1 : wet ≤ 1000) (ht : 1 ≤ thick) (hs : 0 ≤ sun ∧ sun ≤ 9) (hw : 0 ≤ wind ∧ wind ≤ 9) (hr : 0 ≤ rain ∧ rain ≤ 9) : 0 ≤ hourF wet thick sun wind rain shade ∧ hourF wet thick sun wind rain shade ≤ 1000 := by
  unfold hourF
  split
  · split <;> omega
  · have hb : 0 ≤ (2 * wind + 2 + (if shade = true then 0 else 3 * sun)) / thick := Int.ediv_nonneg (by split <;> omega) (by omega)
    generalize (2 * wind + 2 + (if shade = true then 0 else 3 * sun)) / thick = q at hb
    show 0 ≤ (if 0 < wet - q then wet - q else 0) ∧ (if 0 < wet - q then wet - q else 0) ≤ 1000
    split <;> omega
theorem beh_range {L : List Int} {thick : Int} {shade : Bool} (hd : dayOk L = true) (ht : 1 ≤ thick) : ∀ (n h : Nat) (wet : Int), 0 ≤ wet → wet ≤ 1000 → 0 ≤ beh L thick shade h n wet ∧ beh L thick shade h n wet ≤ 1000
  | 0, h, wet, h0, h1 => ⟨h0, h1⟩
  | n + 1, h, wet, h0, h1 => by
    have := hourF_range (shade := shade) h0 h1 ht (dayOk_get hd (3 * h)) (dayOk_get hd (3 * h + 1)) (dayOk_get hd (3 * h + 2))
    exact beh_range hd ht n (h + 1) _ this.1 this.2
/-- the water at each hour from h on up to the end -/
def courseF (L : List Int) (thick : Int) (shade : Bool) (h : Nat) (wet : Int) (n : Nat) : List Int := (List.range (n + 1)).map fun j => beh L thick shade h j wet
theorem courseF_length (L : List Int) (thick : Int) (shade : Bool) (h : Nat) (wet : Int) (n : Nat) : (courseF L thick shade h wet n).length = n + 1 := by simp [courseF]
theorem courseF_snoc (L : List Int) (thick : Int) (shade : Bool) (h : Nat) (wet : Int) (n : Nat) : courseF L thick shade h wet (n + 1) = courseF L thick shade h wet n ++ [beh L thick shade h (n + 1) wet] := by
  simp [courseF, List.range_succ]
theorem courseF_get (L : List Int) (thick : Int) (shade : Bool) (h : Nat) (wet : Int) (n j : Nat) (hj : j ≤ n) : (courseF L thick shade h wet n).getD j 0 = beh L thick shade h j wet := by
  rw [List.getD_eq_getElem?_getD, List.getElem?_eq_getElem (by simp [courseF]; omega)]
  simp [courseF]
theorem w64 {x : Int} (h0 : -9223372036854775808 ≤ x) (h1 : x ≤ 9223372036854775807) : wrap64 x = x := by unfold wrap64; omega
theorem l03Hour_f {wet thick sun wind rain : Int} (shade : Bool) (h0 : 0 ≤ wet) (h1 : wet ≤ 1000) (ht : 1 ≤ thick) (hs : 0 ≤ sun ∧ sun ≤ 9) (hw : 0 ≤ wind ∧ wind ≤ 9) (hr : 0 ≤ rain ∧ rain ≤ 9) :
    spec_l03Hour.f wet thick sun wind rain shade = some (hourF wet thick sun wind rain shade) := by
  unfold spec_l03Hour.f hourF spec_l00Min.f spec_l00Max.f
  by_cases hrp : 0 < rain
  · rw [if_pos hrp, if_pos hrp, w64 (x := rain) (by omega) (by omega), w64 (x := 5 * rain) (by omega) (by omega), w64 (by omega) (by omega)]
    split <;> rfl
  · rw [if_neg (by omega), if_neg hrp]
    have hd : ∀ y : Int, 0 ≤ y → y ≤ 1000 → 0 ≤ y / thick ∧ y / thick ≤ 1000 := fun y h h2 => ⟨Int.ediv_nonneg h (by omega), by have := Int.ediv_le_self thick h; omega⟩
    cases shade
    · have := hd (2 * wind + 2 + 3 * sun) (by omega) (by omega)
      rw [if_neg (by simp), if_neg (by omega), w64 (x := wind) (by omega) (by omega), w64 (x := 2 * wind) (by omega) (by omega), w64 (x := sun) (by omega) (by omega), w64 (x := 3 * sun) (by omega) (by omega), w64 (x := 2 * wind + 2) (by omega) (by omega), w64 (x := 2 * wind + 2 + 3 * sun) (by omega) (by omega), Int.tdiv_eq_ediv_of_nonneg (by omega), w64 (x := (2 * wind + 2 + 3 * sun) / thick) (by omega) (by omega), w64 (by omega) (by omega)]
      simp only [Bool.false_eq_true, if_false]
      by_cases hz : 0 < wet - (2 * wind + 2 + 3 * sun) / thick
      · rw [if_neg (by omega), if_pos hz]; rfl
      · by_cases hy : wet - (2 * wind + 2 + 3 * sun) / thick < 0
        · rw [if_pos (by omega), if_neg hz]; rfl
        · rw [if_neg (by omega), if_neg hz]; simp; omega
    · have := hd (2 * wind + 2) (by omega) (by omega)
      rw [if_pos rfl, if_neg (by omega), w64 (x := wind) (by omega) (by omega), w64 (x := 2 * wind) (by omega) (by omega), w64 (x := 2 * wind + 2) (by omega) (by omega), Int.tdiv_eq_ediv_of_nonneg (by omega), w64 (x := (2 * wind + 2) / thick) (by omega) (by omega), w64 (by omega) (by omega)]
      simp only [if_true, Int.add_zero]
      by_cases hz : 0 < wet - (2 * wind + 2) / thick
      · rw [if_neg (by omega), if_pos hz]; rfl
      · by_cases hy : wet - (2 * wind + 2) / thick < 0
        · rw [if_pos (by omega), if_neg hz]; rfl
        · rw [if_neg (by omega), if_neg hz]; simp; omega
theorem hour_f {wet thick sun wind rain : Int} (shade : Bool) (h0 : 0 ≤ wet) (h1 : wet ≤ 1000) (ht : 1 ≤ thick) (hs : 0 ≤ sun ∧ sun ≤ 9) (hw : 0 ≤ wind ∧ wind ≤ 9) (hr : 0 ≤ rain ∧ rain ≤ 9) :
    impl_Weather_hour.f sun wind rain wet thick shade = some (hourF wet thick sun wind rain shade) := by
  unfold impl_Weather_hour.f hourF mn mx
  by_cases hrp : 0 < rain
  · rw [if_pos hrp, if_pos hrp, w64 (x := rain) (by omega) (by omega), w64 (x := 5 * rain) (by omega) (by omega), w64 (by omega) (by omega)]
    congr 1
    split <;> split <;> omega
  · rw [if_neg (by omega), if_neg hrp]
    have hd : ∀ y : Int, 0 ≤ y → y ≤ 1000 → 0 ≤ y / thick ∧ y / thick ≤ 1000 := fun y h h2 => ⟨Int.ediv_nonneg h (by omega), by have := Int.ediv_le_self thick h; omega⟩
    cases shade
    · have := hd (2 * wind + 2 + 3 * sun) (by omega) (by omega)
      rw [if_neg (by simp), if_neg (by omega), w64 (x := wind) (by omega) (by omega), w64 (x := 2 * wind) (by omega) (by omega), w64 (x := sun) (by omega) (by omega), w64 (x := 3 * sun) (by omega) (by omega), w64 (x := 2 * wind + 2) (by omega) (by omega), w64 (x := 2 * wind + 2 + 3 * sun) (by omega) (by omega), Int.tdiv_eq_ediv_of_nonneg (by omega), w64 (x := (2 * wind + 2 + 3 * sun) / thick) (by omega) (by omega), w64 (by omega) (by omega)]
      simp only [Bool.false_eq_true, if_false]
      congr 1
      split <;> split <;> omega
    · have := hd (2 * wind + 2) (by omega) (by omega)
      rw [if_pos rfl, if_neg (by omega), w64 (x := wind) (by omega) (by omega), w64 (x := 2 * wind) (by omega) (by omega), w64 (x := 2 * wind + 2) (by omega) (by omega), Int.tdiv_eq_ediv_of_nonneg (by omega), w64 (x := (2 * wind + 2) / thick) (by omega) (by omega), w64 (by omega) (by omega)]
      simp only [if_true, Int.add_zero]
      congr 1
      split <;> split <;> omega
theorem beh_at (L : List Int) (thick : Int) (shade : Bool) {h q : Nat} (hq : h ≤ q) (wet : Int) : beh L thick shade h (q + 1 - h) wet = hourF (beh L thick shade h (q - h) wet) thick (L.getD (3 * q) 0) (L.getD (3 * q + 1) 0) (L.getD (3 * q + 2) 0) shade := by
  have := beh_succ L thick shade (q - h) h wet
  rw [show h + (q - h) = q by omega] at this
  rw [← this, show q + 1 - h = q - h + 1 by omega]
/-- the first of j, j + 1, .. of c numbers that p takes; -1 if there is none -/
def findI (p : Nat → Bool) : Nat → Nat → Int
  | _, 0 => -1
  | j, c + 1 => if p j = true then (j : Int) else findI p (j + 1) c
theorem findI_range (p : Nat → Bool) : ∀ (c j : Nat), findI p j c = -1 ∨ ((j : Int) ≤ findI p j c ∧ findI p j c < (j : Int) + c)
  | 0, j => .inl rfl
  | c + 1, j => by
    unfold findI
    split
    · right; omega
    · have := findI_range p c (j + 1); omega
/-- from which hour on a thing is dry -/
def dryF (L : List Int) (wet thick : Int) (shade : Bool) (h : Nat) : Int := findI (fun q => decide (beh L thick shade h (q - h) wet = 0)) h (25 - h)
end Go.Proofs.Ytdepnieanfjhjaa.X
