/- Plain facts: no program's step in sight. -/
import Derived.Test.YtkfbkmkaijonhaaDry4
import Derived.Test.YtkfbkmkaijonhaaDry2
set_option linter.unusedVariables false
set_option linter.unusedSimpArgs false
namespace Go.Proofs.Ytkfbkmkaijonhaa.X
open Go.RowKit Go.Proofs.YtkfbkmkaijonhaaW.PrintWords Go.Proofs.YtkfbkmkaijonhaaW.PrintLast Go.Proofs.YtkfbkmkaijonhaaW.PrintMore
/-- the least of the first n + 1 values, and where it lies first -/
def takeN (f : Nat → Int) : Nat → Nat × Int
  | 0 => (0, f 0)
  | n + 1 => if f (n + 1) < (takeN f n).2 then (n + 1, f (n + 1)) else takeN f n
theorem takeN_le (f : Nat → Int) : ∀ n j : Nat, j ≤ n → (takeN f n).2 ≤ f j
  | 0, j, h => by
    obtain rfl : j = 0 := by omega
    exact Int.le_refl _
  | n + 1, j, h => by
    unfold takeN
    split
    · rename_i hlt
      rcases Nat.lt_or_ge n j with hj | hj
      · obtain rfl : j = n + 1 := by omega
        exact Int.le_refl _
      · have := takeN_le f n j hj
        show f (n + 1) ≤ f j
        omega
    · rename_i hlt
      rcases Nat.lt_or_ge n j with hj | hj
      · obtain rfl : j = n + 1 := by omega
        omega
      · exact takeN_le f n j hj
theorem takeN_idx (f : Nat → Int) : ∀ n : Nat, (takeN f n).1 ≤ n
  | 0 => Nat.le_refl _
  | n + 1 => by
    unfold takeN
    split
    · exact Nat.le_refl _
    · have := takeN_idx f n; omega
theorem findI_snoc (p : Nat → Bool) : ∀ c j : Nat, findI p j (c + 1) = if findI p j c < 0 then (if p (j + c) = true then ((j + c : Nat) : Int) else -1) else findI p j c
  | 0, j => by
    unfold findI
    simp only [findI, Nat.add_zero]
    rw [if_pos (by omega : (-1 : Int) < 0)]
  | c + 1, j => by
    have ih := findI_snoc p c (j + 1)
    rw [findI, ih, findI]
    by_cases hp : p j = true
    · rw [if_pos hp, if_pos hp, if_neg (by omega)]
    · rw [if_neg hp, if_neg hp, show j + 1 + c = j + (c + 1) by omega]
theorem findI_neg (p : Nat → Bool) : ∀ c j : Nat, (∀ q, j ≤ q → q < j + c → p q = false) → findI p j c = -1
  | 0, j, h => rfl
  | c + 1, j, h => by
    unfold findI
    rw [if_neg (by rw [h j (by omega) (by omega)]; decide)]
    exact findI_neg p c (j + 1) (fun q h1 h2 => h q (by omega) (by omega))
theorem take_find (f : Nat → Int) : ∀ n : Nat, findI (fun q => decide (f q = (takeN f n).2)) 0 (n + 1) = ((takeN f n).1 : Int)
  | 0 => by simp [findI, takeN]
  | n + 1 => by
    have ih := take_find f n
    rw [findI_snoc]
    by_cases h : f (n + 1) < (takeN f n).2
    · have e : takeN f (n + 1) = (n + 1, f (n + 1)) := by rw [takeN, if_pos h]
      rw [e, findI_neg _ (n + 1) 0 (fun q h1 h2 => by
        have := takeN_le f n q (by omega)
        exact decide_eq_false (by show ¬ f q = f (n + 1); omega)), if_pos (by omega), if_pos (by simp), Nat.zero_add]
    · have e : takeN f (n + 1) = takeN f n := by rw [takeN, if_neg h]
      rw [e, ih, if_neg (by omega)]
theorem take_ix (f : Nat → Int) (n : Nat) : ixR (takeN f n).2 ((List.range (n + 1)).map f) 0 = ((takeN f n).1 : Int) := by
  rw [List.range_eq_range', ixR_map]
  exact take_find f n
theorem map_getD (f : Nat → Int) (n j : Nat) (h : j ≤ n) : ((List.range (n + 1)).map f).getD j 0 = f j := by
  rw [List.getD_eq_getElem?_getD, List.getElem?_eq_getElem (by simp; omega)]; simp

end Go.Proofs.Ytkfbkmkaijonhaa.X
