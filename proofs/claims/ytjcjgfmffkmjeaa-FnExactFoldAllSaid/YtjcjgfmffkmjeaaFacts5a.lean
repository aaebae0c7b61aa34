/- Plain facts of the printed functions: no program in sight. -/
import Derived.Test.YtjcjgfmffkmjeaaX0
import Derived.Test.YtjcjgfmffkmjeaaX12
import Derived.Test.YtjcjgfmffkmjeaaFacts1
set_option linter.unusedVariables false
set_option linter.unusedSimpArgs false
namespace Go.Proofs.Ytjcjgfmffkmjeaa.X
open Go.RowKit Go.Proofs.YtjcjgfmffkmjeaaW.PrintWords Go.Proofs.YtjcjgfmffkmjeaaW.PrintLast Go.Proofs.YtjcjgfmffkmjeaaW.PrintMore
/-- the first number that is not 0 -/
def firstNZ : List Int → Int
  | [] => 0
  | x :: xs => if x = 0 then firstNZ xs else x
theorem firstOf_loop (l : List Int) (hl : l.length ≤ 4294967296) : ∀ (d k i : Nat), i + d = l.length → d < k → impl_firstOf.l0 k l (l.length : Int) i = some (firstNZ (l.drop i)) := by
  intro d
  induction d with
  | zero =>
    intro k i hi hk
    obtain ⟨k, rfl⟩ : ∃ m, k = m + 1 := ⟨k - 1, by omega⟩
    simp only [impl_firstOf.l0]
    rw [if_neg (by omega), List.drop_eq_nil_of_le (by omega)]
    rfl
  | succ d ih =>
    intro k i hi hk
    obtain ⟨k, rfl⟩ : ∃ m, k = m + 1 := ⟨k - 1, by omega⟩
    simp only [impl_firstOf.l0]
    have ha : l.drop i = l[i] :: l.drop (i + 1) := List.drop_eq_getElem_cons (by omega)
    rw [if_pos (by omega), if_pos (by omega), if_pos (by omega), rd_eq (by omega), w64s (by omega), ih k (i + 1) (by omega) (by omega), ha]
    simp only [firstNZ]
    split <;> rfl
theorem firstOf_f {l : List Int} (hl : l.length ≤ 4294967296) {k : Nat} (hk : l.length < k) : impl_firstOf.f k l = some (firstNZ l) := by
  unfold impl_firstOf.f
  simpa using firstOf_loop l hl l.length k 0 (by omega) (by omega)
theorem unless_f (b : Bool) (c : Int) : impl_unless.f b c = some (if b = true then 0 else c) := by
  unfold impl_unless.f
  split <;> rfl

end Go.Proofs.Ytjcjgfmffkmjeaa.X
