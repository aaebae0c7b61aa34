/- Contracts of functions, and plain facts: what each call answers, and what it leaves as it was. -/
import Derived.Test.YtjegcpagdpjidaaF3
import Derived.Test.YtjegcpagdpjidaaX7
import Derived.Test.YtjegcpagdpjidaaX12
import Derived.Test.YtjegcpagdpjidaaX13
import Derived.Test.YtjegcpagdpjidaaX14
import Derived.Test.YtjegcpagdpjidaaX30
import Derived.Test.YtjegcpagdpjidaaX31
set_option linter.unusedVariables false
set_option linter.unusedSimpArgs false
namespace Go.Proofs.Ytjegcpagdpjidaa.X
open Go.RowKit Go.Proofs.YtjegcpagdpjidaaW.PrintWords Go.Proofs.YtjegcpagdpjidaaW.PrintLast Go.Proofs.YtjegcpagdpjidaaW.PrintMore
attribute [local go_sem] max2_int min2_int max_two min_two max_three min_three max_four min_four
/-- the first number that is not 0 -/
def firstNZ : List Int → Int
  | [] => 0
  | x :: xs => if x = 0 then firstNZ xs else x
theorem firstOf_loop (l : List Int) (hl : l.length ≤ 4294967296) : ∀ (d k i : Nat), i + d = l.length → d < k → impl_firstOf.l0 k l (l.length : Int) i = some (firstNZ (l.drop i)) := by
  intro d
  induction d with
  | zero =>
    intro k i hi hk
    obtain ⟨k, rfl⟩ : ∃ m, k = m + 1 := ⟨k - 1, by omega⟩
    simp only [impl_firstOf.l0]
    rw [if_neg (by omega), List.drop_eq_nil_of_le (by omega)]
    rfl
  | succ d ih =>
    intro k i hi hk
    obtain ⟨k, rfl⟩ : ∃ m, k = m + 1 := ⟨k - 1, by omega⟩
    simp only [impl_firstOf.l0]
    have ha : l.drop i = l[i] :: l.drop (i + 1) := List.drop_eq_getElem_cons (by omega)
    rw [if_pos (by omega), if_pos (by omega), if_pos (by omega), rd_eq (by omega), w64s (by omega), ih k (i + 1) (by omega) (by omega), ha]
    simp only [firstNZ]
    split <;> rfl
theorem firstOf_f {l : List Int} (hl : l.length ≤ 4294967296) {k : Nat} (hk : l.length < k) : impl_firstOf.f k l = some (firstNZ l) := by
  unfold impl_firstOf.f
  simpa using firstOf_loop l hl l.length k 0 (by omega) (by omega)
theorem unless_f (b : Bool) (c : Int) : impl_unless.f b c = some (if b = true then 0 else c) := by
  unfold impl_unless.f
  split <;> rfl
/-- the code of a sheet and a shelf -/
def shelfF (a b c x y z : Int) : Int := if Sh a b c then (if 1 ≤ x ∧ x ≤ 1296 ∧ 1 ≤ y ∧ y ≤ 1296 ∧ 1 ≤ z ∧ z ≤ 1296 then 0 else 2) else 1
theorem shelfCode_f {a b c : Int} (ha : -32768 ≤ a ∧ a ≤ 32767) (hb : -32768 ≤ b ∧ b ≤ 32767) (hc : -32768 ≤ c ∧ c ≤ 32767) (x y z : Int) {k : Nat} (hk : 2 < k) : impl_shelfCode.f k a b c x y z = some (shelfF a b c x y z) := by
  unfold impl_shelfCode.f shelfF
  rw [validSheet_f ha hb hc]
  simp only [Option.bind_some, unless_f, areWithin_f]
  rw [firstOf_f (by simp) (by simpa using hk), Option.bind_some]
  congr 1
  simp only [firstNZ, List.all_cons, List.all_nil, Bool.and_true, Bool.and_eq_true, decide_eq_true_eq]
  by_cases h : Sh a b c
  · rw [if_pos h, if_pos rfl, if_pos h]
    by_cases h2 : 1 ≤ x ∧ x ≤ 1296 ∧ 1 ≤ y ∧ y ≤ 1296 ∧ 1 ≤ z ∧ z ≤ 1296
    · rw [if_pos h2, if_pos (by omega)]
    · rw [if_neg h2, if_neg (by omega), if_neg (by omega)]
  · rw [if_neg h, if_neg (by omega), if_neg h]
theorem l04Shelf_f {a b c : Int} (ha : -32768 ≤ a ∧ a ≤ 32767) (hb : -32768 ≤ b ∧ b ≤ 32767) (hc : -32768 ≤ c ∧ c ≤ 32767) (x y z : Int) : spec_l04Shelf.f a b c x y z = some (shelfF a b c x y z) := by
  unfold spec_l04Shelf.f shelfF
  rw [l04Ok_f ha hb hc]
  simp only [Option.bind_some, spec_l04Side.f, l00In_f, decide_eq_true_eq]
  by_cases h : Sh a b c
  · rw [if_pos h, if_pos h]
    repeat' split
    all_goals first | rfl | (exfalso; omega)
  · rw [if_neg h, if_neg h]
/-- does it lie -/
def liesF (a b c x y z : Int) : Bool := decide (c ≤ z ∧ (a ≤ x ∧ b ≤ y ∨ a ≤ y ∧ b ≤ x))
theorem lies_f {a b c : Int} (h : Sh a b c) (x y z : Int) : impl_Sheet_lies.f a b c x y z = some (liesF a b c x y z) := by
  obtain ⟨ha, hb, hc⟩ := h.bd
  unfold impl_Sheet_lies.f liesF
  rw [w64i (by omega) (by omega), w64i (by omega) (by omega), w64i (by omega) (by omega)]
  repeat' split
  all_goals first | exact congrArg some (decide_eq_decide.mpr (by omega)) | exact congrArg some (decide_eq_false (by omega)).symm | exact congrArg some (decide_eq_true (by omega)).symm
theorem l04Fits_f {a b c : Int} (h : Sh a b c) (x y z : Int) : spec_l04Fits.f a b c x y z = some (liesF a b c x y z) := by
  obtain ⟨ha, hb, hc⟩ := h.bd
  unfold spec_l04Fits.f liesF
  rw [w64i (by omega) (by omega), w64i (by omega) (by omega), w64i (by omega) (by omega)]
  repeat' split
  all_goals first | exact congrArg some (decide_eq_decide.mpr (by omega)) | exact congrArg some (decide_eq_false (by omega)).symm | exact congrArg some (decide_eq_true (by omega)).symm
theorem shelfF_0 {a b c x y z : Int} (h : shelfF a b c x y z = 0) : Sh a b c := by
  unfold shelfF at h
  split at h
  · assumption
  · cases h
/-- what FitsShelf tells -/
def fitsF (a b c x y z : Int) : Bool × Int := if shelfF a b c x y z = 0 then (liesF a b c x y z, 0) else (false, shelfF a b c x y z)
theorem implFits_f {a b c : Int} (ha : -32768 ≤ a ∧ a ≤ 32767) (hb : -32768 ≤ b ∧ b ≤ 32767) (hc : -32768 ≤ c ∧ c ≤ 32767) (x y z : Int) {k : Nat} (hk : 2 < k) : impl_FitsShelf.f k a b c x y z = some (fitsF a b c x y z) := by
  unfold impl_FitsShelf.f fitsF
  rw [shelfCode_f ha hb hc x y z hk, Option.bind_some]
  split
  · rename_i h
    rw [lies_f (shelfF_0 h)]
    rfl
  · rfl
end Go.Proofs.Ytjegcpagdpjidaa.X
