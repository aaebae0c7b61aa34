/- Contracts of functions, and plain facts: what each call answers, and what it leaves as it was. -/
import Derived.Test.YtkjligoamechkaaX5
import Derived.Test.YtkjligoamechkaaX16
import Derived.Test.YtkjligoamechkaaX17
import Derived.Test.YtkjligoamechkaaX18
import Derived.Test.YtkjligoamechkaaX19
import Derived.Test.YtkjligoamechkaaFD3
set_option linter.unusedVariables false
set_option linter.unusedSimpArgs false
namespace Go.Proofs.Ytkjligoamechkaa.X
open Go.RowKit Go.Proofs.YtkjligoamechkaaW.PrintWords Go.Proofs.YtkjligoamechkaaW.PrintLast Go.Proofs.YtkjligoamechkaaW.PrintMore
attribute [local go_sem] max2_int min2_int max_two min_two max_three min_three max_four min_four
theorem take_snoc {l : List (List Int)} {i : Nat} (hi : i < l.length) : l.take i ++ [rd_L1 l i] = l.take (i + 1) := by rw [List.take_add_one]; simp [rd_L1, List.getElem?_eq_getElem hi]
theorem rd_le {l : List (List Int)} {i : Nat} (hi : i < l.length) : (rd_L1 l i).length ≤ l.flatten.length := by rw [rd_L1_eq hi]; exact row_le (List.getElem_mem _)
theorem own_loop (l : List (List Int)) (hl : l.length ≤ 1048576) (hf : l.flatten.length ≤ 1048576) : ∀ (d k i : Nat), i + d = l.length → d < k → spec_l04Own.l0 k l (l.take i) i = some l := by
  intro d
  induction d with
  | zero =>
    intro k i hi hk
    obtain ⟨k, rfl⟩ : ∃ m, k = m + 1 := ⟨k - 1, by omega⟩
    simp only [spec_l04Own.l0]
    rw [if_neg (by omega), List.take_of_length_le (by omega)]
  | succ d ih =>
    intro k i hi hk
    obtain ⟨k, rfl⟩ : ∃ m, k = m + 1 := ⟨k - 1, by omega⟩
    have hr := rd_le (l := l) (i := i) (by omega)
    have ho : spec_l00Own.f (rd_L1 l i) = some (rd_L1 l i) := by unfold spec_l00Own.f; rw [Option.bind_some, if_pos (by simp; omega)]; rfl
    simp only [spec_l04Own.l0]
    rw [if_pos (by omega), if_pos (by omega), ho, Option.bind_some, if_pos (by rw [List.length_take]; omega), take_snoc (by omega), w64s (by omega)]
    exact ih k (i + 1) (by omega) (by omega)
theorem own_f {l : List (List Int)} (hl : l.length ≤ 1048576) (hf : l.flatten.length ≤ 1048576) {k : Nat} (hk : 1048576 < k) : spec_l04Own.f k l = some l := by
  unfold spec_l04Own.f
  have := own_loop l hl hf l.length k 0 (by omega) (by omega)
  simpa using this
theorem copy_loop (l : List (List Int)) (hl : l.length ≤ 1048576) (hf : l.flatten.length ≤ 1048576) : ∀ (d k i : Nat), i + d = l.length → d < k → impl_copyCupboard.l0 k (l.take i) l (l.length : Int) i = some l := by
  intro d
  induction d with
  | zero =>
    intro k i hi hk
    obtain ⟨k, rfl⟩ : ∃ m, k = m + 1 := ⟨k - 1, by omega⟩
    simp only [impl_copyCupboard.l0]
    rw [if_neg (by omega), List.take_of_length_le (by omega)]
  | succ d ih =>
    intro k i hi hk
    obtain ⟨k, rfl⟩ : ∃ m, k = m + 1 := ⟨k - 1, by omega⟩
    have hr := rd_le (l := l) (i := i) (by omega)
    have ho : slices_Clone_int64_int64.f (rd_L1 l i) = some (rd_L1 l i) := by unfold slices_Clone_int64_int64.f; rw [if_pos (by omega)]
    simp only [impl_copyCupboard.l0]
    rw [if_pos (by omega), if_pos (by omega), if_pos (by omega), ho, Option.bind_some, if_pos (by rw [List.length_take]; omega), take_snoc (by omega), w64s (by omega)]
    exact ih k (i + 1) (by omega) (by omega)
theorem copy_f {l : List (List Int)} (hl : l.length ≤ 1048576) (hf : l.flatten.length ≤ 1048576) {k : Nat} (hk : 1048576 < k) : impl_copyCupboard.f k l = some l := by
  unfold impl_copyCupboard.f
  have := copy_loop l hl hf l.length k 0 (by omega) (by omega)
  simpa using this
def takeR (l : List (List Int)) (a : Int) : List (List Int) × Int × Int :=
  if good0 l 0 = true then (if 0 ≤ a ∧ a ≤ (l.length : Int) - 1 then (if (rd_L1 l a).length = 0 then ([], 0, 6) else (l.set a.toNat ((rd_L1 l a).drop 1), rd (rd_L1 l a) 0, 0)) else ([], 0, 2)) else ([], 0, 1)
theorem in_f (a b c : Int) : spec_l00In.f a b c = some (decide (b ≤ a ∧ a ≤ c)) := by
  unfold spec_l00In.f
  by_cases h : a ≥ b
  · rw [if_pos h]; congr 1; rw [Bool.eq_iff_iff, decide_eq_true_iff, decide_eq_true_iff]; omega
  · rw [if_neg h]; congr 1; rw [eq_comm, decide_eq_false_iff_not]; omega
theorem within_f (a b c : Int) : impl_within.f a b c = some (decide (b ≤ a ∧ a ≤ c)) := by
  unfold impl_within.f
  split
  · congr 1; rw [Bool.eq_iff_iff, decide_eq_true_iff, decide_eq_true_iff]; omega
  · congr 1; rw [eq_comm, decide_eq_false_iff_not]; omega
theorem take_core {l : List (List Int)} {a : Int} (h : 0 ≤ a ∧ a ≤ (l.length : Int) - 1) {F : Option (List (List Int))} (hF : F = some l) :
    (if 0 ≤ a then (if a < (l.length : Int) then (if ((rd_L1 l a).length : Int) = 0 then (some (([] : List (List Int)), (0 : Int), (6 : Int))) else (F.bind fun t105 => (if a < (t105.length : Int) then (if 0 < ((rd_L1 t105 a).length : Int) then (if 1 ≤ ((rd_L1 t105 a).length : Int) then (some ((t105.set (a : Int).toNat ((rd_L1 t105 a).drop 1)), rd (rd_L1 t105 a) 0, 0)) else (none)) else (none)) else (none)))) else (none)) else (none)) = some (if (rd_L1 l a).length = 0 then ([], 0, 6) else (l.set a.toNat ((rd_L1 l a).drop 1), rd (rd_L1 l a) 0, 0)) := by
  rw [if_pos h.1, if_pos (by omega), hF]
  by_cases h0 : (rd_L1 l a).length = 0
  · rw [if_pos (by omega), if_pos h0]
  · rw [if_neg (by omega), if_neg h0, Option.bind_some, if_pos (by omega), if_pos (by omega), if_pos (by omega)]
theorem specTake_f (a : Int) {l : List (List Int)} (hl : l.length ≤ 1048576) (hf : l.flatten.length ≤ 1048576) {k : Nat} (hk : 5242885 < k) : spec_TakeSheet.f k l a = some (takeR l a) := by
  unfold spec_TakeSheet.f takeR
  rw [specCup_f hl hf hk, Option.bind_some, w64i (by omega) (by omega), in_f, Option.bind_some]
  by_cases h : good0 l 0 = true
  · rw [if_pos h, if_pos h]
    by_cases h2 : 0 ≤ a ∧ a ≤ (l.length : Int) - 1
    · rw [if_pos (by simpa using h2), if_pos h2]
      exact take_core h2 (own_f hl hf (by omega))
    · rw [if_neg (by simpa using h2), if_neg h2]
  · rw [if_neg h, if_neg h]
theorem implTake_f (a : Int) {l : List (List Int)} (hl : l.length ≤ 1048576) (hf : l.flatten.length ≤ 1048576) {k : Nat} (hk : 5242885 < k) : impl_TakeSheet.f k l a = some (takeR l a) := by
  unfold impl_TakeSheet.f takeR
  have hs : impl_size_int64_36.f l = some (l.length : Int) := by unfold impl_size_int64_36.f; simp
  rw [implCup_f hf, Option.bind_some, hs, Option.bind_some, w64i (by omega) (by omega), within_f, Option.bind_some]
  by_cases h : good0 l 0 = true
  · rw [if_pos h, if_pos h]
    by_cases h2 : 0 ≤ a ∧ a ≤ (l.length : Int) - 1
    · rw [if_pos (by simpa using h2), if_pos h2]
      exact take_core h2 (copy_f hl hf (by omega))
    · rw [if_neg (by simpa using h2), if_neg h2]
  · rw [if_neg h, if_neg h]
end Go.Proofs.Ytkjligoamechkaa.X
