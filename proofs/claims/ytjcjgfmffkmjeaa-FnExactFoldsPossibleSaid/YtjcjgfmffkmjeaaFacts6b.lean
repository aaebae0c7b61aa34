/- Plain facts of the printed functions: no program in sight. -/
import Derived.Test.YtjcjgfmffkmjeaaX0
import Derived.Test.YtjcjgfmffkmjeaaX31
import Derived.Test.YtjcjgfmffkmjeaaX32
import Derived.Test.YtjcjgfmffkmjeaaFacts3b
set_option linter.unusedVariables false
set_option linter.unusedSimpArgs false
namespace Go.Proofs.Ytjcjgfmffkmjeaa.X
open Go.RowKit Go.Proofs.YtjcjgfmffkmjeaaW.PrintWords Go.Proofs.YtjcjgfmffkmjeaaW.PrintLast Go.Proofs.YtjcjgfmffkmjeaaW.PrintMore
/-- the folds from i on that can be made -/
def possF (a b c : Int) : Nat → Int → List Int
  | 0, _ => []
  | d + 1, i => (if (madeF a b c i).2.2.2 = 0 then [i] else []) ++ possF a b c d (i + 1)
theorem specPoss_loop {a b c : Int} (h : Sh a b c) : ∀ (d k i : Nat) (out : List Int), i + d = 4 → d + 1 < k → out.length + d ≤ 4294967296 → spec_FoldsPossible.l0 k out i a b c = some (out ++ possF a b c d i, 0) := by
  intro d
  induction d with
  | zero =>
    intro k i out hi hk ho
    obtain ⟨k, rfl⟩ : ∃ m, k = m + 1 := ⟨k - 1, by omega⟩
    simp only [spec_FoldsPossible.l0]
    rw [if_neg (by omega)]
    simp [possF]
  | succ d ih =>
    intro k i out hi hk ho
    obtain ⟨k, rfl⟩ : ∃ m, k = m + 1 := ⟨k - 1, by omega⟩
    simp only [spec_FoldsPossible.l0]
    rw [if_pos (by omega), l04Made_k h _ (by omega), Option.bind_some, w64s (by omega)]
    have hc : ((i : Int) + 1) = ((i + 1 : Nat) : Int) := by omega
    simp only [possF]
    rw [hc]
    split
    · rw [if_pos (by omega), ih k (i + 1) _ (by omega) (by omega) (by simp; omega)]
      simp
    · rw [ih k (i + 1) _ (by omega) (by omega) (by omega)]
      simp
theorem implPoss_loop {a b c : Int} (h : Sh a b c) : ∀ (d k i : Nat) (out : List Int), i + d = 4 → d < k → out.length + d ≤ 4294967296 → impl_FoldsPossible.l0 k out i a b c = some (out ++ possF a b c d i, 0) := by
  intro d
  induction d with
  | zero =>
    intro k i out hi hk ho
    obtain ⟨k, rfl⟩ : ∃ m, k = m + 1 := ⟨k - 1, by omega⟩
    simp only [impl_FoldsPossible.l0]
    rw [if_neg (by omega)]
    simp [possF]
  | succ d ih =>
    intro k i out hi hk ho
    obtain ⟨k, rfl⟩ : ∃ m, k = m + 1 := ⟨k - 1, by omega⟩
    simp only [impl_FoldsPossible.l0]
    rw [if_pos (by omega), folded_f h, Option.bind_some, w64s (by omega)]
    have hc : ((i : Int) + 1) = ((i + 1 : Nat) : Int) := by omega
    simp only [possF]
    rw [hc]
    split
    · rw [if_pos (by omega), ih k (i + 1) _ (by omega) (by omega) (by simp; omega)]
      simp
    · rw [ih k (i + 1) _ (by omega) (by omega) (by omega)]
      simp
/-- what FoldsPossible tells -/
def possibleF (a b c : Int) : List Int × Int := if Sh a b c then (possF a b c 4 0, 0) else ([], 1)
theorem possF_len (a b c : Int) : ∀ (d : Nat) (i : Int), (possF a b c d i).length ≤ d
  | 0, _ => by simp [possF]
  | d + 1, i => by
    have := possF_len a b c d (i + 1)
    simp only [possF, List.length_append]
    split <;> simp <;> omega
theorem possibleF_len (a b c : Int) : (possibleF a b c).1.length ≤ 4 := by
  unfold possibleF
  split
  · exact possF_len a b c 4 0
  · simp
theorem specPoss_f {a b c : Int} (ha : -32768 ≤ a ∧ a ≤ 32767) (hb : -32768 ≤ b ∧ b ≤ 32767) (hc : -32768 ≤ c ∧ c ≤ 32767) {k : Nat} (hk : 5 < k) : spec_FoldsPossible.f k a b c = some (possibleF a b c) := by
  unfold spec_FoldsPossible.f possibleF
  rw [l04Ok_f ha hb hc, Option.bind_some]
  by_cases h : Sh a b c
  · rw [if_pos (decide_eq_true h), if_pos h]
    simpa using specPoss_loop h 4 k 0 [] (by omega) (by omega) (by simp)
  · rw [if_neg (by simpa using h), if_neg h]
theorem implPoss_f {a b c : Int} (ha : -32768 ≤ a ∧ a ≤ 32767) (hb : -32768 ≤ b ∧ b ≤ 32767) (hc : -32768 ≤ c ∧ c ≤ 32767) {k : Nat} (hk : 5 < k) : impl_FoldsPossible.f k a b c = some (possibleF a b c) := by
  unfold impl_FoldsPossible.f possibleF
  rw [validSheet_f ha hb hc, Option.bind_some]
  by_cases h : Sh a b c
  · rw [if_pos (decide_eq_true h), if_pos h]
    simpa using implPoss_loop h 4 k 0 [] (by omega) (by omega) (by simp)
  · rw [if_neg (by simpa using h), if_neg h]

end Go.Proofs.Ytjcjgfmffkmjeaa.X
