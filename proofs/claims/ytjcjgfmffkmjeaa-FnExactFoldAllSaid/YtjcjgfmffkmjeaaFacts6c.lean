/- Plain facts of the printed functions: no program in sight. -/
import Derived.Test.YtjcjgfmffkmjeaaX0
import Derived.Test.YtjcjgfmffkmjeaaX34
import Derived.Test.YtjcjgfmffkmjeaaX35
import Derived.Test.YtjcjgfmffkmjeaaFacts3b
import Derived.Test.YtjcjgfmffkmjeaaFacts5a
set_option linter.unusedVariables false
set_option linter.unusedSimpArgs false
namespace Go.Proofs.Ytjcjgfmffkmjeaa.X
open Go.RowKit Go.Proofs.YtjcjgfmffkmjeaaW.PrintWords Go.Proofs.YtjcjgfmffkmjeaaW.PrintLast Go.Proofs.YtjcjgfmffkmjeaaW.PrintMore
/-- folds one after the other -/
def allFoldF : Int → Int → Int → List Int → Int × Int × Int × Int
  | a, b, c, [] => (a, b, c, 0)
  | a, b, c, f :: fs => if (madeF a b c f).2.2.2 = 0 then allFoldF (madeF a b c f).1 (madeF a b c f).2.1 (madeF a b c f).2.2.1 fs else (0, 0, 0, (madeF a b c f).2.2.2)
theorem specAll_loop (l : List Int) (hl : l.length ≤ 12) : ∀ (d k i : Nat) (a b c : Int), Sh a b c → i + d = l.length → d + 1 < k → spec_FoldAll.l0 k l i a b c = some (allFoldF a b c (l.drop i)) := by
  intro d
  induction d with
  | zero =>
    intro k i a b c h hi hk
    obtain ⟨k, rfl⟩ : ∃ m, k = m + 1 := ⟨k - 1, by omega⟩
    simp only [spec_FoldAll.l0]
    rw [if_neg (by omega), List.drop_eq_nil_of_le (by omega)]
    rfl
  | succ d ih =>
    intro k i a b c h hi hk
    obtain ⟨k, rfl⟩ : ∃ m, k = m + 1 := ⟨k - 1, by omega⟩
    simp only [spec_FoldAll.l0]
    have hd : l.drop i = l[i] :: l.drop (i + 1) := List.drop_eq_getElem_cons (by omega)
    rw [if_pos (by omega), if_pos (by omega), rd_eq (by omega), l04Made_k h _ (by omega), Option.bind_some, w64s (by omega), hd]
    simp only [allFoldF]
    split
    · rename_i h0
      exact ih k (i + 1) _ _ _ (madeF_sh h _ h0) (by omega) (by omega)
    · rfl
/-- .. from a code on -/
def allCodeF (code a b c : Int) (l : List Int) : Int × Int × Int × Int := if code = 0 then allFoldF a b c l else (0, 0, 0, code)
theorem implAll_loop (l : List Int) (hl : l.length ≤ 4294967296) : ∀ (d k i : Nat) (code a b c : Int), (code = 0 → Sh a b c) → i + d = l.length → d < k → impl_FoldAll.l0 k code l (l.length : Int) i a b c = some (allCodeF code a b c (l.drop i)) := by
  intro d
  induction d with
  | zero =>
    intro k i code a b c h hi hk
    obtain ⟨k, rfl⟩ : ∃ m, k = m + 1 := ⟨k - 1, by omega⟩
    simp only [impl_FoldAll.l0]
    rw [if_neg (by omega), List.drop_eq_nil_of_le (by omega)]
    unfold allCodeF
    split <;> rfl
  | succ d ih =>
    intro k i code a b c h hi hk
    obtain ⟨k, rfl⟩ : ∃ m, k = m + 1 := ⟨k - 1, by omega⟩
    simp only [impl_FoldAll.l0]
    have hd : l.drop i = l[i] :: l.drop (i + 1) := List.drop_eq_getElem_cons (by omega)
    rw [if_pos (by omega), if_pos (by omega), if_pos (by omega), rd_eq (by omega), w64s (by omega), hd]
    by_cases h0 : code = 0
    · rw [if_pos h0, folded_f (h h0), Option.bind_some, ih k (i + 1) _ _ _ _ (fun e => madeF_sh (h h0) _ e) (by omega) (by omega)]
      unfold allCodeF
      rw [if_pos h0]
      simp only [allFoldF]
    · rw [if_neg h0, ih k (i + 1) _ _ _ _ (fun e => absurd e h0) (by omega) (by omega)]
      unfold allCodeF
      rw [if_neg h0, if_neg h0]
/-- what FoldAll tells -/
def foldAllF (a b c : Int) (l : List Int) : Int × Int × Int × Int := if Sh a b c then (if 12 < l.length then (0, 0, 0, 3) else allFoldF a b c l) else (0, 0, 0, 1)
theorem specAll_f {a b c : Int} (ha : -32768 ≤ a ∧ a ≤ 32767) (hb : -32768 ≤ b ∧ b ≤ 32767) (hc : -32768 ≤ c ∧ c ≤ 32767) {l : List Int} {k : Nat} (hk : l.length + 1 < k) : spec_FoldAll.f k a b c l = some (foldAllF a b c l) := by
  unfold spec_FoldAll.f foldAllF
  rw [l04Ok_f ha hb hc, Option.bind_some]
  by_cases h : Sh a b c
  · rw [if_pos (decide_eq_true h), if_pos h]
    by_cases hl : 12 < l.length
    · rw [if_pos (by omega), if_pos hl]
    · rw [if_neg (by omega), if_neg hl]
      simpa using specAll_loop l (by omega) l.length k 0 a b c h (by omega) (by omega)
  · rw [if_neg (by simpa using h), if_neg h]
theorem implAll_f {a b c : Int} (ha : -32768 ≤ a ∧ a ≤ 32767) (hb : -32768 ≤ b ∧ b ≤ 32767) (hc : -32768 ≤ c ∧ c ≤ 32767) {l : List Int} (hll : l.length ≤ 4294967296) {k : Nat} (hk : l.length + 2 < k) : impl_FoldAll.f k a b c l = some (foldAllF a b c l) := by
  unfold impl_FoldAll.f foldAllF
  rw [validSheet_f ha hb hc, Option.bind_some, unless_f, Option.bind_some, unless_f, Option.bind_some, firstOf_f (by simp) (by simp; omega), Option.bind_some]
  have h2 := implAll_loop l hll l.length k 0
  rw [List.drop_zero] at h2
  by_cases h : Sh a b c
  · rw [if_pos h]
    by_cases hl : 12 < l.length
    · rw [if_pos hl]
      have e : firstNZ [if decide (Sh a b c) = true then 0 else 1, if decide ((l.length : Int) ≤ 12) = true then 0 else 3] = 3 := by
        rw [if_pos (decide_eq_true h), if_neg (by simp; omega)]; rfl
      rw [e]
      have := h2 3 a b c (fun e => by cases e) (by omega) (by omega)
      simpa [allCodeF] using this
    · rw [if_neg hl]
      have e : firstNZ [if decide (Sh a b c) = true then 0 else 1, if decide ((l.length : Int) ≤ 12) = true then 0 else 3] = 0 := by
        rw [if_pos (decide_eq_true h), if_pos (by simp; omega)]; rfl
      rw [e]
      have := h2 0 a b c (fun _ => h) (by omega) (by omega)
      simpa [allCodeF] using this
  · rw [if_neg h]
    have e : firstNZ [if decide (Sh a b c) = true then 0 else 1, if decide ((l.length : Int) ≤ 12) = true then 0 else 3] = 1 := by
      rw [if_neg (by simpa using h)]; rfl
    rw [e]
    have := h2 1 a b c (fun e => by cases e) (by omega) (by omega)
    simpa [allCodeF] using this

end Go.Proofs.Ytjcjgfmffkmjeaa.X
