/- Plain facts of the printed functions: no program in sight. -/
import Derived.Test.YtkjligoamechkaaX13
import Derived.Test.YtkjligoamechkaaX21
import Derived.Test.YtkjligoamechkaaFactsD5
set_option linter.unusedVariables false
set_option linter.unusedSimpArgs false
namespace Go.Proofs.Ytkjligoamechkaa.X
open Go.RowKit Go.Proofs.YtkjligoamechkaaW.PrintWords Go.Proofs.YtkjligoamechkaaW.PrintLast Go.Proofs.YtkjligoamechkaaW.PrintMore
/-- the first pile with the fewest sheets: the loop -/
def fewF (l : List (List Int)) : Nat → Nat → Nat → Nat
  | 0, b, _ => b
  | d + 1, b, i => if (rd_L1 l i).length < (rd_L1 l b).length then fewF l d i (i + 1) else fewF l d b (i + 1)
theorem fewF_lt (l : List (List Int)) : ∀ (d b i : Nat), b < l.length → i + d ≤ l.length → fewF l d b i < l.length
  | 0, b, i, hb, _ => hb
  | d + 1, b, i, hb, hi => by
    unfold fewF
    split
    · exact fewF_lt l d i (i + 1) (by omega) (by omega)
    · exact fewF_lt l d b (i + 1) hb (by omega)
theorem implFew_loop (l : List (List Int)) (hl : l.length ≤ 1048576) : ∀ (d k b i : Nat), i + d = l.length → d < k → b < l.length → impl_fewest.l0 k l b l (l.length : Int) i = some (fewF l d b i : Int) := by
  intro d
  induction d with
  | zero =>
    intro k b i hi hk hb
    obtain ⟨k, rfl⟩ : ∃ m, k = m + 1 := ⟨k - 1, by omega⟩
    simp only [impl_fewest.l0]
    rw [if_neg (by omega)]
    rfl
  | succ d ih =>
    intro k b i hi hk hb
    obtain ⟨k, rfl⟩ : ∃ m, k = m + 1 := ⟨k - 1, by omega⟩
    simp only [impl_fewest.l0, fewF]
    rw [if_pos (by omega), if_pos (by omega), if_pos (by omega), if_pos (by omega), if_pos (by omega), w64s (by omega)]
    by_cases h : (rd_L1 l i).length < (rd_L1 l b).length
    · rw [if_pos (by omega), if_pos h]
      exact ih k i (i + 1) (by omega) (by omega) (by omega)
    · rw [if_neg (by omega), if_neg h]
      exact ih k b (i + 1) (by omega) (by omega) hb
theorem specFew_loop (l : List (List Int)) (hl : l.length ≤ 1048576) : ∀ (d k b i : Nat), i + d = l.length → d < k → b < l.length → spec_l04Fewest.l0 k l b i = some (fewF l d b i : Int) := by
  intro d
  induction d with
  | zero =>
    intro k b i hi hk hb
    obtain ⟨k, rfl⟩ : ∃ m, k = m + 1 := ⟨k - 1, by omega⟩
    simp only [spec_l04Fewest.l0]
    rw [if_neg (by omega)]
    rfl
  | succ d ih =>
    intro k b i hi hk hb
    obtain ⟨k, rfl⟩ : ∃ m, k = m + 1 := ⟨k - 1, by omega⟩
    simp only [spec_l04Fewest.l0, fewF]
    rw [if_pos (by omega), if_pos (by omega), if_pos (by omega), if_pos (by omega), w64s (by omega)]
    by_cases h : (rd_L1 l i).length < (rd_L1 l b).length
    · rw [if_pos (by omega), if_pos h]
      exact ih k i (i + 1) (by omega) (by omega) (by omega)
    · rw [if_neg (by omega), if_neg h]
      exact ih k b (i + 1) (by omega) (by omega) hb
def fewR (l : List (List Int)) : Nat := fewF l (l.length - 1) 0 1
theorem implFew_f {l : List (List Int)} (hl : l.length ≤ 1048576) (h0 : 0 < l.length) {k : Nat} (hk : 1048577 < k) : impl_fewest.f k l = some (fewR l : Int) := by
  unfold impl_fewest.f fewR
  have h := implFew_loop l hl l.length k 0 0 (by omega) (by omega) h0
  obtain ⟨d, hd⟩ : ∃ d, l.length = d + 1 := ⟨l.length - 1, by omega⟩
  have e : fewF l l.length 0 0 = fewF l (l.length - 1) 0 1 := by
    rw [hd]
    simp [fewF]
  rw [e] at h
  exact h
theorem specFew_f {l : List (List Int)} (hl : l.length ≤ 1048576) (h0 : 0 < l.length) {k : Nat} (hk : 1048577 < k) : spec_l04Fewest.f k l = some (fewR l : Int) := by
  unfold spec_l04Fewest.f fewR
  have h := specFew_loop l hl (l.length - 1) k 0 1 (by omega) (by omega) h0
  exact h

end Go.Proofs.Ytkjligoamechkaa.X
