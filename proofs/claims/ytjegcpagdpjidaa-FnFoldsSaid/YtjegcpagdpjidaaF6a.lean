/- Contracts of functions, and plain facts: what each call answers, and what it leaves as it was. -/
import Derived.Test.YtjegcpagdpjidaaG9
import Derived.Test.YtjegcpagdpjidaaX27
import Derived.Test.YtjegcpagdpjidaaX28
set_option linter.unusedVariables false
set_option linter.unusedSimpArgs false
namespace Go.Proofs.Ytjegcpagdpjidaa.X
open Go.RowKit Go.Proofs.YtjegcpagdpjidaaW.PrintWords Go.Proofs.YtjegcpagdpjidaaW.PrintLast Go.Proofs.YtjegcpagdpjidaaW.PrintMore
attribute [local go_sem] max2_int min2_int max_two min_two max_three min_three max_four min_four
/-- what UnfoldSheet tells -/
def unfoldF (a b c fold : Int) : Int × Int × Int × Int :=
  if Sh a b c then
    (if fold < 0 ∨ 3 < fold then (0, 0, 0, 2)
    else if c % (2 + fold / 2) ≠ 0 then (0, 0, 0, 4)
    else if 1296 < (if fold = 1 ∨ fold = 3 then b else a) * (2 + fold / 2) then (0, 0, 0, 3)
    else if fold = 1 ∨ fold = 3 then (a, b * (2 + fold / 2), c / (2 + fold / 2), 0)
    else (a * (2 + fold / 2), b, c / (2 + fold / 2), 0))
  else (0, 0, 0, 1)
theorem implUnfold_f {a b c : Int} (ha : -32768 ≤ a ∧ a ≤ 32767) (hb : -32768 ≤ b ∧ b ≤ 32767) (hc : -32768 ≤ c ∧ c ≤ 32767) (fold : Int) : impl_UnfoldSheet.f a b c fold = some (unfoldF a b c fold) := by
  unfold impl_UnfoldSheet.f unfoldF
  rw [validSheet_f ha hb hc, Option.bind_some]
  by_cases h : Sh a b c
  · rw [if_pos (decide_eq_true h), if_pos h]
    unfold Sh at h
    rw [if_neg (fun hn => hn h)]
    repeat' split
    all_goals rfl
  · rw [if_neg (by simpa using h), if_neg h]
theorem unfoldF_0 {a b c : Int} (h : Sh a b c) : unfoldF a b c 0 = (if c % 2 ≠ 0 then (0, 0, 0, 4) else if 1296 < a * 2 then (0, 0, 0, 3) else (a * 2, b, c / 2, 0)) := by unfold unfoldF; rw [if_pos h]; rfl
theorem unfoldF_1 {a b c : Int} (h : Sh a b c) : unfoldF a b c 1 = (if c % 2 ≠ 0 then (0, 0, 0, 4) else if 1296 < b * 2 then (0, 0, 0, 3) else (a, b * 2, c / 2, 0)) := by unfold unfoldF; rw [if_pos h]; rfl
theorem unfoldF_2 {a b c : Int} (h : Sh a b c) : unfoldF a b c 2 = (if c % 3 ≠ 0 then (0, 0, 0, 4) else if 1296 < a * 3 then (0, 0, 0, 3) else (a * 3, b, c / 3, 0)) := by unfold unfoldF; rw [if_pos h]; rfl
theorem unfoldF_3 {a b c : Int} (h : Sh a b c) : unfoldF a b c 3 = (if c % 3 ≠ 0 then (0, 0, 0, 4) else if 1296 < b * 3 then (0, 0, 0, 3) else (a, b * 3, c / 3, 0)) := by unfold unfoldF; rw [if_pos h]; rfl
theorem specUnfold_f {a b c : Int} (ha : -32768 ≤ a ∧ a ≤ 32767) (hb : -32768 ≤ b ∧ b ≤ 32767) (hc : -32768 ≤ c ∧ c ≤ 32767) (fold : Int) : spec_UnfoldSheet.f a b c fold = some (unfoldF a b c fold) := by
  unfold spec_UnfoldSheet.f
  rw [l04Ok_f ha hb hc, Option.bind_some]
  by_cases h : Sh a b c
  · rw [if_pos (decide_eq_true h), l04Fold_f, Option.bind_some]
    have hs := h
    obtain ⟨ha1, ha2, hb1, hb2, hc1, hc2⟩ := hs
    by_cases hf : 0 ≤ fold ∧ fold ≤ 3
    · rw [if_pos (decide_eq_true hf)]
      obtain rfl | rfl | rfl | rfl : fold = 0 ∨ fold = 1 ∨ fold = 2 ∨ fold = 3 := by omega
      · simp only [spec_l04By.f, ge_iff_le, Int.reduceLE, if_false, Option.bind_some, Int.reduceTMod, Int.reduceEq]
        rw [unfoldF_0 h, w16 (by omega) (by omega), Int.tmod_eq_emod_of_nonneg (by omega), Int.tdiv_eq_ediv_of_nonneg (by omega), w16 (by omega) (by omega), l04Ok_f (by omega) (by omega) (by omega), Option.bind_some]
        by_cases hm : c % 2 = 0
        · by_cases hl : 1296 < a * 2
          · rw [if_pos hm, if_neg (show ¬ (decide (Sh (a * 2) b (c / 2)) = true) by rw [decide_eq_true_eq]; unfold Sh; omega), if_neg (fun hn => hn hm), if_pos hl]
          · rw [if_pos hm, if_pos (show decide (Sh (a * 2) b (c / 2)) = true from decide_eq_true (by unfold Sh; omega)), if_neg (fun hn => hn hm), if_neg hl]
        · rw [if_neg hm, if_pos hm]
      · simp only [spec_l04By.f, ge_iff_le, Int.reduceLE, if_false, Option.bind_some, Int.reduceTMod, if_true, Int.reduceEq]
        rw [unfoldF_1 h, w16 (by omega) (by omega), Int.tmod_eq_emod_of_nonneg (by omega), Int.tdiv_eq_ediv_of_nonneg (by omega), w16 (by omega) (by omega), l04Ok_f (by omega) (by omega) (by omega), Option.bind_some]
        by_cases hm : c % 2 = 0
        · by_cases hl : 1296 < b * 2
          · rw [if_pos hm, if_neg (show ¬ (decide (Sh a (b * 2) (c / 2)) = true) by rw [decide_eq_true_eq]; unfold Sh; omega), if_neg (fun hn => hn hm), if_pos hl]
          · rw [if_pos hm, if_pos (show decide (Sh a (b * 2) (c / 2)) = true from decide_eq_true (by unfold Sh; omega)), if_neg (fun hn => hn hm), if_neg hl]
        · rw [if_neg hm, if_pos hm]
      · simp only [spec_l04By.f, ge_iff_le, Int.reduceLE, if_true, Option.bind_some, Int.reduceTMod, Int.reduceEq, if_false]
        rw [unfoldF_2 h, w16 (by omega) (by omega), Int.tmod_eq_emod_of_nonneg (by omega), Int.tdiv_eq_ediv_of_nonneg (by omega), w16 (by omega) (by omega), l04Ok_f (by omega) (by omega) (by omega), Option.bind_some]
        by_cases hm : c % 3 = 0
        · by_cases hl : 1296 < a * 3
          · rw [if_pos hm, if_neg (show ¬ (decide (Sh (a * 3) b (c / 3)) = true) by rw [decide_eq_true_eq]; unfold Sh; omega), if_neg (fun hn => hn hm), if_pos hl]
          · rw [if_pos hm, if_pos (show decide (Sh (a * 3) b (c / 3)) = true from decide_eq_true (by unfold Sh; omega)), if_neg (fun hn => hn hm), if_neg hl]
        · rw [if_neg hm, if_pos hm]
      · simp only [spec_l04By.f, ge_iff_le, Int.reduceLE, if_true, if_false, Option.bind_some, Int.reduceTMod, Int.reduceEq]
        rw [unfoldF_3 h, w16 (by omega) (by omega), Int.tmod_eq_emod_of_nonneg (by omega), Int.tdiv_eq_ediv_of_nonneg (by omega), w16 (by omega) (by omega), l04Ok_f (by omega) (by omega) (by omega), Option.bind_some]
        by_cases hm : c % 3 = 0
        · by_cases hl : 1296 < b * 3
          · rw [if_pos hm, if_neg (show ¬ (decide (Sh a (b * 3) (c / 3)) = true) by rw [decide_eq_true_eq]; unfold Sh; omega), if_neg (fun hn => hn hm), if_pos hl]
          · rw [if_pos hm, if_pos (show decide (Sh a (b * 3) (c / 3)) = true from decide_eq_true (by unfold Sh; omega)), if_neg (fun hn => hn hm), if_neg hl]
        · rw [if_neg hm, if_pos hm]
    · rw [if_neg (by simpa using hf)]
      unfold unfoldF
      rw [if_pos h, if_pos (by omega)]
  · rw [if_neg (by simpa using h)]
    unfold unfoldF
    rw [if_neg h]
end Go.Proofs.Ytjegcpagdpjidaa.X
