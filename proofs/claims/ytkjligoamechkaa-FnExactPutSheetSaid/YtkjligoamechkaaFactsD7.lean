/- Plain facts of the printed functions: no program in sight. -/
import Derived.Test.YtkjligoamechkaaX21
import Derived.Test.YtkjligoamechkaaX22
import Derived.Test.YtkjligoamechkaaX23
import Derived.Test.YtkjligoamechkaaFactsD6
set_option linter.unusedVariables false
set_option linter.unusedSimpArgs false
namespace Go.Proofs.Ytkjligoamechkaa.X
open Go.RowKit Go.Proofs.YtkjligoamechkaaW.PrintWords Go.Proofs.YtkjligoamechkaaW.PrintLast Go.Proofs.YtkjligoamechkaaW.PrintMore
theorem ixR_mem (v : Int) : ∀ (l : List Int) (j : Nat), 0 ≤ ixR v l j ↔ v ∈ l
  | [], j => by simp [ixR]
  | x :: xs, j => by
    unfold ixR
    by_cases h : x = v
    · rw [if_pos h]; simp [h]
    · rw [if_neg h, ixR_mem v xs (j + 1)]
      have h2 : ¬ v = x := fun e => h e.symm
      simp [h2]
theorem whereR_mem (v : Int) : ∀ (l : List (List Int)) (i : Nat), 0 ≤ (whereR v l i).1 ↔ v ∈ l.flatten
  | [], i => by simp [whereR]
  | p :: ps, i => by
    unfold whereR
    by_cases h : 0 ≤ ixR v p 0
    · rw [if_pos h]
      have := (ixR_mem v p 0).1 h
      rw [List.flatten_cons, List.mem_append]
      exact ⟨fun _ => .inl this, fun _ => by show (0 : Int) ≤ (i : Int); omega⟩
    · rw [if_neg h, whereR_mem v ps (i + 1), List.flatten_cons, List.mem_append]
      have := fun hm => h ((ixR_mem v p 0).2 hm)
      exact ⟨.inr, fun hm => hm.elim (fun h2 => (this h2).elim) id⟩
def putR (l : List (List Int)) (a : Int) : List (List Int) × Int × Int :=
  if good0 l 0 = true then (if 0 ≤ a ∧ a ≤ 999 then (if a ∈ l.flatten then ([], 0, 4) else if (rd_L1 l (fewR l)).length = 8 then ([], 0, 3) else (l.set (fewR l) (rd_L1 l (fewR l) ++ [a]), (fewR l : Int), 0)) else ([], 0, 2)) else ([], 0, 1)
theorem good_pos {l : List (List Int)} (h : good0 l 0 = true) : 0 < l.length ∧ l.length ≤ 6 := by
  simp only [good0, tailB, Bool.and_eq_true, decide_eq_true_eq] at h
  exact ⟨h.2.2.2.1, h.2.2.1⟩
theorem fewR_lt {l : List (List Int)} (h0 : 0 < l.length) : fewR l < l.length := fewF_lt l _ 0 1 h0 (by omega)
theorem specPut_f (a : Int) {l : List (List Int)} (hl : l.length ≤ 1048576) (hf : l.flatten.length ≤ 1048576) {k : Nat} (hk : 5242885 < k) : spec_PutSheet.f k l a = some (putR l a) := by
  unfold spec_PutSheet.f putR
  rw [specCup_f hl hf hk, Option.bind_some, specNumber_f, Option.bind_some]
  by_cases h : good0 l 0 = true
  · have hp := (good_pos h).1
    have hlt := fewR_lt hp
    have hr := rd_le (l := l) hlt
    rw [if_pos h, if_pos h]
    by_cases h2 : 0 ≤ a ∧ a ≤ 999
    · rw [if_pos (by simpa using h2), if_pos h2, specWhere_f a hl hf (by omega), Option.bind_some, specFew_f hl hp (by omega), Option.bind_some, own_f hl hf (by omega), Option.bind_some]
      by_cases h3 : a ∈ l.flatten
      · rw [if_pos h3, if_pos ((whereR_mem a l 0).2 h3)]
      · rw [if_neg h3, if_neg (fun hh => h3 ((whereR_mem a l 0).1 hh)), if_pos (by omega), if_pos (by omega)]
        by_cases h8 : (rd_L1 l (fewR l)).length = 8
        · rw [if_pos (by omega), if_pos h8]
        · rw [if_neg (by omega), if_neg h8, if_pos (by omega), if_pos (by omega), Int.toNat_natCast]
    · rw [if_neg (by simpa using h2), if_neg h2]
  · rw [if_neg h, if_neg h]
theorem implPut_f (a : Int) {l : List (List Int)} (hl : l.length ≤ 1048576) (hf : l.flatten.length ≤ 1048576) {k : Nat} (hk : 5242885 < k) : impl_PutSheet.f k l a = some (putR l a) := by
  unfold impl_PutSheet.f putR
  have hc : slices_Concat_int64_int64.f l = some l.flatten := by unfold slices_Concat_int64_int64.f; rw [if_pos (by omega)]
  have hs : slices_Contains_int64_int64.f k l.flatten a = some (decide (a ∈ l.flatten)) := by
    unfold slices_Contains_int64_int64.f
    rw [index_f a (by omega) (by omega), Option.bind_some]
    congr 1
    rw [Bool.eq_iff_iff, decide_eq_true_iff, decide_eq_true_iff]
    exact ixR_mem a l.flatten 0
  rw [implCup_f hf, Option.bind_some, within_f, Option.bind_some, hc, Option.bind_some, hs, Option.bind_some, copy_f hl hf (by omega), Option.bind_some]
  by_cases h : good0 l 0 = true
  · have hp := (good_pos h).1
    have hlt := fewR_lt hp
    have hr := rd_le (l := l) hlt
    rw [if_pos h, if_pos h, implFew_f hl hp (by omega), Option.bind_some]
    by_cases h2 : 0 ≤ a ∧ a ≤ 999
    · rw [if_pos (by simpa using h2), if_pos h2]
      by_cases h3 : a ∈ l.flatten
      · rw [if_pos h3, if_pos (by simpa using h3)]
      · rw [if_neg h3, if_neg (by simpa using h3), if_pos (by omega), if_pos (by omega)]
        by_cases h8 : (rd_L1 l (fewR l)).length = 8
        · rw [if_pos (by omega), if_pos h8]
        · rw [if_neg (by omega), if_neg h8, if_pos (by omega), Int.toNat_natCast]
    · rw [if_neg (by simpa using h2), if_neg h2]
  · rw [if_neg h, if_neg h]
theorem flat_small : ∀ (l : List (List Int)), (∀ p ∈ l, p.length ≤ 9) → l.flatten.length ≤ 9 * l.length
  | [], _ => by simp
  | p :: ps, h => by
    have h1 := flat_small ps (fun q hq => h q (List.mem_cons_of_mem _ hq))
    have h2 := h p List.mem_cons_self
    rw [List.flatten_cons, List.length_append, List.length_cons]
    omega
theorem putR_small (l : List (List Int)) (a : Int) : (putR l a).1.length ≤ 6 ∧ (putR l a).1.flatten.length ≤ 54 := by
  unfold putR
  split
  · rename_i h
    have hp := good_pos h
    have h8 : ∀ p ∈ l, p.length ≤ 8 := by
      simp only [good0, Bool.and_eq_true, List.all_eq_true, List.drop_zero, shortB, decide_eq_true_eq] at h
      exact h.2.1
    split
    · split
      · simp
      · split
        · simp
        · have hlt := fewR_lt hp.1
          have hs := flat_small (l.set (fewR l) (rd_L1 l (fewR l) ++ [a])) (fun p hm => by
            rcases List.mem_or_eq_of_mem_set hm with hm | rfl
            · have := h8 p hm; omega
            · have := h8 (rd_L1 l (fewR l)) (by rw [rd_L1_eq hlt]; exact List.getElem_mem _)
              rw [List.length_append, List.length_singleton]; omega)
          rw [List.length_set] at hs
          refine ⟨by simp; omega, ?_⟩
          show (l.set (fewR l) (rd_L1 l (fewR l) ++ [a])).flatten.length ≤ 54
          omega
    · simp
  · simp

end Go.Proofs.Ytkjligoamechkaa.X
