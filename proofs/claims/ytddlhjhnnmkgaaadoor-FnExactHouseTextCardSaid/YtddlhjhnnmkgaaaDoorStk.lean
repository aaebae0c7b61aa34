/- Contracts of functions, and plain facts: what each call answers, and what it leaves as it was. -/
import Derived.Test.YtddlhjhnnmkgaaaDoorX5
set_option linter.unusedVariables false
set_option linter.unusedSimpArgs false
namespace Go.Proofs.YtddlhjhnnmkgaaaDoor.X
open Go.RowKit Go.Proofs.YtddlhjhnnmkgaaaDoorW.PrintWords Go.Proofs.YtddlhjhnnmkgaaaDoorW.PrintLast Go.Proofs.YtddlhjhnnmkgaaaDoorW.PrintMore
attribute [local go_sem] max2_int min2_int max_two min_two max_three min_three max_four min_four
/-- the pieces of a stock: r, and those of the first n uses -/
def sumP (K : List Int) (r : Int) : Nat → Int
  | 0 => r
  | n + 1 => sumP K r n + (K.getD n 0 + K.getD (8 + n) 0 + K.getD (16 + n) 0)
def fineP (K : List Int) (r : Int) : Nat → Bool
  | 0 => decide (0 ≤ r)
  | n + 1 => fineP K r n && decide (0 ≤ K.getD n 0) && decide (0 ≤ K.getD (8 + n) 0) && decide (0 ≤ K.getD (16 + n) 0)
def stkR (K : List Int) (r : Int) : Prop := (∀ j, -32768 ≤ K.getD j 0 ∧ K.getD j 0 ≤ 32767) ∧ -2147483648 ≤ r ∧ r ≤ 2147483647
theorem sumP_range {K : List Int} {r : Int} (h : stkR K r) : ∀ n : Nat, -2147483648 - 98304 * (n : Int) ≤ sumP K r n ∧ sumP K r n ≤ 2147483647 + 98304 * (n : Int)
  | 0 => by have := h.2; simp only [sumP]; omega
  | n + 1 => by
    have := sumP_range h n
    have := h.1 n
    have := h.1 (8 + n)
    have := h.1 (16 + n)
    simp only [sumP]
    omega
/-- a stock that there can be -/
def stkOk (K : List Int) (r : Int) : Bool := fineP K r 8 && decide (sumP K r 8 ≤ 500)
theorem sum_total {K : List Int} (hK : K.length = 24) (r : Int) : (K ++ [r]).sum = sumP K r 8 := by
  match K, hK with
  | [a0, a1, a2, a3, a4, a5, a6, a7, a8, a9, a10, a11, a12, a13, a14, a15, a16, a17, a18, a19, a20, a21, a22, a23], _ => simp [sumP]; omega
set_option maxRecDepth 100000 in
theorem stk_ok {K : List Int} (hK : K.length = 24) (r : Int) : ((K ++ [r]).all (fun x => decide (0 ≤ x) && decide (x ≤ 500)) && decide ((K ++ [r]).sum ≤ 500)) = stkOk K r := by
  rw [sum_total hK]
  unfold stkOk
  match K, hK with
  | [a0, a1, a2, a3, a4, a5, a6, a7, a8, a9, a10, a11, a12, a13, a14, a15, a16, a17, a18, a19, a20, a21, a22, a23], _ =>
    rw [Bool.eq_iff_iff]
    simp only [sumP, fineP, List.cons_append, List.nil_append, List.all_cons, List.all_nil, Bool.and_true, Bool.and_eq_true, decide_eq_true_eq, List.getD_cons_zero, List.getD_cons_succ, Nat.reduceAdd]
    constructor
    · intro h; omega
    · intro h; omega
theorem take_sum_range {l : List Int} (hb : ∀ j, -2147483648 ≤ l.getD j 0 ∧ l.getD j 0 ≤ 2147483647) : ∀ i : Nat, -2147483648 * (i : Int) ≤ (l.take i).sum ∧ (l.take i).sum ≤ 2147483648 * (i : Int)
  | 0 => by simp
  | i + 1 => by
    have h1 := take_sum_range hb i
    have h2 := hb i
    rcases Nat.lt_or_ge i l.length with h | h
    · rw [List.take_add_one, List.getElem?_eq_getElem h]
      rw [List.getD_eq_getElem?_getD, List.getElem?_eq_getElem h] at h2
      simp only [Option.toList_some, List.sum_append, List.sum_cons, List.sum_nil, Option.getD_some] at h2 ⊢
      omega
    · rw [List.take_of_length_le (by omega)] at h1 ⊢
      omega
theorem sum_loop (l : List Int) (hl : l.length ≤ 1000) (hb : ∀ j, -2147483648 ≤ l.getD j 0 ∧ l.getD j 0 ≤ 2147483647) : ∀ (d k i : Nat), i + d = l.length → d < k → impl_sum.l0 k ((l.take i).sum) l (l.length : Int) i = some l.sum := by
  intro d
  induction d with
  | zero =>
    intro k i hi hk
    obtain ⟨k, rfl⟩ : ∃ m, k = m + 1 := ⟨k - 1, by omega⟩
    simp only [impl_sum.l0]
    rw [if_neg (by omega), List.take_of_length_le (by omega)]
  | succ d ih =>
    intro k i hi hk
    obtain ⟨k, rfl⟩ : ∃ m, k = m + 1 := ⟨k - 1, by omega⟩
    simp only [impl_sum.l0]
    have e1 : wrap64 ((i : Int) + 1) = ((i + 1 : Nat) : Int) := by unfold wrap64; omega
    have h1 := take_sum_range hb i
    have h2 := take_sum_range hb (i + 1)
    have e2 : (l.take (i + 1)).sum = (l.take i).sum + rd l (i : Int) := by
      rw [List.take_add_one, List.getElem?_eq_getElem (by omega), show rd l (i : Int) = l[i]'(by omega) by simp [rd, List.getElem?_eq_getElem (show i < l.length by omega)]]
      simp only [Option.toList_some, List.sum_append, List.sum_cons, List.sum_nil]
      omega
    have e3 : wrap64 ((l.take i).sum + rd l (i : Int)) = (l.take (i + 1)).sum := by rw [← e2]; unfold wrap64; omega
    rw [if_pos (by omega), if_pos (by omega), if_pos (by omega), e1, e3]
    exact ih k (i + 1) (by omega) (by omega)
theorem sum_f (l : List Int) (hl : l.length ≤ 1000) (hb : ∀ j, -2147483648 ≤ l.getD j 0 ∧ l.getD j 0 ≤ 2147483647) : impl_sum.f 1001 l = some l.sum := by
  unfold impl_sum.f
  have := sum_loop l hl hb l.length 1001 0 (by omega) (by omega)
  simpa using this
theorem row_range {K : List Int} {r : Int} (h : stkR K r) : ∀ j, -2147483648 ≤ (K ++ [r]).getD j 0 ∧ (K ++ [r]).getD j 0 ≤ 2147483647 := by
  intro j
  have h1 := h.1 j
  have h2 := h.2
  rw [List.getD_eq_getElem?_getD] at h1 ⊢
  rcases Nat.lt_or_ge j K.length with hj | hj
  · rw [List.getElem?_append_left hj]; omega
  · rw [List.getElem?_append_right hj]
    rcases Nat.eq_zero_or_pos (j - K.length) with e | e
    · rw [e]; simpa using h2
    · rw [List.getElem?_eq_none (by simp; omega)]; simp
theorem below_drawn {w w' : World} (h : Drawn0 w w') : Below w.heap.size w w' := by
  obtain ⟨n, rfl⟩ := h
  exact pw_below_drewN (Below.refl _ _) _
end Go.Proofs.YtddlhjhnnmkgaaaDoor.X
