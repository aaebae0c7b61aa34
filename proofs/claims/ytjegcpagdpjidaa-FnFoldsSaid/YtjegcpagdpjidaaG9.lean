/- Contracts of functions, and plain facts, of more texts than one: put together, since a claim takes 60 files. -/
import Derived.Test.YtjegcpagdpjidaaF1
import Derived.Test.YtjegcpagdpjidaaX5
import Derived.Test.YtjegcpagdpjidaaX6
import Derived.Test.YtjegcpagdpjidaaX7
import Derived.Test.YtjegcpagdpjidaaX8
import Derived.Test.YtjegcpagdpjidaaX11
import Derived.Test.YtjegcpagdpjidaaX25
import Derived.Test.YtjegcpagdpjidaaX26
/- what stood in the text F3 -/
set_option linter.unusedVariables false
set_option linter.unusedSimpArgs false
namespace Go.Proofs.Ytjegcpagdpjidaa.X
open Go.RowKit Go.Proofs.YtjegcpagdpjidaaW.PrintWords Go.Proofs.YtjegcpagdpjidaaW.PrintLast Go.Proofs.YtjegcpagdpjidaaW.PrintMore
attribute [local go_sem] max2_int min2_int max_two min_two max_three min_three max_four min_four
theorem wf16 {n : Int} (h : (Lit.int .i16 n).wf = true) : -32768 ≤ n ∧ n ≤ 32767 := by
  have hmin : IntKind.i16.min = -32768 := rfl
  have hmax : IntKind.i16.max = 32767 := rfl
  simp only [Lit.wf, Bool.and_eq_true, decide_eq_true_eq] at h
  omega
theorem w16 {n : Int} (h0 : -32768 ≤ n) (h1 : n ≤ 32767) : IntKind.i16.wrap n = n := IntWalk.i16_in n ⟨h0, h1⟩
theorem within_f (x a b : Int) : impl_within.f x a b = some (decide (a ≤ x ∧ x ≤ b)) := by
  unfold impl_within.f; split <;> simp [*]
theorem l00In_f (x a b : Int) : spec_l00In.f x a b = some (decide (a ≤ x ∧ x ≤ b)) := by
  unfold spec_l00In.f
  split
  all_goals first | exact congrArg some (decide_eq_decide.mpr (by omega)) | exact congrArg some (decide_eq_false (by omega)).symm
/-- a valid sheet -/
def Sh (a b c : Int) : Prop := 1 ≤ a ∧ a ≤ 1296 ∧ 1 ≤ b ∧ b ≤ 1296 ∧ 1 ≤ c ∧ c ≤ 144
instance (a b c : Int) : Decidable (Sh a b c) := by unfold Sh; infer_instance
theorem validSheet_f {a b c : Int} (ha : -32768 ≤ a ∧ a ≤ 32767) (hb : -32768 ≤ b ∧ b ≤ 32767) (hc : -32768 ≤ c ∧ c ≤ 32767) : impl_ValidSheet.f a b c = some (decide (Sh a b c)) := by
  unfold impl_ValidSheet.f
  simp only [within_f, w64i (show -9223372036854775808 ≤ a by omega) (by omega), w64i (show -9223372036854775808 ≤ b by omega) (by omega), w64i (show -9223372036854775808 ≤ c by omega) (by omega), Option.bind_some, Sh]
  repeat' split
  all_goals simp only [decide_eq_true_eq] at *
  all_goals first | exact congrArg some (decide_eq_decide.mpr (by omega)) | exact congrArg some (decide_eq_false (by omega)).symm
theorem l04Ok_f {a b c : Int} (ha : -32768 ≤ a ∧ a ≤ 32767) (hb : -32768 ≤ b ∧ b ≤ 32767) (hc : -32768 ≤ c ∧ c ≤ 32767) : spec_l04Ok.f a b c = some (decide (Sh a b c)) := by
  unfold spec_l04Ok.f spec_l04Side.f
  simp only [l00In_f, w64i (show -9223372036854775808 ≤ a by omega) (by omega), w64i (show -9223372036854775808 ≤ b by omega) (by omega), w64i (show -9223372036854775808 ≤ c by omega) (by omega), Option.bind_some, Sh]
  repeat' split
  all_goals simp only [decide_eq_true_eq] at *
  all_goals first | exact congrArg some (decide_eq_decide.mpr (by omega)) | exact congrArg some (decide_eq_false (by omega)).symm
theorem Sh.bd {a b c : Int} (h : Sh a b c) : (-32768 ≤ a ∧ a ≤ 32767) ∧ (-32768 ≤ b ∧ b ≤ 32767) ∧ (-32768 ≤ c ∧ c ≤ 32767) := by unfold Sh at h; omega
/-- a fold's sheet and code -/
def madeF (a b c fold : Int) : Int × Int × Int × Int :=
  if fold < 0 ∨ 3 < fold then (0, 0, 0, 2)
  else if (if fold = 1 ∨ fold = 3 then b else a) % (2 + fold / 2) ≠ 0 then (0, 0, 0, 4)
  else if 144 < c * (2 + fold / 2) then (0, 0, 0, 3)
  else if fold = 1 ∨ fold = 3 then (a, b / (2 + fold / 2), c * (2 + fold / 2), 0)
  else (a / (2 + fold / 2), b, c * (2 + fold / 2), 0)
theorem l04Fold_f (x : Int) : spec_l04Fold.f x = some (decide (0 ≤ x ∧ x ≤ 3)) := by
  unfold spec_l04Fold.f
  rw [l00In_f]
  rfl
theorem areWithin_f (l : List Int) (a b : Int) : impl_areWithin.f l a b = some (l.all fun x => decide (a ≤ x ∧ x ≤ b)) := by
  unfold impl_areWithin.f
  congr 1
  congr 1
  funext x
  simp
theorem folded_f {a b c : Int} (h : Sh a b c) (fold : Int) : impl_folded.f a b c fold = some (madeF a b c fold) := by
  unfold impl_folded.f madeF
  unfold Sh at h
  rw [if_pos h]
  repeat' split
  all_goals rfl
theorem madeF_0 (a b c : Int) : madeF a b c 0 = (if a % 2 ≠ 0 then (0, 0, 0, 4) else if 144 < c * 2 then (0, 0, 0, 3) else (a / 2, b, c * 2, 0)) := rfl
theorem madeF_1 (a b c : Int) : madeF a b c 1 = (if b % 2 ≠ 0 then (0, 0, 0, 4) else if 144 < c * 2 then (0, 0, 0, 3) else (a, b / 2, c * 2, 0)) := rfl
theorem madeF_2 (a b c : Int) : madeF a b c 2 = (if a % 3 ≠ 0 then (0, 0, 0, 4) else if 144 < c * 3 then (0, 0, 0, 3) else (a / 3, b, c * 3, 0)) := rfl
theorem madeF_3 (a b c : Int) : madeF a b c 3 = (if b % 3 ≠ 0 then (0, 0, 0, 4) else if 144 < c * 3 then (0, 0, 0, 3) else (a, b / 3, c * 3, 0)) := rfl
theorem l04Made_f {a b c : Int} (h : Sh a b c) (fold : Int) (k : Nat) : spec_l04Made.f (k + 1) a b c fold = some (madeF a b c fold) := by
  obtain ⟨ha1, ha2, hb1, hb2, hc1, hc2⟩ := h
  unfold spec_l04Made.f
  rw [l04Fold_f, Option.bind_some]
  by_cases hf : 0 ≤ fold ∧ fold ≤ 3
  · rw [if_pos (decide_eq_true hf)]
    obtain rfl | rfl | rfl | rfl : fold = 0 ∨ fold = 1 ∨ fold = 2 ∨ fold = 3 := by omega
    · simp only [spec_l04By.f, ge_iff_le, Int.reduceLE, if_false, Option.bind_some, Int.reduceTMod, Int.reduceEq, spec_l04Made.j0, madeF_0]
      rw [w16 (by omega) (by omega), Int.tmod_eq_emod_of_nonneg (by omega), Int.tdiv_eq_ediv_of_nonneg (by omega), w16 (by omega) (by omega)]
      repeat' split
      all_goals first | rfl | (exfalso; omega)
    · simp only [spec_l04By.f, ge_iff_le, Int.reduceLE, if_false, Option.bind_some, Int.reduceTMod, if_true, Int.reduceEq, spec_l04Made.j0, madeF_1]
      rw [w16 (by omega) (by omega), Int.tmod_eq_emod_of_nonneg (by omega), Int.tdiv_eq_ediv_of_nonneg (by omega), w16 (by omega) (by omega)]
      repeat' split
      all_goals first | rfl | (exfalso; omega)
    · simp only [spec_l04By.f, ge_iff_le, Int.reduceLE, if_true, Option.bind_some, Int.reduceTMod, Int.reduceEq, if_false, spec_l04Made.j0, madeF_2]
      rw [w16 (by omega) (by omega), Int.tmod_eq_emod_of_nonneg (by omega), Int.tdiv_eq_ediv_of_nonneg (by omega), w16 (by omega) (by omega)]
      repeat' split
      all_goals first | rfl | (exfalso; omega)
    · simp only [spec_l04By.f, ge_iff_le, Int.reduceLE, if_true, Option.bind_some, Int.reduceTMod, Int.reduceEq, spec_l04Made.j0, madeF_3]
      rw [w16 (by omega) (by omega), Int.tmod_eq_emod_of_nonneg (by omega), Int.tdiv_eq_ediv_of_nonneg (by omega), w16 (by omega) (by omega)]
      repeat' split
      all_goals first | rfl | (exfalso; omega)
  · rw [if_neg (by simpa using hf)]
    unfold madeF
    rw [if_pos (by omega)]
theorem madeF_code (a b c fold : Int) : (madeF a b c fold).2.2.2 ≠ 0 → madeF a b c fold = (0, 0, 0, (madeF a b c fold).2.2.2) := by
  unfold madeF
  repeat' split
  all_goals simp
theorem madeF_sh {a b c : Int} (h : Sh a b c) (fold : Int) (h0 : (madeF a b c fold).2.2.2 = 0) : Sh (madeF a b c fold).1 (madeF a b c fold).2.1 (madeF a b c fold).2.2.1 := by
  obtain ⟨ha1, ha2, hb1, hb2, hc1, hc2⟩ := h
  by_cases hf : 0 ≤ fold ∧ fold ≤ 3
  · obtain rfl | rfl | rfl | rfl : fold = 0 ∨ fold = 1 ∨ fold = 2 ∨ fold = 3 := by omega
    · rw [madeF_0] at h0 ⊢
      by_cases hm : a % 2 = 0
      · rw [if_neg (fun hn => hn hm)] at h0 ⊢
        by_cases hl : 144 < c * 2
        · rw [if_pos hl] at h0; cases h0
        · rw [if_neg hl] at h0 ⊢; unfold Sh; dsimp only; omega
      · rw [if_pos hm] at h0; cases h0
    · rw [madeF_1] at h0 ⊢
      by_cases hm : b % 2 = 0
      · rw [if_neg (fun hn => hn hm)] at h0 ⊢
        by_cases hl : 144 < c * 2
        · rw [if_pos hl] at h0; cases h0
        · rw [if_neg hl] at h0 ⊢; unfold Sh; dsimp only; omega
      · rw [if_pos hm] at h0; cases h0
    · rw [madeF_2] at h0 ⊢
      by_cases hm : a % 3 = 0
      · rw [if_neg (fun hn => hn hm)] at h0 ⊢
        by_cases hl : 144 < c * 3
        · rw [if_pos hl] at h0; cases h0
        · rw [if_neg hl] at h0 ⊢; unfold Sh; dsimp only; omega
      · rw [if_pos hm] at h0; cases h0
    · rw [madeF_3] at h0 ⊢
      by_cases hm : b % 3 = 0
      · rw [if_neg (fun hn => hn hm)] at h0 ⊢
        by_cases hl : 144 < c * 3
        · rw [if_pos hl] at h0; cases h0
        · rw [if_neg hl] at h0 ⊢; unfold Sh; dsimp only; omega
      · rw [if_pos hm] at h0; cases h0
  · unfold madeF at h0
    rw [if_pos (by omega)] at h0
    cases h0
/-- what FoldSheet tells -/
def foldF (a b c fold : Int) : Int × Int × Int × Int := if Sh a b c then madeF a b c fold else (0, 0, 0, 1)
theorem implFold_f {a b c : Int} (ha : -32768 ≤ a ∧ a ≤ 32767) (hb : -32768 ≤ b ∧ b ≤ 32767) (hc : -32768 ≤ c ∧ c ≤ 32767) (fold : Int) : impl_FoldSheet.f a b c fold = some (foldF a b c fold) := by
  unfold impl_FoldSheet.f foldF
  rw [validSheet_f ha hb hc, Option.bind_some]
  by_cases h : Sh a b c
  · rw [if_pos (decide_eq_true h), if_pos h, folded_f h]
    rfl
  · rw [if_neg (by simpa using h), if_neg h]
theorem specFold_f {a b c : Int} (ha : -32768 ≤ a ∧ a ≤ 32767) (hb : -32768 ≤ b ∧ b ≤ 32767) (hc : -32768 ≤ c ∧ c ≤ 32767) (fold : Int) (k : Nat) : spec_FoldSheet.f (k + 1) a b c fold = some (foldF a b c fold) := by
  unfold spec_FoldSheet.f foldF
  rw [l04Ok_f ha hb hc, Option.bind_some]
  by_cases h : Sh a b c
  · rw [if_pos (decide_eq_true h), if_pos h, l04Made_f h]
    rfl
  · rw [if_neg (by simpa using h), if_neg h]
theorem eqSheet_f (a b c x y z : Int) : laws_eqSheet.f a b c x y z = some (decide (a = x ∧ b = y ∧ c = z)) := by
  unfold laws_eqSheet.f
  repeat' split
  all_goals first | exact congrArg some (decide_eq_false (by omega)).symm | exact congrArg some (decide_eq_true (by omega)).symm
theorem l04Made_k {a b c : Int} (h : Sh a b c) (fold : Int) {k : Nat} (hk : 0 < k) : spec_l04Made.f k a b c fold = some (madeF a b c fold) := by
  obtain ⟨k, rfl⟩ : ∃ m, k = m + 1 := ⟨k - 1, by omega⟩
  exact l04Made_f h fold k
end Go.Proofs.Ytjegcpagdpjidaa.X

/- what stood in the text F5a -/
set_option linter.unusedVariables false
set_option linter.unusedSimpArgs false
namespace Go.Proofs.Ytjegcpagdpjidaa.X
open Go.RowKit Go.Proofs.YtjegcpagdpjidaaW.PrintWords Go.Proofs.YtjegcpagdpjidaaW.PrintLast Go.Proofs.YtjegcpagdpjidaaW.PrintMore
attribute [local go_sem] max2_int min2_int max_two min_two max_three min_three max_four min_four
/-- the first number that is not 0 -/
def firstNZ : List Int → Int
  | [] => 0
  | x :: xs => if x = 0 then firstNZ xs else x
theorem firstOf_loop (l : List Int) (hl : l.length ≤ 4294967296) : ∀ (d k i : Nat), i + d = l.length → d < k → impl_firstOf.l0 k l (l.length : Int) i = some (firstNZ (l.drop i)) := by
  intro d
  induction d with
  | zero =>
    intro k i hi hk
    obtain ⟨k, rfl⟩ : ∃ m, k = m + 1 := ⟨k - 1, by omega⟩
    simp only [impl_firstOf.l0]
    rw [if_neg (by omega), List.drop_eq_nil_of_le (by omega)]
    rfl
  | succ d ih =>
    intro k i hi hk
    obtain ⟨k, rfl⟩ : ∃ m, k = m + 1 := ⟨k - 1, by omega⟩
    simp only [impl_firstOf.l0]
    have ha : l.drop i = l[i] :: l.drop (i + 1) := List.drop_eq_getElem_cons (by omega)
    rw [if_pos (by omega), if_pos (by omega), if_pos (by omega), rd_eq (by omega), w64s (by omega), ih k (i + 1) (by omega) (by omega), ha]
    simp only [firstNZ]
    split <;> rfl
theorem firstOf_f {l : List Int} (hl : l.length ≤ 4294967296) {k : Nat} (hk : l.length < k) : impl_firstOf.f k l = some (firstNZ l) := by
  unfold impl_firstOf.f
  simpa using firstOf_loop l hl l.length k 0 (by omega) (by omega)
theorem unless_f (b : Bool) (c : Int) : impl_unless.f b c = some (if b = true then 0 else c) := by
  unfold impl_unless.f
  split <;> rfl
end Go.Proofs.Ytjegcpagdpjidaa.X
