/- Plain facts of the printed functions: no program in sight. -/
import Derived.Test.YtjcjgfmffkmjeaaX0
import Derived.Test.YtjcjgfmffkmjeaaX5
import Derived.Test.YtjcjgfmffkmjeaaX9
import Derived.Test.YtjcjgfmffkmjeaaFacts1
set_option linter.unusedVariables false
set_option linter.unusedSimpArgs false
namespace Go.Proofs.Ytjcjgfmffkmjeaa.X
open Go.RowKit Go.Proofs.YtjcjgfmffkmjeaaW.PrintWords Go.Proofs.YtjcjgfmffkmjeaaW.PrintLast Go.Proofs.YtjcjgfmffkmjeaaW.PrintMore
theorem sg_0 : bt (⟨#[119, 104, 87, 72]⟩ : ByteArray) 0 = 119 := rfl
theorem sg_1 : bt (⟨#[119, 104, 87, 72]⟩ : ByteArray) 1 = 104 := rfl
theorem sg_2 : bt (⟨#[119, 104, 87, 72]⟩ : ByteArray) 2 = 87 := rfl
theorem sg_3 : bt (⟨#[119, 104, 87, 72]⟩ : ByteArray) 3 = 72 := rfl
/-- behind the inner loop -/
def afterF (k : Nat) (s : ByteArray) (out : List Int) (i fold : Int) : Option (List Int × Int) :=
  if fold < 0 then some ([], 5) else if (out.length : Int) = 12 then some ([], 5) else if out.length < 17592186044416 then spec_ReadFolds.l0 k s (out ++ [fold]) (wrap64 (i + 1)) else none
theorem inner_4 (k : Nat) (s : ByteArray) (out : List Int) (i fold : Int) : spec_ReadFolds.l1 (k + 1) s out i fold 4 = afterF k s out i fold := by
  simp only [spec_ReadFolds.l1]
  rw [if_neg (by omega)]
  rfl
theorem inner_3 (k : Nat) (s : ByteArray) (out : List Int) (i fold : Int) (h0 : 0 ≤ i) (h1 : i < s.size) : spec_ReadFolds.l1 (k + 2) s out i fold 3 = if bt s i = 72 then afterF k s out i 3 else afterF k s out i fold := by
  show spec_ReadFolds.l1 ((k + 1) + 1) s out i fold 3 = _
  rw [spec_ReadFolds.l1, if_pos (by omega), if_pos (by omega), if_pos h0, if_pos h1, sg_3, w64i (by omega) (by omega)]
  simp only [Int.reduceAdd, inner_4]
  split <;> split <;> first | rfl | (exfalso; omega)
theorem inner_2 (k : Nat) (s : ByteArray) (out : List Int) (i fold : Int) (h0 : 0 ≤ i) (h1 : i < s.size) : spec_ReadFolds.l1 (k + 3) s out i fold 2 = if bt s i = 72 then afterF k s out i 3 else if bt s i = 87 then afterF k s out i 2 else afterF k s out i fold := by
  show spec_ReadFolds.l1 ((k + 2) + 1) s out i fold 2 = _
  rw [spec_ReadFolds.l1, if_pos (by omega), if_pos (by omega), if_pos h0, if_pos h1, sg_2, w64i (by omega) (by omega)]
  simp only [Int.reduceAdd, inner_3 _ _ _ _ _ h0 h1]
  repeat' split
  all_goals first | rfl | (exfalso; omega)
theorem inner_1 (k : Nat) (s : ByteArray) (out : List Int) (i fold : Int) (h0 : 0 ≤ i) (h1 : i < s.size) : spec_ReadFolds.l1 (k + 4) s out i fold 1 = if bt s i = 72 then afterF k s out i 3 else if bt s i = 87 then afterF k s out i 2 else if bt s i = 104 then afterF k s out i 1 else afterF k s out i fold := by
  show spec_ReadFolds.l1 ((k + 3) + 1) s out i fold 1 = _
  rw [spec_ReadFolds.l1, if_pos (by omega), if_pos (by omega), if_pos h0, if_pos h1, sg_1, w64i (by omega) (by omega)]
  simp only [Int.reduceAdd, inner_2 _ _ _ _ _ h0 h1]
  repeat' split
  all_goals first | rfl | (exfalso; omega)
theorem inner_0 (k : Nat) (s : ByteArray) (out : List Int) (i : Int) (h0 : 0 ≤ i) (h1 : i < s.size) : spec_ReadFolds.l1 (k + 5) s out i (-1) 0 = afterF k s out i (foldOf (bt s i)) := by
  show spec_ReadFolds.l1 ((k + 4) + 1) s out i (-1) 0 = _
  rw [spec_ReadFolds.l1, if_pos (by omega), if_pos (by omega), if_pos h0, if_pos h1, sg_0, w64i (by omega) (by omega)]
  simp only [Int.reduceAdd, inner_1 _ _ _ _ _ h0 h1]
  unfold foldOf
  repeat' split
  all_goals first | rfl | (exfalso; omega)
theorem specRead_loop (s : ByteArray) (hs : s.size ≤ 1048576) : ∀ (d k i : Nat) (out : List Int), i + d = s.size → 6 * d < k → out.length ≤ 12 → spec_ReadFolds.l0 k s out i = some (readF s d i out) := by
  intro d
  induction d with
  | zero =>
    intro k i out hi hk ho
    obtain ⟨k, rfl⟩ : ∃ m, k = m + 1 := ⟨k - 1, by omega⟩
    simp only [spec_ReadFolds.l0]
    rw [if_neg (by omega)]
    rfl
  | succ d ih =>
    intro k i out hi hk ho
    obtain ⟨k, rfl⟩ : ∃ m, k = m + 6 := ⟨k - 6, by omega⟩
    show spec_ReadFolds.l0 ((k + 5) + 1) s out i = _
    rw [spec_ReadFolds.l0, if_pos (by omega), inner_0 k s out i (by omega) (by omega)]
    unfold afterF readF
    by_cases h1 : foldOf (bt s i) < 0
    · rw [if_pos h1, if_pos (Or.inl h1)]
    · by_cases h2 : out.length = 12
      · rw [if_neg h1, if_pos (by omega), if_pos (Or.inr h2)]
      · rw [if_neg h1, if_neg (by omega), if_pos (by omega), if_neg (by omega), w64s (by omega)]
        exact ih k (i + 1) _ (by omega) (by omega) (by simp; omega)
theorem readF_len (s : ByteArray) : ∀ (d i : Nat) (out : List Int), out.length ≤ 12 → (readF s d i out).1.length ≤ 12
  | 0, _, _, h => h
  | d + 1, i, out, h => by
    unfold readF
    split
    · simp
    · exact readF_len s d (i + 1) _ (by simp; omega)
/-- what ReadFolds tells -/
def readFoldsF (s : ByteArray) : List Int × Int := readF s s.size 0 []
theorem specRead_f {s : ByteArray} (hs : s.size ≤ 1048576) {k : Nat} (hk : 6 * s.size < k) : spec_ReadFolds.f k s = some (readFoldsF s) := by
  unfold spec_ReadFolds.f
  exact specRead_loop s hs s.size k 0 [] (by omega) hk (by simp)
theorem implRead_f {s : ByteArray} (hs : s.size ≤ 1048576) : impl_ReadFolds.f s = some (readFoldsF s) := by
  unfold impl_ReadFolds.f
  rw [if_pos hs]
  rfl
theorem readFoldsF_len (s : ByteArray) : (readFoldsF s).1.length ≤ 12 := readF_len s _ _ _ (by simp)

end Go.Proofs.Ytjcjgfmffkmjeaa.X
