/- Plain facts of the printed functions: no program in sight. -/
import Derived.Test.YtjcjgfmffkmjeaaFacts3a
import Derived.Test.YtjcjgfmffkmjeaaX8
import Derived.Test.YtjcjgfmffkmjeaaX9
set_option linter.unusedVariables false
set_option linter.unusedSimpArgs false
namespace Go.Proofs.Ytjcjgfmffkmjeaa.X
open Go.RowKit Go.Proofs.YtjcjgfmffkmjeaaW.PrintWords Go.Proofs.YtjcjgfmffkmjeaaW.PrintLast Go.Proofs.YtjcjgfmffkmjeaaW.PrintMore
/-- all of them are folds -/
def allF (l : List Int) : Bool := l.all fun x => decide (0 ≤ x ∧ x ≤ 3)
theorem areWithin_f (l : List Int) (a b : Int) : impl_areWithin.f l a b = some (l.all fun x => decide (a ≤ x ∧ x ≤ b)) := by
  unfold impl_areWithin.f
  congr 1
  congr 1
  funext x
  simp
theorem l04Told_loop (l : List Int) (hl : l.length ≤ 4294967296) : ∀ (d k i : Nat), i + d = l.length → d < k → spec_l04Told.l0 k l i = some ((allF (l.drop i)) && decide (l.length ≤ 12)) := by
  intro d
  induction d with
  | zero =>
    intro k i hi hk
    obtain ⟨k, rfl⟩ : ∃ m, k = m + 1 := ⟨k - 1, by omega⟩
    simp only [spec_l04Told.l0]
    rw [if_neg (by omega), List.drop_eq_nil_of_le (by omega)]
    simp [allF]
    omega
  | succ d ih =>
    intro k i hi hk
    obtain ⟨k, rfl⟩ : ∃ m, k = m + 1 := ⟨k - 1, by omega⟩
    simp only [spec_l04Told.l0]
    have ha : l.drop i = l[i] :: l.drop (i + 1) := List.drop_eq_getElem_cons (by omega)
    rw [if_pos (by omega), if_pos (by omega), rd_eq (by omega), l04Fold_f, Option.bind_some, w64s (by omega), ih k (i + 1) (by omega) (by omega), ha]
    unfold allF
    rw [List.all_cons]
    split
    · rename_i h
      rw [h, Bool.true_and]
    · rename_i h
      simp only [Bool.not_eq_true] at h
      rw [h]
      rfl
theorem l04Told_ev {l : List Int} (hl : l.length ≤ 4294967296) : Ev (fun k => spec_l04Told.f k l) (allF l && decide (l.length ≤ 12)) := by
  refine ⟨l.length + 1, fun k hk => ?_⟩
  show spec_l04Told.f k l = _
  unfold spec_l04Told.f
  simpa using l04Told_loop l hl l.length k 0 (by omega) (by omega)
/-- the letters of folds -/
def SG : ByteArray := ⟨#[119, 104, 87, 72]⟩
def letF (l : List Int) : List Int := l.map fun f => bt SG f
theorem strOfNums_append (a b : List Int) : strOfNums (a ++ b) = strOfNums a ++ strOfNums b := by
  unfold strOfNums
  simp [ByteArray.ext_iff]
theorem allF_get {l : List Int} (h : allF l = true) {i : Nat} (hi : i < l.length) : 0 ≤ l[i] ∧ l[i] ≤ 3 := by
  unfold allF at h
  rw [List.all_eq_true] at h
  simpa using h l[i] (List.getElem_mem hi)
theorem l04Letters_loop (l : List Int) (hl : l.length ≤ 12) (ha : allF l = true) : ∀ (d k i : Nat), i + d = l.length → d < k → spec_l04Letters.l0 k l (strOfNums (letF (l.take i))) i = some (strOfNums (letF l)) := by
  intro d
  induction d with
  | zero =>
    intro k i hi hk
    obtain ⟨k, rfl⟩ : ∃ m, k = m + 1 := ⟨k - 1, by omega⟩
    simp only [spec_l04Letters.l0]
    rw [if_neg (by omega), List.take_of_length_le (by omega)]
  | succ d ih =>
    intro k i hi hk
    obtain ⟨k, rfl⟩ : ∃ m, k = m + 1 := ⟨k - 1, by omega⟩
    simp only [spec_l04Letters.l0]
    obtain ⟨h0, h3⟩ := allF_get ha (show i < l.length by omega)
    have hs : l.take (i + 1) = l.take i ++ [l[i]] := by rw [List.take_succ_eq_append_getElem (by omega)]
    have h2 := ih k (i + 1) (by omega) (by omega)
    rw [if_pos (by omega), if_pos (by omega), rd_eq (by omega), if_pos (by omega), if_pos (by omega), Option.bind_some, w64s (by omega)]
    rw [hs] at h2
    unfold letF at h2 ⊢
    rw [List.map_append, strOfNums_append] at h2
    rw [if_pos (by simp [strOfNums, ByteArray.size]; omega)]
    exact h2
theorem l04Letters_ev {l : List Int} (hl : l.length ≤ 12) (ha : allF l = true) : Ev (fun k => spec_l04Letters.f k l) (strOfNums (letF l)) := by
  refine ⟨l.length + 1, fun k hk => ?_⟩
  show spec_l04Letters.f k l = _
  unfold spec_l04Letters.f
  have := l04Letters_loop l hl ha l.length k 0 (by omega) (by omega)
  simpa [letF, strOfNums] using this
theorem foldsText_loop (l : List Int) (hl : l.length ≤ 12) (ha : allF l = true) : ∀ (d k i : Nat), i + d = l.length → d < k → impl_FoldsText.l0 k (letF (l.take i)) l (l.length : Int) i = some (strOfNums (letF l)) := by
  intro d
  induction d with
  | zero =>
    intro k i hi hk
    obtain ⟨k, rfl⟩ : ∃ m, k = m + 1 := ⟨k - 1, by omega⟩
    simp only [impl_FoldsText.l0]
    rw [if_neg (by omega), List.take_of_length_le (by omega)]
  | succ d ih =>
    intro k i hi hk
    obtain ⟨k, rfl⟩ : ∃ m, k = m + 1 := ⟨k - 1, by omega⟩
    simp only [impl_FoldsText.l0]
    obtain ⟨h0, h3⟩ := allF_get ha (show i < l.length by omega)
    have hs : l.take (i + 1) = l.take i ++ [l[i]] := by rw [List.take_succ_eq_append_getElem (by omega)]
    have h2 := ih k (i + 1) (by omega) (by omega)
    rw [if_pos (by omega), if_pos (by omega), if_pos (by omega), rd_eq (by omega), if_pos (by omega), if_pos (by omega), if_pos (by simp [letF]; omega), w64s (by omega)]
    rw [hs] at h2
    unfold letF at h2 ⊢
    rw [List.map_append] at h2
    exact h2
/-- both texts -/
def textF (l : List Int) : ByteArray := if (allF l && decide (l.length ≤ 12)) = true then strOfNums (letF l) else ⟨#[]⟩
theorem specFoldsText_ev {l : List Int} (hl : l.length ≤ 4294967296) : Ev (fun k => spec_FoldsText.f k l) (textF l) := by
  obtain ⟨K1, h1⟩ := l04Told_ev hl
  unfold textF
  split
  · rename_i h
    have h' := h
    rw [Bool.and_eq_true, decide_eq_true_eq] at h'
    obtain ⟨K2, h2⟩ := l04Letters_ev h'.2 h'.1
    refine ⟨K1 + K2, fun k hk => ?_⟩
    show spec_FoldsText.f k l = _
    unfold spec_FoldsText.f
    have e1 := h1 k (by omega)
    have e2 := h2 k (by omega)
    simp only at e1 e2
    rw [e1, Option.bind_some, if_pos h, e2]
    rfl
  · rename_i h
    refine ⟨K1, fun k hk => ?_⟩
    show spec_FoldsText.f k l = _
    unfold spec_FoldsText.f
    have e1 := h1 k (by omega)
    simp only at e1
    rw [e1, Option.bind_some, if_neg h]
theorem implFoldsText_ev {l : List Int} (hl : l.length ≤ 4294967296) : Ev (fun k => impl_FoldsText.f k l) (textF l) := by
  refine ⟨l.length + 3, fun k hk => ?_⟩
  obtain ⟨k, rfl⟩ : ∃ m, k = m + 1 := ⟨k - 1, by omega⟩
  show impl_FoldsText.f (k + 1) l = _
  unfold impl_FoldsText.f textF
  by_cases h : l.length ≤ 12
  · rw [if_neg (by omega), areWithin_f, Option.bind_some]
    simp only [impl_FoldsText.j0]
    by_cases ha : allF l = true
    · have ha' := ha
      unfold allF at ha'
      rw [ha', if_neg (by simp), if_pos (by simp [ha, h])]
      simpa [letF] using foldsText_loop l h ha l.length k 0 (by omega) (by omega)
    · have ha' := ha
      unfold allF at ha'
      simp only [Bool.not_eq_true] at ha'
      rw [ha', if_pos (by simp), if_neg (by simp [ha])]
  · rw [if_pos (by omega), if_neg (by simp [h])]
    simp only [impl_FoldsText.j0]
    rw [if_pos trivial]

end Go.Proofs.Ytjcjgfmffkmjeaa.X
