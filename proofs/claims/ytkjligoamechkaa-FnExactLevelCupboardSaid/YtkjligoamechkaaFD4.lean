/- Contracts of functions, and plain facts: what each call answers, and what it leaves as it was. -/
import Derived.Test.YtkjligoamechkaaX7
import Derived.Test.YtkjligoamechkaaX13
import Derived.Test.YtkjligoamechkaaFD2
import Derived.Test.YtkjligoamechkaaMark
set_option linter.unusedVariables false
set_option linter.unusedSimpArgs false
namespace Go.Proofs.Ytkjligoamechkaa.X
open Go.RowKit Go.Proofs.YtkjligoamechkaaW.PrintWords Go.Proofs.YtkjligoamechkaaW.PrintLast Go.Proofs.YtkjligoamechkaaW.PrintMore
attribute [local go_sem] max2_int min2_int max_two min_two max_three min_three max_four min_four
theorem seqL_rd {a : Int} {n i : Nat} (h : i < n) : rd (seqL a n) (i : Int) = a + (i : Int) := by simp [rd, seqL, h]
theorem heldS_loop (a : Int) (n : Nat) (h0 : 0 ≤ a) (h1 : a ≤ 4294967296) (hn : n ≤ 4294967296) : ∀ (d k i : Nat), i + d = n → d < k → laws_heldInt64S.l0 k (seqL a n) (a + i) i = some (a + n) := by
  intro d
  induction d with
  | zero =>
    intro k i hi hk
    obtain ⟨k, rfl⟩ : ∃ m, k = m + 1 := ⟨k - 1, by omega⟩
    have hlen := seqL_length a n
    simp only [laws_heldInt64S.l0]
    rw [if_neg (by omega)]
    congr 2
    omega
  | succ d ih =>
    intro k i hi hk
    obtain ⟨k, rfl⟩ : ∃ m, k = m + 1 := ⟨k - 1, by omega⟩
    have hlen := seqL_length a n
    have e1 : wrap64 (a + (i : Int) + 1) = a + ((i + 1 : Nat) : Int) := by unfold wrap64; omega
    simp only [laws_heldInt64S.l0]
    rw [if_pos (by omega), if_pos (by omega), seqL_rd (by omega), if_pos rfl, e1, w64s (by omega)]
    exact ih k (i + 1) (by omega) (by omega)
theorem heldS_f (a : Int) (n : Nat) (h0 : 0 ≤ a) (h1 : a ≤ 4294967296) (hn : n ≤ 4294967296) {k : Nat} (hk : n < k) : laws_heldInt64S.f k (seqL a n) a = some (a + n) := by
  unfold laws_heldInt64S.f
  have := heldS_loop a n h0 h1 hn n k 0 (by omega) hk
  simpa using this
theorem markR_get {l : List (List Int)} : ∀ {a : Int} {i : Nat}, i < l.length → (markR l a)[i]? = some (seqL (a + (l.take i).flatten.length) (rd_L1 l i).length) := by
  induction l with
  | nil => intro a i h; simp at h
  | cons p ps ih =>
    intro a i h
    cases i with
    | zero => simp [markR, rd_L1]
    | succ i =>
      have h2 := ih (a := a + p.length) (i := i) (by simpa using h)
      simp only [markR, List.getElem?_cons_succ, h2, List.take_succ_cons, List.flatten_cons, List.length_append]
      have e1 : rd_L1 (p :: ps) ((i + 1 : Nat) : Int) = rd_L1 ps (i : Int) := by simp [rd_L1]
      have e2 : a + (p.length : Int) + ((ps.take i).flatten.length : Int) = a + ((p.length + (ps.take i).flatten.length : Nat) : Int) := by omega
      rw [e1, e2]
theorem heldSS_loop (l : List (List Int)) (a : Int) (h0 : 0 ≤ a) (h1 : a ≤ 16777216) (hl : l.length ≤ 16777216) (hf : l.flatten.length ≤ 16777216) : ∀ (d k i : Nat), i + d = l.length → d + 16777217 < k → laws_heldInt64SS.l0 k (markR l a) (a + (l.take i).flatten.length) i = some (a + l.flatten.length) := by
  intro d
  induction d with
  | zero =>
    intro k i hi hk
    obtain ⟨k, rfl⟩ : ∃ m, k = m + 1 := ⟨k - 1, by omega⟩
    have hlen := markR_length l a
    obtain rfl : i = l.length := by omega
    simp only [laws_heldInt64SS.l0]
    rw [if_neg (by omega), List.take_length]
  | succ d ih =>
    intro k i hi hk
    obtain ⟨k, rfl⟩ : ∃ m, k = m + 1 := ⟨k - 1, by omega⟩
    have hlen := markR_length l a
    have hg := markR_get (l := l) (a := a) (i := i) (by omega)
    have hr : rd_L1 (markR l a) (i : Int) = seqL (a + (l.take i).flatten.length) (rd_L1 l i).length := by
      simp only [rd_L1, List.getD_eq_getElem?_getD, Int.toNat_natCast] at hg ⊢
      rw [hg]; rfl
    have hs := flat_take_succ (l := l) (k := i) (by omega)
    have hle := flat_take_le l (i + 1)
    rw [hs, List.length_append] at hle
    simp only [laws_heldInt64SS.l0]
    rw [if_pos (by omega), if_pos (by omega), hr, heldS_f _ _ (by omega) (by omega) (by omega) (by omega), Option.bind_some, if_neg (by omega), w64s (by omega)]
    have e : a + ((l.take i).flatten.length : Int) + ((rd_L1 l i).length : Int) = a + ((l.take (i + 1)).flatten.length : Int) := by rw [hs, List.length_append]; omega
    rw [e]
    exact ih k (i + 1) (by omega) (by omega)
theorem heldSS_f (l : List (List Int)) (a : Int) (h0 : 0 ≤ a) (h1 : a ≤ 16777216) (hl : l.length ≤ 16777216) (hf : l.flatten.length ≤ 16777216) {k : Nat} (hk : 33554435 < k) : laws_heldInt64SS.f k (markR l a) a = some (a + l.flatten.length) := by
  unfold laws_heldInt64SS.f
  have := heldSS_loop l a h0 h1 hl hf l.length k 0 (by omega) (by omega)
  simpa using this
end Go.Proofs.Ytkjligoamechkaa.X
