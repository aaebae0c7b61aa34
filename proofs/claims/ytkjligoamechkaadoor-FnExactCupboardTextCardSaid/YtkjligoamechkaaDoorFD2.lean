/- Contracts of functions, and plain facts: what each call answers, and what it leaves as it was. -/
import Derived.Test.YtkjligoamechkaaDoorX5
import Derived.Test.YtkjligoamechkaaDoorX6
import Derived.Test.YtkjligoamechkaaDoorX11
import Derived.Test.YtkjligoamechkaaDoorFD1
set_option linter.unusedVariables false
set_option linter.unusedSimpArgs false
namespace Go.Proofs.YtkjligoamechkaaDoor.X
open Go.RowKit Go.Proofs.YtkjligoamechkaaDoorW.PrintWords Go.Proofs.YtkjligoamechkaaDoorW.PrintLast Go.Proofs.YtkjligoamechkaaDoorW.PrintMore
attribute [local go_sem] max2_int min2_int max_two min_two max_three min_three max_four min_four
theorem specHas_loop (s : List Int) (v : Int) (hn : s.length ≤ 4611686018427387903) : ∀ (d k i : Nat), i + d = s.length → d < k → spec_l00Has.l0 k s v i = some (decide (v ∈ s.drop i)) := by
  intro d
  induction d with
  | zero =>
    intro k i hi hk
    obtain ⟨k, rfl⟩ : ∃ m, k = m + 1 := ⟨k - 1, by omega⟩
    simp only [spec_l00Has.l0]
    rw [if_neg (by omega), List.drop_eq_nil_of_le (by omega)]
    simp
  | succ d ih =>
    intro k i hi hk
    obtain ⟨k, rfl⟩ : ∃ m, k = m + 1 := ⟨k - 1, by omega⟩
    simp only [spec_l00Has.l0]
    rw [if_pos (by omega), if_pos (by omega), rd_eq (by omega), w64s (by omega), List.drop_eq_getElem_cons (by omega), ih k (i + 1) (by omega) (by omega)]
    by_cases h : s[i] = v
    · rw [if_pos h]; simp [h]
    · rw [if_neg h]
      have : ¬ v = s[i] := fun e => h e.symm
      simp only [List.mem_cons, this, false_or]
theorem specHas_f (s : List Int) (v : Int) (hn : s.length ≤ 4611686018427387903) {k : Nat} (hk : s.length < k) : spec_l00Has.f k s v = some (decide (v ∈ s)) := by
  unfold spec_l00Has.f
  have := specHas_loop s v hn s.length k 0 (by omega) hk
  simpa using this
theorem specNumber_f (a : Int) : spec_l04Number.f a = some (decide (0 ≤ a ∧ a ≤ 999)) := by
  unfold spec_l04Number.f spec_l00In.f
  by_cases h : a ≥ 0
  · rw [if_pos h]; simp; omega
  · rw [if_neg h]; simp; omega
def inR (x : Int) : Bool := decide (0 ≤ x ∧ x ≤ 999)
def shortB (p : List Int) : Bool := decide (p.length ≤ 8)
def tailB (l : List (List Int)) : Bool := decide (l.length ≤ 6 ∧ 0 < l.length ∧ l.flatten.Nodup)
/-- the rest of a cupboard is good: from pile i on -/
def good0 (l : List (List Int)) (i : Nat) : Bool := (l.drop i).flatten.all inR && ((l.drop i).all shortB && tailB l)
def good1 (l : List (List Int)) (p : List Int) (i j : Nat) : Bool := (p.drop j ++ (l.drop (i + 1)).flatten).all inR && ((l.drop (i + 1)).all shortB && tailB l)
theorem split_at {l : List (List Int)} {i j : Nat} (hi : i < l.length) : l.flatten = ((l.take i).flatten ++ l[i].take j) ++ (l[i].drop j ++ (l.drop (i + 1)).flatten) := by
  have h1 : l = l.take i ++ l[i] :: l.drop (i + 1) := by rw [← List.drop_eq_getElem_cons hi, List.take_append_drop]
  have h2 : l.flatten = (l.take i).flatten ++ (l[i] ++ (l.drop (i + 1)).flatten) := by
    have := congrArg List.flatten h1
    rw [List.flatten_append, List.flatten_cons] at this
    exact this
  rw [h2]
  have h3 := List.take_append_drop j l[i]
  have h4 : l[i] ++ (l.drop (i + 1)).flatten = l[i].take j ++ (l[i].drop j ++ (l.drop (i + 1)).flatten) := by rw [← List.append_assoc, h3]
  rw [h4, List.append_assoc]
theorem specCup_loop (l : List (List Int)) (hl : l.length ≤ 1048576) (hf : l.flatten.length ≤ 1048576) : ∀ n : Nat,
    (∀ k i, i ≤ l.length → i ≤ 6 → ((l.take i).flatten).Nodup → (l.drop i).flatten.length + 3 * (l.length - i) ≤ n → n + 1048580 < k → spec_l04Cupboard.l0 k l ((l.take i).flatten) i = some (good0 l i)) ∧
    (∀ k i j, ∀ hi : i < l.length, i + 1 ≤ 6 → l[i].length ≤ 8 → j ≤ l[i].length → ((l.take i).flatten ++ l[i].take j).Nodup → (l[i].length - j) + (l.drop (i + 1)).flatten.length + 3 * (l.length - (i + 1)) + 1 ≤ n → n + 1048580 < k → spec_l04Cupboard.l1 k l ((l.take i).flatten ++ l[i].take j) i j = some (good1 l l[i] i j)) := by
  intro n
  induction n using Nat.strongRecOn with
  | ind n ih =>
    constructor
    · intro k i hi h6 hn hm hk
      obtain ⟨k, rfl⟩ : ∃ m, k = m + 1 := ⟨k - 1, by omega⟩
      rw [spec_l04Cupboard.l0]
      by_cases hlt : i < l.length
      · have hd : l.drop i = l[i] :: l.drop (i + 1) := List.drop_eq_getElem_cons hlt
        rw [if_pos (by omega), if_pos (by omega), rd_L1_eq hlt]
        obtain ⟨k, rfl⟩ : ∃ m, k = m + 1 := ⟨k - 1, by omega⟩
        by_cases h8 : (l[i].length : Int) > 8
        · rw [if_pos h8, spec_l04Cupboard.j1, if_pos rfl]
          have : shortB l[i] = false := by simp [shortB]; omega
          simp only [good0, hd, List.all_cons, this, Bool.false_and, Bool.and_false]
        · rw [if_neg h8, spec_l04Cupboard.j1]
          by_cases hi6 : i ≥ 6
          · rw [if_pos (by simp; omega)]
            have : tailB l = false := by simp [tailB]; omega
            simp only [good0, this, Bool.and_false]
          · rw [if_neg (by simp; omega)]
            rw [hd, List.flatten_cons, List.length_append] at hm
            have h := (ih (n - 2) (by omega)).2 k i 0 hlt (by omega) (by omega) (by omega) (by simpa using hn) (by omega) (by omega)
            simp only [List.take_zero, List.append_nil] at h
            rw [show ((0 : Nat) : Int) = 0 from rfl] at h
            rw [h]
            have h8' : shortB l[i] = true := by simp [shortB]; omega
            simp only [good1, good0, hd, List.flatten_cons, List.drop_zero, List.all_cons, h8', Bool.true_and]
      · obtain rfl : i = l.length := by omega
        rw [if_neg (by omega)]
        rw [List.take_length] at hn
        have h6' : l.length ≤ 6 := h6
        have h7 : decide (l.length ≤ 6 ∧ 0 < l.length ∧ l.flatten.Nodup) = decide ((l.length : Int) > 0) := by
          rw [Bool.eq_iff_iff, decide_eq_true_iff, decide_eq_true_iff]
          exact ⟨fun h => by omega, fun h => ⟨h6', by omega, hn⟩⟩
        simp [good0, tailB, h7]
    · intro k i j hi h6 h8 hj hn hm hk
      obtain ⟨k, rfl⟩ : ∃ m, k = m + 1 := ⟨k - 1, by omega⟩
      rw [spec_l04Cupboard.l1]
      have hs := split_at (l := l) (j := j) hi
      have hlen : ((l.take i).flatten ++ l[i].take j).length ≤ 1048576 := by
        rw [hs, List.length_append] at hf; omega
      rw [if_pos (by omega), if_pos (by omega), rd_L1_eq hi]
      by_cases hlt : j < l[i].length
      · have hd : l[i].drop j = l[i][j] :: l[i].drop (j + 1) := List.drop_eq_getElem_cons hlt
        have ht : l[i].take (j + 1) = l[i].take j ++ [l[i][j]] := by rw [List.take_add_one, List.getElem?_eq_getElem hlt]; rfl
        rw [if_pos (by omega), if_pos (by omega), rd_eq hlt, specNumber_f, Option.bind_some]
        by_cases hr : 0 ≤ l[i][j] ∧ l[i][j] ≤ 999
        · rw [if_pos (by simpa using hr), specHas_f _ _ (by omega) (by omega), Option.bind_some]
          by_cases hm2 : l[i][j] ∈ (l.take i).flatten ++ l[i].take j
          · rw [if_pos (by simpa using hm2)]
            have : ¬ l.flatten.Nodup := fun h => by
              rw [hs, hd] at h
              exact (List.nodup_append.1 h).2.2 _ hm2 _ (List.mem_append_left _ List.mem_cons_self) rfl
            have h7 : tailB l = false := by simp [tailB, this]
            simp only [good1, h7, Bool.and_false]
          · rw [if_neg (by simpa using hm2), if_pos (by omega), w64s (by omega), List.append_assoc, ← ht]
            have hn2 : ((l.take i).flatten ++ l[i].take (j + 1)).Nodup := by
              rw [ht, ← List.append_assoc, List.nodup_append]
              exact ⟨hn, by simp, fun a ha b hb => by
                rw [List.mem_singleton] at hb
                subst hb
                exact fun e => hm2 (e ▸ ha)⟩
            rw [(ih (n - 1) (by omega)).2 k i (j + 1) hi h6 h8 (by omega) hn2 (by omega) (by omega)]
            have h7 : inR l[i][j] = true := by simpa [inR] using hr
            simp only [good1, hd, List.cons_append, List.all_cons, h7, Bool.true_and]
        · rw [if_neg (by simpa using hr)]
          have h7 : inR l[i][j] = false := by simpa [inR] using hr
          simp only [good1, hd, List.cons_append, List.all_cons, h7, Bool.false_and]
      · obtain rfl : j = l[i].length := by omega
        rw [if_neg (by omega), w64s (by omega)]
        have ht : (l.take i).flatten ++ l[i].take l[i].length = (l.take (i + 1)).flatten := by
          rw [List.take_add_one, List.getElem?_eq_getElem hi, List.flatten_append, List.take_length]
          simp
        rw [ht] at hn ⊢
        rw [(ih (n - 1) (by omega)).1 k (i + 1) (by omega) h6 hn (by omega) (by omega)]
        simp only [good1, good0, List.drop_length, List.nil_append]
theorem specCup_f {l : List (List Int)} (hl : l.length ≤ 1048576) (hf : l.flatten.length ≤ 1048576) {k : Nat} (hk : 5242885 < k) : spec_l04Cupboard.f k l = some (good0 l 0) := by
  unfold spec_l04Cupboard.f
  have := (specCup_loop l hl hf (l.flatten.length + 3 * l.length)).1 k 0 (by omega) (by omega) (by simp) (by simp) (by omega)
  simpa using this
theorem implCup_f {l : List (List Int)} (hf : l.flatten.length ≤ 1048576) : impl_ValidCupboard.f l = some (good0 l 0) := by
  unfold impl_ValidCupboard.f
  rw [if_pos hf]
  congr 1
  rw [Bool.eq_iff_iff]
  simp only [good0, tailB, shortB, inR, Bool.and_eq_true, decide_eq_true_eq, Bool.not_eq_true', List.any_eq_false, List.all_eq_true, List.drop_zero]
  constructor
  · rintro ⟨⟨⟨⟨h1, h2⟩, h3⟩, h4⟩, h5⟩
    exact ⟨h4, fun p hp => by have := h3 p hp; omega, by omega, by omega, h5⟩
  · rintro ⟨h1, h2, h3, h4, h5⟩
    exact ⟨⟨⟨⟨by omega, by omega⟩, fun p hp => by have := h2 p hp; omega⟩, h1⟩, h5⟩
end Go.Proofs.YtkjligoamechkaaDoor.X
