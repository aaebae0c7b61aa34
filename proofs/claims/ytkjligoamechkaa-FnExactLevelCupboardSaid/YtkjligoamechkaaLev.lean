/- Contracts of functions, and plain facts: what each call answers, and what it leaves as it was. -/
import Derived.Test.YtkjligoamechkaaOld
import Derived.Test.YtkjligoamechkaaX13
import Derived.Test.YtkjligoamechkaaX21
set_option linter.unusedVariables false
set_option linter.unusedSimpArgs false
namespace Go.Proofs.Ytkjligoamechkaa.X
open Go.RowKit Go.Proofs.YtkjligoamechkaaW.PrintWords Go.Proofs.YtkjligoamechkaaW.PrintLast Go.Proofs.YtkjligoamechkaaW.PrintMore
attribute [local go_sem] max2_int min2_int max_two min_two max_three min_three max_four min_four
/-- the first pile with the fewest sheets: the loop -/
def fewF (l : List (List Int)) : Nat → Nat → Nat → Nat
  | 0, b, _ => b
  | d + 1, b, i => if (rd_L1 l i).length < (rd_L1 l b).length then fewF l d i (i + 1) else fewF l d b (i + 1)
theorem fewF_lt (l : List (List Int)) : ∀ (d b i : Nat), b < l.length → i + d ≤ l.length → fewF l d b i < l.length
  | 0, b, i, hb, _ => hb
  | d + 1, b, i, hb, hi => by
    unfold fewF
    split
    · exact fewF_lt l d i (i + 1) (by omega) (by omega)
    · exact fewF_lt l d b (i + 1) hb (by omega)
theorem implFew_loop (l : List (List Int)) (hl : l.length ≤ 1048576) : ∀ (d k b i : Nat), i + d = l.length → d < k → b < l.length → impl_fewest.l0 k l b l (l.length : Int) i = some (fewF l d b i : Int) := by
  intro d
  induction d with
  | zero =>
    intro k b i hi hk hb
    obtain ⟨k, rfl⟩ : ∃ m, k = m + 1 := ⟨k - 1, by omega⟩
    simp only [impl_fewest.l0]
    rw [if_neg (by omega)]
    rfl
  | succ d ih =>
    intro k b i hi hk hb
    obtain ⟨k, rfl⟩ : ∃ m, k = m + 1 := ⟨k - 1, by omega⟩
    simp only [impl_fewest.l0, fewF]
    rw [if_pos (by omega), if_pos (by omega), if_pos (by omega), if_pos (by omega), if_pos (by omega), w64s (by omega)]
    by_cases h : (rd_L1 l i).length < (rd_L1 l b).length
    · rw [if_pos (by omega), if_pos h]
      exact ih k i (i + 1) (by omega) (by omega) (by omega)
    · rw [if_neg (by omega), if_neg h]
      exact ih k b (i + 1) (by omega) (by omega) hb
theorem specFew_loop (l : List (List Int)) (hl : l.length ≤ 1048576) : ∀ (d k b i : Nat), i + d = l.length → d < k → b < l.length → spec_l04Fewest.l0 k l b i = some (fewF l d b i : Int) := by
  intro d
  induction d with
  | zero =>
    intro k b i hi hk hb
    obtain ⟨k, rfl⟩ : ∃ m, k = m + 1 := ⟨k - 1, by omega⟩
    simp only [spec_l04Fewest.l0]
    rw [if_neg (by omega)]
    rfl
  | succ d ih =>
    intro k b i hi hk hb
    obtain ⟨k, rfl⟩ : ∃ m, k = m + 1 := ⟨k - 1, by omega⟩
    simp only [spec_l04Fewest.l0, fewF]
    rw [if_pos (by omega), if_pos (by omega), if_pos (by omega), if_pos (by omega), w64s (by omega)]
    by_cases h : (rd_L1 l i).length < (rd_L1 l b).length
    · rw [if_pos (by omega), if_pos h]
      exact ih k i (i + 1) (by omega) (by omega) (by omega)
    · rw [if_neg (by omega), if_neg h]
      exact ih k b (i + 1) (by omega) (by omega) hb
def fewR (l : List (List Int)) : Nat := fewF l (l.length - 1) 0 1
theorem implFew_f {l : List (List Int)} (hl : l.length ≤ 1048576) (h0 : 0 < l.length) {k : Nat} (hk : 1048577 < k) : impl_fewest.f k l = some (fewR l : Int) := by
  unfold impl_fewest.f fewR
  have h := implFew_loop l hl l.length k 0 0 (by omega) (by omega) h0
  obtain ⟨d, hd⟩ : ∃ d, l.length = d + 1 := ⟨l.length - 1, by omega⟩
  have e : fewF l l.length 0 0 = fewF l (l.length - 1) 0 1 := by
    rw [hd]
    simp [fewF]
  rw [e] at h
  exact h
theorem specFew_f {l : List (List Int)} (hl : l.length ≤ 1048576) (h0 : 0 < l.length) {k : Nat} (hk : 1048577 < k) : spec_l04Fewest.f k l = some (fewR l : Int) := by
  unfold spec_l04Fewest.f fewR
  have h := specFew_loop l hl (l.length - 1) k 0 1 (by omega) (by omega) h0
  exact h
/-- one sheet goes from the fullest pile to the emptiest -/
def lvS (l : List (List Int)) : List (List Int) := (l.set (fewR l) (l.getD (fewR l) [] ++ [(l.getD (mostR l) []).getD ((l.getD (mostR l) []).length - 1) 0])).set (mostR l) ((l.getD (mostR l) []).take ((l.getD (mostR l) []).length - 1))
/-- nothing is left to level -/
def lvE (l : List (List Int)) : Prop := (l.getD (mostR l) []).length < (l.getD (fewR l) []).length + 2
instance (l : List (List Int)) : Decidable (lvE l) := by unfold lvE; infer_instance
def lvL (l : List (List Int)) : Nat → List (List Int)
  | 0 => l
  | k + 1 => lvS (lvL l k)
theorem lvL_len (l : List (List Int)) : ∀ k, (lvL l k).length = l.length
  | 0 => rfl
  | k + 1 => by rw [lvL, lvS, List.length_set, List.length_set, lvL_len l k]
def pot (l : List (List Int)) : Nat := (l.map fun p => p.length * p.length).sum
theorem set_pot : ∀ {l : List (List Int)} {i : Nat} {xs : List Int}, i < l.length → pot (l.set i xs) + (l.getD i []).length * (l.getD i []).length = pot l + xs.length * xs.length
  | [], i, xs, h => by simp at h
  | p :: l, 0, xs, h => by
    simp only [pot, List.set_cons_zero, List.map_cons, List.sum_cons, List.getD_cons_zero]
    omega
  | p :: l, i + 1, xs, h => by
    have := set_pot (l := l) (i := i) (xs := xs) (by simpa using h)
    simp only [pot, List.set_cons_succ, List.map_cons, List.sum_cons, List.getD_cons_succ] at this ⊢
    omega
theorem fewR_lt {l : List (List Int)} (h0 : 0 < l.length) : fewR l < l.length := fewF_lt l _ 0 1 h0 (by omega)
theorem lvS_pot {l : List (List Int)} (h0 : 0 < l.length) (h : ¬ lvE l) : pot (lvS l) < pot l := by
  have hm := mostR_lt h0
  have hf := fewR_lt h0
  unfold lvE at h
  unfold lvS
  generalize mostR l = m at *
  generalize fewR l = f at *
  generalize (l.getD m []).getD ((l.getD m []).length - 1) 0 = x at *
  have hne : m ≠ f := by rintro rfl; omega
  have e1 := set_pot (l := l) (xs := l.getD f [] ++ [x]) hf
  have e2 := set_pot (l := l.set f (l.getD f [] ++ [x])) (i := m) (xs := (l.getD m []).take ((l.getD m []).length - 1)) (by rw [List.length_set]; exact hm)
  have e3 : (l.set f (l.getD f [] ++ [x])).getD m [] = l.getD m [] := by
    rw [List.getD_eq_getElem?_getD, List.getElem?_set_ne (Ne.symm hne), ← List.getD_eq_getElem?_getD]
  rw [e3] at e2
  rw [List.length_append, List.length_cons, List.length_nil] at e1
  rw [List.length_take] at e2
  generalize pot (List.set (l.set f (l.getD f [] ++ [x])) m ((l.getD m []).take ((l.getD m []).length - 1))) = P2 at *
  generalize pot (l.set f (l.getD f [] ++ [x])) = P1 at *
  generalize (l.getD f []).length = b at *
  obtain ⟨a, ha⟩ : ∃ a, (l.getD m []).length = a + b + 2 := ⟨(l.getD m []).length - b - 2, by omega⟩
  rw [ha] at e2
  rw [show min (a + b + 2 - 1) (a + b + 2) = a + b + 1 by omega] at e2
  have e4 : (a + b + 2) * (a + b + 2) = (a + b + 1) * (a + b + 1) + 2 * a + 2 * b + 3 := by
    rw [show a + b + 2 = (a + b + 1) + 1 by omega, Nat.mul_add, Nat.add_mul]; omega
  have e5 : (b + (0 + 1)) * (b + (0 + 1)) = b * b + 2 * b + 1 := by
    rw [Nat.zero_add, Nat.mul_add, Nat.add_mul]; omega
  omega
/-- the levelling comes to an end -/
theorem lv_ends {l : List (List Int)} (h0 : 0 < l.length) : ∃ N, N ≤ pot l ∧ lvE (lvL l N) ∧ ∀ k, k < N → ¬ lvE (lvL l k) := by
  have key : ∀ d k, pot (lvL l k) ≤ d → (∀ j, j < k → ¬ lvE (lvL l j)) → ∃ N, N ≤ k + d ∧ lvE (lvL l N) ∧ ∀ j, j < N → ¬ lvE (lvL l j) := by
    intro d
    induction d with
    | zero =>
      intro k hp hj
      by_cases he : lvE (lvL l k)
      · exact ⟨k, by omega, he, hj⟩
      · have := lvS_pot (l := lvL l k) (by rw [lvL_len]; exact h0) he
        omega
    | succ d ih =>
      intro k hp hj
      by_cases he : lvE (lvL l k)
      · exact ⟨k, by omega, he, hj⟩
      · have h1 := lvS_pot (l := lvL l k) (by rw [lvL_len]; exact h0) he
        obtain ⟨N, h2, h3, h4⟩ := ih (k + 1) (by show pot (lvS (lvL l k)) ≤ d; omega) (fun j hjk => by
          rcases Nat.lt_or_ge j k with h | h
          · exact hj j h
          · have : j = k := by omega
            subst this; exact he)
        exact ⟨N, by omega, h3, h4⟩
  obtain ⟨N, h1, h2, h3⟩ := key (pot l) 0 (Nat.le_refl _) (fun j hj => by omega)
  exact ⟨N, by omega, h2, h3⟩
theorem fewB (l : List (List Int)) (hl : l.length ≤ 1048576) (h0 : 0 < l.length) (A : Option Addr) (c : Nat) (hc : l.length ≤ c) (w : World) (h : (Kd.slice 2 (Kd.int .i64)).C w A l.length l) :
    Calls Try.prog 50 #[.slice A l.length c] w fun e w' => e = .returned (.int .i64 (fewR l : Int)) ∧ Below w.heap.size w w' := (spec_l04Fewest.calls 1048578 A c l _ w h hc (specFew_f hl h0 (by omega))).mono (by rintro e w' ⟨rfl, hd⟩; exact ⟨rfl, hd.below⟩)
theorem fewIB (l : List (List Int)) (hl : l.length ≤ 1048576) (h0 : 0 < l.length) (A : Option Addr) (c : Nat) (hc : l.length ≤ c) (w : World) (h : (Kd.slice 2 (Kd.int .i64)).C w A l.length l) :
    Calls Try.prog 51 #[.slice A l.length c] w fun e w' => e = .returned (.int .i64 (fewR l : Int)) ∧ Below w.heap.size w w' := (impl_fewest.calls 1048578 A c l _ w h hc (implFew_f hl h0 (by omega))).mono (by rintro e w' ⟨rfl, hd⟩; exact ⟨rfl, hd.below⟩)
end Go.Proofs.Ytkjligoamechkaa.X
