/- Contracts of functions, and plain facts: what each call answers, and what it leaves as it was. -/
import Derived.Test.YtdepnieanfjhjaaG10
set_option linter.unusedVariables false
set_option linter.unusedSimpArgs false
namespace Go.Proofs.Ytdepnieanfjhjaa.X
open Go.RowKit Go.Proofs.YtdepnieanfjhjaaW.PrintWords Go.Proofs.YtdepnieanfjhjaaW.PrintLast Go.Proofs.YtdepnieanfjhjaaW.PrintMore
attribute [local go_sem] max2_int min2_int max_two min_two max_three min_three max_four min_four
theorem full_len : ∀ (n : Nat) (o : List Int), (∀ k : Nat, k < n → (k : Int) ∈ o) → n ≤ o.length
  | 0, o, _ => Nat.zero_le _
  | n + 1, o, h => by
    have hm := h n (by omega)
    have h1 := full_len n (o.erase (n : Int)) (fun k hk => (List.mem_erase_of_ne (by omega)).2 (h k (by omega)))
    have h2 := List.length_erase_of_mem hm
    have h3 := List.length_pos_of_mem hm
    omega
theorem boK_some {step : Nat → BSt → BSt} {o : List Int} (hs : ∀ i σ, σ ≠ none → step i σ ≠ none) : ∀ (k : Nat) {σ : BSt}, σ ≠ none → boK step o k σ ≠ none
  | 0, σ, h => h
  | k + 1, σ, h => by
    unfold boK
    split
    · exact boK_some hs k h
    · exact hs k _ (boK_some hs k h)
theorem bo_stay (n : Nat) (lf : Nat → Nat → Int) : ∀ (d : Nat) (o : List Int) {σ : BSt}, σ ≠ none → bo n lf d o σ ≠ none
  | 0, o, σ, _ => by
    obtain ⟨b, l, e⟩ := updB_some σ o (scoreO lf 0 o)
    show updB σ o (scoreO lf 0 o) ≠ none
    rw [e]; simp
  | d + 1, o, σ, h => boK_some (fun i σ hσ => bo_stay n lf d _ hσ) n h
/-- some order is found -/
theorem bo_some (n : Nat) (lf : Nat → Nat → Int) : ∀ (d : Nat) (o : List Int) (σ : BSt), d + o.length = n → bo n lf d o σ ≠ none
  | 0, o, σ, _ => by
    obtain ⟨b, l, e⟩ := updB_some σ o (scoreO lf 0 o)
    show updB σ o (scoreO lf 0 o) ≠ none
    rw [e]; simp
  | d + 1, o, σ, hd => by
    obtain ⟨k, hk, hn⟩ : ∃ k : Nat, k < n ∧ ¬ (k : Int) ∈ o := by
      by_cases h : ∃ k : Nat, k < n ∧ ¬ (k : Int) ∈ o
      · exact h
      · have := full_len n o (fun k hk => by
          by_cases hm : (k : Int) ∈ o
          · exact hm
          · exact absurd ⟨k, hk, hm⟩ h)
        omega
    have key : ∀ j, k < j → boK (fun i σ => bo n lf d (o ++ [(i : Int)]) σ) o j σ ≠ none := by
      intro j
      induction j with
      | zero => intro h; omega
      | succ j ih =>
        intro h
        unfold boK
        by_cases hj : j = k
        · subst hj
          rw [if_neg hn]
          exact bo_some n lf d _ _ (by simp; omega)
        · split
          · exact ih (by omega)
          · exact bo_stay n lf d _ (ih (by omega))
    exact key n hk
end Go.Proofs.Ytdepnieanfjhjaa.X
