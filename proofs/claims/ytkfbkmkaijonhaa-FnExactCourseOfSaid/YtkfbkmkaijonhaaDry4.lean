/- Plain facts: no program's step in sight. -/
import Derived.Test.YtkfbkmkaijonhaaDry3
set_option linter.unusedVariables false
set_option linter.unusedSimpArgs false
namespace Go.Proofs.Ytkfbkmkaijonhaa.X
open Go.RowKit Go.Proofs.YtkfbkmkaijonhaaW.PrintWords Go.Proofs.YtkfbkmkaijonhaaW.PrintLast Go.Proofs.YtkfbkmkaijonhaaW.PrintMore
/-- the first of n - 1, n - 2, .. 0 that p takes; -1 if there is none -/
def downN (p : Nat → Bool) : Nat → Int
  | 0 => -1
  | n + 1 => if p n = true then (n : Int) else downN p n
/-- the hour with the fewest hours behind it, of the first n -/
def fewN (p : Nat → Int) : Nat → Option (Int × Int)
  | 0 => none
  | n + 1 => match fewN p n with
    | none => if 0 ≤ p n then some ((n : Int), p n - n) else none
    | some s => if 0 ≤ p n ∧ p n - n < s.2 then some ((n : Int), p n - n) else some s
theorem fewN_none {p : Nat → Int} {n : Nat} (h : fewN p n = none) : fewN p (n + 1) = if 0 ≤ p n then some ((n : Int), p n - n) else none := by
  rw [fewN, h]
theorem fewN_some {p : Nat → Int} {n : Nat} {s : Int × Int} (h : fewN p n = some s) : fewN p (n + 1) = if 0 ≤ p n ∧ p n - n < s.2 then some ((n : Int), p n - n) else some s := by
  rw [fewN, h]
theorem fewN_range {p : Nat → Int} (hp : ∀ q, p q = -1 ∨ ((q : Int) ≤ p q ∧ p q ≤ 24)) : ∀ (n : Nat) (s : Int × Int), fewN p n = some s → 0 ≤ s.1 ∧ s.1 < n ∧ 0 ≤ s.2 ∧ s.2 ≤ 24
  | 0, s, h => by cases h
  | n + 1, s, h => by
    have h1 := hp n
    cases hc : fewN p n with
    | none =>
      rw [fewN_none hc] at h
      split at h
      · cases h; simp; omega
      · cases h
    | some t =>
      rw [fewN_some hc] at h
      have ih := fewN_range hp n t hc
      split at h
      · cases h; simp; omega
      · cases h; omega
def fewA : Option (Int × Int) → Int
  | none => 0
  | some s => s.1
def fewB : Option (Int × Int) → Int
  | none => 0
  | some s => s.2
def fewC : Option (Int × Int) → Int
  | none => 6
  | some _ => 0
def spA : Option (Int × Int) → Int
  | none => -1
  | some s => s.1
def spB : Option (Int × Int) → Int
  | none => 0
  | some s => s.2
def imA : Option (Int × Int) → Int
  | none => 0
  | some s => s.1
def imB : Option (Int × Int) → Int
  | none => -1
  | some s => s.2

end Go.Proofs.Ytkfbkmkaijonhaa.X
