/- Plain facts: no program's step in sight. -/
import Derived.Test.YtkfbkmkaijonhaaSpec2
import Derived.Test.YtkfbkmkaijonhaaImpl2
set_option linter.unusedVariables false
set_option linter.unusedSimpArgs false
namespace Go.Proofs.Ytkfbkmkaijonhaa.X
open Go.RowKit Go.Proofs.YtkfbkmkaijonhaaW.PrintWords Go.Proofs.YtkfbkmkaijonhaaW.PrintLast Go.Proofs.YtkfbkmkaijonhaaW.PrintMore
/-- the sun of n hours from h on -/
def sunS (L : List Int) (h : Nat) : Nat → Int
  | 0 => 0
  | n + 1 => sunS L h n + L.getD (3 * (h + n)) 0
theorem sunS_range {L : List Int} (hd : dayOk L = true) (h : Nat) : ∀ n : Nat, 0 ≤ sunS L h n ∧ sunS L h n ≤ 9 * n
  | 0 => by simp [sunS]
  | n + 1 => by
    have := sunS_range hd h n
    have := dayOk_get hd (3 * (h + n))
    simp only [sunS]; omega
theorem code_eq (L : List Int) (ws : List S39) (h t1 : Int) : codeF L ws h t1 = askedF L ws (inR h 0 24 && (inR t1 0 24 && decide (h ≤ t1))) := by
  unfold codeF
  congr 1
  rw [Bool.eq_iff_iff]
  simp only [inR, Bool.and_eq_true, decide_eq_true_eq]
  omega
theorem code_24 (L : List Int) (ws : List S39) (h : Int) : codeF L ws h 24 = askedF L ws (inR h 0 24) := by
  unfold codeF
  simp
theorem code_0 (L : List Int) (ws : List S39) : codeF L ws 0 24 = askedF L ws true := by
  rw [code_24]; rfl
theorem asked_none {L : List Int} {fine : Bool} : askedF L [] fine = 0 ↔ dayOk L = true ∧ fine = true := by
  unfold askedF
  cases dayOk L <;> cases fine <;> simp

end Go.Proofs.Ytkfbkmkaijonhaa.X
