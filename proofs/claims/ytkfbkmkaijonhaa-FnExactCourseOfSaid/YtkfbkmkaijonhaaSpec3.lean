/- Contracts of functions over blocks of cells: what each call answers, and what it leaves as it was. -/
import Derived.Test.YtkfbkmkaijonhaaSpec2
set_option linter.unusedVariables false
set_option linter.unusedSimpArgs false
namespace Go.Proofs.Ytkfbkmkaijonhaa.X
open Go.RowKit Go.Proofs.YtkfbkmkaijonhaaW.PrintWords Go.Proofs.YtkfbkmkaijonhaaW.PrintLast Go.Proofs.YtkfbkmkaijonhaaW.PrintMore
attribute [local go_sem] max2_int min2_int max_two min_two max_three min_three max_four min_four
theorem C_wash1 {W : World} {g : Nat} {a b : Int} (h : Blk W g 39 [.int .i16 a, .int .i8 b]) : Kd.C k39 W (some ⟨g, 0, none⟩) 1 [⟨a, b⟩] := by
  refine ⟨rfl, by omega, fun _ => ⟨_, rfl, fun j p hj => ?_⟩⟩
  match j, hj with
  | 0, hj =>
    simp at hj
    subst hj
    refine ⟨_, rfl, k39_mk W _, fun i u hi => ?_⟩
    have : (⟨g, 0, none⟩ : Addr).add (0 * k39.sz + i) = ⟨g, i, none⟩ := by rw [Nat.zero_mul, Nat.zero_add, Addr.add_mid, Nat.zero_add]
    rw [this]
    exact h.cell i hi
theorem C_nilT {α : Type} (d : Kd α) (W : World) : Kd.C d W none 0 [] := Kd.C_nil d W
theorem from_f (h : Int) : spec_l03From.f h = some (inR h 0 24) := by
  unfold spec_l03From.f spec_l00In.f inR
  by_cases h1 : 0 ≤ h <;> simp [h1]
theorem asked_wash {L : List Int} {x : S39} {fine : Bool} : askedF L [x] fine = 0 ↔ dayOk L = true ∧ washOk x.f0 x.f1 = true ∧ fine = true := by
  unfold askedF
  simp only [List.all_cons, List.all_nil, Bool.and_true]
  cases dayOk L <;> cases washOk x.f0 x.f1 <;> cases fine <;> simp
/-- the answer of a function of a day and a thing -/
def dryAtF (L : List Int) (wet thick : Int) (h : Int) (shade : Bool) : Int × Int :=
  if askedF L [⟨wet, thick⟩] (inR h 0 24) = 0 then (if dryF L wet thick shade h.toNat < 0 then (0, 6) else (dryF L wet thick shade h.toNat, 0)) else (0, askedF L [⟨wet, thick⟩] (inR h 0 24))
theorem asked_calls1 (L : List Int) (hL : L.length = 72) (h8 : i8All L) (wet thick : Int) (hw : wshR ⟨wet, thick⟩) (fine : Bool) (g : Nat) (W : World) (A : Option Addr) (h1 : Blk W g 30 (nums .i8 L)) (h2 : Kd.C k39 W A 1 [⟨wet, thick⟩]) : Calls Try.prog 42 #[.pointer (some ⟨g, 0, none⟩), .slice A 1 1, .bool fine] W fun e w' => e = .returned (.int .i64 (askedF L [⟨wet, thick⟩] fine)) ∧ Below W.heap.size W w' :=
  l03Asked_calls L hL h8 [⟨wet, thick⟩] (by intro x hx; simp at hx; subst hx; exact hw) fine g A 1 W h1 h2

end Go.Proofs.Ytkfbkmkaijonhaa.X
