/- Contracts of functions, and plain facts: what each call answers, and what it leaves as it was. -/
import Derived.Test.YtjegcpagdpjidaaFol
import Derived.Test.YtjegcpagdpjidaaAll
set_option linter.unusedVariables false
set_option linter.unusedSimpArgs false
namespace Go.Proofs.Ytjegcpagdpjidaa.X
open Go.RowKit Go.Proofs.YtjegcpagdpjidaaW.PrintWords Go.Proofs.YtjegcpagdpjidaaW.PrintLast Go.Proofs.YtjegcpagdpjidaaW.PrintMore
attribute [local go_sem] max2_int min2_int max_two min_two max_three min_three max_four min_four
def spec_l04All.f (a0_0 a0_1 a0_2 : Int) : Option (List S63) := if Sh a0_0 a0_1 a0_2 then some ((allS ⟨a0_0, a0_1, a0_2⟩).map nd) else none
theorem spec_l04All.calls (a0_0 a0_1 a0_2 : Int) (r : List S63) (w : World) (h : spec_l04All.f a0_0 a0_1 a0_2 = some r) :
    Calls Try.prog 40 #[.agg #[.int .i16 a0_0, .int .i16 a0_1, .int .i16 a0_2]] w fun e w' => ∃ v : Value, e = .returned v ∧ Kd.R k63 63 w' w.heap.size (fun _ => True) v r ∧ Below w.heap.size w w' := by
  unfold spec_l04All.f at h
  by_cases hs : Sh a0_0 a0_1 a0_2
  · rw [if_pos hs] at h
    obtain rfl := Option.some.inj h
    exact l04All_calls ⟨a0_0, a0_1, a0_2⟩ hs w
  · rw [if_neg hs] at h
    cases h
def impl_foldings.f (a0_0 a0_1 a0_2 : Int) : Option (List S26 × List (List Int)) := if Sh a0_0 a0_1 a0_2 then some ((allS ⟨a0_0, a0_1, a0_2⟩).map (·.1), (allS ⟨a0_0, a0_1, a0_2⟩).map (·.2)) else none
theorem impl_foldings.calls (a0_0 a0_1 a0_2 : Int) (r1 : List S26) (r2 : List (List Int)) (w : World) (h : impl_foldings.f a0_0 a0_1 a0_2 = some (r1, r2)) :
    Calls Try.prog 42 #[.agg #[.int .i16 a0_0, .int .i16 a0_1, .int .i16 a0_2]] w fun e w' => ∃ v0_ v1_ : Value, e = .returned (.tuple #[v0_, v1_]) ∧ Kd.R k26 26 w' w.heap.size (fun _ => True) v0_ r1 ∧ Kd.R (Kd.slice 2 (Kd.int .i64)) 25 w' w.heap.size (fun _ => True) v1_ r2 ∧ Below w.heap.size w w' := by
  unfold impl_foldings.f at h
  by_cases hs : Sh a0_0 a0_1 a0_2
  · rw [if_pos hs] at h
    have h2 := Option.some.inj h
    injection h2 with h3 h4
    subst h3 h4
    exact foldings_calls ⟨a0_0, a0_1, a0_2⟩ hs w
  · rw [if_neg hs] at h
    cases h
def I16 (a : Int) : Prop := -32768 ≤ a ∧ a ≤ 32767
instance (a : Int) : Decidable (I16 a) := by unfold I16; infer_instance
theorem allS_pos {s : S26} (hs : ShS s) : 0 < (allS s).length := by
  obtain ⟨K, hA, _⟩ := allK_ex hs
  rw [hA]
  have := (bN_pre mkS s 0 K).length_le
  rw [Nat.zero_add] at this
  simp only [bN, List.length_cons, List.length_nil] at this
  omega
theorem allS_facts {s : S26} (hs : ShS s) : (allS s).length ≤ 241864704 ∧ (∀ t ∈ allS s, ShS t.1) ∧ ∀ t ∈ allS s, t.2.length ≤ 12 := by
  obtain ⟨K, hA, hKM, hKl, hKk⟩ := allK_ex hs
  refine ⟨by rw [hKl]; exact hKM, by rw [hA]; exact bN_sh hs K, by rw [hA]; exact (bN_deep mkS s K).2.2⟩
end Go.Proofs.Ytjegcpagdpjidaa.X
