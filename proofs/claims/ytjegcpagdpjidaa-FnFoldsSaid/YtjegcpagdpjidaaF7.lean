/- Contracts of functions, and plain facts: what each call answers, and what it leaves as it was. -/
import Derived.Test.YtjegcpagdpjidaaF1
import Derived.Test.YtjegcpagdpjidaaX10
set_option linter.unusedVariables false
set_option linter.unusedSimpArgs false
namespace Go.Proofs.Ytjegcpagdpjidaa.X
open Go.RowKit Go.Proofs.YtjegcpagdpjidaaW.PrintWords Go.Proofs.YtjegcpagdpjidaaW.PrintLast Go.Proofs.YtjegcpagdpjidaaW.PrintMore
attribute [local go_sem] max2_int min2_int max_two min_two max_three min_three max_four min_four
theorem sg_0 : bt (⟨#[119, 104, 87, 72]⟩ : ByteArray) 0 = 119 := rfl
theorem sg_1 : bt (⟨#[119, 104, 87, 72]⟩ : ByteArray) 1 = 104 := rfl
theorem sg_2 : bt (⟨#[119, 104, 87, 72]⟩ : ByteArray) 2 = 87 := rfl
theorem sg_3 : bt (⟨#[119, 104, 87, 72]⟩ : ByteArray) 3 = 72 := rfl
theorem readF_len (s : ByteArray) : ∀ (d i : Nat) (out : List Int), out.length ≤ 12 → (readF s d i out).1.length ≤ 12
  | 0, _, _, h => h
  | d + 1, i, out, h => by
    unfold readF
    split
    · simp
    · exact readF_len s d (i + 1) _ (by simp; omega)
/-- what ReadFolds tells -/
def readFoldsF (s : ByteArray) : List Int × Int := readF s s.size 0 []
theorem implRead_f {s : ByteArray} (hs : s.size ≤ 1048576) : impl_ReadFolds.f s = some (readFoldsF s) := by
  unfold impl_ReadFolds.f
  rw [if_pos hs]
  rfl
theorem readFoldsF_len (s : ByteArray) : (readFoldsF s).1.length ≤ 12 := readF_len s _ _ _ (by simp)
end Go.Proofs.Ytjegcpagdpjidaa.X
