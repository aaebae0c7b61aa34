/- Contracts of functions, and plain facts: what each call answers, and what it leaves as it was. -/
import Derived.Test.YtdepnieanfjhjaaDoorG10
import Derived.Test.YtdepnieanfjhjaaDoorWMore
set_option linter.unusedVariables false
set_option linter.unusedSimpArgs false
namespace Go.Proofs.YtdepnieanfjhjaaDoor.X
open Go.RowKit Go.Proofs.YtdepnieanfjhjaaDoorW.PrintWords Go.Proofs.YtdepnieanfjhjaaDoorW.PrintLast Go.Proofs.YtdepnieanfjhjaaDoorW.PrintMore
attribute [local go_sem] max2_int min2_int max_two min_two max_three min_three max_four min_four
theorem stored_below {W ws : World} {o : Obj} (hg : (W.alloc o).grownBy ws (some W.heap.size)) : Below W.heap.size W ws :=
  pw_below_grown (below_alloc (Below.refl _ _) o) (some W.heap.size) (by simp) hg (fun k_ e_ => by injection e_ with e_; omega)
end Go.Proofs.YtdepnieanfjhjaaDoor.X
