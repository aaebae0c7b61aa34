/-
  No cell of these rows narrows 'for every input' (looked for: loops, veiled, ifaces, maps, wideKeys, modest, calm, conditions, laid).
  DERIVED. THE GIVEN ROWS OF THIS SEAT. 4 by the template 'for every input the law returns true; each argument reads behind the call as it read before'; 0 by the template 'total and deterministic' (their statements: YtjegcpagdpjidaaTotals.lean).
  GIVEN WITH THE SEED: the statements are not yours to turn. If you find one false, say at which input.
  Laid BY PROGRAM, IN A SANDBOX (cutbox-rows.mjs): the forced cells as the released guide's own fill.sh prints them over the translation 73765d7c205e9690… (all of the seat's roots in one cut). By AI agents, Wed Nov 11 2026. No macro, syntax, notation, axiom, sorry.
-/
import Derived.Test.YtjegcpagdpjidaaChecked
import GoSem.Claim
import GoSem.ClaimJoined
import GoSem.ClaimMapViews
import Derived.JoinedTies
import Derived.KernelRfl
namespace Go.Proofs.Ytjegcpagdpjidaa
/- THE CELL 'sum', in the pinned program and in every row, IS THE sha256 OF THE DUMP (.gsa) THAT YtjegcpagdpjidaaProg.lean LOADS. Nothing in Lean hashes anything: it is a label: what it is worth is what the hold of that sum in a sandbox is worth. -/
noncomputable def Try.pinned : Pinned := { name := "ytjegcpagdpjidaa", sum := "73765d7c205e96909b8e4a2d3a77e386f7468ace4ac368db7ca12c71c30bf848", checked := Try.checked }
namespace Rows
def none {H : Type} : Left H := { results := [], args := [] }

/-- 'laws.FnExactSmallestFor': WHATEVER THE INPUT: true; the input reads as it did. -/
def fnExactSmallestForSpec : ChangeSpec := { name := "fnExactSmallestFor", fn := fun _ => fun
  | [d1, d2] => { results := [.lit (.bool true)], args := [d1, d2] }
  | _ => none }
def fnExactSmallestForRow : OpenClaim := { program := "ytjegcpagdpjidaa", sum := "73765d7c205e96909b8e4a2d3a77e386f7468ace4ac368db7ca12c71c30bf848", func := "loop.example/g01378/laws.FnExactSmallestFor", spec := "fnExactSmallestFor", apart := false }
def FnExactSmallestForSaid : Prop := fnExactSmallestForRow.holds Try.pinned (OpenSpec.ofChange fnExactSmallestForSpec)

/-- ITS FALSE NEIGHBOUR: 'it returns false'. Refute it at one input. -/
def fnExactSmallestForWrong : ChangeSpec := { name := "fnExactSmallestFor", fn := fun _ => fun
  | [d1, d2] => { results := [.lit (.bool false)], args := [d1, d2] }
  | _ => none }
def FnExactSmallestForWrongFalsely : Prop := fnExactSmallestForRow.holds Try.pinned (OpenSpec.ofChange fnExactSmallestForWrong)

/-- 'laws.FnExactFewestFolds': WHATEVER THE INPUT: true; the input reads as it did. -/
def fnExactFewestFoldsSpec : ChangeSpec := { name := "fnExactFewestFolds", fn := fun _ => fun
  | [d1, d2, d3, d4] => { results := [.lit (.bool true)], args := [d1, d2, d3, d4] }
  | _ => none }
def fnExactFewestFoldsRow : OpenClaim := { program := "ytjegcpagdpjidaa", sum := "73765d7c205e96909b8e4a2d3a77e386f7468ace4ac368db7ca12c71c30bf848", func := "loop.example/g01378/laws.FnExactFewestFolds", spec := "fnExactFewestFolds", unfollowed := true, recurses := true, apart := false }
def FnExactFewestFoldsSaid : Prop := fnExactFewestFoldsRow.holds Try.pinned (OpenSpec.ofChange fnExactFewestFoldsSpec)

/-- ITS FALSE NEIGHBOUR: 'it returns false'. Refute it at one input. -/
def fnExactFewestFoldsWrong : ChangeSpec := { name := "fnExactFewestFolds", fn := fun _ => fun
  | [d1, d2, d3, d4] => { results := [.lit (.bool false)], args := [d1, d2, d3, d4] }
  | _ => none }
def FnExactFewestFoldsWrongFalsely : Prop := fnExactFewestFoldsRow.holds Try.pinned (OpenSpec.ofChange fnExactFewestFoldsWrong)

/-- 'laws.FnFolds': WHATEVER THE INPUT: true; the input reads as it did. -/
def fnFoldsSpec : ChangeSpec := { name := "fnFolds", fn := fun _ => fun
  | [d1, d2] => { results := [.lit (.bool true)], args := [d1, d2] }
  | _ => none }
def fnFoldsRow : OpenClaim := { program := "ytjegcpagdpjidaa", sum := "73765d7c205e96909b8e4a2d3a77e386f7468ace4ac368db7ca12c71c30bf848", func := "loop.example/g01378/laws.FnFolds", spec := "fnFolds", inPlace := ["internal/bytealg.IndexByteString"], unfollowed := true, recurses := true, apart := false }
def FnFoldsSaid : Prop := fnFoldsRow.holds Try.pinned (OpenSpec.ofChange fnFoldsSpec)

/-- ITS FALSE NEIGHBOUR: 'it returns false'. Refute it at one input. -/
def fnFoldsWrong : ChangeSpec := { name := "fnFolds", fn := fun _ => fun
  | [d1, d2] => { results := [.lit (.bool false)], args := [d1, d2] }
  | _ => none }
def FnFoldsWrongFalsely : Prop := fnFoldsRow.holds Try.pinned (OpenSpec.ofChange fnFoldsWrong)

/-- 'laws.FnShelves': WHATEVER THE INPUT: true; the input reads as it did. -/
def fnShelvesSpec : ChangeSpec := { name := "fnShelves", fn := fun _ => fun
  | [d1, d2] => { results := [.lit (.bool true)], args := [d1, d2] }
  | _ => none }
def fnShelvesRow : OpenClaim := { program := "ytjegcpagdpjidaa", sum := "73765d7c205e96909b8e4a2d3a77e386f7468ace4ac368db7ca12c71c30bf848", func := "loop.example/g01378/laws.FnShelves", spec := "fnShelves", unfollowed := true, recurses := true, apart := false }
def FnShelvesSaid : Prop := fnShelvesRow.holds Try.pinned (OpenSpec.ofChange fnShelvesSpec)

/-- ITS FALSE NEIGHBOUR: 'it returns false'. Refute it at one input. -/
def fnShelvesWrong : ChangeSpec := { name := "fnShelves", fn := fun _ => fun
  | [d1, d2] => { results := [.lit (.bool false)], args := [d1, d2] }
  | _ => none }
def FnShelvesWrongFalsely : Prop := fnShelvesRow.holds Try.pinned (OpenSpec.ofChange fnShelvesWrong)

/- THE SECOND FORM. 'bulk': how many values and letters a reading holds, each counted each time it is reached (what is shared counts as often as it is met; a slice's spare places count too). A statement '..UptoSaid' is the law's where the arguments, and the package variables that the reading takes, are together of bulk at most 1048576: NARROWER than '..Said'. Prove '..Said' where nothing that the law and all that it calls make is longer than what came in: it says more and counts as full. Else prove '..UptoSaid'. A law counts once. -/
mutual
def uptoBulk {H : Type} : DataW H → Nat
  | .lit (.string bytes) => bytes.length + 1
  | .lit _ => 1
  | .nil => 1
  | .ptr d => uptoBulk d + 1
  | .slice elems spare => uptoBulkAll elems + uptoBulkAll spare + 1
  | .agg parts => uptoBulkAll parts + 1
  | .iface _ d => uptoBulk d + 1
  | .map entries => uptoBulkEntries entries + 1
  | .held _ => 1
def uptoBulkAll {H : Type} : List (DataW H) → Nat
  | [] => 0
  | d :: r => uptoBulk d + uptoBulkAll r
def uptoBulkEntries {H : Type} : List (Lit × DataW H) → Nat
  | [] => 0
  | x :: r => uptoBulkEntry x + uptoBulkEntries r
def uptoBulkEntry {H : Type} : Lit × DataW H → Nat
  | (.string bytes, d) => bytes.length + uptoBulk d + 1
  | (_, d) => uptoBulk d + 1
 end
def uptoSmall : (H : Type) → List (DataW H) → Bool := fun _ ds => decide (uptoBulkAll ds ≤ 1048576)
def OpenSpec.upto (s : _root_.Go.ChangeSpec) : _root_.Go.OpenSpec := { _root_.Go.OpenSpec.ofChange s with cond := some uptoSmall }

/-- 'laws.FnExactSmallestFor', WHERE WHAT IT READS IS OF BULK AT MOST 1048576: true; the input reads as it did. -/
def fnExactSmallestForUptoRow : OpenClaim := { program := "ytjegcpagdpjidaa", sum := "73765d7c205e96909b8e4a2d3a77e386f7468ace4ac368db7ca12c71c30bf848", func := "loop.example/g01378/laws.FnExactSmallestFor", spec := "fnExactSmallestFor", apart := false, narrowed := true }
def FnExactSmallestForUptoSaid : Prop := fnExactSmallestForUptoRow.holds Try.pinned (OpenSpec.upto fnExactSmallestForSpec)

/-- 'laws.FnExactFewestFolds', WHERE WHAT IT READS IS OF BULK AT MOST 1048576: true; the input reads as it did. -/
def fnExactFewestFoldsUptoRow : OpenClaim := { program := "ytjegcpagdpjidaa", sum := "73765d7c205e96909b8e4a2d3a77e386f7468ace4ac368db7ca12c71c30bf848", func := "loop.example/g01378/laws.FnExactFewestFolds", spec := "fnExactFewestFolds", unfollowed := true, recurses := true, apart := false, narrowed := true }
def FnExactFewestFoldsUptoSaid : Prop := fnExactFewestFoldsUptoRow.holds Try.pinned (OpenSpec.upto fnExactFewestFoldsSpec)

/-- 'laws.FnFolds', WHERE WHAT IT READS IS OF BULK AT MOST 1048576: true; the input reads as it did. -/
def fnFoldsUptoRow : OpenClaim := { program := "ytjegcpagdpjidaa", sum := "73765d7c205e96909b8e4a2d3a77e386f7468ace4ac368db7ca12c71c30bf848", func := "loop.example/g01378/laws.FnFolds", spec := "fnFolds", inPlace := ["internal/bytealg.IndexByteString"], unfollowed := true, recurses := true, apart := false, narrowed := true }
def FnFoldsUptoSaid : Prop := fnFoldsUptoRow.holds Try.pinned (OpenSpec.upto fnFoldsSpec)

/-- 'laws.FnShelves', WHERE WHAT IT READS IS OF BULK AT MOST 1048576: true; the input reads as it did. -/
def fnShelvesUptoRow : OpenClaim := { program := "ytjegcpagdpjidaa", sum := "73765d7c205e96909b8e4a2d3a77e386f7468ace4ac368db7ca12c71c30bf848", func := "loop.example/g01378/laws.FnShelves", spec := "fnShelves", unfollowed := true, recurses := true, apart := false, narrowed := true }
def FnShelvesUptoSaid : Prop := fnShelvesUptoRow.holds Try.pinned (OpenSpec.upto fnShelvesSpec)

end Rows
end Go.Proofs.Ytjegcpagdpjidaa
