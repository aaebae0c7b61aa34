/-
  No cell of these rows narrows 'for every input' (looked for: loops, veiled, ifaces, maps, wideKeys, modest, calm, conditions, laid).
  DERIVED. THE GIVEN ROWS OF THIS SEAT. 13 by the template 'for every input the law returns true; each argument reads behind the call as it read before'; 0 by the template 'total and deterministic' (their statements: YtjcjgfmffkmjeaaTotals.lean).
  GIVEN WITH THE SEED: the statements are not yours to turn. If you find one false, say at which input.
  Laid BY PROGRAM, IN A SANDBOX (cutbox-rows.mjs): the forced cells as the released guide's own fill.sh prints them over the translation a5ea0808c968c58d… (all of the seat's roots in one cut). By AI agents, Wed Nov 11 2026. No macro, syntax, notation, axiom, sorry.
-/
import Derived.Test.YtjcjgfmffkmjeaaChecked
import GoSem.Claim
import GoSem.ClaimJoined
import GoSem.ClaimMapViews
import Derived.JoinedTies
import Derived.KernelRfl
namespace Go.Proofs.Ytjcjgfmffkmjeaa
/- THE CELL 'sum', in the pinned program and in every row, IS THE sha256 OF THE DUMP (.gsa) THAT YtjcjgfmffkmjeaaProg.lean LOADS. Nothing in Lean hashes anything: it is a label: what it is worth is what the hold of that sum in a sandbox is worth. -/
noncomputable def Try.pinned : Pinned := { name := "ytjcjgfmffkmjeaa", sum := "a5ea0808c968c58d05756f84f7dce87d8951e8dc94014e4090e0fb6ef9d00909", checked := Try.checked }
namespace Rows
def none {H : Type} : Left H := { results := [], args := [] }

/-- 'laws.FnExactSameFolded': WHATEVER THE INPUT: true; the input reads as it did. -/
def fnExactSameFoldedSpec : ChangeSpec := { name := "fnExactSameFolded", fn := fun _ => fun
  | [d1, d2] => { results := [.lit (.bool true)], args := [d1, d2] }
  | _ => none }
def fnExactSameFoldedRow : OpenClaim := { program := "ytjcjgfmffkmjeaa", sum := "a5ea0808c968c58d05756f84f7dce87d8951e8dc94014e4090e0fb6ef9d00909", func := "loop.example/g01378/laws.FnExactSameFolded", spec := "fnExactSameFolded", apart := false }
def FnExactSameFoldedSaid : Prop := fnExactSameFoldedRow.holds Try.pinned (OpenSpec.ofChange fnExactSameFoldedSpec)

/-- ITS FALSE NEIGHBOUR: 'it returns false'. Refute it at one input. -/
def fnExactSameFoldedWrong : ChangeSpec := { name := "fnExactSameFolded", fn := fun _ => fun
  | [d1, d2] => { results := [.lit (.bool false)], args := [d1, d2] }
  | _ => none }
def FnExactSameFoldedWrongFalsely : Prop := fnExactSameFoldedRow.holds Try.pinned (OpenSpec.ofChange fnExactSameFoldedWrong)

/-- 'laws.FnExactReadFolds': WHATEVER THE INPUT: true; the input reads as it did. -/
def fnExactReadFoldsSpec : ChangeSpec := { name := "fnExactReadFolds", fn := fun _ => fun
  | [d] => { results := [.lit (.bool true)], args := [d] }
  | _ => none }
def fnExactReadFoldsRow : OpenClaim := { program := "ytjcjgfmffkmjeaa", sum := "a5ea0808c968c58d05756f84f7dce87d8951e8dc94014e4090e0fb6ef9d00909", func := "loop.example/g01378/laws.FnExactReadFolds", spec := "fnExactReadFolds", inPlace := ["internal/bytealg.IndexByteString"], apart := false }
def FnExactReadFoldsSaid : Prop := fnExactReadFoldsRow.holds Try.pinned (OpenSpec.ofChange fnExactReadFoldsSpec)

/-- ITS FALSE NEIGHBOUR: 'it returns false'. Refute it at one input. -/
def fnExactReadFoldsWrong : ChangeSpec := { name := "fnExactReadFolds", fn := fun _ => fun
  | [d] => { results := [.lit (.bool false)], args := [d] }
  | _ => none }
def FnExactReadFoldsWrongFalsely : Prop := fnExactReadFoldsRow.holds Try.pinned (OpenSpec.ofChange fnExactReadFoldsWrong)

/-- 'laws.FnExactFoldsText': WHATEVER THE INPUT: true; the input reads as it did. -/
def fnExactFoldsTextSpec : ChangeSpec := { name := "fnExactFoldsText", fn := fun _ => fun
  | [d] => { results := [.lit (.bool true)], args := [d] }
  | _ => none }
def fnExactFoldsTextRow : OpenClaim := { program := "ytjcjgfmffkmjeaa", sum := "a5ea0808c968c58d05756f84f7dce87d8951e8dc94014e4090e0fb6ef9d00909", func := "loop.example/g01378/laws.FnExactFoldsText", spec := "fnExactFoldsText", unfollowed := true, recurses := true, apart := false }
def FnExactFoldsTextSaid : Prop := fnExactFoldsTextRow.holds Try.pinned (OpenSpec.ofChange fnExactFoldsTextSpec)

/-- ITS FALSE NEIGHBOUR: 'it returns false'. Refute it at one input. -/
def fnExactFoldsTextWrong : ChangeSpec := { name := "fnExactFoldsText", fn := fun _ => fun
  | [d] => { results := [.lit (.bool false)], args := [d] }
  | _ => none }
def FnExactFoldsTextWrongFalsely : Prop := fnExactFoldsTextRow.holds Try.pinned (OpenSpec.ofChange fnExactFoldsTextWrong)

/-- 'laws.FnExactFitsShelf': WHATEVER THE INPUT: true; the input reads as it did. -/
def fnExactFitsShelfSpec : ChangeSpec := { name := "fnExactFitsShelf", fn := fun _ => fun
  | [d1, d2, d3, d4] => { results := [.lit (.bool true)], args := [d1, d2, d3, d4] }
  | _ => none }
def fnExactFitsShelfRow : OpenClaim := { program := "ytjcjgfmffkmjeaa", sum := "a5ea0808c968c58d05756f84f7dce87d8951e8dc94014e4090e0fb6ef9d00909", func := "loop.example/g01378/laws.FnExactFitsShelf", spec := "fnExactFitsShelf", unfollowed := true, recurses := true, apart := false }
def FnExactFitsShelfSaid : Prop := fnExactFitsShelfRow.holds Try.pinned (OpenSpec.ofChange fnExactFitsShelfSpec)

/-- ITS FALSE NEIGHBOUR: 'it returns false'. Refute it at one input. -/
def fnExactFitsShelfWrong : ChangeSpec := { name := "fnExactFitsShelf", fn := fun _ => fun
  | [d1, d2, d3, d4] => { results := [.lit (.bool false)], args := [d1, d2, d3, d4] }
  | _ => none }
def FnExactFitsShelfWrongFalsely : Prop := fnExactFitsShelfRow.holds Try.pinned (OpenSpec.ofChange fnExactFitsShelfWrong)

/-- 'laws.FnExactUnfoldSheet': WHATEVER THE INPUT: true; the input reads as it did. -/
def fnExactUnfoldSheetSpec : ChangeSpec := { name := "fnExactUnfoldSheet", fn := fun _ => fun
  | [d1, d2] => { results := [.lit (.bool true)], args := [d1, d2] }
  | _ => none }
def fnExactUnfoldSheetRow : OpenClaim := { program := "ytjcjgfmffkmjeaa", sum := "a5ea0808c968c58d05756f84f7dce87d8951e8dc94014e4090e0fb6ef9d00909", func := "loop.example/g01378/laws.FnExactUnfoldSheet", spec := "fnExactUnfoldSheet", apart := false }
def FnExactUnfoldSheetSaid : Prop := fnExactUnfoldSheetRow.holds Try.pinned (OpenSpec.ofChange fnExactUnfoldSheetSpec)

/-- ITS FALSE NEIGHBOUR: 'it returns false'. Refute it at one input. -/
def fnExactUnfoldSheetWrong : ChangeSpec := { name := "fnExactUnfoldSheet", fn := fun _ => fun
  | [d1, d2] => { results := [.lit (.bool false)], args := [d1, d2] }
  | _ => none }
def FnExactUnfoldSheetWrongFalsely : Prop := fnExactUnfoldSheetRow.holds Try.pinned (OpenSpec.ofChange fnExactUnfoldSheetWrong)

/-- 'laws.FnExactFoldSheet': WHATEVER THE INPUT: true; the input reads as it did. -/
def fnExactFoldSheetSpec : ChangeSpec := { name := "fnExactFoldSheet", fn := fun _ => fun
  | [d1, d2] => { results := [.lit (.bool true)], args := [d1, d2] }
  | _ => none }
def fnExactFoldSheetRow : OpenClaim := { program := "ytjcjgfmffkmjeaa", sum := "a5ea0808c968c58d05756f84f7dce87d8951e8dc94014e4090e0fb6ef9d00909", func := "loop.example/g01378/laws.FnExactFoldSheet", spec := "fnExactFoldSheet", apart := false }
def FnExactFoldSheetSaid : Prop := fnExactFoldSheetRow.holds Try.pinned (OpenSpec.ofChange fnExactFoldSheetSpec)

/-- ITS FALSE NEIGHBOUR: 'it returns false'. Refute it at one input. -/
def fnExactFoldSheetWrong : ChangeSpec := { name := "fnExactFoldSheet", fn := fun _ => fun
  | [d1, d2] => { results := [.lit (.bool false)], args := [d1, d2] }
  | _ => none }
def FnExactFoldSheetWrongFalsely : Prop := fnExactFoldSheetRow.holds Try.pinned (OpenSpec.ofChange fnExactFoldSheetWrong)

/-- 'laws.FnExactEdgesAfter': WHATEVER THE INPUT: true; the input reads as it did. -/
def fnExactEdgesAfterSpec : ChangeSpec := { name := "fnExactEdgesAfter", fn := fun _ => fun
  | [d] => { results := [.lit (.bool true)], args := [d] }
  | _ => none }
def fnExactEdgesAfterRow : OpenClaim := { program := "ytjcjgfmffkmjeaa", sum := "a5ea0808c968c58d05756f84f7dce87d8951e8dc94014e4090e0fb6ef9d00909", func := "loop.example/g01378/laws.FnExactEdgesAfter", spec := "fnExactEdgesAfter", unfollowed := true, recurses := true, apart := false }
def FnExactEdgesAfterSaid : Prop := fnExactEdgesAfterRow.holds Try.pinned (OpenSpec.ofChange fnExactEdgesAfterSpec)

/-- ITS FALSE NEIGHBOUR: 'it returns false'. Refute it at one input. -/
def fnExactEdgesAfterWrong : ChangeSpec := { name := "fnExactEdgesAfter", fn := fun _ => fun
  | [d] => { results := [.lit (.bool false)], args := [d] }
  | _ => none }
def FnExactEdgesAfterWrongFalsely : Prop := fnExactEdgesAfterRow.holds Try.pinned (OpenSpec.ofChange fnExactEdgesAfterWrong)

/-- 'laws.FnExactFoldsPossible': WHATEVER THE INPUT: true; the input reads as it did. -/
def fnExactFoldsPossibleSpec : ChangeSpec := { name := "fnExactFoldsPossible", fn := fun _ => fun
  | [d] => { results := [.lit (.bool true)], args := [d] }
  | _ => none }
def fnExactFoldsPossibleRow : OpenClaim := { program := "ytjcjgfmffkmjeaa", sum := "a5ea0808c968c58d05756f84f7dce87d8951e8dc94014e4090e0fb6ef9d00909", func := "loop.example/g01378/laws.FnExactFoldsPossible", spec := "fnExactFoldsPossible", apart := false }
def FnExactFoldsPossibleSaid : Prop := fnExactFoldsPossibleRow.holds Try.pinned (OpenSpec.ofChange fnExactFoldsPossibleSpec)

/-- ITS FALSE NEIGHBOUR: 'it returns false'. Refute it at one input. -/
def fnExactFoldsPossibleWrong : ChangeSpec := { name := "fnExactFoldsPossible", fn := fun _ => fun
  | [d] => { results := [.lit (.bool false)], args := [d] }
  | _ => none }
def FnExactFoldsPossibleWrongFalsely : Prop := fnExactFoldsPossibleRow.holds Try.pinned (OpenSpec.ofChange fnExactFoldsPossibleWrong)

/-- 'laws.FnExactFoldAll': WHATEVER THE INPUT: true; the input reads as it did. -/
def fnExactFoldAllSpec : ChangeSpec := { name := "fnExactFoldAll", fn := fun _ => fun
  | [d1, d2] => { results := [.lit (.bool true)], args := [d1, d2] }
  | _ => none }
def fnExactFoldAllRow : OpenClaim := { program := "ytjcjgfmffkmjeaa", sum := "a5ea0808c968c58d05756f84f7dce87d8951e8dc94014e4090e0fb6ef9d00909", func := "loop.example/g01378/laws.FnExactFoldAll", spec := "fnExactFoldAll", apart := false }
def FnExactFoldAllSaid : Prop := fnExactFoldAllRow.holds Try.pinned (OpenSpec.ofChange fnExactFoldAllSpec)

/-- ITS FALSE NEIGHBOUR: 'it returns false'. Refute it at one input. -/
def fnExactFoldAllWrong : ChangeSpec := { name := "fnExactFoldAll", fn := fun _ => fun
  | [d1, d2] => { results := [.lit (.bool false)], args := [d1, d2] }
  | _ => none }
def FnExactFoldAllWrongFalsely : Prop := fnExactFoldAllRow.holds Try.pinned (OpenSpec.ofChange fnExactFoldAllWrong)

/-- 'laws.FnExactSmallestFor': WHATEVER THE INPUT: true; the input reads as it did. -/
def fnExactSmallestForSpec : ChangeSpec := { name := "fnExactSmallestFor", fn := fun _ => fun
  | [d1, d2] => { results := [.lit (.bool true)], args := [d1, d2] }
  | _ => none }
def fnExactSmallestForRow : OpenClaim := { program := "ytjcjgfmffkmjeaa", sum := "a5ea0808c968c58d05756f84f7dce87d8951e8dc94014e4090e0fb6ef9d00909", func := "loop.example/g01378/laws.FnExactSmallestFor", spec := "fnExactSmallestFor", apart := false }
def FnExactSmallestForSaid : Prop := fnExactSmallestForRow.holds Try.pinned (OpenSpec.ofChange fnExactSmallestForSpec)

/-- ITS FALSE NEIGHBOUR: 'it returns false'. Refute it at one input. -/
def fnExactSmallestForWrong : ChangeSpec := { name := "fnExactSmallestFor", fn := fun _ => fun
  | [d1, d2] => { results := [.lit (.bool false)], args := [d1, d2] }
  | _ => none }
def FnExactSmallestForWrongFalsely : Prop := fnExactSmallestForRow.holds Try.pinned (OpenSpec.ofChange fnExactSmallestForWrong)

/-- 'laws.FnExactFewestFolds': WHATEVER THE INPUT: true; the input reads as it did. -/
def fnExactFewestFoldsSpec : ChangeSpec := { name := "fnExactFewestFolds", fn := fun _ => fun
  | [d1, d2, d3, d4] => { results := [.lit (.bool true)], args := [d1, d2, d3, d4] }
  | _ => none }
def fnExactFewestFoldsRow : OpenClaim := { program := "ytjcjgfmffkmjeaa", sum := "a5ea0808c968c58d05756f84f7dce87d8951e8dc94014e4090e0fb6ef9d00909", func := "loop.example/g01378/laws.FnExactFewestFolds", spec := "fnExactFewestFolds", unfollowed := true, recurses := true, apart := false }
def FnExactFewestFoldsSaid : Prop := fnExactFewestFoldsRow.holds Try.pinned (OpenSpec.ofChange fnExactFewestFoldsSpec)

/-- ITS FALSE NEIGHBOUR: 'it returns false'. Refute it at one input. -/
def fnExactFewestFoldsWrong : ChangeSpec := { name := "fnExactFewestFolds", fn := fun _ => fun
  | [d1, d2, d3, d4] => { results := [.lit (.bool false)], args := [d1, d2, d3, d4] }
  | _ => none }
def FnExactFewestFoldsWrongFalsely : Prop := fnExactFewestFoldsRow.holds Try.pinned (OpenSpec.ofChange fnExactFewestFoldsWrong)

/-- 'laws.FnShelves': WHATEVER THE INPUT: true; the input reads as it did. -/
def fnShelvesSpec : ChangeSpec := { name := "fnShelves", fn := fun _ => fun
  | [d1, d2] => { results := [.lit (.bool true)], args := [d1, d2] }
  | _ => none }
def fnShelvesRow : OpenClaim := { program := "ytjcjgfmffkmjeaa", sum := "a5ea0808c968c58d05756f84f7dce87d8951e8dc94014e4090e0fb6ef9d00909", func := "loop.example/g01378/laws.FnShelves", spec := "fnShelves", unfollowed := true, recurses := true, apart := false }
def FnShelvesSaid : Prop := fnShelvesRow.holds Try.pinned (OpenSpec.ofChange fnShelvesSpec)

/-- ITS FALSE NEIGHBOUR: 'it returns false'. Refute it at one input. -/
def fnShelvesWrong : ChangeSpec := { name := "fnShelves", fn := fun _ => fun
  | [d1, d2] => { results := [.lit (.bool false)], args := [d1, d2] }
  | _ => none }
def FnShelvesWrongFalsely : Prop := fnShelvesRow.holds Try.pinned (OpenSpec.ofChange fnShelvesWrong)

/-- 'laws.FnFolds': WHATEVER THE INPUT: true; the input reads as it did. -/
def fnFoldsSpec : ChangeSpec := { name := "fnFolds", fn := fun _ => fun
  | [d1, d2] => { results := [.lit (.bool true)], args := [d1, d2] }
  | _ => none }
def fnFoldsRow : OpenClaim := { program := "ytjcjgfmffkmjeaa", sum := "a5ea0808c968c58d05756f84f7dce87d8951e8dc94014e4090e0fb6ef9d00909", func := "loop.example/g01378/laws.FnFolds", spec := "fnFolds", inPlace := ["internal/bytealg.IndexByteString"], unfollowed := true, recurses := true, apart := false }
def FnFoldsSaid : Prop := fnFoldsRow.holds Try.pinned (OpenSpec.ofChange fnFoldsSpec)

/-- ITS FALSE NEIGHBOUR: 'it returns false'. Refute it at one input. -/
def fnFoldsWrong : ChangeSpec := { name := "fnFolds", fn := fun _ => fun
  | [d1, d2] => { results := [.lit (.bool false)], args := [d1, d2] }
  | _ => none }
def FnFoldsWrongFalsely : Prop := fnFoldsRow.holds Try.pinned (OpenSpec.ofChange fnFoldsWrong)

/- THE SECOND FORM. 'bulk': how many values and letters a reading holds, each counted each time it is reached (what is shared counts as often as it is met; a slice's spare places count too). A statement '..UptoSaid' is the law's where the arguments, and the package variables that the reading takes, are together of bulk at most 1048576: NARROWER than '..Said'. Prove '..Said' where nothing that the law and all that it calls make is longer than what came in: it says more and counts as full. Else prove '..UptoSaid'. A law counts once. -/
mutual
def uptoBulk {H : Type} : DataW H → Nat
  | .lit (.string bytes) => bytes.length + 1
  | .lit _ => 1
  | .nil => 1
  | .ptr d => uptoBulk d + 1
  | .slice elems spare => uptoBulkAll elems + uptoBulkAll spare + 1
  | .agg parts => uptoBulkAll parts + 1
  | .iface _ d => uptoBulk d + 1
  | .map entries => uptoBulkEntries entries + 1
  | .held _ => 1
def uptoBulkAll {H : Type} : List (DataW H) → Nat
  | [] => 0
  | d :: r => uptoBulk d + uptoBulkAll r
def uptoBulkEntries {H : Type} : List (Lit × DataW H) → Nat
  | [] => 0
  | x :: r => uptoBulkEntry x + uptoBulkEntries r
def uptoBulkEntry {H : Type} : Lit × DataW H → Nat
  | (.string bytes, d) => bytes.length + uptoBulk d + 1
  | (_, d) => uptoBulk d + 1
 end
def uptoSmall : (H : Type) → List (DataW H) → Bool := fun _ ds => decide (uptoBulkAll ds ≤ 1048576)
def OpenSpec.upto (s : _root_.Go.ChangeSpec) : _root_.Go.OpenSpec := { _root_.Go.OpenSpec.ofChange s with cond := some uptoSmall }

/-- 'laws.FnExactSameFolded', WHERE WHAT IT READS IS OF BULK AT MOST 1048576: true; the input reads as it did. -/
def fnExactSameFoldedUptoRow : OpenClaim := { program := "ytjcjgfmffkmjeaa", sum := "a5ea0808c968c58d05756f84f7dce87d8951e8dc94014e4090e0fb6ef9d00909", func := "loop.example/g01378/laws.FnExactSameFolded", spec := "fnExactSameFolded", apart := false, narrowed := true }
def FnExactSameFoldedUptoSaid : Prop := fnExactSameFoldedUptoRow.holds Try.pinned (OpenSpec.upto fnExactSameFoldedSpec)

/-- 'laws.FnExactReadFolds', WHERE WHAT IT READS IS OF BULK AT MOST 1048576: true; the input reads as it did. -/
def fnExactReadFoldsUptoRow : OpenClaim := { program := "ytjcjgfmffkmjeaa", sum := "a5ea0808c968c58d05756f84f7dce87d8951e8dc94014e4090e0fb6ef9d00909", func := "loop.example/g01378/laws.FnExactReadFolds", spec := "fnExactReadFolds", inPlace := ["internal/bytealg.IndexByteString"], apart := false, narrowed := true }
def FnExactReadFoldsUptoSaid : Prop := fnExactReadFoldsUptoRow.holds Try.pinned (OpenSpec.upto fnExactReadFoldsSpec)

/-- 'laws.FnExactFoldsText', WHERE WHAT IT READS IS OF BULK AT MOST 1048576: true; the input reads as it did. -/
def fnExactFoldsTextUptoRow : OpenClaim := { program := "ytjcjgfmffkmjeaa", sum := "a5ea0808c968c58d05756f84f7dce87d8951e8dc94014e4090e0fb6ef9d00909", func := "loop.example/g01378/laws.FnExactFoldsText", spec := "fnExactFoldsText", unfollowed := true, recurses := true, apart := false, narrowed := true }
def FnExactFoldsTextUptoSaid : Prop := fnExactFoldsTextUptoRow.holds Try.pinned (OpenSpec.upto fnExactFoldsTextSpec)

/-- 'laws.FnExactFitsShelf', WHERE WHAT IT READS IS OF BULK AT MOST 1048576: true; the input reads as it did. -/
def fnExactFitsShelfUptoRow : OpenClaim := { program := "ytjcjgfmffkmjeaa", sum := "a5ea0808c968c58d05756f84f7dce87d8951e8dc94014e4090e0fb6ef9d00909", func := "loop.example/g01378/laws.FnExactFitsShelf", spec := "fnExactFitsShelf", unfollowed := true, recurses := true, apart := false, narrowed := true }
def FnExactFitsShelfUptoSaid : Prop := fnExactFitsShelfUptoRow.holds Try.pinned (OpenSpec.upto fnExactFitsShelfSpec)

/-- 'laws.FnExactUnfoldSheet', WHERE WHAT IT READS IS OF BULK AT MOST 1048576: true; the input reads as it did. -/
def fnExactUnfoldSheetUptoRow : OpenClaim := { program := "ytjcjgfmffkmjeaa", sum := "a5ea0808c968c58d05756f84f7dce87d8951e8dc94014e4090e0fb6ef9d00909", func := "loop.example/g01378/laws.FnExactUnfoldSheet", spec := "fnExactUnfoldSheet", apart := false, narrowed := true }
def FnExactUnfoldSheetUptoSaid : Prop := fnExactUnfoldSheetUptoRow.holds Try.pinned (OpenSpec.upto fnExactUnfoldSheetSpec)

/-- 'laws.FnExactFoldSheet', WHERE WHAT IT READS IS OF BULK AT MOST 1048576: true; the input reads as it did. -/
def fnExactFoldSheetUptoRow : OpenClaim := { program := "ytjcjgfmffkmjeaa", sum := "a5ea0808c968c58d05756f84f7dce87d8951e8dc94014e4090e0fb6ef9d00909", func := "loop.example/g01378/laws.FnExactFoldSheet", spec := "fnExactFoldSheet", apart := false, narrowed := true }
def FnExactFoldSheetUptoSaid : Prop := fnExactFoldSheetUptoRow.holds Try.pinned (OpenSpec.upto fnExactFoldSheetSpec)

/-- 'laws.FnExactEdgesAfter', WHERE WHAT IT READS IS OF BULK AT MOST 1048576: true; the input reads as it did. -/
def fnExactEdgesAfterUptoRow : OpenClaim := { program := "ytjcjgfmffkmjeaa", sum := "a5ea0808c968c58d05756f84f7dce87d8951e8dc94014e4090e0fb6ef9d00909", func := "loop.example/g01378/laws.FnExactEdgesAfter", spec := "fnExactEdgesAfter", unfollowed := true, recurses := true, apart := false, narrowed := true }
def FnExactEdgesAfterUptoSaid : Prop := fnExactEdgesAfterUptoRow.holds Try.pinned (OpenSpec.upto fnExactEdgesAfterSpec)

/-- 'laws.FnExactFoldsPossible', WHERE WHAT IT READS IS OF BULK AT MOST 1048576: true; the input reads as it did. -/
def fnExactFoldsPossibleUptoRow : OpenClaim := { program := "ytjcjgfmffkmjeaa", sum := "a5ea0808c968c58d05756f84f7dce87d8951e8dc94014e4090e0fb6ef9d00909", func := "loop.example/g01378/laws.FnExactFoldsPossible", spec := "fnExactFoldsPossible", apart := false, narrowed := true }
def FnExactFoldsPossibleUptoSaid : Prop := fnExactFoldsPossibleUptoRow.holds Try.pinned (OpenSpec.upto fnExactFoldsPossibleSpec)

/-- 'laws.FnExactFoldAll', WHERE WHAT IT READS IS OF BULK AT MOST 1048576: true; the input reads as it did. -/
def fnExactFoldAllUptoRow : OpenClaim := { program := "ytjcjgfmffkmjeaa", sum := "a5ea0808c968c58d05756f84f7dce87d8951e8dc94014e4090e0fb6ef9d00909", func := "loop.example/g01378/laws.FnExactFoldAll", spec := "fnExactFoldAll", apart := false, narrowed := true }
def FnExactFoldAllUptoSaid : Prop := fnExactFoldAllUptoRow.holds Try.pinned (OpenSpec.upto fnExactFoldAllSpec)

/-- 'laws.FnExactSmallestFor', WHERE WHAT IT READS IS OF BULK AT MOST 1048576: true; the input reads as it did. -/
def fnExactSmallestForUptoRow : OpenClaim := { program := "ytjcjgfmffkmjeaa", sum := "a5ea0808c968c58d05756f84f7dce87d8951e8dc94014e4090e0fb6ef9d00909", func := "loop.example/g01378/laws.FnExactSmallestFor", spec := "fnExactSmallestFor", apart := false, narrowed := true }
def FnExactSmallestForUptoSaid : Prop := fnExactSmallestForUptoRow.holds Try.pinned (OpenSpec.upto fnExactSmallestForSpec)

/-- 'laws.FnExactFewestFolds', WHERE WHAT IT READS IS OF BULK AT MOST 1048576: true; the input reads as it did. -/
def fnExactFewestFoldsUptoRow : OpenClaim := { program := "ytjcjgfmffkmjeaa", sum := "a5ea0808c968c58d05756f84f7dce87d8951e8dc94014e4090e0fb6ef9d00909", func := "loop.example/g01378/laws.FnExactFewestFolds", spec := "fnExactFewestFolds", unfollowed := true, recurses := true, apart := false, narrowed := true }
def FnExactFewestFoldsUptoSaid : Prop := fnExactFewestFoldsUptoRow.holds Try.pinned (OpenSpec.upto fnExactFewestFoldsSpec)

/-- 'laws.FnShelves', WHERE WHAT IT READS IS OF BULK AT MOST 1048576: true; the input reads as it did. -/
def fnShelvesUptoRow : OpenClaim := { program := "ytjcjgfmffkmjeaa", sum := "a5ea0808c968c58d05756f84f7dce87d8951e8dc94014e4090e0fb6ef9d00909", func := "loop.example/g01378/laws.FnShelves", spec := "fnShelves", unfollowed := true, recurses := true, apart := false, narrowed := true }
def FnShelvesUptoSaid : Prop := fnShelvesUptoRow.holds Try.pinned (OpenSpec.upto fnShelvesSpec)

/-- 'laws.FnFolds', WHERE WHAT IT READS IS OF BULK AT MOST 1048576: true; the input reads as it did. -/
def fnFoldsUptoRow : OpenClaim := { program := "ytjcjgfmffkmjeaa", sum := "a5ea0808c968c58d05756f84f7dce87d8951e8dc94014e4090e0fb6ef9d00909", func := "loop.example/g01378/laws.FnFolds", spec := "fnFolds", inPlace := ["internal/bytealg.IndexByteString"], unfollowed := true, recurses := true, apart := false, narrowed := true }
def FnFoldsUptoSaid : Prop := fnFoldsUptoRow.holds Try.pinned (OpenSpec.upto fnFoldsSpec)

end Rows
end Go.Proofs.Ytjcjgfmffkmjeaa
