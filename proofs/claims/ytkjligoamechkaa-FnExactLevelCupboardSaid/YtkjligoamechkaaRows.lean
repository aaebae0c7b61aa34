/-
  No cell of these rows narrows 'for every input' (looked for: loops, veiled, ifaces, maps, wideKeys, modest, calm, conditions, laid).
  DERIVED. THE GIVEN ROWS OF THIS SEAT. 6 by the template 'for every input the law returns true; each argument reads behind the call as it read before'; 0 by the template 'total and deterministic' (their statements: YtkjligoamechkaaTotals.lean).
  GIVEN WITH THE SEED: the statements are not yours to turn. If you find one false, say at which input.
  Laid BY PROGRAM, IN A SANDBOX (cutbox-rows.mjs): the forced cells as the released guide's own fill.sh prints them over the translation 6dfe4e798aa40cb8… (all of the seat's roots in one cut). By AI agents, Wed Nov 11 2026. No macro, syntax, notation, axiom, sorry.
-/
import Derived.Test.YtkjligoamechkaaChecked
import GoSem.Claim
import GoSem.ClaimJoined
import GoSem.ClaimMapViews
import Derived.JoinedTies
import Derived.KernelRfl
namespace Go.Proofs.Ytkjligoamechkaa
/- THE CELL 'sum', in the pinned program and in every row, IS THE sha256 OF THE DUMP (.gsa) THAT YtkjligoamechkaaProg.lean LOADS. Nothing in Lean hashes anything: it is a label: what it is worth is what the hold of that sum in a sandbox is worth. -/
noncomputable def Try.pinned : Pinned := { name := "ytkjligoamechkaa", sum := "6dfe4e798aa40cb890cfc8d454b658e4c4e660c2564f80f53d6ebfde77f8641f", checked := Try.checked }
namespace Rows
def none {H : Type} : Left H := { results := [], args := [] }

/-- 'laws.FnExactValidCupboard': WHATEVER THE INPUT: true; the input reads as it did. -/
def fnExactValidCupboardSpec : ChangeSpec := { name := "fnExactValidCupboard", fn := fun _ => fun
  | [d] => { results := [.lit (.bool true)], args := [d] }
  | _ => none }
def fnExactValidCupboardRow : OpenClaim := { program := "ytkjligoamechkaa", sum := "6dfe4e798aa40cb890cfc8d454b658e4c4e660c2564f80f53d6ebfde77f8641f", func := "loop.example/g01378/laws.FnExactValidCupboard", spec := "fnExactValidCupboard", unfollowed := true, recurses := true, apart := false }
def FnExactValidCupboardSaid : Prop := fnExactValidCupboardRow.holds Try.pinned (OpenSpec.ofChange fnExactValidCupboardSpec)

/-- ITS FALSE NEIGHBOUR: 'it returns false'. Refute it at one input. -/
def fnExactValidCupboardWrong : ChangeSpec := { name := "fnExactValidCupboard", fn := fun _ => fun
  | [d] => { results := [.lit (.bool false)], args := [d] }
  | _ => none }
def FnExactValidCupboardWrongFalsely : Prop := fnExactValidCupboardRow.holds Try.pinned (OpenSpec.ofChange fnExactValidCupboardWrong)

/-- 'laws.FnExactFindSheet': WHATEVER THE INPUT: true; the input reads as it did. -/
def fnExactFindSheetSpec : ChangeSpec := { name := "fnExactFindSheet", fn := fun _ => fun
  | [d1, d2] => { results := [.lit (.bool true)], args := [d1, d2] }
  | _ => none }
def fnExactFindSheetRow : OpenClaim := { program := "ytkjligoamechkaa", sum := "6dfe4e798aa40cb890cfc8d454b658e4c4e660c2564f80f53d6ebfde77f8641f", func := "loop.example/g01378/laws.FnExactFindSheet", spec := "fnExactFindSheet", unfollowed := true, recurses := true, apart := false }
def FnExactFindSheetSaid : Prop := fnExactFindSheetRow.holds Try.pinned (OpenSpec.ofChange fnExactFindSheetSpec)

/-- ITS FALSE NEIGHBOUR: 'it returns false'. Refute it at one input. -/
def fnExactFindSheetWrong : ChangeSpec := { name := "fnExactFindSheet", fn := fun _ => fun
  | [d1, d2] => { results := [.lit (.bool false)], args := [d1, d2] }
  | _ => none }
def FnExactFindSheetWrongFalsely : Prop := fnExactFindSheetRow.holds Try.pinned (OpenSpec.ofChange fnExactFindSheetWrong)

/-- 'laws.FnExactTakeSheet': WHATEVER THE INPUT: true; the input reads as it did. -/
def fnExactTakeSheetSpec : ChangeSpec := { name := "fnExactTakeSheet", fn := fun _ => fun
  | [d1, d2] => { results := [.lit (.bool true)], args := [d1, d2] }
  | _ => none }
def fnExactTakeSheetRow : OpenClaim := { program := "ytkjligoamechkaa", sum := "6dfe4e798aa40cb890cfc8d454b658e4c4e660c2564f80f53d6ebfde77f8641f", func := "loop.example/g01378/laws.FnExactTakeSheet", spec := "fnExactTakeSheet", unfollowed := true, recurses := true, apart := false }
def FnExactTakeSheetSaid : Prop := fnExactTakeSheetRow.holds Try.pinned (OpenSpec.ofChange fnExactTakeSheetSpec)

/-- ITS FALSE NEIGHBOUR: 'it returns false'. Refute it at one input. -/
def fnExactTakeSheetWrong : ChangeSpec := { name := "fnExactTakeSheet", fn := fun _ => fun
  | [d1, d2] => { results := [.lit (.bool false)], args := [d1, d2] }
  | _ => none }
def FnExactTakeSheetWrongFalsely : Prop := fnExactTakeSheetRow.holds Try.pinned (OpenSpec.ofChange fnExactTakeSheetWrong)

/-- 'laws.FnExactOldestFirst': WHATEVER THE INPUT: true; the input reads as it did. -/
def fnExactOldestFirstSpec : ChangeSpec := { name := "fnExactOldestFirst", fn := fun _ => fun
  | [d1, d2] => { results := [.lit (.bool true)], args := [d1, d2] }
  | _ => none }
def fnExactOldestFirstRow : OpenClaim := { program := "ytkjligoamechkaa", sum := "6dfe4e798aa40cb890cfc8d454b658e4c4e660c2564f80f53d6ebfde77f8641f", func := "loop.example/g01378/laws.FnExactOldestFirst", spec := "fnExactOldestFirst", unfollowed := true, recurses := true, apart := false }
def FnExactOldestFirstSaid : Prop := fnExactOldestFirstRow.holds Try.pinned (OpenSpec.ofChange fnExactOldestFirstSpec)

/-- ITS FALSE NEIGHBOUR: 'it returns false'. Refute it at one input. -/
def fnExactOldestFirstWrong : ChangeSpec := { name := "fnExactOldestFirst", fn := fun _ => fun
  | [d1, d2] => { results := [.lit (.bool false)], args := [d1, d2] }
  | _ => none }
def FnExactOldestFirstWrongFalsely : Prop := fnExactOldestFirstRow.holds Try.pinned (OpenSpec.ofChange fnExactOldestFirstWrong)

/-- 'laws.FnExactLevelCupboard': WHATEVER THE INPUT: true; the input reads as it did. -/
def fnExactLevelCupboardSpec : ChangeSpec := { name := "fnExactLevelCupboard", fn := fun _ => fun
  | [d] => { results := [.lit (.bool true)], args := [d] }
  | _ => none }
def fnExactLevelCupboardRow : OpenClaim := { program := "ytkjligoamechkaa", sum := "6dfe4e798aa40cb890cfc8d454b658e4c4e660c2564f80f53d6ebfde77f8641f", func := "loop.example/g01378/laws.FnExactLevelCupboard", spec := "fnExactLevelCupboard", unfollowed := true, recurses := true, apart := false }
def FnExactLevelCupboardSaid : Prop := fnExactLevelCupboardRow.holds Try.pinned (OpenSpec.ofChange fnExactLevelCupboardSpec)

/-- ITS FALSE NEIGHBOUR: 'it returns false'. Refute it at one input. -/
def fnExactLevelCupboardWrong : ChangeSpec := { name := "fnExactLevelCupboard", fn := fun _ => fun
  | [d] => { results := [.lit (.bool false)], args := [d] }
  | _ => none }
def FnExactLevelCupboardWrongFalsely : Prop := fnExactLevelCupboardRow.holds Try.pinned (OpenSpec.ofChange fnExactLevelCupboardWrong)

/-- 'laws.FnExactPutSheet': WHATEVER THE INPUT: true; the input reads as it did. -/
def fnExactPutSheetSpec : ChangeSpec := { name := "fnExactPutSheet", fn := fun _ => fun
  | [d1, d2] => { results := [.lit (.bool true)], args := [d1, d2] }
  | _ => none }
def fnExactPutSheetRow : OpenClaim := { program := "ytkjligoamechkaa", sum := "6dfe4e798aa40cb890cfc8d454b658e4c4e660c2564f80f53d6ebfde77f8641f", func := "loop.example/g01378/laws.FnExactPutSheet", spec := "fnExactPutSheet", unfollowed := true, recurses := true, apart := false }
def FnExactPutSheetSaid : Prop := fnExactPutSheetRow.holds Try.pinned (OpenSpec.ofChange fnExactPutSheetSpec)

/-- ITS FALSE NEIGHBOUR: 'it returns false'. Refute it at one input. -/
def fnExactPutSheetWrong : ChangeSpec := { name := "fnExactPutSheet", fn := fun _ => fun
  | [d1, d2] => { results := [.lit (.bool false)], args := [d1, d2] }
  | _ => none }
def FnExactPutSheetWrongFalsely : Prop := fnExactPutSheetRow.holds Try.pinned (OpenSpec.ofChange fnExactPutSheetWrong)

/- THE SECOND FORM. 'bulk': how many values and letters a reading holds, each counted each time it is reached (what is shared counts as often as it is met; a slice's spare places count too). A statement '..UptoSaid' is the law's where the arguments, and the package variables that the reading takes, are together of bulk at most 1048576: NARROWER than '..Said'. Prove '..Said' where nothing that the law and all that it calls make is longer than what came in: it says more and counts as full. Else prove '..UptoSaid'. A law counts once. -/
mutual
def uptoBulk {H : Type} : DataW H → Nat
  | .lit (.string bytes) => bytes.length + 1
  | .lit _ => 1
  | .nil => 1
  | .ptr d => uptoBulk d + 1
  | .slice elems spare => uptoBulkAll elems + uptoBulkAll spare + 1
  | .agg parts => uptoBulkAll parts + 1
  | .iface _ d => uptoBulk d + 1
  | .map entries => uptoBulkEntries entries + 1
  | .held _ => 1
def uptoBulkAll {H : Type} : List (DataW H) → Nat
  | [] => 0
  | d :: r => uptoBulk d + uptoBulkAll r
def uptoBulkEntries {H : Type} : List (Lit × DataW H) → Nat
  | [] => 0
  | x :: r => uptoBulkEntry x + uptoBulkEntries r
def uptoBulkEntry {H : Type} : Lit × DataW H → Nat
  | (.string bytes, d) => bytes.length + uptoBulk d + 1
  | (_, d) => uptoBulk d + 1
 end
def uptoSmall : (H : Type) → List (DataW H) → Bool := fun _ ds => decide (uptoBulkAll ds ≤ 1048576)
def OpenSpec.upto (s : _root_.Go.ChangeSpec) : _root_.Go.OpenSpec := { _root_.Go.OpenSpec.ofChange s with cond := some uptoSmall }

/-- 'laws.FnExactValidCupboard', WHERE WHAT IT READS IS OF BULK AT MOST 1048576: true; the input reads as it did. -/
def fnExactValidCupboardUptoRow : OpenClaim := { program := "ytkjligoamechkaa", sum := "6dfe4e798aa40cb890cfc8d454b658e4c4e660c2564f80f53d6ebfde77f8641f", func := "loop.example/g01378/laws.FnExactValidCupboard", spec := "fnExactValidCupboard", unfollowed := true, recurses := true, apart := false, narrowed := true }
def FnExactValidCupboardUptoSaid : Prop := fnExactValidCupboardUptoRow.holds Try.pinned (OpenSpec.upto fnExactValidCupboardSpec)

/-- 'laws.FnExactFindSheet', WHERE WHAT IT READS IS OF BULK AT MOST 1048576: true; the input reads as it did. -/
def fnExactFindSheetUptoRow : OpenClaim := { program := "ytkjligoamechkaa", sum := "6dfe4e798aa40cb890cfc8d454b658e4c4e660c2564f80f53d6ebfde77f8641f", func := "loop.example/g01378/laws.FnExactFindSheet", spec := "fnExactFindSheet", unfollowed := true, recurses := true, apart := false, narrowed := true }
def FnExactFindSheetUptoSaid : Prop := fnExactFindSheetUptoRow.holds Try.pinned (OpenSpec.upto fnExactFindSheetSpec)

/-- 'laws.FnExactTakeSheet', WHERE WHAT IT READS IS OF BULK AT MOST 1048576: true; the input reads as it did. -/
def fnExactTakeSheetUptoRow : OpenClaim := { program := "ytkjligoamechkaa", sum := "6dfe4e798aa40cb890cfc8d454b658e4c4e660c2564f80f53d6ebfde77f8641f", func := "loop.example/g01378/laws.FnExactTakeSheet", spec := "fnExactTakeSheet", unfollowed := true, recurses := true, apart := false, narrowed := true }
def FnExactTakeSheetUptoSaid : Prop := fnExactTakeSheetUptoRow.holds Try.pinned (OpenSpec.upto fnExactTakeSheetSpec)

/-- 'laws.FnExactOldestFirst', WHERE WHAT IT READS IS OF BULK AT MOST 1048576: true; the input reads as it did. -/
def fnExactOldestFirstUptoRow : OpenClaim := { program := "ytkjligoamechkaa", sum := "6dfe4e798aa40cb890cfc8d454b658e4c4e660c2564f80f53d6ebfde77f8641f", func := "loop.example/g01378/laws.FnExactOldestFirst", spec := "fnExactOldestFirst", unfollowed := true, recurses := true, apart := false, narrowed := true }
def FnExactOldestFirstUptoSaid : Prop := fnExactOldestFirstUptoRow.holds Try.pinned (OpenSpec.upto fnExactOldestFirstSpec)

/-- 'laws.FnExactLevelCupboard', WHERE WHAT IT READS IS OF BULK AT MOST 1048576: true; the input reads as it did. -/
def fnExactLevelCupboardUptoRow : OpenClaim := { program := "ytkjligoamechkaa", sum := "6dfe4e798aa40cb890cfc8d454b658e4c4e660c2564f80f53d6ebfde77f8641f", func := "loop.example/g01378/laws.FnExactLevelCupboard", spec := "fnExactLevelCupboard", unfollowed := true, recurses := true, apart := false, narrowed := true }
def FnExactLevelCupboardUptoSaid : Prop := fnExactLevelCupboardUptoRow.holds Try.pinned (OpenSpec.upto fnExactLevelCupboardSpec)

/-- 'laws.FnExactPutSheet', WHERE WHAT IT READS IS OF BULK AT MOST 1048576: true; the input reads as it did. -/
def fnExactPutSheetUptoRow : OpenClaim := { program := "ytkjligoamechkaa", sum := "6dfe4e798aa40cb890cfc8d454b658e4c4e660c2564f80f53d6ebfde77f8641f", func := "loop.example/g01378/laws.FnExactPutSheet", spec := "fnExactPutSheet", unfollowed := true, recurses := true, apart := false, narrowed := true }
def FnExactPutSheetUptoSaid : Prop := fnExactPutSheetUptoRow.holds Try.pinned (OpenSpec.upto fnExactPutSheetSpec)

end Rows
end Go.Proofs.Ytkjligoamechkaa
