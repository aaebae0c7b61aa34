/-
  No cell of these rows narrows 'for every input' (looked for: loops, veiled, ifaces, maps, wideKeys, modest, calm, conditions, laid).
  DERIVED. THE GIVEN ROWS OF THIS SEAT. 14 by the template 'for every input the law returns true; each argument reads behind the call as it read before'; 0 by the template 'total and deterministic' (their statements: YtjmnbikaijphlaaTotals.lean).
  GIVEN WITH THE SEED: the statements are not yours to turn. If you find one false, say at which input.
  Laid BY PROGRAM, IN A SANDBOX (cutbox-rows.mjs): the forced cells as the released guide's own fill.sh prints them over the translation 70b8c71e82279950… (all of the seat's roots in one cut). By AI agents, Wed Nov 11 2026. No macro, syntax, notation, axiom, sorry.
-/
import Derived.Test.YtjmnbikaijphlaaChecked
import GoSem.Claim
import GoSem.ClaimJoined
import GoSem.ClaimMapViews
import Derived.JoinedTies
import Derived.KernelRfl
namespace Go.Proofs.Ytjmnbikaijphlaa
/- THE CELL 'sum', in the pinned program and in every row, IS THE sha256 OF THE DUMP (.gsa) THAT YtjmnbikaijphlaaProg.lean LOADS. Nothing in Lean hashes anything: it is a label: what it is worth is what the hold of that sum in a sandbox is worth. -/
noncomputable def Try.pinned : Pinned := { name := "ytjmnbikaijphlaa", sum := "70b8c71e8227995056e348bdc8e9938a59e6c630d8f519b3c007ca8e51fbc192", checked := Try.checked }
namespace Rows
def none {H : Type} : Left H := { results := [], args := [] }

/-- 'laws.FnExactValidStock': WHATEVER THE INPUT: true; the input reads as it did. -/
def fnExactValidStockSpec : ChangeSpec := { name := "fnExactValidStock", fn := fun _ => fun
  | [d] => { results := [.lit (.bool true)], args := [d] }
  | _ => none }
def fnExactValidStockRow : OpenClaim := { program := "ytjmnbikaijphlaa", sum := "70b8c71e8227995056e348bdc8e9938a59e6c630d8f519b3c007ca8e51fbc192", func := "loop.example/g01378/laws.FnExactValidStock", spec := "fnExactValidStock", unfollowed := true, recurses := true, apart := false }
def FnExactValidStockSaid : Prop := fnExactValidStockRow.holds Try.pinned (OpenSpec.ofChange fnExactValidStockSpec)

/-- ITS FALSE NEIGHBOUR: 'it returns false'. Refute it at one input. -/
def fnExactValidStockWrong : ChangeSpec := { name := "fnExactValidStock", fn := fun _ => fun
  | [d] => { results := [.lit (.bool false)], args := [d] }
  | _ => none }
def FnExactValidStockWrongFalsely : Prop := fnExactValidStockRow.holds Try.pinned (OpenSpec.ofChange fnExactValidStockWrong)

/-- 'laws.FnExactPiecesOf': WHATEVER THE INPUT: true; the input reads as it did. -/
def fnExactPiecesOfSpec : ChangeSpec := { name := "fnExactPiecesOf", fn := fun _ => fun
  | [d] => { results := [.lit (.bool true)], args := [d] }
  | _ => none }
def fnExactPiecesOfRow : OpenClaim := { program := "ytjmnbikaijphlaa", sum := "70b8c71e8227995056e348bdc8e9938a59e6c630d8f519b3c007ca8e51fbc192", func := "loop.example/g01378/laws.FnExactPiecesOf", spec := "fnExactPiecesOf", unfollowed := true, recurses := true, apart := false }
def FnExactPiecesOfSaid : Prop := fnExactPiecesOfRow.holds Try.pinned (OpenSpec.ofChange fnExactPiecesOfSpec)

/-- ITS FALSE NEIGHBOUR: 'it returns false'. Refute it at one input. -/
def fnExactPiecesOfWrong : ChangeSpec := { name := "fnExactPiecesOf", fn := fun _ => fun
  | [d] => { results := [.lit (.bool false)], args := [d] }
  | _ => none }
def FnExactPiecesOfWrongFalsely : Prop := fnExactPiecesOfRow.holds Try.pinned (OpenSpec.ofChange fnExactPiecesOfWrong)

/-- 'laws.FnExactSameHouse': WHATEVER THE INPUT: true; the input reads as it did. -/
def fnExactSameHouseSpec : ChangeSpec := { name := "fnExactSameHouse", fn := fun _ => fun
  | [d1, d2] => { results := [.lit (.bool true)], args := [d1, d2] }
  | _ => none }
def fnExactSameHouseRow : OpenClaim := { program := "ytjmnbikaijphlaa", sum := "70b8c71e8227995056e348bdc8e9938a59e6c630d8f519b3c007ca8e51fbc192", func := "loop.example/g01378/laws.FnExactSameHouse", spec := "fnExactSameHouse", apart := false }
def FnExactSameHouseSaid : Prop := fnExactSameHouseRow.holds Try.pinned (OpenSpec.ofChange fnExactSameHouseSpec)

/-- ITS FALSE NEIGHBOUR: 'it returns false'. Refute it at one input. -/
def fnExactSameHouseWrong : ChangeSpec := { name := "fnExactSameHouse", fn := fun _ => fun
  | [d1, d2] => { results := [.lit (.bool false)], args := [d1, d2] }
  | _ => none }
def FnExactSameHouseWrongFalsely : Prop := fnExactSameHouseRow.holds Try.pinned (OpenSpec.ofChange fnExactSameHouseWrong)

/-- 'laws.FnExactValidHouse': WHATEVER THE INPUT: true; the input reads as it did. -/
def fnExactValidHouseSpec : ChangeSpec := { name := "fnExactValidHouse", fn := fun _ => fun
  | [d] => { results := [.lit (.bool true)], args := [d] }
  | _ => none }
def fnExactValidHouseRow : OpenClaim := { program := "ytjmnbikaijphlaa", sum := "70b8c71e8227995056e348bdc8e9938a59e6c630d8f519b3c007ca8e51fbc192", func := "loop.example/g01378/laws.FnExactValidHouse", spec := "fnExactValidHouse", unfollowed := true, recurses := true, apart := false }
def FnExactValidHouseSaid : Prop := fnExactValidHouseRow.holds Try.pinned (OpenSpec.ofChange fnExactValidHouseSpec)

/-- ITS FALSE NEIGHBOUR: 'it returns false'. Refute it at one input. -/
def fnExactValidHouseWrong : ChangeSpec := { name := "fnExactValidHouse", fn := fun _ => fun
  | [d] => { results := [.lit (.bool false)], args := [d] }
  | _ => none }
def FnExactValidHouseWrongFalsely : Prop := fnExactValidHouseRow.holds Try.pinned (OpenSpec.ofChange fnExactValidHouseWrong)

/-- 'laws.FnExactNewHouse': WHATEVER THE INPUT: true; the input reads as it did. -/
def fnExactNewHouseSpec : ChangeSpec := { name := "fnExactNewHouse", fn := fun _ => fun
  | [d1, d2, d3] => { results := [.lit (.bool true)], args := [d1, d2, d3] }
  | _ => none }
def fnExactNewHouseRow : OpenClaim := { program := "ytjmnbikaijphlaa", sum := "70b8c71e8227995056e348bdc8e9938a59e6c630d8f519b3c007ca8e51fbc192", func := "loop.example/g01378/laws.FnExactNewHouse", spec := "fnExactNewHouse", unfollowed := true, recurses := true, apart := false }
def FnExactNewHouseSaid : Prop := fnExactNewHouseRow.holds Try.pinned (OpenSpec.ofChange fnExactNewHouseSpec)

/-- ITS FALSE NEIGHBOUR: 'it returns false'. Refute it at one input. -/
def fnExactNewHouseWrong : ChangeSpec := { name := "fnExactNewHouse", fn := fun _ => fun
  | [d1, d2, d3] => { results := [.lit (.bool false)], args := [d1, d2, d3] }
  | _ => none }
def FnExactNewHouseWrongFalsely : Prop := fnExactNewHouseRow.holds Try.pinned (OpenSpec.ofChange fnExactNewHouseWrong)

/-- 'laws.FnExactUseKind': WHATEVER THE INPUT: true; the input reads as it did. -/
def fnExactUseKindSpec : ChangeSpec := { name := "fnExactUseKind", fn := fun _ => fun
  | [d1, d2] => { results := [.lit (.bool true)], args := [d1, d2] }
  | _ => none }
def fnExactUseKindRow : OpenClaim := { program := "ytjmnbikaijphlaa", sum := "70b8c71e8227995056e348bdc8e9938a59e6c630d8f519b3c007ca8e51fbc192", func := "loop.example/g01378/laws.FnExactUseKind", spec := "fnExactUseKind", unfollowed := true, recurses := true, apart := false }
def FnExactUseKindSaid : Prop := fnExactUseKindRow.holds Try.pinned (OpenSpec.ofChange fnExactUseKindSpec)

/-- ITS FALSE NEIGHBOUR: 'it returns false'. Refute it at one input. -/
def fnExactUseKindWrong : ChangeSpec := { name := "fnExactUseKind", fn := fun _ => fun
  | [d1, d2] => { results := [.lit (.bool false)], args := [d1, d2] }
  | _ => none }
def FnExactUseKindWrongFalsely : Prop := fnExactUseKindRow.holds Try.pinned (OpenSpec.ofChange fnExactUseKindWrong)

/-- 'laws.FnExactLeastStock': WHATEVER THE INPUT: true; the input reads as it did. -/
def fnExactLeastStockSpec : ChangeSpec := { name := "fnExactLeastStock", fn := fun _ => fun
  | [d1, d2, d3, d4] => { results := [.lit (.bool true)], args := [d1, d2, d3, d4] }
  | _ => none }
def fnExactLeastStockRow : OpenClaim := { program := "ytjmnbikaijphlaa", sum := "70b8c71e8227995056e348bdc8e9938a59e6c630d8f519b3c007ca8e51fbc192", func := "loop.example/g01378/laws.FnExactLeastStock", spec := "fnExactLeastStock", unfollowed := true, recurses := true, apart := false }
def FnExactLeastStockSaid : Prop := fnExactLeastStockRow.holds Try.pinned (OpenSpec.ofChange fnExactLeastStockSpec)

/-- ITS FALSE NEIGHBOUR: 'it returns false'. Refute it at one input. -/
def fnExactLeastStockWrong : ChangeSpec := { name := "fnExactLeastStock", fn := fun _ => fun
  | [d1, d2, d3, d4] => { results := [.lit (.bool false)], args := [d1, d2, d3, d4] }
  | _ => none }
def FnExactLeastStockWrongFalsely : Prop := fnExactLeastStockRow.holds Try.pinned (OpenSpec.ofChange fnExactLeastStockWrong)

/-- 'laws.FnExactWashHouse': WHATEVER THE INPUT: true; the input reads as it did. -/
def fnExactWashHouseSpec : ChangeSpec := { name := "fnExactWashHouse", fn := fun _ => fun
  | [d] => { results := [.lit (.bool true)], args := [d] }
  | _ => none }
def fnExactWashHouseRow : OpenClaim := { program := "ytjmnbikaijphlaa", sum := "70b8c71e8227995056e348bdc8e9938a59e6c630d8f519b3c007ca8e51fbc192", func := "loop.example/g01378/laws.FnExactWashHouse", spec := "fnExactWashHouse", unfollowed := true, recurses := true, apart := false }
def FnExactWashHouseSaid : Prop := fnExactWashHouseRow.holds Try.pinned (OpenSpec.ofChange fnExactWashHouseSpec)

/-- ITS FALSE NEIGHBOUR: 'it returns false'. Refute it at one input. -/
def fnExactWashHouseWrong : ChangeSpec := { name := "fnExactWashHouse", fn := fun _ => fun
  | [d] => { results := [.lit (.bool false)], args := [d] }
  | _ => none }
def FnExactWashHouseWrongFalsely : Prop := fnExactWashHouseRow.holds Try.pinned (OpenSpec.ofChange fnExactWashHouseWrong)

/-- 'laws.FnExactAddPieces': WHATEVER THE INPUT: true; the input reads as it did. -/
def fnExactAddPiecesSpec : ChangeSpec := { name := "fnExactAddPieces", fn := fun _ => fun
  | [d1, d2, d3] => { results := [.lit (.bool true)], args := [d1, d2, d3] }
  | _ => none }
def fnExactAddPiecesRow : OpenClaim := { program := "ytjmnbikaijphlaa", sum := "70b8c71e8227995056e348bdc8e9938a59e6c630d8f519b3c007ca8e51fbc192", func := "loop.example/g01378/laws.FnExactAddPieces", spec := "fnExactAddPieces", unfollowed := true, recurses := true, apart := false }
def FnExactAddPiecesSaid : Prop := fnExactAddPiecesRow.holds Try.pinned (OpenSpec.ofChange fnExactAddPiecesSpec)

/-- ITS FALSE NEIGHBOUR: 'it returns false'. Refute it at one input. -/
def fnExactAddPiecesWrong : ChangeSpec := { name := "fnExactAddPieces", fn := fun _ => fun
  | [d1, d2, d3] => { results := [.lit (.bool false)], args := [d1, d2, d3] }
  | _ => none }
def FnExactAddPiecesWrongFalsely : Prop := fnExactAddPiecesRow.holds Try.pinned (OpenSpec.ofChange fnExactAddPiecesWrong)

/-- 'laws.FnExactMendRags': WHATEVER THE INPUT: true; the input reads as it did. -/
def fnExactMendRagsSpec : ChangeSpec := { name := "fnExactMendRags", fn := fun _ => fun
  | [d1, d2, d3, d4] => { results := [.lit (.bool true)], args := [d1, d2, d3, d4] }
  | _ => none }
def fnExactMendRagsRow : OpenClaim := { program := "ytjmnbikaijphlaa", sum := "70b8c71e8227995056e348bdc8e9938a59e6c630d8f519b3c007ca8e51fbc192", func := "loop.example/g01378/laws.FnExactMendRags", spec := "fnExactMendRags", unfollowed := true, recurses := true, apart := false }
def FnExactMendRagsSaid : Prop := fnExactMendRagsRow.holds Try.pinned (OpenSpec.ofChange fnExactMendRagsSpec)

/-- ITS FALSE NEIGHBOUR: 'it returns false'. Refute it at one input. -/
def fnExactMendRagsWrong : ChangeSpec := { name := "fnExactMendRags", fn := fun _ => fun
  | [d1, d2, d3, d4] => { results := [.lit (.bool false)], args := [d1, d2, d3, d4] }
  | _ => none }
def FnExactMendRagsWrongFalsely : Prop := fnExactMendRagsRow.holds Try.pinned (OpenSpec.ofChange fnExactMendRagsWrong)

/-- 'laws.FnExactLastsFor': WHATEVER THE INPUT: true; the input reads as it did. -/
def fnExactLastsForSpec : ChangeSpec := { name := "fnExactLastsFor", fn := fun _ => fun
  | [d1, d2] => { results := [.lit (.bool true)], args := [d1, d2] }
  | _ => none }
def fnExactLastsForRow : OpenClaim := { program := "ytjmnbikaijphlaa", sum := "70b8c71e8227995056e348bdc8e9938a59e6c630d8f519b3c007ca8e51fbc192", func := "loop.example/g01378/laws.FnExactLastsFor", spec := "fnExactLastsFor", unfollowed := true, recurses := true, apart := false }
def FnExactLastsForSaid : Prop := fnExactLastsForRow.holds Try.pinned (OpenSpec.ofChange fnExactLastsForSpec)

/-- ITS FALSE NEIGHBOUR: 'it returns false'. Refute it at one input. -/
def fnExactLastsForWrong : ChangeSpec := { name := "fnExactLastsFor", fn := fun _ => fun
  | [d1, d2] => { results := [.lit (.bool false)], args := [d1, d2] }
  | _ => none }
def FnExactLastsForWrongFalsely : Prop := fnExactLastsForRow.holds Try.pinned (OpenSpec.ofChange fnExactLastsForWrong)

/-- 'laws.FnExactDayOnce': WHATEVER THE INPUT: true; the input reads as it did. -/
def fnExactDayOnceSpec : ChangeSpec := { name := "fnExactDayOnce", fn := fun _ => fun
  | [d1, d2] => { results := [.lit (.bool true)], args := [d1, d2] }
  | _ => none }
def fnExactDayOnceRow : OpenClaim := { program := "ytjmnbikaijphlaa", sum := "70b8c71e8227995056e348bdc8e9938a59e6c630d8f519b3c007ca8e51fbc192", func := "loop.example/g01378/laws.FnExactDayOnce", spec := "fnExactDayOnce", unfollowed := true, recurses := true, apart := false }
def FnExactDayOnceSaid : Prop := fnExactDayOnceRow.holds Try.pinned (OpenSpec.ofChange fnExactDayOnceSpec)

/-- ITS FALSE NEIGHBOUR: 'it returns false'. Refute it at one input. -/
def fnExactDayOnceWrong : ChangeSpec := { name := "fnExactDayOnce", fn := fun _ => fun
  | [d1, d2] => { results := [.lit (.bool false)], args := [d1, d2] }
  | _ => none }
def FnExactDayOnceWrongFalsely : Prop := fnExactDayOnceRow.holds Try.pinned (OpenSpec.ofChange fnExactDayOnceWrong)

/-- 'laws.FnExactFirstShort': WHATEVER THE INPUT: true; the input reads as it did. -/
def fnExactFirstShortSpec : ChangeSpec := { name := "fnExactFirstShort", fn := fun _ => fun
  | [d1, d2] => { results := [.lit (.bool true)], args := [d1, d2] }
  | _ => none }
def fnExactFirstShortRow : OpenClaim := { program := "ytjmnbikaijphlaa", sum := "70b8c71e8227995056e348bdc8e9938a59e6c630d8f519b3c007ca8e51fbc192", func := "loop.example/g01378/laws.FnExactFirstShort", spec := "fnExactFirstShort", unfollowed := true, recurses := true, apart := false }
def FnExactFirstShortSaid : Prop := fnExactFirstShortRow.holds Try.pinned (OpenSpec.ofChange fnExactFirstShortSpec)

/-- ITS FALSE NEIGHBOUR: 'it returns false'. Refute it at one input. -/
def fnExactFirstShortWrong : ChangeSpec := { name := "fnExactFirstShort", fn := fun _ => fun
  | [d1, d2] => { results := [.lit (.bool false)], args := [d1, d2] }
  | _ => none }
def FnExactFirstShortWrongFalsely : Prop := fnExactFirstShortRow.holds Try.pinned (OpenSpec.ofChange fnExactFirstShortWrong)

/-- 'laws.FnExactWornOut': WHATEVER THE INPUT: true; the input reads as it did. -/
def fnExactWornOutSpec : ChangeSpec := { name := "fnExactWornOut", fn := fun _ => fun
  | [d1, d2] => { results := [.lit (.bool true)], args := [d1, d2] }
  | _ => none }
def fnExactWornOutRow : OpenClaim := { program := "ytjmnbikaijphlaa", sum := "70b8c71e8227995056e348bdc8e9938a59e6c630d8f519b3c007ca8e51fbc192", func := "loop.example/g01378/laws.FnExactWornOut", spec := "fnExactWornOut", unfollowed := true, recurses := true, apart := false }
def FnExactWornOutSaid : Prop := fnExactWornOutRow.holds Try.pinned (OpenSpec.ofChange fnExactWornOutSpec)

/-- ITS FALSE NEIGHBOUR: 'it returns false'. Refute it at one input. -/
def fnExactWornOutWrong : ChangeSpec := { name := "fnExactWornOut", fn := fun _ => fun
  | [d1, d2] => { results := [.lit (.bool false)], args := [d1, d2] }
  | _ => none }
def FnExactWornOutWrongFalsely : Prop := fnExactWornOutRow.holds Try.pinned (OpenSpec.ofChange fnExactWornOutWrong)

/- THE SECOND FORM. 'bulk': how many values and letters a reading holds, each counted each time it is reached (what is shared counts as often as it is met; a slice's spare places count too). A statement '..UptoSaid' is the law's where the arguments, and the package variables that the reading takes, are together of bulk at most 1048576: NARROWER than '..Said'. Prove '..Said' where nothing that the law and all that it calls make is longer than what came in: it says more and counts as full. Else prove '..UptoSaid'. A law counts once. -/
mutual
def uptoBulk {H : Type} : DataW H → Nat
  | .lit (.string bytes) => bytes.length + 1
  | .lit _ => 1
  | .nil => 1
  | .ptr d => uptoBulk d + 1
  | .slice elems spare => uptoBulkAll elems + uptoBulkAll spare + 1
  | .agg parts => uptoBulkAll parts + 1
  | .iface _ d => uptoBulk d + 1
  | .map entries => uptoBulkEntries entries + 1
  | .held _ => 1
def uptoBulkAll {H : Type} : List (DataW H) → Nat
  | [] => 0
  | d :: r => uptoBulk d + uptoBulkAll r
def uptoBulkEntries {H : Type} : List (Lit × DataW H) → Nat
  | [] => 0
  | x :: r => uptoBulkEntry x + uptoBulkEntries r
def uptoBulkEntry {H : Type} : Lit × DataW H → Nat
  | (.string bytes, d) => bytes.length + uptoBulk d + 1
  | (_, d) => uptoBulk d + 1
 end
def uptoSmall : (H : Type) → List (DataW H) → Bool := fun _ ds => decide (uptoBulkAll ds ≤ 1048576)
def OpenSpec.upto (s : _root_.Go.ChangeSpec) : _root_.Go.OpenSpec := { _root_.Go.OpenSpec.ofChange s with cond := some uptoSmall }

/-- 'laws.FnExactValidStock', WHERE WHAT IT READS IS OF BULK AT MOST 1048576: true; the input reads as it did. -/
def fnExactValidStockUptoRow : OpenClaim := { program := "ytjmnbikaijphlaa", sum := "70b8c71e8227995056e348bdc8e9938a59e6c630d8f519b3c007ca8e51fbc192", func := "loop.example/g01378/laws.FnExactValidStock", spec := "fnExactValidStock", unfollowed := true, recurses := true, apart := false, narrowed := true }
def FnExactValidStockUptoSaid : Prop := fnExactValidStockUptoRow.holds Try.pinned (OpenSpec.upto fnExactValidStockSpec)

/-- 'laws.FnExactPiecesOf', WHERE WHAT IT READS IS OF BULK AT MOST 1048576: true; the input reads as it did. -/
def fnExactPiecesOfUptoRow : OpenClaim := { program := "ytjmnbikaijphlaa", sum := "70b8c71e8227995056e348bdc8e9938a59e6c630d8f519b3c007ca8e51fbc192", func := "loop.example/g01378/laws.FnExactPiecesOf", spec := "fnExactPiecesOf", unfollowed := true, recurses := true, apart := false, narrowed := true }
def FnExactPiecesOfUptoSaid : Prop := fnExactPiecesOfUptoRow.holds Try.pinned (OpenSpec.upto fnExactPiecesOfSpec)

/-- 'laws.FnExactSameHouse', WHERE WHAT IT READS IS OF BULK AT MOST 1048576: true; the input reads as it did. -/
def fnExactSameHouseUptoRow : OpenClaim := { program := "ytjmnbikaijphlaa", sum := "70b8c71e8227995056e348bdc8e9938a59e6c630d8f519b3c007ca8e51fbc192", func := "loop.example/g01378/laws.FnExactSameHouse", spec := "fnExactSameHouse", apart := false, narrowed := true }
def FnExactSameHouseUptoSaid : Prop := fnExactSameHouseUptoRow.holds Try.pinned (OpenSpec.upto fnExactSameHouseSpec)

/-- 'laws.FnExactValidHouse', WHERE WHAT IT READS IS OF BULK AT MOST 1048576: true; the input reads as it did. -/
def fnExactValidHouseUptoRow : OpenClaim := { program := "ytjmnbikaijphlaa", sum := "70b8c71e8227995056e348bdc8e9938a59e6c630d8f519b3c007ca8e51fbc192", func := "loop.example/g01378/laws.FnExactValidHouse", spec := "fnExactValidHouse", unfollowed := true, recurses := true, apart := false, narrowed := true }
def FnExactValidHouseUptoSaid : Prop := fnExactValidHouseUptoRow.holds Try.pinned (OpenSpec.upto fnExactValidHouseSpec)

/-- 'laws.FnExactNewHouse', WHERE WHAT IT READS IS OF BULK AT MOST 1048576: true; the input reads as it did. -/
def fnExactNewHouseUptoRow : OpenClaim := { program := "ytjmnbikaijphlaa", sum := "70b8c71e8227995056e348bdc8e9938a59e6c630d8f519b3c007ca8e51fbc192", func := "loop.example/g01378/laws.FnExactNewHouse", spec := "fnExactNewHouse", unfollowed := true, recurses := true, apart := false, narrowed := true }
def FnExactNewHouseUptoSaid : Prop := fnExactNewHouseUptoRow.holds Try.pinned (OpenSpec.upto fnExactNewHouseSpec)

/-- 'laws.FnExactUseKind', WHERE WHAT IT READS IS OF BULK AT MOST 1048576: true; the input reads as it did. -/
def fnExactUseKindUptoRow : OpenClaim := { program := "ytjmnbikaijphlaa", sum := "70b8c71e8227995056e348bdc8e9938a59e6c630d8f519b3c007ca8e51fbc192", func := "loop.example/g01378/laws.FnExactUseKind", spec := "fnExactUseKind", unfollowed := true, recurses := true, apart := false, narrowed := true }
def FnExactUseKindUptoSaid : Prop := fnExactUseKindUptoRow.holds Try.pinned (OpenSpec.upto fnExactUseKindSpec)

/-- 'laws.FnExactLeastStock', WHERE WHAT IT READS IS OF BULK AT MOST 1048576: true; the input reads as it did. -/
def fnExactLeastStockUptoRow : OpenClaim := { program := "ytjmnbikaijphlaa", sum := "70b8c71e8227995056e348bdc8e9938a59e6c630d8f519b3c007ca8e51fbc192", func := "loop.example/g01378/laws.FnExactLeastStock", spec := "fnExactLeastStock", unfollowed := true, recurses := true, apart := false, narrowed := true }
def FnExactLeastStockUptoSaid : Prop := fnExactLeastStockUptoRow.holds Try.pinned (OpenSpec.upto fnExactLeastStockSpec)

/-- 'laws.FnExactWashHouse', WHERE WHAT IT READS IS OF BULK AT MOST 1048576: true; the input reads as it did. -/
def fnExactWashHouseUptoRow : OpenClaim := { program := "ytjmnbikaijphlaa", sum := "70b8c71e8227995056e348bdc8e9938a59e6c630d8f519b3c007ca8e51fbc192", func := "loop.example/g01378/laws.FnExactWashHouse", spec := "fnExactWashHouse", unfollowed := true, recurses := true, apart := false, narrowed := true }
def FnExactWashHouseUptoSaid : Prop := fnExactWashHouseUptoRow.holds Try.pinned (OpenSpec.upto fnExactWashHouseSpec)

/-- 'laws.FnExactAddPieces', WHERE WHAT IT READS IS OF BULK AT MOST 1048576: true; the input reads as it did. -/
def fnExactAddPiecesUptoRow : OpenClaim := { program := "ytjmnbikaijphlaa", sum := "70b8c71e8227995056e348bdc8e9938a59e6c630d8f519b3c007ca8e51fbc192", func := "loop.example/g01378/laws.FnExactAddPieces", spec := "fnExactAddPieces", unfollowed := true, recurses := true, apart := false, narrowed := true }
def FnExactAddPiecesUptoSaid : Prop := fnExactAddPiecesUptoRow.holds Try.pinned (OpenSpec.upto fnExactAddPiecesSpec)

/-- 'laws.FnExactMendRags', WHERE WHAT IT READS IS OF BULK AT MOST 1048576: true; the input reads as it did. -/
def fnExactMendRagsUptoRow : OpenClaim := { program := "ytjmnbikaijphlaa", sum := "70b8c71e8227995056e348bdc8e9938a59e6c630d8f519b3c007ca8e51fbc192", func := "loop.example/g01378/laws.FnExactMendRags", spec := "fnExactMendRags", unfollowed := true, recurses := true, apart := false, narrowed := true }
def FnExactMendRagsUptoSaid : Prop := fnExactMendRagsUptoRow.holds Try.pinned (OpenSpec.upto fnExactMendRagsSpec)

/-- 'laws.FnExactLastsFor', WHERE WHAT IT READS IS OF BULK AT MOST 1048576: true; the input reads as it did. -/
def fnExactLastsForUptoRow : OpenClaim := { program := "ytjmnbikaijphlaa", sum := "70b8c71e8227995056e348bdc8e9938a59e6c630d8f519b3c007ca8e51fbc192", func := "loop.example/g01378/laws.FnExactLastsFor", spec := "fnExactLastsFor", unfollowed := true, recurses := true, apart := false, narrowed := true }
def FnExactLastsForUptoSaid : Prop := fnExactLastsForUptoRow.holds Try.pinned (OpenSpec.upto fnExactLastsForSpec)

/-- 'laws.FnExactDayOnce', WHERE WHAT IT READS IS OF BULK AT MOST 1048576: true; the input reads as it did. -/
def fnExactDayOnceUptoRow : OpenClaim := { program := "ytjmnbikaijphlaa", sum := "70b8c71e8227995056e348bdc8e9938a59e6c630d8f519b3c007ca8e51fbc192", func := "loop.example/g01378/laws.FnExactDayOnce", spec := "fnExactDayOnce", unfollowed := true, recurses := true, apart := false, narrowed := true }
def FnExactDayOnceUptoSaid : Prop := fnExactDayOnceUptoRow.holds Try.pinned (OpenSpec.upto fnExactDayOnceSpec)

/-- 'laws.FnExactFirstShort', WHERE WHAT IT READS IS OF BULK AT MOST 1048576: true; the input reads as it did. -/
def fnExactFirstShortUptoRow : OpenClaim := { program := "ytjmnbikaijphlaa", sum := "70b8c71e8227995056e348bdc8e9938a59e6c630d8f519b3c007ca8e51fbc192", func := "loop.example/g01378/laws.FnExactFirstShort", spec := "fnExactFirstShort", unfollowed := true, recurses := true, apart := false, narrowed := true }
def FnExactFirstShortUptoSaid : Prop := fnExactFirstShortUptoRow.holds Try.pinned (OpenSpec.upto fnExactFirstShortSpec)

/-- 'laws.FnExactWornOut', WHERE WHAT IT READS IS OF BULK AT MOST 1048576: true; the input reads as it did. -/
def fnExactWornOutUptoRow : OpenClaim := { program := "ytjmnbikaijphlaa", sum := "70b8c71e8227995056e348bdc8e9938a59e6c630d8f519b3c007ca8e51fbc192", func := "loop.example/g01378/laws.FnExactWornOut", spec := "fnExactWornOut", unfollowed := true, recurses := true, apart := false, narrowed := true }
def FnExactWornOutUptoSaid : Prop := fnExactWornOutUptoRow.holds Try.pinned (OpenSpec.upto fnExactWornOutSpec)

end Rows
end Go.Proofs.Ytjmnbikaijphlaa
