/-
  No cell of these rows narrows 'for every input' (looked for: loops, veiled, ifaces, maps, wideKeys, modest, calm, conditions, laid).
  DERIVED. THE GIVEN ROWS OF THIS SEAT. 10 by the template 'for every input the law returns true; each argument reads behind the call as it read before'; 0 by the template 'total and deterministic' (their statements: YtkfbkmkaijonhaaTotals.lean).
  GIVEN WITH THE SEED: the statements are not yours to turn. If you find one false, say at which input.
  Laid BY PROGRAM, IN A SANDBOX (cutbox-rows.mjs): the forced cells as the released guide's own fill.sh prints them over the translation 551471fbb22da714… (all of the seat's roots in one cut). By AI agents, Wed Nov 11 2026. No macro, syntax, notation, axiom, sorry.
-/
import Derived.Test.YtkfbkmkaijonhaaChecked
import GoSem.Claim
import GoSem.ClaimJoined
import GoSem.ClaimMapViews
import Derived.JoinedTies
import Derived.KernelRfl
namespace Go.Proofs.Ytkfbkmkaijonhaa
/- THE CELL 'sum', in the pinned program and in every row, IS THE sha256 OF THE DUMP (.gsa) THAT YtkfbkmkaijonhaaProg.lean LOADS. Nothing in Lean hashes anything: it is a label: what it is worth is what the hold of that sum in a sandbox is worth. -/
noncomputable def Try.pinned : Pinned := { name := "ytkfbkmkaijonhaa", sum := "551471fbb22da714d6c5a67faa15e3f3d4df625db5a4080515103ed0e5659c06", checked := Try.checked }
namespace Rows
def none {H : Type} : Left H := { results := [], args := [] }

/-- 'laws.FnExactSunOver': WHATEVER THE INPUT: true; the input reads as it did. -/
def fnExactSunOverSpec : ChangeSpec := { name := "fnExactSunOver", fn := fun _ => fun
  | [d1, d2, d3] => { results := [.lit (.bool true)], args := [d1, d2, d3] }
  | _ => none }
def fnExactSunOverRow : OpenClaim := { program := "ytkfbkmkaijonhaa", sum := "551471fbb22da714d6c5a67faa15e3f3d4df625db5a4080515103ed0e5659c06", func := "loop.example/g01378/laws.FnExactSunOver", spec := "fnExactSunOver", unfollowed := true, recurses := true, apart := false }
def FnExactSunOverSaid : Prop := fnExactSunOverRow.holds Try.pinned (OpenSpec.ofChange fnExactSunOverSpec)

/-- ITS FALSE NEIGHBOUR: 'it returns false'. Refute it at one input. -/
def fnExactSunOverWrong : ChangeSpec := { name := "fnExactSunOver", fn := fun _ => fun
  | [d1, d2, d3] => { results := [.lit (.bool false)], args := [d1, d2, d3] }
  | _ => none }
def FnExactSunOverWrongFalsely : Prop := fnExactSunOverRow.holds Try.pinned (OpenSpec.ofChange fnExactSunOverWrong)

/-- 'laws.FnExactRainFrom': WHATEVER THE INPUT: true; the input reads as it did. -/
def fnExactRainFromSpec : ChangeSpec := { name := "fnExactRainFrom", fn := fun _ => fun
  | [d1, d2] => { results := [.lit (.bool true)], args := [d1, d2] }
  | _ => none }
def fnExactRainFromRow : OpenClaim := { program := "ytkfbkmkaijonhaa", sum := "551471fbb22da714d6c5a67faa15e3f3d4df625db5a4080515103ed0e5659c06", func := "loop.example/g01378/laws.FnExactRainFrom", spec := "fnExactRainFrom", unfollowed := true, recurses := true, apart := false }
def FnExactRainFromSaid : Prop := fnExactRainFromRow.holds Try.pinned (OpenSpec.ofChange fnExactRainFromSpec)

/-- ITS FALSE NEIGHBOUR: 'it returns false'. Refute it at one input. -/
def fnExactRainFromWrong : ChangeSpec := { name := "fnExactRainFrom", fn := fun _ => fun
  | [d1, d2] => { results := [.lit (.bool false)], args := [d1, d2] }
  | _ => none }
def FnExactRainFromWrongFalsely : Prop := fnExactRainFromRow.holds Try.pinned (OpenSpec.ofChange fnExactRainFromWrong)

/-- 'laws.FnExactWetBehind': WHATEVER THE INPUT: true; the input reads as it did. -/
def fnExactWetBehindSpec : ChangeSpec := { name := "fnExactWetBehind", fn := fun _ => fun
  | [d1, d2, d3, d4, d5] => { results := [.lit (.bool true)], args := [d1, d2, d3, d4, d5] }
  | _ => none }
def fnExactWetBehindRow : OpenClaim := { program := "ytkfbkmkaijonhaa", sum := "551471fbb22da714d6c5a67faa15e3f3d4df625db5a4080515103ed0e5659c06", func := "loop.example/g01378/laws.FnExactWetBehind", spec := "fnExactWetBehind", unfollowed := true, recurses := true, apart := false }
def FnExactWetBehindSaid : Prop := fnExactWetBehindRow.holds Try.pinned (OpenSpec.ofChange fnExactWetBehindSpec)

/-- ITS FALSE NEIGHBOUR: 'it returns false'. Refute it at one input. -/
def fnExactWetBehindWrong : ChangeSpec := { name := "fnExactWetBehind", fn := fun _ => fun
  | [d1, d2, d3, d4, d5] => { results := [.lit (.bool false)], args := [d1, d2, d3, d4, d5] }
  | _ => none }
def FnExactWetBehindWrongFalsely : Prop := fnExactWetBehindRow.holds Try.pinned (OpenSpec.ofChange fnExactWetBehindWrong)

/-- 'laws.FnExactWettestFor': WHATEVER THE INPUT: true; the input reads as it did. -/
def fnExactWettestForSpec : ChangeSpec := { name := "fnExactWettestFor", fn := fun _ => fun
  | [d1, d2, d3, d4, d5] => { results := [.lit (.bool true)], args := [d1, d2, d3, d4, d5] }
  | _ => none }
def fnExactWettestForRow : OpenClaim := { program := "ytkfbkmkaijonhaa", sum := "551471fbb22da714d6c5a67faa15e3f3d4df625db5a4080515103ed0e5659c06", func := "loop.example/g01378/laws.FnExactWettestFor", spec := "fnExactWettestFor", unfollowed := true, recurses := true, apart := false }
def FnExactWettestForSaid : Prop := fnExactWettestForRow.holds Try.pinned (OpenSpec.ofChange fnExactWettestForSpec)

/-- ITS FALSE NEIGHBOUR: 'it returns false'. Refute it at one input. -/
def fnExactWettestForWrong : ChangeSpec := { name := "fnExactWettestFor", fn := fun _ => fun
  | [d1, d2, d3, d4, d5] => { results := [.lit (.bool false)], args := [d1, d2, d3, d4, d5] }
  | _ => none }
def FnExactWettestForWrongFalsely : Prop := fnExactWettestForRow.holds Try.pinned (OpenSpec.ofChange fnExactWettestForWrong)

/-- 'laws.FnExactTakeInAt': WHATEVER THE INPUT: true; the input reads as it did. -/
def fnExactTakeInAtSpec : ChangeSpec := { name := "fnExactTakeInAt", fn := fun _ => fun
  | [d1, d2, d3, d4] => { results := [.lit (.bool true)], args := [d1, d2, d3, d4] }
  | _ => none }
def fnExactTakeInAtRow : OpenClaim := { program := "ytkfbkmkaijonhaa", sum := "551471fbb22da714d6c5a67faa15e3f3d4df625db5a4080515103ed0e5659c06", func := "loop.example/g01378/laws.FnExactTakeInAt", spec := "fnExactTakeInAt", unfollowed := true, recurses := true, apart := false }
def FnExactTakeInAtSaid : Prop := fnExactTakeInAtRow.holds Try.pinned (OpenSpec.ofChange fnExactTakeInAtSpec)

/-- ITS FALSE NEIGHBOUR: 'it returns false'. Refute it at one input. -/
def fnExactTakeInAtWrong : ChangeSpec := { name := "fnExactTakeInAt", fn := fun _ => fun
  | [d1, d2, d3, d4] => { results := [.lit (.bool false)], args := [d1, d2, d3, d4] }
  | _ => none }
def FnExactTakeInAtWrongFalsely : Prop := fnExactTakeInAtRow.holds Try.pinned (OpenSpec.ofChange fnExactTakeInAtWrong)

/-- 'laws.FnExactCourseOf': WHATEVER THE INPUT: true; the input reads as it did. -/
def fnExactCourseOfSpec : ChangeSpec := { name := "fnExactCourseOf", fn := fun _ => fun
  | [d1, d2, d3, d4] => { results := [.lit (.bool true)], args := [d1, d2, d3, d4] }
  | _ => none }
def fnExactCourseOfRow : OpenClaim := { program := "ytkfbkmkaijonhaa", sum := "551471fbb22da714d6c5a67faa15e3f3d4df625db5a4080515103ed0e5659c06", func := "loop.example/g01378/laws.FnExactCourseOf", spec := "fnExactCourseOf", unfollowed := true, recurses := true, apart := false }
def FnExactCourseOfSaid : Prop := fnExactCourseOfRow.holds Try.pinned (OpenSpec.ofChange fnExactCourseOfSpec)

/-- ITS FALSE NEIGHBOUR: 'it returns false'. Refute it at one input. -/
def fnExactCourseOfWrong : ChangeSpec := { name := "fnExactCourseOf", fn := fun _ => fun
  | [d1, d2, d3, d4] => { results := [.lit (.bool false)], args := [d1, d2, d3, d4] }
  | _ => none }
def FnExactCourseOfWrongFalsely : Prop := fnExactCourseOfRow.holds Try.pinned (OpenSpec.ofChange fnExactCourseOfWrong)

/-- 'laws.FnExactDryAt': WHATEVER THE INPUT: true; the input reads as it did. -/
def fnExactDryAtSpec : ChangeSpec := { name := "fnExactDryAt", fn := fun _ => fun
  | [d1, d2, d3, d4] => { results := [.lit (.bool true)], args := [d1, d2, d3, d4] }
  | _ => none }
def fnExactDryAtRow : OpenClaim := { program := "ytkfbkmkaijonhaa", sum := "551471fbb22da714d6c5a67faa15e3f3d4df625db5a4080515103ed0e5659c06", func := "loop.example/g01378/laws.FnExactDryAt", spec := "fnExactDryAt", unfollowed := true, recurses := true, apart := false }
def FnExactDryAtSaid : Prop := fnExactDryAtRow.holds Try.pinned (OpenSpec.ofChange fnExactDryAtSpec)

/-- ITS FALSE NEIGHBOUR: 'it returns false'. Refute it at one input. -/
def fnExactDryAtWrong : ChangeSpec := { name := "fnExactDryAt", fn := fun _ => fun
  | [d1, d2, d3, d4] => { results := [.lit (.bool false)], args := [d1, d2, d3, d4] }
  | _ => none }
def FnExactDryAtWrongFalsely : Prop := fnExactDryAtRow.holds Try.pinned (OpenSpec.ofChange fnExactDryAtWrong)

/-- 'laws.FnExactLatestStart': WHATEVER THE INPUT: true; the input reads as it did. -/
def fnExactLatestStartSpec : ChangeSpec := { name := "fnExactLatestStart", fn := fun _ => fun
  | [d1, d2, d3] => { results := [.lit (.bool true)], args := [d1, d2, d3] }
  | _ => none }
def fnExactLatestStartRow : OpenClaim := { program := "ytkfbkmkaijonhaa", sum := "551471fbb22da714d6c5a67faa15e3f3d4df625db5a4080515103ed0e5659c06", func := "loop.example/g01378/laws.FnExactLatestStart", spec := "fnExactLatestStart", unfollowed := true, recurses := true, apart := false }
def FnExactLatestStartSaid : Prop := fnExactLatestStartRow.holds Try.pinned (OpenSpec.ofChange fnExactLatestStartSpec)

/-- ITS FALSE NEIGHBOUR: 'it returns false'. Refute it at one input. -/
def fnExactLatestStartWrong : ChangeSpec := { name := "fnExactLatestStart", fn := fun _ => fun
  | [d1, d2, d3] => { results := [.lit (.bool false)], args := [d1, d2, d3] }
  | _ => none }
def FnExactLatestStartWrongFalsely : Prop := fnExactLatestStartRow.holds Try.pinned (OpenSpec.ofChange fnExactLatestStartWrong)

/-- 'laws.FnExactFewestHours': WHATEVER THE INPUT: true; the input reads as it did. -/
def fnExactFewestHoursSpec : ChangeSpec := { name := "fnExactFewestHours", fn := fun _ => fun
  | [d1, d2, d3] => { results := [.lit (.bool true)], args := [d1, d2, d3] }
  | _ => none }
def fnExactFewestHoursRow : OpenClaim := { program := "ytkfbkmkaijonhaa", sum := "551471fbb22da714d6c5a67faa15e3f3d4df625db5a4080515103ed0e5659c06", func := "loop.example/g01378/laws.FnExactFewestHours", spec := "fnExactFewestHours", unfollowed := true, recurses := true, apart := false }
def FnExactFewestHoursSaid : Prop := fnExactFewestHoursRow.holds Try.pinned (OpenSpec.ofChange fnExactFewestHoursSpec)

/-- ITS FALSE NEIGHBOUR: 'it returns false'. Refute it at one input. -/
def fnExactFewestHoursWrong : ChangeSpec := { name := "fnExactFewestHours", fn := fun _ => fun
  | [d1, d2, d3] => { results := [.lit (.bool false)], args := [d1, d2, d3] }
  | _ => none }
def FnExactFewestHoursWrongFalsely : Prop := fnExactFewestHoursRow.holds Try.pinned (OpenSpec.ofChange fnExactFewestHoursWrong)

/-- 'laws.FnExactBestHanging': WHATEVER THE INPUT: true; the input reads as it did. -/
def fnExactBestHangingSpec : ChangeSpec := { name := "fnExactBestHanging", fn := fun _ => fun
  | [d1, d2, d3] => { results := [.lit (.bool true)], args := [d1, d2, d3] }
  | _ => none }
def fnExactBestHangingRow : OpenClaim := { program := "ytkfbkmkaijonhaa", sum := "551471fbb22da714d6c5a67faa15e3f3d4df625db5a4080515103ed0e5659c06", func := "loop.example/g01378/laws.FnExactBestHanging", spec := "fnExactBestHanging", unfollowed := true, recurses := true, apart := false }
def FnExactBestHangingSaid : Prop := fnExactBestHangingRow.holds Try.pinned (OpenSpec.ofChange fnExactBestHangingSpec)

/-- ITS FALSE NEIGHBOUR: 'it returns false'. Refute it at one input. -/
def fnExactBestHangingWrong : ChangeSpec := { name := "fnExactBestHanging", fn := fun _ => fun
  | [d1, d2, d3] => { results := [.lit (.bool false)], args := [d1, d2, d3] }
  | _ => none }
def FnExactBestHangingWrongFalsely : Prop := fnExactBestHangingRow.holds Try.pinned (OpenSpec.ofChange fnExactBestHangingWrong)

/- THE SECOND FORM. 'bulk': how many values and letters a reading holds, each counted each time it is reached (what is shared counts as often as it is met; a slice's spare places count too). A statement '..UptoSaid' is the law's where the arguments, and the package variables that the reading takes, are together of bulk at most 1048576: NARROWER than '..Said'. Prove '..Said' where nothing that the law and all that it calls make is longer than what came in: it says more and counts as full. Else prove '..UptoSaid'. A law counts once. -/
mutual
def uptoBulk {H : Type} : DataW H → Nat
  | .lit (.string bytes) => bytes.length + 1
  | .lit _ => 1
  | .nil => 1
  | .ptr d => uptoBulk d + 1
  | .slice elems spare => uptoBulkAll elems + uptoBulkAll spare + 1
  | .agg parts => uptoBulkAll parts + 1
  | .iface _ d => uptoBulk d + 1
  | .map entries => uptoBulkEntries entries + 1
  | .held _ => 1
def uptoBulkAll {H : Type} : List (DataW H) → Nat
  | [] => 0
  | d :: r => uptoBulk d + uptoBulkAll r
def uptoBulkEntries {H : Type} : List (Lit × DataW H) → Nat
  | [] => 0
  | x :: r => uptoBulkEntry x + uptoBulkEntries r
def uptoBulkEntry {H : Type} : Lit × DataW H → Nat
  | (.string bytes, d) => bytes.length + uptoBulk d + 1
  | (_, d) => uptoBulk d + 1
 end
def uptoSmall : (H : Type) → List (DataW H) → Bool := fun _ ds => decide (uptoBulkAll ds ≤ 1048576)
def OpenSpec.upto (s : _root_.Go.ChangeSpec) : _root_.Go.OpenSpec := { _root_.Go.OpenSpec.ofChange s with cond := some uptoSmall }

/-- 'laws.FnExactSunOver', WHERE WHAT IT READS IS OF BULK AT MOST 1048576: true; the input reads as it did. -/
def fnExactSunOverUptoRow : OpenClaim := { program := "ytkfbkmkaijonhaa", sum := "551471fbb22da714d6c5a67faa15e3f3d4df625db5a4080515103ed0e5659c06", func := "loop.example/g01378/laws.FnExactSunOver", spec := "fnExactSunOver", unfollowed := true, recurses := true, apart := false, narrowed := true }
def FnExactSunOverUptoSaid : Prop := fnExactSunOverUptoRow.holds Try.pinned (OpenSpec.upto fnExactSunOverSpec)

/-- 'laws.FnExactRainFrom', WHERE WHAT IT READS IS OF BULK AT MOST 1048576: true; the input reads as it did. -/
def fnExactRainFromUptoRow : OpenClaim := { program := "ytkfbkmkaijonhaa", sum := "551471fbb22da714d6c5a67faa15e3f3d4df625db5a4080515103ed0e5659c06", func := "loop.example/g01378/laws.FnExactRainFrom", spec := "fnExactRainFrom", unfollowed := true, recurses := true, apart := false, narrowed := true }
def FnExactRainFromUptoSaid : Prop := fnExactRainFromUptoRow.holds Try.pinned (OpenSpec.upto fnExactRainFromSpec)

/-- 'laws.FnExactWetBehind', WHERE WHAT IT READS IS OF BULK AT MOST 1048576: true; the input reads as it did. -/
def fnExactWetBehindUptoRow : OpenClaim := { program := "ytkfbkmkaijonhaa", sum := "551471fbb22da714d6c5a67faa15e3f3d4df625db5a4080515103ed0e5659c06", func := "loop.example/g01378/laws.FnExactWetBehind", spec := "fnExactWetBehind", unfollowed := true, recurses := true, apart := false, narrowed := true }
def FnExactWetBehindUptoSaid : Prop := fnExactWetBehindUptoRow.holds Try.pinned (OpenSpec.upto fnExactWetBehindSpec)

/-- 'laws.FnExactWettestFor', WHERE WHAT IT READS IS OF BULK AT MOST 1048576: true; the input reads as it did. -/
def fnExactWettestForUptoRow : OpenClaim := { program := "ytkfbkmkaijonhaa", sum := "551471fbb22da714d6c5a67faa15e3f3d4df625db5a4080515103ed0e5659c06", func := "loop.example/g01378/laws.FnExactWettestFor", spec := "fnExactWettestFor", unfollowed := true, recurses := true, apart := false, narrowed := true }
def FnExactWettestForUptoSaid : Prop := fnExactWettestForUptoRow.holds Try.pinned (OpenSpec.upto fnExactWettestForSpec)

/-- 'laws.FnExactTakeInAt', WHERE WHAT IT READS IS OF BULK AT MOST 1048576: true; the input reads as it did. -/
def fnExactTakeInAtUptoRow : OpenClaim := { program := "ytkfbkmkaijonhaa", sum := "551471fbb22da714d6c5a67faa15e3f3d4df625db5a4080515103ed0e5659c06", func := "loop.example/g01378/laws.FnExactTakeInAt", spec := "fnExactTakeInAt", unfollowed := true, recurses := true, apart := false, narrowed := true }
def FnExactTakeInAtUptoSaid : Prop := fnExactTakeInAtUptoRow.holds Try.pinned (OpenSpec.upto fnExactTakeInAtSpec)

/-- 'laws.FnExactCourseOf', WHERE WHAT IT READS IS OF BULK AT MOST 1048576: true; the input reads as it did. -/
def fnExactCourseOfUptoRow : OpenClaim := { program := "ytkfbkmkaijonhaa", sum := "551471fbb22da714d6c5a67faa15e3f3d4df625db5a4080515103ed0e5659c06", func := "loop.example/g01378/laws.FnExactCourseOf", spec := "fnExactCourseOf", unfollowed := true, recurses := true, apart := false, narrowed := true }
def FnExactCourseOfUptoSaid : Prop := fnExactCourseOfUptoRow.holds Try.pinned (OpenSpec.upto fnExactCourseOfSpec)

/-- 'laws.FnExactDryAt', WHERE WHAT IT READS IS OF BULK AT MOST 1048576: true; the input reads as it did. -/
def fnExactDryAtUptoRow : OpenClaim := { program := "ytkfbkmkaijonhaa", sum := "551471fbb22da714d6c5a67faa15e3f3d4df625db5a4080515103ed0e5659c06", func := "loop.example/g01378/laws.FnExactDryAt", spec := "fnExactDryAt", unfollowed := true, recurses := true, apart := false, narrowed := true }
def FnExactDryAtUptoSaid : Prop := fnExactDryAtUptoRow.holds Try.pinned (OpenSpec.upto fnExactDryAtSpec)

/-- 'laws.FnExactLatestStart', WHERE WHAT IT READS IS OF BULK AT MOST 1048576: true; the input reads as it did. -/
def fnExactLatestStartUptoRow : OpenClaim := { program := "ytkfbkmkaijonhaa", sum := "551471fbb22da714d6c5a67faa15e3f3d4df625db5a4080515103ed0e5659c06", func := "loop.example/g01378/laws.FnExactLatestStart", spec := "fnExactLatestStart", unfollowed := true, recurses := true, apart := false, narrowed := true }
def FnExactLatestStartUptoSaid : Prop := fnExactLatestStartUptoRow.holds Try.pinned (OpenSpec.upto fnExactLatestStartSpec)

/-- 'laws.FnExactFewestHours', WHERE WHAT IT READS IS OF BULK AT MOST 1048576: true; the input reads as it did. -/
def fnExactFewestHoursUptoRow : OpenClaim := { program := "ytkfbkmkaijonhaa", sum := "551471fbb22da714d6c5a67faa15e3f3d4df625db5a4080515103ed0e5659c06", func := "loop.example/g01378/laws.FnExactFewestHours", spec := "fnExactFewestHours", unfollowed := true, recurses := true, apart := false, narrowed := true }
def FnExactFewestHoursUptoSaid : Prop := fnExactFewestHoursUptoRow.holds Try.pinned (OpenSpec.upto fnExactFewestHoursSpec)

/-- 'laws.FnExactBestHanging', WHERE WHAT IT READS IS OF BULK AT MOST 1048576: true; the input reads as it did. -/
def fnExactBestHangingUptoRow : OpenClaim := { program := "ytkfbkmkaijonhaa", sum := "551471fbb22da714d6c5a67faa15e3f3d4df625db5a4080515103ed0e5659c06", func := "loop.example/g01378/laws.FnExactBestHanging", spec := "fnExactBestHanging", unfollowed := true, recurses := true, apart := false, narrowed := true }
def FnExactBestHangingUptoSaid : Prop := fnExactBestHangingUptoRow.holds Try.pinned (OpenSpec.upto fnExactBestHangingSpec)

end Rows
end Go.Proofs.Ytkfbkmkaijonhaa
