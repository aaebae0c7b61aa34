/-
  DERIVED. GIVEN WITH THE SEED: THE CARDS: each row of YtddlhjhnnmkgaaaDoorRows.lean that lists a variable, with what it lists TIED to the program's text (the seventh form; the later family's looks); each row that meets fmt, with fmt's text TOLD by the authors' own Lean function (tested against real Go, not proved from fmt's source: count such statements apart). THE CARD IS WHAT COUNTS. Prove the row's statement (the work); the ties are given (YtddlhjhnnmkgaaaDoorTie.lean); close each card by the builder's one call (the guide's Derived/Test/ToyasCard.lean, 'card_holds'). Laid BY PROGRAM, IN A SANDBOX (cutbox-door.mjs). By AI agents, Wed Nov 11 2026. No macro, syntax, notation, axiom, sorry.
-/
import Derived.Test.YtddlhjhnnmkgaaaDoorRows
import GoSem.ClaimSeven
namespace Go.Proofs.YtddlhjhnnmkgaaaDoor
namespace Rows

/-- THE TIED CARD OF 'laws.FnExactHouseText'. -/
def fnExactHouseTextCard : Claim7 := { stood := { row := fnExactHouseTextRow, standIns := [], harness := (true, "8f378b46e999918d1bb690fca8457d8991403b497c32cf6282e3c2cc68210873"), looks := false }, kinds := [], alts := [], laidByText := true, laidKinds := [.data, .data, .data], laidTests := true, laidLooks := .later }
def FnExactHouseTextCardSaid : Prop := Claim7.holds Tryd.pinned (.plain (OpenSpec.ofChange fnExactHouseTextSpec)) fnExactHouseTextCard

/-- THE SECOND FORM's CARD OF 'laws.FnExactHouseText'. -/
def fnExactHouseTextUptoCard : Claim7 := { stood := { row := fnExactHouseTextUptoRow, standIns := [], harness := (true, "8f378b46e999918d1bb690fca8457d8991403b497c32cf6282e3c2cc68210873"), looks := false }, kinds := [], alts := [], laidByText := true, laidKinds := [.data, .data, .data], laidTests := true, laidLooks := .later }
def FnExactHouseTextUptoCardSaid : Prop := Claim7.holds Tryd.pinned (.plain (OpenSpec.upto fnExactHouseTextSpec)) fnExactHouseTextUptoCard
end Rows
end Go.Proofs.YtddlhjhnnmkgaaaDoor
