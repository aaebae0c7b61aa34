/-
  DERIVED. GIVEN WITH THE SEED: THE CARDS: each row of YtdepnieanfjhjaaDoorRows.lean that lists a variable, with what it lists TIED to the program's text (the seventh form; the later family's looks); each row that meets fmt, with fmt's text TOLD by the authors' own Lean function (tested against real Go, not proved from fmt's source: count such statements apart). THE CARD IS WHAT COUNTS. Prove the row's statement (the work); the ties are given (YtdepnieanfjhjaaDoorTie.lean); close each card by the builder's one call (the guide's Derived/Test/ToyasCard.lean, 'card_holds'). Laid BY PROGRAM, IN A SANDBOX (cutbox-door.mjs). By AI agents, Wed Nov 11 2026. No macro, syntax, notation, axiom, sorry.
-/
import Derived.Test.YtdepnieanfjhjaaDoorRows
import GoSem.ClaimSeven
namespace Go.Proofs.YtdepnieanfjhjaaDoor
namespace Rows

/-- THE TIED CARD OF 'laws.FnExactWhoGetsSun'. -/
def fnExactWhoGetsSunCard : Claim7 := { stood := { row := fnExactWhoGetsSunRow, standIns := [], harness := (true, "3e1723e716a0e9007ca839dec31b75852eb40c746a2900fbb615e476696fb556"), looks := false }, kinds := [], alts := [], laidByText := true, laidKinds := [.data, .data], laidTests := true, laidLooks := .later }
def FnExactWhoGetsSunCardSaid : Prop := Claim7.holds Tryd.pinned (.plain (OpenSpec.ofChange fnExactWhoGetsSunSpec)) fnExactWhoGetsSunCard

/-- THE SECOND FORM's CARD OF 'laws.FnExactWhoGetsSun'. -/
def fnExactWhoGetsSunUptoCard : Claim7 := { stood := { row := fnExactWhoGetsSunUptoRow, standIns := [], harness := (true, "3e1723e716a0e9007ca839dec31b75852eb40c746a2900fbb615e476696fb556"), looks := false }, kinds := [], alts := [], laidByText := true, laidKinds := [.data, .data], laidTests := true, laidLooks := .later }
def FnExactWhoGetsSunUptoCardSaid : Prop := Claim7.holds Tryd.pinned (.plain (OpenSpec.upto fnExactWhoGetsSunSpec)) fnExactWhoGetsSunUptoCard
end Rows
end Go.Proofs.YtdepnieanfjhjaaDoor
