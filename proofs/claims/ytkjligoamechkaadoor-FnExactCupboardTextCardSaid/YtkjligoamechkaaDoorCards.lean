/-
  DERIVED. GIVEN WITH THE SEED: THE CARDS: each row of YtkjligoamechkaaDoorRows.lean that lists a variable, with what it lists TIED to the program's text (the seventh form; the later family's looks); each row that meets fmt, with fmt's text TOLD by the authors' own Lean function (tested against real Go, not proved from fmt's source: count such statements apart). THE CARD IS WHAT COUNTS. Prove the row's statement (the work); the ties are given (YtkjligoamechkaaDoorTie.lean); close each card by the builder's one call (the guide's Derived/Test/ToyasCard.lean, 'card_holds'). Laid BY PROGRAM, IN A SANDBOX (cutbox-door.mjs). By AI agents, Wed Nov 11 2026. No macro, syntax, notation, axiom, sorry.
-/
import Derived.Test.YtkjligoamechkaaDoorRows
import GoSem.ClaimSeven
namespace Go.Proofs.YtkjligoamechkaaDoor
namespace Rows

/-- THE TIED CARD OF 'laws.FnExactCupboardText'. -/
def fnExactCupboardTextCard : Claim7 := { stood := { row := fnExactCupboardTextRow, standIns := [], harness := (true, "b87e3e4375cf0151d921885f63eea6f80cb9337be18034c8427d53fc24a18f79"), looks := false }, kinds := [], alts := [], laidByText := true, laidKinds := [.data, .data, .data], laidTests := true, laidLooks := .later }
def FnExactCupboardTextCardSaid : Prop := Claim7.holds Tryd.pinned (.plain (OpenSpec.ofChange fnExactCupboardTextSpec)) fnExactCupboardTextCard

/-- THE SECOND FORM's CARD OF 'laws.FnExactCupboardText'. -/
def fnExactCupboardTextUptoCard : Claim7 := { stood := { row := fnExactCupboardTextUptoRow, standIns := [], harness := (true, "b87e3e4375cf0151d921885f63eea6f80cb9337be18034c8427d53fc24a18f79"), looks := false }, kinds := [], alts := [], laidByText := true, laidKinds := [.data, .data, .data], laidTests := true, laidLooks := .later }
def FnExactCupboardTextUptoCardSaid : Prop := Claim7.holds Tryd.pinned (.plain (OpenSpec.upto fnExactCupboardTextSpec)) fnExactCupboardTextUptoCard
end Rows
end Go.Proofs.YtkjligoamechkaaDoor
