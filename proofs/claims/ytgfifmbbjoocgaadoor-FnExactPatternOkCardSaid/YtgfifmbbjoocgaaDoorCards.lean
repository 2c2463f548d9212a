/-
  DERIVED. GIVEN WITH THE SEED: THE CARDS: each row of YtgfifmbbjoocgaaDoorRows.lean that lists a variable, with what it lists TIED to the program's text (the seventh form; the later family's looks); each row that meets fmt, with fmt's text TOLD by the authors' own Lean function (tested against real Go, not proved from fmt's source: count such statements apart). THE CARD IS WHAT COUNTS. Prove the row's statement (the work); the ties are given (YtgfifmbbjoocgaaDoorTie.lean); close each card by the builder's one call (the guide's Derived/Test/ToyasCard.lean, 'card_holds'). Laid BY PROGRAM, IN A SANDBOX (cutbox-door.mjs). By AI agents, Wed Nov 11 2026. No macro, syntax, notation, axiom, sorry.
-/
import Derived.Test.YtgfifmbbjoocgaaDoorRows
import GoSem.ClaimSeven
namespace Go.Proofs.YtgfifmbbjoocgaaDoor
namespace Rows

/-- THE TIED CARD OF 'laws.FnExactPatternOk'. -/
def fnExactPatternOkCard : Claim7 := { stood := { row := fnExactPatternOkRow, standIns := [], harness := (true, "9d0f65fbbaf7d15d96790614dc25c816f1fb166e1c8d9393941093424d8bb94e"), looks := false }, kinds := [], alts := [], laidByText := true, laidKinds := [.data, .pinned], laidTests := true, laidLooks := .later }
def FnExactPatternOkCardSaid : Prop := Claim7.holds Tryd.pinned (.plain (OpenSpec.ofChange fnExactPatternOkSpec)) fnExactPatternOkCard

/-- THE SECOND FORM's CARD OF 'laws.FnExactPatternOk'. -/
def fnExactPatternOkUptoCard : Claim7 := { stood := { row := fnExactPatternOkUptoRow, standIns := [], harness := (true, "9d0f65fbbaf7d15d96790614dc25c816f1fb166e1c8d9393941093424d8bb94e"), looks := false }, kinds := [], alts := [], laidByText := true, laidKinds := [.data, .pinned], laidTests := true, laidLooks := .later }
def FnExactPatternOkUptoCardSaid : Prop := Claim7.holds Tryd.pinned (.plain (OpenSpec.upto fnExactPatternOkSpec)) fnExactPatternOkUptoCard
end Rows
end Go.Proofs.YtgfifmbbjoocgaaDoor
