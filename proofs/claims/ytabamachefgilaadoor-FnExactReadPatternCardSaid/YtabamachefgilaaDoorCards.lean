/-
  DERIVED. GIVEN WITH THE SEED: THE CARDS: each row of YtabamachefgilaaDoorRows.lean that lists a variable, with what it lists TIED to the program's text (the seventh form; the later family's looks); each row that meets fmt, with fmt's text TOLD by the authors' own Lean function (tested against real Go, not proved from fmt's source: count such statements apart). THE CARD IS WHAT COUNTS. Prove the row's statement (the work); the ties are given (YtabamachefgilaaDoorTie.lean); close each card by the builder's one call (the guide's Derived/Test/ToyasCard.lean, 'card_holds'). Laid BY PROGRAM, IN A SANDBOX (cutbox-door.mjs). By AI agents, Wed Nov 11 2026. No macro, syntax, notation, axiom, sorry.
-/
import Derived.Test.YtabamachefgilaaDoorRows
import GoSem.ClaimSeven
namespace Go.Proofs.YtabamachefgilaaDoor
namespace Rows

/-- THE TIED CARD OF 'laws.FnExactReadPattern'. -/
def fnExactReadPatternCard : Claim7 := { stood := { row := fnExactReadPatternRow, standIns := [], harness := (true, "e5097f01c9d51955cb04baf64164dfcee06283ff1ebf11438ea168ac49be2431"), looks := false }, kinds := [], alts := [], laidByText := true, laidKinds := [.data, .pinned], laidTests := true, laidLooks := .later }
def FnExactReadPatternCardSaid : Prop := Claim7.holds Tryd.pinned (.plain (OpenSpec.ofChange fnExactReadPatternSpec)) fnExactReadPatternCard

/-- THE SECOND FORM's CARD OF 'laws.FnExactReadPattern'. -/
def fnExactReadPatternUptoCard : Claim7 := { stood := { row := fnExactReadPatternUptoRow, standIns := [], harness := (true, "e5097f01c9d51955cb04baf64164dfcee06283ff1ebf11438ea168ac49be2431"), looks := false }, kinds := [], alts := [], laidByText := true, laidKinds := [.data, .pinned], laidTests := true, laidLooks := .later }
def FnExactReadPatternUptoCardSaid : Prop := Claim7.holds Tryd.pinned (.plain (OpenSpec.upto fnExactReadPatternSpec)) fnExactReadPatternUptoCard
end Rows
end Go.Proofs.YtabamachefgilaaDoor
