/-
  DERIVED. GIVEN WITH THE SEED: THE CARDS: each row of YticdpekeaipnaaaDoorRows.lean that lists a variable, with what it lists TIED to the program's text (the seventh form; the later family's looks); each row that meets fmt, with fmt's text TOLD by the authors' own Lean function (tested against real Go, not proved from fmt's source: count such statements apart). THE CARD IS WHAT COUNTS. Prove the row's statement (the work); the ties are given (YticdpekeaipnaaaDoorTie.lean); close each card by the builder's one call (the guide's Derived/Test/ToyasCard.lean, 'card_holds'). Laid BY PROGRAM, IN A SANDBOX (cutbox-door.mjs). By AI agents, Wed Nov 11 2026. No macro, syntax, notation, axiom, sorry.
-/
import Derived.Test.YticdpekeaipnaaaDoorRows
import GoSem.ClaimSeven
namespace Go.Proofs.YticdpekeaipnaaaDoor
namespace Rows

/-- THE TIED CARD OF 'laws.FnExactShowPattern'. -/
def fnExactShowPatternCard : Claim7 := { stood := { row := fnExactShowPatternRow, standIns := [], harness := (true, "320afa61d7d325078b60a9945b9f6c4f5bf437557ce200375e79d5b0bb66e89c"), looks := false }, kinds := [], alts := [], laidByText := true, laidKinds := [.data, .pinned], laidTests := true, laidLooks := .later }
def FnExactShowPatternCardSaid : Prop := Claim7.holds Tryd.pinned (.plain (OpenSpec.ofChange fnExactShowPatternSpec)) fnExactShowPatternCard

/-- THE TIED CARD OF 'laws.FnExactGap'. -/
def fnExactGapCard : Claim7 := { stood := { row := fnExactGapRow, standIns := [], harness := (true, "320afa61d7d325078b60a9945b9f6c4f5bf437557ce200375e79d5b0bb66e89c"), looks := false }, kinds := [], alts := [], laidByText := true, laidKinds := [.data], laidTests := true, laidLooks := .later }
def FnExactGapCardSaid : Prop := Claim7.holds Tryd.pinned (.plain (OpenSpec.ofChange fnExactGapSpec)) fnExactGapCard

/-- THE SECOND FORM's CARD OF 'laws.FnExactShowPattern'. -/
def fnExactShowPatternUptoCard : Claim7 := { stood := { row := fnExactShowPatternUptoRow, standIns := [], harness := (true, "320afa61d7d325078b60a9945b9f6c4f5bf437557ce200375e79d5b0bb66e89c"), looks := false }, kinds := [], alts := [], laidByText := true, laidKinds := [.data, .pinned], laidTests := true, laidLooks := .later }
def FnExactShowPatternUptoCardSaid : Prop := Claim7.holds Tryd.pinned (.plain (OpenSpec.upto fnExactShowPatternSpec)) fnExactShowPatternUptoCard

/-- THE SECOND FORM's CARD OF 'laws.FnExactGap'. -/
def fnExactGapUptoCard : Claim7 := { stood := { row := fnExactGapUptoRow, standIns := [], harness := (true, "320afa61d7d325078b60a9945b9f6c4f5bf437557ce200375e79d5b0bb66e89c"), looks := false }, kinds := [], alts := [], laidByText := true, laidKinds := [.data], laidTests := true, laidLooks := .later }
def FnExactGapUptoCardSaid : Prop := Claim7.holds Tryd.pinned (.plain (OpenSpec.upto fnExactGapSpec)) fnExactGapUptoCard
end Rows
end Go.Proofs.YticdpekeaipnaaaDoor
