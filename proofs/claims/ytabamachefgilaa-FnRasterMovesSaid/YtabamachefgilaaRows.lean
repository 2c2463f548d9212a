/-
  No cell of these rows narrows 'for every input' (looked for: loops, veiled, ifaces, maps, wideKeys, modest, calm, conditions, laid).
  DERIVED. THE GIVEN ROWS OF THIS SEAT. 11 by the template 'for every input the law returns true; each argument reads behind the call as it read before'; 0 by the template 'total and deterministic' (their statements: YtabamachefgilaaTotals.lean).
  GIVEN WITH THE SEED: the statements are not yours to turn. If you find one false, say at which input.
  Laid BY PROGRAM, IN A SANDBOX (cutbox-rows.mjs): the forced cells as the released guide's own fill.sh prints them over the translation cd7b747e150d1aba… (all of the seat's roots in one cut). By AI agents, Wed Nov 11 2026. No macro, syntax, notation, axiom, sorry.
-/
import Derived.Test.YtabamachefgilaaChecked
import GoSem.Claim
import GoSem.ClaimJoined
import GoSem.ClaimMapViews
import Derived.JoinedTies
import Derived.KernelRfl
namespace Go.Proofs.Ytabamachefgilaa
/- THE CELL 'sum', in the pinned program and in every row, IS THE sha256 OF THE DUMP (.gsa) THAT YtabamachefgilaaProg.lean LOADS. Nothing in Lean hashes anything: it is a label: what it is worth is what the hold of that sum in a sandbox is worth. -/
noncomputable def Try.pinned : Pinned := { name := "ytabamachefgilaa", sum := "cd7b747e150d1aba104b7d88dd2cb434cf7e2243db33149f935d0343176aeb25", checked := Try.checked }
namespace Rows
def none {H : Type} : Left H := { results := [], args := [] }

/-- 'laws.FnExactAddGlue': WHATEVER THE INPUT: true; the input reads as it did. -/
def fnExactAddGlueSpec : ChangeSpec := { name := "fnExactAddGlue", fn := fun _ => fun
  | [d1, d2] => { results := [.lit (.bool true)], args := [d1, d2] }
  | _ => none }
def fnExactAddGlueRow : OpenClaim := { program := "ytabamachefgilaa", sum := "cd7b747e150d1aba104b7d88dd2cb434cf7e2243db33149f935d0343176aeb25", func := "loop.example/g00014/laws.FnExactAddGlue", spec := "fnExactAddGlue", unfollowed := true, recurses := true, apart := false }
def FnExactAddGlueSaid : Prop := fnExactAddGlueRow.holds Try.pinned (OpenSpec.ofChange fnExactAddGlueSpec)

/-- ITS FALSE NEIGHBOUR: 'it returns false'. Refute it at one input. -/
def fnExactAddGlueWrong : ChangeSpec := { name := "fnExactAddGlue", fn := fun _ => fun
  | [d1, d2] => { results := [.lit (.bool false)], args := [d1, d2] }
  | _ => none }
def FnExactAddGlueWrongFalsely : Prop := fnExactAddGlueRow.holds Try.pinned (OpenSpec.ofChange fnExactAddGlueWrong)

/-- 'laws.FnExactDescOk': WHATEVER THE INPUT: true; the input reads as it did. -/
def fnExactDescOkSpec : ChangeSpec := { name := "fnExactDescOk", fn := fun _ => fun
  | [d] => { results := [.lit (.bool true)], args := [d] }
  | _ => none }
def fnExactDescOkRow : OpenClaim := { program := "ytabamachefgilaa", sum := "cd7b747e150d1aba104b7d88dd2cb434cf7e2243db33149f935d0343176aeb25", func := "loop.example/g00014/laws.FnExactDescOk", spec := "fnExactDescOk", apart := false }
def FnExactDescOkSaid : Prop := fnExactDescOkRow.holds Try.pinned (OpenSpec.ofChange fnExactDescOkSpec)

/-- ITS FALSE NEIGHBOUR: 'it returns false'. Refute it at one input. -/
def fnExactDescOkWrong : ChangeSpec := { name := "fnExactDescOk", fn := fun _ => fun
  | [d] => { results := [.lit (.bool false)], args := [d] }
  | _ => none }
def FnExactDescOkWrongFalsely : Prop := fnExactDescOkRow.holds Try.pinned (OpenSpec.ofChange fnExactDescOkWrong)

/-- 'laws.FnExactSumGlue': WHATEVER THE INPUT: true; the input reads as it did. -/
def fnExactSumGlueSpec : ChangeSpec := { name := "fnExactSumGlue", fn := fun _ => fun
  | [d] => { results := [.lit (.bool true)], args := [d] }
  | _ => none }
def fnExactSumGlueRow : OpenClaim := { program := "ytabamachefgilaa", sum := "cd7b747e150d1aba104b7d88dd2cb434cf7e2243db33149f935d0343176aeb25", func := "loop.example/g00014/laws.FnExactSumGlue", spec := "fnExactSumGlue", unfollowed := true, recurses := true, apart := false }
def FnExactSumGlueSaid : Prop := fnExactSumGlueRow.holds Try.pinned (OpenSpec.ofChange fnExactSumGlueSpec)

/-- ITS FALSE NEIGHBOUR: 'it returns false'. Refute it at one input. -/
def fnExactSumGlueWrong : ChangeSpec := { name := "fnExactSumGlue", fn := fun _ => fun
  | [d] => { results := [.lit (.bool false)], args := [d] }
  | _ => none }
def FnExactSumGlueWrongFalsely : Prop := fnExactSumGlueRow.holds Try.pinned (OpenSpec.ofChange fnExactSumGlueWrong)

/-- 'laws.FnRasterMoves': WHATEVER THE INPUT: true; the input reads as it did. -/
def fnRasterMovesSpec : ChangeSpec := { name := "fnRasterMoves", fn := fun _ => fun
  | [d] => { results := [.lit (.bool true)], args := [d] }
  | _ => none }
def fnRasterMovesRow : OpenClaim := { program := "ytabamachefgilaa", sum := "cd7b747e150d1aba104b7d88dd2cb434cf7e2243db33149f935d0343176aeb25", func := "loop.example/g00014/laws.FnRasterMoves", spec := "fnRasterMoves", apart := false }
def FnRasterMovesSaid : Prop := fnRasterMovesRow.holds Try.pinned (OpenSpec.ofChange fnRasterMovesSpec)

/-- ITS FALSE NEIGHBOUR: 'it returns false'. Refute it at one input. -/
def fnRasterMovesWrong : ChangeSpec := { name := "fnRasterMoves", fn := fun _ => fun
  | [d] => { results := [.lit (.bool false)], args := [d] }
  | _ => none }
def FnRasterMovesWrongFalsely : Prop := fnRasterMovesRow.holds Try.pinned (OpenSpec.ofChange fnRasterMovesWrong)

/-- 'laws.FnExactFormulaOk': WHATEVER THE INPUT: true; the input reads as it did. -/
def fnExactFormulaOkSpec : ChangeSpec := { name := "fnExactFormulaOk", fn := fun _ => fun
  | [d] => { results := [.lit (.bool true)], args := [d] }
  | _ => none }
def fnExactFormulaOkRow : OpenClaim := { program := "ytabamachefgilaa", sum := "cd7b747e150d1aba104b7d88dd2cb434cf7e2243db33149f935d0343176aeb25", func := "loop.example/g00014/laws.FnExactFormulaOk", spec := "fnExactFormulaOk", recurses := true, apart := false }
def FnExactFormulaOkSaid : Prop := fnExactFormulaOkRow.holds Try.pinned (OpenSpec.ofChange fnExactFormulaOkSpec)

/-- ITS FALSE NEIGHBOUR: 'it returns false'. Refute it at one input. -/
def fnExactFormulaOkWrong : ChangeSpec := { name := "fnExactFormulaOk", fn := fun _ => fun
  | [d] => { results := [.lit (.bool false)], args := [d] }
  | _ => none }
def FnExactFormulaOkWrongFalsely : Prop := fnExactFormulaOkRow.holds Try.pinned (OpenSpec.ofChange fnExactFormulaOkWrong)

/-- 'laws.FnExactShowTokens': WHATEVER THE INPUT: true; the input reads as it did. -/
def fnExactShowTokensSpec : ChangeSpec := { name := "fnExactShowTokens", fn := fun _ => fun
  | [d] => { results := [.lit (.bool true)], args := [d] }
  | _ => none }
def fnExactShowTokensRow : OpenClaim := { program := "ytabamachefgilaa", sum := "cd7b747e150d1aba104b7d88dd2cb434cf7e2243db33149f935d0343176aeb25", func := "loop.example/g00014/laws.FnExactShowTokens", spec := "fnExactShowTokens", inPlace := ["internal/abi.NoEscape"], apart := false }
def FnExactShowTokensSaid : Prop := fnExactShowTokensRow.holds Try.pinned (OpenSpec.ofChange fnExactShowTokensSpec)

/-- ITS FALSE NEIGHBOUR: 'it returns false'. Refute it at one input. -/
def fnExactShowTokensWrong : ChangeSpec := { name := "fnExactShowTokens", fn := fun _ => fun
  | [d] => { results := [.lit (.bool false)], args := [d] }
  | _ => none }
def FnExactShowTokensWrongFalsely : Prop := fnExactShowTokensRow.holds Try.pinned (OpenSpec.ofChange fnExactShowTokensWrong)

/-- 'laws.FnExactBounds': WHATEVER THE INPUT: true; the input reads as it did. -/
def fnExactBoundsSpec : ChangeSpec := { name := "fnExactBounds", fn := fun _ => fun
  | [d] => { results := [.lit (.bool true)], args := [d] }
  | _ => none }
def fnExactBoundsRow : OpenClaim := { program := "ytabamachefgilaa", sum := "cd7b747e150d1aba104b7d88dd2cb434cf7e2243db33149f935d0343176aeb25", func := "loop.example/g00014/laws.FnExactBounds", spec := "fnExactBounds", apart := false }
def FnExactBoundsSaid : Prop := fnExactBoundsRow.holds Try.pinned (OpenSpec.ofChange fnExactBoundsSpec)

/-- ITS FALSE NEIGHBOUR: 'it returns false'. Refute it at one input. -/
def fnExactBoundsWrong : ChangeSpec := { name := "fnExactBounds", fn := fun _ => fun
  | [d] => { results := [.lit (.bool false)], args := [d] }
  | _ => none }
def FnExactBoundsWrongFalsely : Prop := fnExactBoundsRow.holds Try.pinned (OpenSpec.ofChange fnExactBoundsWrong)

/-- 'laws.FnExactNext': WHATEVER THE INPUT: true; the input reads as it did. -/
def fnExactNextSpec : ChangeSpec := { name := "fnExactNext", fn := fun _ => fun
  | [d1, d2, d3, d4] => { results := [.lit (.bool true)], args := [d1, d2, d3, d4] }
  | _ => none }
def fnExactNextRow : OpenClaim := { program := "ytabamachefgilaa", sum := "cd7b747e150d1aba104b7d88dd2cb434cf7e2243db33149f935d0343176aeb25", func := "loop.example/g00014/laws.FnExactNext", spec := "fnExactNext", unfollowed := true, recurses := true, apart := false }
def FnExactNextSaid : Prop := fnExactNextRow.holds Try.pinned (OpenSpec.ofChange fnExactNextSpec)

/-- ITS FALSE NEIGHBOUR: 'it returns false'. Refute it at one input. -/
def fnExactNextWrong : ChangeSpec := { name := "fnExactNext", fn := fun _ => fun
  | [d1, d2, d3, d4] => { results := [.lit (.bool false)], args := [d1, d2, d3, d4] }
  | _ => none }
def FnExactNextWrongFalsely : Prop := fnExactNextRow.holds Try.pinned (OpenSpec.ofChange fnExactNextWrong)

/-- 'laws.FnNextAll': WHATEVER THE INPUT: true; the input reads as it did. -/
def fnNextAllSpec : ChangeSpec := { name := "fnNextAll", fn := fun _ => fun
  | [d1, d2] => { results := [.lit (.bool true)], args := [d1, d2] }
  | _ => none }
def fnNextAllRow : OpenClaim := { program := "ytabamachefgilaa", sum := "cd7b747e150d1aba104b7d88dd2cb434cf7e2243db33149f935d0343176aeb25", func := "loop.example/g00014/laws.FnNextAll", spec := "fnNextAll", unfollowed := true, recurses := true, apart := false }
def FnNextAllSaid : Prop := fnNextAllRow.holds Try.pinned (OpenSpec.ofChange fnNextAllSpec)

/-- ITS FALSE NEIGHBOUR: 'it returns false'. Refute it at one input. -/
def fnNextAllWrong : ChangeSpec := { name := "fnNextAll", fn := fun _ => fun
  | [d1, d2] => { results := [.lit (.bool false)], args := [d1, d2] }
  | _ => none }
def FnNextAllWrongFalsely : Prop := fnNextAllRow.holds Try.pinned (OpenSpec.ofChange fnNextAllWrong)

/-- 'laws.FnExactRaster': WHATEVER THE INPUT: true; the input reads as it did. -/
def fnExactRasterSpec : ChangeSpec := { name := "fnExactRaster", fn := fun _ => fun
  | [d1, d2, d3, d4] => { results := [.lit (.bool true)], args := [d1, d2, d3, d4] }
  | _ => none }
def fnExactRasterRow : OpenClaim := { program := "ytabamachefgilaa", sum := "cd7b747e150d1aba104b7d88dd2cb434cf7e2243db33149f935d0343176aeb25", func := "loop.example/g00014/laws.FnExactRaster", spec := "fnExactRaster", apart := false }
def FnExactRasterSaid : Prop := fnExactRasterRow.holds Try.pinned (OpenSpec.ofChange fnExactRasterSpec)

/-- ITS FALSE NEIGHBOUR: 'it returns false'. Refute it at one input. -/
def fnExactRasterWrong : ChangeSpec := { name := "fnExactRaster", fn := fun _ => fun
  | [d1, d2, d3, d4] => { results := [.lit (.bool false)], args := [d1, d2, d3, d4] }
  | _ => none }
def FnExactRasterWrongFalsely : Prop := fnExactRasterRow.holds Try.pinned (OpenSpec.ofChange fnExactRasterWrong)

/-- 'laws.FnExactFontOk': WHATEVER THE INPUT: true; the input reads as it did. -/
def fnExactFontOkSpec : ChangeSpec := { name := "fnExactFontOk", fn := fun _ => fun
  | [d] => { results := [.lit (.bool true)], args := [d] }
  | _ => none }
def fnExactFontOkRow : OpenClaim := { program := "ytabamachefgilaa", sum := "cd7b747e150d1aba104b7d88dd2cb434cf7e2243db33149f935d0343176aeb25", func := "loop.example/g00014/laws.FnExactFontOk", spec := "fnExactFontOk", unfollowed := true, recurses := true, apart := false }
def FnExactFontOkSaid : Prop := fnExactFontOkRow.holds Try.pinned (OpenSpec.ofChange fnExactFontOkSpec)

/-- ITS FALSE NEIGHBOUR: 'it returns false'. Refute it at one input. -/
def fnExactFontOkWrong : ChangeSpec := { name := "fnExactFontOk", fn := fun _ => fun
  | [d] => { results := [.lit (.bool false)], args := [d] }
  | _ => none }
def FnExactFontOkWrongFalsely : Prop := fnExactFontOkRow.holds Try.pinned (OpenSpec.ofChange fnExactFontOkWrong)

/- THE SECOND FORM. 'bulk': how many values and letters a reading holds, each counted each time it is reached (what is shared counts as often as it is met; a slice's spare places count too). A statement '..UptoSaid' is the law's where the arguments, and the package variables that the reading takes, are together of bulk at most 1048576: NARROWER than '..Said'. Prove '..Said' where nothing that the law and all that it calls make is longer than what came in: it says more and counts as full. Else prove '..UptoSaid'. A law counts once. -/
mutual
def uptoBulk {H : Type} : DataW H → Nat
  | .lit (.string bytes) => bytes.length + 1
  | .lit _ => 1
  | .nil => 1
  | .ptr d => uptoBulk d + 1
  | .slice elems spare => uptoBulkAll elems + uptoBulkAll spare + 1
  | .agg parts => uptoBulkAll parts + 1
  | .iface _ d => uptoBulk d + 1
  | .map entries => uptoBulkEntries entries + 1
  | .held _ => 1
def uptoBulkAll {H : Type} : List (DataW H) → Nat
  | [] => 0
  | d :: r => uptoBulk d + uptoBulkAll r
def uptoBulkEntries {H : Type} : List (Lit × DataW H) → Nat
  | [] => 0
  | x :: r => uptoBulkEntry x + uptoBulkEntries r
def uptoBulkEntry {H : Type} : Lit × DataW H → Nat
  | (.string bytes, d) => bytes.length + uptoBulk d + 1
  | (_, d) => uptoBulk d + 1
 end
def uptoSmall : (H : Type) → List (DataW H) → Bool := fun _ ds => decide (uptoBulkAll ds ≤ 1048576)
def OpenSpec.upto (s : _root_.Go.ChangeSpec) : _root_.Go.OpenSpec := { _root_.Go.OpenSpec.ofChange s with cond := some uptoSmall }

/-- 'laws.FnExactAddGlue', WHERE WHAT IT READS IS OF BULK AT MOST 1048576: true; the input reads as it did. -/
def fnExactAddGlueUptoRow : OpenClaim := { program := "ytabamachefgilaa", sum := "cd7b747e150d1aba104b7d88dd2cb434cf7e2243db33149f935d0343176aeb25", func := "loop.example/g00014/laws.FnExactAddGlue", spec := "fnExactAddGlue", unfollowed := true, recurses := true, apart := false, narrowed := true }
def FnExactAddGlueUptoSaid : Prop := fnExactAddGlueUptoRow.holds Try.pinned (OpenSpec.upto fnExactAddGlueSpec)

/-- 'laws.FnExactDescOk', WHERE WHAT IT READS IS OF BULK AT MOST 1048576: true; the input reads as it did. -/
def fnExactDescOkUptoRow : OpenClaim := { program := "ytabamachefgilaa", sum := "cd7b747e150d1aba104b7d88dd2cb434cf7e2243db33149f935d0343176aeb25", func := "loop.example/g00014/laws.FnExactDescOk", spec := "fnExactDescOk", apart := false, narrowed := true }
def FnExactDescOkUptoSaid : Prop := fnExactDescOkUptoRow.holds Try.pinned (OpenSpec.upto fnExactDescOkSpec)

/-- 'laws.FnExactSumGlue', WHERE WHAT IT READS IS OF BULK AT MOST 1048576: true; the input reads as it did. -/
def fnExactSumGlueUptoRow : OpenClaim := { program := "ytabamachefgilaa", sum := "cd7b747e150d1aba104b7d88dd2cb434cf7e2243db33149f935d0343176aeb25", func := "loop.example/g00014/laws.FnExactSumGlue", spec := "fnExactSumGlue", unfollowed := true, recurses := true, apart := false, narrowed := true }
def FnExactSumGlueUptoSaid : Prop := fnExactSumGlueUptoRow.holds Try.pinned (OpenSpec.upto fnExactSumGlueSpec)

/-- 'laws.FnRasterMoves', WHERE WHAT IT READS IS OF BULK AT MOST 1048576: true; the input reads as it did. -/
def fnRasterMovesUptoRow : OpenClaim := { program := "ytabamachefgilaa", sum := "cd7b747e150d1aba104b7d88dd2cb434cf7e2243db33149f935d0343176aeb25", func := "loop.example/g00014/laws.FnRasterMoves", spec := "fnRasterMoves", apart := false, narrowed := true }
def FnRasterMovesUptoSaid : Prop := fnRasterMovesUptoRow.holds Try.pinned (OpenSpec.upto fnRasterMovesSpec)

/-- 'laws.FnExactFormulaOk', WHERE WHAT IT READS IS OF BULK AT MOST 1048576: true; the input reads as it did. -/
def fnExactFormulaOkUptoRow : OpenClaim := { program := "ytabamachefgilaa", sum := "cd7b747e150d1aba104b7d88dd2cb434cf7e2243db33149f935d0343176aeb25", func := "loop.example/g00014/laws.FnExactFormulaOk", spec := "fnExactFormulaOk", recurses := true, apart := false, narrowed := true }
def FnExactFormulaOkUptoSaid : Prop := fnExactFormulaOkUptoRow.holds Try.pinned (OpenSpec.upto fnExactFormulaOkSpec)

/-- 'laws.FnExactShowTokens', WHERE WHAT IT READS IS OF BULK AT MOST 1048576: true; the input reads as it did. -/
def fnExactShowTokensUptoRow : OpenClaim := { program := "ytabamachefgilaa", sum := "cd7b747e150d1aba104b7d88dd2cb434cf7e2243db33149f935d0343176aeb25", func := "loop.example/g00014/laws.FnExactShowTokens", spec := "fnExactShowTokens", inPlace := ["internal/abi.NoEscape"], apart := false, narrowed := true }
def FnExactShowTokensUptoSaid : Prop := fnExactShowTokensUptoRow.holds Try.pinned (OpenSpec.upto fnExactShowTokensSpec)

/-- 'laws.FnExactBounds', WHERE WHAT IT READS IS OF BULK AT MOST 1048576: true; the input reads as it did. -/
def fnExactBoundsUptoRow : OpenClaim := { program := "ytabamachefgilaa", sum := "cd7b747e150d1aba104b7d88dd2cb434cf7e2243db33149f935d0343176aeb25", func := "loop.example/g00014/laws.FnExactBounds", spec := "fnExactBounds", apart := false, narrowed := true }
def FnExactBoundsUptoSaid : Prop := fnExactBoundsUptoRow.holds Try.pinned (OpenSpec.upto fnExactBoundsSpec)

/-- 'laws.FnExactNext', WHERE WHAT IT READS IS OF BULK AT MOST 1048576: true; the input reads as it did. -/
def fnExactNextUptoRow : OpenClaim := { program := "ytabamachefgilaa", sum := "cd7b747e150d1aba104b7d88dd2cb434cf7e2243db33149f935d0343176aeb25", func := "loop.example/g00014/laws.FnExactNext", spec := "fnExactNext", unfollowed := true, recurses := true, apart := false, narrowed := true }
def FnExactNextUptoSaid : Prop := fnExactNextUptoRow.holds Try.pinned (OpenSpec.upto fnExactNextSpec)

/-- 'laws.FnNextAll', WHERE WHAT IT READS IS OF BULK AT MOST 1048576: true; the input reads as it did. -/
def fnNextAllUptoRow : OpenClaim := { program := "ytabamachefgilaa", sum := "cd7b747e150d1aba104b7d88dd2cb434cf7e2243db33149f935d0343176aeb25", func := "loop.example/g00014/laws.FnNextAll", spec := "fnNextAll", unfollowed := true, recurses := true, apart := false, narrowed := true }
def FnNextAllUptoSaid : Prop := fnNextAllUptoRow.holds Try.pinned (OpenSpec.upto fnNextAllSpec)

/-- 'laws.FnExactRaster', WHERE WHAT IT READS IS OF BULK AT MOST 1048576: true; the input reads as it did. -/
def fnExactRasterUptoRow : OpenClaim := { program := "ytabamachefgilaa", sum := "cd7b747e150d1aba104b7d88dd2cb434cf7e2243db33149f935d0343176aeb25", func := "loop.example/g00014/laws.FnExactRaster", spec := "fnExactRaster", apart := false, narrowed := true }
def FnExactRasterUptoSaid : Prop := fnExactRasterUptoRow.holds Try.pinned (OpenSpec.upto fnExactRasterSpec)

/-- 'laws.FnExactFontOk', WHERE WHAT IT READS IS OF BULK AT MOST 1048576: true; the input reads as it did. -/
def fnExactFontOkUptoRow : OpenClaim := { program := "ytabamachefgilaa", sum := "cd7b747e150d1aba104b7d88dd2cb434cf7e2243db33149f935d0343176aeb25", func := "loop.example/g00014/laws.FnExactFontOk", spec := "fnExactFontOk", unfollowed := true, recurses := true, apart := false, narrowed := true }
def FnExactFontOkUptoSaid : Prop := fnExactFontOkUptoRow.holds Try.pinned (OpenSpec.upto fnExactFontOkSpec)

end Rows
end Go.Proofs.Ytabamachefgilaa
