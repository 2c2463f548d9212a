/-
  No cell of these rows narrows 'for every input' (looked for: loops, veiled, ifaces, maps, wideKeys, modest, calm, conditions, laid).
  DERIVED. THE GIVEN ROWS OF THIS SEAT. 8 by the template 'for every input the law returns true; each argument reads behind the call as it read before'; 0 by the template 'total and deterministic' (their statements: YtgfifmbbjoocgaaTotals.lean).
  GIVEN WITH THE SEED: the statements are not yours to turn. If you find one false, say at which input.
  Laid BY PROGRAM, IN A SANDBOX (cutbox-rows.mjs): the forced cells as the released guide's own fill.sh prints them over the translation a2696e862e5021c6… (all of the seat's roots in one cut). By AI agents, Wed Nov 11 2026. No macro, syntax, notation, axiom, sorry.
-/
import Derived.Test.YtgfifmbbjoocgaaChecked
import GoSem.Claim
import GoSem.ClaimJoined
import GoSem.ClaimMapViews
import Derived.JoinedTies
import Derived.KernelRfl
namespace Go.Proofs.Ytgfifmbbjoocgaa
/- THE CELL 'sum', in the pinned program and in every row, IS THE sha256 OF THE DUMP (.gsa) THAT YtgfifmbbjoocgaaProg.lean LOADS. Nothing in Lean hashes anything: it is a label: what it is worth is what the hold of that sum in a sandbox is worth. -/
noncomputable def Try.pinned : Pinned := { name := "ytgfifmbbjoocgaa", sum := "a2696e862e5021c6a369a165e055c3f9b0042e9d535902b51ccbb22b65598844", checked := Try.checked }
namespace Rows
def none {H : Type} : Left H := { results := [], args := [] }

/-- 'laws.FnExactClasses': WHATEVER THE INPUT: true; the input reads as it did. -/
def fnExactClassesSpec : ChangeSpec := { name := "fnExactClasses", fn := fun _ => fun
  | [d] => { results := [.lit (.bool true)], args := [d] }
  | _ => none }
def fnExactClassesRow : OpenClaim := { program := "ytgfifmbbjoocgaa", sum := "a2696e862e5021c6a369a165e055c3f9b0042e9d535902b51ccbb22b65598844", func := "loop.example/g00014/laws.FnExactClasses", spec := "fnExactClasses", recurses := true, apart := false }
def FnExactClassesSaid : Prop := fnExactClassesRow.holds Try.pinned (OpenSpec.ofChange fnExactClassesSpec)

/-- ITS FALSE NEIGHBOUR: 'it returns false'. Refute it at one input. -/
def fnExactClassesWrong : ChangeSpec := { name := "fnExactClasses", fn := fun _ => fun
  | [d] => { results := [.lit (.bool false)], args := [d] }
  | _ => none }
def FnExactClassesWrongFalsely : Prop := fnExactClassesRow.holds Try.pinned (OpenSpec.ofChange fnExactClassesWrong)

/-- 'laws.FnExactMeanOk': WHATEVER THE INPUT: true; the input reads as it did. -/
def fnExactMeanOkSpec : ChangeSpec := { name := "fnExactMeanOk", fn := fun _ => fun
  | [d] => { results := [.lit (.bool true)], args := [d] }
  | _ => none }
def fnExactMeanOkRow : OpenClaim := { program := "ytgfifmbbjoocgaa", sum := "a2696e862e5021c6a369a165e055c3f9b0042e9d535902b51ccbb22b65598844", func := "loop.example/g00014/laws.FnExactMeanOk", spec := "fnExactMeanOk", apart := false }
def FnExactMeanOkSaid : Prop := fnExactMeanOkRow.holds Try.pinned (OpenSpec.ofChange fnExactMeanOkSpec)

/-- ITS FALSE NEIGHBOUR: 'it returns false'. Refute it at one input. -/
def fnExactMeanOkWrong : ChangeSpec := { name := "fnExactMeanOk", fn := fun _ => fun
  | [d] => { results := [.lit (.bool false)], args := [d] }
  | _ => none }
def FnExactMeanOkWrongFalsely : Prop := fnExactMeanOkRow.holds Try.pinned (OpenSpec.ofChange fnExactMeanOkWrong)

/-- 'laws.FnExactListOk': WHATEVER THE INPUT: true; the input reads as it did. -/
def fnExactListOkSpec : ChangeSpec := { name := "fnExactListOk", fn := fun _ => fun
  | [d] => { results := [.lit (.bool true)], args := [d] }
  | _ => none }
def fnExactListOkRow : OpenClaim := { program := "ytgfifmbbjoocgaa", sum := "a2696e862e5021c6a369a165e055c3f9b0042e9d535902b51ccbb22b65598844", func := "loop.example/g00014/laws.FnExactListOk", spec := "fnExactListOk", unfollowed := true, recurses := true, apart := false }
def FnExactListOkSaid : Prop := fnExactListOkRow.holds Try.pinned (OpenSpec.ofChange fnExactListOkSpec)

/-- ITS FALSE NEIGHBOUR: 'it returns false'. Refute it at one input. -/
def fnExactListOkWrong : ChangeSpec := { name := "fnExactListOk", fn := fun _ => fun
  | [d] => { results := [.lit (.bool false)], args := [d] }
  | _ => none }
def FnExactListOkWrongFalsely : Prop := fnExactListOkRow.holds Try.pinned (OpenSpec.ofChange fnExactListOkWrong)

/-- 'laws.FnExactTokenize': WHATEVER THE INPUT: true; the input reads as it did. -/
def fnExactTokenizeSpec : ChangeSpec := { name := "fnExactTokenize", fn := fun _ => fun
  | [d1, d2] => { results := [.lit (.bool true)], args := [d1, d2] }
  | _ => none }
def fnExactTokenizeRow : OpenClaim := { program := "ytgfifmbbjoocgaa", sum := "a2696e862e5021c6a369a165e055c3f9b0042e9d535902b51ccbb22b65598844", func := "loop.example/g00014/laws.FnExactTokenize", spec := "fnExactTokenize", unfollowed := true, recurses := true, apart := false }
def FnExactTokenizeSaid : Prop := fnExactTokenizeRow.holds Try.pinned (OpenSpec.ofChange fnExactTokenizeSpec)

/-- ITS FALSE NEIGHBOUR: 'it returns false'. Refute it at one input. -/
def fnExactTokenizeWrong : ChangeSpec := { name := "fnExactTokenize", fn := fun _ => fun
  | [d1, d2] => { results := [.lit (.bool false)], args := [d1, d2] }
  | _ => none }
def FnExactTokenizeWrongFalsely : Prop := fnExactTokenizeRow.holds Try.pinned (OpenSpec.ofChange fnExactTokenizeWrong)

/-- 'laws.FnExactGlyphOf': WHATEVER THE INPUT: true; the input reads as it did. -/
def fnExactGlyphOfSpec : ChangeSpec := { name := "fnExactGlyphOf", fn := fun _ => fun
  | [d1, d2] => { results := [.lit (.bool true)], args := [d1, d2] }
  | _ => none }
def fnExactGlyphOfRow : OpenClaim := { program := "ytgfifmbbjoocgaa", sum := "a2696e862e5021c6a369a165e055c3f9b0042e9d535902b51ccbb22b65598844", func := "loop.example/g00014/laws.FnExactGlyphOf", spec := "fnExactGlyphOf", unfollowed := true, recurses := true, apart := false }
def FnExactGlyphOfSaid : Prop := fnExactGlyphOfRow.holds Try.pinned (OpenSpec.ofChange fnExactGlyphOfSpec)

/-- ITS FALSE NEIGHBOUR: 'it returns false'. Refute it at one input. -/
def fnExactGlyphOfWrong : ChangeSpec := { name := "fnExactGlyphOf", fn := fun _ => fun
  | [d1, d2] => { results := [.lit (.bool false)], args := [d1, d2] }
  | _ => none }
def FnExactGlyphOfWrongFalsely : Prop := fnExactGlyphOfRow.holds Try.pinned (OpenSpec.ofChange fnExactGlyphOfWrong)

/-- 'laws.FnExactEncodeDesc': WHATEVER THE INPUT: true; the input reads as it did. -/
def fnExactEncodeDescSpec : ChangeSpec := { name := "fnExactEncodeDesc", fn := fun _ => fun
  | [d] => { results := [.lit (.bool true)], args := [d] }
  | _ => none }
def fnExactEncodeDescRow : OpenClaim := { program := "ytgfifmbbjoocgaa", sum := "a2696e862e5021c6a369a165e055c3f9b0042e9d535902b51ccbb22b65598844", func := "loop.example/g00014/laws.FnExactEncodeDesc", spec := "fnExactEncodeDesc", apart := false }
def FnExactEncodeDescSaid : Prop := fnExactEncodeDescRow.holds Try.pinned (OpenSpec.ofChange fnExactEncodeDescSpec)

/-- ITS FALSE NEIGHBOUR: 'it returns false'. Refute it at one input. -/
def fnExactEncodeDescWrong : ChangeSpec := { name := "fnExactEncodeDesc", fn := fun _ => fun
  | [d] => { results := [.lit (.bool false)], args := [d] }
  | _ => none }
def FnExactEncodeDescWrongFalsely : Prop := fnExactEncodeDescRow.holds Try.pinned (OpenSpec.ofChange fnExactEncodeDescWrong)

/-- 'laws.FnTokensBack': WHATEVER THE INPUT: true; the input reads as it did. -/
def fnTokensBackSpec : ChangeSpec := { name := "fnTokensBack", fn := fun _ => fun
  | [d] => { results := [.lit (.bool true)], args := [d] }
  | _ => none }
def fnTokensBackRow : OpenClaim := { program := "ytgfifmbbjoocgaa", sum := "a2696e862e5021c6a369a165e055c3f9b0042e9d535902b51ccbb22b65598844", func := "loop.example/g00014/laws.FnTokensBack", spec := "fnTokensBack", inPlace := ["internal/abi.NoEscape"], unfollowed := true, recurses := true, apart := false }
def FnTokensBackSaid : Prop := fnTokensBackRow.holds Try.pinned (OpenSpec.ofChange fnTokensBackSpec)

/-- ITS FALSE NEIGHBOUR: 'it returns false'. Refute it at one input. -/
def fnTokensBackWrong : ChangeSpec := { name := "fnTokensBack", fn := fun _ => fun
  | [d] => { results := [.lit (.bool false)], args := [d] }
  | _ => none }
def FnTokensBackWrongFalsely : Prop := fnTokensBackRow.holds Try.pinned (OpenSpec.ofChange fnTokensBackWrong)

/-- 'laws.FnExactFillBody': WHATEVER THE INPUT: true; the input reads as it did. -/
def fnExactFillBodySpec : ChangeSpec := { name := "fnExactFillBody", fn := fun _ => fun
  | [d1, d2] => { results := [.lit (.bool true)], args := [d1, d2] }
  | _ => none }
def fnExactFillBodyRow : OpenClaim := { program := "ytgfifmbbjoocgaa", sum := "a2696e862e5021c6a369a165e055c3f9b0042e9d535902b51ccbb22b65598844", func := "loop.example/g00014/laws.FnExactFillBody", spec := "fnExactFillBody", apart := false }
def FnExactFillBodySaid : Prop := fnExactFillBodyRow.holds Try.pinned (OpenSpec.ofChange fnExactFillBodySpec)

/-- ITS FALSE NEIGHBOUR: 'it returns false'. Refute it at one input. -/
def fnExactFillBodyWrong : ChangeSpec := { name := "fnExactFillBody", fn := fun _ => fun
  | [d1, d2] => { results := [.lit (.bool false)], args := [d1, d2] }
  | _ => none }
def FnExactFillBodyWrongFalsely : Prop := fnExactFillBodyRow.holds Try.pinned (OpenSpec.ofChange fnExactFillBodyWrong)

/- THE SECOND FORM. 'bulk': how many values and letters a reading holds, each counted each time it is reached (what is shared counts as often as it is met; a slice's spare places count too). A statement '..UptoSaid' is the law's where the arguments, and the package variables that the reading takes, are together of bulk at most 1048576: NARROWER than '..Said'. Prove '..Said' where nothing that the law and all that it calls make is longer than what came in: it says more and counts as full. Else prove '..UptoSaid'. A law counts once. -/
mutual
def uptoBulk {H : Type} : DataW H → Nat
  | .lit (.string bytes) => bytes.length + 1
  | .lit _ => 1
  | .nil => 1
  | .ptr d => uptoBulk d + 1
  | .slice elems spare => uptoBulkAll elems + uptoBulkAll spare + 1
  | .agg parts => uptoBulkAll parts + 1
  | .iface _ d => uptoBulk d + 1
  | .map entries => uptoBulkEntries entries + 1
  | .held _ => 1
def uptoBulkAll {H : Type} : List (DataW H) → Nat
  | [] => 0
  | d :: r => uptoBulk d + uptoBulkAll r
def uptoBulkEntries {H : Type} : List (Lit × DataW H) → Nat
  | [] => 0
  | x :: r => uptoBulkEntry x + uptoBulkEntries r
def uptoBulkEntry {H : Type} : Lit × DataW H → Nat
  | (.string bytes, d) => bytes.length + uptoBulk d + 1
  | (_, d) => uptoBulk d + 1
 end
def uptoSmall : (H : Type) → List (DataW H) → Bool := fun _ ds => decide (uptoBulkAll ds ≤ 1048576)
def OpenSpec.upto (s : _root_.Go.ChangeSpec) : _root_.Go.OpenSpec := { _root_.Go.OpenSpec.ofChange s with cond := some uptoSmall }

/-- 'laws.FnExactClasses', WHERE WHAT IT READS IS OF BULK AT MOST 1048576: true; the input reads as it did. -/
def fnExactClassesUptoRow : OpenClaim := { program := "ytgfifmbbjoocgaa", sum := "a2696e862e5021c6a369a165e055c3f9b0042e9d535902b51ccbb22b65598844", func := "loop.example/g00014/laws.FnExactClasses", spec := "fnExactClasses", recurses := true, apart := false, narrowed := true }
def FnExactClassesUptoSaid : Prop := fnExactClassesUptoRow.holds Try.pinned (OpenSpec.upto fnExactClassesSpec)

/-- 'laws.FnExactMeanOk', WHERE WHAT IT READS IS OF BULK AT MOST 1048576: true; the input reads as it did. -/
def fnExactMeanOkUptoRow : OpenClaim := { program := "ytgfifmbbjoocgaa", sum := "a2696e862e5021c6a369a165e055c3f9b0042e9d535902b51ccbb22b65598844", func := "loop.example/g00014/laws.FnExactMeanOk", spec := "fnExactMeanOk", apart := false, narrowed := true }
def FnExactMeanOkUptoSaid : Prop := fnExactMeanOkUptoRow.holds Try.pinned (OpenSpec.upto fnExactMeanOkSpec)

/-- 'laws.FnExactListOk', WHERE WHAT IT READS IS OF BULK AT MOST 1048576: true; the input reads as it did. -/
def fnExactListOkUptoRow : OpenClaim := { program := "ytgfifmbbjoocgaa", sum := "a2696e862e5021c6a369a165e055c3f9b0042e9d535902b51ccbb22b65598844", func := "loop.example/g00014/laws.FnExactListOk", spec := "fnExactListOk", unfollowed := true, recurses := true, apart := false, narrowed := true }
def FnExactListOkUptoSaid : Prop := fnExactListOkUptoRow.holds Try.pinned (OpenSpec.upto fnExactListOkSpec)

/-- 'laws.FnExactTokenize', WHERE WHAT IT READS IS OF BULK AT MOST 1048576: true; the input reads as it did. -/
def fnExactTokenizeUptoRow : OpenClaim := { program := "ytgfifmbbjoocgaa", sum := "a2696e862e5021c6a369a165e055c3f9b0042e9d535902b51ccbb22b65598844", func := "loop.example/g00014/laws.FnExactTokenize", spec := "fnExactTokenize", unfollowed := true, recurses := true, apart := false, narrowed := true }
def FnExactTokenizeUptoSaid : Prop := fnExactTokenizeUptoRow.holds Try.pinned (OpenSpec.upto fnExactTokenizeSpec)

/-- 'laws.FnExactGlyphOf', WHERE WHAT IT READS IS OF BULK AT MOST 1048576: true; the input reads as it did. -/
def fnExactGlyphOfUptoRow : OpenClaim := { program := "ytgfifmbbjoocgaa", sum := "a2696e862e5021c6a369a165e055c3f9b0042e9d535902b51ccbb22b65598844", func := "loop.example/g00014/laws.FnExactGlyphOf", spec := "fnExactGlyphOf", unfollowed := true, recurses := true, apart := false, narrowed := true }
def FnExactGlyphOfUptoSaid : Prop := fnExactGlyphOfUptoRow.holds Try.pinned (OpenSpec.upto fnExactGlyphOfSpec)

/-- 'laws.FnExactEncodeDesc', WHERE WHAT IT READS IS OF BULK AT MOST 1048576: true; the input reads as it did. -/
def fnExactEncodeDescUptoRow : OpenClaim := { program := "ytgfifmbbjoocgaa", sum := "a2696e862e5021c6a369a165e055c3f9b0042e9d535902b51ccbb22b65598844", func := "loop.example/g00014/laws.FnExactEncodeDesc", spec := "fnExactEncodeDesc", apart := false, narrowed := true }
def FnExactEncodeDescUptoSaid : Prop := fnExactEncodeDescUptoRow.holds Try.pinned (OpenSpec.upto fnExactEncodeDescSpec)

/-- 'laws.FnTokensBack', WHERE WHAT IT READS IS OF BULK AT MOST 1048576: true; the input reads as it did. -/
def fnTokensBackUptoRow : OpenClaim := { program := "ytgfifmbbjoocgaa", sum := "a2696e862e5021c6a369a165e055c3f9b0042e9d535902b51ccbb22b65598844", func := "loop.example/g00014/laws.FnTokensBack", spec := "fnTokensBack", inPlace := ["internal/abi.NoEscape"], unfollowed := true, recurses := true, apart := false, narrowed := true }
def FnTokensBackUptoSaid : Prop := fnTokensBackUptoRow.holds Try.pinned (OpenSpec.upto fnTokensBackSpec)

/-- 'laws.FnExactFillBody', WHERE WHAT IT READS IS OF BULK AT MOST 1048576: true; the input reads as it did. -/
def fnExactFillBodyUptoRow : OpenClaim := { program := "ytgfifmbbjoocgaa", sum := "a2696e862e5021c6a369a165e055c3f9b0042e9d535902b51ccbb22b65598844", func := "loop.example/g00014/laws.FnExactFillBody", spec := "fnExactFillBody", apart := false, narrowed := true }
def FnExactFillBodyUptoSaid : Prop := fnExactFillBodyUptoRow.holds Try.pinned (OpenSpec.upto fnExactFillBodySpec)

end Rows
end Go.Proofs.Ytgfifmbbjoocgaa
