/-
  No cell of these rows narrows 'for every input' (looked for: loops, veiled, ifaces, maps, wideKeys, modest, calm, conditions, laid).
  DERIVED. THE GIVEN ROWS OF THIS SEAT. 4 by the template 'for every input the law returns true; each argument reads behind the call as it read before'; 0 by the template 'total and deterministic' (their statements: YtngmkpediibhjaaTotals.lean).
  GIVEN WITH THE SEED: the statements are not yours to turn. If you find one false, say at which input.
  Laid BY PROGRAM, IN A SANDBOX (cutbox-rows.mjs): the forced cells as the released guide's own fill.sh prints them over the translation 4e350d25e05f556b… (all of the seat's roots in one cut). By AI agents, Wed Nov 11 2026. No macro, syntax, notation, axiom, sorry.
-/
import Derived.Test.YtngmkpediibhjaaChecked
import GoSem.Claim
import GoSem.ClaimJoined
import GoSem.ClaimMapViews
import Derived.JoinedTies
import Derived.KernelRfl
namespace Go.Proofs.Ytngmkpediibhjaa
/- THE CELL 'sum', in the pinned program and in every row, IS THE sha256 OF THE DUMP (.gsa) THAT YtngmkpediibhjaaProg.lean LOADS. Nothing in Lean hashes anything: it is a label: what it is worth is what the hold of that sum in a sandbox is worth. -/
noncomputable def Try.pinned : Pinned := { name := "ytngmkpediibhjaa", sum := "4e350d25e05f556bfb59093754bfe96727f44f32266b27b9ae265a3d91091d74", checked := Try.checked }
namespace Rows
def none {H : Type} : Left H := { results := [], args := [] }

/-- 'laws.FnExactFontOk': WHATEVER THE INPUT: true; the input reads as it did. -/
def fnExactFontOkSpec : ChangeSpec := { name := "fnExactFontOk", fn := fun _ => fun
  | [d] => { results := [.lit (.bool true)], args := [d] }
  | _ => none }
def fnExactFontOkRow : OpenClaim := { program := "ytngmkpediibhjaa", sum := "4e350d25e05f556bfb59093754bfe96727f44f32266b27b9ae265a3d91091d74", func := "loop.example/g00014/laws.FnExactFontOk", spec := "fnExactFontOk", unfollowed := true, recurses := true, apart := false }
def FnExactFontOkSaid : Prop := fnExactFontOkRow.holds Try.pinned (OpenSpec.ofChange fnExactFontOkSpec)

/-- ITS FALSE NEIGHBOUR: 'it returns false'. Refute it at one input. -/
def fnExactFontOkWrong : ChangeSpec := { name := "fnExactFontOk", fn := fun _ => fun
  | [d] => { results := [.lit (.bool false)], args := [d] }
  | _ => none }
def FnExactFontOkWrongFalsely : Prop := fnExactFontOkRow.holds Try.pinned (OpenSpec.ofChange fnExactFontOkWrong)

/-- 'laws.FnExactGlyphOf': WHATEVER THE INPUT: true; the input reads as it did. -/
def fnExactGlyphOfSpec : ChangeSpec := { name := "fnExactGlyphOf", fn := fun _ => fun
  | [d1, d2] => { results := [.lit (.bool true)], args := [d1, d2] }
  | _ => none }
def fnExactGlyphOfRow : OpenClaim := { program := "ytngmkpediibhjaa", sum := "4e350d25e05f556bfb59093754bfe96727f44f32266b27b9ae265a3d91091d74", func := "loop.example/g00014/laws.FnExactGlyphOf", spec := "fnExactGlyphOf", unfollowed := true, recurses := true, apart := false }
def FnExactGlyphOfSaid : Prop := fnExactGlyphOfRow.holds Try.pinned (OpenSpec.ofChange fnExactGlyphOfSpec)

/-- ITS FALSE NEIGHBOUR: 'it returns false'. Refute it at one input. -/
def fnExactGlyphOfWrong : ChangeSpec := { name := "fnExactGlyphOf", fn := fun _ => fun
  | [d1, d2] => { results := [.lit (.bool false)], args := [d1, d2] }
  | _ => none }
def FnExactGlyphOfWrongFalsely : Prop := fnExactGlyphOfRow.holds Try.pinned (OpenSpec.ofChange fnExactGlyphOfWrong)

/-- 'laws.FnExactEncodeDesc': WHATEVER THE INPUT: true; the input reads as it did. -/
def fnExactEncodeDescSpec : ChangeSpec := { name := "fnExactEncodeDesc", fn := fun _ => fun
  | [d] => { results := [.lit (.bool true)], args := [d] }
  | _ => none }
def fnExactEncodeDescRow : OpenClaim := { program := "ytngmkpediibhjaa", sum := "4e350d25e05f556bfb59093754bfe96727f44f32266b27b9ae265a3d91091d74", func := "loop.example/g00014/laws.FnExactEncodeDesc", spec := "fnExactEncodeDesc", apart := false }
def FnExactEncodeDescSaid : Prop := fnExactEncodeDescRow.holds Try.pinned (OpenSpec.ofChange fnExactEncodeDescSpec)

/-- ITS FALSE NEIGHBOUR: 'it returns false'. Refute it at one input. -/
def fnExactEncodeDescWrong : ChangeSpec := { name := "fnExactEncodeDesc", fn := fun _ => fun
  | [d] => { results := [.lit (.bool false)], args := [d] }
  | _ => none }
def FnExactEncodeDescWrongFalsely : Prop := fnExactEncodeDescRow.holds Try.pinned (OpenSpec.ofChange fnExactEncodeDescWrong)

/-- 'laws.FnExactDecodeDesc': WHATEVER THE INPUT: true; the input reads as it did. -/
def fnExactDecodeDescSpec : ChangeSpec := { name := "fnExactDecodeDesc", fn := fun _ => fun
  | [d] => { results := [.lit (.bool true)], args := [d] }
  | _ => none }
def fnExactDecodeDescRow : OpenClaim := { program := "ytngmkpediibhjaa", sum := "4e350d25e05f556bfb59093754bfe96727f44f32266b27b9ae265a3d91091d74", func := "loop.example/g00014/laws.FnExactDecodeDesc", spec := "fnExactDecodeDesc", unfollowed := true, recurses := true, apart := false }
def FnExactDecodeDescSaid : Prop := fnExactDecodeDescRow.holds Try.pinned (OpenSpec.ofChange fnExactDecodeDescSpec)

/-- ITS FALSE NEIGHBOUR: 'it returns false'. Refute it at one input. -/
def fnExactDecodeDescWrong : ChangeSpec := { name := "fnExactDecodeDesc", fn := fun _ => fun
  | [d] => { results := [.lit (.bool false)], args := [d] }
  | _ => none }
def FnExactDecodeDescWrongFalsely : Prop := fnExactDecodeDescRow.holds Try.pinned (OpenSpec.ofChange fnExactDecodeDescWrong)

/- THE SECOND FORM. 'bulk': how many values and letters a reading holds, each counted each time it is reached (what is shared counts as often as it is met; a slice's spare places count too). A statement '..UptoSaid' is the law's where the arguments, and the package variables that the reading takes, are together of bulk at most 1048576: NARROWER than '..Said'. Prove '..Said' where nothing that the law and all that it calls make is longer than what came in: it says more and counts as full. Else prove '..UptoSaid'. A law counts once. -/
mutual
def uptoBulk {H : Type} : DataW H → Nat
  | .lit (.string bytes) => bytes.length + 1
  | .lit _ => 1
  | .nil => 1
  | .ptr d => uptoBulk d + 1
  | .slice elems spare => uptoBulkAll elems + uptoBulkAll spare + 1
  | .agg parts => uptoBulkAll parts + 1
  | .iface _ d => uptoBulk d + 1
  | .map entries => uptoBulkEntries entries + 1
  | .held _ => 1
def uptoBulkAll {H : Type} : List (DataW H) → Nat
  | [] => 0
  | d :: r => uptoBulk d + uptoBulkAll r
def uptoBulkEntries {H : Type} : List (Lit × DataW H) → Nat
  | [] => 0
  | x :: r => uptoBulkEntry x + uptoBulkEntries r
def uptoBulkEntry {H : Type} : Lit × DataW H → Nat
  | (.string bytes, d) => bytes.length + uptoBulk d + 1
  | (_, d) => uptoBulk d + 1
 end
def uptoSmall : (H : Type) → List (DataW H) → Bool := fun _ ds => decide (uptoBulkAll ds ≤ 1048576)
def OpenSpec.upto (s : _root_.Go.ChangeSpec) : _root_.Go.OpenSpec := { _root_.Go.OpenSpec.ofChange s with cond := some uptoSmall }

/-- 'laws.FnExactFontOk', WHERE WHAT IT READS IS OF BULK AT MOST 1048576: true; the input reads as it did. -/
def fnExactFontOkUptoRow : OpenClaim := { program := "ytngmkpediibhjaa", sum := "4e350d25e05f556bfb59093754bfe96727f44f32266b27b9ae265a3d91091d74", func := "loop.example/g00014/laws.FnExactFontOk", spec := "fnExactFontOk", unfollowed := true, recurses := true, apart := false, narrowed := true }
def FnExactFontOkUptoSaid : Prop := fnExactFontOkUptoRow.holds Try.pinned (OpenSpec.upto fnExactFontOkSpec)

/-- 'laws.FnExactGlyphOf', WHERE WHAT IT READS IS OF BULK AT MOST 1048576: true; the input reads as it did. -/
def fnExactGlyphOfUptoRow : OpenClaim := { program := "ytngmkpediibhjaa", sum := "4e350d25e05f556bfb59093754bfe96727f44f32266b27b9ae265a3d91091d74", func := "loop.example/g00014/laws.FnExactGlyphOf", spec := "fnExactGlyphOf", unfollowed := true, recurses := true, apart := false, narrowed := true }
def FnExactGlyphOfUptoSaid : Prop := fnExactGlyphOfUptoRow.holds Try.pinned (OpenSpec.upto fnExactGlyphOfSpec)

/-- 'laws.FnExactEncodeDesc', WHERE WHAT IT READS IS OF BULK AT MOST 1048576: true; the input reads as it did. -/
def fnExactEncodeDescUptoRow : OpenClaim := { program := "ytngmkpediibhjaa", sum := "4e350d25e05f556bfb59093754bfe96727f44f32266b27b9ae265a3d91091d74", func := "loop.example/g00014/laws.FnExactEncodeDesc", spec := "fnExactEncodeDesc", apart := false, narrowed := true }
def FnExactEncodeDescUptoSaid : Prop := fnExactEncodeDescUptoRow.holds Try.pinned (OpenSpec.upto fnExactEncodeDescSpec)

/-- 'laws.FnExactDecodeDesc', WHERE WHAT IT READS IS OF BULK AT MOST 1048576: true; the input reads as it did. -/
def fnExactDecodeDescUptoRow : OpenClaim := { program := "ytngmkpediibhjaa", sum := "4e350d25e05f556bfb59093754bfe96727f44f32266b27b9ae265a3d91091d74", func := "loop.example/g00014/laws.FnExactDecodeDesc", spec := "fnExactDecodeDesc", unfollowed := true, recurses := true, apart := false, narrowed := true }
def FnExactDecodeDescUptoSaid : Prop := fnExactDecodeDescUptoRow.holds Try.pinned (OpenSpec.upto fnExactDecodeDescSpec)

end Rows
end Go.Proofs.Ytngmkpediibhjaa
