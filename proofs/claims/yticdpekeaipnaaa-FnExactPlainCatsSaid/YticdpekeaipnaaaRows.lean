/-
  No cell of these rows narrows 'for every input' (looked for: loops, veiled, ifaces, maps, wideKeys, modest, calm, conditions, laid).
  DERIVED. THE GIVEN ROWS OF THIS SEAT. 10 by the template 'for every input the law returns true; each argument reads behind the call as it read before'; 0 by the template 'total and deterministic' (their statements: YticdpekeaipnaaaTotals.lean).
  GIVEN WITH THE SEED: the statements are not yours to turn. If you find one false, say at which input.
  Laid BY PROGRAM, IN A SANDBOX (cutbox-rows.mjs): the forced cells as the released guide's own fill.sh prints them over the translation 7d84db1d0e4b6a91… (all of the seat's roots in one cut). By AI agents, Wed Nov 11 2026. No macro, syntax, notation, axiom, sorry.
-/
import Derived.Test.YticdpekeaipnaaaChecked
import GoSem.Claim
import GoSem.ClaimJoined
import GoSem.ClaimMapViews
import Derived.JoinedTies
import Derived.KernelRfl
namespace Go.Proofs.Yticdpekeaipnaaa
/- THE CELL 'sum', in the pinned program and in every row, IS THE sha256 OF THE DUMP (.gsa) THAT YticdpekeaipnaaaProg.lean LOADS. Nothing in Lean hashes anything: it is a label: what it is worth is what the hold of that sum in a sandbox is worth. -/
noncomputable def Try.pinned : Pinned := { name := "yticdpekeaipnaaa", sum := "7d84db1d0e4b6a914fe113120046ec038e3ddbd7c3aac4cf83476956f4da5aec", checked := Try.checked }
namespace Rows
def none {H : Type} : Left H := { results := [], args := [] }

/-- 'laws.FnExactConstants': WHATEVER THE INPUT: true; the input reads as it did. -/
def fnExactConstantsSpec : ChangeSpec := { name := "fnExactConstants", fn := fun _ => fun
  | [] => { results := [.lit (.bool true)], args := [] }
  | _ => none }
def fnExactConstantsRow : OpenClaim := { program := "yticdpekeaipnaaa", sum := "7d84db1d0e4b6a914fe113120046ec038e3ddbd7c3aac4cf83476956f4da5aec", func := "loop.example/g00014/laws.FnExactConstants", spec := "fnExactConstants", apart := false }
def FnExactConstantsSaid : Prop := fnExactConstantsRow.holds Try.pinned (OpenSpec.ofChange fnExactConstantsSpec)

/-- ITS FALSE NEIGHBOUR: 'it returns false'. Refute it at one input. -/
def fnExactConstantsWrong : ChangeSpec := { name := "fnExactConstants", fn := fun _ => fun
  | [] => { results := [.lit (.bool false)], args := [] }
  | _ => none }
def FnExactConstantsWrongFalsely : Prop := fnExactConstantsRow.holds Try.pinned (OpenSpec.ofChange fnExactConstantsWrong)

/-- 'laws.FnExactGlueOk': WHATEVER THE INPUT: true; the input reads as it did. -/
def fnExactGlueOkSpec : ChangeSpec := { name := "fnExactGlueOk", fn := fun _ => fun
  | [d] => { results := [.lit (.bool true)], args := [d] }
  | _ => none }
def fnExactGlueOkRow : OpenClaim := { program := "yticdpekeaipnaaa", sum := "7d84db1d0e4b6a914fe113120046ec038e3ddbd7c3aac4cf83476956f4da5aec", func := "loop.example/g00014/laws.FnExactGlueOk", spec := "fnExactGlueOk", unfollowed := true, recurses := true, apart := false }
def FnExactGlueOkSaid : Prop := fnExactGlueOkRow.holds Try.pinned (OpenSpec.ofChange fnExactGlueOkSpec)

/-- ITS FALSE NEIGHBOUR: 'it returns false'. Refute it at one input. -/
def fnExactGlueOkWrong : ChangeSpec := { name := "fnExactGlueOk", fn := fun _ => fun
  | [d] => { results := [.lit (.bool false)], args := [d] }
  | _ => none }
def FnExactGlueOkWrongFalsely : Prop := fnExactGlueOkRow.holds Try.pinned (OpenSpec.ofChange fnExactGlueOkWrong)

/-- 'laws.FnExactPlainFormat': WHATEVER THE INPUT: true; the input reads as it did. -/
def fnExactPlainFormatSpec : ChangeSpec := { name := "fnExactPlainFormat", fn := fun _ => fun
  | [] => { results := [.lit (.bool true)], args := [] }
  | _ => none }
def fnExactPlainFormatRow : OpenClaim := { program := "yticdpekeaipnaaa", sum := "7d84db1d0e4b6a914fe113120046ec038e3ddbd7c3aac4cf83476956f4da5aec", func := "loop.example/g00014/laws.FnExactPlainFormat", spec := "fnExactPlainFormat", apart := false }
def FnExactPlainFormatSaid : Prop := fnExactPlainFormatRow.holds Try.pinned (OpenSpec.ofChange fnExactPlainFormatSpec)

/-- ITS FALSE NEIGHBOUR: 'it returns false'. Refute it at one input. -/
def fnExactPlainFormatWrong : ChangeSpec := { name := "fnExactPlainFormat", fn := fun _ => fun
  | [] => { results := [.lit (.bool false)], args := [] }
  | _ => none }
def FnExactPlainFormatWrongFalsely : Prop := fnExactPlainFormatRow.holds Try.pinned (OpenSpec.ofChange fnExactPlainFormatWrong)

/-- 'laws.FnExactSheetOk': WHATEVER THE INPUT: true; the input reads as it did. -/
def fnExactSheetOkSpec : ChangeSpec := { name := "fnExactSheetOk", fn := fun _ => fun
  | [d] => { results := [.lit (.bool true)], args := [d] }
  | _ => none }
def fnExactSheetOkRow : OpenClaim := { program := "yticdpekeaipnaaa", sum := "7d84db1d0e4b6a914fe113120046ec038e3ddbd7c3aac4cf83476956f4da5aec", func := "loop.example/g00014/laws.FnExactSheetOk", spec := "fnExactSheetOk", unfollowed := true, recurses := true, apart := false }
def FnExactSheetOkSaid : Prop := fnExactSheetOkRow.holds Try.pinned (OpenSpec.ofChange fnExactSheetOkSpec)

/-- ITS FALSE NEIGHBOUR: 'it returns false'. Refute it at one input. -/
def fnExactSheetOkWrong : ChangeSpec := { name := "fnExactSheetOk", fn := fun _ => fun
  | [d] => { results := [.lit (.bool false)], args := [d] }
  | _ => none }
def FnExactSheetOkWrongFalsely : Prop := fnExactSheetOkRow.holds Try.pinned (OpenSpec.ofChange fnExactSheetOkWrong)

/-- 'laws.FnExactCatsOk': WHATEVER THE INPUT: true; the input reads as it did. -/
def fnExactCatsOkSpec : ChangeSpec := { name := "fnExactCatsOk", fn := fun _ => fun
  | [d] => { results := [.lit (.bool true)], args := [d] }
  | _ => none }
def fnExactCatsOkRow : OpenClaim := { program := "yticdpekeaipnaaa", sum := "7d84db1d0e4b6a914fe113120046ec038e3ddbd7c3aac4cf83476956f4da5aec", func := "loop.example/g00014/laws.FnExactCatsOk", spec := "fnExactCatsOk", apart := false }
def FnExactCatsOkSaid : Prop := fnExactCatsOkRow.holds Try.pinned (OpenSpec.ofChange fnExactCatsOkSpec)

/-- ITS FALSE NEIGHBOUR: 'it returns false'. Refute it at one input. -/
def fnExactCatsOkWrong : ChangeSpec := { name := "fnExactCatsOk", fn := fun _ => fun
  | [d] => { results := [.lit (.bool false)], args := [d] }
  | _ => none }
def FnExactCatsOkWrongFalsely : Prop := fnExactCatsOkRow.holds Try.pinned (OpenSpec.ofChange fnExactCatsOkWrong)

/-- 'laws.FnExactDecodeDesc': WHATEVER THE INPUT: true; the input reads as it did. -/
def fnExactDecodeDescSpec : ChangeSpec := { name := "fnExactDecodeDesc", fn := fun _ => fun
  | [d] => { results := [.lit (.bool true)], args := [d] }
  | _ => none }
def fnExactDecodeDescRow : OpenClaim := { program := "yticdpekeaipnaaa", sum := "7d84db1d0e4b6a914fe113120046ec038e3ddbd7c3aac4cf83476956f4da5aec", func := "loop.example/g00014/laws.FnExactDecodeDesc", spec := "fnExactDecodeDesc", unfollowed := true, recurses := true, apart := false }
def FnExactDecodeDescSaid : Prop := fnExactDecodeDescRow.holds Try.pinned (OpenSpec.ofChange fnExactDecodeDescSpec)

/-- ITS FALSE NEIGHBOUR: 'it returns false'. Refute it at one input. -/
def fnExactDecodeDescWrong : ChangeSpec := { name := "fnExactDecodeDesc", fn := fun _ => fun
  | [d] => { results := [.lit (.bool false)], args := [d] }
  | _ => none }
def FnExactDecodeDescWrongFalsely : Prop := fnExactDecodeDescRow.holds Try.pinned (OpenSpec.ofChange fnExactDecodeDescWrong)

/-- 'laws.FnExactClassOf': WHATEVER THE INPUT: true; the input reads as it did. -/
def fnExactClassOfSpec : ChangeSpec := { name := "fnExactClassOf", fn := fun _ => fun
  | [d] => { results := [.lit (.bool true)], args := [d] }
  | _ => none }
def fnExactClassOfRow : OpenClaim := { program := "yticdpekeaipnaaa", sum := "7d84db1d0e4b6a914fe113120046ec038e3ddbd7c3aac4cf83476956f4da5aec", func := "loop.example/g00014/laws.FnExactClassOf", spec := "fnExactClassOf", apart := false }
def FnExactClassOfSaid : Prop := fnExactClassOfRow.holds Try.pinned (OpenSpec.ofChange fnExactClassOfSpec)

/-- ITS FALSE NEIGHBOUR: 'it returns false'. Refute it at one input. -/
def fnExactClassOfWrong : ChangeSpec := { name := "fnExactClassOf", fn := fun _ => fun
  | [d] => { results := [.lit (.bool false)], args := [d] }
  | _ => none }
def FnExactClassOfWrongFalsely : Prop := fnExactClassOfRow.holds Try.pinned (OpenSpec.ofChange fnExactClassOfWrong)

/-- 'laws.FnExactTokenOk': WHATEVER THE INPUT: true; the input reads as it did. -/
def fnExactTokenOkSpec : ChangeSpec := { name := "fnExactTokenOk", fn := fun _ => fun
  | [d] => { results := [.lit (.bool true)], args := [d] }
  | _ => none }
def fnExactTokenOkRow : OpenClaim := { program := "yticdpekeaipnaaa", sum := "7d84db1d0e4b6a914fe113120046ec038e3ddbd7c3aac4cf83476956f4da5aec", func := "loop.example/g00014/laws.FnExactTokenOk", spec := "fnExactTokenOk", apart := false }
def FnExactTokenOkSaid : Prop := fnExactTokenOkRow.holds Try.pinned (OpenSpec.ofChange fnExactTokenOkSpec)

/-- ITS FALSE NEIGHBOUR: 'it returns false'. Refute it at one input. -/
def fnExactTokenOkWrong : ChangeSpec := { name := "fnExactTokenOk", fn := fun _ => fun
  | [d] => { results := [.lit (.bool false)], args := [d] }
  | _ => none }
def FnExactTokenOkWrongFalsely : Prop := fnExactTokenOkRow.holds Try.pinned (OpenSpec.ofChange fnExactTokenOkWrong)

/-- 'laws.FnExactStyleOk': WHATEVER THE INPUT: true; the input reads as it did. -/
def fnExactStyleOkSpec : ChangeSpec := { name := "fnExactStyleOk", fn := fun _ => fun
  | [d] => { results := [.lit (.bool true)], args := [d] }
  | _ => none }
def fnExactStyleOkRow : OpenClaim := { program := "yticdpekeaipnaaa", sum := "7d84db1d0e4b6a914fe113120046ec038e3ddbd7c3aac4cf83476956f4da5aec", func := "loop.example/g00014/laws.FnExactStyleOk", spec := "fnExactStyleOk", unfollowed := true, recurses := true, apart := false }
def FnExactStyleOkSaid : Prop := fnExactStyleOkRow.holds Try.pinned (OpenSpec.ofChange fnExactStyleOkSpec)

/-- ITS FALSE NEIGHBOUR: 'it returns false'. Refute it at one input. -/
def fnExactStyleOkWrong : ChangeSpec := { name := "fnExactStyleOk", fn := fun _ => fun
  | [d] => { results := [.lit (.bool false)], args := [d] }
  | _ => none }
def FnExactStyleOkWrongFalsely : Prop := fnExactStyleOkRow.holds Try.pinned (OpenSpec.ofChange fnExactStyleOkWrong)

/-- 'laws.FnExactPlainCats': WHATEVER THE INPUT: true; the input reads as it did. -/
def fnExactPlainCatsSpec : ChangeSpec := { name := "fnExactPlainCats", fn := fun _ => fun
  | [] => { results := [.lit (.bool true)], args := [] }
  | _ => none }
def fnExactPlainCatsRow : OpenClaim := { program := "yticdpekeaipnaaa", sum := "7d84db1d0e4b6a914fe113120046ec038e3ddbd7c3aac4cf83476956f4da5aec", func := "loop.example/g00014/laws.FnExactPlainCats", spec := "fnExactPlainCats", apart := false }
def FnExactPlainCatsSaid : Prop := fnExactPlainCatsRow.holds Try.pinned (OpenSpec.ofChange fnExactPlainCatsSpec)

/-- ITS FALSE NEIGHBOUR: 'it returns false'. Refute it at one input. -/
def fnExactPlainCatsWrong : ChangeSpec := { name := "fnExactPlainCats", fn := fun _ => fun
  | [] => { results := [.lit (.bool false)], args := [] }
  | _ => none }
def FnExactPlainCatsWrongFalsely : Prop := fnExactPlainCatsRow.holds Try.pinned (OpenSpec.ofChange fnExactPlainCatsWrong)

/- THE SECOND FORM. 'bulk': how many values and letters a reading holds, each counted each time it is reached (what is shared counts as often as it is met; a slice's spare places count too). A statement '..UptoSaid' is the law's where the arguments, and the package variables that the reading takes, are together of bulk at most 1048576: NARROWER than '..Said'. Prove '..Said' where nothing that the law and all that it calls make is longer than what came in: it says more and counts as full. Else prove '..UptoSaid'. A law counts once. -/
mutual
def uptoBulk {H : Type} : DataW H → Nat
  | .lit (.string bytes) => bytes.length + 1
  | .lit _ => 1
  | .nil => 1
  | .ptr d => uptoBulk d + 1
  | .slice elems spare => uptoBulkAll elems + uptoBulkAll spare + 1
  | .agg parts => uptoBulkAll parts + 1
  | .iface _ d => uptoBulk d + 1
  | .map entries => uptoBulkEntries entries + 1
  | .held _ => 1
def uptoBulkAll {H : Type} : List (DataW H) → Nat
  | [] => 0
  | d :: r => uptoBulk d + uptoBulkAll r
def uptoBulkEntries {H : Type} : List (Lit × DataW H) → Nat
  | [] => 0
  | x :: r => uptoBulkEntry x + uptoBulkEntries r
def uptoBulkEntry {H : Type} : Lit × DataW H → Nat
  | (.string bytes, d) => bytes.length + uptoBulk d + 1
  | (_, d) => uptoBulk d + 1
 end
def uptoSmall : (H : Type) → List (DataW H) → Bool := fun _ ds => decide (uptoBulkAll ds ≤ 1048576)
def OpenSpec.upto (s : _root_.Go.ChangeSpec) : _root_.Go.OpenSpec := { _root_.Go.OpenSpec.ofChange s with cond := some uptoSmall }

/-- 'laws.FnExactConstants', WHERE WHAT IT READS IS OF BULK AT MOST 1048576: true; the input reads as it did. -/
def fnExactConstantsUptoRow : OpenClaim := { program := "yticdpekeaipnaaa", sum := "7d84db1d0e4b6a914fe113120046ec038e3ddbd7c3aac4cf83476956f4da5aec", func := "loop.example/g00014/laws.FnExactConstants", spec := "fnExactConstants", apart := false, narrowed := true }
def FnExactConstantsUptoSaid : Prop := fnExactConstantsUptoRow.holds Try.pinned (OpenSpec.upto fnExactConstantsSpec)

/-- 'laws.FnExactGlueOk', WHERE WHAT IT READS IS OF BULK AT MOST 1048576: true; the input reads as it did. -/
def fnExactGlueOkUptoRow : OpenClaim := { program := "yticdpekeaipnaaa", sum := "7d84db1d0e4b6a914fe113120046ec038e3ddbd7c3aac4cf83476956f4da5aec", func := "loop.example/g00014/laws.FnExactGlueOk", spec := "fnExactGlueOk", unfollowed := true, recurses := true, apart := false, narrowed := true }
def FnExactGlueOkUptoSaid : Prop := fnExactGlueOkUptoRow.holds Try.pinned (OpenSpec.upto fnExactGlueOkSpec)

/-- 'laws.FnExactPlainFormat', WHERE WHAT IT READS IS OF BULK AT MOST 1048576: true; the input reads as it did. -/
def fnExactPlainFormatUptoRow : OpenClaim := { program := "yticdpekeaipnaaa", sum := "7d84db1d0e4b6a914fe113120046ec038e3ddbd7c3aac4cf83476956f4da5aec", func := "loop.example/g00014/laws.FnExactPlainFormat", spec := "fnExactPlainFormat", apart := false, narrowed := true }
def FnExactPlainFormatUptoSaid : Prop := fnExactPlainFormatUptoRow.holds Try.pinned (OpenSpec.upto fnExactPlainFormatSpec)

/-- 'laws.FnExactSheetOk', WHERE WHAT IT READS IS OF BULK AT MOST 1048576: true; the input reads as it did. -/
def fnExactSheetOkUptoRow : OpenClaim := { program := "yticdpekeaipnaaa", sum := "7d84db1d0e4b6a914fe113120046ec038e3ddbd7c3aac4cf83476956f4da5aec", func := "loop.example/g00014/laws.FnExactSheetOk", spec := "fnExactSheetOk", unfollowed := true, recurses := true, apart := false, narrowed := true }
def FnExactSheetOkUptoSaid : Prop := fnExactSheetOkUptoRow.holds Try.pinned (OpenSpec.upto fnExactSheetOkSpec)

/-- 'laws.FnExactCatsOk', WHERE WHAT IT READS IS OF BULK AT MOST 1048576: true; the input reads as it did. -/
def fnExactCatsOkUptoRow : OpenClaim := { program := "yticdpekeaipnaaa", sum := "7d84db1d0e4b6a914fe113120046ec038e3ddbd7c3aac4cf83476956f4da5aec", func := "loop.example/g00014/laws.FnExactCatsOk", spec := "fnExactCatsOk", apart := false, narrowed := true }
def FnExactCatsOkUptoSaid : Prop := fnExactCatsOkUptoRow.holds Try.pinned (OpenSpec.upto fnExactCatsOkSpec)

/-- 'laws.FnExactDecodeDesc', WHERE WHAT IT READS IS OF BULK AT MOST 1048576: true; the input reads as it did. -/
def fnExactDecodeDescUptoRow : OpenClaim := { program := "yticdpekeaipnaaa", sum := "7d84db1d0e4b6a914fe113120046ec038e3ddbd7c3aac4cf83476956f4da5aec", func := "loop.example/g00014/laws.FnExactDecodeDesc", spec := "fnExactDecodeDesc", unfollowed := true, recurses := true, apart := false, narrowed := true }
def FnExactDecodeDescUptoSaid : Prop := fnExactDecodeDescUptoRow.holds Try.pinned (OpenSpec.upto fnExactDecodeDescSpec)

/-- 'laws.FnExactClassOf', WHERE WHAT IT READS IS OF BULK AT MOST 1048576: true; the input reads as it did. -/
def fnExactClassOfUptoRow : OpenClaim := { program := "yticdpekeaipnaaa", sum := "7d84db1d0e4b6a914fe113120046ec038e3ddbd7c3aac4cf83476956f4da5aec", func := "loop.example/g00014/laws.FnExactClassOf", spec := "fnExactClassOf", apart := false, narrowed := true }
def FnExactClassOfUptoSaid : Prop := fnExactClassOfUptoRow.holds Try.pinned (OpenSpec.upto fnExactClassOfSpec)

/-- 'laws.FnExactTokenOk', WHERE WHAT IT READS IS OF BULK AT MOST 1048576: true; the input reads as it did. -/
def fnExactTokenOkUptoRow : OpenClaim := { program := "yticdpekeaipnaaa", sum := "7d84db1d0e4b6a914fe113120046ec038e3ddbd7c3aac4cf83476956f4da5aec", func := "loop.example/g00014/laws.FnExactTokenOk", spec := "fnExactTokenOk", apart := false, narrowed := true }
def FnExactTokenOkUptoSaid : Prop := fnExactTokenOkUptoRow.holds Try.pinned (OpenSpec.upto fnExactTokenOkSpec)

/-- 'laws.FnExactStyleOk', WHERE WHAT IT READS IS OF BULK AT MOST 1048576: true; the input reads as it did. -/
def fnExactStyleOkUptoRow : OpenClaim := { program := "yticdpekeaipnaaa", sum := "7d84db1d0e4b6a914fe113120046ec038e3ddbd7c3aac4cf83476956f4da5aec", func := "loop.example/g00014/laws.FnExactStyleOk", spec := "fnExactStyleOk", unfollowed := true, recurses := true, apart := false, narrowed := true }
def FnExactStyleOkUptoSaid : Prop := fnExactStyleOkUptoRow.holds Try.pinned (OpenSpec.upto fnExactStyleOkSpec)

/-- 'laws.FnExactPlainCats', WHERE WHAT IT READS IS OF BULK AT MOST 1048576: true; the input reads as it did. -/
def fnExactPlainCatsUptoRow : OpenClaim := { program := "yticdpekeaipnaaa", sum := "7d84db1d0e4b6a914fe113120046ec038e3ddbd7c3aac4cf83476956f4da5aec", func := "loop.example/g00014/laws.FnExactPlainCats", spec := "fnExactPlainCats", apart := false, narrowed := true }
def FnExactPlainCatsUptoSaid : Prop := fnExactPlainCatsUptoRow.holds Try.pinned (OpenSpec.upto fnExactPlainCatsSpec)

end Rows
end Go.Proofs.Yticdpekeaipnaaa
