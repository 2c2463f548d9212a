-- Written by this session's program over the kit's printer (wip/gen/gp.py): Lean checks it.
import Derived.Test.YticdpekeaipnaaaProg
import Derived.Below
import Derived.Deep.Draws
import Derived.Deep.AppendLies
import Derived.Maps.AppendAt
import Derived.OwnWalk
import Derived.Laws.BytesArg
import Derived.Laws.MakeOwn
import Derived.Laws.OwnMore
import Derived.Deep.OwnRows
import Derived.Tactics
import Derived.Lib.ConvBytes
import Derived.Laws.Slices
import Derived.WalkKit
import Derived.KernelRfl
import Derived.RowKit3
import Derived.Deep.LoopGhost
import Derived.Deep.QuietTactic
import Derived.BigQuiet
import Derived.WideLaws
import Derived.Deep.DeepCutAuto
import Derived.Deep.CutBlock
import Derived.Deep.RegionHeld3
import Derived.Laws.Rows
import Derived.Lib.AppendStr
import Derived.ArgAppend
import Derived.Laws.IdiomCopy
import Derived.OrdersHeld
import Derived.Laws.BitsLemmas
import Derived.RowKit
import Derived.Test.YticdpekeaipnaaaWWords
import Derived.Test.YticdpekeaipnaaaWLast
import Derived.Test.YticdpekeaipnaaaWTab
import Derived.Test.YticdpekeaipnaaaWFour
import Derived.Test.YticdpekeaipnaaaWQPut
import Derived.Test.YticdpekeaipnaaaWApart
import Derived.Test.YticdpekeaipnaaaWArr
import Derived.Test.YticdpekeaipnaaaWZeros
import Derived.Test.YticdpekeaipnaaaWFoot
import Derived.Test.YticdpekeaipnaaaWKept
import Derived.Test.YticdpekeaipnaaaWShare
import Derived.Test.YticdpekeaipnaaaWN
import Derived.Test.YticdpekeaipnaaaWFootNe
import Derived.Test.YticdpekeaipnaaaWAt
import Derived.Test.YticdpekeaipnaaaWEqStruct
import Derived.Test.YticdpekeaipnaaaWRepsOne
import Derived.Test.YticdpekeaipnaaaWInv
import Derived.Test.YticdpekeaipnaaaWInvWords
import Derived.Test.YticdpekeaipnaaaWGuard
import Derived.Test.YticdpekeaipnaaaWNEv
import Derived.Test.YticdpekeaipnaaaWMore
namespace Go.Proofs.Yticdpekeaipnaaa.PFnExactStyleOk
open Go.RowKit Go.Proofs.YticdpekeaipnaaaW.PrintWords Go.Proofs.YticdpekeaipnaaaW.PrintLast Go.Proofs.YticdpekeaipnaaaW.PrintMore
attribute [local go_sem] max2_int min2_int max_two min_two max_three min_three max_four min_four   -- for this text's walks alone
set_option linter.unusedVariables false
set_option linter.unusedSimpArgs false



def errW : Option Int → Value
  | none => .nilIface
  | some c => .iface 0 (.int .i64 c)
theorem errW_none : errW none = .nilIface := rfl
theorem errW_some (c : Int) : errW (some c) = .iface 0 (.int .i64 c) := rfl

-- the values' own types
/-! #### struct type 24 -/
structure S24 where
  f0 : Int
  f1 : Int
  f2 : Int
  f3 : Int
  f4 : Int
def z24 : S24 := ⟨(0 : Int), (0 : Int), (0 : Int), (0 : Int), (0 : Int)⟩
def k24 : Kd S24 := Kd.iso (Kd.pair (Kd.int .i64) (Kd.pair (Kd.int .i64) (Kd.pair (Kd.int .i64) (Kd.pair (Kd.int .i64) (Kd.int .i64))))) (fun x : S24 => (x.f0, x.f1, x.f2, x.f3, x.f4))
theorem k24_open {w : World} {x : S24} {cs : List Value} (h : k24.K w x cs) : cs = [.int .i64 x.f0, .int .i64 x.f1, .int .i64 x.f2, .int .i64 x.f3, .int .i64 x.f4] := by
  obtain ⟨_, _, rfl, rfl, ⟨_, _, rfl, rfl, ⟨_, _, rfl, rfl, ⟨_, _, rfl, rfl, rfl⟩⟩⟩⟩ := h
  exact rfl
theorem k24_openM {w : World} {base : Nat} {ok : Nat → Prop} {x : S24} {cs : List Value} (h : k24.M w base ok x cs) : cs = [.int .i64 x.f0, .int .i64 x.f1, .int .i64 x.f2, .int .i64 x.f3, .int .i64 x.f4] := by
  obtain ⟨_, _, rfl, rfl, ⟨_, _, rfl, rfl, ⟨_, _, rfl, rfl, ⟨_, _, rfl, rfl, rfl⟩⟩⟩⟩ := h
  exact rfl
theorem k24_mk (w : World) (x : S24)  : k24.K w x [.int .i64 x.f0, .int .i64 x.f1, .int .i64 x.f2, .int .i64 x.f3, .int .i64 x.f4] := ⟨[.int .i64 x.f0], [.int .i64 x.f1, .int .i64 x.f2, .int .i64 x.f3, .int .i64 x.f4], rfl, rfl, ⟨[.int .i64 x.f1], [.int .i64 x.f2, .int .i64 x.f3, .int .i64 x.f4], rfl, rfl, ⟨[.int .i64 x.f2], [.int .i64 x.f3, .int .i64 x.f4], rfl, rfl, ⟨[.int .i64 x.f3], [.int .i64 x.f4], rfl, rfl, rfl⟩⟩⟩⟩
theorem k24_mkM (w : World) (base : Nat) (ok : Nat → Prop) (x : S24)  : k24.M w base ok x [.int .i64 x.f0, .int .i64 x.f1, .int .i64 x.f2, .int .i64 x.f3, .int .i64 x.f4] := ⟨[.int .i64 x.f0], [.int .i64 x.f1, .int .i64 x.f2, .int .i64 x.f3, .int .i64 x.f4], rfl, rfl, ⟨[.int .i64 x.f1], [.int .i64 x.f2, .int .i64 x.f3, .int .i64 x.f4], rfl, rfl, ⟨[.int .i64 x.f2], [.int .i64 x.f3, .int .i64 x.f4], rfl, rfl, ⟨[.int .i64 x.f3], [.int .i64 x.f4], rfl, rfl, rfl⟩⟩⟩⟩
def rd_T24 (xs : List S24) (i : Int) : S24 := xs.getD i.toNat z24
theorem at_T24 {w : World} {A : Option Addr} {n : Nat} {xs : List S24} (h : Kd.C k24 w A n xs) (i : Int) (h0 : 0 ≤ i) (h1 : i < n) : ∃ ad , A = some ad ∧ w.cell? (ad.add (i.toNat * 5)) = some (.int .i64 (rd_T24 xs i).f0) ∧ w.cell? ⟨(ad.add (i.toNat * 5)).block, (ad.add (i.toNat * 5)).off + 1, none⟩ = some (.int .i64 (rd_T24 xs i).f1) ∧ w.cell? ⟨(ad.add (i.toNat * 5)).block, (ad.add (i.toNat * 5)).off + 2, none⟩ = some (.int .i64 (rd_T24 xs i).f2) ∧ w.cell? ⟨(ad.add (i.toNat * 5)).block, (ad.add (i.toNat * 5)).off + 3, none⟩ = some (.int .i64 (rd_T24 xs i).f3) ∧ w.cell? ⟨(ad.add (i.toNat * 5)).block, (ad.add (i.toNat * 5)).off + 4, none⟩ = some (.int .i64 (rd_T24 xs i).f4) := by
  obtain ⟨ad, c, e, _, hK, hc0⟩ := Kd.C_get h z24 i h0 h1
  have hc : ∀ j u, c[j]? = some u → w.cell? (ad.add (i.toNat * 5 + j)) = some u := hc0
  obtain rfl := k24_open hK
  exact ⟨ad, e, hc 0 _ rfl, by rw [← add_field _ _ 1 (by omega)]; exact hc 1 _ rfl, by rw [← add_field _ _ 2 (by omega)]; exact hc 2 _ rfl, by rw [← add_field _ _ 3 (by omega)]; exact hc 3 _ rfl, by rw [← add_field _ _ 4 (by omega)]; exact hc 4 _ rfl⟩

/-! #### struct type 61 -/
structure S61 where
  f0 : Int
  f1 : Int
  f2 : Int
  f3 : Int
  f4 : Int
  f5 : Int
  f6 : Int
  f7 : Int
  f8 : S24
  f9 : S24
  f10 : S24
def z61 : S61 := ⟨(0 : Int), (0 : Int), (0 : Int), (0 : Int), (0 : Int), (0 : Int), (0 : Int), (0 : Int), z24, z24, z24⟩
def k61 : Kd S61 := Kd.iso (Kd.pair (Kd.int .i64) (Kd.pair (Kd.int .i64) (Kd.pair (Kd.int .i64) (Kd.pair (Kd.int .i64) (Kd.pair (Kd.int .i64) (Kd.pair (Kd.int .i64) (Kd.pair (Kd.int .i64) (Kd.pair (Kd.int .i64) (Kd.pair k24 (Kd.pair k24 k24)))))))))) (fun x : S61 => (x.f0, x.f1, x.f2, x.f3, x.f4, x.f5, x.f6, x.f7, x.f8, x.f9, x.f10))
theorem k61_open {w : World} {x : S61} {cs : List Value} (h : k61.K w x cs) : cs = [.int .i64 x.f0, .int .i64 x.f1, .int .i64 x.f2, .int .i64 x.f3, .int .i64 x.f4, .int .i64 x.f5, .int .i64 x.f6, .int .i64 x.f7, .int .i64 x.f8.f0, .int .i64 x.f8.f1, .int .i64 x.f8.f2, .int .i64 x.f8.f3, .int .i64 x.f8.f4, .int .i64 x.f9.f0, .int .i64 x.f9.f1, .int .i64 x.f9.f2, .int .i64 x.f9.f3, .int .i64 x.f9.f4, .int .i64 x.f10.f0, .int .i64 x.f10.f1, .int .i64 x.f10.f2, .int .i64 x.f10.f3, .int .i64 x.f10.f4] := by
  obtain ⟨_, _, rfl, rfl, ⟨_, _, rfl, rfl, ⟨_, _, rfl, rfl, ⟨_, _, rfl, rfl, ⟨_, _, rfl, rfl, ⟨_, _, rfl, rfl, ⟨_, _, rfl, rfl, ⟨_, _, rfl, rfl, ⟨_, _, rfl, s8, ⟨_, _, rfl, s13, s18⟩⟩⟩⟩⟩⟩⟩⟩⟩⟩ := h
  obtain rfl := k24_open s8
  obtain rfl := k24_open s13
  obtain rfl := k24_open s18
  exact rfl
theorem k61_openM {w : World} {base : Nat} {ok : Nat → Prop} {x : S61} {cs : List Value} (h : k61.M w base ok x cs) : cs = [.int .i64 x.f0, .int .i64 x.f1, .int .i64 x.f2, .int .i64 x.f3, .int .i64 x.f4, .int .i64 x.f5, .int .i64 x.f6, .int .i64 x.f7, .int .i64 x.f8.f0, .int .i64 x.f8.f1, .int .i64 x.f8.f2, .int .i64 x.f8.f3, .int .i64 x.f8.f4, .int .i64 x.f9.f0, .int .i64 x.f9.f1, .int .i64 x.f9.f2, .int .i64 x.f9.f3, .int .i64 x.f9.f4, .int .i64 x.f10.f0, .int .i64 x.f10.f1, .int .i64 x.f10.f2, .int .i64 x.f10.f3, .int .i64 x.f10.f4] := by
  obtain ⟨_, _, rfl, rfl, ⟨_, _, rfl, rfl, ⟨_, _, rfl, rfl, ⟨_, _, rfl, rfl, ⟨_, _, rfl, rfl, ⟨_, _, rfl, rfl, ⟨_, _, rfl, rfl, ⟨_, _, rfl, rfl, ⟨_, _, rfl, s8, ⟨_, _, rfl, s13, s18⟩⟩⟩⟩⟩⟩⟩⟩⟩⟩ := h
  obtain rfl := k24_openM s8
  obtain rfl := k24_openM s13
  obtain rfl := k24_openM s18
  exact rfl
theorem k61_mk (w : World) (x : S61)  : k61.K w x [.int .i64 x.f0, .int .i64 x.f1, .int .i64 x.f2, .int .i64 x.f3, .int .i64 x.f4, .int .i64 x.f5, .int .i64 x.f6, .int .i64 x.f7, .int .i64 x.f8.f0, .int .i64 x.f8.f1, .int .i64 x.f8.f2, .int .i64 x.f8.f3, .int .i64 x.f8.f4, .int .i64 x.f9.f0, .int .i64 x.f9.f1, .int .i64 x.f9.f2, .int .i64 x.f9.f3, .int .i64 x.f9.f4, .int .i64 x.f10.f0, .int .i64 x.f10.f1, .int .i64 x.f10.f2, .int .i64 x.f10.f3, .int .i64 x.f10.f4] := ⟨[.int .i64 x.f0], [.int .i64 x.f1, .int .i64 x.f2, .int .i64 x.f3, .int .i64 x.f4, .int .i64 x.f5, .int .i64 x.f6, .int .i64 x.f7, .int .i64 x.f8.f0, .int .i64 x.f8.f1, .int .i64 x.f8.f2, .int .i64 x.f8.f3, .int .i64 x.f8.f4, .int .i64 x.f9.f0, .int .i64 x.f9.f1, .int .i64 x.f9.f2, .int .i64 x.f9.f3, .int .i64 x.f9.f4, .int .i64 x.f10.f0, .int .i64 x.f10.f1, .int .i64 x.f10.f2, .int .i64 x.f10.f3, .int .i64 x.f10.f4], rfl, rfl, ⟨[.int .i64 x.f1], [.int .i64 x.f2, .int .i64 x.f3, .int .i64 x.f4, .int .i64 x.f5, .int .i64 x.f6, .int .i64 x.f7, .int .i64 x.f8.f0, .int .i64 x.f8.f1, .int .i64 x.f8.f2, .int .i64 x.f8.f3, .int .i64 x.f8.f4, .int .i64 x.f9.f0, .int .i64 x.f9.f1, .int .i64 x.f9.f2, .int .i64 x.f9.f3, .int .i64 x.f9.f4, .int .i64 x.f10.f0, .int .i64 x.f10.f1, .int .i64 x.f10.f2, .int .i64 x.f10.f3, .int .i64 x.f10.f4], rfl, rfl, ⟨[.int .i64 x.f2], [.int .i64 x.f3, .int .i64 x.f4, .int .i64 x.f5, .int .i64 x.f6, .int .i64 x.f7, .int .i64 x.f8.f0, .int .i64 x.f8.f1, .int .i64 x.f8.f2, .int .i64 x.f8.f3, .int .i64 x.f8.f4, .int .i64 x.f9.f0, .int .i64 x.f9.f1, .int .i64 x.f9.f2, .int .i64 x.f9.f3, .int .i64 x.f9.f4, .int .i64 x.f10.f0, .int .i64 x.f10.f1, .int .i64 x.f10.f2, .int .i64 x.f10.f3, .int .i64 x.f10.f4], rfl, rfl, ⟨[.int .i64 x.f3], [.int .i64 x.f4, .int .i64 x.f5, .int .i64 x.f6, .int .i64 x.f7, .int .i64 x.f8.f0, .int .i64 x.f8.f1, .int .i64 x.f8.f2, .int .i64 x.f8.f3, .int .i64 x.f8.f4, .int .i64 x.f9.f0, .int .i64 x.f9.f1, .int .i64 x.f9.f2, .int .i64 x.f9.f3, .int .i64 x.f9.f4, .int .i64 x.f10.f0, .int .i64 x.f10.f1, .int .i64 x.f10.f2, .int .i64 x.f10.f3, .int .i64 x.f10.f4], rfl, rfl, ⟨[.int .i64 x.f4], [.int .i64 x.f5, .int .i64 x.f6, .int .i64 x.f7, .int .i64 x.f8.f0, .int .i64 x.f8.f1, .int .i64 x.f8.f2, .int .i64 x.f8.f3, .int .i64 x.f8.f4, .int .i64 x.f9.f0, .int .i64 x.f9.f1, .int .i64 x.f9.f2, .int .i64 x.f9.f3, .int .i64 x.f9.f4, .int .i64 x.f10.f0, .int .i64 x.f10.f1, .int .i64 x.f10.f2, .int .i64 x.f10.f3, .int .i64 x.f10.f4], rfl, rfl, ⟨[.int .i64 x.f5], [.int .i64 x.f6, .int .i64 x.f7, .int .i64 x.f8.f0, .int .i64 x.f8.f1, .int .i64 x.f8.f2, .int .i64 x.f8.f3, .int .i64 x.f8.f4, .int .i64 x.f9.f0, .int .i64 x.f9.f1, .int .i64 x.f9.f2, .int .i64 x.f9.f3, .int .i64 x.f9.f4, .int .i64 x.f10.f0, .int .i64 x.f10.f1, .int .i64 x.f10.f2, .int .i64 x.f10.f3, .int .i64 x.f10.f4], rfl, rfl, ⟨[.int .i64 x.f6], [.int .i64 x.f7, .int .i64 x.f8.f0, .int .i64 x.f8.f1, .int .i64 x.f8.f2, .int .i64 x.f8.f3, .int .i64 x.f8.f4, .int .i64 x.f9.f0, .int .i64 x.f9.f1, .int .i64 x.f9.f2, .int .i64 x.f9.f3, .int .i64 x.f9.f4, .int .i64 x.f10.f0, .int .i64 x.f10.f1, .int .i64 x.f10.f2, .int .i64 x.f10.f3, .int .i64 x.f10.f4], rfl, rfl, ⟨[.int .i64 x.f7], [.int .i64 x.f8.f0, .int .i64 x.f8.f1, .int .i64 x.f8.f2, .int .i64 x.f8.f3, .int .i64 x.f8.f4, .int .i64 x.f9.f0, .int .i64 x.f9.f1, .int .i64 x.f9.f2, .int .i64 x.f9.f3, .int .i64 x.f9.f4, .int .i64 x.f10.f0, .int .i64 x.f10.f1, .int .i64 x.f10.f2, .int .i64 x.f10.f3, .int .i64 x.f10.f4], rfl, rfl, ⟨[.int .i64 x.f8.f0, .int .i64 x.f8.f1, .int .i64 x.f8.f2, .int .i64 x.f8.f3, .int .i64 x.f8.f4], [.int .i64 x.f9.f0, .int .i64 x.f9.f1, .int .i64 x.f9.f2, .int .i64 x.f9.f3, .int .i64 x.f9.f4, .int .i64 x.f10.f0, .int .i64 x.f10.f1, .int .i64 x.f10.f2, .int .i64 x.f10.f3, .int .i64 x.f10.f4], rfl, (k24_mk w x.f8 ), ⟨[.int .i64 x.f9.f0, .int .i64 x.f9.f1, .int .i64 x.f9.f2, .int .i64 x.f9.f3, .int .i64 x.f9.f4], [.int .i64 x.f10.f0, .int .i64 x.f10.f1, .int .i64 x.f10.f2, .int .i64 x.f10.f3, .int .i64 x.f10.f4], rfl, (k24_mk w x.f9 ), (k24_mk w x.f10 )⟩⟩⟩⟩⟩⟩⟩⟩⟩⟩
theorem k61_mkM (w : World) (base : Nat) (ok : Nat → Prop) (x : S61)  : k61.M w base ok x [.int .i64 x.f0, .int .i64 x.f1, .int .i64 x.f2, .int .i64 x.f3, .int .i64 x.f4, .int .i64 x.f5, .int .i64 x.f6, .int .i64 x.f7, .int .i64 x.f8.f0, .int .i64 x.f8.f1, .int .i64 x.f8.f2, .int .i64 x.f8.f3, .int .i64 x.f8.f4, .int .i64 x.f9.f0, .int .i64 x.f9.f1, .int .i64 x.f9.f2, .int .i64 x.f9.f3, .int .i64 x.f9.f4, .int .i64 x.f10.f0, .int .i64 x.f10.f1, .int .i64 x.f10.f2, .int .i64 x.f10.f3, .int .i64 x.f10.f4] := ⟨[.int .i64 x.f0], [.int .i64 x.f1, .int .i64 x.f2, .int .i64 x.f3, .int .i64 x.f4, .int .i64 x.f5, .int .i64 x.f6, .int .i64 x.f7, .int .i64 x.f8.f0, .int .i64 x.f8.f1, .int .i64 x.f8.f2, .int .i64 x.f8.f3, .int .i64 x.f8.f4, .int .i64 x.f9.f0, .int .i64 x.f9.f1, .int .i64 x.f9.f2, .int .i64 x.f9.f3, .int .i64 x.f9.f4, .int .i64 x.f10.f0, .int .i64 x.f10.f1, .int .i64 x.f10.f2, .int .i64 x.f10.f3, .int .i64 x.f10.f4], rfl, rfl, ⟨[.int .i64 x.f1], [.int .i64 x.f2, .int .i64 x.f3, .int .i64 x.f4, .int .i64 x.f5, .int .i64 x.f6, .int .i64 x.f7, .int .i64 x.f8.f0, .int .i64 x.f8.f1, .int .i64 x.f8.f2, .int .i64 x.f8.f3, .int .i64 x.f8.f4, .int .i64 x.f9.f0, .int .i64 x.f9.f1, .int .i64 x.f9.f2, .int .i64 x.f9.f3, .int .i64 x.f9.f4, .int .i64 x.f10.f0, .int .i64 x.f10.f1, .int .i64 x.f10.f2, .int .i64 x.f10.f3, .int .i64 x.f10.f4], rfl, rfl, ⟨[.int .i64 x.f2], [.int .i64 x.f3, .int .i64 x.f4, .int .i64 x.f5, .int .i64 x.f6, .int .i64 x.f7, .int .i64 x.f8.f0, .int .i64 x.f8.f1, .int .i64 x.f8.f2, .int .i64 x.f8.f3, .int .i64 x.f8.f4, .int .i64 x.f9.f0, .int .i64 x.f9.f1, .int .i64 x.f9.f2, .int .i64 x.f9.f3, .int .i64 x.f9.f4, .int .i64 x.f10.f0, .int .i64 x.f10.f1, .int .i64 x.f10.f2, .int .i64 x.f10.f3, .int .i64 x.f10.f4], rfl, rfl, ⟨[.int .i64 x.f3], [.int .i64 x.f4, .int .i64 x.f5, .int .i64 x.f6, .int .i64 x.f7, .int .i64 x.f8.f0, .int .i64 x.f8.f1, .int .i64 x.f8.f2, .int .i64 x.f8.f3, .int .i64 x.f8.f4, .int .i64 x.f9.f0, .int .i64 x.f9.f1, .int .i64 x.f9.f2, .int .i64 x.f9.f3, .int .i64 x.f9.f4, .int .i64 x.f10.f0, .int .i64 x.f10.f1, .int .i64 x.f10.f2, .int .i64 x.f10.f3, .int .i64 x.f10.f4], rfl, rfl, ⟨[.int .i64 x.f4], [.int .i64 x.f5, .int .i64 x.f6, .int .i64 x.f7, .int .i64 x.f8.f0, .int .i64 x.f8.f1, .int .i64 x.f8.f2, .int .i64 x.f8.f3, .int .i64 x.f8.f4, .int .i64 x.f9.f0, .int .i64 x.f9.f1, .int .i64 x.f9.f2, .int .i64 x.f9.f3, .int .i64 x.f9.f4, .int .i64 x.f10.f0, .int .i64 x.f10.f1, .int .i64 x.f10.f2, .int .i64 x.f10.f3, .int .i64 x.f10.f4], rfl, rfl, ⟨[.int .i64 x.f5], [.int .i64 x.f6, .int .i64 x.f7, .int .i64 x.f8.f0, .int .i64 x.f8.f1, .int .i64 x.f8.f2, .int .i64 x.f8.f3, .int .i64 x.f8.f4, .int .i64 x.f9.f0, .int .i64 x.f9.f1, .int .i64 x.f9.f2, .int .i64 x.f9.f3, .int .i64 x.f9.f4, .int .i64 x.f10.f0, .int .i64 x.f10.f1, .int .i64 x.f10.f2, .int .i64 x.f10.f3, .int .i64 x.f10.f4], rfl, rfl, ⟨[.int .i64 x.f6], [.int .i64 x.f7, .int .i64 x.f8.f0, .int .i64 x.f8.f1, .int .i64 x.f8.f2, .int .i64 x.f8.f3, .int .i64 x.f8.f4, .int .i64 x.f9.f0, .int .i64 x.f9.f1, .int .i64 x.f9.f2, .int .i64 x.f9.f3, .int .i64 x.f9.f4, .int .i64 x.f10.f0, .int .i64 x.f10.f1, .int .i64 x.f10.f2, .int .i64 x.f10.f3, .int .i64 x.f10.f4], rfl, rfl, ⟨[.int .i64 x.f7], [.int .i64 x.f8.f0, .int .i64 x.f8.f1, .int .i64 x.f8.f2, .int .i64 x.f8.f3, .int .i64 x.f8.f4, .int .i64 x.f9.f0, .int .i64 x.f9.f1, .int .i64 x.f9.f2, .int .i64 x.f9.f3, .int .i64 x.f9.f4, .int .i64 x.f10.f0, .int .i64 x.f10.f1, .int .i64 x.f10.f2, .int .i64 x.f10.f3, .int .i64 x.f10.f4], rfl, rfl, ⟨[.int .i64 x.f8.f0, .int .i64 x.f8.f1, .int .i64 x.f8.f2, .int .i64 x.f8.f3, .int .i64 x.f8.f4], [.int .i64 x.f9.f0, .int .i64 x.f9.f1, .int .i64 x.f9.f2, .int .i64 x.f9.f3, .int .i64 x.f9.f4, .int .i64 x.f10.f0, .int .i64 x.f10.f1, .int .i64 x.f10.f2, .int .i64 x.f10.f3, .int .i64 x.f10.f4], rfl, (k24_mkM w base ok x.f8 ), ⟨[.int .i64 x.f9.f0, .int .i64 x.f9.f1, .int .i64 x.f9.f2, .int .i64 x.f9.f3, .int .i64 x.f9.f4], [.int .i64 x.f10.f0, .int .i64 x.f10.f1, .int .i64 x.f10.f2, .int .i64 x.f10.f3, .int .i64 x.f10.f4], rfl, (k24_mkM w base ok x.f9 ), (k24_mkM w base ok x.f10 )⟩⟩⟩⟩⟩⟩⟩⟩⟩⟩
def rd_T61 (xs : List S61) (i : Int) : S61 := xs.getD i.toNat z61
theorem at_T61 {w : World} {A : Option Addr} {n : Nat} {xs : List S61} (h : Kd.C k61 w A n xs) (i : Int) (h0 : 0 ≤ i) (h1 : i < n) : ∃ ad , A = some ad ∧ w.cell? (ad.add (i.toNat * 23)) = some (.int .i64 (rd_T61 xs i).f0) ∧ w.cell? ⟨(ad.add (i.toNat * 23)).block, (ad.add (i.toNat * 23)).off + 1, none⟩ = some (.int .i64 (rd_T61 xs i).f1) ∧ w.cell? ⟨(ad.add (i.toNat * 23)).block, (ad.add (i.toNat * 23)).off + 2, none⟩ = some (.int .i64 (rd_T61 xs i).f2) ∧ w.cell? ⟨(ad.add (i.toNat * 23)).block, (ad.add (i.toNat * 23)).off + 3, none⟩ = some (.int .i64 (rd_T61 xs i).f3) ∧ w.cell? ⟨(ad.add (i.toNat * 23)).block, (ad.add (i.toNat * 23)).off + 4, none⟩ = some (.int .i64 (rd_T61 xs i).f4) ∧ w.cell? ⟨(ad.add (i.toNat * 23)).block, (ad.add (i.toNat * 23)).off + 5, none⟩ = some (.int .i64 (rd_T61 xs i).f5) ∧ w.cell? ⟨(ad.add (i.toNat * 23)).block, (ad.add (i.toNat * 23)).off + 6, none⟩ = some (.int .i64 (rd_T61 xs i).f6) ∧ w.cell? ⟨(ad.add (i.toNat * 23)).block, (ad.add (i.toNat * 23)).off + 7, none⟩ = some (.int .i64 (rd_T61 xs i).f7) ∧ w.cell? ⟨(ad.add (i.toNat * 23)).block, (ad.add (i.toNat * 23)).off + 8, none⟩ = some (.int .i64 (rd_T61 xs i).f8.f0) ∧ w.cell? ⟨(ad.add (i.toNat * 23)).block, (ad.add (i.toNat * 23)).off + 9, none⟩ = some (.int .i64 (rd_T61 xs i).f8.f1) ∧ w.cell? ⟨(ad.add (i.toNat * 23)).block, (ad.add (i.toNat * 23)).off + 10, none⟩ = some (.int .i64 (rd_T61 xs i).f8.f2) ∧ w.cell? ⟨(ad.add (i.toNat * 23)).block, (ad.add (i.toNat * 23)).off + 11, none⟩ = some (.int .i64 (rd_T61 xs i).f8.f3) ∧ w.cell? ⟨(ad.add (i.toNat * 23)).block, (ad.add (i.toNat * 23)).off + 12, none⟩ = some (.int .i64 (rd_T61 xs i).f8.f4) ∧ w.cell? ⟨(ad.add (i.toNat * 23)).block, (ad.add (i.toNat * 23)).off + 13, none⟩ = some (.int .i64 (rd_T61 xs i).f9.f0) ∧ w.cell? ⟨(ad.add (i.toNat * 23)).block, (ad.add (i.toNat * 23)).off + 14, none⟩ = some (.int .i64 (rd_T61 xs i).f9.f1) ∧ w.cell? ⟨(ad.add (i.toNat * 23)).block, (ad.add (i.toNat * 23)).off + 15, none⟩ = some (.int .i64 (rd_T61 xs i).f9.f2) ∧ w.cell? ⟨(ad.add (i.toNat * 23)).block, (ad.add (i.toNat * 23)).off + 16, none⟩ = some (.int .i64 (rd_T61 xs i).f9.f3) ∧ w.cell? ⟨(ad.add (i.toNat * 23)).block, (ad.add (i.toNat * 23)).off + 17, none⟩ = some (.int .i64 (rd_T61 xs i).f9.f4) ∧ w.cell? ⟨(ad.add (i.toNat * 23)).block, (ad.add (i.toNat * 23)).off + 18, none⟩ = some (.int .i64 (rd_T61 xs i).f10.f0) ∧ w.cell? ⟨(ad.add (i.toNat * 23)).block, (ad.add (i.toNat * 23)).off + 19, none⟩ = some (.int .i64 (rd_T61 xs i).f10.f1) ∧ w.cell? ⟨(ad.add (i.toNat * 23)).block, (ad.add (i.toNat * 23)).off + 20, none⟩ = some (.int .i64 (rd_T61 xs i).f10.f2) ∧ w.cell? ⟨(ad.add (i.toNat * 23)).block, (ad.add (i.toNat * 23)).off + 21, none⟩ = some (.int .i64 (rd_T61 xs i).f10.f3) ∧ w.cell? ⟨(ad.add (i.toNat * 23)).block, (ad.add (i.toNat * 23)).off + 22, none⟩ = some (.int .i64 (rd_T61 xs i).f10.f4) := by
  obtain ⟨ad, c, e, _, hK, hc0⟩ := Kd.C_get h z61 i h0 h1
  have hc : ∀ j u, c[j]? = some u → w.cell? (ad.add (i.toNat * 23 + j)) = some u := hc0
  obtain rfl := k61_open hK
  exact ⟨ad, e, hc 0 _ rfl, by rw [← add_field _ _ 1 (by omega)]; exact hc 1 _ rfl, by rw [← add_field _ _ 2 (by omega)]; exact hc 2 _ rfl, by rw [← add_field _ _ 3 (by omega)]; exact hc 3 _ rfl, by rw [← add_field _ _ 4 (by omega)]; exact hc 4 _ rfl, by rw [← add_field _ _ 5 (by omega)]; exact hc 5 _ rfl, by rw [← add_field _ _ 6 (by omega)]; exact hc 6 _ rfl, by rw [← add_field _ _ 7 (by omega)]; exact hc 7 _ rfl, by rw [← add_field _ _ 8 (by omega)]; exact hc 8 _ rfl, by rw [← add_field _ _ 9 (by omega)]; exact hc 9 _ rfl, by rw [← add_field _ _ 10 (by omega)]; exact hc 10 _ rfl, by rw [← add_field _ _ 11 (by omega)]; exact hc 11 _ rfl, by rw [← add_field _ _ 12 (by omega)]; exact hc 12 _ rfl, by rw [← add_field _ _ 13 (by omega)]; exact hc 13 _ rfl, by rw [← add_field _ _ 14 (by omega)]; exact hc 14 _ rfl, by rw [← add_field _ _ 15 (by omega)]; exact hc 15 _ rfl, by rw [← add_field _ _ 16 (by omega)]; exact hc 16 _ rfl, by rw [← add_field _ _ 17 (by omega)]; exact hc 17 _ rfl, by rw [← add_field _ _ 18 (by omega)]; exact hc 18 _ rfl, by rw [← add_field _ _ 19 (by omega)]; exact hc 19 _ rfl, by rw [← add_field _ _ 20 (by omega)]; exact hc 20 _ rfl, by rw [← add_field _ _ 21 (by omega)]; exact hc 21 _ rfl, by rw [← add_field _ _ 22 (by omega)]; exact hc 22 _ rfl⟩

end Go.Proofs.Yticdpekeaipnaaa.PFnExactStyleOk
