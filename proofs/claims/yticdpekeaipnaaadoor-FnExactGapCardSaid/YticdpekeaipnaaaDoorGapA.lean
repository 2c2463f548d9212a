/- What the listed table of gaps holds, cell by cell, and the two functions that the law calls. No condition. -/
import Derived.Test.YticdpekeaipnaaaDoorRows
import Derived.WalkKit
import Derived.ProofKit
import Derived.OpenShut
import Derived.LaidMore
import Derived.Lay
import Derived.SevenTiedAt
import Derived.Stop.Joined
namespace Go.Proofs.YticdpekeaipnaaaDoor.Gap
open Go.ChangeShapes Go.WideShapes Go.ChangeAt Go.RowKit

def zss : List (List Int) := [[0, 3, -4, -5, 0, 0, 0, -3], [3, 3, 0, -5, 0, 0, 0, -3], [-4, -4, 0, 0, -4, 0, 0, -4], [-5, -5, 0, 0, -5, 0, 0, -5], [0, 0, 0, 0, 0, 0, 0, 0], [0, 3, -4, -5, 0, 0, 0, -3], [-3, -3, 0, -3, -3, -3, -3, -3], [-3, 3, -4, -5, -3, 0, -3, -3]]
def z (i j : Nat) : Int := (zss.getD i []).getD j 0

theorem cell {W : World} (h : laidMetH Tryd.prog Rows.fnExactGapRow.laid W) (i j : Nat) (hi : i < 8) (hj : j < 8) : W.cell? ⟨0, i * 8 + j, none⟩ = some (.int .i64 (z i j)) := by
  rw [MakeChecks.laidMetH_plain _ _ _ (by kernel_rfl)] at h
  obtain ⟨ps, ⟨g, t, cs, fuel, p, q, hg, ht, hv, hd, _, _⟩, _, _⟩ := h
  obtain rfl := Option.some.inj ((show Tryd.prog.globalNamed "loop.example/g00014/impl.oGaps" = some 0 by kernel_rfl).symm.trans hg)
  obtain rfl := Option.some.inj ((show (Tryd.prog.globals[0]?).map (·.type) = some 42 by kernel_rfl).symm.trans ht)
  obtain ⟨xs, m, _, ex, hcl, hl, hel⟩ := DataW.trod_array Tryd.underlying42 hd
  have c41 : Tryd.prog.cellsOf 41 = 8 := by kernel_rfl
  have c42 : Tryd.prog.cellsOf 42 = 64 := by kernel_rfl
  have c2 : Tryd.prog.cellsOf 2 = 1 := by kernel_rfl
  rw [c42] at hcl
  have hE := hel i hi
  rw [c41, List.getElem?_eq_getElem (by omega)] at hE
  obtain ⟨ys, m2, _, ex2, _, hl2, hel2⟩ := DataW.trod_array Tryd.underlying41 hE
  have hE2 := hel2 j hj
  rw [c2, Nat.mul_one, List.getElem?_eq_getElem (by omega)] at hE2
  obtain ⟨v, e1, e2, _⟩ := DataW.trod_int Tryd.underlying2 hE2
  have e3 : xs.map (·.1) = zss.map (fun zs => (DataW.agg (zs.map fun n => .lit (.int .i64 n)) : DataW Unit)) := (DataW.agg.inj (Prod.mk.inj ex).1).symm
  have hz8 : zss.length = 8 := rfl
  have e4 : (xs.map (·.1))[i]? = (zss.map (fun zs => (DataW.agg (zs.map fun n => .lit (.int .i64 n)) : DataW Unit)))[i]? := by rw [e3]
  obtain ⟨row, hrow⟩ : ∃ row, zss[i]? = some row := ⟨_, List.getElem?_eq_getElem (by omega : i < zss.length)⟩
  rw [List.getElem?_map, List.getElem?_map, List.getElem?_eq_getElem (by omega : i < xs.length), hrow, ex2] at e4
  simp only [Option.map_some, Option.some.injEq, DataW.agg.injEq] at e4
  have e5 := congrArg (fun l => l[j]?) e4
  have hzl : row.length = 8 := by
    have h9 := congrArg List.length e4
    rw [List.length_map, List.length_map] at h9
    omega
  rw [List.getElem?_map, List.getElem?_map, List.getElem?_eq_getElem (by omega : j < ys.length), List.getElem?_eq_getElem (by omega : j < row.length), e2] at e5
  simp only [Option.map_some, Option.some.injEq, DataW.lit.injEq, Lit.int.injEq, true_and] at e5
  have hz : z i j = v := by
    unfold z
    rw [show zss.getD i [] = row by rw [List.getD, hrow]; rfl, List.getD, List.getElem?_eq_getElem (by omega : j < row.length), e5]; rfl
  have hcg : Tryd.prog.globalNamed "loop.example/g00014/impl.oGaps" = some 0 := by kernel_rfl
  rw [World.var?_cell hcg hv (i * 8 + j), hz]
  have h0 : ((((cs.toList.drop (i * 8)).take 8).drop j).take 1)[0]? = some (.int .i64 v) := by rw [e1]; rfl
  rw [List.getElem?_take, if_pos (by omega), List.getElem?_drop, List.getElem?_take, if_pos (by omega), List.getElem?_drop] at h0
  simpa using h0
#print axioms cell
end Go.Proofs.YticdpekeaipnaaaDoor.Gap
