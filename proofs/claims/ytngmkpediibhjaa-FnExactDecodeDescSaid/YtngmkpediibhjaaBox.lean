/- Steps of a walk at the cells of a variable of one's own: a part of it is written, all of it is read. No condition. -/
import Derived.Test.YtngmkpediibhjaaVDdWords
import Derived.Deep.MidRow
namespace Go.Proofs.Ytngmkpediibhjaa.Box
open Go.RowKit Go.Proofs.YtngmkpediibhjaaW.PrintWords
set_option linter.unusedVariables false
section
variable {P : Program} {ops : Array Oper} {rest : List Oper} {o : Oper} {a : Act} {Q : Exit → Act → World → Prop}
theorem below_part {base : Nat} {w0 W : World} {g j : Nat} (seg : List Value) (hg : base ≤ g) (hB : Below base w0 W) : Below base w0 (W.setCells g j seg) := by
  have h := setCells_same g seg j W
  exact hB.trans ⟨h.1, h.2.1, h.2.2.1, by rw [h.2.2.2]; exact Nat.le_refl _, fun k hk => setCells_far seg j k (by omega)⟩
theorem part_store {W : World} (hgd : o.guard = none) (t T : TypeId) (p : Tmp) (v : Operand) (ho : o.op = .store t (.tmp p) v) (hN : o.dst = none) (g j : Nat) (u : Value) (seg : List Value) (cur cur' : Array Value)
    (hp : a.eval (.tmp p) = .pointer (some ⟨g, j, none⟩)) (hv : a.eval v = u) (hu : u.cells.toList = seg) (hb : W.heap[g]? = some (.cells cur T (0, 0))) (ht : (P.info? t).map (·.size) = some seg.length) (hfit : j + seg.length ≤ cur.size) (h1 : seg.all (·.oneCell') = true)
    (he : cur.toList.take j ++ seg ++ cur.toList.drop (j + seg.length) = cur'.toList)
    (h : ∀ w', w'.heap[g]? = some (.cells cur' T (0, 0)) → (∀ k, k ≠ g → w'.heap[k]? = W.heap[k]?) → (∀ (base : Nat) (w0 : World), base ≤ g → Below base w0 W → Below base w0 w') → wpList P ops Q rest a w') : wpList P ops Q (o :: rest) a W := by
  have hrun := run_store_run (P := P) (g := g) (o := j) t u seg hb hu ht hfit (fun q hq => List.all_eq_true.1 h1 q hq)
  obtain ⟨c2, h2, _, h3⟩ := setCells_row seg j W cur hb hfit
  rw [he] at h3
  obtain rfl : c2 = cur' := Array.ext' h3
  refine wpList_plain hgd fun K hK => ?_
  unfold Oper.wp execOp
  simp only [ho, hp, hv, Sem.run_bind, Sem.run_pure, Result.andThen_ok, hrun]
  show K (a.put o.dst undef) _
  rw [hN]
  exact hK a _ (h _ h2 (fun k hk => setCells_far seg j k hk) (fun base w0 hg hB => below_part seg hg hB))
theorem all_load {W : World} (hgd : o.guard = none) (t T : TypeId) (p : Operand) (ho : o.op = .load t p) (g : Nat) (cur : Array Value) (fs : Array Field)
    (hp : a.eval p = .pointer (some ⟨g, 0, none⟩)) (hb : W.heap[g]? = some (.cells cur T (0, 0))) (hu : P.underlying t = some (.struct fs)) (hi : (P.info? t).map (·.size) = some cur.size)
    (h : wpList P ops Q rest (a.put o.dst (.agg cur)) W) : wpList P ops Q (o :: rest) a W := by
  refine Kd.event_run hgd (w1 := W) (v := .agg cur) ?_ h
  unfold execOp
  simp [ho, hp, Instr.loadAt, Instr.sureAddr, run_loadVar_row W g T t cur (0, 0) _ hb hu rfl hi]
/-- A part of a variable (a struct in a struct) is read. -/
theorem part_load {W : World} (hgd : o.guard = none) (t T : TypeId) (p : Operand) (ho : o.op = .load t p) (g j : Nat) (cur : Array Value) (seg : List Value) (fs : Array Field)
    (hp : a.eval p = .pointer (some ⟨g, j, none⟩)) (hb : W.heap[g]? = some (.cells cur T (0, 0))) (hs : (cur.toList.drop j).take seg.length = seg) (hu : P.underlying t = some (.struct fs)) (hi : (P.info? t).map (·.size) = some seg.length)
    (h : wpList P ops Q rest (a.put o.dst (.agg seg.toArray)) W) : wpList P ops Q (o :: rest) a W := by
  refine Kd.event_run hgd (w1 := W) (v := .agg seg.toArray) ?_ h
  have hr : W.rangeAt g j seg := by
    intro q v hq
    rw [cell_of_row W g (j + q) cur T (0, 0) hb]
    have hlt : q < seg.length := (List.getElem?_eq_some_iff.1 hq).1
    rw [← hs, List.getElem?_take, if_pos hlt, List.getElem?_drop] at hq
    simpa using hq
  unfold execOp
  simp [ho, hp, run_loadAt_mid W g j t seg _ hr hu rfl hi]
end
end Go.Proofs.Ytngmkpediibhjaa.Box
