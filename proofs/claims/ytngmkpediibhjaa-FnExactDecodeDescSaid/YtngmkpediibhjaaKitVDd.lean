/- Small plain lemmas on numbers, lists and rounds, for the pure statements of this seat. No condition. -/
import Derived.Test.YtngmkpediibhjaaVDdWords
namespace Go.Proofs.Ytngmkpediibhjaa.Kit
open Go.RowKit Go.Proofs.YtngmkpediibhjaaW.PrintWords
set_option linter.unusedVariables false
set_option linter.unusedSimpArgs false

theorem wrap_in (x : Int) (h0 : -9223372036854775808 ≤ x) (h1 : x ≤ 9223372036854775807) : wrap64 x = x := by
  unfold wrap64
  omega
theorem wf64 (x : Int) (h : (Lit.int .i64 x).wf = true) : -9223372036854775808 ≤ x ∧ x ≤ 9223372036854775807 := by
  simp only [Lit.wf, IntKind.min, IntKind.max, IntKind.signed, IntKind.bits, Bool.and_eq_true, decide_eq_true_eq, if_true] at h
  omega
theorem wrap_succ (i : Nat) (h : i ≤ 9223372036854775806) : wrap64 ((i : Int) + 1) = ((i + 1 : Nat) : Int) := by
  unfold wrap64
  omega
theorem rd_nat (l : List Int) (i : Nat) (h : i < l.length) : rd l (i : Int) = l[i] := by
  simp [rd, h]
theorem drop_rd (l : List Int) (i : Nat) (h : i < l.length) : l.drop i = rd l (i : Int) :: l.drop (i + 1) := by
  rw [rd_nat l i h]
  exact List.drop_eq_getElem_cons h
theorem bt_nat (s : ByteArray) (i : Nat) (h : i < s.size) : bt s (i : Int) = ((s[i]'h).toNat : Int) := by
  simp [bt, h]
theorem rdOf_nat {α : Type} (z : α) (l : List α) (i : Nat) (h : i < l.length) : rdOf z l (i : Int) = l[i] := by
  simp [rdOf, h]
theorem getD_nat {α : Type} (z : α) (l : List α) (i : Nat) (h : i < l.length) : l.getD i z = l[i] := by
  simp [h]
/-- Writing at the end of what is done. -/
theorem set_step {α : Type} (f : Nat → α) (z : α) (n i : Nat) (hi : i < n) :
    ((List.range i).map f ++ List.replicate (n - i) z).set i (f i) = (List.range (i + 1)).map f ++ List.replicate (n - (i + 1)) z := by
  have hl : ((List.range i).map f).length = i := by simp
  rw [List.set_append_right _ _ (by omega), hl, Nat.sub_self, List.range_succ, List.map_append]
  have e : n - i = (n - (i + 1)) + 1 := by omega
  rw [e, List.replicate_succ]
  simp
theorem map_get {α β : Type} (l : List α) (g : α → β) (f : Nat → β) (h : ∀ i (hi : i < l.length), f i = g l[i]) : (List.range l.length).map f = l.map g := by
  apply List.ext_getElem
  · simp
  · intro i h1 h2
    simp at h1 h2 ⊢
    exact h i h2
theorem rd_set_eq (x : List Int) (i : Nat) (v : Int) (h : i < x.length) : rd (x.set i v) (i : Int) = v := by simp [rd, h]
theorem rd_set_ne (x : List Int) (i j : Nat) (v : Int) (h : i ≠ j) : rd (x.set i v) (j : Int) = rd x (j : Int) := by simp [rd, List.getElem?_set_ne h]
theorem bne_self (b : Bool) : (b != b) = false := by cases b <;> rfl
theorem beq_bytes (s : ByteArray) : (s.toList = s.toList) = True := by simp
end Go.Proofs.Ytngmkpediibhjaa.Kit
