/- An argument of a law that can be read as data is read as the print's kinds tell it: whole numbers, bools, strings, slices and structs, one in the other. No condition. -/
import Derived.Test.YtngmkpediibhjaaVDdWords
import Derived.ChangeArms
import Derived.ChangeSlices
import Derived.DataReads
import Derived.WideShapes
namespace Go.Proofs.Ytngmkpediibhjaa.Open
open Go.RowKit Go.Proofs.YtngmkpediibhjaaW.PrintWords Go.WideShapes
set_option linter.unusedVariables false
set_option linter.unusedSimpArgs false

/-- Whatever reads as data of type t has cells that the kind d reads, and the value is as F says. -/
def Opens {α : Type} (P : Program) (W : World) (t : TypeId) (d : Kd α) (F : α → Prop) : Prop :=
  ∀ (H : Type) (enc : TypeId × Value → H) (base : Nat) (spare : Nat → Bool) (held : Bool) (fuel : Nat) (cs : List Value) (x : DataW H × List MemPlace),
    DataW.trod enc P W base spare held fuel t cs = some x → ∃ y : α, d.K W y cs ∧ F y

theorem opens_int {P : Program} {W : World} {t : TypeId} {k : IntKind} (ht : P.underlying t = some (.int k)) : Opens P W t (Kd.int k) (fun x => (Lit.int k x).wf = true) := by
  intro H enc base spare held fuel cs x h
  obtain ⟨n, rfl, _, hw⟩ := DataW.trod_int ht h
  exact ⟨n, rfl, hw⟩
theorem opens_bool {P : Program} {W : World} {t : TypeId} (ht : P.underlying t = some .bool) : Opens P W t Kd.bool (fun _ => True) := by
  intro H enc base spare held fuel cs x h
  obtain ⟨n, rfl, _⟩ := DataW.trod_bool ht h
  exact ⟨n, rfl, trivial⟩
theorem opens_string {P : Program} {W : World} {t : TypeId} (ht : P.underlying t = some .string) : Opens P W t Kd.string (fun s => s.size ≤ 9223372036854775807) := by
  intro H enc base spare held fuel cs x h
  obtain ⟨s, rfl, _, hs⟩ := DataW.trod_string ht h
  exact ⟨s, rfl, hs⟩

theorem add_add' (a : Addr) (i j : Nat) : (a.add i).add j = a.add (i + j) := by
  unfold Addr.add
  by_cases hi : i = 0 <;> by_cases hj : j = 0 <;> simp [hi, hj, Nat.add_assoc]

/-- A list out of its elements, each by itself. -/
theorem list_of {α : Type} (Q : Nat → α → Prop) : ∀ n, (∀ i, i < n → ∃ y, Q i y) → ∃ ys : List α, ys.length = n ∧ ∀ i y, ys[i]? = some y → Q i y
  | 0, _ => ⟨[], rfl, fun i y h => by simp at h⟩
  | n + 1, h => by
    obtain ⟨ys, hl, hq⟩ := list_of Q n (fun i hi => h i (by omega))
    obtain ⟨y, hy⟩ := h n (by omega)
    refine ⟨ys ++ [y], by simp [hl], fun i z hz => ?_⟩
    rcases Nat.lt_or_ge i ys.length with hi | hi
    · rw [List.getElem?_append_left hi] at hz
      exact hq i z hz
    · rw [List.getElem?_append_right hi] at hz
      have hi0 : i - ys.length = 0 := by
        rcases Nat.eq_zero_or_pos (i - ys.length) with h0 | h0
        · exact h0
        · rw [List.getElem?_eq_none (by simp; omega)] at hz
          cases hz
      rw [hi0] at hz
      have e : i = n := by omega
      subst e
      have : y = z := by simpa using hz
      subst this
      exact hy

theorem opens_slice {α : Type} {P : Program} {W : World} {t e : TypeId} {d : Kd α} {F : α → Prop} (ht : P.underlying t = some (.slice e)) (hc : P.cellsOf e = d.sz) (h : Opens P W e d F) :
    Opens P W t (Kd.slice e d) (fun xs => xs.length ≤ 9223372036854775807 ∧ ∀ x ∈ xs, F x) := by
  intro H enc base spare held fuel cs x hx
  rcases DataW.trod_slice ht hx with ⟨rfl, _⟩ | ⟨a, len, cap, elems, rest, n, rfl, rfl, _, _, hlc, hcap, hel, hget, _, _⟩
  · exact ⟨[], ⟨none, 0, rfl, Nat.le_refl _, rfl, by simp, fun h0 => absurd h0 (by simp)⟩, by simp, fun x h0 => by simp at h0⟩
  · have key : ∀ i, i < len → ∃ y, ∃ c : List Value, W.cells? base (a.add (i * P.cellsOf e)) (P.cellsOf e) = some c ∧ d.K W y c ∧ F y := by
      intro i hi
      have h1 := hget i hi
      rw [List.getElem?_eq_getElem (by omega)] at h1
      obtain ⟨c, hc1, hc2⟩ := Option.bind_eq_some_iff.1 h1
      obtain ⟨y, hy, hf⟩ := h H enc base spare held n c _ hc2
      exact ⟨y, c, hc1, hy, hf⟩
    obtain ⟨ys, hl, hq⟩ := list_of _ len key
    refine ⟨ys, ⟨some a, cap, by rw [hl], by rw [hl]; exact hlc, rfl, by rw [hl]; exact Nat.le_trans hlc hcap, fun _ => ⟨a, rfl, fun j p hp => ?_⟩⟩, by rw [hl]; exact Nat.le_trans hlc hcap, fun y hy => ?_⟩
    · obtain ⟨c, hc1, hy, _⟩ := hq j p hp
      refine ⟨c, d.K_len hy, hy, fun i u hu => ?_⟩
      obtain ⟨_, hc2, hc3⟩ := World.cells?_some hc1
      have hi : i < c.length := by
        rcases Nat.lt_or_ge i c.length with h0 | h0
        · exact h0
        · rw [List.getElem?_eq_none h0] at hu
          cases hu
      have := hc3 i (by omega)
      rw [hc, add_add'] at this
      rw [this, hu]
    · obtain ⟨i, hi⟩ := List.mem_iff_getElem?.1 hy
      obtain ⟨c, _, _, hf⟩ := hq i y hi
      exact hf

/-- A struct's fields, from place off on. -/
def OpensFs {α : Type} (P : Program) (W : World) (fs : List Field) (off : Nat) (d : Kd α) (F : α → Prop) : Prop :=
  ∀ (H : Type) (enc : TypeId × Value → H) (base : Nat) (spare : Nat → Bool) (held : Bool) (n : Nat) (cs : List Value), cs.length = off + d.sz →
    (∀ f ∈ fs, ∃ x, DataW.trod enc P W base spare held n f.type ((cs.drop f.offset).take (P.cellsOf f.type)) = some x) → ∃ y : α, d.K W y (cs.drop off) ∧ F y
theorem opensFs_one {α : Type} {P : Program} {W : World} {f : Field} {off : Nat} {d : Kd α} {F : α → Prop} (h : Opens P W f.type d F) (ho : f.offset = off) (hc : P.cellsOf f.type = d.sz) : OpensFs P W [f] off d F := by
  intro H enc base spare held n cs hl hf
  obtain ⟨x, hx⟩ := hf f (by simp)
  rw [ho, hc, List.take_of_length_le (by simp; omega)] at hx
  exact h H enc base spare held n _ x hx
theorem opensFs_cons {α β : Type} {P : Program} {W : World} {f : Field} {fs : List Field} {off : Nat} {d : Kd α} {d' : Kd β} {F : α → Prop} {G : β → Prop} (h : Opens P W f.type d F) (ho : f.offset = off) (hc : P.cellsOf f.type = d.sz)
    (hs : OpensFs P W fs (off + d.sz) d' G) : OpensFs P W (f :: fs) off (Kd.pair d d') (fun p => F p.1 ∧ G p.2) := by
  intro H enc base spare held n cs hl hf
  have hl' : cs.length = off + (d.sz + d'.sz) := hl
  obtain ⟨x, hx⟩ := hf f (by simp)
  rw [ho, hc] at hx
  obtain ⟨y, hy, hfy⟩ := h H enc base spare held n _ x hx
  obtain ⟨z, hz, hgz⟩ := hs H enc base spare held n cs (by omega) (fun g hg => hf g (List.mem_cons_of_mem _ hg))
  refine ⟨(y, z), ⟨(cs.drop off).take d.sz, cs.drop (off + d.sz), ?_, hy, hz⟩, hfy, hgz⟩
  rw [← List.drop_drop, List.take_append_drop]
theorem opens_struct {α β : Type} {P : Program} {W : World} {t : TypeId} {fs : Array Field} {d : Kd α} {F : α → Prop} (ht : P.underlying t = some (.struct fs)) (hc : P.cellsOf t = d.sz) (h : OpensFs P W fs.toList 0 d F)
    (f : β → α) (g : α → β) (hfg : ∀ a, f (g a) = a) : Opens P W t (Kd.iso d f) (fun x => F (f x)) := by
  intro H enc base spare held fuel cs x hx
  obtain ⟨xs, n, rfl, _, hl, hxl, hget⟩ := DataW.trod_struct ht hx
  obtain ⟨y, hy, hf⟩ := h H enc base spare held n cs (by rw [hl, hc, Nat.zero_add]) (fun f0 hf0 => by
    obtain ⟨i, hi⟩ := List.mem_iff_getElem?.1 hf0
    have hi' : fs[i]? = some f0 := by simpa using hi
    have hlt : i < fs.size := by
      rcases Nat.lt_or_ge i fs.size with h0 | h0
      · exact h0
      · rw [Array.getElem?_eq_none h0] at hi'
        cases hi'
    have h1 := hget i f0 hi'
    rw [List.getElem?_eq_getElem (by omega)] at h1
    exact ⟨_, h1⟩)
  exact ⟨g y, by show d.K W (f (g y)) cs; rw [hfg]; simpa using hy, by show F (f (g y)); rw [hfg]; exact hf⟩

/-- An argument that is a struct. -/
theorem arg_struct {α : Type} {H : Type} {enc : TypeId × Value → H} {P : Program} {W : World} {r : Reach} {base base' : Nat} {spare : Nat → Bool} {held : Bool} {t : TypeId} {fs : Array Field} {d : Kd α} {F : α → Prop} {v : Value} {D : DataW H} {ps : List MemPlace}
    (ho : Opens P W t d F) (ht : P.underlying t = some (.struct fs)) (hv : Value.okWide P W r base' t v) (h : DataW.Trod enc P W base spare held t v D ps) : ∃ y cs, v = .agg cs ∧ d.K W y cs.toList ∧ F y := by
  obtain ⟨cs, rfl, _⟩ := okWide_struct ht hv
  obtain ⟨fuel, hf⟩ := h
  obtain ⟨y, hy, hF⟩ := ho _ enc base spare held fuel _ _ hf
  exact ⟨y, cs, rfl, hy, hF⟩
/-- An argument that is a slice. -/
theorem arg_slice {α : Type} {H : Type} {enc : TypeId × Value → H} {P : Program} {W : World} {r : Reach} {base base' : Nat} {spare : Nat → Bool} {held : Bool} {t e : TypeId} {d : Kd α} {F : α → Prop} {v : Value} {D : DataW H} {ps : List MemPlace}
    (ht : P.underlying t = some (.slice e)) (hc : P.cellsOf e = d.sz) (ho : Opens P W e d F) (hv : Value.okWide P W r base' t v) (h : DataW.Trod enc P W base spare held t v D ps) :
    ∃ A c xs, v = .slice A xs.length c ∧ xs.length ≤ c ∧ d.C W A xs.length xs ∧ xs.length ≤ 9223372036854775807 ∧ ∀ x ∈ xs, F x := by
  obtain ⟨a, len, cap, rfl⟩ := okWide_slice ht hv
  obtain ⟨fuel, hf⟩ := h
  obtain ⟨xs, ⟨A, c, hcs, hl, hC⟩, h1, h2⟩ := opens_slice ht hc ho _ enc base spare held fuel _ _ hf
  have hcs' : Value.slice a len cap = Value.slice A xs.length c := by simpa [Value.cells] using hcs
  exact ⟨A, c, xs, hcs', hl, hC, h1, h2⟩
end Go.Proofs.Ytngmkpediibhjaa.Open
