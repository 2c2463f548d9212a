/- The pure statement of FnExactListOk: both sides agree on every list of nodes. No condition. -/
import Derived.Test.YtgfifmbbjoocgaaPFnExactListOkx11
import Derived.Test.YtgfifmbbjoocgaaKitVLi
namespace Go.Proofs.Ytgfifmbbjoocgaa.Pure
open Go.RowKit Go.Proofs.Ytgfifmbbjoocgaa.PFnExactListOk Go.Proofs.Ytgfifmbbjoocgaa.Kit Go.Proofs.YtgfifmbbjoocgaaW.PrintWords Go.Proofs.YtgfifmbbjoocgaaW.PrintLast Go.Proofs.YtgfifmbbjoocgaaW.PrintMore
set_option linter.unusedVariables false
set_option linter.unusedSimpArgs false
set_option linter.unusedSectionVars false

def cvNode (x : S129) : S132 := ⟨x.f0, x.f1, x.f2, x.f3, x.f4, x.f5, x.f6, x.f7, (⟨x.f8.f0, x.f8.f1, x.f8.f2, x.f8.f3, x.f8.f4⟩ : S77), x.f9, x.f10⟩
theorem rdNode_a (l : List S129) (i : Nat) (h : i < l.length) : rd_T129 l (i : Int) = l[i] := by simp [rd_T129, h]
theorem toNodeS_l0 (l : List S129) (hl : l.length ≤ 1048576) : ∀ d k i : Nat, l.length - i = d → i ≤ l.length → d < k →
    laws_toNodeS.l0 k l ((List.range i).map (fun j : Nat => cvNode (rd_T129 l (j : Int))) ++ List.replicate (l.length - i) z132) i = some (l.map cvNode) := by
  intro d
  induction d with
  | zero =>
    intro k i hd hi hk
    obtain ⟨k, rfl⟩ : ∃ m, k = m + 1 := ⟨k - 1, by omega⟩
    obtain rfl : i = l.length := by omega
    rw [laws_toNodeS.l0, if_neg (by omega), Nat.sub_self, map_get l cvNode (fun j : Nat => cvNode (rd_T129 l (j : Int))) (fun j hj => by rw [rdNode_a l j hj])]
    simp
  | succ d ih =>
    intro k i hd hi hk
    obtain ⟨k, rfl⟩ : ∃ m, k = m + 1 := ⟨k - 1, by omega⟩
    rw [laws_toNodeS.l0, if_pos (by omega), if_pos (by omega)]
    simp only [laws_toNode.f, laws_toGlue.f, Option.bind_some]
    rw [if_pos (by simp; omega), wrap_succ i (by omega), Int.toNat_natCast]
    have := set_step (fun j : Nat => cvNode (rd_T129 l (j : Int))) z132 l.length i (by omega)
    rw [show (⟨(rd_T129 l (i : Int)).f0, (rd_T129 l (i : Int)).f1, (rd_T129 l (i : Int)).f2, (rd_T129 l (i : Int)).f3, (rd_T129 l (i : Int)).f4, (rd_T129 l (i : Int)).f5, (rd_T129 l (i : Int)).f6, (rd_T129 l (i : Int)).f7, (⟨(rd_T129 l (i : Int)).f8.f0, (rd_T129 l (i : Int)).f8.f1, (rd_T129 l (i : Int)).f8.f2, (rd_T129 l (i : Int)).f8.f3, (rd_T129 l (i : Int)).f8.f4⟩ : S77), (rd_T129 l (i : Int)).f9, (rd_T129 l (i : Int)).f10⟩ : S132) = cvNode (rd_T129 l (i : Int)) from rfl, this]
    exact ih k (i + 1) (by omega) (by omega) (by omega)
theorem toNodeS_f (l : List S129) (hl : l.length ≤ 1048576) (k : Nat) (hk : l.length < k) : laws_toNodeS.f k l = some (l.map cvNode) := by
  unfold laws_toNodeS.f
  rw [if_pos (by omega), if_pos (by simp; omega), Int.toNat_natCast]
  exact toNodeS_l0 l hl l.length k 0 (by omega) (by omega) hk
theorem rdNode_b (l : List S132) (i : Nat) (h : i < l.length) : rd_T132 l (i : Int) = l[i] := by simp [rd_T132, h]
theorem szNode_f (x : S129) (left : Int) (h0 : 0 ≤ left) (h1 : left ≤ 1048576) (hs : x.f9.size ≤ 9223372036854775807) : ∃ r, laws_szNode.f x.f0 x.f1 x.f2 x.f3 x.f4 x.f5 x.f6 x.f7 x.f8.f0 x.f8.f1 x.f8.f2 x.f8.f3 x.f8.f4 x.f9 x.f10 left = some r ∧ (r < 0 ∨ (0 ≤ r ∧ r ≤ left ∧ (x.f9.size : Int) ≤ left)) := by
  unfold laws_szNode.f
  rw [wrap_in (left - (x.f9.size : Int)) (by omega) (by omega)]
  split
  · exact ⟨-1, rfl, .inl (by omega)⟩
  · exact ⟨_, rfl, .inr (by omega)⟩
theorem szNodeS_l0 (l : List S129) (hl : l.length ≤ 1048576) (hm : ∀ x ∈ l, x.f9.size ≤ 9223372036854775807) : ∀ d i : Nat, ∀ left : Int, l.length - i = d → i ≤ l.length → 0 ≤ left → left ≤ 1048576 →
    ∃ r, (∀ k, d < k → laws_szNodeS.l0 k l left i = some r) ∧ (r < 0 ∨ (0 ≤ r ∧ r ≤ left ∧ ∀ j (h : j < l.length), i ≤ j → l[j].f9.size ≤ 1048576)) := by
  intro d
  induction d with
  | zero =>
    intro i left hd hi h0 h1
    refine ⟨left, fun k hk => ?_, .inr ⟨h0, by omega, fun j h hij => by omega⟩⟩
    obtain ⟨k, rfl⟩ : ∃ m, k = m + 1 := ⟨k - 1, by omega⟩
    rw [laws_szNodeS.l0, if_neg (by omega)]
  | succ d ih =>
    intro i left hd hi h0 h1
    have hlt : i < l.length := by omega
    obtain ⟨r, hr, hc⟩ := szNode_f l[i] left h0 h1 (hm _ (List.getElem_mem hlt))
    rcases hc with hc | ⟨c0, c1, c2⟩
    · refine ⟨-1, fun k hk => ?_, .inl (by omega)⟩
      obtain ⟨k, rfl⟩ : ∃ m, k = m + 1 := ⟨k - 1, by omega⟩
      rw [laws_szNodeS.l0, if_pos (by omega), if_pos (by omega), rdNode_a l i hlt, hr]
      simp only [Option.bind_some]
      rw [if_pos hc]
    · obtain ⟨r2, h2, h3⟩ := ih (i + 1) r (by omega) (by omega) c0 (by omega)
      refine ⟨r2, fun k hk => ?_, ?_⟩
      · obtain ⟨k, rfl⟩ : ∃ m, k = m + 1 := ⟨k - 1, by omega⟩
        rw [laws_szNodeS.l0, if_pos (by omega), if_pos (by omega), rdNode_a l i hlt, hr]
        simp only [Option.bind_some]
        rw [if_neg (by omega), wrap_succ i (by omega)]
        exact h2 k (by omega)
      · rcases h3 with h3 | ⟨h3, h5, h4⟩
        · exact .inl h3
        · refine .inr ⟨h3, by omega, fun j hj hij => ?_⟩
          rcases Nat.lt_or_ge i j with h | h
          · exact h4 j hj (by omega)
          · obtain rfl : i = j := by omega
            omega
theorem szNodeS_f (l : List S129) (left : Int) (h0 : 0 ≤ left) (h1 : left ≤ 1048576) (hl : l.length ≤ 9223372036854775807) (hm : ∀ x ∈ l, x.f9.size ≤ 9223372036854775807) :
    ∃ r, (∀ k, 1048577 < k → laws_szNodeS.f k l left = some r) ∧ (r < 0 ∨ (0 ≤ r ∧ r ≤ left ∧ l.length ≤ 1048576 ∧ ∀ x ∈ l, x.f9.size ≤ 1048576)) := by
  unfold laws_szNodeS.f
  rw [wrap_in (left - (l.length : Int)) (by omega) (by omega)]
  split
  · exact ⟨-1, fun _ _ => rfl, .inl (by omega)⟩
  · obtain ⟨r, hr, hc⟩ := szNodeS_l0 l (by omega) hm l.length 0 (left - (l.length : Int)) (by omega) (by omega) (by omega) (by omega)
    refine ⟨r, fun k hk => hr k (by omega), ?_⟩
    rcases hc with hc | ⟨hc, hd, hj⟩
    · exact .inl hc
    · refine .inr ⟨hc, by omega, by omega, fun x hx => ?_⟩
      obtain ⟨j, hjl, rfl⟩ := List.mem_iff_getElem.1 hx
      exact hj j hjl (by omega)
theorem eqNodeS_l0 (l : List S132) (hl : l.length ≤ 9223372036854775806) : ∀ d k i : Nat, l.length - i = d → i ≤ l.length → d < k → laws_eqNodeS.l0 k l l i = some true := by
  intro d
  induction d with
  | zero =>
    intro k i hd hi hk
    obtain ⟨k, rfl⟩ : ∃ m, k = m + 1 := ⟨k - 1, by omega⟩
    rw [laws_eqNodeS.l0, if_neg (by omega)]
  | succ d ih =>
    intro k i hd hi hk
    obtain ⟨k, rfl⟩ : ∃ m, k = m + 1 := ⟨k - 1, by omega⟩
    rw [laws_eqNodeS.l0, if_pos (by omega), if_pos (by omega), if_pos (by omega)]
    simp only [laws_eqNode.f, laws_eqGlue.f, if_true, Option.bind_some]
    rw [wrap_succ i (by omega)]
    exact ih k (i + 1) (by omega) (by omega) (by omega)
theorem eqNodeS_f (l : List S132) (hl : l.length ≤ 9223372036854775806) (k : Nat) (hk : l.length < k) : laws_eqNodeS.f k l l = some true := by
  unfold laws_eqNodeS.f
  rw [if_pos rfl]
  exact eqNodeS_l0 l hl l.length k 0 (by omega) (by omega) hk
def fitsB (a : Int) : Bool := decide (-1073741823 ≤ a ∧ a ≤ 1073741823)
def ordB (a : Int) : Bool := decide (0 ≤ a ∧ a ≤ 3)
def glueB (a b c d e : Int) : Bool := fitsB a && fitsB b && fitsB d && ordB c && ordB e
theorem fits_s (a : Int) : spec_l1Fits.f a = some (fitsB a) := by
  unfold spec_l1Fits.f fitsB
  split <;> simp <;> omega
theorem ord_s (a : Int) : spec_l1Order.f a = some (ordB a) := by
  unfold spec_l1Order.f ordB
  split <;> simp <;> omega
theorem fits_i (a : Int) : impl_fits.f a = some (fitsB a) := fits_s a
theorem ord_i (a : Int) : impl_GlueOk_1.f a = some (ordB a) := ord_s a
theorem glue_s (a b c d e : Int) : spec_GlueOk.f a b c d e = some (glueB a b c d e) := by
  simp only [spec_GlueOk.f, fits_s, ord_s, Option.bind_some, glueB]
  cases fitsB a <;> cases fitsB b <;> cases fitsB d <;> cases ordB c <;> cases ordB e <;> simp
theorem glue_i (a b c d e : Int) : impl_GlueOk.f a b c d e = some (glueB a b c d e) := by
  simp only [impl_GlueOk.f, fits_i, ord_i, Option.bind_some, glueB]
  cases fitsB a <;> cases fitsB b <;> cases fitsB d <;> cases ordB c <;> cases ordB e <;> simp
namespace Nest
section
variable {α : Type} (ok deep : α → Bool) (kids : α → Int)
def nest : Nat → List α → Option Nat
  | 0, _ => none
  | _ + 1, [] => some 0
  | k + 1, n :: r => if ok n = true ∧ 0 ≤ kids n ∧ kids n ≤ (r.length : Int) then
      (if deep n = true then (nest k (r.take (kids n).toNat)).bind fun a => (nest k (r.drop (kids n).toNat)).bind fun b => some (max (a + 1) b) else nest k r)
    else none
theorem nest_more : ∀ k (l : List α), l.length < k → nest ok deep kids k l = nest ok deep kids (k + 1) l
  | 0, l, h => absurd h (by omega)
  | k + 1, [], h => by simp [nest]
  | k + 1, n :: r, h => by
    simp only [List.length_cons] at h
    have i1 := nest_more k r (by omega)
    have i2 := nest_more k (r.take (kids n).toNat) (by rw [List.length_take]; omega)
    have i3 := nest_more k (r.drop (kids n).toNat) (by rw [List.length_drop]; omega)
    rw [nest, nest]
    rw [i1, i2, i3]
theorem nest_at : ∀ k (l : List α), l.length < k → nest ok deep kids k l = nest ok deep kids (l.length + 1) l := by
  intro k l h
  obtain ⟨d, rfl⟩ : ∃ d, k = l.length + 1 + d := ⟨k - (l.length + 1), by omega⟩
  clear h
  induction d with
  | zero => rfl
  | succ d ih => rw [← ih, show l.length + 1 + (d + 1) = (l.length + 1 + d) + 1 from rfl]; exact (nest_more ok deep kids _ l (by omega)).symm
def N (l : List α) : Option Nat := nest ok deep kids (l.length + 1) l
theorem N_nil : N ok deep kids ([] : List α) = some 0 := by simp [N, nest]
theorem N_cons (n : α) (r : List α) : N ok deep kids (n :: r) = if ok n = true ∧ 0 ≤ kids n ∧ kids n ≤ (r.length : Int) then
      (if deep n = true then (N ok deep kids (r.take (kids n).toNat)).bind fun a => (N ok deep kids (r.drop (kids n).toNat)).bind fun b => some (max (a + 1) b) else N ok deep kids r)
    else none := by
  unfold N
  rw [List.length_cons, nest]
  rw [nest_at ok deep kids (r.length + 1) (r.take (kids n).toNat) (by rw [List.length_take]; omega), nest_at ok deep kids (r.length + 1) (r.drop (kids n).toNat) (by rw [List.length_drop]; omega)]
/-- what a list at that depth counts -/
def cnt (j d : Nat) : Nat := if d = 0 then 0 else j + d
/-- the rest of a walk that stands at i inside lists that end at the places of es (the innermost first) -/
def V (ns : List α) : Nat → List Nat → Option Nat
  | i, [] => (N ok deep kids (ns.drop i)).map (cnt 0)
  | i, e :: es => (N ok deep kids ((ns.take e).drop i)).bind fun d => (V ns e es).bind fun x => some (max (cnt (es.length + 1) d) x)
/-- lists that end where we stand are left -/
theorem V_pop (ns : List α) (i : Nat) (es : List Nat) : V ok deep kids ns i (i :: es) = V ok deep kids ns i es := by
  have h : (ns.take i).drop i = [] := by simp
  rw [V, h, N_nil]
  simp only [Option.bind_some]
  cases V ok deep kids ns i es with
  | none => rfl
  | some x => simp [cnt]
def lim (ns : List α) : List Nat → Nat
  | [] => ns.length
  | e :: _ => e
def sorted (ns : List α) : Nat → List Nat → Prop
  | i, [] => i ≤ ns.length
  | i, e :: es => i ≤ e ∧ sorted ns e es
theorem sorted_lim {ns : List α} : ∀ {i es}, sorted ns i es → i ≤ lim ns es ∧ lim ns es ≤ ns.length
  | _, [], h => ⟨h, Nat.le_refl _⟩
  | _, _ :: _, h => ⟨h.1, Nat.le_trans (sorted_lim h.2).1 (sorted_lim h.2).2⟩
theorem sorted_up {ns : List α} {i j : Nat} : ∀ {es}, sorted ns i es → j ≤ lim ns es → sorted ns j es
  | [], _, h => h
  | _ :: _, h, hj => ⟨hj, h.2⟩
theorem V_bad {ns : List α} {i : Nat} {es : List Nat} (hs : sorted ns i es) (hi : i < lim ns es) (n : α) (hn : ns[i]? = some n)
    (h : ¬(ok n = true ∧ 0 ≤ kids n ∧ kids n ≤ ((lim ns es - i - 1 : Nat) : Int))) : V ok deep kids ns i es = none := by
  have hlt : i < ns.length := by have := (sorted_lim hs).2; omega
  have hne : ns[i] = n := by rw [List.getElem?_eq_getElem hlt] at hn; exact Option.some.inj hn
  cases es with
  | nil =>
    have e : ns.drop i = n :: ns.drop (i + 1) := by rw [← hne]; exact List.drop_eq_getElem_cons hlt
    rw [V, e, N_cons, if_neg]
    · rfl
    · rw [List.length_drop]; simpa [lim, Nat.sub_sub] using h
  | cons e es =>
    have hl : i < (ns.take e).length := by rw [List.length_take]; have := (sorted_lim hs).2; simp only [lim] at hi this; omega
    have e' : (ns.take e).drop i = n :: (ns.take e).drop (i + 1) := by
      rw [List.drop_eq_getElem_cons hl]; congr 1; rw [List.getElem_take]; exact hne
    rw [V, e', N_cons, if_neg]
    · rfl
    · rw [List.length_drop, List.length_take]
      have h1 := (sorted_lim hs).2
      simp only [lim] at hi h h1 ⊢
      rw [Nat.min_eq_left h1]
      simpa [Nat.sub_sub] using h
theorem V_step {ns : List α} {i : Nat} {es : List Nat} (hs : sorted ns i es) (hi : i < lim ns es) (n : α) (hn : ns[i]? = some n)
    (h : ok n = true ∧ 0 ≤ kids n ∧ kids n ≤ ((lim ns es - i - 1 : Nat) : Int)) :
    (deep n = false → V ok deep kids ns i es = V ok deep kids ns (i + 1) es) ∧
    (deep n = true → ∀ x, V ok deep kids ns i es = some x ↔ ∃ y, V ok deep kids ns (i + 1) ((i + 1 + (kids n).toNat) :: es) = some y ∧ x = max (es.length + 1) y) ∧
    (deep n = true → (V ok deep kids ns i es = none ↔ V ok deep kids ns (i + 1) ((i + 1 + (kids n).toNat) :: es) = none)) := by
  have hlt : i < ns.length := by have := (sorted_lim hs).2; omega
  have hne : ns[i] = n := by rw [List.getElem?_eq_getElem hlt] at hn; exact Option.some.inj hn
  have h1 := (sorted_lim hs).2
  -- the list in which we stand
  obtain ⟨L, hL, hLl⟩ : ∃ L, L = ns.take (lim ns es) ∧ L.length = lim ns es := ⟨_, rfl, by rw [List.length_take]; omega⟩
  have hLi : L.drop i = n :: L.drop (i + 1) := by
    have hl : i < L.length := by omega
    rw [List.drop_eq_getElem_cons hl]; congr 1; subst hL; rw [List.getElem_take]; exact hne
  have hN : N ok deep kids (L.drop i) = if deep n = true then (N ok deep kids ((L.drop (i + 1)).take (kids n).toNat)).bind fun a => (N ok deep kids ((L.drop (i + 1)).drop (kids n).toNat)).bind fun b => some (max (a + 1) b) else N ok deep kids (L.drop (i + 1)) := by
    rw [hLi, N_cons, if_pos]
    rw [List.length_drop, hLl]
    refine ⟨h.1, h.2.1, ?_⟩
    have := h.2.2
    rw [Nat.sub_sub] at this
    exact this
  have hV : ∀ j, V ok deep kids ns j es = (N ok deep kids (L.drop j)).bind fun d => (match es with | [] => some 0 | e :: es' => V ok deep kids ns e es').bind fun x => some (max (cnt es.length d) x) := by
    intro j
    cases es with
    | nil =>
      subst hL
      simp only [lim, List.take_length, V, Option.bind_some, List.length_nil]
      cases N ok deep kids (ns.drop j) with
      | none => rfl
      | some d => simp
    | cons e es' => subst hL; rfl
  generalize (match es with | [] => some 0 | e :: es' => V ok deep kids ns e es') = q at hV
  have e1 : (ns.take (i + 1 + (kids n).toNat)).drop (i + 1) = (L.drop (i + 1)).take (kids n).toNat := by
    subst hL
    rw [List.drop_take, List.drop_take, List.take_take]
    congr 1
    have := h.2.2
    omega
  have e2 : L.drop (i + 1 + (kids n).toNat) = (L.drop (i + 1)).drop (kids n).toNat := by rw [List.drop_drop]
  refine ⟨fun hd => ?_, fun hd => ?_, fun hd => ?_⟩
  · rw [hV i, hV (i + 1), hN, if_neg (by simp [hd])]
  · rw [V, hV i, hV (i + 1 + (kids n).toNat), hN, if_pos hd, e1, e2]
    generalize N ok deep kids ((L.drop (i + 1)).take (kids n).toNat) = A
    generalize N ok deep kids ((L.drop (i + 1)).drop (kids n).toNat) = B
    intro x
    cases A with
    | none => simp
    | some a =>
      cases B with
      | none => simp
      | some b =>
        cases q with
        | none => simp
        | some x0 =>
          simp only [Option.bind_some, Option.some.injEq, exists_eq_left', cnt]
          constructor <;> intro hx <;> subst hx <;> (repeat' split) <;> omega
  · rw [V, hV i, hV (i + 1 + (kids n).toNat), hN, if_pos hd, e1, e2]
    generalize N ok deep kids ((L.drop (i + 1)).take (kids n).toNat) = A
    generalize N ok deep kids ((L.drop (i + 1)).drop (kids n).toNat) = B
    cases A <;> cases B <;> cases q <;> simp
end
end Nest

/-! ### one node -/
def tailB (x : S132) : Bool := fitsB x.f1 && fitsB x.f2 && fitsB x.f3 && fitsB x.f4 && glueB x.f8.f0 x.f8.f1 x.f8.f2 x.f8.f3 x.f8.f4 && decide (¬ (x.f0 = 4 ∧ (x.f7 < -10000 ∨ x.f7 > 10000)) ∧ ¬ (x.f0 = 11 ∧ (x.f7 < 0 ∨ x.f7 > 15)) ∧ 0 ≤ x.f5 ∧ x.f5 ≤ 15 ∧ 0 ≤ x.f6 ∧ x.f6 ≤ 255 ∧ (x.f9.size : Int) ≤ 1000)
theorem tail_s1 (k : Nat) (x : S132) : spec_l8NodeOk.j1 (k + 1) false x.f0 x.f1 x.f2 x.f3 x.f4 x.f5 x.f6 x.f7 x.f8.f0 x.f8.f1 x.f8.f2 x.f8.f3 x.f8.f4 x.f9 x.f10 = some (decide (¬ (x.f0 = 4 ∧ (x.f7 < -10000 ∨ x.f7 > 10000)) ∧ ¬ (x.f0 = 11 ∧ (x.f7 < 0 ∨ x.f7 > 15)) ∧ 0 ≤ x.f5 ∧ x.f5 ≤ 15 ∧ 0 ≤ x.f6 ∧ x.f6 ≤ 255 ∧ (x.f9.size : Int) ≤ 1000)) := by
  rw [spec_l8NodeOk.j1, if_neg (by decide)]
  have hf : spec_l8FontOk.f x.f0 x.f1 x.f2 x.f3 x.f4 x.f5 x.f6 x.f7 x.f8.f0 x.f8.f1 x.f8.f2 x.f8.f3 x.f8.f4 x.f9 x.f10 = some (decide (0 ≤ x.f5 ∧ x.f5 ≤ 15 ∧ 0 ≤ x.f6 ∧ x.f6 ≤ 255)) := by
    unfold spec_l8FontOk.f
    by_cases h1 : x.f5 ≥ 0
    · rw [if_pos h1]
      by_cases h2 : x.f5 ≤ 15
      · rw [if_pos h2]
        by_cases h3 : x.f6 ≥ 0
        · rw [if_pos h3]
          exact congrArg some (decide_eq_decide.mpr ⟨fun h => ⟨h1, h2, h3, h⟩, fun h => h.2.2.2⟩)
        · rw [if_neg h3]
          exact (congrArg some (decide_eq_false (by omega))).symm
      · rw [if_neg h2]
        exact (congrArg some (decide_eq_false (by omega))).symm
    · rw [if_neg h1]
      exact (congrArg some (decide_eq_false (by omega))).symm
  simp only [hf, Option.bind_some]
  repeat' split
  all_goals simp_all
  all_goals omega
theorem tail_s (k : Nat) (x : S132) (b : Bool) : spec_l8NodeOk.j0 (k + 2) b x.f0 x.f1 x.f2 x.f3 x.f4 x.f5 x.f6 x.f7 x.f8.f0 x.f8.f1 x.f8.f2 x.f8.f3 x.f8.f4 x.f9 x.f10 = some (!b && tailB x) := by
  cases b with
  | true => rw [spec_l8NodeOk.j0, if_pos rfl]; rfl
  | false =>
    rw [spec_l8NodeOk.j0, if_neg (by decide)]
    simp only [fits_s, glue_s, Option.bind_some, tailB]
    have ht : spec_l8NodeOk.j1 (k + 1) true x.f0 x.f1 x.f2 x.f3 x.f4 x.f5 x.f6 x.f7 x.f8.f0 x.f8.f1 x.f8.f2 x.f8.f3 x.f8.f4 x.f9 x.f10 = some false := by rw [spec_l8NodeOk.j1, if_pos rfl]
    cases fitsB x.f1 <;> cases fitsB x.f2 <;> cases fitsB x.f3 <;> cases fitsB x.f4 <;> cases glueB x.f8.f0 x.f8.f1 x.f8.f2 x.f8.f3 x.f8.f4 <;> simp only [if_true, Bool.false_eq_true, if_false, ht, Bool.not_false, Bool.not_true, tail_s1, Bool.true_and, Bool.false_and, Bool.and_false]
theorem toList_loop (u : ByteArray) : ∀ d i (r : List UInt8), u.size - i = d → (ByteArray.toList.loop u i r).length = r.length + d := by
  intro d
  induction d with
  | zero =>
    intro i r h
    rw [ByteArray.toList.loop.eq_def, if_neg (by omega)]
    simp
  | succ d ih =>
    intro i r h
    rw [ByteArray.toList.loop.eq_def, if_pos (by omega), ih (i + 1) _ (by omega)]
    simp; omega
theorem toList_nil (u : ByteArray) : u.toList = [] ↔ u.size = 0 := by
  have h : u.toList.length = u.size := by
    unfold ByteArray.toList
    rw [toList_loop u u.size 0 [] (by omega)]
    simp
  constructor
  · intro e; rw [e] at h; exact h.symm
  · intro e; exact List.eq_nil_of_length_eq_zero (by omega)

def eqB (u x : S132) : Bool := (u.f0 == x.f0 && (u.f1 == x.f1 && (u.f2 == x.f2 && (u.f3 == x.f3 && (u.f4 == x.f4 && (u.f5 == x.f5 && (u.f6 == x.f6 && (u.f7 == x.f7 && ((u.f8.f0 == x.f8.f0 && (u.f8.f1 == x.f8.f1 && (u.f8.f2 == x.f8.f2 && (u.f8.f3 == x.f8.f3 && (u.f8.f4 == x.f8.f4))))) && (u.f9.toList == x.f9.toList && (u.f10 == x.f10)))))))))))
def neB (x u : S132) : Bool := (!(x.f0 == u.f0) || (!(x.f1 == u.f1) || (!(x.f2 == u.f2) || (!(x.f3 == u.f3) || (!(x.f4 == u.f4) || (!(x.f5 == u.f5) || (!(x.f6 == u.f6) || (!(x.f7 == u.f7) || ((!(x.f8.f0 == u.f8.f0) || (!(x.f8.f1 == u.f8.f1) || (!(x.f8.f2 == u.f8.f2) || (!(x.f8.f3 == u.f8.f3) || (!(x.f8.f4 == u.f8.f4)))))) || (!(x.f9.toList == u.f9.toList) || (!(x.f10 == u.f10)))))))))))) 
theorem ne_eq (x u : S132) : neB x u = !eqB u x := by
  unfold neB eqB
  simp only [Bool.not_and]
  rw [show (x.f0 == u.f0) = (u.f0 == x.f0) from BEq.comm, show (x.f1 == u.f1) = (u.f1 == x.f1) from BEq.comm, show (x.f2 == u.f2) = (u.f2 == x.f2) from BEq.comm, show (x.f3 == u.f3) = (u.f3 == x.f3) from BEq.comm, show (x.f4 == u.f4) = (u.f4 == x.f4) from BEq.comm, show (x.f5 == u.f5) = (u.f5 == x.f5) from BEq.comm, show (x.f6 == u.f6) = (u.f6 == x.f6) from BEq.comm, show (x.f7 == u.f7) = (u.f7 == x.f7) from BEq.comm, show (x.f8.f0 == u.f8.f0) = (u.f8.f0 == x.f8.f0) from BEq.comm, show (x.f8.f1 == u.f8.f1) = (u.f8.f1 == x.f8.f1) from BEq.comm, show (x.f8.f2 == u.f8.f2) = (u.f8.f2 == x.f8.f2) from BEq.comm, show (x.f8.f3 == u.f8.f3) = (u.f8.f3 == x.f8.f3) from BEq.comm, show (x.f8.f4 == u.f8.f4) = (u.f8.f4 == x.f8.f4) from BEq.comm, show (x.f9.toList == u.f9.toList) = (u.f9.toList == x.f9.toList) from BEq.comm, show (x.f10 == u.f10) = (u.f10 == x.f10) from BEq.comm]
def fourB (x : S132) : Bool := fitsB x.f1 && fitsB x.f2 && fitsB x.f3 && fitsB x.f4 && decide (0 ≤ x.f10)
theorem tail_i (k : Nat) (x u : S132) (ok : Bool) : impl_nodeOk.j3 (k + 1) ok x.f0 x.f1 x.f2 x.f3 x.f4 x.f5 x.f6 x.f7 x.f8.f0 x.f8.f1 x.f8.f2 x.f8.f3 x.f8.f4 x.f9 x.f10 u.f0 u.f1 u.f2 u.f3 u.f4 u.f5 u.f6 u.f7 u.f8.f0 u.f8.f1 u.f8.f2 u.f8.f3 u.f8.f4 u.f9 u.f10 = some (ok && eqB u x && fourB x) := by
  rw [impl_nodeOk.j3]
  cases ok with
  | false => rw [if_neg (by decide)]; rfl
  | true =>
    rw [if_pos rfl]
    simp only [fits_i, Option.bind_some, ge_iff_le]
    show (if eqB u x = true then _ else _) = _
    unfold fourB
    cases eqB u x <;> cases fitsB x.f1 <;> cases fitsB x.f2 <;> cases fitsB x.f3 <;> cases fitsB x.f4 <;> simp
theorem text_nil {s : ByteArray} (h : ((⟨#[]⟩ : ByteArray).toList == s.toList) = true) : s.size = 0 := by
  have h1 : (⟨#[]⟩ : ByteArray).toList = s.toList := by simpa using h
  exact (toList_nil s).1 (h1.symm.trans ((toList_nil _).2 rfl))

theorem used_1 (k : Nat) (x : S132) (h : x.f0 = 1) : spec_l8Used.f (k + 3) x.f0 x.f1 x.f2 x.f3 x.f4 x.f5 x.f6 x.f7 x.f8.f0 x.f8.f1 x.f8.f2 x.f8.f3 x.f8.f4 x.f9 x.f10 = some ((⟨x.f0, x.f1, x.f2, x.f3, 0, x.f5, x.f6, 0, (⟨0, 0, 0, 0, 0⟩ : S77), (⟨#[]⟩ : ByteArray), 0⟩ : S132).f0, (⟨x.f0, x.f1, x.f2, x.f3, 0, x.f5, x.f6, 0, (⟨0, 0, 0, 0, 0⟩ : S77), (⟨#[]⟩ : ByteArray), 0⟩ : S132).f1, (⟨x.f0, x.f1, x.f2, x.f3, 0, x.f5, x.f6, 0, (⟨0, 0, 0, 0, 0⟩ : S77), (⟨#[]⟩ : ByteArray), 0⟩ : S132).f2, (⟨x.f0, x.f1, x.f2, x.f3, 0, x.f5, x.f6, 0, (⟨0, 0, 0, 0, 0⟩ : S77), (⟨#[]⟩ : ByteArray), 0⟩ : S132).f3, (⟨x.f0, x.f1, x.f2, x.f3, 0, x.f5, x.f6, 0, (⟨0, 0, 0, 0, 0⟩ : S77), (⟨#[]⟩ : ByteArray), 0⟩ : S132).f4, (⟨x.f0, x.f1, x.f2, x.f3, 0, x.f5, x.f6, 0, (⟨0, 0, 0, 0, 0⟩ : S77), (⟨#[]⟩ : ByteArray), 0⟩ : S132).f5, (⟨x.f0, x.f1, x.f2, x.f3, 0, x.f5, x.f6, 0, (⟨0, 0, 0, 0, 0⟩ : S77), (⟨#[]⟩ : ByteArray), 0⟩ : S132).f6, (⟨x.f0, x.f1, x.f2, x.f3, 0, x.f5, x.f6, 0, (⟨0, 0, 0, 0, 0⟩ : S77), (⟨#[]⟩ : ByteArray), 0⟩ : S132).f7, (⟨x.f0, x.f1, x.f2, x.f3, 0, x.f5, x.f6, 0, (⟨0, 0, 0, 0, 0⟩ : S77), (⟨#[]⟩ : ByteArray), 0⟩ : S132).f8.f0, (⟨x.f0, x.f1, x.f2, x.f3, 0, x.f5, x.f6, 0, (⟨0, 0, 0, 0, 0⟩ : S77), (⟨#[]⟩ : ByteArray), 0⟩ : S132).f8.f1, (⟨x.f0, x.f1, x.f2, x.f3, 0, x.f5, x.f6, 0, (⟨0, 0, 0, 0, 0⟩ : S77), (⟨#[]⟩ : ByteArray), 0⟩ : S132).f8.f2, (⟨x.f0, x.f1, x.f2, x.f3, 0, x.f5, x.f6, 0, (⟨0, 0, 0, 0, 0⟩ : S77), (⟨#[]⟩ : ByteArray), 0⟩ : S132).f8.f3, (⟨x.f0, x.f1, x.f2, x.f3, 0, x.f5, x.f6, 0, (⟨0, 0, 0, 0, 0⟩ : S77), (⟨#[]⟩ : ByteArray), 0⟩ : S132).f8.f4, (⟨x.f0, x.f1, x.f2, x.f3, 0, x.f5, x.f6, 0, (⟨0, 0, 0, 0, 0⟩ : S77), (⟨#[]⟩ : ByteArray), 0⟩ : S132).f9, (⟨x.f0, x.f1, x.f2, x.f3, 0, x.f5, x.f6, 0, (⟨0, 0, 0, 0, 0⟩ : S77), (⟨#[]⟩ : ByteArray), 0⟩ : S132).f10) := by
  obtain ⟨x0, x1, x2, x3, x4, x5, x6, x7, ⟨g0, g1, g2, g3, g4⟩, s, x10⟩ := x
  simp only at h
  subst h
  dsimp only
  unfold spec_l8Used.f
  rw [if_pos (by decide), spec_l8Used.j0, if_pos (by decide)]

theorem node_1 (k : Nat) (x : S132) (h : x.f0 = 1) : impl_nodeOk.f (k + 4) x.f0 x.f1 x.f2 x.f3 x.f4 x.f5 x.f6 x.f7 x.f8.f0 x.f8.f1 x.f8.f2 x.f8.f3 x.f8.f4 x.f9 x.f10 = some (decide (0 ≤ x.f5 ∧ x.f5 ≤ 15 ∧ 0 ≤ x.f6 ∧ x.f6 ≤ 255) && eqB ⟨x.f0, x.f1, x.f2, x.f3, 0, x.f5, x.f6, 0, (⟨0, 0, 0, 0, 0⟩ : S77), (⟨#[]⟩ : ByteArray), 0⟩ x && fourB x) := by
  obtain ⟨x0, x1, x2, x3, x4, x5, x6, x7, ⟨g0, g1, g2, g3, g4⟩, s, x10⟩ := x
  simp only at h
  subst h
  dsimp only
  unfold impl_nodeOk.f
  rw [if_pos (by decide), impl_nodeOk.j0, if_pos (by decide)]
  by_cases h0 : x5 ≥ 0
  · rw [if_pos h0]
    by_cases h1 : x5 ≤ 15
    · rw [if_pos h1]
      by_cases h2 : x6 ≥ 0
      · rw [if_pos h2]
        rw [show decide (0 ≤ x5 ∧ x5 ≤ 15 ∧ 0 ≤ x6 ∧ x6 ≤ 255) = decide (x6 ≤ 255) from decide_eq_decide.mpr ⟨fun h => by omega, fun h => by omega⟩]
        exact tail_i _ ⟨1, x1, x2, x3, x4, x5, x6, x7, ⟨g0, g1, g2, g3, g4⟩, s, x10⟩ ⟨1, x1, x2, x3, 0, x5, x6, 0, (⟨0, 0, 0, 0, 0⟩ : S77), (⟨#[]⟩ : ByteArray), 0⟩ _
      · rw [if_neg h2]
        rw [show decide (0 ≤ x5 ∧ x5 ≤ 15 ∧ 0 ≤ x6 ∧ x6 ≤ 255) = false from decide_eq_false (by omega)]
        exact tail_i _ ⟨1, x1, x2, x3, x4, x5, x6, x7, ⟨g0, g1, g2, g3, g4⟩, s, x10⟩ ⟨1, x1, x2, x3, 0, x5, x6, 0, (⟨0, 0, 0, 0, 0⟩ : S77), (⟨#[]⟩ : ByteArray), 0⟩ _
    · rw [if_neg h1]
      rw [show decide (0 ≤ x5 ∧ x5 ≤ 15 ∧ 0 ≤ x6 ∧ x6 ≤ 255) = false from decide_eq_false (by omega)]
      exact tail_i _ ⟨1, x1, x2, x3, x4, x5, x6, x7, ⟨g0, g1, g2, g3, g4⟩, s, x10⟩ ⟨1, x1, x2, x3, 0, x5, x6, 0, (⟨0, 0, 0, 0, 0⟩ : S77), (⟨#[]⟩ : ByteArray), 0⟩ _
  · rw [if_neg h0]
    rw [show decide (0 ≤ x5 ∧ x5 ≤ 15 ∧ 0 ≤ x6 ∧ x6 ≤ 255) = false from decide_eq_false (by omega)]
    exact tail_i _ ⟨1, x1, x2, x3, x4, x5, x6, x7, ⟨g0, g1, g2, g3, g4⟩, s, x10⟩ ⟨1, x1, x2, x3, 0, x5, x6, 0, (⟨0, 0, 0, 0, 0⟩ : S77), (⟨#[]⟩ : ByteArray), 0⟩ _

theorem used_8 (k : Nat) (x : S132) (h : x.f0 = 8) : spec_l8Used.f (k + 3) x.f0 x.f1 x.f2 x.f3 x.f4 x.f5 x.f6 x.f7 x.f8.f0 x.f8.f1 x.f8.f2 x.f8.f3 x.f8.f4 x.f9 x.f10 = some ((⟨x.f0, x.f1, x.f2, x.f3, 0, x.f5, x.f6, 0, (⟨0, 0, 0, 0, 0⟩ : S77), (⟨#[]⟩ : ByteArray), 0⟩ : S132).f0, (⟨x.f0, x.f1, x.f2, x.f3, 0, x.f5, x.f6, 0, (⟨0, 0, 0, 0, 0⟩ : S77), (⟨#[]⟩ : ByteArray), 0⟩ : S132).f1, (⟨x.f0, x.f1, x.f2, x.f3, 0, x.f5, x.f6, 0, (⟨0, 0, 0, 0, 0⟩ : S77), (⟨#[]⟩ : ByteArray), 0⟩ : S132).f2, (⟨x.f0, x.f1, x.f2, x.f3, 0, x.f5, x.f6, 0, (⟨0, 0, 0, 0, 0⟩ : S77), (⟨#[]⟩ : ByteArray), 0⟩ : S132).f3, (⟨x.f0, x.f1, x.f2, x.f3, 0, x.f5, x.f6, 0, (⟨0, 0, 0, 0, 0⟩ : S77), (⟨#[]⟩ : ByteArray), 0⟩ : S132).f4, (⟨x.f0, x.f1, x.f2, x.f3, 0, x.f5, x.f6, 0, (⟨0, 0, 0, 0, 0⟩ : S77), (⟨#[]⟩ : ByteArray), 0⟩ : S132).f5, (⟨x.f0, x.f1, x.f2, x.f3, 0, x.f5, x.f6, 0, (⟨0, 0, 0, 0, 0⟩ : S77), (⟨#[]⟩ : ByteArray), 0⟩ : S132).f6, (⟨x.f0, x.f1, x.f2, x.f3, 0, x.f5, x.f6, 0, (⟨0, 0, 0, 0, 0⟩ : S77), (⟨#[]⟩ : ByteArray), 0⟩ : S132).f7, (⟨x.f0, x.f1, x.f2, x.f3, 0, x.f5, x.f6, 0, (⟨0, 0, 0, 0, 0⟩ : S77), (⟨#[]⟩ : ByteArray), 0⟩ : S132).f8.f0, (⟨x.f0, x.f1, x.f2, x.f3, 0, x.f5, x.f6, 0, (⟨0, 0, 0, 0, 0⟩ : S77), (⟨#[]⟩ : ByteArray), 0⟩ : S132).f8.f1, (⟨x.f0, x.f1, x.f2, x.f3, 0, x.f5, x.f6, 0, (⟨0, 0, 0, 0, 0⟩ : S77), (⟨#[]⟩ : ByteArray), 0⟩ : S132).f8.f2, (⟨x.f0, x.f1, x.f2, x.f3, 0, x.f5, x.f6, 0, (⟨0, 0, 0, 0, 0⟩ : S77), (⟨#[]⟩ : ByteArray), 0⟩ : S132).f8.f3, (⟨x.f0, x.f1, x.f2, x.f3, 0, x.f5, x.f6, 0, (⟨0, 0, 0, 0, 0⟩ : S77), (⟨#[]⟩ : ByteArray), 0⟩ : S132).f8.f4, (⟨x.f0, x.f1, x.f2, x.f3, 0, x.f5, x.f6, 0, (⟨0, 0, 0, 0, 0⟩ : S77), (⟨#[]⟩ : ByteArray), 0⟩ : S132).f9, (⟨x.f0, x.f1, x.f2, x.f3, 0, x.f5, x.f6, 0, (⟨0, 0, 0, 0, 0⟩ : S77), (⟨#[]⟩ : ByteArray), 0⟩ : S132).f10) := by
  obtain ⟨x0, x1, x2, x3, x4, x5, x6, x7, ⟨g0, g1, g2, g3, g4⟩, s, x10⟩ := x
  simp only at h
  subst h
  dsimp only
  unfold spec_l8Used.f
  rw [if_neg (by decide), spec_l8Used.j0, if_pos (by decide)]

theorem node_8 (k : Nat) (x : S132) (h : x.f0 = 8) : impl_nodeOk.f (k + 4) x.f0 x.f1 x.f2 x.f3 x.f4 x.f5 x.f6 x.f7 x.f8.f0 x.f8.f1 x.f8.f2 x.f8.f3 x.f8.f4 x.f9 x.f10 = some (decide (0 ≤ x.f5 ∧ x.f5 ≤ 15 ∧ 0 ≤ x.f6 ∧ x.f6 ≤ 255) && eqB ⟨x.f0, x.f1, x.f2, x.f3, 0, x.f5, x.f6, 0, (⟨0, 0, 0, 0, 0⟩ : S77), (⟨#[]⟩ : ByteArray), 0⟩ x && fourB x) := by
  obtain ⟨x0, x1, x2, x3, x4, x5, x6, x7, ⟨g0, g1, g2, g3, g4⟩, s, x10⟩ := x
  simp only at h
  subst h
  dsimp only
  unfold impl_nodeOk.f
  rw [if_neg (by decide), impl_nodeOk.j0, if_pos (by decide)]
  by_cases h0 : x5 ≥ 0
  · rw [if_pos h0]
    by_cases h1 : x5 ≤ 15
    · rw [if_pos h1]
      by_cases h2 : x6 ≥ 0
      · rw [if_pos h2]
        rw [show decide (0 ≤ x5 ∧ x5 ≤ 15 ∧ 0 ≤ x6 ∧ x6 ≤ 255) = decide (x6 ≤ 255) from decide_eq_decide.mpr ⟨fun h => by omega, fun h => by omega⟩]
        exact tail_i _ ⟨8, x1, x2, x3, x4, x5, x6, x7, ⟨g0, g1, g2, g3, g4⟩, s, x10⟩ ⟨8, x1, x2, x3, 0, x5, x6, 0, (⟨0, 0, 0, 0, 0⟩ : S77), (⟨#[]⟩ : ByteArray), 0⟩ _
      · rw [if_neg h2]
        rw [show decide (0 ≤ x5 ∧ x5 ≤ 15 ∧ 0 ≤ x6 ∧ x6 ≤ 255) = false from decide_eq_false (by omega)]
        exact tail_i _ ⟨8, x1, x2, x3, x4, x5, x6, x7, ⟨g0, g1, g2, g3, g4⟩, s, x10⟩ ⟨8, x1, x2, x3, 0, x5, x6, 0, (⟨0, 0, 0, 0, 0⟩ : S77), (⟨#[]⟩ : ByteArray), 0⟩ _
    · rw [if_neg h1]
      rw [show decide (0 ≤ x5 ∧ x5 ≤ 15 ∧ 0 ≤ x6 ∧ x6 ≤ 255) = false from decide_eq_false (by omega)]
      exact tail_i _ ⟨8, x1, x2, x3, x4, x5, x6, x7, ⟨g0, g1, g2, g3, g4⟩, s, x10⟩ ⟨8, x1, x2, x3, 0, x5, x6, 0, (⟨0, 0, 0, 0, 0⟩ : S77), (⟨#[]⟩ : ByteArray), 0⟩ _
  · rw [if_neg h0]
    rw [show decide (0 ≤ x5 ∧ x5 ≤ 15 ∧ 0 ≤ x6 ∧ x6 ≤ 255) = false from decide_eq_false (by omega)]
    exact tail_i _ ⟨8, x1, x2, x3, x4, x5, x6, x7, ⟨g0, g1, g2, g3, g4⟩, s, x10⟩ ⟨8, x1, x2, x3, 0, x5, x6, 0, (⟨0, 0, 0, 0, 0⟩ : S77), (⟨#[]⟩ : ByteArray), 0⟩ _

theorem used_2 (k : Nat) (x : S132) (h : x.f0 = 2) : spec_l8Used.f (k + 3) x.f0 x.f1 x.f2 x.f3 x.f4 x.f5 x.f6 x.f7 x.f8.f0 x.f8.f1 x.f8.f2 x.f8.f3 x.f8.f4 x.f9 x.f10 = some ((⟨x.f0, x.f1, 0, 0, 0, 0, 0, 0, (⟨0, 0, 0, 0, 0⟩ : S77), (⟨#[]⟩ : ByteArray), 0⟩ : S132).f0, (⟨x.f0, x.f1, 0, 0, 0, 0, 0, 0, (⟨0, 0, 0, 0, 0⟩ : S77), (⟨#[]⟩ : ByteArray), 0⟩ : S132).f1, (⟨x.f0, x.f1, 0, 0, 0, 0, 0, 0, (⟨0, 0, 0, 0, 0⟩ : S77), (⟨#[]⟩ : ByteArray), 0⟩ : S132).f2, (⟨x.f0, x.f1, 0, 0, 0, 0, 0, 0, (⟨0, 0, 0, 0, 0⟩ : S77), (⟨#[]⟩ : ByteArray), 0⟩ : S132).f3, (⟨x.f0, x.f1, 0, 0, 0, 0, 0, 0, (⟨0, 0, 0, 0, 0⟩ : S77), (⟨#[]⟩ : ByteArray), 0⟩ : S132).f4, (⟨x.f0, x.f1, 0, 0, 0, 0, 0, 0, (⟨0, 0, 0, 0, 0⟩ : S77), (⟨#[]⟩ : ByteArray), 0⟩ : S132).f5, (⟨x.f0, x.f1, 0, 0, 0, 0, 0, 0, (⟨0, 0, 0, 0, 0⟩ : S77), (⟨#[]⟩ : ByteArray), 0⟩ : S132).f6, (⟨x.f0, x.f1, 0, 0, 0, 0, 0, 0, (⟨0, 0, 0, 0, 0⟩ : S77), (⟨#[]⟩ : ByteArray), 0⟩ : S132).f7, (⟨x.f0, x.f1, 0, 0, 0, 0, 0, 0, (⟨0, 0, 0, 0, 0⟩ : S77), (⟨#[]⟩ : ByteArray), 0⟩ : S132).f8.f0, (⟨x.f0, x.f1, 0, 0, 0, 0, 0, 0, (⟨0, 0, 0, 0, 0⟩ : S77), (⟨#[]⟩ : ByteArray), 0⟩ : S132).f8.f1, (⟨x.f0, x.f1, 0, 0, 0, 0, 0, 0, (⟨0, 0, 0, 0, 0⟩ : S77), (⟨#[]⟩ : ByteArray), 0⟩ : S132).f8.f2, (⟨x.f0, x.f1, 0, 0, 0, 0, 0, 0, (⟨0, 0, 0, 0, 0⟩ : S77), (⟨#[]⟩ : ByteArray), 0⟩ : S132).f8.f3, (⟨x.f0, x.f1, 0, 0, 0, 0, 0, 0, (⟨0, 0, 0, 0, 0⟩ : S77), (⟨#[]⟩ : ByteArray), 0⟩ : S132).f8.f4, (⟨x.f0, x.f1, 0, 0, 0, 0, 0, 0, (⟨0, 0, 0, 0, 0⟩ : S77), (⟨#[]⟩ : ByteArray), 0⟩ : S132).f9, (⟨x.f0, x.f1, 0, 0, 0, 0, 0, 0, (⟨0, 0, 0, 0, 0⟩ : S77), (⟨#[]⟩ : ByteArray), 0⟩ : S132).f10) := by
  obtain ⟨x0, x1, x2, x3, x4, x5, x6, x7, ⟨g0, g1, g2, g3, g4⟩, s, x10⟩ := x
  simp only at h
  subst h
  dsimp only
  unfold spec_l8Used.f
  rw [if_neg (by decide), spec_l8Used.j0, if_neg (by decide), if_pos (by decide)]

theorem node_2 (k : Nat) (x : S132) (h : x.f0 = 2) : impl_nodeOk.f (k + 4) x.f0 x.f1 x.f2 x.f3 x.f4 x.f5 x.f6 x.f7 x.f8.f0 x.f8.f1 x.f8.f2 x.f8.f3 x.f8.f4 x.f9 x.f10 = some (true && eqB ⟨x.f0, x.f1, 0, 0, 0, 0, 0, 0, (⟨0, 0, 0, 0, 0⟩ : S77), (⟨#[]⟩ : ByteArray), 0⟩ x && fourB x) := by
  obtain ⟨x0, x1, x2, x3, x4, x5, x6, x7, ⟨g0, g1, g2, g3, g4⟩, s, x10⟩ := x
  simp only at h
  subst h
  dsimp only
  unfold impl_nodeOk.f
  rw [if_neg (by decide), impl_nodeOk.j0, if_neg (by decide), if_pos (by decide)]
  exact tail_i _ ⟨2, x1, x2, x3, x4, x5, x6, x7, ⟨g0, g1, g2, g3, g4⟩, s, x10⟩ ⟨2, x1, 0, 0, 0, 0, 0, 0, (⟨0, 0, 0, 0, 0⟩ : S77), (⟨#[]⟩ : ByteArray), 0⟩ _

theorem used_3 (k : Nat) (x : S132) (h : x.f0 = 3) : spec_l8Used.f (k + 3) x.f0 x.f1 x.f2 x.f3 x.f4 x.f5 x.f6 x.f7 x.f8.f0 x.f8.f1 x.f8.f2 x.f8.f3 x.f8.f4 x.f9 x.f10 = some ((⟨x.f0, x.f1, 0, 0, 0, 0, 0, 0, x.f8, (⟨#[]⟩ : ByteArray), 0⟩ : S132).f0, (⟨x.f0, x.f1, 0, 0, 0, 0, 0, 0, x.f8, (⟨#[]⟩ : ByteArray), 0⟩ : S132).f1, (⟨x.f0, x.f1, 0, 0, 0, 0, 0, 0, x.f8, (⟨#[]⟩ : ByteArray), 0⟩ : S132).f2, (⟨x.f0, x.f1, 0, 0, 0, 0, 0, 0, x.f8, (⟨#[]⟩ : ByteArray), 0⟩ : S132).f3, (⟨x.f0, x.f1, 0, 0, 0, 0, 0, 0, x.f8, (⟨#[]⟩ : ByteArray), 0⟩ : S132).f4, (⟨x.f0, x.f1, 0, 0, 0, 0, 0, 0, x.f8, (⟨#[]⟩ : ByteArray), 0⟩ : S132).f5, (⟨x.f0, x.f1, 0, 0, 0, 0, 0, 0, x.f8, (⟨#[]⟩ : ByteArray), 0⟩ : S132).f6, (⟨x.f0, x.f1, 0, 0, 0, 0, 0, 0, x.f8, (⟨#[]⟩ : ByteArray), 0⟩ : S132).f7, (⟨x.f0, x.f1, 0, 0, 0, 0, 0, 0, x.f8, (⟨#[]⟩ : ByteArray), 0⟩ : S132).f8.f0, (⟨x.f0, x.f1, 0, 0, 0, 0, 0, 0, x.f8, (⟨#[]⟩ : ByteArray), 0⟩ : S132).f8.f1, (⟨x.f0, x.f1, 0, 0, 0, 0, 0, 0, x.f8, (⟨#[]⟩ : ByteArray), 0⟩ : S132).f8.f2, (⟨x.f0, x.f1, 0, 0, 0, 0, 0, 0, x.f8, (⟨#[]⟩ : ByteArray), 0⟩ : S132).f8.f3, (⟨x.f0, x.f1, 0, 0, 0, 0, 0, 0, x.f8, (⟨#[]⟩ : ByteArray), 0⟩ : S132).f8.f4, (⟨x.f0, x.f1, 0, 0, 0, 0, 0, 0, x.f8, (⟨#[]⟩ : ByteArray), 0⟩ : S132).f9, (⟨x.f0, x.f1, 0, 0, 0, 0, 0, 0, x.f8, (⟨#[]⟩ : ByteArray), 0⟩ : S132).f10) := by
  obtain ⟨x0, x1, x2, x3, x4, x5, x6, x7, ⟨g0, g1, g2, g3, g4⟩, s, x10⟩ := x
  simp only at h
  subst h
  dsimp only
  unfold spec_l8Used.f
  rw [if_neg (by decide), spec_l8Used.j0, if_neg (by decide), if_neg (by decide), if_pos (by decide)]

theorem node_3 (k : Nat) (x : S132) (h : x.f0 = 3) : impl_nodeOk.f (k + 4) x.f0 x.f1 x.f2 x.f3 x.f4 x.f5 x.f6 x.f7 x.f8.f0 x.f8.f1 x.f8.f2 x.f8.f3 x.f8.f4 x.f9 x.f10 = some (glueB x.f8.f0 x.f8.f1 x.f8.f2 x.f8.f3 x.f8.f4 && eqB ⟨x.f0, x.f1, 0, 0, 0, 0, 0, 0, x.f8, (⟨#[]⟩ : ByteArray), 0⟩ x && fourB x) := by
  obtain ⟨x0, x1, x2, x3, x4, x5, x6, x7, ⟨g0, g1, g2, g3, g4⟩, s, x10⟩ := x
  simp only at h
  subst h
  dsimp only
  unfold impl_nodeOk.f
  rw [if_neg (by decide), impl_nodeOk.j0, if_neg (by decide), if_neg (by decide), if_pos (by decide)]
  rw [glue_i, Option.bind_some]
  exact tail_i _ ⟨3, x1, x2, x3, x4, x5, x6, x7, ⟨g0, g1, g2, g3, g4⟩, s, x10⟩ ⟨3, x1, 0, 0, 0, 0, 0, 0, ⟨g0, g1, g2, g3, g4⟩, (⟨#[]⟩ : ByteArray), 0⟩ _

theorem used_4 (k : Nat) (x : S132) (h : x.f0 = 4) : spec_l8Used.f (k + 3) x.f0 x.f1 x.f2 x.f3 x.f4 x.f5 x.f6 x.f7 x.f8.f0 x.f8.f1 x.f8.f2 x.f8.f3 x.f8.f4 x.f9 x.f10 = some ((⟨x.f0, 0, 0, 0, 0, 0, 0, x.f7, (⟨0, 0, 0, 0, 0⟩ : S77), (⟨#[]⟩ : ByteArray), 0⟩ : S132).f0, (⟨x.f0, 0, 0, 0, 0, 0, 0, x.f7, (⟨0, 0, 0, 0, 0⟩ : S77), (⟨#[]⟩ : ByteArray), 0⟩ : S132).f1, (⟨x.f0, 0, 0, 0, 0, 0, 0, x.f7, (⟨0, 0, 0, 0, 0⟩ : S77), (⟨#[]⟩ : ByteArray), 0⟩ : S132).f2, (⟨x.f0, 0, 0, 0, 0, 0, 0, x.f7, (⟨0, 0, 0, 0, 0⟩ : S77), (⟨#[]⟩ : ByteArray), 0⟩ : S132).f3, (⟨x.f0, 0, 0, 0, 0, 0, 0, x.f7, (⟨0, 0, 0, 0, 0⟩ : S77), (⟨#[]⟩ : ByteArray), 0⟩ : S132).f4, (⟨x.f0, 0, 0, 0, 0, 0, 0, x.f7, (⟨0, 0, 0, 0, 0⟩ : S77), (⟨#[]⟩ : ByteArray), 0⟩ : S132).f5, (⟨x.f0, 0, 0, 0, 0, 0, 0, x.f7, (⟨0, 0, 0, 0, 0⟩ : S77), (⟨#[]⟩ : ByteArray), 0⟩ : S132).f6, (⟨x.f0, 0, 0, 0, 0, 0, 0, x.f7, (⟨0, 0, 0, 0, 0⟩ : S77), (⟨#[]⟩ : ByteArray), 0⟩ : S132).f7, (⟨x.f0, 0, 0, 0, 0, 0, 0, x.f7, (⟨0, 0, 0, 0, 0⟩ : S77), (⟨#[]⟩ : ByteArray), 0⟩ : S132).f8.f0, (⟨x.f0, 0, 0, 0, 0, 0, 0, x.f7, (⟨0, 0, 0, 0, 0⟩ : S77), (⟨#[]⟩ : ByteArray), 0⟩ : S132).f8.f1, (⟨x.f0, 0, 0, 0, 0, 0, 0, x.f7, (⟨0, 0, 0, 0, 0⟩ : S77), (⟨#[]⟩ : ByteArray), 0⟩ : S132).f8.f2, (⟨x.f0, 0, 0, 0, 0, 0, 0, x.f7, (⟨0, 0, 0, 0, 0⟩ : S77), (⟨#[]⟩ : ByteArray), 0⟩ : S132).f8.f3, (⟨x.f0, 0, 0, 0, 0, 0, 0, x.f7, (⟨0, 0, 0, 0, 0⟩ : S77), (⟨#[]⟩ : ByteArray), 0⟩ : S132).f8.f4, (⟨x.f0, 0, 0, 0, 0, 0, 0, x.f7, (⟨0, 0, 0, 0, 0⟩ : S77), (⟨#[]⟩ : ByteArray), 0⟩ : S132).f9, (⟨x.f0, 0, 0, 0, 0, 0, 0, x.f7, (⟨0, 0, 0, 0, 0⟩ : S77), (⟨#[]⟩ : ByteArray), 0⟩ : S132).f10) := by
  obtain ⟨x0, x1, x2, x3, x4, x5, x6, x7, ⟨g0, g1, g2, g3, g4⟩, s, x10⟩ := x
  simp only at h
  subst h
  dsimp only
  unfold spec_l8Used.f
  rw [if_neg (by decide), spec_l8Used.j0, if_neg (by decide), if_neg (by decide), if_neg (by decide), if_pos (by decide)]

theorem node_4 (k : Nat) (x : S132) (h : x.f0 = 4) : impl_nodeOk.f (k + 4) x.f0 x.f1 x.f2 x.f3 x.f4 x.f5 x.f6 x.f7 x.f8.f0 x.f8.f1 x.f8.f2 x.f8.f3 x.f8.f4 x.f9 x.f10 = some (decide (-10000 ≤ x.f7 ∧ x.f7 ≤ 10000) && eqB ⟨x.f0, 0, 0, 0, 0, 0, 0, x.f7, (⟨0, 0, 0, 0, 0⟩ : S77), (⟨#[]⟩ : ByteArray), 0⟩ x && fourB x) := by
  obtain ⟨x0, x1, x2, x3, x4, x5, x6, x7, ⟨g0, g1, g2, g3, g4⟩, s, x10⟩ := x
  simp only at h
  subst h
  dsimp only
  unfold impl_nodeOk.f
  rw [if_neg (by decide), impl_nodeOk.j0, if_neg (by decide), if_neg (by decide), if_neg (by decide), if_pos (by decide)]
  by_cases h0 : x7 ≥ (-10000)
  · rw [if_pos h0]
    rw [show decide (-10000 ≤ x7 ∧ x7 ≤ 10000) = decide (x7 ≤ 10000) from decide_eq_decide.mpr ⟨fun h => by omega, fun h => by omega⟩]
    exact tail_i _ ⟨4, x1, x2, x3, x4, x5, x6, x7, ⟨g0, g1, g2, g3, g4⟩, s, x10⟩ ⟨4, 0, 0, 0, 0, 0, 0, x7, (⟨0, 0, 0, 0, 0⟩ : S77), (⟨#[]⟩ : ByteArray), 0⟩ _
  · rw [if_neg h0]
    rw [show decide (-10000 ≤ x7 ∧ x7 ≤ 10000) = false from decide_eq_false (by omega)]
    exact tail_i _ ⟨4, x1, x2, x3, x4, x5, x6, x7, ⟨g0, g1, g2, g3, g4⟩, s, x10⟩ ⟨4, 0, 0, 0, 0, 0, 0, x7, (⟨0, 0, 0, 0, 0⟩ : S77), (⟨#[]⟩ : ByteArray), 0⟩ _

theorem used_5 (k : Nat) (x : S132) (h : x.f0 = 5) : spec_l8Used.f (k + 3) x.f0 x.f1 x.f2 x.f3 x.f4 x.f5 x.f6 x.f7 x.f8.f0 x.f8.f1 x.f8.f2 x.f8.f3 x.f8.f4 x.f9 x.f10 = some ((⟨x.f0, x.f1, x.f2, x.f3, 0, 0, 0, 0, (⟨0, 0, 0, 0, 0⟩ : S77), (⟨#[]⟩ : ByteArray), 0⟩ : S132).f0, (⟨x.f0, x.f1, x.f2, x.f3, 0, 0, 0, 0, (⟨0, 0, 0, 0, 0⟩ : S77), (⟨#[]⟩ : ByteArray), 0⟩ : S132).f1, (⟨x.f0, x.f1, x.f2, x.f3, 0, 0, 0, 0, (⟨0, 0, 0, 0, 0⟩ : S77), (⟨#[]⟩ : ByteArray), 0⟩ : S132).f2, (⟨x.f0, x.f1, x.f2, x.f3, 0, 0, 0, 0, (⟨0, 0, 0, 0, 0⟩ : S77), (⟨#[]⟩ : ByteArray), 0⟩ : S132).f3, (⟨x.f0, x.f1, x.f2, x.f3, 0, 0, 0, 0, (⟨0, 0, 0, 0, 0⟩ : S77), (⟨#[]⟩ : ByteArray), 0⟩ : S132).f4, (⟨x.f0, x.f1, x.f2, x.f3, 0, 0, 0, 0, (⟨0, 0, 0, 0, 0⟩ : S77), (⟨#[]⟩ : ByteArray), 0⟩ : S132).f5, (⟨x.f0, x.f1, x.f2, x.f3, 0, 0, 0, 0, (⟨0, 0, 0, 0, 0⟩ : S77), (⟨#[]⟩ : ByteArray), 0⟩ : S132).f6, (⟨x.f0, x.f1, x.f2, x.f3, 0, 0, 0, 0, (⟨0, 0, 0, 0, 0⟩ : S77), (⟨#[]⟩ : ByteArray), 0⟩ : S132).f7, (⟨x.f0, x.f1, x.f2, x.f3, 0, 0, 0, 0, (⟨0, 0, 0, 0, 0⟩ : S77), (⟨#[]⟩ : ByteArray), 0⟩ : S132).f8.f0, (⟨x.f0, x.f1, x.f2, x.f3, 0, 0, 0, 0, (⟨0, 0, 0, 0, 0⟩ : S77), (⟨#[]⟩ : ByteArray), 0⟩ : S132).f8.f1, (⟨x.f0, x.f1, x.f2, x.f3, 0, 0, 0, 0, (⟨0, 0, 0, 0, 0⟩ : S77), (⟨#[]⟩ : ByteArray), 0⟩ : S132).f8.f2, (⟨x.f0, x.f1, x.f2, x.f3, 0, 0, 0, 0, (⟨0, 0, 0, 0, 0⟩ : S77), (⟨#[]⟩ : ByteArray), 0⟩ : S132).f8.f3, (⟨x.f0, x.f1, x.f2, x.f3, 0, 0, 0, 0, (⟨0, 0, 0, 0, 0⟩ : S77), (⟨#[]⟩ : ByteArray), 0⟩ : S132).f8.f4, (⟨x.f0, x.f1, x.f2, x.f3, 0, 0, 0, 0, (⟨0, 0, 0, 0, 0⟩ : S77), (⟨#[]⟩ : ByteArray), 0⟩ : S132).f9, (⟨x.f0, x.f1, x.f2, x.f3, 0, 0, 0, 0, (⟨0, 0, 0, 0, 0⟩ : S77), (⟨#[]⟩ : ByteArray), 0⟩ : S132).f10) := by
  obtain ⟨x0, x1, x2, x3, x4, x5, x6, x7, ⟨g0, g1, g2, g3, g4⟩, s, x10⟩ := x
  simp only at h
  subst h
  dsimp only
  unfold spec_l8Used.f
  rw [if_neg (by decide), spec_l8Used.j0, if_neg (by decide), if_neg (by decide), if_neg (by decide), if_neg (by decide), if_pos (by decide)]

theorem node_5 (k : Nat) (x : S132) (h : x.f0 = 5) : impl_nodeOk.f (k + 4) x.f0 x.f1 x.f2 x.f3 x.f4 x.f5 x.f6 x.f7 x.f8.f0 x.f8.f1 x.f8.f2 x.f8.f3 x.f8.f4 x.f9 x.f10 = some (true && eqB ⟨x.f0, x.f1, x.f2, x.f3, 0, 0, 0, 0, (⟨0, 0, 0, 0, 0⟩ : S77), (⟨#[]⟩ : ByteArray), 0⟩ x && fourB x) := by
  obtain ⟨x0, x1, x2, x3, x4, x5, x6, x7, ⟨g0, g1, g2, g3, g4⟩, s, x10⟩ := x
  simp only at h
  subst h
  dsimp only
  unfold impl_nodeOk.f
  rw [if_neg (by decide), impl_nodeOk.j0, if_neg (by decide), if_neg (by decide), if_neg (by decide), if_neg (by decide), if_pos (by decide)]
  exact tail_i _ ⟨5, x1, x2, x3, x4, x5, x6, x7, ⟨g0, g1, g2, g3, g4⟩, s, x10⟩ ⟨5, x1, x2, x3, 0, 0, 0, 0, (⟨0, 0, 0, 0, 0⟩ : S77), (⟨#[]⟩ : ByteArray), 0⟩ _

theorem used_6 (k : Nat) (x : S132) (h : x.f0 = 6) : spec_l8Used.f (k + 3) x.f0 x.f1 x.f2 x.f3 x.f4 x.f5 x.f6 x.f7 x.f8.f0 x.f8.f1 x.f8.f2 x.f8.f3 x.f8.f4 x.f9 x.f10 = some ((⟨x.f0, x.f1, x.f2, x.f3, x.f4, 0, 0, 0, (⟨0, 0, 0, 0, 0⟩ : S77), (⟨#[]⟩ : ByteArray), x.f10⟩ : S132).f0, (⟨x.f0, x.f1, x.f2, x.f3, x.f4, 0, 0, 0, (⟨0, 0, 0, 0, 0⟩ : S77), (⟨#[]⟩ : ByteArray), x.f10⟩ : S132).f1, (⟨x.f0, x.f1, x.f2, x.f3, x.f4, 0, 0, 0, (⟨0, 0, 0, 0, 0⟩ : S77), (⟨#[]⟩ : ByteArray), x.f10⟩ : S132).f2, (⟨x.f0, x.f1, x.f2, x.f3, x.f4, 0, 0, 0, (⟨0, 0, 0, 0, 0⟩ : S77), (⟨#[]⟩ : ByteArray), x.f10⟩ : S132).f3, (⟨x.f0, x.f1, x.f2, x.f3, x.f4, 0, 0, 0, (⟨0, 0, 0, 0, 0⟩ : S77), (⟨#[]⟩ : ByteArray), x.f10⟩ : S132).f4, (⟨x.f0, x.f1, x.f2, x.f3, x.f4, 0, 0, 0, (⟨0, 0, 0, 0, 0⟩ : S77), (⟨#[]⟩ : ByteArray), x.f10⟩ : S132).f5, (⟨x.f0, x.f1, x.f2, x.f3, x.f4, 0, 0, 0, (⟨0, 0, 0, 0, 0⟩ : S77), (⟨#[]⟩ : ByteArray), x.f10⟩ : S132).f6, (⟨x.f0, x.f1, x.f2, x.f3, x.f4, 0, 0, 0, (⟨0, 0, 0, 0, 0⟩ : S77), (⟨#[]⟩ : ByteArray), x.f10⟩ : S132).f7, (⟨x.f0, x.f1, x.f2, x.f3, x.f4, 0, 0, 0, (⟨0, 0, 0, 0, 0⟩ : S77), (⟨#[]⟩ : ByteArray), x.f10⟩ : S132).f8.f0, (⟨x.f0, x.f1, x.f2, x.f3, x.f4, 0, 0, 0, (⟨0, 0, 0, 0, 0⟩ : S77), (⟨#[]⟩ : ByteArray), x.f10⟩ : S132).f8.f1, (⟨x.f0, x.f1, x.f2, x.f3, x.f4, 0, 0, 0, (⟨0, 0, 0, 0, 0⟩ : S77), (⟨#[]⟩ : ByteArray), x.f10⟩ : S132).f8.f2, (⟨x.f0, x.f1, x.f2, x.f3, x.f4, 0, 0, 0, (⟨0, 0, 0, 0, 0⟩ : S77), (⟨#[]⟩ : ByteArray), x.f10⟩ : S132).f8.f3, (⟨x.f0, x.f1, x.f2, x.f3, x.f4, 0, 0, 0, (⟨0, 0, 0, 0, 0⟩ : S77), (⟨#[]⟩ : ByteArray), x.f10⟩ : S132).f8.f4, (⟨x.f0, x.f1, x.f2, x.f3, x.f4, 0, 0, 0, (⟨0, 0, 0, 0, 0⟩ : S77), (⟨#[]⟩ : ByteArray), x.f10⟩ : S132).f9, (⟨x.f0, x.f1, x.f2, x.f3, x.f4, 0, 0, 0, (⟨0, 0, 0, 0, 0⟩ : S77), (⟨#[]⟩ : ByteArray), x.f10⟩ : S132).f10) := by
  obtain ⟨x0, x1, x2, x3, x4, x5, x6, x7, ⟨g0, g1, g2, g3, g4⟩, s, x10⟩ := x
  simp only at h
  subst h
  dsimp only
  unfold spec_l8Used.f
  rw [if_neg (by decide), spec_l8Used.j0, if_neg (by decide), if_neg (by decide), if_neg (by decide), if_neg (by decide), if_neg (by decide), if_pos (by decide), spec_l8Used.j1, if_pos (by decide)]

theorem node_6 (k : Nat) (x : S132) (h : x.f0 = 6) : impl_nodeOk.f (k + 4) x.f0 x.f1 x.f2 x.f3 x.f4 x.f5 x.f6 x.f7 x.f8.f0 x.f8.f1 x.f8.f2 x.f8.f3 x.f8.f4 x.f9 x.f10 = some (true && eqB ⟨x.f0, x.f1, x.f2, x.f3, x.f4, 0, 0, 0, (⟨0, 0, 0, 0, 0⟩ : S77), (⟨#[]⟩ : ByteArray), x.f10⟩ x && fourB x) := by
  obtain ⟨x0, x1, x2, x3, x4, x5, x6, x7, ⟨g0, g1, g2, g3, g4⟩, s, x10⟩ := x
  simp only at h
  subst h
  dsimp only
  unfold impl_nodeOk.f
  rw [if_neg (by decide), impl_nodeOk.j0, if_neg (by decide), if_neg (by decide), if_neg (by decide), if_neg (by decide), if_neg (by decide), if_pos (by decide), impl_nodeOk.j1, if_pos (by decide)]
  exact tail_i _ ⟨6, x1, x2, x3, x4, x5, x6, x7, ⟨g0, g1, g2, g3, g4⟩, s, x10⟩ ⟨6, x1, x2, x3, x4, 0, 0, 0, (⟨0, 0, 0, 0, 0⟩ : S77), (⟨#[]⟩ : ByteArray), x10⟩ _

theorem used_7 (k : Nat) (x : S132) (h : x.f0 = 7) : spec_l8Used.f (k + 3) x.f0 x.f1 x.f2 x.f3 x.f4 x.f5 x.f6 x.f7 x.f8.f0 x.f8.f1 x.f8.f2 x.f8.f3 x.f8.f4 x.f9 x.f10 = some ((⟨x.f0, x.f1, x.f2, x.f3, x.f4, 0, 0, 0, (⟨0, 0, 0, 0, 0⟩ : S77), (⟨#[]⟩ : ByteArray), x.f10⟩ : S132).f0, (⟨x.f0, x.f1, x.f2, x.f3, x.f4, 0, 0, 0, (⟨0, 0, 0, 0, 0⟩ : S77), (⟨#[]⟩ : ByteArray), x.f10⟩ : S132).f1, (⟨x.f0, x.f1, x.f2, x.f3, x.f4, 0, 0, 0, (⟨0, 0, 0, 0, 0⟩ : S77), (⟨#[]⟩ : ByteArray), x.f10⟩ : S132).f2, (⟨x.f0, x.f1, x.f2, x.f3, x.f4, 0, 0, 0, (⟨0, 0, 0, 0, 0⟩ : S77), (⟨#[]⟩ : ByteArray), x.f10⟩ : S132).f3, (⟨x.f0, x.f1, x.f2, x.f3, x.f4, 0, 0, 0, (⟨0, 0, 0, 0, 0⟩ : S77), (⟨#[]⟩ : ByteArray), x.f10⟩ : S132).f4, (⟨x.f0, x.f1, x.f2, x.f3, x.f4, 0, 0, 0, (⟨0, 0, 0, 0, 0⟩ : S77), (⟨#[]⟩ : ByteArray), x.f10⟩ : S132).f5, (⟨x.f0, x.f1, x.f2, x.f3, x.f4, 0, 0, 0, (⟨0, 0, 0, 0, 0⟩ : S77), (⟨#[]⟩ : ByteArray), x.f10⟩ : S132).f6, (⟨x.f0, x.f1, x.f2, x.f3, x.f4, 0, 0, 0, (⟨0, 0, 0, 0, 0⟩ : S77), (⟨#[]⟩ : ByteArray), x.f10⟩ : S132).f7, (⟨x.f0, x.f1, x.f2, x.f3, x.f4, 0, 0, 0, (⟨0, 0, 0, 0, 0⟩ : S77), (⟨#[]⟩ : ByteArray), x.f10⟩ : S132).f8.f0, (⟨x.f0, x.f1, x.f2, x.f3, x.f4, 0, 0, 0, (⟨0, 0, 0, 0, 0⟩ : S77), (⟨#[]⟩ : ByteArray), x.f10⟩ : S132).f8.f1, (⟨x.f0, x.f1, x.f2, x.f3, x.f4, 0, 0, 0, (⟨0, 0, 0, 0, 0⟩ : S77), (⟨#[]⟩ : ByteArray), x.f10⟩ : S132).f8.f2, (⟨x.f0, x.f1, x.f2, x.f3, x.f4, 0, 0, 0, (⟨0, 0, 0, 0, 0⟩ : S77), (⟨#[]⟩ : ByteArray), x.f10⟩ : S132).f8.f3, (⟨x.f0, x.f1, x.f2, x.f3, x.f4, 0, 0, 0, (⟨0, 0, 0, 0, 0⟩ : S77), (⟨#[]⟩ : ByteArray), x.f10⟩ : S132).f8.f4, (⟨x.f0, x.f1, x.f2, x.f3, x.f4, 0, 0, 0, (⟨0, 0, 0, 0, 0⟩ : S77), (⟨#[]⟩ : ByteArray), x.f10⟩ : S132).f9, (⟨x.f0, x.f1, x.f2, x.f3, x.f4, 0, 0, 0, (⟨0, 0, 0, 0, 0⟩ : S77), (⟨#[]⟩ : ByteArray), x.f10⟩ : S132).f10) := by
  obtain ⟨x0, x1, x2, x3, x4, x5, x6, x7, ⟨g0, g1, g2, g3, g4⟩, s, x10⟩ := x
  simp only at h
  subst h
  dsimp only
  unfold spec_l8Used.f
  rw [if_neg (by decide), spec_l8Used.j0, if_neg (by decide), if_neg (by decide), if_neg (by decide), if_neg (by decide), if_neg (by decide), if_neg (by decide), spec_l8Used.j1, if_pos (by decide)]

theorem node_7 (k : Nat) (x : S132) (h : x.f0 = 7) : impl_nodeOk.f (k + 4) x.f0 x.f1 x.f2 x.f3 x.f4 x.f5 x.f6 x.f7 x.f8.f0 x.f8.f1 x.f8.f2 x.f8.f3 x.f8.f4 x.f9 x.f10 = some (true && eqB ⟨x.f0, x.f1, x.f2, x.f3, x.f4, 0, 0, 0, (⟨0, 0, 0, 0, 0⟩ : S77), (⟨#[]⟩ : ByteArray), x.f10⟩ x && fourB x) := by
  obtain ⟨x0, x1, x2, x3, x4, x5, x6, x7, ⟨g0, g1, g2, g3, g4⟩, s, x10⟩ := x
  simp only at h
  subst h
  dsimp only
  unfold impl_nodeOk.f
  rw [if_neg (by decide), impl_nodeOk.j0, if_neg (by decide), if_neg (by decide), if_neg (by decide), if_neg (by decide), if_neg (by decide), if_neg (by decide), impl_nodeOk.j1, if_pos (by decide)]
  exact tail_i _ ⟨7, x1, x2, x3, x4, x5, x6, x7, ⟨g0, g1, g2, g3, g4⟩, s, x10⟩ ⟨7, x1, x2, x3, x4, 0, 0, 0, (⟨0, 0, 0, 0, 0⟩ : S77), (⟨#[]⟩ : ByteArray), x10⟩ _

theorem used_9 (k : Nat) (x : S132) (h : x.f0 = 9) : spec_l8Used.f (k + 3) x.f0 x.f1 x.f2 x.f3 x.f4 x.f5 x.f6 x.f7 x.f8.f0 x.f8.f1 x.f8.f2 x.f8.f3 x.f8.f4 x.f9 x.f10 = some ((⟨x.f0, 0, 0, 0, 0, 0, 0, 0, (⟨0, 0, 0, 0, 0⟩ : S77), x.f9, 0⟩ : S132).f0, (⟨x.f0, 0, 0, 0, 0, 0, 0, 0, (⟨0, 0, 0, 0, 0⟩ : S77), x.f9, 0⟩ : S132).f1, (⟨x.f0, 0, 0, 0, 0, 0, 0, 0, (⟨0, 0, 0, 0, 0⟩ : S77), x.f9, 0⟩ : S132).f2, (⟨x.f0, 0, 0, 0, 0, 0, 0, 0, (⟨0, 0, 0, 0, 0⟩ : S77), x.f9, 0⟩ : S132).f3, (⟨x.f0, 0, 0, 0, 0, 0, 0, 0, (⟨0, 0, 0, 0, 0⟩ : S77), x.f9, 0⟩ : S132).f4, (⟨x.f0, 0, 0, 0, 0, 0, 0, 0, (⟨0, 0, 0, 0, 0⟩ : S77), x.f9, 0⟩ : S132).f5, (⟨x.f0, 0, 0, 0, 0, 0, 0, 0, (⟨0, 0, 0, 0, 0⟩ : S77), x.f9, 0⟩ : S132).f6, (⟨x.f0, 0, 0, 0, 0, 0, 0, 0, (⟨0, 0, 0, 0, 0⟩ : S77), x.f9, 0⟩ : S132).f7, (⟨x.f0, 0, 0, 0, 0, 0, 0, 0, (⟨0, 0, 0, 0, 0⟩ : S77), x.f9, 0⟩ : S132).f8.f0, (⟨x.f0, 0, 0, 0, 0, 0, 0, 0, (⟨0, 0, 0, 0, 0⟩ : S77), x.f9, 0⟩ : S132).f8.f1, (⟨x.f0, 0, 0, 0, 0, 0, 0, 0, (⟨0, 0, 0, 0, 0⟩ : S77), x.f9, 0⟩ : S132).f8.f2, (⟨x.f0, 0, 0, 0, 0, 0, 0, 0, (⟨0, 0, 0, 0, 0⟩ : S77), x.f9, 0⟩ : S132).f8.f3, (⟨x.f0, 0, 0, 0, 0, 0, 0, 0, (⟨0, 0, 0, 0, 0⟩ : S77), x.f9, 0⟩ : S132).f8.f4, (⟨x.f0, 0, 0, 0, 0, 0, 0, 0, (⟨0, 0, 0, 0, 0⟩ : S77), x.f9, 0⟩ : S132).f9, (⟨x.f0, 0, 0, 0, 0, 0, 0, 0, (⟨0, 0, 0, 0, 0⟩ : S77), x.f9, 0⟩ : S132).f10) := by
  obtain ⟨x0, x1, x2, x3, x4, x5, x6, x7, ⟨g0, g1, g2, g3, g4⟩, s, x10⟩ := x
  simp only at h
  subst h
  dsimp only
  unfold spec_l8Used.f
  rw [if_neg (by decide), spec_l8Used.j0, if_neg (by decide), if_neg (by decide), if_neg (by decide), if_neg (by decide), if_neg (by decide), if_neg (by decide), spec_l8Used.j1, if_neg (by decide), if_pos (by decide), spec_l8Used.j2, if_pos (by decide)]

theorem node_9 (k : Nat) (x : S132) (h : x.f0 = 9) : impl_nodeOk.f (k + 4) x.f0 x.f1 x.f2 x.f3 x.f4 x.f5 x.f6 x.f7 x.f8.f0 x.f8.f1 x.f8.f2 x.f8.f3 x.f8.f4 x.f9 x.f10 = some (decide ((x.f9.size : Int) ≤ 1000) && eqB ⟨x.f0, 0, 0, 0, 0, 0, 0, 0, (⟨0, 0, 0, 0, 0⟩ : S77), x.f9, 0⟩ x && fourB x) := by
  obtain ⟨x0, x1, x2, x3, x4, x5, x6, x7, ⟨g0, g1, g2, g3, g4⟩, s, x10⟩ := x
  simp only at h
  subst h
  dsimp only
  unfold impl_nodeOk.f
  rw [if_neg (by decide), impl_nodeOk.j0, if_neg (by decide), if_neg (by decide), if_neg (by decide), if_neg (by decide), if_neg (by decide), if_neg (by decide), impl_nodeOk.j1, if_neg (by decide), if_pos (by decide), impl_nodeOk.j2, if_pos (by decide)]
  exact tail_i _ ⟨9, x1, x2, x3, x4, x5, x6, x7, ⟨g0, g1, g2, g3, g4⟩, s, x10⟩ ⟨9, 0, 0, 0, 0, 0, 0, 0, (⟨0, 0, 0, 0, 0⟩ : S77), s, 0⟩ _

theorem used_10 (k : Nat) (x : S132) (h : x.f0 = 10) : spec_l8Used.f (k + 3) x.f0 x.f1 x.f2 x.f3 x.f4 x.f5 x.f6 x.f7 x.f8.f0 x.f8.f1 x.f8.f2 x.f8.f3 x.f8.f4 x.f9 x.f10 = some ((⟨x.f0, 0, 0, 0, 0, 0, 0, 0, (⟨0, 0, 0, 0, 0⟩ : S77), x.f9, 0⟩ : S132).f0, (⟨x.f0, 0, 0, 0, 0, 0, 0, 0, (⟨0, 0, 0, 0, 0⟩ : S77), x.f9, 0⟩ : S132).f1, (⟨x.f0, 0, 0, 0, 0, 0, 0, 0, (⟨0, 0, 0, 0, 0⟩ : S77), x.f9, 0⟩ : S132).f2, (⟨x.f0, 0, 0, 0, 0, 0, 0, 0, (⟨0, 0, 0, 0, 0⟩ : S77), x.f9, 0⟩ : S132).f3, (⟨x.f0, 0, 0, 0, 0, 0, 0, 0, (⟨0, 0, 0, 0, 0⟩ : S77), x.f9, 0⟩ : S132).f4, (⟨x.f0, 0, 0, 0, 0, 0, 0, 0, (⟨0, 0, 0, 0, 0⟩ : S77), x.f9, 0⟩ : S132).f5, (⟨x.f0, 0, 0, 0, 0, 0, 0, 0, (⟨0, 0, 0, 0, 0⟩ : S77), x.f9, 0⟩ : S132).f6, (⟨x.f0, 0, 0, 0, 0, 0, 0, 0, (⟨0, 0, 0, 0, 0⟩ : S77), x.f9, 0⟩ : S132).f7, (⟨x.f0, 0, 0, 0, 0, 0, 0, 0, (⟨0, 0, 0, 0, 0⟩ : S77), x.f9, 0⟩ : S132).f8.f0, (⟨x.f0, 0, 0, 0, 0, 0, 0, 0, (⟨0, 0, 0, 0, 0⟩ : S77), x.f9, 0⟩ : S132).f8.f1, (⟨x.f0, 0, 0, 0, 0, 0, 0, 0, (⟨0, 0, 0, 0, 0⟩ : S77), x.f9, 0⟩ : S132).f8.f2, (⟨x.f0, 0, 0, 0, 0, 0, 0, 0, (⟨0, 0, 0, 0, 0⟩ : S77), x.f9, 0⟩ : S132).f8.f3, (⟨x.f0, 0, 0, 0, 0, 0, 0, 0, (⟨0, 0, 0, 0, 0⟩ : S77), x.f9, 0⟩ : S132).f8.f4, (⟨x.f0, 0, 0, 0, 0, 0, 0, 0, (⟨0, 0, 0, 0, 0⟩ : S77), x.f9, 0⟩ : S132).f9, (⟨x.f0, 0, 0, 0, 0, 0, 0, 0, (⟨0, 0, 0, 0, 0⟩ : S77), x.f9, 0⟩ : S132).f10) := by
  obtain ⟨x0, x1, x2, x3, x4, x5, x6, x7, ⟨g0, g1, g2, g3, g4⟩, s, x10⟩ := x
  simp only at h
  subst h
  dsimp only
  unfold spec_l8Used.f
  rw [if_neg (by decide), spec_l8Used.j0, if_neg (by decide), if_neg (by decide), if_neg (by decide), if_neg (by decide), if_neg (by decide), if_neg (by decide), spec_l8Used.j1, if_neg (by decide), if_neg (by decide), spec_l8Used.j2, if_pos (by decide)]

theorem node_10 (k : Nat) (x : S132) (h : x.f0 = 10) : impl_nodeOk.f (k + 4) x.f0 x.f1 x.f2 x.f3 x.f4 x.f5 x.f6 x.f7 x.f8.f0 x.f8.f1 x.f8.f2 x.f8.f3 x.f8.f4 x.f9 x.f10 = some (decide ((x.f9.size : Int) ≤ 1000) && eqB ⟨x.f0, 0, 0, 0, 0, 0, 0, 0, (⟨0, 0, 0, 0, 0⟩ : S77), x.f9, 0⟩ x && fourB x) := by
  obtain ⟨x0, x1, x2, x3, x4, x5, x6, x7, ⟨g0, g1, g2, g3, g4⟩, s, x10⟩ := x
  simp only at h
  subst h
  dsimp only
  unfold impl_nodeOk.f
  rw [if_neg (by decide), impl_nodeOk.j0, if_neg (by decide), if_neg (by decide), if_neg (by decide), if_neg (by decide), if_neg (by decide), if_neg (by decide), impl_nodeOk.j1, if_neg (by decide), if_neg (by decide), impl_nodeOk.j2, if_pos (by decide)]
  exact tail_i _ ⟨10, x1, x2, x3, x4, x5, x6, x7, ⟨g0, g1, g2, g3, g4⟩, s, x10⟩ ⟨10, 0, 0, 0, 0, 0, 0, 0, (⟨0, 0, 0, 0, 0⟩ : S77), s, 0⟩ _

theorem used_11 (k : Nat) (x : S132) (h : x.f0 = 11) : spec_l8Used.f (k + 3) x.f0 x.f1 x.f2 x.f3 x.f4 x.f5 x.f6 x.f7 x.f8.f0 x.f8.f1 x.f8.f2 x.f8.f3 x.f8.f4 x.f9 x.f10 = some ((⟨x.f0, 0, x.f2, 0, 0, 0, 0, x.f7, (⟨0, 0, 0, 0, 0⟩ : S77), (⟨#[]⟩ : ByteArray), x.f10⟩ : S132).f0, (⟨x.f0, 0, x.f2, 0, 0, 0, 0, x.f7, (⟨0, 0, 0, 0, 0⟩ : S77), (⟨#[]⟩ : ByteArray), x.f10⟩ : S132).f1, (⟨x.f0, 0, x.f2, 0, 0, 0, 0, x.f7, (⟨0, 0, 0, 0, 0⟩ : S77), (⟨#[]⟩ : ByteArray), x.f10⟩ : S132).f2, (⟨x.f0, 0, x.f2, 0, 0, 0, 0, x.f7, (⟨0, 0, 0, 0, 0⟩ : S77), (⟨#[]⟩ : ByteArray), x.f10⟩ : S132).f3, (⟨x.f0, 0, x.f2, 0, 0, 0, 0, x.f7, (⟨0, 0, 0, 0, 0⟩ : S77), (⟨#[]⟩ : ByteArray), x.f10⟩ : S132).f4, (⟨x.f0, 0, x.f2, 0, 0, 0, 0, x.f7, (⟨0, 0, 0, 0, 0⟩ : S77), (⟨#[]⟩ : ByteArray), x.f10⟩ : S132).f5, (⟨x.f0, 0, x.f2, 0, 0, 0, 0, x.f7, (⟨0, 0, 0, 0, 0⟩ : S77), (⟨#[]⟩ : ByteArray), x.f10⟩ : S132).f6, (⟨x.f0, 0, x.f2, 0, 0, 0, 0, x.f7, (⟨0, 0, 0, 0, 0⟩ : S77), (⟨#[]⟩ : ByteArray), x.f10⟩ : S132).f7, (⟨x.f0, 0, x.f2, 0, 0, 0, 0, x.f7, (⟨0, 0, 0, 0, 0⟩ : S77), (⟨#[]⟩ : ByteArray), x.f10⟩ : S132).f8.f0, (⟨x.f0, 0, x.f2, 0, 0, 0, 0, x.f7, (⟨0, 0, 0, 0, 0⟩ : S77), (⟨#[]⟩ : ByteArray), x.f10⟩ : S132).f8.f1, (⟨x.f0, 0, x.f2, 0, 0, 0, 0, x.f7, (⟨0, 0, 0, 0, 0⟩ : S77), (⟨#[]⟩ : ByteArray), x.f10⟩ : S132).f8.f2, (⟨x.f0, 0, x.f2, 0, 0, 0, 0, x.f7, (⟨0, 0, 0, 0, 0⟩ : S77), (⟨#[]⟩ : ByteArray), x.f10⟩ : S132).f8.f3, (⟨x.f0, 0, x.f2, 0, 0, 0, 0, x.f7, (⟨0, 0, 0, 0, 0⟩ : S77), (⟨#[]⟩ : ByteArray), x.f10⟩ : S132).f8.f4, (⟨x.f0, 0, x.f2, 0, 0, 0, 0, x.f7, (⟨0, 0, 0, 0, 0⟩ : S77), (⟨#[]⟩ : ByteArray), x.f10⟩ : S132).f9, (⟨x.f0, 0, x.f2, 0, 0, 0, 0, x.f7, (⟨0, 0, 0, 0, 0⟩ : S77), (⟨#[]⟩ : ByteArray), x.f10⟩ : S132).f10) := by
  obtain ⟨x0, x1, x2, x3, x4, x5, x6, x7, ⟨g0, g1, g2, g3, g4⟩, s, x10⟩ := x
  simp only at h
  subst h
  dsimp only
  unfold spec_l8Used.f
  rw [if_neg (by decide), spec_l8Used.j0, if_neg (by decide), if_neg (by decide), if_neg (by decide), if_neg (by decide), if_neg (by decide), if_neg (by decide), spec_l8Used.j1, if_neg (by decide), if_neg (by decide), spec_l8Used.j2, if_neg (by decide), if_pos (by decide)]

theorem node_11 (k : Nat) (x : S132) (h : x.f0 = 11) : impl_nodeOk.f (k + 4) x.f0 x.f1 x.f2 x.f3 x.f4 x.f5 x.f6 x.f7 x.f8.f0 x.f8.f1 x.f8.f2 x.f8.f3 x.f8.f4 x.f9 x.f10 = some (decide (0 ≤ x.f7 ∧ x.f7 ≤ 15) && eqB ⟨x.f0, 0, x.f2, 0, 0, 0, 0, x.f7, (⟨0, 0, 0, 0, 0⟩ : S77), (⟨#[]⟩ : ByteArray), x.f10⟩ x && fourB x) := by
  obtain ⟨x0, x1, x2, x3, x4, x5, x6, x7, ⟨g0, g1, g2, g3, g4⟩, s, x10⟩ := x
  simp only at h
  subst h
  dsimp only
  unfold impl_nodeOk.f
  rw [if_neg (by decide), impl_nodeOk.j0, if_neg (by decide), if_neg (by decide), if_neg (by decide), if_neg (by decide), if_neg (by decide), if_neg (by decide), impl_nodeOk.j1, if_neg (by decide), if_neg (by decide), impl_nodeOk.j2, if_neg (by decide), if_pos (by decide)]
  by_cases h0 : x7 ≥ 0
  · rw [if_pos h0]
    rw [show decide (0 ≤ x7 ∧ x7 ≤ 15) = decide (x7 ≤ 15) from decide_eq_decide.mpr ⟨fun h => by omega, fun h => by omega⟩]
    exact tail_i _ ⟨11, x1, x2, x3, x4, x5, x6, x7, ⟨g0, g1, g2, g3, g4⟩, s, x10⟩ ⟨11, 0, x2, 0, 0, 0, 0, x7, (⟨0, 0, 0, 0, 0⟩ : S77), (⟨#[]⟩ : ByteArray), x10⟩ _
  · rw [if_neg h0]
    rw [show decide (0 ≤ x7 ∧ x7 ≤ 15) = false from decide_eq_false (by omega)]
    exact tail_i _ ⟨11, x1, x2, x3, x4, x5, x6, x7, ⟨g0, g1, g2, g3, g4⟩, s, x10⟩ ⟨11, 0, x2, 0, 0, 0, 0, x7, (⟨0, 0, 0, 0, 0⟩ : S77), (⟨#[]⟩ : ByteArray), x10⟩ _

theorem tail_kind (x u : S132) (hE : eqB u x = true) : u = x ∨ (x.f9.toList = u.f9.toList ∧ x.f0 = u.f0 ∧ x.f1 = u.f1 ∧ x.f2 = u.f2 ∧ x.f3 = u.f3 ∧ x.f4 = u.f4 ∧ x.f5 = u.f5 ∧ x.f6 = u.f6 ∧ x.f7 = u.f7 ∧ x.f8.f0 = u.f8.f0 ∧ x.f8.f1 = u.f8.f1 ∧ x.f8.f2 = u.f8.f2 ∧ x.f8.f3 = u.f8.f3 ∧ x.f8.f4 = u.f8.f4 ∧ x.f10 = u.f10) := by
  unfold eqB at hE
  simp only [Bool.and_eq_true, beq_iff_eq] at hE
  obtain ⟨h0, h1, h2, h3, h4, h5, h6, h7, ⟨g0, g1, g2, g3, g4⟩, ht, h10⟩ := hE
  exact .inr ⟨ht.symm, h0.symm, h1.symm, h2.symm, h3.symm, h4.symm, h5.symm, h6.symm, h7.symm, g0.symm, g1.symm, g2.symm, g3.symm, g4.symm, h10.symm⟩
theorem size_empty {s : ByteArray} (h : s.toList = (⟨#[]⟩ : ByteArray).toList) : s.size = 0 := (toList_nil s).1 (h.trans ((toList_nil _).2 rfl))
/-- The node answers of both sides, for one kind. -/
theorem kind_both (x u : S132) (ok : Bool) (hu : u.f0 = x.f0) (h1 : 1 ≤ x.f0) (h2 : x.f0 ≤ 11) (hs : ∀ k, spec_l8Used.f (k + 3) x.f0 x.f1 x.f2 x.f3 x.f4 x.f5 x.f6 x.f7 x.f8.f0 x.f8.f1 x.f8.f2 x.f8.f3 x.f8.f4 x.f9 x.f10 = some (u.f0, u.f1, u.f2, u.f3, u.f4, u.f5, u.f6, u.f7, u.f8.f0, u.f8.f1, u.f8.f2, u.f8.f3, u.f8.f4, u.f9, u.f10)) (hi : ∀ k, impl_nodeOk.f (k + 4) x.f0 x.f1 x.f2 x.f3 x.f4 x.f5 x.f6 x.f7 x.f8.f0 x.f8.f1 x.f8.f2 x.f8.f3 x.f8.f4 x.f9 x.f10 = some (ok && eqB u x && fourB x))
    (ht : eqB u x = true → tailB x = (ok && (fitsB x.f1 && fitsB x.f2 && fitsB x.f3 && fitsB x.f4))) :
    ∃ b : Bool, ∀ k, 8 ≤ k → spec_l8NodeOk.f k x.f0 x.f1 x.f2 x.f3 x.f4 x.f5 x.f6 x.f7 x.f8.f0 x.f8.f1 x.f8.f2 x.f8.f3 x.f8.f4 x.f9 x.f10 = some b ∧ impl_nodeOk.f k x.f0 x.f1 x.f2 x.f3 x.f4 x.f5 x.f6 x.f7 x.f8.f0 x.f8.f1 x.f8.f2 x.f8.f3 x.f8.f4 x.f9 x.f10 = some (b && decide (0 ≤ x.f10)) := by
  refine ⟨eqB u x && tailB x, fun k hk => ?_⟩
  obtain ⟨k, rfl⟩ : ∃ q, k = q + 8 := ⟨k - 8, by omega⟩
  have hs' := hs (k + 5)
  have hi' := hi (k + 4)
  refine ⟨?_, ?_⟩
  · unfold spec_l8NodeOk.f
    rw [if_neg (by omega), if_neg (by omega), hs', Option.bind_some]
    exact (tail_s (k + 6) x (neB x u)).trans (by rw [ne_eq, Bool.not_not])
  · rw [hi']
    congr 1
    cases hE : eqB u x with
    | false => simp
    | true =>
      rw [ht hE]
      unfold fourB
      cases ok <;> simp
theorem node_both (x : S132) : ∃ b : Bool, ∀ k, 8 ≤ k → spec_l8NodeOk.f k x.f0 x.f1 x.f2 x.f3 x.f4 x.f5 x.f6 x.f7 x.f8.f0 x.f8.f1 x.f8.f2 x.f8.f3 x.f8.f4 x.f9 x.f10 = some b ∧ impl_nodeOk.f k x.f0 x.f1 x.f2 x.f3 x.f4 x.f5 x.f6 x.f7 x.f8.f0 x.f8.f1 x.f8.f2 x.f8.f3 x.f8.f4 x.f9 x.f10 = some (b && decide (0 ≤ x.f10)) := by
  by_cases hr : x.f0 < 1 ∨ x.f0 > 11
  · refine ⟨false, fun k hk => ?_⟩
    obtain ⟨k, rfl⟩ : ∃ q, k = q + 8 := ⟨k - 8, by omega⟩
    refine ⟨?_, ?_⟩
    · unfold spec_l8NodeOk.f
      by_cases h1 : x.f0 < 1
      · rw [if_pos h1, spec_l8NodeOk.j0, if_pos rfl]
      · rw [if_neg h1, if_pos (by omega), spec_l8NodeOk.j0, if_pos rfl]
    · have n : ∀ j : Int, 1 ≤ j → j ≤ 11 → (x.f0 == j) = false := fun j a b => beq_eq_false_iff_ne.mpr (by omega)
      unfold impl_nodeOk.f
      rw [if_neg (by omega), n 8 (by decide) (by decide), impl_nodeOk.j0, if_neg (by decide), if_neg (by omega), if_neg (by omega), if_neg (by omega), if_neg (by omega), if_neg (by omega), n 7 (by decide) (by decide), impl_nodeOk.j1, if_neg (by decide), if_neg (by omega), n 10 (by decide) (by decide), impl_nodeOk.j2, if_neg (by decide), if_neg (by omega)]
      rfl
  · have hk : x.f0 = 1 ∨ x.f0 = 8 ∨ x.f0 = 2 ∨ x.f0 = 3 ∨ x.f0 = 4 ∨ x.f0 = 5 ∨ x.f0 = 6 ∨ x.f0 = 7 ∨ x.f0 = 9 ∨ x.f0 = 10 ∨ x.f0 = 11 := by omega
    rcases hk with h | h | h | h | h | h | h | h | h | h | h
    · refine kind_both x ⟨x.f0, x.f1, x.f2, x.f3, 0, x.f5, x.f6, 0, (⟨0, 0, 0, 0, 0⟩ : S77), (⟨#[]⟩ : ByteArray), 0⟩ (decide (0 ≤ x.f5 ∧ x.f5 ≤ 15 ∧ 0 ≤ x.f6 ∧ x.f6 ≤ 255)) rfl (by omega) (by omega) (fun k => used_1 k x h) (fun k => node_1 k x h) (fun hE => ?_)
      rcases tail_kind _ _ hE with e | ⟨et, e0, e1, e2, e3, e4, e5, e6, e7, g0, g1, g2, g3, g4, e10⟩
      all_goals try dsimp only at et e0 e1 e2 e3 e4 e5 e6 e7 g0 g1 g2 g3 g4 e10
      · have et := congrArg (fun z : S132 => z.f9.size) e; have e0 := congrArg S132.f0 e; have e1 := congrArg S132.f1 e; have e2 := congrArg S132.f2 e; have e3 := congrArg S132.f3 e; have e4 := congrArg S132.f4 e; have e5 := congrArg S132.f5 e; have e6 := congrArg S132.f6 e; have e7 := congrArg S132.f7 e; have e10 := congrArg S132.f10 e; have g0 := congrArg (fun z : S132 => z.f8.f0) e; have g1 := congrArg (fun z : S132 => z.f8.f1) e; have g2 := congrArg (fun z : S132 => z.f8.f2) e; have g3 := congrArg (fun z : S132 => z.f8.f3) e; have g4 := congrArg (fun z : S132 => z.f8.f4) e
        dsimp only at et e0 e1 e2 e3 e4 e5 e6 e7 g0 g1 g2 g3 g4 e10
        clear e
        have et2 : x.f9.size = 0 := et.symm.trans rfl; rw [Bool.eq_iff_iff]
        simp only [tailB, fitsB, glueB, ordB, Bool.and_eq_true, decide_eq_true_eq, Bool.true_and]
        omega
      · have et2 := size_empty et; rw [Bool.eq_iff_iff]
        simp only [tailB, fitsB, glueB, ordB, Bool.and_eq_true, decide_eq_true_eq, Bool.true_and]
        omega
    · refine kind_both x ⟨x.f0, x.f1, x.f2, x.f3, 0, x.f5, x.f6, 0, (⟨0, 0, 0, 0, 0⟩ : S77), (⟨#[]⟩ : ByteArray), 0⟩ (decide (0 ≤ x.f5 ∧ x.f5 ≤ 15 ∧ 0 ≤ x.f6 ∧ x.f6 ≤ 255)) rfl (by omega) (by omega) (fun k => used_8 k x h) (fun k => node_8 k x h) (fun hE => ?_)
      rcases tail_kind _ _ hE with e | ⟨et, e0, e1, e2, e3, e4, e5, e6, e7, g0, g1, g2, g3, g4, e10⟩
      all_goals try dsimp only at et e0 e1 e2 e3 e4 e5 e6 e7 g0 g1 g2 g3 g4 e10
      · have et := congrArg (fun z : S132 => z.f9.size) e; have e0 := congrArg S132.f0 e; have e1 := congrArg S132.f1 e; have e2 := congrArg S132.f2 e; have e3 := congrArg S132.f3 e; have e4 := congrArg S132.f4 e; have e5 := congrArg S132.f5 e; have e6 := congrArg S132.f6 e; have e7 := congrArg S132.f7 e; have e10 := congrArg S132.f10 e; have g0 := congrArg (fun z : S132 => z.f8.f0) e; have g1 := congrArg (fun z : S132 => z.f8.f1) e; have g2 := congrArg (fun z : S132 => z.f8.f2) e; have g3 := congrArg (fun z : S132 => z.f8.f3) e; have g4 := congrArg (fun z : S132 => z.f8.f4) e
        dsimp only at et e0 e1 e2 e3 e4 e5 e6 e7 g0 g1 g2 g3 g4 e10
        clear e
        have et2 : x.f9.size = 0 := et.symm.trans rfl; rw [Bool.eq_iff_iff]
        simp only [tailB, fitsB, glueB, ordB, Bool.and_eq_true, decide_eq_true_eq, Bool.true_and]
        omega
      · have et2 := size_empty et; rw [Bool.eq_iff_iff]
        simp only [tailB, fitsB, glueB, ordB, Bool.and_eq_true, decide_eq_true_eq, Bool.true_and]
        omega
    · refine kind_both x ⟨x.f0, x.f1, 0, 0, 0, 0, 0, 0, (⟨0, 0, 0, 0, 0⟩ : S77), (⟨#[]⟩ : ByteArray), 0⟩ (true) rfl (by omega) (by omega) (fun k => used_2 k x h) (fun k => node_2 k x h) (fun hE => ?_)
      rcases tail_kind _ _ hE with e | ⟨et, e0, e1, e2, e3, e4, e5, e6, e7, g0, g1, g2, g3, g4, e10⟩
      all_goals try dsimp only at et e0 e1 e2 e3 e4 e5 e6 e7 g0 g1 g2 g3 g4 e10
      · have et := congrArg (fun z : S132 => z.f9.size) e; have e0 := congrArg S132.f0 e; have e1 := congrArg S132.f1 e; have e2 := congrArg S132.f2 e; have e3 := congrArg S132.f3 e; have e4 := congrArg S132.f4 e; have e5 := congrArg S132.f5 e; have e6 := congrArg S132.f6 e; have e7 := congrArg S132.f7 e; have e10 := congrArg S132.f10 e; have g0 := congrArg (fun z : S132 => z.f8.f0) e; have g1 := congrArg (fun z : S132 => z.f8.f1) e; have g2 := congrArg (fun z : S132 => z.f8.f2) e; have g3 := congrArg (fun z : S132 => z.f8.f3) e; have g4 := congrArg (fun z : S132 => z.f8.f4) e
        dsimp only at et e0 e1 e2 e3 e4 e5 e6 e7 g0 g1 g2 g3 g4 e10
        clear e
        have et2 : x.f9.size = 0 := et.symm.trans rfl; rw [Bool.eq_iff_iff]
        simp only [tailB, fitsB, glueB, ordB, Bool.and_eq_true, decide_eq_true_eq, Bool.true_and]
        omega
      · have et2 := size_empty et; rw [Bool.eq_iff_iff]
        simp only [tailB, fitsB, glueB, ordB, Bool.and_eq_true, decide_eq_true_eq, Bool.true_and]
        omega
    · refine kind_both x ⟨x.f0, x.f1, 0, 0, 0, 0, 0, 0, x.f8, (⟨#[]⟩ : ByteArray), 0⟩ (glueB x.f8.f0 x.f8.f1 x.f8.f2 x.f8.f3 x.f8.f4) rfl (by omega) (by omega) (fun k => used_3 k x h) (fun k => node_3 k x h) (fun hE => ?_)
      rcases tail_kind _ _ hE with e | ⟨et, e0, e1, e2, e3, e4, e5, e6, e7, g0, g1, g2, g3, g4, e10⟩
      all_goals try dsimp only at et e0 e1 e2 e3 e4 e5 e6 e7 g0 g1 g2 g3 g4 e10
      · have et := congrArg (fun z : S132 => z.f9.size) e; have e0 := congrArg S132.f0 e; have e1 := congrArg S132.f1 e; have e2 := congrArg S132.f2 e; have e3 := congrArg S132.f3 e; have e4 := congrArg S132.f4 e; have e5 := congrArg S132.f5 e; have e6 := congrArg S132.f6 e; have e7 := congrArg S132.f7 e; have e10 := congrArg S132.f10 e; have g0 := congrArg (fun z : S132 => z.f8.f0) e; have g1 := congrArg (fun z : S132 => z.f8.f1) e; have g2 := congrArg (fun z : S132 => z.f8.f2) e; have g3 := congrArg (fun z : S132 => z.f8.f3) e; have g4 := congrArg (fun z : S132 => z.f8.f4) e
        dsimp only at et e0 e1 e2 e3 e4 e5 e6 e7 g0 g1 g2 g3 g4 e10
        clear e
        have et2 : x.f9.size = 0 := et.symm.trans rfl; rw [Bool.eq_iff_iff]
        simp only [tailB, fitsB, glueB, ordB, Bool.and_eq_true, decide_eq_true_eq, Bool.true_and]
        omega
      · have et2 := size_empty et; rw [Bool.eq_iff_iff]
        simp only [tailB, fitsB, glueB, ordB, Bool.and_eq_true, decide_eq_true_eq, Bool.true_and]
        omega
    · refine kind_both x ⟨x.f0, 0, 0, 0, 0, 0, 0, x.f7, (⟨0, 0, 0, 0, 0⟩ : S77), (⟨#[]⟩ : ByteArray), 0⟩ (decide (-10000 ≤ x.f7 ∧ x.f7 ≤ 10000)) rfl (by omega) (by omega) (fun k => used_4 k x h) (fun k => node_4 k x h) (fun hE => ?_)
      rcases tail_kind _ _ hE with e | ⟨et, e0, e1, e2, e3, e4, e5, e6, e7, g0, g1, g2, g3, g4, e10⟩
      all_goals try dsimp only at et e0 e1 e2 e3 e4 e5 e6 e7 g0 g1 g2 g3 g4 e10
      · have et := congrArg (fun z : S132 => z.f9.size) e; have e0 := congrArg S132.f0 e; have e1 := congrArg S132.f1 e; have e2 := congrArg S132.f2 e; have e3 := congrArg S132.f3 e; have e4 := congrArg S132.f4 e; have e5 := congrArg S132.f5 e; have e6 := congrArg S132.f6 e; have e7 := congrArg S132.f7 e; have e10 := congrArg S132.f10 e; have g0 := congrArg (fun z : S132 => z.f8.f0) e; have g1 := congrArg (fun z : S132 => z.f8.f1) e; have g2 := congrArg (fun z : S132 => z.f8.f2) e; have g3 := congrArg (fun z : S132 => z.f8.f3) e; have g4 := congrArg (fun z : S132 => z.f8.f4) e
        dsimp only at et e0 e1 e2 e3 e4 e5 e6 e7 g0 g1 g2 g3 g4 e10
        clear e
        have et2 : x.f9.size = 0 := et.symm.trans rfl; rw [Bool.eq_iff_iff]
        simp only [tailB, fitsB, glueB, ordB, Bool.and_eq_true, decide_eq_true_eq, Bool.true_and]
        omega
      · have et2 := size_empty et; rw [Bool.eq_iff_iff]
        simp only [tailB, fitsB, glueB, ordB, Bool.and_eq_true, decide_eq_true_eq, Bool.true_and]
        omega
    · refine kind_both x ⟨x.f0, x.f1, x.f2, x.f3, 0, 0, 0, 0, (⟨0, 0, 0, 0, 0⟩ : S77), (⟨#[]⟩ : ByteArray), 0⟩ (true) rfl (by omega) (by omega) (fun k => used_5 k x h) (fun k => node_5 k x h) (fun hE => ?_)
      rcases tail_kind _ _ hE with e | ⟨et, e0, e1, e2, e3, e4, e5, e6, e7, g0, g1, g2, g3, g4, e10⟩
      all_goals try dsimp only at et e0 e1 e2 e3 e4 e5 e6 e7 g0 g1 g2 g3 g4 e10
      · have et := congrArg (fun z : S132 => z.f9.size) e; have e0 := congrArg S132.f0 e; have e1 := congrArg S132.f1 e; have e2 := congrArg S132.f2 e; have e3 := congrArg S132.f3 e; have e4 := congrArg S132.f4 e; have e5 := congrArg S132.f5 e; have e6 := congrArg S132.f6 e; have e7 := congrArg S132.f7 e; have e10 := congrArg S132.f10 e; have g0 := congrArg (fun z : S132 => z.f8.f0) e; have g1 := congrArg (fun z : S132 => z.f8.f1) e; have g2 := congrArg (fun z : S132 => z.f8.f2) e; have g3 := congrArg (fun z : S132 => z.f8.f3) e; have g4 := congrArg (fun z : S132 => z.f8.f4) e
        dsimp only at et e0 e1 e2 e3 e4 e5 e6 e7 g0 g1 g2 g3 g4 e10
        clear e
        have et2 : x.f9.size = 0 := et.symm.trans rfl; rw [Bool.eq_iff_iff]
        simp only [tailB, fitsB, glueB, ordB, Bool.and_eq_true, decide_eq_true_eq, Bool.true_and]
        omega
      · have et2 := size_empty et; rw [Bool.eq_iff_iff]
        simp only [tailB, fitsB, glueB, ordB, Bool.and_eq_true, decide_eq_true_eq, Bool.true_and]
        omega
    · refine kind_both x ⟨x.f0, x.f1, x.f2, x.f3, x.f4, 0, 0, 0, (⟨0, 0, 0, 0, 0⟩ : S77), (⟨#[]⟩ : ByteArray), x.f10⟩ (true) rfl (by omega) (by omega) (fun k => used_6 k x h) (fun k => node_6 k x h) (fun hE => ?_)
      rcases tail_kind _ _ hE with e | ⟨et, e0, e1, e2, e3, e4, e5, e6, e7, g0, g1, g2, g3, g4, e10⟩
      all_goals try dsimp only at et e0 e1 e2 e3 e4 e5 e6 e7 g0 g1 g2 g3 g4 e10
      · have et := congrArg (fun z : S132 => z.f9.size) e; have e0 := congrArg S132.f0 e; have e1 := congrArg S132.f1 e; have e2 := congrArg S132.f2 e; have e3 := congrArg S132.f3 e; have e4 := congrArg S132.f4 e; have e5 := congrArg S132.f5 e; have e6 := congrArg S132.f6 e; have e7 := congrArg S132.f7 e; have e10 := congrArg S132.f10 e; have g0 := congrArg (fun z : S132 => z.f8.f0) e; have g1 := congrArg (fun z : S132 => z.f8.f1) e; have g2 := congrArg (fun z : S132 => z.f8.f2) e; have g3 := congrArg (fun z : S132 => z.f8.f3) e; have g4 := congrArg (fun z : S132 => z.f8.f4) e
        dsimp only at et e0 e1 e2 e3 e4 e5 e6 e7 g0 g1 g2 g3 g4 e10
        clear e
        have et2 : x.f9.size = 0 := et.symm.trans rfl; rw [Bool.eq_iff_iff]
        simp only [tailB, fitsB, glueB, ordB, Bool.and_eq_true, decide_eq_true_eq, Bool.true_and]
        omega
      · have et2 := size_empty et; rw [Bool.eq_iff_iff]
        simp only [tailB, fitsB, glueB, ordB, Bool.and_eq_true, decide_eq_true_eq, Bool.true_and]
        omega
    · refine kind_both x ⟨x.f0, x.f1, x.f2, x.f3, x.f4, 0, 0, 0, (⟨0, 0, 0, 0, 0⟩ : S77), (⟨#[]⟩ : ByteArray), x.f10⟩ (true) rfl (by omega) (by omega) (fun k => used_7 k x h) (fun k => node_7 k x h) (fun hE => ?_)
      rcases tail_kind _ _ hE with e | ⟨et, e0, e1, e2, e3, e4, e5, e6, e7, g0, g1, g2, g3, g4, e10⟩
      all_goals try dsimp only at et e0 e1 e2 e3 e4 e5 e6 e7 g0 g1 g2 g3 g4 e10
      · have et := congrArg (fun z : S132 => z.f9.size) e; have e0 := congrArg S132.f0 e; have e1 := congrArg S132.f1 e; have e2 := congrArg S132.f2 e; have e3 := congrArg S132.f3 e; have e4 := congrArg S132.f4 e; have e5 := congrArg S132.f5 e; have e6 := congrArg S132.f6 e; have e7 := congrArg S132.f7 e; have e10 := congrArg S132.f10 e; have g0 := congrArg (fun z : S132 => z.f8.f0) e; have g1 := congrArg (fun z : S132 => z.f8.f1) e; have g2 := congrArg (fun z : S132 => z.f8.f2) e; have g3 := congrArg (fun z : S132 => z.f8.f3) e; have g4 := congrArg (fun z : S132 => z.f8.f4) e
        dsimp only at et e0 e1 e2 e3 e4 e5 e6 e7 g0 g1 g2 g3 g4 e10
        clear e
        have et2 : x.f9.size = 0 := et.symm.trans rfl; rw [Bool.eq_iff_iff]
        simp only [tailB, fitsB, glueB, ordB, Bool.and_eq_true, decide_eq_true_eq, Bool.true_and]
        omega
      · have et2 := size_empty et; rw [Bool.eq_iff_iff]
        simp only [tailB, fitsB, glueB, ordB, Bool.and_eq_true, decide_eq_true_eq, Bool.true_and]
        omega
    · refine kind_both x ⟨x.f0, 0, 0, 0, 0, 0, 0, 0, (⟨0, 0, 0, 0, 0⟩ : S77), x.f9, 0⟩ (decide ((x.f9.size : Int) ≤ 1000)) rfl (by omega) (by omega) (fun k => used_9 k x h) (fun k => node_9 k x h) (fun hE => ?_)
      rcases tail_kind _ _ hE with e | ⟨et, e0, e1, e2, e3, e4, e5, e6, e7, g0, g1, g2, g3, g4, e10⟩
      all_goals try dsimp only at et e0 e1 e2 e3 e4 e5 e6 e7 g0 g1 g2 g3 g4 e10
      · have et := congrArg (fun z : S132 => z.f9.size) e; have e0 := congrArg S132.f0 e; have e1 := congrArg S132.f1 e; have e2 := congrArg S132.f2 e; have e3 := congrArg S132.f3 e; have e4 := congrArg S132.f4 e; have e5 := congrArg S132.f5 e; have e6 := congrArg S132.f6 e; have e7 := congrArg S132.f7 e; have e10 := congrArg S132.f10 e; have g0 := congrArg (fun z : S132 => z.f8.f0) e; have g1 := congrArg (fun z : S132 => z.f8.f1) e; have g2 := congrArg (fun z : S132 => z.f8.f2) e; have g3 := congrArg (fun z : S132 => z.f8.f3) e; have g4 := congrArg (fun z : S132 => z.f8.f4) e
        dsimp only at et e0 e1 e2 e3 e4 e5 e6 e7 g0 g1 g2 g3 g4 e10
        clear e
        rw [Bool.eq_iff_iff]
        simp only [tailB, fitsB, glueB, ordB, Bool.and_eq_true, decide_eq_true_eq, Bool.true_and]
        omega
      · rw [Bool.eq_iff_iff]
        simp only [tailB, fitsB, glueB, ordB, Bool.and_eq_true, decide_eq_true_eq, Bool.true_and]
        omega
    · refine kind_both x ⟨x.f0, 0, 0, 0, 0, 0, 0, 0, (⟨0, 0, 0, 0, 0⟩ : S77), x.f9, 0⟩ (decide ((x.f9.size : Int) ≤ 1000)) rfl (by omega) (by omega) (fun k => used_10 k x h) (fun k => node_10 k x h) (fun hE => ?_)
      rcases tail_kind _ _ hE with e | ⟨et, e0, e1, e2, e3, e4, e5, e6, e7, g0, g1, g2, g3, g4, e10⟩
      all_goals try dsimp only at et e0 e1 e2 e3 e4 e5 e6 e7 g0 g1 g2 g3 g4 e10
      · have et := congrArg (fun z : S132 => z.f9.size) e; have e0 := congrArg S132.f0 e; have e1 := congrArg S132.f1 e; have e2 := congrArg S132.f2 e; have e3 := congrArg S132.f3 e; have e4 := congrArg S132.f4 e; have e5 := congrArg S132.f5 e; have e6 := congrArg S132.f6 e; have e7 := congrArg S132.f7 e; have e10 := congrArg S132.f10 e; have g0 := congrArg (fun z : S132 => z.f8.f0) e; have g1 := congrArg (fun z : S132 => z.f8.f1) e; have g2 := congrArg (fun z : S132 => z.f8.f2) e; have g3 := congrArg (fun z : S132 => z.f8.f3) e; have g4 := congrArg (fun z : S132 => z.f8.f4) e
        dsimp only at et e0 e1 e2 e3 e4 e5 e6 e7 g0 g1 g2 g3 g4 e10
        clear e
        rw [Bool.eq_iff_iff]
        simp only [tailB, fitsB, glueB, ordB, Bool.and_eq_true, decide_eq_true_eq, Bool.true_and]
        omega
      · rw [Bool.eq_iff_iff]
        simp only [tailB, fitsB, glueB, ordB, Bool.and_eq_true, decide_eq_true_eq, Bool.true_and]
        omega
    · refine kind_both x ⟨x.f0, 0, x.f2, 0, 0, 0, 0, x.f7, (⟨0, 0, 0, 0, 0⟩ : S77), (⟨#[]⟩ : ByteArray), x.f10⟩ (decide (0 ≤ x.f7 ∧ x.f7 ≤ 15)) rfl (by omega) (by omega) (fun k => used_11 k x h) (fun k => node_11 k x h) (fun hE => ?_)
      rcases tail_kind _ _ hE with e | ⟨et, e0, e1, e2, e3, e4, e5, e6, e7, g0, g1, g2, g3, g4, e10⟩
      all_goals try dsimp only at et e0 e1 e2 e3 e4 e5 e6 e7 g0 g1 g2 g3 g4 e10
      · have et := congrArg (fun z : S132 => z.f9.size) e; have e0 := congrArg S132.f0 e; have e1 := congrArg S132.f1 e; have e2 := congrArg S132.f2 e; have e3 := congrArg S132.f3 e; have e4 := congrArg S132.f4 e; have e5 := congrArg S132.f5 e; have e6 := congrArg S132.f6 e; have e7 := congrArg S132.f7 e; have e10 := congrArg S132.f10 e; have g0 := congrArg (fun z : S132 => z.f8.f0) e; have g1 := congrArg (fun z : S132 => z.f8.f1) e; have g2 := congrArg (fun z : S132 => z.f8.f2) e; have g3 := congrArg (fun z : S132 => z.f8.f3) e; have g4 := congrArg (fun z : S132 => z.f8.f4) e
        dsimp only at et e0 e1 e2 e3 e4 e5 e6 e7 g0 g1 g2 g3 g4 e10
        clear e
        have et2 : x.f9.size = 0 := et.symm.trans rfl; rw [Bool.eq_iff_iff]
        simp only [tailB, fitsB, glueB, ordB, Bool.and_eq_true, decide_eq_true_eq, Bool.true_and]
        omega
      · have et2 := size_empty et; rw [Bool.eq_iff_iff]
        simp only [tailB, fitsB, glueB, ordB, Bool.and_eq_true, decide_eq_true_eq, Bool.true_and]
        omega
theorem ok_ex : ∃ ok : S132 → Bool, ∀ (x : S132) (k : Nat), 8 ≤ k → spec_l8NodeOk.f k x.f0 x.f1 x.f2 x.f3 x.f4 x.f5 x.f6 x.f7 x.f8.f0 x.f8.f1 x.f8.f2 x.f8.f3 x.f8.f4 x.f9 x.f10 = some (ok x) ∧ impl_nodeOk.f k x.f0 x.f1 x.f2 x.f3 x.f4 x.f5 x.f6 x.f7 x.f8.f0 x.f8.f1 x.f8.f2 x.f8.f3 x.f8.f4 x.f9 x.f10 = some (ok x && decide (0 ≤ x.f10)) :=
  ⟨fun x => (node_both x).choose, fun x k hk => (node_both x).choose_spec k hk⟩
def deepB (x : S132) : Bool := decide (x.f0 = 6 ∨ x.f0 = 7 ∨ x.f0 = 11)
theorem deep_s (x : S132) : spec_l8Deep.f x.f0 x.f1 x.f2 x.f3 x.f4 x.f5 x.f6 x.f7 x.f8.f0 x.f8.f1 x.f8.f2 x.f8.f3 x.f8.f4 x.f9 x.f10 = some (deepB x) := by
  unfold spec_l8Deep.f deepB
  by_cases h6 : x.f0 = 6
  · rw [if_pos h6]; simp [h6]
  · by_cases h7 : x.f0 = 7
    · rw [if_neg h6, if_pos h7]; simp [h7]
    · rw [if_neg h6, if_neg h7]; congr 1; rw [Bool.eq_iff_iff]; simp [h6, h7]
theorem deep_i (x : S132) : impl_holds.f x.f0 x.f1 x.f2 x.f3 x.f4 x.f5 x.f6 x.f7 x.f8.f0 x.f8.f1 x.f8.f2 x.f8.f3 x.f8.f4 x.f9 x.f10 = some (deepB x) := by
  unfold impl_holds.f impl_isBox.f deepB
  by_cases h6 : x.f0 = 6
  · rw [if_pos h6, Option.bind_some, if_pos rfl]; simp [h6]
  · rw [if_neg h6, Option.bind_some]
    by_cases h7 : x.f0 = 7
    · rw [if_pos (beq_iff_eq.mpr h7)]; simp [h7]
    · rw [if_neg (by simp [h7])]; congr 1; rw [Bool.eq_iff_iff]; simp [h6, h7]
theorem wr_add (a b : Nat) (h : a + b ≤ 1000000) : wrap64 ((a : Int) + (b : Int)) = ((a + b : Nat) : Int) := by
  unfold wrap64
  omega
def kidsI (x : S132) : Int := x.f10
section
variable (ok : S132 → Bool) (hok_ : ∀ (x : S132) (k : Nat), 8 ≤ k → spec_l8NodeOk.f k x.f0 x.f1 x.f2 x.f3 x.f4 x.f5 x.f6 x.f7 x.f8.f0 x.f8.f1 x.f8.f2 x.f8.f3 x.f8.f4 x.f9 x.f10 = some (ok x) ∧ impl_nodeOk.f k x.f0 x.f1 x.f2 x.f3 x.f4 x.f5 x.f6 x.f7 x.f8.f0 x.f8.f1 x.f8.f2 x.f8.f3 x.f8.f4 x.f9 x.f10 = some (ok x && decide (0 ≤ x.f10)))
include hok_
theorem nested_l : ∀ s : Nat, ∀ (l : List S132) (deep : Nat) (most : Int) (i k : Nat), l.length ≤ 20000 → deep ≤ 41 → i ≤ l.length → l.length - i = s → 3 * s + 12 ≤ k →
    ∃ m b, impl_nested.l0 k l (deep : Int) most (i : Int) = some (m, b) ∧ (b = true ↔ ∃ d, Nest.N ok deepB kidsI (l.drop i) = some d ∧ (d = 0 ∨ deep + d ≤ 41)) := by
  intro s
  induction s using Nat.strongRecOn with
  | ind s ih =>
  intro l deep most i k hl hdp hil hs hk
  obtain ⟨k, rfl⟩ : ∃ q, k = q + 1 := ⟨k - 1, by omega⟩
  rw [impl_nested.l0]
  by_cases hi : i < l.length
  · rw [if_pos (by omega), if_pos (by omega), rdNode_b l i hi]
    have hd : l.drop i = l[i] :: l.drop (i + 1) := List.drop_eq_getElem_cons hi
    have hN := Nest.N_cons ok deepB kidsI l[i] (l.drop (i + 1))
    rw [← hd, List.length_drop] at hN
    generalize l[i] = x at hN
    rw [(hok_ x k (by omega)).2, Option.bind_some]
    obtain ⟨k, rfl⟩ : ∃ q, k = q + 1 := ⟨k - 1, by omega⟩
    by_cases hok : ok x = true ∧ 0 ≤ x.f10 ∧ x.f10 ≤ ((l.length - (i + 1) : Nat) : Int)
    · rw [if_pos (show ok x = true ∧ 0 ≤ kidsI x ∧ kidsI x ≤ ((l.length - (i + 1) : Nat) : Int) from hok)] at hN
      have w0 := Aside0.mk (show wrap64 ((l.length : Int) - (i : Int)) = (l.length : Int) - (i : Int) from wrap_in _ (by omega) (by omega))
      have w1 := Aside0.mk (show wrap64 ((l.length : Int) - (i : Int) - 1) = (l.length : Int) - (i : Int) - 1 from wrap_in _ (by omega) (by omega))
      rw [show (ok x && decide (0 ≤ x.f10)) = true by simp [hok.1, hok.2.1], if_pos rfl, impl_nested.j1, w0.out, w1.out, show decide (x.f10 > (l.length : Int) - (i : Int) - 1) = false from decide_eq_false (by omega), if_neg (by decide), deep_i, Option.bind_some]
      cases hdeep : deepB x with
      | false =>
        rw [hdeep, if_neg (by decide)] at hN
        rw [if_neg (by decide), wrap_succ i (by omega)]
        obtain ⟨m, b, h1, h2⟩ := ih (s - 1) (by omega) l deep most (i + 1) k hl hdp (by omega) (by omega) (by omega)
        exact ⟨m, b, h1, by rw [h2]; exact Iff.of_eq (by rw [show Nest.N ok deepB kidsI (l.drop i) = Nest.N ok deepB kidsI (l.drop (i + 1)) from hN])⟩
      | true =>
        rw [hdeep, if_pos rfl] at hN
        rw [if_pos rfl]
        obtain ⟨q, hq⟩ : ∃ q : Nat, x.f10 = (q : Int) := ⟨x.f10.toNat, by omega⟩
        rw [show kidsI x = (q : Int) from hq, Int.toNat_natCast] at hN
        by_cases h40 : (deep : Int) > 40
        · rw [if_pos h40]
          refine ⟨0, false, rfl, ⟨fun h => by simp at h, fun ⟨d, h1, h2⟩ => ?_⟩⟩
          exfalso
          have h1 : Nest.N ok deepB kidsI (l.drop i) = some d := h1
          rw [hN] at h1
          obtain ⟨a, _, h1⟩ := Option.bind_eq_some_iff.mp h1
          obtain ⟨b, _, h1⟩ := Option.bind_eq_some_iff.mp h1
          have h1 := Option.some.inj h1
          omega
        · have w2 := Aside0.mk (show wrap64 ((i : Int) + 1) = ((i + 1 : Nat) : Int) from wrap_succ i (by omega))
          have w3 := Aside0.mk (show wrap64 (((i + 1 : Nat) : Int) + (q : Int)) = ((i + 1 + q : Nat) : Int) from wr_add (i + 1) q (by omega))
          have w4 := Aside0.mk (show wrap64 ((i : Int) + (q : Int)) = ((i + q : Nat) : Int) from wr_add i q (by omega))
          have w5 := Aside0.mk (show wrap64 (((i + q : Nat) : Int) + 1) = ((i + 1 + q : Nat) : Int) from by rw [wrap_succ (i + q) (by omega), show i + q + 1 = i + 1 + q by omega])
          have w6 := Aside0.mk (show wrap64 ((deep : Int) + 1) = ((deep + 1 : Nat) : Int) from wrap_succ deep (by omega))
          rw [if_neg h40, hq, w2.out, w3.out, w4.out, w5.out, w6.out, if_pos (by omega), if_pos (by omega), if_pos (by omega), Int.toNat_natCast, Int.toNat_natCast]
          have e1 : (l.take (i + 1 + q)).drop (i + 1) = (l.drop (i + 1)).take q := by rw [List.drop_take]; congr 1; omega
          rw [e1]
          have hlen : ((l.drop (i + 1)).take q).length = q := by rw [List.length_take, List.length_drop]; omega
          obtain ⟨k, rfl⟩ : ∃ q, k = q + 1 := ⟨k - 1, by omega⟩
          rw [impl_nested.f]
          obtain ⟨m1, b1, h1, h2⟩ := ih q (by omega) ((l.drop (i + 1)).take q) (deep + 1) (-1) 0 k (by omega) (by omega) (by omega) (by omega) (by omega)
          rw [show ((0 : Nat) : Int) = 0 from rfl] at h1
          rw [h1, Option.bind_some]
          rw [List.drop_zero] at h2
          replace h2 := Aside0.mk h2
          cases b1 with
          | false =>
            rw [if_neg (by simp)]
            refine ⟨0, false, rfl, ⟨fun h => by simp at h, fun ⟨d, g1, g2⟩ => ?_⟩⟩
            have g1 : Nest.N ok deepB kidsI (l.drop i) = some d := g1
            rw [hN] at g1
            obtain ⟨a, ha, g1⟩ := Option.bind_eq_some_iff.mp g1
            obtain ⟨b, _, g1⟩ := Option.bind_eq_some_iff.mp g1
            have g1 := Option.some.inj g1
            have := h2.out.mpr ⟨a, ha, by omega⟩
            simp at this
          | true =>
            rw [if_pos rfl]
            obtain ⟨a, ha, ha2⟩ := h2.out.mp rfl
            clear h2
            obtain ⟨m2, b2, h3, h4⟩ := ih (l.length - (i + 1 + q)) (by omega) l deep (mx (mx most (deep : Int)) m1) (i + 1 + q) (k + 1) hl hdp (by omega) rfl (by omega)
            refine ⟨m2, b2, h3, ?_⟩
            rw [h4]
            clear h4
            have ha : Nest.N ok deepB kidsI ((l.drop (i + 1)).take q) = some a := ha
            rw [ha, Option.bind_some, List.drop_drop] at hN
            constructor
            · rintro ⟨d, g1, g2⟩
              have g1 : Nest.N ok deepB kidsI (l.drop (i + 1 + q)) = some d := g1
              rw [g1, Option.bind_some] at hN
              exact ⟨_, hN, by omega⟩
            · rintro ⟨d, g1, g2⟩
              have g1 : Nest.N ok deepB kidsI (l.drop i) = some d := g1
              rw [hN] at g1
              obtain ⟨b, hb, g1⟩ := Option.bind_eq_some_iff.mp g1
              have g1 := Option.some.inj g1
              exact ⟨b, hb, by omega⟩
    · rw [if_neg (show ¬ (ok x = true ∧ 0 ≤ kidsI x ∧ kidsI x ≤ ((l.length - (i + 1) : Nat) : Int)) from hok)] at hN
      have hbad : ∀ kk, impl_nested.j1 (kk + 1) l (deep : Int) most (i : Int) true x.f0 x.f1 x.f2 x.f3 x.f4 x.f5 x.f6 x.f7 x.f8.f0 x.f8.f1 x.f8.f2 x.f8.f3 x.f8.f4 x.f9 x.f10 = some (0, false) := fun kk => by rw [impl_nested.j1, if_pos rfl]
      refine ⟨0, false, ?_, ⟨fun h => by simp at h, fun ⟨d, g1, g2⟩ => ?_⟩⟩
      · by_cases ht : (ok x && decide (0 ≤ x.f10)) = true
        · rw [ht, if_pos rfl]
          simp only [Bool.and_eq_true, decide_eq_true_eq] at ht
          have w0 := Aside0.mk (show wrap64 ((l.length : Int) - (i : Int)) = (l.length : Int) - (i : Int) from wrap_in _ (by omega) (by omega))
          have w1 := Aside0.mk (show wrap64 ((l.length : Int) - (i : Int) - 1) = (l.length : Int) - (i : Int) - 1 from wrap_in _ (by omega) (by omega))
          have hgt : x.f10 > (l.length : Int) - (i : Int) - 1 := by
            have : ¬ (x.f10 ≤ ((l.length - (i + 1) : Nat) : Int)) := fun h => hok ⟨ht.1, ht.2, h⟩
            omega
          rw [w0.out, w1.out, show decide (x.f10 > (l.length : Int) - (i : Int) - 1) = true from decide_eq_true hgt]
          exact hbad k
        · rw [if_neg ht]
          exact hbad k
      · have g1 : Nest.N ok deepB kidsI (l.drop i) = some d := g1
        rw [hN] at g1
        cases g1
  · rw [if_neg (by omega)]
    refine ⟨most, true, rfl, ⟨fun _ => ⟨0, ?_, .inl rfl⟩, fun _ => rfl⟩⟩
    rw [show l.drop i = [] from List.drop_eq_nil_of_le (by omega)]
    exact Nest.N_nil ok deepB kidsI
end

def tops (es : List Nat) : List Int := (es.map (fun n : Nat => (n : Int))).reverse
theorem tops_len (es : List Nat) : (tops es).length = es.length := by simp [tops]
theorem tops_cons (e : Nat) (es : List Nat) : tops (e :: es) = tops es ++ [(e : Int)] := by simp [tops]
theorem tops_rd (e : Nat) (es : List Nat) : rd (tops (e :: es)) ((es.length : Nat) : Int) = (e : Int) := by
  rw [tops_cons]
  unfold rd
  rw [Int.toNat_natCast, List.getD_eq_getElem?_getD, List.getElem?_append_right (by rw [tops_len]; omega), tops_len]
  simp
theorem tops_take (e : Nat) (es : List Nat) : (tops (e :: es)).take es.length = tops es := by
  rw [tops_cons, List.take_append_of_le_length (by rw [tops_len]; omega), List.take_of_length_le (by rw [tops_len]; omega)]
section
variable (ok : S132 → Bool) (hok_ : ∀ (x : S132) (k : Nat), 8 ≤ k → spec_l8NodeOk.f k x.f0 x.f1 x.f2 x.f3 x.f4 x.f5 x.f6 x.f7 x.f8.f0 x.f8.f1 x.f8.f2 x.f8.f3 x.f8.f4 x.f9 x.f10 = some (ok x) ∧ impl_nodeOk.f k x.f0 x.f1 x.f2 x.f3 x.f4 x.f5 x.f6 x.f7 x.f8.f0 x.f8.f1 x.f8.f2 x.f8.f3 x.f8.f4 x.f9 x.f10 = some (ok x && decide (0 ≤ x.f10)))
noncomputable def res (l : List S132) (i : Nat) (es : List Nat) (most : Nat) : Int := match Nest.V ok deepB kidsI l i es with | none => -1 | some x => ((max most x : Nat) : Int)
theorem V_end (l : List S132) : ∀ es : List Nat, Nest.sorted l l.length es → Nest.V ok deepB kidsI l l.length es = some 0
  | [], _ => by
    rw [Nest.V, List.drop_length, Nest.N_nil]
    rfl
  | e :: es, h => by
    have h1 := Nest.sorted_lim h.2
    have e1 : e = l.length := by have := h.1; omega
    subst e1
    rw [Nest.V_pop]
    exact V_end l es h.2
include hok_
theorem j4_bad (k : Nat) (l : List S132) (es : List Nat) (most i : Nat) (x : S132) : spec_l8Nest.j4 (k + 1) l (tops es) (most : Int) (i : Int) true x.f0 x.f1 x.f2 x.f3 x.f4 x.f5 x.f6 x.f7 x.f8.f0 x.f8.f1 x.f8.f2 x.f8.f3 x.f8.f4 x.f9 x.f10 = some (-1) := by
  rw [spec_l8Nest.j4, if_pos rfl]
/-- Where a node is read: what comes behind it is told by S. -/
theorem j2_s (f : Nat) (l : List S132) (hl : l.length ≤ 20000)
    (S : ∀ (es : List Nat) (most i k : Nat), Nest.sorted l i es → es.length ≤ i → 6 * (l.length - i) + es.length ≤ f → f + 20 ≤ k → spec_l8Nest.l0 k l (tops es) (most : Int) (i : Int) = some (res ok l i es most))
    (es : List Nat) (most i k : Nat) (hs : Nest.sorted l i es) (hei : es.length ≤ i) (hi : i < Nest.lim l es) (hf : 6 * (l.length - (i + 1)) + es.length + 1 ≤ f) (hk : f + 23 ≤ k) :
    spec_l8Nest.j2 k l (tops es) (most : Int) (i : Int) = some (res ok l i es most) := by
  have h1 := (Nest.sorted_lim hs).2
  have hlt : i < l.length := by omega
  obtain ⟨k, rfl⟩ : ∃ q, k = q + 3 := ⟨k - 3, by omega⟩
  have hj3 : spec_l8Nest.j2 (k + 3) l (tops es) (most : Int) (i : Int) = spec_l8Nest.j3 (k + 2) l (tops es) (most : Int) (i : Int) ((Nest.lim l es : Nat) : Int) l[i].f0 l[i].f1 l[i].f2 l[i].f3 l[i].f4 l[i].f5 l[i].f6 l[i].f7 l[i].f8.f0 l[i].f8.f1 l[i].f8.f2 l[i].f8.f3 l[i].f8.f4 l[i].f9 l[i].f10 := by
    rw [show k + 3 = (k + 2) + 1 from rfl, spec_l8Nest.j2, if_pos (by omega), if_pos (by omega), rdNode_b l i hlt]
    cases es with
    | nil => rw [if_neg (by simp [tops])]; rfl
    | cons e es =>
      have hlen : ((tops (e :: es)).length : Int) = ((es.length + 1 : Nat) : Int) := by rw [tops_len]; rfl
      have w : wrap64 (((es.length + 1 : Nat) : Int) - 1) = ((es.length : Nat) : Int) := by rw [wrap_in _ (by simp only [List.length_cons] at hei; omega) (by simp only [List.length_cons] at hei; omega)]; omega
      rw [hlen, if_pos (by omega), w, if_pos (by omega), if_pos (by omega), tops_rd]
      rfl
  rw [hj3]
  have hn : l[i]? = some l[i] := List.getElem?_eq_getElem hlt
  have hbad := Nest.V_bad ok deepB kidsI hs hi l[i] hn
  have hgood := Nest.V_step ok deepB kidsI hs hi l[i] hn
  generalize l[i] = x at hbad hgood ⊢
  rw [show k + 2 = (k + 1) + 1 from rfl, spec_l8Nest.j3, (hok_ x (k + 1) (by omega)).1, Option.bind_some]
  obtain ⟨L, hL⟩ : ∃ L, L = Nest.lim l es := ⟨_, rfl⟩
  rw [← hL] at hi h1 hbad hgood ⊢
  have w0 := Aside0.mk (show wrap64 ((L : Int) - (i : Int)) = (L : Int) - (i : Int) from wrap_in _ (by omega) (by omega))
  have w1 := Aside0.mk (show wrap64 ((L : Int) - (i : Int) - 1) = (L : Int) - (i : Int) - 1 from wrap_in _ (by omega) (by omega))
  rw [w0.out, w1.out]
  by_cases hg : ok x = true ∧ 0 ≤ x.f10 ∧ x.f10 ≤ ((L - i - 1 : Nat) : Int)
  · have hv := Aside0.mk (hgood hg)
    clear hbad hgood
    rw [hg.1, if_pos rfl, if_neg (by omega), show decide (x.f10 > (L : Int) - (i : Int) - 1) = false from decide_eq_false (by omega), spec_l8Nest.j4, if_neg (by decide), deep_s, Option.bind_some]
    have w2 := Aside0.mk (show wrap64 ((i : Int) + 1) = ((i + 1 : Nat) : Int) from wrap_succ i (by omega))
    rw [w2.out]
    cases hd : deepB x with
    | false =>
      rw [if_neg (by decide), S es most (i + 1) k (Nest.sorted_up hs (by omega)) (by omega) (by omega) (by omega)]
      unfold res
      rw [hv.out.1 hd]
    | true =>
      obtain ⟨q, hq⟩ : ∃ q : Nat, x.f10 = (q : Int) := ⟨x.f10.toNat, by omega⟩
      have w3 := Aside0.mk (show wrap64 (((tops es).length : Int) + 1) = ((es.length + 1 : Nat) : Int) from by rw [tops_len]; exact wrap_succ es.length (by omega))
      have w4 := Aside0.mk (show wrap64 (((i + 1 : Nat) : Int) + (q : Int)) = ((i + 1 + q : Nat) : Int) from wr_add (i + 1) q (by omega))
      have hv2 := Aside0.mk (hv.out.2.1 hd)
      have hv3 := Aside0.mk (hv.out.2.2 hd)
      clear hv
      rw [show (kidsI x).toNat = q by unfold kidsI; omega] at hv2 hv3
      rw [if_pos rfl, hq, w3.out, w4.out]
      have hsort : Nest.sorted l (i + 1) ((i + 1 + q) :: es) := ⟨by omega, Nest.sorted_up hs (by omega)⟩
      -- what follows, whether it is pushed or not
      have hnext : ∀ m : Nat, (if (q : Int) > 0 then (if (tops es).length < 17592186044416 then spec_l8Nest.l0 k l (tops es ++ [((i + 1 + q : Nat) : Int)]) (m : Int) ((i + 1 : Nat) : Int) else none) else spec_l8Nest.l0 k l (tops es) (m : Int) ((i + 1 : Nat) : Int)) = some (res ok l (i + 1) ((i + 1 + q) :: es) m) := by
        intro m
        by_cases h0 : (q : Int) > 0
        · rw [if_pos h0, if_pos (by rw [tops_len]; omega), ← tops_cons]
          exact S ((i + 1 + q) :: es) m (i + 1) k hsort (by simp only [List.length_cons]; omega) (by simp only [List.length_cons]; omega) (by omega)
        · have q0 : q = 0 := by omega
          subst q0
          rw [if_neg h0, S es m (i + 1) k (Nest.sorted_up hs (by omega)) (by omega) (by omega) (by omega)]
          unfold res
          rw [show i + 1 + 0 = i + 1 from rfl, Nest.V_pop]
      by_cases hm : ((es.length + 1 : Nat) : Int) > (most : Int)
      · rw [if_pos hm, hnext (es.length + 1)]
        congr 1
        unfold res
        cases hV : Nest.V ok deepB kidsI l (i + 1) ((i + 1 + q) :: es) with
        | none => rw [hv3.out.mpr hV]
        | some y =>
          rw [(hv2.out (max (es.length + 1) y)).mpr ⟨y, hV, rfl⟩]
          show ((max (es.length + 1) y : Nat) : Int) = ((max most (max (es.length + 1) y) : Nat) : Int)
          clear hv2 hv3
          omega
      · rw [if_neg hm, hnext most]
        congr 1
        unfold res
        cases hV : Nest.V ok deepB kidsI l (i + 1) ((i + 1 + q) :: es) with
        | none => rw [hv3.out.mpr hV]
        | some y =>
          rw [(hv2.out (max (es.length + 1) y)).mpr ⟨y, hV, rfl⟩]
          show ((max most y : Nat) : Int) = ((max most (max (es.length + 1) y) : Nat) : Int)
          clear hv2 hv3
          omega
  · have hv := hbad hg
    clear hbad hgood
    have hr : res ok l i es most = -1 := by unfold res; rw [hv]
    rw [hr]
    by_cases ht : ok x = true
    · rw [ht, if_pos rfl]
      by_cases h0 : x.f10 < 0
      · rw [if_pos h0]; exact j4_bad ok hok_ k l es most i x
      · rw [if_neg h0, show decide (x.f10 > (L : Int) - (i : Int) - 1) = true from decide_eq_true (by
          have : ¬ (x.f10 ≤ ((L - i - 1 : Nat) : Int)) := fun h => hg ⟨ht, by omega, h⟩
          omega)]
        exact j4_bad ok hok_ k l es most i x
    · rw [if_neg ht]; exact j4_bad ok hok_ k l es most i x
theorem nest_s (l : List S132) (hl : l.length ≤ 20000) : ∀ f : Nat, (∀ (es : List Nat) (most i k : Nat), Nest.sorted l i es → es.length ≤ i → 6 * (l.length - i) + es.length ≤ f → f + 20 ≤ k → spec_l8Nest.l0 k l (tops es) (most : Int) (i : Int) = some (res ok l i es most)) ∧
    (∀ (es : List Nat) (most i k : Nat), Nest.sorted l i es → es.length ≤ i → i < l.length → 6 * (l.length - i) + es.length ≤ f → f + 19 ≤ k → spec_l8Nest.l1 k l (tops es) (most : Int) (i : Int) = some (res ok l i es most)) := by
  intro f
  induction f using Nat.strongRecOn with
  | ind f ih =>
  have h1 : ∀ (es : List Nat) (most i k : Nat), Nest.sorted l i es → es.length ≤ i → i < l.length → 6 * (l.length - i) + es.length ≤ f → f + 19 ≤ k → spec_l8Nest.l1 k l (tops es) (most : Int) (i : Int) = some (res ok l i es most) := by
    intro es most i k hs hei hi hf hk
    obtain ⟨k, rfl⟩ : ∃ q, k = q + 1 := ⟨k - 1, by omega⟩
    have J := fun h => j2_s ok hok_ (f - 5) l hl (ih (f - 5) (by omega)).1 es most i k hs hei h (by omega) (by omega)
    rw [spec_l8Nest.l1]
    cases es with
    | nil => rw [if_neg (by simp [tops])]; exact J hi
    | cons e es =>
      simp only [List.length_cons] at hei hf
      have hlen : ((tops (e :: es)).length : Int) = ((es.length + 1 : Nat) : Int) := by rw [tops_len]; rfl
      have w := Aside0.mk (show wrap64 (((es.length + 1 : Nat) : Int) - 1) = ((es.length : Nat) : Int) from by rw [wrap_in _ (by omega) (by omega)]; omega)
      rw [hlen, if_pos (by omega), w.out, if_pos (by omega), if_pos (by omega), tops_rd]
      by_cases he : (e : Int) = (i : Int)
      · have he' : e = i := by omega
        subst he'
        rw [if_pos rfl, if_pos (by omega), Int.toNat_natCast, tops_take, (ih (f - 1) (by omega)).2 es most e k hs.2 (by omega) hi (by omega) (by omega)]
        unfold res
        rw [Nest.V_pop]
      · rw [if_neg he]
        exact J (by show i < e; have := hs.1; omega)
  refine ⟨fun es most i k hs hei hf hk => ?_, h1⟩
  obtain ⟨k, rfl⟩ : ∃ q, k = q + 1 := ⟨k - 1, by omega⟩
  rw [spec_l8Nest.l0]
  by_cases hi : i < l.length
  · rw [if_pos (by omega)]
    exact h1 es most i k hs hei hi hf (by omega)
  · have e1 : i = l.length := by have := Nest.sorted_lim hs; omega
    subst e1
    rw [if_neg (by omega)]
    unfold res
    rw [V_end ok l es hs]
    congr 1
    show (most : Int) = ((max most 0 : Nat) : Int)
    omega
end

theorem list_both (l : List S132) (hl : l.length ≤ 1048576) : ∃ b : Bool, ∀ k, 200000 ≤ k → spec_ListOk.f k l = some b ∧ impl_ListOk.f k l = some b := by
  obtain ⟨ok, hok_⟩ := ok_ex
  by_cases h : (l.length : Int) > 20000
  · refine ⟨false, fun k hk => ⟨?_, ?_⟩⟩
    · unfold spec_ListOk.f spec_l8Nest.f
      rw [if_pos h, Option.bind_some, if_neg (by decide)]
    · unfold impl_ListOk.f
      rw [if_pos h]
  · have hl2 : l.length ≤ 20000 := by omega
    refine ⟨decide (0 ≤ res ok l 0 [] 0 ∧ res ok l 0 [] 0 ≤ 41), fun k hk => ⟨?_, ?_⟩⟩
    · unfold spec_ListOk.f spec_l8Nest.f
      have e := (nest_s ok hok_ l hl2 (6 * l.length)).1 [] 0 0 k (Nat.zero_le _) (Nat.le_refl _) (by simp) (by omega)
      have e' : spec_l8Nest.l0 k l ([] : List Int) 0 0 = some (res ok l 0 [] 0) := e
      rw [if_neg h, e', Option.bind_some]
      generalize res ok l 0 [] 0 = r
      by_cases h0 : r ≥ 0
      · rw [if_pos h0]
        exact congrArg some (decide_eq_decide.mpr ⟨fun x => ⟨h0, x⟩, fun x => x.2⟩)
      · rw [if_neg h0]
        exact congrArg some (decide_eq_false (fun x => h0 x.1)).symm
    · unfold impl_ListOk.f
      obtain ⟨k, rfl⟩ : ∃ q, k = q + 1 := ⟨k - 1, by omega⟩
      obtain ⟨m, b, h1, h2⟩ := nested_l ok hok_ l.length l 0 (-1) 0 k hl2 (by omega) (Nat.zero_le _) rfl (by omega)
      have h1' : impl_nested.l0 k l 0 (-1) 0 = some (m, b) := h1
      rw [if_neg h, impl_nested.f, h1', Option.bind_some]
      show some b = _
      congr 1
      rw [Bool.eq_iff_iff, h2, decide_eq_true_eq, List.drop_zero]
      unfold res
      have hV : Nest.V ok deepB kidsI l 0 [] = (Nest.N ok deepB kidsI l).map (Nest.cnt 0) := rfl
      rw [hV]
      cases hN : Nest.N ok deepB kidsI l with
      | none =>
        constructor
        · rintro ⟨d, h, _⟩; cases h
        · intro hh; exact absurd hh.1 (by show ¬ ((0 : Int) ≤ -1); decide)
      | some d =>
        show (∃ d_1, some d = some d_1 ∧ (d_1 = 0 ∨ 0 + d_1 ≤ 41)) ↔ (0 : Int) ≤ ((max 0 (Nest.cnt 0 d) : Nat) : Int) ∧ ((max 0 (Nest.cnt 0 d) : Nat) : Int) ≤ 41
        have hc : Nest.cnt 0 d = d := by unfold Nest.cnt; split <;> omega
        rw [hc]
        constructor
        · rintro ⟨d', h, h'⟩
          cases h
          clear h1 h1' h2
          omega
        · intro hh
          exact ⟨d, rfl, by clear h1 h1' h2; omega⟩
theorem FnExactListOk : laws_FnExactListOk.Pure := by
  intro l0 hl0 hw
  obtain ⟨r, hr, hc⟩ := szNodeS_f l0 1048576 (by omega) (by omega) hl0 (fun x hx => (hw x hx).2.2.2.2.2.2.2.2.2.1)
  refine ⟨2000000, ?_⟩
  unfold laws_FnExactListOk.f
  rw [hr 2000000 (by omega), Option.bind_some]
  rcases hc with hc | ⟨hr0, hr1, hl, _⟩
  · rw [if_pos hc]
  · obtain ⟨b, hb⟩ := list_both (l0.map cvNode) (by simp; omega)
    have h := hb 2000000 (by omega)
    have hto := toNodeS_f l0 hl 2000000 (by omega)
    have heq := eqNodeS_f (l0.map cvNode) (by simp; omega) 2000000 (by simp; omega)
    rw [if_neg (by omega), hto, Option.bind_some, h.1, Option.bind_some, Option.bind_some, h.2, Option.bind_some, bne_self, if_neg (by decide), Option.bind_some, heq, Option.bind_some, if_pos rfl]


end Go.Proofs.Ytgfifmbbjoocgaa.Pure
