/- The pure statement of FnExactSumGlue: both sides add the same sizes and the same totals by order. No condition. -/
import Derived.Test.YtabamachefgilaaPFnExactSumGluex5
import Derived.Test.YtabamachefgilaaKit
namespace Go.Proofs.Ytabamachefgilaa.Pure
open Go.RowKit Go.Proofs.Ytabamachefgilaa.PFnExactSumGlue Go.Proofs.Ytabamachefgilaa.Kit Go.Proofs.YtabamachefgilaaW.PrintWords Go.Proofs.YtabamachefgilaaW.PrintLast Go.Proofs.YtabamachefgilaaW.PrintMore
set_option linter.unusedVariables false
set_option linter.unusedSimpArgs false

def fitsB (a : Int) : Bool := decide (-1073741823 ≤ a ∧ a ≤ 1073741823)
def ordB (a : Int) : Bool := decide (0 ≤ a ∧ a ≤ 3)
def glueB (a b c d e : Int) : Bool := fitsB a && fitsB b && fitsB d && ordB c && ordB e
theorem fits_s (a : Int) : spec_l1Fits.f a = some (fitsB a) := by
  unfold spec_l1Fits.f fitsB
  split <;> simp <;> omega
theorem ord_s (a : Int) : spec_l1Order.f a = some (ordB a) := by
  unfold spec_l1Order.f ordB
  split <;> simp <;> omega
theorem fits_i (a : Int) : impl_fits.f a = some (fitsB a) := fits_s a
theorem ord_i (a : Int) : impl_GlueOk_1.f a = some (ordB a) := ord_s a
theorem glue_s (a b c d e : Int) : spec_GlueOk.f a b c d e = some (glueB a b c d e) := by
  simp only [spec_GlueOk.f, fits_s, ord_s, Option.bind_some, glueB]
  cases fitsB a <;> cases fitsB b <;> cases fitsB d <;> cases ordB c <;> cases ordB e <;> simp
theorem glue_i (a b c d e : Int) : impl_GlueOk.f a b c d e = some (glueB a b c d e) := by
  simp only [impl_GlueOk.f, fits_i, ord_i, Option.bind_some, glueB]
  cases fitsB a <;> cases fitsB b <;> cases fitsB d <;> cases ordB c <;> cases ordB e <;> simp
theorem eqInt64S_l0 (l : List Int) (hl : l.length ≤ 9223372036854775806) : ∀ d k i : Nat, l.length - i = d → i ≤ l.length → d < k → laws_eqInt64S.l0 k l l i = some true := by
  intro d
  induction d with
  | zero =>
    intro k i hd hi hk
    obtain ⟨k, rfl⟩ : ∃ m, k = m + 1 := ⟨k - 1, by omega⟩
    rw [laws_eqInt64S.l0, if_neg (by omega)]
  | succ d ih =>
    intro k i hd hi hk
    obtain ⟨k, rfl⟩ : ∃ m, k = m + 1 := ⟨k - 1, by omega⟩
    rw [laws_eqInt64S.l0, if_pos (by omega), if_pos (by omega), if_pos (by omega), if_pos rfl, wrap_succ i (by omega)]
    exact ih k (i + 1) (by omega) (by omega) (by omega)
theorem eqInt64S_f (l : List Int) (hl : l.length ≤ 9223372036854775806) (k : Nat) (hk : l.length < k) : laws_eqInt64S.f k l l = some true := by
  unfold laws_eqInt64S.f
  rw [if_pos rfl]
  exact eqInt64S_l0 l hl l.length k 0 (by omega) (by omega) hk
theorem markInt64S_l0 (q0 : Int) (n : Nat) (h0 : 0 ≤ q0) (hq : q0 + n ≤ 4611686018427387904) : ∀ d k i : Nat, ∀ x : List Int, n - i = d → i ≤ n → x.length = n → d < k → (∀ j : Nat, j < i → rd x (j : Int) = q0 + j) →
    ∃ l', laws_markInt64S.l0 k x (q0 + i) i = some (q0 + n, l') ∧ l'.length = n ∧ ∀ j : Nat, j < n → rd l' (j : Int) = q0 + j := by
  intro d
  induction d with
  | zero =>
    intro k i x hd hi hx hk hj
    obtain ⟨k, rfl⟩ : ∃ m, k = m + 1 := ⟨k - 1, by omega⟩
    obtain rfl : i = n := by omega
    exact ⟨x, by rw [laws_markInt64S.l0, if_neg (by omega)], hx, hj⟩
  | succ d ih =>
    intro k i x hd hi hx hk hj
    obtain ⟨k, rfl⟩ : ∃ m, k = m + 1 := ⟨k - 1, by omega⟩
    rw [laws_markInt64S.l0, if_pos (by omega), if_pos (by omega), wrap_succ i (by omega), wrap_in (q0 + i + 1) (by omega) (by omega), Int.toNat_natCast, show q0 + (i : Int) + 1 = q0 + ((i + 1 : Nat) : Int) by omega]
    refine ih k (i + 1) _ (by omega) (by omega) (by simpa using hx) (by omega) (fun j hlt => ?_)
    rcases Nat.lt_or_ge j i with h | h
    · rw [← hj j h, rd_set_ne x i j _ (by omega)]
    · obtain rfl : j = i := by omega
      rw [rd_set_eq x j _ (by omega)]
theorem heldInt64S_l0 (q0 : Int) (l : List Int) (h0 : 0 ≤ q0) (hq : q0 + l.length ≤ 4611686018427387904) (hj : ∀ j : Nat, j < l.length → rd l (j : Int) = q0 + j) : ∀ d k i : Nat, l.length - i = d → i ≤ l.length → d < k →
    laws_heldInt64S.l0 k l (q0 + i) i = some (q0 + l.length) := by
  intro d
  induction d with
  | zero =>
    intro k i hd hi hk
    obtain ⟨k, rfl⟩ : ∃ m, k = m + 1 := ⟨k - 1, by omega⟩
    obtain rfl : i = l.length := by omega
    rw [laws_heldInt64S.l0, if_neg (by omega)]
  | succ d ih =>
    intro k i hd hi hk
    obtain ⟨k, rfl⟩ : ∃ m, k = m + 1 := ⟨k - 1, by omega⟩
    rw [laws_heldInt64S.l0, if_pos (by omega), if_pos (by omega), if_pos (hj i (by omega)), wrap_succ i (by omega), wrap_in (q0 + i + 1) (by omega) (by omega), show q0 + (i : Int) + 1 = q0 + ((i + 1 : Nat) : Int) by omega]
    exact ih k (i + 1) (by omega) (by omega) (by omega)
theorem markInt64S_f (l : List Int) (q0 : Int) (h0 : 0 ≤ q0) (hq : q0 + l.length ≤ 4611686018427387904) :
    ∃ l', (∀ k, l.length < k → laws_markInt64S.f k l q0 = some (q0 + l.length, l')) ∧ ∀ k, l.length < k → laws_heldInt64S.f k l' q0 = some (q0 + l.length) := by
  obtain ⟨l', h1, h2, h3⟩ := markInt64S_l0 q0 l.length h0 hq l.length (l.length + 1) 0 l (by omega) (by omega) rfl (by omega) (fun j h => by omega)
  refine ⟨l', fun k hk => ?_, fun k hk => ?_⟩
  · obtain ⟨l2, g1, g2, g3⟩ := markInt64S_l0 q0 l.length h0 hq l.length k 0 l (by omega) (by omega) rfl hk (fun j h => by omega)
    have e : l2 = l' := by
      apply List.ext_getElem (by omega)
      intro j a b
      have e1 := g3 j (by omega)
      have e2 := h3 j (by omega)
      rw [rd_nat l2 j (by omega)] at e1
      rw [rd_nat l' j (by omega)] at e2
      rw [e1, e2]
    subst e
    unfold laws_markInt64S.f
    simpa using g1
  · have := heldInt64S_l0 q0 l' h0 (by rw [h2]; exact hq) (fun j h => h3 j (by omega)) l'.length k 0 (by omega) (by omega) (by omega)
    unfold laws_heldInt64S.f
    rw [h2] at this
    simpa using this
def cvGlue (x : S23) : S24 := ⟨x.f0, x.f1, x.f2, x.f3, x.f4⟩
theorem rdGlue_a (l : List S23) (i : Nat) (h : i < l.length) : rd_T23 l (i : Int) = l[i] := by simp [rd_T23, h]
theorem rdGlue_b (l : List S24) (i : Nat) (h : i < l.length) : rd_T24 l (i : Int) = l[i] := by simp [rd_T24, h]
theorem toGlueS_l0 (l : List S23) (hl : l.length ≤ 1048576) : ∀ d k i : Nat, l.length - i = d → i ≤ l.length → d < k →
    laws_toGlueS.l0 k l ((List.range i).map (fun j : Nat => cvGlue (rd_T23 l (j : Int))) ++ List.replicate (l.length - i) z24) i = some (l.map cvGlue) := by
  intro d
  induction d with
  | zero =>
    intro k i hd hi hk
    obtain ⟨k, rfl⟩ : ∃ m, k = m + 1 := ⟨k - 1, by omega⟩
    obtain rfl : i = l.length := by omega
    rw [laws_toGlueS.l0, if_neg (by omega), Nat.sub_self, map_get l cvGlue (fun j : Nat => cvGlue (rd_T23 l (j : Int))) (fun j hj => by rw [rdGlue_a l j hj])]
    simp
  | succ d ih =>
    intro k i hd hi hk
    obtain ⟨k, rfl⟩ : ∃ m, k = m + 1 := ⟨k - 1, by omega⟩
    rw [laws_toGlueS.l0, if_pos (by omega), if_pos (by omega)]
    simp only [laws_toGlue.f, Option.bind_some]
    rw [if_pos (by simp; omega), wrap_succ i (by omega), Int.toNat_natCast]
    have := set_step (fun j : Nat => cvGlue (rd_T23 l (j : Int))) z24 l.length i (by omega)
    rw [show (⟨(rd_T23 l (i : Int)).f0, (rd_T23 l (i : Int)).f1, (rd_T23 l (i : Int)).f2, (rd_T23 l (i : Int)).f3, (rd_T23 l (i : Int)).f4⟩ : S24) = cvGlue (rd_T23 l (i : Int)) from rfl, this]
    exact ih k (i + 1) (by omega) (by omega) (by omega)
theorem toGlueS_f (l : List S23) (hl : l.length ≤ 1048576) (k : Nat) (hk : l.length < k) : laws_toGlueS.f k l = some (l.map cvGlue) := by
  unfold laws_toGlueS.f
  rw [if_pos (by omega), if_pos (by simp; omega), Int.toNat_natCast]
  exact toGlueS_l0 l hl l.length k 0 (by omega) (by omega) hk
theorem eqGlueS_l0 (l : List S24) (hl : l.length ≤ 9223372036854775806) : ∀ d k i : Nat, l.length - i = d → i ≤ l.length → d < k → laws_eqGlueS.l0 k l l i = some true := by
  intro d
  induction d with
  | zero =>
    intro k i hd hi hk
    obtain ⟨k, rfl⟩ : ∃ m, k = m + 1 := ⟨k - 1, by omega⟩
    rw [laws_eqGlueS.l0, if_neg (by omega)]
  | succ d ih =>
    intro k i hd hi hk
    obtain ⟨k, rfl⟩ : ∃ m, k = m + 1 := ⟨k - 1, by omega⟩
    rw [laws_eqGlueS.l0, if_pos (by omega), if_pos (by omega), if_pos (by omega)]
    simp only [laws_eqGlue.f, if_true, Option.bind_some]
    rw [wrap_succ i (by omega)]
    exact ih k (i + 1) (by omega) (by omega) (by omega)
theorem eqGlueS_f (l : List S24) (hl : l.length ≤ 9223372036854775806) (k : Nat) (hk : l.length < k) : laws_eqGlueS.f k l l = some true := by
  unfold laws_eqGlueS.f
  rw [if_pos rfl]
  exact eqGlueS_l0 l hl l.length k 0 (by omega) (by omega) hk
def MGlue (q : Int) : S24 := ⟨q, q + 1, q + 2, q + 3, q + 4⟩
theorem rdsetGlue_eq (x : List S24) (i : Nat) (v : S24) (h : i < x.length) : rd_T24 (x.set i v) (i : Int) = v := by simp [rd_T24, h]
theorem rdsetGlue_ne (x : List S24) (i j : Nat) (v : S24) (h : i ≠ j) : rd_T24 (x.set i v) (j : Int) = rd_T24 x (j : Int) := by simp [rd_T24, List.getElem?_set_ne h]
theorem markGlueS_l0 (q0 : Int) (n : Nat) (h0 : 0 ≤ q0) (hq : q0 + 5 * n ≤ 4611686018427387904) : ∀ d k i : Nat, ∀ x : List S24, n - i = d → i ≤ n → x.length = n → d < k → (∀ j : Nat, j < i → rd_T24 x (j : Int) = (MGlue (q0 + 5 * j))) →
    ∃ l', laws_markGlueS.l0 k x (q0 + 5 * i) i = some (q0 + 5 * n, l') ∧ l'.length = n ∧ ∀ j : Nat, j < n → rd_T24 l' (j : Int) = (MGlue (q0 + 5 * j)) := by
  intro d
  induction d with
  | zero =>
    intro k i x hd hi hx hk hj
    obtain ⟨k, rfl⟩ : ∃ m, k = m + 1 := ⟨k - 1, by omega⟩
    obtain rfl : i = n := by omega
    exact ⟨x, by rw [laws_markGlueS.l0, if_neg (by omega)], hx, hj⟩
  | succ d ih =>
    intro k i x hd hi hx hk hj
    obtain ⟨k, rfl⟩ : ∃ m, k = m + 1 := ⟨k - 1, by omega⟩
    have hlt : i < x.length := by omega
    rw [laws_markGlueS.l0, if_pos (by omega), if_pos (by omega)]
    simp only [Option.bind_some, Int.toNat_natCast, List.set_set, List.length_set, rdsetGlue_eq x i _ hlt]
    simp only [show wrap64 (q0 + 5 * (i : Int) + 1) = q0 + 5 * (i : Int) + 1 from by unfold wrap64; omega, show wrap64 (q0 + 5 * (i : Int) + 1 + 1) = q0 + 5 * (i : Int) + 2 from by unfold wrap64; omega, show wrap64 (q0 + 5 * (i : Int) + 2 + 1) = q0 + 5 * (i : Int) + 3 from by unfold wrap64; omega, show wrap64 (q0 + 5 * (i : Int) + 3 + 1) = q0 + 5 * (i : Int) + 4 from by unfold wrap64; omega, show wrap64 (q0 + 5 * (i : Int) + 4 + 1) = q0 + 5 * (i : Int) + 5 from by unfold wrap64; omega]
    rw [wrap_succ i (by omega), show q0 + 5 * (i : Int) + 5 = q0 + 5 * ((i + 1 : Nat) : Int) by omega]
    refine ih k (i + 1) _ (by omega) (by omega) (by simpa using hx) (by omega) (fun j hlj => ?_)
    rcases Nat.lt_or_ge j i with h | h
    · rw [← hj j h, rdsetGlue_ne x i j _ (by omega)]
    · obtain rfl : j = i := by omega
      rw [rdsetGlue_eq x j _ hlt]
      rfl
theorem markGlueS_f (l : List S24) (q0 : Int) (h0 : 0 ≤ q0) (hq : q0 + 5 * l.length ≤ 4611686018427387904) :
    ∃ l', (∀ k, l.length < k → laws_markGlueS.f k l q0 = some (q0 + 5 * l.length, l')) := by
  obtain ⟨l', h1, h2, h3⟩ := markGlueS_l0 q0 l.length h0 hq l.length (l.length + 1) 0 l (by omega) (by omega) rfl (by omega) (fun j h => by omega)
  refine ⟨l', fun k hk => ?_⟩
  · obtain ⟨l2, g1, g2, g3⟩ := markGlueS_l0 q0 l.length h0 hq l.length k 0 l (by omega) (by omega) rfl hk (fun j h => by omega)
    have e : l2 = l' := by
      apply List.ext_getElem (by omega)
      intro j a b
      have e1 := g3 j (by omega)
      have e2 := h3 j (by omega)
      rw [rdGlue_b l2 j (by omega)] at e1
      rw [rdGlue_b l' j (by omega)] at e2
      rw [e1, e2]
    subst e
    unfold laws_markGlueS.f
    simpa using g1
def okG (x : S24) : Bool := glueB x.f0 x.f1 x.f2 x.f3 x.f4
theorem s_l0 (l : List S24) (hl : l.length ≤ 1048576) : ∀ d k i : Nat, l.length - i = d → i ≤ l.length → d < k → spec_l1GluesOk.l0 k l i = some ((l.drop i).all okG) := by
  intro d
  induction d with
  | zero =>
    intro k i hd hi hk
    obtain ⟨k, rfl⟩ : ∃ m, k = m + 1 := ⟨k - 1, by omega⟩
    rw [spec_l1GluesOk.l0, if_neg (by omega), List.drop_of_length_le (by omega)]
    simp
  | succ d ih =>
    intro k i hd hi hk
    obtain ⟨k, rfl⟩ : ∃ m, k = m + 1 := ⟨k - 1, by omega⟩
    have hlt : i < l.length := by omega
    rw [spec_l1GluesOk.l0, if_pos (by omega), if_pos (by omega), glue_s, wrap_succ i (by omega), ih k (i + 1) (by omega) (by omega) (by omega), List.drop_eq_getElem_cons hlt, List.all_cons, rdGlue_b l i hlt]
    simp only [Option.bind_some, okG]
    cases glueB l[i].f0 l[i].f1 l[i].f2 l[i].f3 l[i].f4 <;> simp
theorem i_l0 (l : List S24) (hl : l.length ≤ 1048576) : ∀ d k i : Nat, l.length - i = d → i ≤ l.length → d < k → impl_gluesOk.l0 k l (l.length : Int) i = some ((l.drop i).all okG) := by
  intro d
  induction d with
  | zero =>
    intro k i hd hi hk
    obtain ⟨k, rfl⟩ : ∃ m, k = m + 1 := ⟨k - 1, by omega⟩
    rw [impl_gluesOk.l0, if_neg (by omega), List.drop_of_length_le (by omega)]
    simp
  | succ d ih =>
    intro k i hd hi hk
    obtain ⟨k, rfl⟩ : ∃ m, k = m + 1 := ⟨k - 1, by omega⟩
    have hlt : i < l.length := by omega
    rw [impl_gluesOk.l0, if_pos (by omega), if_pos (by omega), if_pos (by omega), glue_i, wrap_succ i (by omega), ih k (i + 1) (by omega) (by omega) (by omega), List.drop_eq_getElem_cons hlt, List.all_cons, rdGlue_b l i hlt]
    simp only [Option.bind_some, okG]
    cases glueB l[i].f0 l[i].f1 l[i].f2 l[i].f3 l[i].f4 <;> simp
theorem okG_orders (x : S24) (h : okG x = true) : 0 ≤ x.f2 ∧ x.f2 < 4 ∧ 0 ≤ x.f4 ∧ x.f4 < 4 := by
  simp only [okG, glueB, ordB, Bool.and_eq_true, decide_eq_true_eq] at h
  omega
theorem sums (l : List S24) (hl : l.length ≤ 1048576) (hok : l.all okG = true) : ∀ d k i : Nat, ∀ (s : Int) (p m : List Int), l.length - i = d → i ≤ l.length → d < k → p.length = 4 → m.length = 4 →
    ∃ r, spec_SumGlue.l0 k l s p m i = some r ∧ impl_SumGlue.l0 k s p m l (l.length : Int) i = some r ∧ r.2.1.length = 4 ∧ r.2.2.length = 4 := by
  intro d
  induction d with
  | zero =>
    intro k i s p m hd hi hk hp hm
    obtain ⟨k, rfl⟩ : ∃ m, k = m + 1 := ⟨k - 1, by omega⟩
    exact ⟨(s, p, m), by rw [spec_SumGlue.l0, if_neg (by omega)], by rw [impl_SumGlue.l0, if_neg (by omega)], hp, hm⟩
  | succ d ih =>
    intro k i s p m hd hi hk hp hm
    obtain ⟨k, rfl⟩ : ∃ m, k = m + 1 := ⟨k - 1, by omega⟩
    have hlt : i < l.length := by omega
    have ho := okG_orders (rd_T24 l (i : Int)) (by rw [rdGlue_b l i hlt]; exact List.all_eq_true.1 hok _ (List.getElem_mem hlt))
    obtain ⟨r, h1, h2, h3, h4⟩ := ih k (i + 1) (wrap64 (s + (rd_T24 l (i : Int)).f0)) (p.set ((rd_T24 l (i : Int)).f2 : Int).toNat (wrap64 ((rd p ((rd_T24 l (i : Int)).f2)) + ((rd_T24 l (i : Int)).f1)))) (m.set ((rd_T24 l (i : Int)).f4 : Int).toNat (wrap64 ((rd m ((rd_T24 l (i : Int)).f4)) + ((rd_T24 l (i : Int)).f3)))) (by omega) (by omega) (by omega) (by simpa using hp) (by simpa using hm)
    refine ⟨r, ?_, ?_, h3, h4⟩
    · rw [spec_SumGlue.l0, if_pos (by omega), if_pos (by omega), if_pos (by omega), if_pos (by omega), if_pos (by omega), if_pos (by omega), wrap_succ i (by omega)]
      exact h1
    · rw [impl_SumGlue.l0, if_pos (by omega), if_pos (by omega), if_pos (by omega), if_pos (by omega), if_pos (by omega), if_pos (by omega), if_pos (by omega), wrap_succ i (by omega)]
      exact h2
theorem both (l : List S24) (hl : l.length ≤ 1048576) : ∃ r : Int × List Int × List Int, (∀ k, l.length + 1 < k → spec_SumGlue.f k l = some r ∧ impl_SumGlue.f k l = some r) ∧ r.2.1.length ≤ 4 ∧ r.2.2.length ≤ 4 := by
  by_cases hb : (l.length : Int) > 10000
  · refine ⟨(0, [], []), fun k hk => ?_, by simp, by simp⟩
    have hs : spec_l1GluesOk.f k l = some false := by unfold spec_l1GluesOk.f; rw [if_pos hb]
    have hi : impl_gluesOk.f k l = some false := by unfold impl_gluesOk.f; rw [if_pos hb]
    unfold spec_SumGlue.f impl_SumGlue.f
    rw [hs, hi]
    simp
  · have hs : ∀ k, l.length < k → spec_l1GluesOk.f k l = some (l.all okG) := fun k hk => by
      unfold spec_l1GluesOk.f
      rw [if_neg hb]
      simpa using s_l0 l hl l.length k 0 (by omega) (by omega) hk
    have hi : ∀ k, l.length < k → impl_gluesOk.f k l = some (l.all okG) := fun k hk => by
      unfold impl_gluesOk.f
      rw [if_neg hb]
      simpa using i_l0 l hl l.length k 0 (by omega) (by omega) hk
    cases hok : l.all okG with
    | false =>
      refine ⟨(0, [], []), fun k hk => ?_, by simp, by simp⟩
      unfold spec_SumGlue.f impl_SumGlue.f
      rw [hs k (by omega), hi k (by omega), hok]
      simp
    | true =>
      obtain ⟨r, h1, h2, h3, h4⟩ := sums l hl hok l.length (l.length + 1) 0 0 (List.replicate 4 0) (List.replicate 4 0) (by omega) (by omega) (by omega) (by simp) (by simp)
      refine ⟨r, fun k hk => ?_, by omega, by omega⟩
      obtain ⟨r', g1, g2, _⟩ := sums l hl hok l.length k 0 0 (List.replicate 4 0) (List.replicate 4 0) (by omega) (by omega) (by omega) (by simp) (by simp)
      have e : r' = r := by
        have m1 : spec_SumGlue.l0 k l 0 (List.replicate 4 0) (List.replicate 4 0) ((0 : Nat) : Int) = some r := at_rounds (g := fun k => spec_SumGlue.l0 k l 0 (List.replicate 4 0) (List.replicate 4 0) ((0 : Nat) : Int)) (fun k => spec_SumGlue.mono_l k _ _ _ _ _) (show l.length + 1 ≤ k by omega) h1
        rw [m1] at g1
        exact (Option.some.inj g1).symm
      subst e
      unfold spec_SumGlue.f impl_SumGlue.f
      rw [hs k (by omega), hi k (by omega), hok]
      simp only [Option.bind_some, if_true]
      rw [if_pos (by omega), if_pos (by omega)]
      exact ⟨g1, g2⟩

theorem FnExactSumGlue : laws_FnExactSumGlue.Pure := by
  intro l0 hl0 _
  have hsz : ∃ r, laws_szGlueS.f l0 1048576 = some r ∧ (r < 0 ∨ l0.length ≤ 1048576) := by
    unfold laws_szGlueS.f
    rw [wrap_in (1048576 - (l0.length : Int)) (by omega) (by omega)]
    split
    · exact ⟨-1, rfl, .inl (by omega)⟩
    · exact ⟨_, rfl, .inr (by omega)⟩
  obtain ⟨r, hr, hlt | hle⟩ := hsz
  · exact ⟨0, by unfold laws_FnExactSumGlue.f; rw [hr]; simp [hlt]⟩
  · by_cases hr0 : r < 0
    · exact ⟨0, by unfold laws_FnExactSumGlue.f; rw [hr]; simp [hr0]⟩
    obtain ⟨q, hboth, hp, hm⟩ := both (l0.map cvGlue) (by simpa using hle)
    obtain ⟨s, p, m⟩ := q
    simp only at hp hm
    refine ⟨l0.length + 100, ?_⟩
    have hto := fun k (hk : l0.length < k) => toGlueS_f l0 hle k hk
    have hs := fun k (hk : l0.length + 1 < k) => (hboth k (by simpa using hk)).1
    have hi := fun k (hk : l0.length + 1 < k) => (hboth k (by simpa using hk)).2
    have hep := fun k (hk : 4 < k) => eqInt64S_f p (by omega) k (by omega)
    have hem := fun k (hk : 4 < k) => eqInt64S_f m (by omega) k (by omega)
    have heg := fun k (hk : l0.length < k) => eqGlueS_f (l0.map cvGlue) (by simp; omega) k (by simpa using hk)
    obtain ⟨xg, mg⟩ := markGlueS_f (l0.map cvGlue) 1 (by omega) (by simp; omega)
    obtain ⟨p', mp, hdp⟩ := markInt64S_f p 1 (by omega) (by omega)
    obtain ⟨m', mm, hdm⟩ := markInt64S_f m (1 + p.length) (by omega) (by omega)
    have e1 : l0.length + 100 = (l0.length + 99) + 1 := rfl
    have e2 : l0.length + 99 = (l0.length + 98) + 1 := rfl
    have e3 : l0.length + 98 = (l0.length + 97) + 1 := rfl
    have j2 : laws_FnExactSumGlue.j2 (l0.length + 98) p' m' (1 + p.length + m.length) (!true) = some true := by
      rw [e3, laws_FnExactSumGlue.j2, if_neg (by simp), hdp _ (by omega)]
      simp only [Option.bind_some]
      rw [if_neg (by omega), hdm _ (by omega)]
      simp only [Option.bind_some]
      rw [if_neg (by omega), if_pos trivial]
    have j1 : laws_FnExactSumGlue.j1 (l0.length + 99) l0 s p m p m (!true) = some true := by
      rw [e2, laws_FnExactSumGlue.j1, if_neg (by simp), mp _ (by omega)]
      simp only [Option.bind_some]
      rw [mm _ (by omega)]
      simp only [Option.bind_some]
      rw [hdp _ (by omega)]
      simp only [Option.bind_some]
      rw [if_neg (by omega), hdm _ (by omega)]
      simp only [Option.bind_some]
      rw [if_neg (by omega), if_pos trivial, hto _ (by omega)]
      simp only [Option.bind_some]
      rw [hi _ (by omega)]
      simp only [Option.bind_some, if_true]
      rw [hep _ (by omega)]
      simp only [Option.bind_some, if_true]
      rw [hem _ (by omega)]
      simp only [Option.bind_some]
      exact j2
    have j0 : laws_FnExactSumGlue.j0 (l0.length + 100) l0 s p m (l0.map cvGlue) s p m (!true) = some true := by
      rw [e1, laws_FnExactSumGlue.j0, if_neg (by simp), hto _ (by omega)]
      simp only [Option.bind_some]
      rw [heg _ (by omega)]
      simp only [Option.bind_some, if_true]
      rw [mg _ (by simp)]
      simp only [Option.bind_some]
      rw [if_neg (by simp; omega)]
      rw [hep _ (by omega)]
      simp only [Option.bind_some, if_true]
      rw [hem _ (by omega)]
      simp only [Option.bind_some]
      exact j1
    unfold laws_FnExactSumGlue.f
    rw [hr]
    simp only [Option.bind_some]
    rw [if_neg hr0, hto _ (by omega)]
    simp only [Option.bind_some]
    rw [hs _ (by omega)]
    simp only [Option.bind_some]
    rw [hi _ (by omega)]
    simp only [Option.bind_some, if_true]
    rw [hep _ (by omega)]
    simp only [Option.bind_some, if_true]
    rw [hem _ (by omega)]
    simp only [Option.bind_some]
    exact j0

end Go.Proofs.Ytabamachefgilaa.Pure
