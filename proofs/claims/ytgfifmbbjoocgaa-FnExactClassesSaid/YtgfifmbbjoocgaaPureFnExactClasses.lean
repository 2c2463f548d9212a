/- The pure statement of FnExactClasses: both sides give the same classes. No condition. -/
import Derived.Test.YtgfifmbbjoocgaaPFnExactClassesx8
import Derived.Test.YtgfifmbbjoocgaaKitVCl
namespace Go.Proofs.Ytgfifmbbjoocgaa.Pure
open Go.RowKit Go.Proofs.Ytgfifmbbjoocgaa.PFnExactClasses Go.Proofs.Ytgfifmbbjoocgaa.Kit Go.Proofs.YtgfifmbbjoocgaaW.PrintWords Go.Proofs.YtgfifmbbjoocgaaW.PrintLast Go.Proofs.YtgfifmbbjoocgaaW.PrintMore
set_option linter.unusedVariables false
set_option linter.unusedSimpArgs false
set_option linter.unusedSectionVars false

def cvAtom (x : S117) : S115 := ⟨x.f0, x.f1, x.f2, x.f3, x.f4, x.f5⟩
theorem rdAtom_a (l : List S117) (i : Nat) (h : i < l.length) : rd_T117 l (i : Int) = l[i] := by simp [rd_T117, h]
theorem rdAtom_b (l : List S115) (i : Nat) (h : i < l.length) : rd_T115 l (i : Int) = l[i] := by simp [rd_T115, h]
theorem toAtomS_l0 (l : List S117) (hl : l.length ≤ 1048576) : ∀ d k i : Nat, l.length - i = d → i ≤ l.length → d < k →
    laws_toAtomS.l0 k l ((List.range i).map (fun j : Nat => cvAtom (rd_T117 l (j : Int))) ++ List.replicate (l.length - i) z115) i = some (l.map cvAtom) := by
  intro d
  induction d with
  | zero =>
    intro k i hd hi hk
    obtain ⟨k, rfl⟩ : ∃ m, k = m + 1 := ⟨k - 1, by omega⟩
    obtain rfl : i = l.length := by omega
    rw [laws_toAtomS.l0, if_neg (by omega), Nat.sub_self, map_get l cvAtom (fun j : Nat => cvAtom (rd_T117 l (j : Int))) (fun j hj => by rw [rdAtom_a l j hj])]
    simp
  | succ d ih =>
    intro k i hd hi hk
    obtain ⟨k, rfl⟩ : ∃ m, k = m + 1 := ⟨k - 1, by omega⟩
    rw [laws_toAtomS.l0, if_pos (by omega), if_pos (by omega)]
    simp only [laws_toAtom.f, Option.bind_some]
    rw [if_pos (by simp; omega), wrap_succ i (by omega), Int.toNat_natCast]
    have := set_step (fun j : Nat => cvAtom (rd_T117 l (j : Int))) z115 l.length i (by omega)
    rw [show (⟨(rd_T117 l (i : Int)).f0, (rd_T117 l (i : Int)).f1, (rd_T117 l (i : Int)).f2, (rd_T117 l (i : Int)).f3, (rd_T117 l (i : Int)).f4, (rd_T117 l (i : Int)).f5⟩ : S115) = cvAtom (rd_T117 l (i : Int)) from rfl, this]
    exact ih k (i + 1) (by omega) (by omega) (by omega)
theorem toAtomS_f (l : List S117) (hl : l.length ≤ 1048576) (k : Nat) (hk : l.length < k) : laws_toAtomS.f k l = some (l.map cvAtom) := by
  unfold laws_toAtomS.f
  rw [if_pos (by omega), if_pos (by simp; omega), Int.toNat_natCast]
  exact toAtomS_l0 l hl l.length k 0 (by omega) (by omega) hk
theorem eqAtomS_l0 (l : List S115) (hl : l.length ≤ 9223372036854775806) : ∀ d k i : Nat, l.length - i = d → i ≤ l.length → d < k → laws_eqAtomS.l0 k l l i = some true := by
  intro d
  induction d with
  | zero =>
    intro k i hd hi hk
    obtain ⟨k, rfl⟩ : ∃ m, k = m + 1 := ⟨k - 1, by omega⟩
    rw [laws_eqAtomS.l0, if_neg (by omega)]
  | succ d ih =>
    intro k i hd hi hk
    obtain ⟨k, rfl⟩ : ∃ m, k = m + 1 := ⟨k - 1, by omega⟩
    rw [laws_eqAtomS.l0, if_pos (by omega), if_pos (by omega), if_pos (by omega)]
    simp only [laws_eqAtom.f, if_true, Option.bind_some]
    rw [wrap_succ i (by omega)]
    exact ih k (i + 1) (by omega) (by omega) (by omega)
theorem eqAtomS_f (l : List S115) (hl : l.length ≤ 9223372036854775806) (k : Nat) (hk : l.length < k) : laws_eqAtomS.f k l l = some true := by
  unfold laws_eqAtomS.f
  rw [if_pos rfl]
  exact eqAtomS_l0 l hl l.length k 0 (by omega) (by omega) hk
def MAtom (q : Int) : S115 := ⟨q, q + 1, q + 2, q + 3, q + 4, q + 5⟩
theorem rdsetAtom_eq (x : List S115) (i : Nat) (v : S115) (h : i < x.length) : rd_T115 (x.set i v) (i : Int) = v := by simp [rd_T115, h]
theorem rdsetAtom_ne (x : List S115) (i j : Nat) (v : S115) (h : i ≠ j) : rd_T115 (x.set i v) (j : Int) = rd_T115 x (j : Int) := by simp [rd_T115, List.getElem?_set_ne h]
theorem markAtomS_l0 (q0 : Int) (n : Nat) (h0 : 0 ≤ q0) (hq : q0 + 6 * n ≤ 4611686018427387904) : ∀ d k i : Nat, ∀ x : List S115, n - i = d → i ≤ n → x.length = n → d < k → (∀ j : Nat, j < i → rd_T115 x (j : Int) = (MAtom (q0 + 6 * j))) →
    ∃ l', laws_markAtomS.l0 k x (q0 + 6 * i) i = some (q0 + 6 * n, l') ∧ l'.length = n ∧ ∀ j : Nat, j < n → rd_T115 l' (j : Int) = (MAtom (q0 + 6 * j)) := by
  intro d
  induction d with
  | zero =>
    intro k i x hd hi hx hk hj
    obtain ⟨k, rfl⟩ : ∃ m, k = m + 1 := ⟨k - 1, by omega⟩
    obtain rfl : i = n := by omega
    exact ⟨x, by rw [laws_markAtomS.l0, if_neg (by omega)], hx, hj⟩
  | succ d ih =>
    intro k i x hd hi hx hk hj
    obtain ⟨k, rfl⟩ : ∃ m, k = m + 1 := ⟨k - 1, by omega⟩
    have hlt : i < x.length := by omega
    rw [laws_markAtomS.l0, if_pos (by omega), if_pos (by omega)]
    rw [Option.bind_some]
    simp only [Int.toNat_natCast, List.set_set, List.length_set, rdsetAtom_eq x i _ hlt]
    rw [Option.bind_some]
    simp only [Int.toNat_natCast, List.set_set, List.length_set, rdsetAtom_eq x i _ hlt]
    rw [Option.bind_some]
    simp only [Int.toNat_natCast, List.set_set, List.length_set, rdsetAtom_eq x i _ hlt]
    rw [Option.bind_some]
    simp only [Int.toNat_natCast, List.set_set, List.length_set, rdsetAtom_eq x i _ hlt]
    rw [Option.bind_some]
    simp only [Int.toNat_natCast, List.set_set, List.length_set, rdsetAtom_eq x i _ hlt]
    simp only [show wrap64 (q0 + 6 * (i : Int) + 1) = q0 + 6 * (i : Int) + 1 from by unfold wrap64; omega, show wrap64 (q0 + 6 * (i : Int) + 1 + 1) = q0 + 6 * (i : Int) + 2 from by unfold wrap64; omega, show wrap64 (q0 + 6 * (i : Int) + 2 + 1) = q0 + 6 * (i : Int) + 3 from by unfold wrap64; omega, show wrap64 (q0 + 6 * (i : Int) + 3 + 1) = q0 + 6 * (i : Int) + 4 from by unfold wrap64; omega, show wrap64 (q0 + 6 * (i : Int) + 4 + 1) = q0 + 6 * (i : Int) + 5 from by unfold wrap64; omega, show wrap64 (q0 + 6 * (i : Int) + 5 + 1) = q0 + 6 * (i : Int) + 6 from by unfold wrap64; omega]
    rw [wrap_succ i (by omega), show q0 + 6 * (i : Int) + 6 = q0 + 6 * ((i + 1 : Nat) : Int) by omega]
    refine ih k (i + 1) _ (by omega) (by omega) (by simpa using hx) (by omega) (fun j hlj => ?_)
    rcases Nat.lt_or_ge j i with h | h
    · rw [← hj j h, rdsetAtom_ne x i j _ (by omega)]
    · obtain rfl : j = i := by omega
      rw [rdsetAtom_eq x j _ hlt]
      rfl
theorem markAtomS_f (l : List S115) (q0 : Int) (h0 : 0 ≤ q0) (hq : q0 + 6 * l.length ≤ 4611686018427387904) :
    ∃ l', (∀ k, l.length < k → laws_markAtomS.f k l q0 = some (q0 + 6 * l.length, l')) := by
  obtain ⟨l', h1, h2, h3⟩ := markAtomS_l0 q0 l.length h0 hq l.length (l.length + 1) 0 l (by omega) (by omega) rfl (by omega) (fun j h => by omega)
  refine ⟨l', fun k hk => ?_⟩
  · obtain ⟨l2, g1, g2, g3⟩ := markAtomS_l0 q0 l.length h0 hq l.length k 0 l (by omega) (by omega) rfl hk (fun j h => by omega)
    have e : l2 = l' := by
      apply List.ext_getElem (by omega)
      intro j a b
      have e1 := g3 j (by omega)
      have e2 := h3 j (by omega)
      rw [rdAtom_b l2 j (by omega)] at e1
      rw [rdAtom_b l' j (by omega)] at e2
      rw [e1, e2]
    subst e
    unfold laws_markAtomS.f
    simpa using g1
def good (a : S115) (r : Int) : Bool := decide (0 ≤ a.f3 ∧ 0 ≤ a.f4 ∧ 0 ≤ a.f5 ∧ a.f3 ≤ r ∧ a.f4 ≤ r - a.f3 ∧ a.f5 ≤ r - a.f3 - a.f4 ∧ 0 ≤ a.f1 ∧ a.f1 ≤ 7)
def kcB (a : S115) : Bool := if a.f0 = 1 then decide (33 ≤ a.f2 ∧ a.f2 ≤ 126 ∧ a.f3 = 0) else decide (2 ≤ a.f0 ∧ a.f0 ≤ 4 ∧ a.f2 = 0)
def clB (a : S115) : Bool := decide (0 ≤ a.f1 ∧ a.f1 ≤ 7 ∧ 0 ≤ a.f3 ∧ a.f3 ≤ 2000 ∧ 0 ≤ a.f4 ∧ a.f4 ≤ 2000 ∧ 0 ≤ a.f5 ∧ a.f5 ≤ 2000)
theorem good_at (a : S115) (r : Int) (h : good a r = true) : 0 ≤ a.f3 ∧ 0 ≤ a.f4 ∧ 0 ≤ a.f5 ∧ a.f3 + a.f4 + a.f5 ≤ r ∧ 0 ≤ a.f1 ∧ a.f1 ≤ 7 := by
  simp only [good, decide_eq_true_eq] at h
  omega
theorem count_f (x : Int) : spec_l11Count.f x = some (decide (0 ≤ x ∧ x ≤ 2000)) := by
  unfold spec_l11Count.f
  by_cases h : x ≥ 0
  · rw [if_pos h]
    congr 1
    rw [decide_eq_decide]
    omega
  · rw [if_neg h]
    congr 1
    rw [eq_comm, decide_eq_false_iff_not]
    omega
theorem atom_f (a : S115) (k : Nat) : spec_l11AtomOk.f (k + 1) a.f0 a.f1 a.f2 a.f3 a.f4 a.f5 = some (clB a && kcB a) := by
  have jt : spec_l11AtomOk.j0 (k + 1) true a.f0 a.f1 a.f2 a.f3 a.f4 a.f5 = some false := by rw [spec_l11AtomOk.j0, if_pos rfl]
  have jf : spec_l11AtomOk.j0 (k + 1) false a.f0 a.f1 a.f2 a.f3 a.f4 a.f5 = some (kcB a) := by
    rw [spec_l11AtomOk.j0, if_neg (by simp)]
    unfold kcB
    by_cases h1 : a.f0 = 1
    · rw [if_pos h1, if_pos h1]
      by_cases h2 : a.f2 ≥ 33
      · rw [if_pos h2]
        by_cases h3 : a.f2 ≤ 126
        · rw [if_pos h3]
          by_cases h4 : a.f3 = 0
          · simp [h4, h2, h3]
          · simp [h4]
        · rw [if_neg h3]
          simp [h3]
      · rw [if_neg h2, decide_eq_false (by omega)]
    · rw [if_neg h1, if_neg h1]
      by_cases h2 : a.f0 ≥ 2
      · rw [if_pos h2]
        by_cases h3 : a.f0 ≤ 4
        · rw [if_pos h3]
          by_cases h4 : a.f2 = 0
          · simp [h4, h2, h3]
          · simp [h4]
        · rw [if_neg h3]
          simp [h3]
      · rw [if_neg h2, decide_eq_false (by omega)]
  unfold spec_l11AtomOk.f clB
  rw [count_f, count_f, count_f]
  by_cases c1 : a.f1 < 0
  · rw [if_pos c1, jt, decide_eq_false (by omega)]
    rfl
  · rw [if_neg c1]
    by_cases c2 : a.f1 > 7
    · rw [if_pos c2, jt, decide_eq_false (by omega)]
      rfl
    · rw [if_neg c2, Option.bind_some]
      by_cases c3 : 0 ≤ a.f3 ∧ a.f3 ≤ 2000
      · rw [if_pos (decide_eq_true c3), Option.bind_some]
        by_cases c4 : 0 ≤ a.f4 ∧ a.f4 ≤ 2000
        · rw [if_pos (decide_eq_true c4), Option.bind_some]
          by_cases c5 : 0 ≤ a.f5 ∧ a.f5 ≤ 2000
          · rw [decide_eq_true c5, Bool.not_true, jf, decide_eq_true (by omega)]
            rfl
          · rw [decide_eq_false c5, Bool.not_false, jt, decide_eq_false (by omega)]
            rfl
        · rw [if_neg (by rw [decide_eq_true_eq]; exact c4), jt, decide_eq_false (by omega)]
          rfl
      · rw [if_neg (by rw [decide_eq_true_eq]; exact c3), jt, decide_eq_false (by omega)]
        rfl
inductive Chain : List S115 → Prop
  | nil : Chain []
  | cons (a : S115) (t : List S115) (h3 : 0 ≤ a.f3) (h4 : 0 ≤ a.f4) (h5 : 0 ≤ a.f5) (h : a.f3 + a.f4 + a.f5 ≤ (t.length : Int)) (ht : Chain (t.drop (a.f3 + a.f4 + a.f5).toNat)) : Chain (a :: t)
theorem rd_at (l : List S115) (i : Nat) (h : i < l.length) : rd_T115 l (i : Int) = l[i] := by simp [rd_T115, h]
/-- One atom's place and the atoms that belong to it. -/
def Pl (l : List S115) (s : Int) (x : List S115) : Prop := ∃ j : Nat, s = (j : Int) ∧ ∃ h : j < l.length, ∃ t, x = l[j] :: t ∧ 0 ≤ l[j].f4 ∧ 0 ≤ l[j].f5 ∧ l[j].f4 ≤ 2000 ∧ l[j].f5 ≤ 2000
theorem nums (i m : Nat) (h : i + 1 + m ≤ 2000) (a b c : Int) (ha : 0 ≤ a) (hb : 0 ≤ b) (hc : 0 ≤ c) (hm : a + b + c = (m : Int)) : wrap64 (a + b) = a + b ∧ wrap64 (a + b + c) = (m : Int) ∧ wrap64 (1 + (m : Int)) = ((1 + m : Nat) : Int) ∧ wrap64 ((i : Int) + ((1 + m : Nat) : Int)) = ((i + 1 + m : Nat) : Int) ∧ wrap64 ((i : Int) + 1) = ((i + 1 : Nat) : Int) ∧ wrap64 (((i + 1 : Nat) : Int) + (m : Int)) = ((i + 1 + m : Nat) : Int) := by
  refine ⟨?_, ?_, ?_, ?_, ?_, ?_⟩
  · rw [wrap_in _ (by omega) (by omega)]
  · rw [hm, wrap_in _ (by omega) (by omega)]
  · rw [wrap_in _ (by omega) (by omega)]; omega
  · rw [wrap_in _ (by omega) (by omega)]; omega
  · rw [wrap_in _ (by omega) (by omega)]; omega
  · rw [wrap_in _ (by omega) (by omega)]; omega
theorem nums2 (i B U D e y L : Nat) (he : e ≤ 40) (hL : L ≤ 2000) (hm : i + 1 + (B + U + D) ≤ L) (hy : y = 1 + (B + U + D)) : wrap64 ((i : Int) + 1) = ((i + 1 : Nat) : Int) ∧ wrap64 ((B : Int) + (U : Int)) = ((B + U : Nat) : Int) ∧ wrap64 (((B + U : Nat) : Int) + (D : Int)) = ((B + U + D : Nat) : Int) ∧ wrap64 (((i + 1 : Nat) : Int) + ((B + U + D : Nat) : Int)) = ((i + 1 + (B + U + D) : Nat) : Int) ∧
    wrap64 (1 + (B : Int)) = ((1 + B : Nat) : Int) ∧ wrap64 (((1 + B : Nat) : Int) + (U : Int)) = ((1 + B + U : Nat) : Int) ∧ wrap64 ((e : Int) + 1) = ((e + 1 : Nat) : Int) ∧ wrap64 ((i : Int) + (y : Int)) = ((i + 1 + (B + U + D) : Nat) : Int) := by
  refine ⟨?_, ?_, ?_, ?_, ?_, ?_, ?_, ?_⟩ <;> (rw [wrap_in _ (by omega) (by omega)]; omega)
theorem places (l : List S115) (hl : l.length ≤ 2000) : ∀ d i : Nat, l.length - i ≤ d → i ≤ l.length → Chain (l.drop i) → ∃ (st : List Int) (bl : List (List S115)), st.length = bl.length ∧ st.length + i ≤ l.length ∧ (∀ j (h : j < st.length) (h' : j < bl.length), Pl l st[j] bl[j]) ∧
    ∃ n, ∀ k, n ≤ k → (∀ acc : List Int, acc.length ≤ i → spec_l11Starts.l0 k l acc i = some (acc ++ st)) ∧ (∀ acc : List (List S115), acc.length ≤ i → impl_oAtoms.l0 k l acc i = some (acc ++ bl)) := by
  intro d
  induction d with
  | zero =>
    intro i hd hi hc
    refine ⟨[], [], rfl, by simp; omega, fun j h => by simp at h, 1, fun k hk => ?_⟩
    obtain ⟨k, rfl⟩ : ∃ m, k = m + 1 := ⟨k - 1, by omega⟩
    exact ⟨fun acc _ => by rw [spec_l11Starts.l0, if_neg (by omega), List.append_nil], fun acc _ => by rw [impl_oAtoms.l0, if_neg (by omega), List.append_nil]⟩
  | succ d ih =>
    intro i hd hi hc
    rcases Nat.lt_or_ge i l.length with hlt | hge
    · rw [List.drop_eq_getElem_cons hlt] at hc
      cases hc with
      | cons a t h3 h4 h5 h ht =>
        rw [List.length_drop] at h
        obtain ⟨m, hm⟩ := Int.eq_ofNat_of_zero_le (show 0 ≤ l[i].f3 + l[i].f4 + l[i].f5 by omega)
        rw [hm, Int.toNat_natCast, List.drop_drop] at ht
        obtain ⟨st, bl, e1, e2, e3, n, hn⟩ := ih (i + 1 + m) (by omega) (by omega) ht
        have hb : (l.take (i + 1 + m)).drop i = l[i] :: (l.take (i + 1 + m)).drop (i + 1) := by
          rw [List.drop_eq_getElem_cons (by rw [List.length_take]; omega)]
          simp
        refine ⟨(i : Int) :: st, (l.take (i + 1 + m)).drop i :: bl, by simp [e1], by rw [List.length_cons]; omega, fun j h1 h2 => ?_, n + 1, fun k hk => ?_⟩
        · cases j with
          | zero => exact ⟨i, rfl, hlt, _, hb, h4, h5, by omega, by omega⟩
          | succ j => exact e3 j (by simpa using h1) (by simpa using h2)
        · obtain ⟨k, rfl⟩ : ∃ m, k = m + 1 := ⟨k - 1, by omega⟩
          obtain ⟨g1, g2⟩ := hn k (by omega)
          have b1 : (i : Int) < (l.length : Int) := by omega
          have b2 : (0 : Int) ≤ (i : Int) := by omega
          have b3 : (i : Int) ≤ ((i + 1 + m : Nat) : Int) := by omega
          have b4 : ((i + 1 + m : Nat) : Int) ≤ (l.length : Int) := by omega
          have b6 : i + 1 + m ≤ 2000 := by omega
          refine ⟨fun acc ha => ?_, fun acc ha => ?_⟩
          · have q := g1 (acc ++ [(i : Int)]) (by rw [List.length_append, List.length_singleton]; omega)
            have b5 : acc.length < 17592186044416 := by omega
            obtain ⟨w1, w2, w3, w4, w5, w6⟩ := nums i m b6 _ _ _ h3 h4 h5 hm
            rw [spec_l11Starts.l0, if_pos b1, if_pos b5, if_pos b2, rd_at l i hlt]
            unfold spec_l11Kids.f
            rw [Option.bind_some, w1, w2, w5, w6, q, List.append_assoc, List.singleton_append]
          · have q := g2 (acc ++ [(l.take (i + 1 + m)).drop i]) (by rw [List.length_append, List.length_singleton]; omega)
            have b5 : acc.length < 5864062014805 := by omega
            obtain ⟨w1, w2, w3, w4, w5, w6⟩ := nums i m b6 _ _ _ h3 h4 h5 hm
            rw [impl_oAtoms.l0, if_pos b1, if_pos b2, rd_at l i hlt, w1, w2, w3, w4, if_pos b3, if_pos b4, if_pos b5, Int.toNat_natCast, Int.toNat_natCast, q, List.append_assoc, List.singleton_append]
    · refine ⟨[], [], rfl, by simp; omega, fun j h => by simp at h, 1, fun k hk => ?_⟩
      obtain ⟨k, rfl⟩ : ∃ m, k = m + 1 := ⟨k - 1, by omega⟩
      exact ⟨fun acc _ => by rw [spec_l11Starts.l0, if_neg (by omega), List.append_nil], fun acc _ => by rw [impl_oAtoms.l0, if_neg (by omega), List.append_nil]⟩
theorem places_f (l : List S115) (hl : l.length ≤ 2000) (hc : Chain l) : ∃ (st : List Int) (bl : List (List S115)), st.length = bl.length ∧ st.length ≤ l.length ∧ (∀ j (h : j < st.length) (h' : j < bl.length), Pl l st[j] bl[j]) ∧
    ∃ n, ∀ k, n ≤ k → spec_l11Starts.f k l = some st ∧ impl_oAtoms.f k l = some bl := by
  obtain ⟨st, bl, e1, e2, e3, n, hn⟩ := places l hl l.length 0 (by omega) (by omega) (by simpa using hc)
  refine ⟨st, bl, e1, by omega, e3, n, fun k hk => ⟨?_, ?_⟩⟩
  · unfold spec_l11Starts.f
    have := (hn k hk).1 [] (by simp)
    simpa using this
  · unfold impl_oAtoms.f
    have := (hn k hk).2 [] (by simp)
    simpa using this

def tw (a : S115) : Bool := decide (a.f0 = 2 ∧ a.f4 = 0 ∧ a.f5 = 0)
/-- Two groups without scripts: both sides ask it of a fraction's body. -/
theorem two (b : List S115) (hb : b.length ≤ 2000) (hc : Chain b) : ∃ tb : Bool, ∃ n, ∀ k, n ≤ k → spec_l11Two.f k b = some tb ∧
    ∃ bl : List (List S115), impl_oAtoms.f k b = some bl ∧ ((bl.length : Int) ≠ 2 → tb = false) ∧ ((bl.length : Int) = 2 → ∀ (l : List S115) (x1 x5 : Int) (x8 : List S115) (a0 a1 a2 a3 a4 a5 : Int), a0 ≠ 1 → impl_oFormula.l1 k l x1 x5 x8 bl (bl.length : Int) 0 a0 a1 a2 a3 a4 a5 = if tb = true then (if a2 = 0 then impl_oFormula.l0 (k - 3) l x1 (wrap64 (x5 + (x8.length : Int))) else some false) else some false) := by
  obtain ⟨st, bl, e1, e2, e3, n, hn⟩ := places_f b hb hc
  by_cases h2 : st.length = 2
  · match st, bl, h2, e1, e3, hn with
    | [s0, s1], [x0, x1], _, _, e3, hn =>
      obtain ⟨j0, rfl, g0, t0, rfl, p0, q0, r0, u0⟩ := e3 0 (by simp) (by simp)
      obtain ⟨j1, rfl, g1, t1, rfl, p1, q1, r1, u1⟩ := e3 1 (by simp) (by simp)
      refine ⟨tw b[j0] && tw b[j1], n + 5, fun k hk => ⟨?_, _, (hn k (by omega)).2, fun h => absurd rfl h, fun _ l y1 y5 y8 a0 a1 a2 a3 a4 a5 ha => ?_⟩⟩
      · obtain ⟨k, rfl⟩ : ∃ m, k = m + 3 := ⟨k - 3, by omega⟩
        unfold spec_l11Two.f
        rw [(hn (k + 3) (by omega)).1, Option.bind_some, if_pos (by simp)]
        have v0 : rd [(j0 : Int), (j1 : Int)] 0 = (j0 : Int) := rfl
        have v1 : rd [(j0 : Int), (j1 : Int)] 1 = (j1 : Int) := rfl
        have z0 : ∀ m, spec_l11Two.l0 (m + 1) b [(j0 : Int), (j1 : Int)] 0 = if tw b[j0] = true then spec_l11Two.l0 m b [(j0 : Int), (j1 : Int)] 1 else some false := by
          intro m
          rw [spec_l11Two.l0, if_pos (by omega), if_pos (by omega), if_pos (by simp), v0, if_pos (by omega), if_pos (by omega), rd_at b j0 g0, wrap_in (b[j0].f4 + b[j0].f5) (by omega) (by omega), wrap_in (0 + 1) (by omega) (by omega)]
          by_cases c : b[j0].f0 = 2
          · rw [if_pos c]
            by_cases c2 : b[j0].f4 + b[j0].f5 > 0
            · rw [if_pos c2, if_neg (by simp only [tw, decide_eq_true_eq]; omega)]
            · rw [if_neg c2, if_pos (by simp only [tw, decide_eq_true_eq]; omega)]
              rfl
          · rw [if_neg c, if_neg (by simp only [tw, decide_eq_true_eq]; omega)]
        have z1 : ∀ m, spec_l11Two.l0 (m + 2) b [(j0 : Int), (j1 : Int)] 1 = some (tw b[j1]) := by
          intro m
          rw [spec_l11Two.l0, if_pos (by omega), if_pos (by omega), if_pos (by simp), v1, if_pos (by omega), if_pos (by omega), rd_at b j1 g1, wrap_in (b[j1].f4 + b[j1].f5) (by omega) (by omega), wrap_in (1 + 1) (by omega) (by omega)]
          by_cases c : b[j1].f0 = 2
          · rw [if_pos c]
            by_cases c2 : b[j1].f4 + b[j1].f5 > 0
            · rw [if_pos c2]
              congr 1
              rw [eq_comm]
              simp only [tw, decide_eq_false_iff_not]
              omega
            · rw [if_neg c2, spec_l11Two.l0, if_neg (by omega)]
              congr 1
              rw [eq_comm]
              simp only [tw, decide_eq_true_eq]
              omega
          · rw [if_neg c]
            congr 1
            rw [eq_comm]
            simp only [tw, decide_eq_false_iff_not]
            omega
        rw [z0, z1]
        cases tw b[j0] <;> simp
      · obtain ⟨k, rfl⟩ : ∃ m, k = m + 3 := ⟨k - 3, by omega⟩
        have v0 : rd_L3 [b[j0] :: t0, b[j1] :: t1] 0 = b[j0] :: t0 := rfl
        have v1 : rd_L3 [b[j0] :: t0, b[j1] :: t1] 1 = b[j1] :: t1 := rfl
        have u0 : ∀ (x : S115) (t : List S115), rd_T115 (x :: t) 0 = x := fun _ _ => rfl
        have z : ∀ (m : Nat) (i : Int) (x : S115) (t : List S115), 0 ≤ i → i < 2 → rd_L3 [b[j0] :: t0, b[j1] :: t1] i = x :: t → impl_oFormula.l1 (m + 1) l y1 y5 y8 [b[j0] :: t0, b[j1] :: t1] 2 i a0 a1 a2 a3 a4 a5 = if tw x = true then impl_oFormula.l1 m l y1 y5 y8 [b[j0] :: t0, b[j1] :: t1] 2 (i + 1) a0 a1 a2 a3 a4 a5 else some false := by
          intro m i x t h0 h1 hx
          rw [impl_oFormula.l1, if_pos (by omega), if_pos (by omega), if_pos (by simp; omega), hx, if_pos (by rw [List.length_cons]; omega), u0, wrap_in (i + 1) (by omega) (by omega)]
          by_cases c : x.f0 = 2
          · rw [if_pos c]
            by_cases c2 : x.f4 = 0
            · rw [if_pos c2]
              by_cases c3 : x.f5 = 0
              · rw [if_pos c3, if_pos (by simp only [tw, decide_eq_true_eq]; omega)]
              · rw [if_neg c3, if_neg (by simp only [tw, decide_eq_true_eq]; omega)]
            · rw [if_neg c2, if_neg (by simp only [tw, decide_eq_true_eq]; omega)]
          · rw [if_neg c, if_neg (by simp only [tw, decide_eq_true_eq]; omega)]
        show impl_oFormula.l1 (k + 3) l y1 y5 y8 [b[j0] :: t0, b[j1] :: t1] 2 0 a0 a1 a2 a3 a4 a5 = _
        have zz : impl_oFormula.l1 (k + 1) l y1 y5 y8 [b[j0] :: t0, b[j1] :: t1] 2 2 a0 a1 a2 a3 a4 a5 = if a2 = 0 then impl_oFormula.l0 k l y1 (wrap64 (y5 + (y8.length : Int))) else some false := by rw [impl_oFormula.l1, if_neg (by omega), if_neg ha]
        rw [z (k + 2) 0 _ _ (by omega) (by omega) v0, show (0 : Int) + 1 = 1 from rfl, z (k + 1) 1 _ _ (by omega) (by omega) v1, show (1 : Int) + 1 = 2 from rfl, zz, show k + 3 - 3 = k by omega]
        cases tw b[j0] <;> cases tw b[j1] <;> simp
  · refine ⟨false, n, fun k hk => ⟨?_, bl, (hn k hk).2, fun _ => rfl, fun h => by omega⟩⟩
    unfold spec_l11Two.f
    rw [(hn k hk).1, Option.bind_some, if_neg (by omega)]
section
variable (l : List S115) (hl : l.length ≤ 2000) (deep : Nat) (hdeep : deep ≤ 40)
include hl hdeep
theorem i_head (k i : Nat) (hi : i < l.length) : impl_oFormula.l0 (k + 1) l deep i = impl_oFormula.j2 k l deep i (!good l[i] ((l.length : Int) - i - 1)) l[i].f0 l[i].f1 l[i].f2 l[i].f3 l[i].f4 l[i].f5 := by
  have b1 : (i : Int) < (l.length : Int) := by omega
  have b2 : (0 : Int) ≤ (i : Int) := by omega
  have w0 : wrap64 (wrap64 ((l.length : Int) - i) - 1) = (l.length : Int) - i - 1 := by rw [wrap_in ((l.length : Int) - i) (by omega) (by omega)]; exact wrap_in _ (by omega) (by omega)
  rw [impl_oFormula.l0, if_pos b1, if_pos b2, rd_at l i hi, w0]
  clear w0
  generalize hr : (l.length : Int) - i - 1 = r
  have hr0 : 0 ≤ r ∧ r ≤ 2000 := by omega
  generalize l[i] = a
  have no : ∀ h : ¬ good a r = true, (!good a r) = true := fun h => by rw [Bool.eq_false_iff.mpr h]; rfl
  by_cases c1 : a.f3 < 0
  · rw [if_pos c1, no (by simp only [good, decide_eq_true_eq]; omega)]
  · rw [if_neg c1]
    by_cases c2 : a.f4 < 0
    · rw [if_pos c2, no (by simp only [good, decide_eq_true_eq]; omega)]
    · rw [if_neg c2]
      by_cases c3 : a.f5 < 0
      · rw [if_pos c3, no (by simp only [good, decide_eq_true_eq]; omega)]
      · rw [if_neg c3]
        by_cases c4 : a.f3 > r
        · rw [if_pos c4, no (by simp only [good, decide_eq_true_eq]; omega)]
        · rw [if_neg c4, wrap_in (r - a.f3) (by omega) (by omega)]
          by_cases c5 : a.f4 > r - a.f3
          · rw [if_pos c5, no (by simp only [good, decide_eq_true_eq]; omega)]
          · rw [if_neg c5, wrap_in (r - a.f3 - a.f4) (by omega) (by omega)]
            by_cases c6 : a.f5 > r - a.f3 - a.f4
            · rw [if_pos c6, no (by simp only [good, decide_eq_true_eq]; omega)]
            · rw [if_neg c6]
              by_cases c7 : a.f1 < 0
              · rw [if_pos c7, no (by simp only [good, decide_eq_true_eq]; omega)]
              · rw [if_neg c7]
                by_cases c8 : a.f1 > 7
                · rw [decide_eq_true c8, no (by simp only [good, decide_eq_true_eq]; omega)]
                · rw [decide_eq_false c8, show good a r = true by simp only [good, decide_eq_true_eq]; omega]
                  rfl
theorem s_head (k i : Nat) (hi : i < l.length) : spec_l11Ok.l0 (k + 2) l deep i = spec_l11Ok.j1 (k + 1) l deep i (!(good l[i] ((l.length : Int) - i - 1) && kcB l[i])) l[i].f0 l[i].f1 l[i].f2 l[i].f3 l[i].f4 l[i].f5 := by
  have b1 : (i : Int) < (l.length : Int) := by omega
  have b2 : (0 : Int) ≤ (i : Int) := by omega
  have w0 : wrap64 (wrap64 ((l.length : Int) - i) - 1) = (l.length : Int) - i - 1 := by rw [wrap_in ((l.length : Int) - i) (by omega) (by omega)]; exact wrap_in _ (by omega) (by omega)
  rw [spec_l11Ok.l0, if_pos b1, if_pos b2, rd_at l i hi, atom_f, Option.bind_some, w0]
  clear w0
  generalize hr : (l.length : Int) - i - 1 = r
  have hr0 : 0 ≤ r ∧ r ≤ 1999 := by omega
  generalize l[i] = a
  by_cases c : clB a = true
  · have c' := c
    simp only [clB, decide_eq_true_eq] at c'
    rw [c, Bool.true_and]
    by_cases d : kcB a = true
    · rw [if_pos d, d, Bool.and_true]
      unfold spec_l11Kids.f
      rw [Option.bind_some, wrap_in (a.f3 + a.f4) (by omega) (by omega), wrap_in (a.f3 + a.f4 + a.f5) (by omega) (by omega)]
      congr 1
      by_cases g : a.f3 + a.f4 + a.f5 > r
      · rw [decide_eq_true g, show good a r = false by simp only [good, decide_eq_false_iff_not]; omega]
        rfl
      · rw [decide_eq_false g, show good a r = true by simp only [good, decide_eq_true_eq]; omega]
        rfl
    · rw [if_neg d, Bool.eq_false_iff.mpr d, Bool.and_false]
      rfl
  · have c' := c
    simp only [clB, decide_eq_true_eq] at c'
    rw [Bool.eq_false_iff.mpr c, Bool.false_and, if_neg (by simp), show good a r = false by simp only [good, decide_eq_false_iff_not]; omega]
    rfl
end
theorem drop_cons (l : List S115) (i m : Nat) (hi : i < l.length) (hm : i + 1 + m ≤ l.length) : (l.take (i + 1 + m)).drop i = l[i] :: ((l.drop (i + 1)).take m) := by
  rw [List.drop_eq_getElem_cons (by rw [List.length_take]; omega), List.getElem_take]
  congr 1
  rw [List.drop_take]
  congr 1
  omega

/-- The loop of both sides, with the answers for the shorter lists at hand. -/
theorem loop (l : List S115) (hl : l.length ≤ 2000) (deep : Nat) (hdeep : deep ≤ 40)
    (IH : ∀ x : List S115, x.length < l.length → ∃ r : Bool, ∃ n, (∀ k, n ≤ k → spec_l11Ok.f k x ((deep + 1 : Nat) : Int) = some r ∧ impl_oFormula.f k x ((deep + 1 : Nat) : Int) = some r) ∧ (r = true → Chain x)) :
    ∀ d i : Nat, l.length - i ≤ d → i ≤ l.length → ∃ r : Bool, ∃ n, (∀ k, n ≤ k → spec_l11Ok.l0 k l deep i = some r ∧ impl_oFormula.l0 k l deep i = some r) ∧ (r = true → Chain (l.drop i)) := by
  intro d
  induction d with
  | zero =>
    intro i hd hi
    refine ⟨true, 1, fun k hk => ?_, fun _ => ?_⟩
    · obtain ⟨k, rfl⟩ : ∃ m, k = m + 1 := ⟨k - 1, by omega⟩
      exact ⟨by rw [spec_l11Ok.l0, if_neg (by omega)], by rw [impl_oFormula.l0, if_neg (by omega)]⟩
    · rw [List.drop_of_length_le (by omega)]
      exact .nil
  | succ d ih =>
    intro i hd hi
    rcases Nat.lt_or_ge i l.length with hlt | hge
    rotate_left
    · refine ⟨true, 1, fun k hk => ?_, fun _ => ?_⟩
      · obtain ⟨k, rfl⟩ : ∃ m, k = m + 1 := ⟨k - 1, by omega⟩
        exact ⟨by rw [spec_l11Ok.l0, if_neg (by omega)], by rw [impl_oFormula.l0, if_neg (by omega)]⟩
      · rw [List.drop_of_length_le (by omega)]
        exact .nil
    have sj : ∀ k a0 a1 a2 a3 a4 a5, spec_l11Ok.j1 (k + 1) l deep i true a0 a1 a2 a3 a4 a5 = some false := fun k a0 a1 a2 a3 a4 a5 => by rw [spec_l11Ok.j1, if_pos rfl]
    have ij : ∀ k a0 a1 a2 a3 a4 a5, impl_oFormula.j2 (k + 1) l deep i true a0 a1 a2 a3 a4 a5 = some false := fun k a0 a1 a2 a3 a4 a5 => by rw [impl_oFormula.j2, if_pos rfl]
    by_cases hg : good l[i] ((l.length : Int) - i - 1) = true
    rotate_left
    · have hg' := Bool.eq_false_iff.mpr hg
      refine ⟨false, 3, fun k hk => ?_, fun h => by cases h⟩
      obtain ⟨k, rfl⟩ : ∃ m, k = m + 3 := ⟨k - 3, by omega⟩
      refine ⟨?_, ?_⟩
      · rw [show k + 3 = (k + 1) + 2 from rfl, s_head l hl deep hdeep (k + 1) i hlt, hg', Bool.false_and, Bool.not_false, sj]
      · rw [show k + 3 = (k + 2) + 1 from rfl, i_head l hl deep hdeep (k + 2) i hlt, hg', Bool.not_false, ij]
    obtain ⟨g3, g4, g5, gs, gc0, gc7⟩ := good_at _ _ hg
    obtain ⟨B, hB⟩ := Int.eq_ofNat_of_zero_le g3
    obtain ⟨U, hU⟩ := Int.eq_ofNat_of_zero_le g4
    obtain ⟨D, hD⟩ := Int.eq_ofNat_of_zero_le g5
    rw [hB, hU, hD] at gs
    have hm : i + 1 + (B + U + D) ≤ l.length := by omega
    obtain ⟨t, ht⟩ : ∃ t, t = l.drop (i + 1) := ⟨_, rfl⟩
    have htl : t.length = l.length - (i + 1) := by rw [ht, List.length_drop]
    -- the parts
    obtain ⟨b, hb⟩ : ∃ b, b = t.take B := ⟨_, rfl⟩
    obtain ⟨u, hu⟩ : ∃ u, u = (t.take (B + U)).drop B := ⟨_, rfl⟩
    obtain ⟨v, hv⟩ : ∃ v, v = (t.take (B + U + D)).drop (B + U) := ⟨_, rfl⟩
    have hbl : b.length ≤ l.length - 1 := by rw [hb, List.length_take]; omega
    have hul : u.length ≤ l.length - 1 := by rw [hu, List.length_drop, List.length_take]; omega
    have hvl : v.length ≤ l.length - 1 := by rw [hv, List.length_drop, List.length_take]; omega
    obtain ⟨rb, nb, eb, cb⟩ := IH b (by omega)
    obtain ⟨ru, nu, eu, cu⟩ := IH u (by omega)
    obtain ⟨rv, nv, ev, cv⟩ := IH v (by omega)
    obtain ⟨rc, nc, ec, cc⟩ := ih (i + 1 + (B + U + D)) (by omega) hm
    obtain ⟨y, hy⟩ : ∃ y, y = (l.take (i + 1 + (B + U + D))).drop i := ⟨_, rfl⟩
    have hyc : y = l[i] :: t.take (B + U + D) := by rw [hy, ht]; exact drop_cons l i (B + U + D) hlt hm
    have hyl : y.length = 1 + (B + U + D) := by rw [hyc, List.length_cons, List.length_take]; omega
    have hy0 : rd_T115 y 0 = l[i] := by rw [hyc]; rfl
    have hyb : (y.take (1 + B)).drop 1 = b := by
      rw [hyc, hb, Nat.add_comm 1 B, List.take_succ_cons, List.drop_succ_cons, List.drop_zero, List.take_take]
      congr 1
      omega
    have hyu : (y.take (1 + B + U)).drop (1 + B) = u := by
      rw [hyc, hu, show 1 + B + U = (B + U) + 1 by omega, show 1 + B = B + 1 by omega, List.take_succ_cons, List.drop_succ_cons, List.take_take]
      congr 2
      omega
    have hyv : y.drop (1 + B + U) = v := by
      rw [hyc, hv, show 1 + B + U = (B + U) + 1 by omega, List.drop_succ_cons]
    -- the numbers, as the texts tell them
    have q1 : (0 : Int) ≤ ((i + 1 : Nat) : Int) := by omega
    have q2 : ((i + 1 : Nat) : Int) ≤ (l.length : Int) := by omega
    have q3 : (0 : Int) ≤ (B : Int) := by omega
    have q4 : (B : Int) ≤ (t.length : Int) := by omega
    have q5 : (B : Int) ≤ ((B + U : Nat) : Int) := by omega
    have q6 : ((B + U : Nat) : Int) ≤ (t.length : Int) := by omega
    have q7 : (0 : Int) ≤ ((B + U : Nat) : Int) := by omega
    have q8 : ((B + U : Nat) : Int) ≤ ((B + U + D : Nat) : Int) := by omega
    have q9 : ((B + U + D : Nat) : Int) ≤ (t.length : Int) := by omega
    have p1 : (0 : Int) ≤ (i : Int) := by omega
    have p2 : (i : Int) ≤ ((i + 1 + (B + U + D) : Nat) : Int) := by omega
    have p3 : ((i + 1 + (B + U + D) : Nat) : Int) ≤ (l.length : Int) := by omega
    have p4 : (0 : Int) < (y.length : Int) := by omega
    have p5 : (1 : Int) ≤ ((1 + B : Nat) : Int) := by omega
    have p6 : ((1 + B : Nat) : Int) ≤ (y.length : Int) := by omega
    have p7 : (0 : Int) ≤ ((1 + B : Nat) : Int) := by omega
    have p8 : ((1 + B : Nat) : Int) ≤ ((1 + B + U : Nat) : Int) := by omega
    have p9 : ((1 + B + U : Nat) : Int) ≤ (y.length : Int) := by omega
    have p10 : (0 : Int) ≤ ((1 + B + U : Nat) : Int) := by omega
    have NU := Aside0.mk (nums2 i B U D deep y.length l.length hdeep hl hm hyl)
    -- what each side comes to behind the head
    have sj1 : ∀ k, nb + nu + nv ≤ k → spec_l11Ok.j1 (k + 1) l deep i false l[i].f0 l[i].f1 l[i].f2 (B : Int) (U : Int) (D : Int) = if rb = true then (if ru = true then spec_l11Ok.j2 k l deep i t (!rv) l[i].f0 l[i].f1 l[i].f2 (B : Int) (U : Int) (D : Int) else spec_l11Ok.j2 k l deep i t true l[i].f0 l[i].f1 l[i].f2 (B : Int) (U : Int) (D : Int)) else spec_l11Ok.j2 k l deep i t true l[i].f0 l[i].f1 l[i].f2 (B : Int) (U : Int) (D : Int) := by
      intro k hk
      have xb := (eb k (by omega)).1
      have xu := (eu k (by omega)).1
      have xv := (ev k (by omega)).1
      obtain ⟨w1, w2, w3, w4, w5, w6, w7, w8⟩ := NU.out
      rw [spec_l11Ok.j1, if_neg (by simp), w1, if_pos q1, if_pos q2, Int.toNat_natCast, ← ht, Option.bind_some, if_pos q3, if_pos q4, Int.toNat_natCast, ← hb, w7, xb, Option.bind_some, w2, if_pos q5, if_pos q6, Int.toNat_natCast, ← hu, xu, Option.bind_some]
      unfold spec_l11Kids.f
      rw [Option.bind_some, w2, w3, if_pos q7, if_pos q8, if_pos q9, Int.toNat_natCast, ← hv, xv, Option.bind_some]
    have ij2 : ∀ k, nb + nu + nv ≤ k → impl_oFormula.j2 (k + 1) l deep i false l[i].f0 l[i].f1 l[i].f2 (B : Int) (U : Int) (D : Int) = if rb = true then (if ru = true then impl_oFormula.j3 k l deep i y b (!rv) l[i].f0 l[i].f1 l[i].f2 (B : Int) (U : Int) (D : Int) else impl_oFormula.j3 k l deep i y b true l[i].f0 l[i].f1 l[i].f2 (B : Int) (U : Int) (D : Int)) else impl_oFormula.j3 k l deep i y b true l[i].f0 l[i].f1 l[i].f2 (B : Int) (U : Int) (D : Int) := by
      intro k hk
      have xb := (eb k (by omega)).2
      have xu := (eu k (by omega)).2
      have xv := (ev k (by omega)).2
      obtain ⟨w1, w2, w3, w4, w5, w6, w7, w8⟩ := NU.out
      rw [impl_oFormula.j2, if_neg (by simp), w1, w2, w3, w4, if_pos p1, if_pos p2, if_pos p3, Int.toNat_natCast, Int.toNat_natCast, ← hy, Option.bind_some, if_pos p4, hy0, hB, hU, w5, if_pos p5, if_pos p6, Int.toNat_natCast, hyb, Option.bind_some, if_pos p7, w6, if_pos p8, if_pos p9, if_pos p10, w7, xb, Option.bind_some, Int.toNat_natCast, hyu, xu, Option.bind_some, hyv, xv, Option.bind_some]
    have cl : rc = true → Chain (l.drop i) := by
      intro h
      rw [List.drop_eq_getElem_cons hlt]
      refine .cons _ _ g3 g4 g5 (by rw [hB, hU, hD, List.length_drop]; omega) ?_
      rw [hB, hU, hD, show (B : Int) + (U : Int) + (D : Int) = ((B + U + D : Nat) : Int) by omega, Int.toNat_natCast, List.drop_drop]
      exact cc h
    clear q1 q2 p1 p2 p3 p5 p6 p7 p8 p9 p10
    have W2 := Aside0.mk NU.out.2.1
    have W3 := Aside0.mk NU.out.2.2.1
    have W4 := Aside0.mk NU.out.2.2.2.1
    have W8 := Aside0.mk NU.out.2.2.2.2.2.2.2
    clear NU
    have s2t : ∀ k, spec_l11Ok.j2 (k + 1) l deep i t true l[i].f0 l[i].f1 l[i].f2 (B : Int) (U : Int) (D : Int) = some false := fun k => by rw [spec_l11Ok.j2, if_pos rfl]
    have i3t : ∀ k, impl_oFormula.j3 (k + 1) l deep i y b true l[i].f0 l[i].f1 l[i].f2 (B : Int) (U : Int) (D : Int) = some false := fun k => by rw [impl_oFormula.j3, if_pos rfl]
    by_cases hr : rb = true ∧ ru = true ∧ rv = true
    rotate_left
    · -- a part is none
      have s1 : ∀ k, nb + nu + nv + 2 ≤ k → spec_l11Ok.j1 k l deep i (!(kcB l[i])) l[i].f0 l[i].f1 l[i].f2 (B : Int) (U : Int) (D : Int) = some false := by
        intro k hk
        obtain ⟨k, rfl⟩ : ∃ m, k = m + 1 + 1 := ⟨k - 2, by omega⟩
        cases kcB l[i]
        · exact sj _ _ _ _ _ _ _
        · rw [Bool.not_true, sj1 (k + 1) (by omega)]
          cases rb <;> cases ru <;> cases rv <;> simp [s2t] at hr ⊢
      have i1 : ∀ k, nb + nu + nv + 2 ≤ k → impl_oFormula.j2 k l deep i false l[i].f0 l[i].f1 l[i].f2 (B : Int) (U : Int) (D : Int) = some false := by
        intro k hk
        obtain ⟨k, rfl⟩ : ∃ m, k = m + 1 + 1 := ⟨k - 2, by omega⟩
        rw [ij2 (k + 1) (by omega)]
        cases rb <;> cases ru <;> cases rv <;> simp [i3t] at hr ⊢
      refine ⟨false, nb + nu + nv + 5, fun k hk => ?_, fun h => by cases h⟩
      obtain ⟨k, rfl⟩ : ∃ m, k = m + 2 := ⟨k - 2, by omega⟩
      refine ⟨?_, ?_⟩
      · rw [s_head l hl deep hdeep k i hlt, hg, Bool.true_and, hB, hU, hD]
        exact s1 (k + 1) (by omega)
      · rw [show k + 2 = (k + 1) + 1 from rfl, i_head l hl deep hdeep (k + 1) i hlt, hg, Bool.not_true, hB, hU, hD]
        exact i1 (k + 1) (by omega)
    obtain ⟨rfl, rfl, rfl⟩ := hr
    obtain ⟨tb, n2, h2⟩ := two b (by omega) (cb rfl)
    -- the end of one atom
    obtain ⟨R, hR⟩ : ∃ R : Bool, R = (kcB l[i] && ((!decide (l[i].f0 = 3) || tb) && rc)) := ⟨_, rfl⟩
    have s1 : ∀ k, nb + nu + nv + nc + n2 + 6 ≤ k → spec_l11Ok.j1 k l deep i (!(kcB l[i])) l[i].f0 l[i].f1 l[i].f2 (B : Int) (U : Int) (D : Int) = some R := by
      intro k hk
      obtain ⟨k, rfl⟩ : ∃ m, k = m + 1 + 1 := ⟨k - 2, by omega⟩
      have xc := (ec k (by omega)).1
      have x2 := (h2 k (by omega)).1
      by_cases hk2 : kcB l[i] = true
      · rw [hk2] at hR
        rw [hk2, Bool.not_true, sj1 (k + 1) (by omega), if_pos rfl, if_pos rfl, Bool.not_true, spec_l11Ok.j2, if_neg (by simp)]
        unfold spec_l11Kids.f
        rw [Option.bind_some, W2.out, W3.out, wrap_succ i (by omega), W4.out, xc]
        by_cases h3 : l[i].f0 = 3
        · rw [if_pos h3, if_pos q3, if_pos q4, Int.toNat_natCast, ← hb, x2, Option.bind_some, hR, decide_eq_true h3]
          cases tb <;> simp
        · rw [if_neg h3, hR, decide_eq_false h3]
          simp
      · have := Bool.eq_false_iff.mpr hk2
        rw [this] at hR
        rw [this, Bool.not_false, hR]
        exact sj _ _ _ _ _ _ _
    have i1 : ∀ k, nb + nu + nv + nc + n2 + 9 ≤ k → impl_oFormula.j2 k l deep i false l[i].f0 l[i].f1 l[i].f2 (B : Int) (U : Int) (D : Int) = some R := by
      intro k hk
      obtain ⟨k, rfl⟩ : ∃ m, k = m + 1 + 1 + 1 + 4 := ⟨k - 7, by omega⟩
      have j4t : ∀ k x0 x1 x2 x3 x4 x5, impl_oFormula.j4 (k + 1) l deep i y true x0 x1 x2 x3 x4 x5 = some false := fun k x0 x1 x2 x3 x4 x5 => by rw [impl_oFormula.j4, if_pos rfl]
      rw [show k + 1 + 1 + 1 + 4 = (k + 1 + 1 + 4) + 1 from rfl, ij2 (k + 1 + 1 + 4) (by omega), if_pos rfl, if_pos rfl, Bool.not_true, show k + 1 + 1 + 4 = (k + 5) + 1 from rfl, impl_oFormula.j3, if_neg (by simp)]
      by_cases h1 : l[i].f0 = 1
      · have hkc : kcB l[i] = decide (33 ≤ l[i].f2 ∧ l[i].f2 ≤ 126 ∧ (B : Int) = 0) := by unfold kcB; rw [if_pos h1, hB]
        have h3 : ¬ l[i].f0 = 3 := by omega
        rw [if_pos h1, hR, hkc, decide_eq_false h3]
        by_cases c1 : l[i].f2 < 33
        · rw [if_pos c1, j4t, decide_eq_false (by omega)]
          rfl
        · rw [if_neg c1]
          by_cases c2 : l[i].f2 > 126
          · rw [if_pos c2, j4t, decide_eq_false (by omega)]
            rfl
          · rw [if_neg c2]
            by_cases c3 : (B : Int) = 0
            · rw [show ((B : Int) != 0) = false by rw [c3]; rfl, impl_oFormula.j4, if_neg (by simp), if_pos h1, W8.out, (ec (k + 4) (by omega)).2, decide_eq_true (by omega)]
              simp
            · rw [show ((B : Int) != 0) = true by simp; omega, j4t, decide_eq_false (by omega)]
              rfl
      · have hkc : kcB l[i] = decide (2 ≤ l[i].f0 ∧ l[i].f0 ≤ 4 ∧ l[i].f2 = 0) := by unfold kcB; rw [if_neg h1]
        rw [if_neg h1, hR, hkc]
        have j5t : impl_oFormula.j5 (k + 5) l deep i y b l[i].f0 true l[i].f0 l[i].f1 l[i].f2 (B : Int) (U : Int) (D : Int) = if l[i].f2 = 0 then some rc else some false := by
          rw [impl_oFormula.j5, if_pos rfl, if_neg h1, W8.out, (ec (k + 4) (by omega)).2]
        have j5f : impl_oFormula.j5 (k + 5) l deep i y b l[i].f0 false l[i].f0 l[i].f1 l[i].f2 (B : Int) (U : Int) (D : Int) = if l[i].f0 = 3 then (if tb = true then (if l[i].f2 = 0 then some rc else some false) else some false) else some false := by
          obtain ⟨bl, e1, e2, e3⟩ := (h2 (k + 4) (by omega)).2
          rw [impl_oFormula.j5, if_neg (by simp), e1, Option.bind_some]
          by_cases c3 : l[i].f0 = 3
          · rw [if_pos c3, if_pos c3]
            by_cases c2 : (bl.length : Int) = 2
            · rw [if_pos c2, e3 c2 l deep i y _ _ _ _ _ _ h1, W8.out, (ec (k + 4 - 3) (by omega)).2]
            · rw [if_neg c2, e2 c2]
              rfl
          · rw [if_neg c3, if_neg c3]
        by_cases c2 : l[i].f0 = 2
        · rw [if_pos c2, show (l[i].f0 == 2) = true by rw [c2]; rfl, j5t, decide_eq_false (show ¬ l[i].f0 = 3 by omega)]
          by_cases z : l[i].f2 = 0
          · rw [if_pos z, decide_eq_true (by omega)]
            simp
          · rw [if_neg z, decide_eq_false (by omega)]
            rfl
        · rw [if_neg c2]
          by_cases c4 : l[i].f0 = 4
          · rw [show (l[i].f0 == 4) = true by rw [c4]; rfl, j5t, decide_eq_false (show ¬ l[i].f0 = 3 by omega)]
            by_cases z : l[i].f2 = 0
            · rw [if_pos z, decide_eq_true (by omega)]
              simp
            · rw [if_neg z, decide_eq_false (by omega)]
              rfl
          · rw [show (l[i].f0 == 4) = false by simp; omega, j5f]
            by_cases c3 : l[i].f0 = 3
            · rw [if_pos c3, decide_eq_true c3]
              by_cases z : l[i].f2 = 0
              · rw [if_pos z, decide_eq_true (show 2 ≤ l[i].f0 ∧ l[i].f0 ≤ 4 ∧ l[i].f2 = 0 by omega)]
                cases tb <;> simp
              · rw [if_neg z, decide_eq_false (show ¬ (2 ≤ l[i].f0 ∧ l[i].f0 ≤ 4 ∧ l[i].f2 = 0) by omega)]
                cases tb <;> simp
            · rw [if_neg c3, decide_eq_false (show ¬ (2 ≤ l[i].f0 ∧ l[i].f0 ≤ 4 ∧ l[i].f2 = 0) by omega)]
              rfl
    refine ⟨R, nb + nu + nv + nc + n2 + 12, fun k hk => ?_, fun h => cl ?_⟩
    · obtain ⟨k, rfl⟩ : ∃ m, k = m + 2 := ⟨k - 2, by omega⟩
      refine ⟨?_, ?_⟩
      · rw [s_head l hl deep hdeep k i hlt, hg, Bool.true_and, hB, hU, hD]
        exact s1 (k + 1) (by omega)
      · rw [show k + 2 = (k + 1) + 1 from rfl, i_head l hl deep hdeep (k + 1) i hlt, hg, Bool.not_true, hB, hU, hD]
        exact i1 (k + 1) (by omega)
    · rw [h] at hR
      cases hq : rc
      · rw [hq] at hR
        simp at hR
      · rfl
theorem both : ∀ N : Nat, ∀ l : List S115, l.length ≤ N → l.length ≤ 2000 → ∀ deep : Nat, deep ≤ 41 → ∃ r : Bool, ∃ n, (∀ k, n ≤ k → spec_l11Ok.f k l (deep : Int) = some r ∧ impl_oFormula.f k l (deep : Int) = some r) ∧ (r = true → Chain l) := by
  intro N
  induction N with
  | zero =>
    intro l hN hl deep hd
    obtain rfl : l = [] := List.length_eq_zero_iff.1 (by omega)
    refine ⟨true, 4, fun k hk => ?_, fun _ => .nil⟩
    obtain ⟨k, rfl⟩ : ∃ m, k = m + 3 := ⟨k - 3, by omega⟩
    refine ⟨?_, ?_⟩
    · rw [spec_l11Ok.f]
      split
      · rfl
      · rw [spec_l11Ok.l0, if_neg (by simp)]
    · rw [impl_oFormula.f, if_neg (by simp), impl_oFormula.j0, if_neg (by simp), impl_oFormula.l0, if_neg (by simp)]
  | succ N ih =>
    intro l hN hl deep hd
    by_cases h40 : deep ≤ 40
    · obtain ⟨r, n, hn, hc⟩ := loop l hl deep h40 (fun x hx => ih x (by omega) (by omega) (deep + 1) (by omega)) l.length 0 (by omega) (by omega)
      refine ⟨r, n + 2, fun k hk => ?_, fun h => by simpa using hc h⟩
      obtain ⟨k, rfl⟩ : ∃ m, k = m + 2 := ⟨k - 2, by omega⟩
      refine ⟨?_, ?_⟩
      · rw [spec_l11Ok.f, if_neg (by omega)]
        exact (hn (k + 1) (by omega)).1
      · rw [impl_oFormula.f]
        split
        · rw [decide_eq_false (by omega), impl_oFormula.j0, if_neg (by simp)]
          exact (hn k (by omega)).2
        · rw [impl_oFormula.j0, if_neg (by simp)]
          exact (hn k (by omega)).2
    · cases l with
      | nil =>
        refine ⟨true, 4, fun k hk => ?_, fun _ => .nil⟩
        obtain ⟨k, rfl⟩ : ∃ m, k = m + 3 := ⟨k - 3, by omega⟩
        refine ⟨?_, ?_⟩
        · rw [spec_l11Ok.f, if_pos (by omega)]
          rfl
        · rw [impl_oFormula.f, if_neg (by simp), impl_oFormula.j0, if_neg (by simp), impl_oFormula.l0, if_neg (by simp)]
      | cons x t =>
        refine ⟨false, 4, fun k hk => ?_, fun h => by cases h⟩
        obtain ⟨k, rfl⟩ : ∃ m, k = m + 3 := ⟨k - 3, by omega⟩
        refine ⟨?_, ?_⟩
        · rw [spec_l11Ok.f, if_pos (by omega)]
          congr 1
        · rw [impl_oFormula.f, if_pos (by rw [List.length_cons]; omega), decide_eq_true (by omega), impl_oFormula.j0, if_pos rfl]
theorem ok_both (l : List S115) : ∃ r : Bool, ∃ n, (∀ k, n ≤ k → spec_FormulaOk.f k l = some r ∧ impl_FormulaOk.f k l = some r) ∧ (r = true → l.length ≤ 2000 ∧ Chain l) := by
  by_cases h : l.length ≤ 2000
  · obtain ⟨r, n, hn, hc⟩ := both l.length l (Nat.le_refl _) h 0 (by omega)
    refine ⟨r, n, fun k hk => ⟨?_, ?_⟩, fun e => ⟨h, hc e⟩⟩
    · unfold spec_FormulaOk.f
      rw [if_pos (by omega), show (0 : Int) = ((0 : Nat) : Int) from rfl, (hn k hk).1]
      rfl
    · unfold impl_FormulaOk.f
      rw [if_pos (by omega), show (0 : Int) = ((0 : Nat) : Int) from rfl, (hn k hk).2]
      rfl
  · refine ⟨false, 0, fun k hk => ⟨?_, ?_⟩, fun e => by cases e⟩
    · unfold spec_FormulaOk.f
      rw [if_neg (by omega)]
    · unfold impl_FormulaOk.f
      rw [if_neg (by omega)]
theorem szAtomS_f (l : List S117) (left : Int) (h0 : 0 ≤ left) (h1 : left ≤ 1048576) (hl : l.length ≤ 9223372036854775807) : ∃ r, laws_szAtomS.f l left = some r ∧ (r < 0 ∨ (0 ≤ r ∧ r ≤ left ∧ (l.length : Int) ≤ left)) := by
  unfold laws_szAtomS.f
  rw [wrap_in (left - (l.length : Int)) (by omega) (by omega)]
  split
  · exact ⟨-1, rfl, .inl (by omega)⟩
  · exact ⟨_, rfl, .inr (by omega)⟩

theorem eqInt64S_l0 (l : List Int) (hl : l.length ≤ 9223372036854775806) : ∀ d k i : Nat, l.length - i = d → i ≤ l.length → d < k → laws_eqInt64S.l0 k l l i = some true := by
  intro d
  induction d with
  | zero =>
    intro k i hd hi hk
    obtain ⟨k, rfl⟩ : ∃ m, k = m + 1 := ⟨k - 1, by omega⟩
    rw [laws_eqInt64S.l0, if_neg (by omega)]
  | succ d ih =>
    intro k i hd hi hk
    obtain ⟨k, rfl⟩ : ∃ m, k = m + 1 := ⟨k - 1, by omega⟩
    rw [laws_eqInt64S.l0, if_pos (by omega), if_pos (by omega), if_pos (by omega), if_pos rfl, wrap_succ i (by omega)]
    exact ih k (i + 1) (by omega) (by omega) (by omega)
theorem eqInt64S_f (l : List Int) (hl : l.length ≤ 9223372036854775806) (k : Nat) (hk : l.length < k) : laws_eqInt64S.f k l l = some true := by
  unfold laws_eqInt64S.f
  rw [if_pos rfl]
  exact eqInt64S_l0 l hl l.length k 0 (by omega) (by omega) hk
theorem markInt64S_l0 (q0 : Int) (n : Nat) (h0 : 0 ≤ q0) (hq : q0 + n ≤ 4611686018427387904) : ∀ d k i : Nat, ∀ x : List Int, n - i = d → i ≤ n → x.length = n → d < k → (∀ j : Nat, j < i → rd x (j : Int) = q0 + j) →
    ∃ l', laws_markInt64S.l0 k x (q0 + i) i = some (q0 + n, l') ∧ l'.length = n ∧ ∀ j : Nat, j < n → rd l' (j : Int) = q0 + j := by
  intro d
  induction d with
  | zero =>
    intro k i x hd hi hx hk hj
    obtain ⟨k, rfl⟩ : ∃ m, k = m + 1 := ⟨k - 1, by omega⟩
    obtain rfl : i = n := by omega
    exact ⟨x, by rw [laws_markInt64S.l0, if_neg (by omega)], hx, hj⟩
  | succ d ih =>
    intro k i x hd hi hx hk hj
    obtain ⟨k, rfl⟩ : ∃ m, k = m + 1 := ⟨k - 1, by omega⟩
    rw [laws_markInt64S.l0, if_pos (by omega), if_pos (by omega), wrap_succ i (by omega), wrap_in (q0 + i + 1) (by omega) (by omega), Int.toNat_natCast, show q0 + (i : Int) + 1 = q0 + ((i + 1 : Nat) : Int) by omega]
    refine ih k (i + 1) _ (by omega) (by omega) (by simpa using hx) (by omega) (fun j hlt => ?_)
    rcases Nat.lt_or_ge j i with h | h
    · rw [← hj j h, rd_set_ne x i j _ (by omega)]
    · obtain rfl : j = i := by omega
      rw [rd_set_eq x j _ (by omega)]
theorem heldInt64S_l0 (q0 : Int) (l : List Int) (h0 : 0 ≤ q0) (hq : q0 + l.length ≤ 4611686018427387904) (hj : ∀ j : Nat, j < l.length → rd l (j : Int) = q0 + j) : ∀ d k i : Nat, l.length - i = d → i ≤ l.length → d < k →
    laws_heldInt64S.l0 k l (q0 + i) i = some (q0 + l.length) := by
  intro d
  induction d with
  | zero =>
    intro k i hd hi hk
    obtain ⟨k, rfl⟩ : ∃ m, k = m + 1 := ⟨k - 1, by omega⟩
    obtain rfl : i = l.length := by omega
    rw [laws_heldInt64S.l0, if_neg (by omega)]
  | succ d ih =>
    intro k i hd hi hk
    obtain ⟨k, rfl⟩ : ∃ m, k = m + 1 := ⟨k - 1, by omega⟩
    rw [laws_heldInt64S.l0, if_pos (by omega), if_pos (by omega), if_pos (hj i (by omega)), wrap_succ i (by omega), wrap_in (q0 + i + 1) (by omega) (by omega), show q0 + (i : Int) + 1 = q0 + ((i + 1 : Nat) : Int) by omega]
    exact ih k (i + 1) (by omega) (by omega) (by omega)
theorem markInt64S_f (l : List Int) (q0 : Int) (h0 : 0 ≤ q0) (hq : q0 + l.length ≤ 4611686018427387904) :
    ∃ l', (∀ k, l.length < k → laws_markInt64S.f k l q0 = some (q0 + l.length, l')) ∧ ∀ k, l.length < k → laws_heldInt64S.f k l' q0 = some (q0 + l.length) := by
  obtain ⟨l', h1, h2, h3⟩ := markInt64S_l0 q0 l.length h0 hq l.length (l.length + 1) 0 l (by omega) (by omega) rfl (by omega) (fun j h => by omega)
  refine ⟨l', fun k hk => ?_, fun k hk => ?_⟩
  · obtain ⟨l2, g1, g2, g3⟩ := markInt64S_l0 q0 l.length h0 hq l.length k 0 l (by omega) (by omega) rfl hk (fun j h => by omega)
    have e : l2 = l' := by
      apply List.ext_getElem (by omega)
      intro j a b
      have e1 := g3 j (by omega)
      have e2 := h3 j (by omega)
      rw [rd_nat l2 j (by omega)] at e1
      rw [rd_nat l' j (by omega)] at e2
      rw [e1, e2]
    subst e
    unfold laws_markInt64S.f
    simpa using g1
  · have := heldInt64S_l0 q0 l' h0 (by rw [h2]; exact hq) (fun j h => h3 j (by omega)) l'.length k 0 (by omega) (by omega) (by omega)
    unfold laws_heldInt64S.f
    rw [h2] at this
    simpa using this

/-- The class that an atom has in the end: c what it says itself, of m, at j; a: its elder neighbour's, as told. -/
def val (c : Nat → Int) (m j : Nat) (a : Int) : Int := if c j = 2 then (if j = 0 ∨ j + 1 = m then 0 else if a = 2 ∨ a = 1 ∨ a = 3 ∨ a = 4 ∨ a = 6 then 0 else if c (j + 1) = 3 ∨ c (j + 1) = 5 ∨ c (j + 1) = 6 then 0 else c j) else c j
section
variable (l : List S115) (st : List Int) (bl : List (List S115)) (c : Nat → Int) (m : Nat) (hm : m ≤ 2000) (hs : st.length = m) (hb : bl.length = m)
    (h1 : ∀ j, j < m → 0 ≤ rd st (j : Int) ∧ rd st (j : Int) < (l.length : Int) ∧ (rd_T115 l (rd st (j : Int))).f1 = c j)
    (h2 : ∀ j, j < m → 0 < ((rd_L3 bl (j : Int)).length : Int) ∧ (rd_T115 (rd_L3 bl (j : Int)) 0).f1 = c j)
include hm hs h1
theorem s_step (acc : List Int) (j : Nat) (hj : j < m) (ha : acc.length = j) (n : Nat) (r : List Int)
    (h : ∀ k, n ≤ k → spec_l11Classes.l0 k l (acc ++ [val c m j (rd acc ((j - 1 : Nat) : Int))]) st ((j + 1 : Nat) : Int) = some r) : ∀ k, n + 3 ≤ k → spec_l11Classes.l0 k l acc st (j : Int) = some r := by
  intro k hk
  obtain ⟨k, rfl⟩ : ∃ q, k = q + 3 := ⟨k - 3, by omega⟩
  have hl : acc.length < 17592186044416 := by omega
  have g := h1 j hj
  rw [show k + 3 = (k + 2) + 1 from rfl, spec_l11Classes.l0, if_pos (by omega), if_pos (by omega), if_pos g.1, if_pos g.2.1, g.2.2, wrap_succ j (by omega), wrap_in ((st.length : Int) - 1) (by omega) (by omega)]
  unfold val at h
  by_cases hc : c j = 2
  · rw [if_pos hc] at h ⊢
    by_cases h0 : (j : Int) = 0
    · rw [if_pos h0, show k + 2 = (k + 1) + 1 from rfl, spec_l11Classes.j1, if_pos rfl, if_pos hl, wrap_succ j (by omega)]
      rw [if_pos (.inl (by omega))] at h
      exact h _ (by omega)
    rw [if_neg h0, show k + 2 = (k + 1) + 1 from rfl, spec_l11Classes.j1]
    by_cases hlast : (j : Int) = (st.length : Int) - 1
    · rw [if_pos (beq_iff_eq.mpr hlast), if_pos hl, wrap_succ j (by omega)]
      rw [if_pos (.inr (by omega))] at h
      exact h _ (by omega)
    have g2 := h1 (j + 1) (by omega)
    rw [if_neg (by rw [beq_eq_false_iff_ne.mpr hlast]; decide), wrap_in ((j : Int) - 1) (by omega) (by omega), show (j : Int) - 1 = ((j - 1 : Nat) : Int) by omega, wrap_succ j (by omega), if_pos (by omega), if_pos (by omega), if_pos (by omega), if_pos (by omega), if_pos g2.1, if_pos g2.2.1, g2.2.2]
    rw [if_neg (by omega : ¬ (j = 0 ∨ j + 1 = m))] at h
    generalize rd acc ((j - 1 : Nat) : Int) = a at h ⊢
    generalize c (j + 1) = b at h ⊢
    have e : ∀ x, (if acc.length < 17592186044416 then spec_l11Classes.l0 (k + 1) l (acc ++ [x]) st ((j + 1 : Nat) : Int) else none) = spec_l11Classes.l0 (k + 1) l (acc ++ [x]) st ((j + 1 : Nat) : Int) := fun x => if_pos hl
    simp only [e]
    have h := h (k + 1) (by omega)
    by_cases hA : a = 2 ∨ a = 1 ∨ a = 3 ∨ a = 4 ∨ a = 6
    · rw [if_pos hA] at h
      rcases hA with x | x | x | x | x <;> simpa [x] using h
    · rw [if_neg hA] at h
      simp only [not_or] at hA
      rw [if_neg hA.1, if_neg hA.2.1, if_neg hA.2.2.1, if_neg hA.2.2.2.1, if_neg hA.2.2.2.2]
      by_cases hB : b = 3 ∨ b = 5 ∨ b = 6
      · rw [if_pos hB] at h
        rcases hB with x | x | x <;> simpa [x] using h
      · rw [if_neg hB] at h
        simp only [not_or] at hB
        rw [if_neg hB.1, if_neg hB.2.1, if_neg hB.2.2]
        exact h
  · rw [if_neg hc] at h ⊢
    rw [if_pos hl]
    exact h _ (by omega)
omit hs h1
include hb h2
theorem i_step (acc : List Int) (j : Nat) (hj : j < m) (ha : acc.length = j) (n : Nat) (r : List Int)
    (h : ∀ k, n ≤ k → impl_oClasses.l0 k bl (acc ++ [val c m j (rd acc ((j - 1 : Nat) : Int))]) bl (bl.length : Int) ((j + 1 : Nat) : Int) = some r) : ∀ k, n + 3 ≤ k → impl_oClasses.l0 k bl acc bl (bl.length : Int) (j : Int) = some r := by
  intro k hk
  obtain ⟨k, rfl⟩ : ∃ q, k = q + 3 := ⟨k - 3, by omega⟩
  have hl : acc.length < 17592186044416 := by omega
  have g := h2 j hj
  have hx : (j : Int) < (bl.length : Int) := by omega
  rw [show k + 3 = (k + 2) + 1 from rfl, impl_oClasses.l0, if_pos hx, if_pos (by omega), if_pos hx, if_pos g.1, g.2, wrap_succ j (by omega), wrap_in ((bl.length : Int) - 1) (by omega) (by omega)]
  unfold val at h
  by_cases hc : c j = 2
  · rw [if_pos hc] at h ⊢
    by_cases h0 : (j : Int) = 0
    · rw [if_pos h0, show k + 2 = (k + 1) + 1 from rfl, impl_oClasses.j1, if_pos rfl, if_pos hl, wrap_succ j (by omega)]
      rw [if_pos (.inl (by omega))] at h
      exact h _ (by omega)
    rw [if_neg h0, show k + 2 = (k + 1) + 1 from rfl, impl_oClasses.j1]
    by_cases hlast : (j : Int) = (bl.length : Int) - 1
    · rw [if_pos (beq_iff_eq.mpr hlast), if_pos hl, wrap_succ j (by omega)]
      rw [if_pos (.inr (by omega))] at h
      exact h _ (by omega)
    have g2 := h2 (j + 1) (by omega)
    rw [if_neg (by rw [beq_eq_false_iff_ne.mpr hlast]; decide), wrap_in ((j : Int) - 1) (by omega) (by omega), show (j : Int) - 1 = ((j - 1 : Nat) : Int) by omega, if_pos (by omega), if_pos (by omega)]
    rw [if_neg (by omega : ¬ (j = 0 ∨ j + 1 = m))] at h
    have hy : (((j + 1 : Nat) : Int)) < (bl.length : Int) := by omega
    have e2 : ∀ x : Int, impl_oClasses.j2 (k + 1) bl acc (j : Int) x bl (bl.length : Int) (j : Int) = if c (j + 1) = 3 ∨ c (j + 1) = 5 ∨ c (j + 1) = 6 then impl_oClasses.l0 k bl (acc ++ [0]) bl (bl.length : Int) ((j + 1 : Nat) : Int) else impl_oClasses.l0 k bl (acc ++ [x]) bl (bl.length : Int) ((j + 1 : Nat) : Int) := by
      intro x
      rw [impl_oClasses.j2, wrap_succ j (by omega), if_pos (by omega), if_pos hy, if_pos g2.1, g2.2]
      generalize c (j + 1) = b
      have e : ∀ x, (if acc.length < 17592186044416 then impl_oClasses.l0 k bl (acc ++ [x]) bl (bl.length : Int) ((j + 1 : Nat) : Int) else none) = impl_oClasses.l0 k bl (acc ++ [x]) bl (bl.length : Int) ((j + 1 : Nat) : Int) := fun x => if_pos hl
      simp only [e]
      by_cases hB : b = 3 ∨ b = 5 ∨ b = 6
      · rw [if_pos hB]
        rcases hB with x | x | x <;> simp [x]
      · rw [if_neg hB]
        simp only [not_or] at hB
        rw [if_neg hB.1, if_neg hB.2.1, if_neg hB.2.2]
    simp only [e2]
    generalize rd acc ((j - 1 : Nat) : Int) = a at h ⊢
    generalize c (j + 1) = b at h ⊢
    have h := h k (by omega)
    by_cases hA : a = 2 ∨ a = 1 ∨ a = 3 ∨ a = 4 ∨ a = 6
    · rw [if_pos hA] at h
      rcases hA with x | x | x | x | x <;> simpa [x] using h
    · rw [if_neg hA] at h
      simp only [not_or] at hA
      rw [if_neg hA.1, if_neg hA.2.1, if_neg hA.2.2.1, if_neg hA.2.2.2.1, if_neg hA.2.2.2.2]
      by_cases hB : b = 3 ∨ b = 5 ∨ b = 6
      · rw [if_pos hB] at h ⊢
        exact h
      · rw [if_neg hB] at h ⊢
        exact h
  · rw [if_neg hc] at h ⊢
    rw [if_pos hl]
    exact h _ (by omega)
include hs h1
theorem classes_l : ∀ d j : Nat, ∀ acc : List Int, m - j = d → j ≤ m → acc.length = j → ∃ r : List Int, ∃ n, r.length = m ∧ ∀ k, n ≤ k → spec_l11Classes.l0 k l acc st (j : Int) = some r ∧ impl_oClasses.l0 k bl acc bl (bl.length : Int) (j : Int) = some r := by
  intro d
  induction d with
  | zero =>
    intro j acc hd hj ha
    refine ⟨acc, 1, by omega, fun k hk => ?_⟩
    obtain ⟨k, rfl⟩ : ∃ q, k = q + 1 := ⟨k - 1, by omega⟩
    rw [spec_l11Classes.l0, if_neg (by omega), impl_oClasses.l0, if_neg (by omega)]
    exact ⟨rfl, rfl⟩
  | succ d ih =>
    intro j acc hd hj ha
    obtain ⟨r, n, hr, hn⟩ := ih (j + 1) (acc ++ [val c m j (rd acc ((j - 1 : Nat) : Int))]) (by omega) (by omega) (by simp; omega)
    exact ⟨r, n + 3, hr, fun k hk => ⟨s_step l st c m hm hs h1 acc j (by omega) ha n r (fun k hk => (hn k hk).1) k hk, i_step bl c m hm hb h2 acc j (by omega) ha n r (fun k hk => (hn k hk).2) k hk⟩⟩
end
theorem classes_both (l : List S115) : ∃ r : List Int, ∃ n, r.length ≤ 2000 ∧ ∀ k, n ≤ k → spec_Classes.f k l = some r ∧ impl_Classes.f k l = some r := by
  obtain ⟨p, n, hn, hp⟩ := ok_both l
  cases p with
  | false =>
    refine ⟨[], n, by simp, fun k hk => ?_⟩
    unfold spec_Classes.f impl_Classes.f
    rw [(hn k hk).1, (hn k hk).2]
    exact ⟨rfl, rfl⟩
  | true =>
    obtain ⟨hl, hc⟩ := hp rfl
    obtain ⟨st, bl, e1, e2, e3, n2, hn2⟩ := places_f l hl hc
    have hA : ∀ j, j < st.length → (0 ≤ rd st (j : Int) ∧ rd st (j : Int) < (l.length : Int)) ∧ 0 < ((rd_L3 bl (j : Int)).length : Int) ∧ (rd_T115 (rd_L3 bl (j : Int)) 0).f1 = (rd_T115 l (rd st (j : Int))).f1 := by
      intro j hj
      obtain ⟨i, h1, h2, t, h3, _⟩ := e3 j hj (by omega)
      have e4 : rd st (j : Int) = (i : Int) := by rw [rd_nat st j hj, h1]
      have e5 : rd_L3 bl (j : Int) = l[i] :: t := by
        have : rd_L3 bl (j : Int) = bl[j] := by simp [rd_L3, show j < bl.length by omega]
        rw [this, h3]
      rw [e4, e5]
      refine ⟨⟨by omega, by omega⟩, by simp, ?_⟩
      have e6 : rd_T115 l (i : Int) = l[i] := by simp [rd_T115, h2]
      have e7 : rd_T115 (l[i] :: t) 0 = l[i] := by simp [rd_T115]
      rw [e6, e7]
    obtain ⟨r, n3, hr, hn3⟩ := classes_l l st bl (fun j => (rd_T115 l (rd st (j : Int))).f1) st.length (by omega) rfl e1.symm (fun j hj => ⟨(hA j hj).1.1, (hA j hj).1.2, rfl⟩) (fun j hj => (hA j hj).2) st.length 0 [] (by omega) (by omega) rfl
    refine ⟨r, n + n2 + n3, by omega, fun k hk => ?_⟩
    unfold spec_Classes.f impl_Classes.f spec_l11Classes.f impl_oClasses.f
    rw [(hn k (by omega)).1, (hn k (by omega)).2, Option.bind_some, Option.bind_some, if_pos rfl, if_pos rfl, (hn2 k (by omega)).1, (hn2 k (by omega)).2, Option.bind_some, Option.bind_some]
    have h0 := hn3 k (by omega)
    rw [show ((0 : Nat) : Int) = 0 from rfl] at h0
    rw [h0.1, h0.2]
    exact ⟨rfl, rfl⟩
theorem FnExactClasses : laws_FnExactClasses.Pure := by
  intro l0 hl0 hw
  obtain ⟨r, hr, hc⟩ := szAtomS_f l0 1048576 (by omega) (by omega) hl0
  rcases hc with hc | ⟨hr0, hr1, hl⟩
  · refine ⟨0, ?_⟩
    unfold laws_FnExactClasses.f
    rw [hr, Option.bind_some, if_pos hc]
  · have hl' : l0.length ≤ 1048576 := by omega
    obtain ⟨p, n, hp, hn⟩ := classes_both (l0.map cvAtom)
    obtain ⟨K, hK⟩ : ∃ K, K = n + l0.length + 5000 := ⟨_, rfl⟩
    refine ⟨K + 1, ?_⟩
    have hto := toAtomS_f l0 hl' (K + 1) (by omega)
    have hto' := toAtomS_f l0 hl' K (by omega)
    have hs := (hn (K + 1) (by omega)).1
    have hi := (hn (K + 1) (by omega)).2
    have hi' := (hn K (by omega)).2
    have hes := eqAtomS_f (l0.map cvAtom) (by simp; omega) (K + 1) (by simp; omega)
    have hep := eqInt64S_f p (by omega) (K + 1) (by omega)
    have hep' := eqInt64S_f p (by omega) K (by omega)
    obtain ⟨xg, mg⟩ := markAtomS_f (l0.map cvAtom) 1 (by omega) (by simp; omega)
    have mg' := mg (K + 1) (by simp; omega)
    obtain ⟨p', mp, hdp⟩ := markInt64S_f p 1 (by omega) (by omega)
    have hneg : ¬ ((1 : Int) + 6 * ((l0.map cvAtom).length : Int) < 0) := by omega
    unfold laws_FnExactClasses.f
    rw [hr, Option.bind_some, if_neg (by omega), hto, Option.bind_some, hs, Option.bind_some, Option.bind_some, hi, Option.bind_some, hep, Option.bind_some, if_pos rfl, Option.bind_some, hes, Option.bind_some, if_pos rfl, mg', Option.bind_some, if_neg hneg, Option.bind_some]
    rw [laws_FnExactClasses.j0, if_neg (by decide), mp K (by omega), Option.bind_some, hdp K (by omega), Option.bind_some, if_neg (by omega), if_pos rfl, hto', Option.bind_some, hi', Option.bind_some, hep', Option.bind_some, if_pos rfl, Option.bind_some, if_neg (by omega), if_pos rfl]


end Go.Proofs.Ytgfifmbbjoocgaa.Pure
