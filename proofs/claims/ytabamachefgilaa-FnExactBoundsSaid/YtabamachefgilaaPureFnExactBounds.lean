/- The pure statement of FnExactBounds: both sides find the same bounds. No condition. -/
import Derived.Test.YtabamachefgilaaPFnExactBoundsx6
import Derived.Test.YtabamachefgilaaKit
namespace Go.Proofs.Ytabamachefgilaa.Pure
open Go.RowKit Go.Proofs.Ytabamachefgilaa.PFnExactBounds Go.Proofs.Ytabamachefgilaa.Kit Go.Proofs.YtabamachefgilaaW.PrintWords Go.Proofs.YtabamachefgilaaW.PrintLast Go.Proofs.YtabamachefgilaaW.PrintMore
set_option linter.unusedVariables false
set_option linter.unusedSimpArgs false
set_option linter.unusedSectionVars false

theorem eqInt64S_l0 (l : List Int) (hl : l.length ≤ 9223372036854775806) : ∀ d k i : Nat, l.length - i = d → i ≤ l.length → d < k → laws_eqInt64S.l0 k l l i = some true := by
  intro d
  induction d with
  | zero =>
    intro k i hd hi hk
    obtain ⟨k, rfl⟩ : ∃ m, k = m + 1 := ⟨k - 1, by omega⟩
    rw [laws_eqInt64S.l0, if_neg (by omega)]
  | succ d ih =>
    intro k i hd hi hk
    obtain ⟨k, rfl⟩ : ∃ m, k = m + 1 := ⟨k - 1, by omega⟩
    rw [laws_eqInt64S.l0, if_pos (by omega), if_pos (by omega), if_pos (by omega), if_pos rfl, wrap_succ i (by omega)]
    exact ih k (i + 1) (by omega) (by omega) (by omega)
theorem eqInt64S_f (l : List Int) (hl : l.length ≤ 9223372036854775806) (k : Nat) (hk : l.length < k) : laws_eqInt64S.f k l l = some true := by
  unfold laws_eqInt64S.f
  rw [if_pos rfl]
  exact eqInt64S_l0 l hl l.length k 0 (by omega) (by omega) hk
theorem markInt64S_l0 (q0 : Int) (n : Nat) (h0 : 0 ≤ q0) (hq : q0 + n ≤ 4611686018427387904) : ∀ d k i : Nat, ∀ x : List Int, n - i = d → i ≤ n → x.length = n → d < k → (∀ j : Nat, j < i → rd x (j : Int) = q0 + j) →
    ∃ l', laws_markInt64S.l0 k x (q0 + i) i = some (q0 + n, l') ∧ l'.length = n ∧ ∀ j : Nat, j < n → rd l' (j : Int) = q0 + j := by
  intro d
  induction d with
  | zero =>
    intro k i x hd hi hx hk hj
    obtain ⟨k, rfl⟩ : ∃ m, k = m + 1 := ⟨k - 1, by omega⟩
    obtain rfl : i = n := by omega
    exact ⟨x, by rw [laws_markInt64S.l0, if_neg (by omega)], hx, hj⟩
  | succ d ih =>
    intro k i x hd hi hx hk hj
    obtain ⟨k, rfl⟩ : ∃ m, k = m + 1 := ⟨k - 1, by omega⟩
    rw [laws_markInt64S.l0, if_pos (by omega), if_pos (by omega), wrap_succ i (by omega), wrap_in (q0 + i + 1) (by omega) (by omega), Int.toNat_natCast, show q0 + (i : Int) + 1 = q0 + ((i + 1 : Nat) : Int) by omega]
    refine ih k (i + 1) _ (by omega) (by omega) (by simpa using hx) (by omega) (fun j hlt => ?_)
    rcases Nat.lt_or_ge j i with h | h
    · rw [← hj j h, rd_set_ne x i j _ (by omega)]
    · obtain rfl : j = i := by omega
      rw [rd_set_eq x j _ (by omega)]
theorem heldInt64S_l0 (q0 : Int) (l : List Int) (h0 : 0 ≤ q0) (hq : q0 + l.length ≤ 4611686018427387904) (hj : ∀ j : Nat, j < l.length → rd l (j : Int) = q0 + j) : ∀ d k i : Nat, l.length - i = d → i ≤ l.length → d < k →
    laws_heldInt64S.l0 k l (q0 + i) i = some (q0 + l.length) := by
  intro d
  induction d with
  | zero =>
    intro k i hd hi hk
    obtain ⟨k, rfl⟩ : ∃ m, k = m + 1 := ⟨k - 1, by omega⟩
    obtain rfl : i = l.length := by omega
    rw [laws_heldInt64S.l0, if_neg (by omega)]
  | succ d ih =>
    intro k i hd hi hk
    obtain ⟨k, rfl⟩ : ∃ m, k = m + 1 := ⟨k - 1, by omega⟩
    rw [laws_heldInt64S.l0, if_pos (by omega), if_pos (by omega), if_pos (hj i (by omega)), wrap_succ i (by omega), wrap_in (q0 + i + 1) (by omega) (by omega), show q0 + (i : Int) + 1 = q0 + ((i + 1 : Nat) : Int) by omega]
    exact ih k (i + 1) (by omega) (by omega) (by omega)
theorem markInt64S_f (l : List Int) (q0 : Int) (h0 : 0 ≤ q0) (hq : q0 + l.length ≤ 4611686018427387904) :
    ∃ l', (∀ k, l.length < k → laws_markInt64S.f k l q0 = some (q0 + l.length, l')) ∧ ∀ k, l.length < k → laws_heldInt64S.f k l' q0 = some (q0 + l.length) := by
  obtain ⟨l', h1, h2, h3⟩ := markInt64S_l0 q0 l.length h0 hq l.length (l.length + 1) 0 l (by omega) (by omega) rfl (by omega) (fun j h => by omega)
  refine ⟨l', fun k hk => ?_, fun k hk => ?_⟩
  · obtain ⟨l2, g1, g2, g3⟩ := markInt64S_l0 q0 l.length h0 hq l.length k 0 l (by omega) (by omega) rfl hk (fun j h => by omega)
    have e : l2 = l' := by
      apply List.ext_getElem (by omega)
      intro j a b
      have e1 := g3 j (by omega)
      have e2 := h3 j (by omega)
      rw [rd_nat l2 j (by omega)] at e1
      rw [rd_nat l' j (by omega)] at e2
      rw [e1, e2]
    subst e
    unfold laws_markInt64S.f
    simpa using g1
  · have := heldInt64S_l0 q0 l' h0 (by rw [h2]; exact hq) (fun j h => h3 j (by omega)) l'.length k 0 (by omega) (by omega) (by omega)
    unfold laws_heldInt64S.f
    rw [h2] at this
    simpa using this
def cvSpot (x : S134) : S57 := ⟨x.f0, x.f1, x.f2, x.f3, x.f4, x.f5⟩
theorem rdSpot_a (l : List S134) (i : Nat) (h : i < l.length) : rd_T134 l (i : Int) = l[i] := by simp [rd_T134, h]
theorem rdSpot_b (l : List S57) (i : Nat) (h : i < l.length) : rd_T57 l (i : Int) = l[i] := by simp [rd_T57, h]
theorem toSpotS_l0 (l : List S134) (hl : l.length ≤ 1048576) : ∀ d k i : Nat, l.length - i = d → i ≤ l.length → d < k →
    laws_toSpotS.l0 k l ((List.range i).map (fun j : Nat => cvSpot (rd_T134 l (j : Int))) ++ List.replicate (l.length - i) z57) i = some (l.map cvSpot) := by
  intro d
  induction d with
  | zero =>
    intro k i hd hi hk
    obtain ⟨k, rfl⟩ : ∃ m, k = m + 1 := ⟨k - 1, by omega⟩
    obtain rfl : i = l.length := by omega
    rw [laws_toSpotS.l0, if_neg (by omega), Nat.sub_self, map_get l cvSpot (fun j : Nat => cvSpot (rd_T134 l (j : Int))) (fun j hj => by rw [rdSpot_a l j hj])]
    simp
  | succ d ih =>
    intro k i hd hi hk
    obtain ⟨k, rfl⟩ : ∃ m, k = m + 1 := ⟨k - 1, by omega⟩
    rw [laws_toSpotS.l0, if_pos (by omega), if_pos (by omega)]
    simp only [laws_toSpot.f, Option.bind_some]
    rw [if_pos (by simp; omega), wrap_succ i (by omega), Int.toNat_natCast]
    have := set_step (fun j : Nat => cvSpot (rd_T134 l (j : Int))) z57 l.length i (by omega)
    rw [show (⟨(rd_T134 l (i : Int)).f0, (rd_T134 l (i : Int)).f1, (rd_T134 l (i : Int)).f2, (rd_T134 l (i : Int)).f3, (rd_T134 l (i : Int)).f4, (rd_T134 l (i : Int)).f5⟩ : S57) = cvSpot (rd_T134 l (i : Int)) from rfl, this]
    exact ih k (i + 1) (by omega) (by omega) (by omega)
theorem toSpotS_f (l : List S134) (hl : l.length ≤ 1048576) (k : Nat) (hk : l.length < k) : laws_toSpotS.f k l = some (l.map cvSpot) := by
  unfold laws_toSpotS.f
  rw [if_pos (by omega), if_pos (by simp; omega), Int.toNat_natCast]
  exact toSpotS_l0 l hl l.length k 0 (by omega) (by omega) hk
theorem eqSpotS_l0 (l : List S57) (hl : l.length ≤ 9223372036854775806) : ∀ d k i : Nat, l.length - i = d → i ≤ l.length → d < k → laws_eqSpotS.l0 k l l i = some true := by
  intro d
  induction d with
  | zero =>
    intro k i hd hi hk
    obtain ⟨k, rfl⟩ : ∃ m, k = m + 1 := ⟨k - 1, by omega⟩
    rw [laws_eqSpotS.l0, if_neg (by omega)]
  | succ d ih =>
    intro k i hd hi hk
    obtain ⟨k, rfl⟩ : ∃ m, k = m + 1 := ⟨k - 1, by omega⟩
    rw [laws_eqSpotS.l0, if_pos (by omega), if_pos (by omega), if_pos (by omega)]
    simp only [laws_eqSpot.f, if_true, Option.bind_some]
    rw [wrap_succ i (by omega)]
    exact ih k (i + 1) (by omega) (by omega) (by omega)
theorem eqSpotS_f (l : List S57) (hl : l.length ≤ 9223372036854775806) (k : Nat) (hk : l.length < k) : laws_eqSpotS.f k l l = some true := by
  unfold laws_eqSpotS.f
  rw [if_pos rfl]
  exact eqSpotS_l0 l hl l.length k 0 (by omega) (by omega) hk
def MSpot (q : Int) : S57 := ⟨q, q + 1, q + 2, q + 3, q + 4, q + 5⟩
theorem rdsetSpot_eq (x : List S57) (i : Nat) (v : S57) (h : i < x.length) : rd_T57 (x.set i v) (i : Int) = v := by simp [rd_T57, h]
theorem rdsetSpot_ne (x : List S57) (i j : Nat) (v : S57) (h : i ≠ j) : rd_T57 (x.set i v) (j : Int) = rd_T57 x (j : Int) := by simp [rd_T57, List.getElem?_set_ne h]
theorem markSpotS_l0 (q0 : Int) (n : Nat) (h0 : 0 ≤ q0) (hq : q0 + 6 * n ≤ 4611686018427387904) : ∀ d k i : Nat, ∀ x : List S57, n - i = d → i ≤ n → x.length = n → d < k → (∀ j : Nat, j < i → rd_T57 x (j : Int) = (MSpot (q0 + 6 * j))) →
    ∃ l', laws_markSpotS.l0 k x (q0 + 6 * i) i = some (q0 + 6 * n, l') ∧ l'.length = n ∧ ∀ j : Nat, j < n → rd_T57 l' (j : Int) = (MSpot (q0 + 6 * j)) := by
  intro d
  induction d with
  | zero =>
    intro k i x hd hi hx hk hj
    obtain ⟨k, rfl⟩ : ∃ m, k = m + 1 := ⟨k - 1, by omega⟩
    obtain rfl : i = n := by omega
    exact ⟨x, by rw [laws_markSpotS.l0, if_neg (by omega)], hx, hj⟩
  | succ d ih =>
    intro k i x hd hi hx hk hj
    obtain ⟨k, rfl⟩ : ∃ m, k = m + 1 := ⟨k - 1, by omega⟩
    have hlt : i < x.length := by omega
    rw [laws_markSpotS.l0, if_pos (by omega), if_pos (by omega)]
    rw [Option.bind_some]
    simp only [Int.toNat_natCast, List.set_set, List.length_set, rdsetSpot_eq x i _ hlt]
    rw [Option.bind_some]
    simp only [Int.toNat_natCast, List.set_set, List.length_set, rdsetSpot_eq x i _ hlt]
    rw [Option.bind_some]
    simp only [Int.toNat_natCast, List.set_set, List.length_set, rdsetSpot_eq x i _ hlt]
    rw [Option.bind_some]
    simp only [Int.toNat_natCast, List.set_set, List.length_set, rdsetSpot_eq x i _ hlt]
    rw [Option.bind_some]
    simp only [Int.toNat_natCast, List.set_set, List.length_set, rdsetSpot_eq x i _ hlt]
    simp only [show wrap64 (q0 + 6 * (i : Int) + 1) = q0 + 6 * (i : Int) + 1 from by unfold wrap64; omega, show wrap64 (q0 + 6 * (i : Int) + 1 + 1) = q0 + 6 * (i : Int) + 2 from by unfold wrap64; omega, show wrap64 (q0 + 6 * (i : Int) + 2 + 1) = q0 + 6 * (i : Int) + 3 from by unfold wrap64; omega, show wrap64 (q0 + 6 * (i : Int) + 3 + 1) = q0 + 6 * (i : Int) + 4 from by unfold wrap64; omega, show wrap64 (q0 + 6 * (i : Int) + 4 + 1) = q0 + 6 * (i : Int) + 5 from by unfold wrap64; omega, show wrap64 (q0 + 6 * (i : Int) + 5 + 1) = q0 + 6 * (i : Int) + 6 from by unfold wrap64; omega]
    rw [wrap_succ i (by omega), show q0 + 6 * (i : Int) + 6 = q0 + 6 * ((i + 1 : Nat) : Int) by omega]
    refine ih k (i + 1) _ (by omega) (by omega) (by simpa using hx) (by omega) (fun j hlj => ?_)
    rcases Nat.lt_or_ge j i with h | h
    · rw [← hj j h, rdsetSpot_ne x i j _ (by omega)]
    · obtain rfl : j = i := by omega
      rw [rdsetSpot_eq x j _ hlt]
      rfl
theorem markSpotS_f (l : List S57) (q0 : Int) (h0 : 0 ≤ q0) (hq : q0 + 6 * l.length ≤ 4611686018427387904) :
    ∃ l', (∀ k, l.length < k → laws_markSpotS.f k l q0 = some (q0 + 6 * l.length, l')) := by
  obtain ⟨l', h1, h2, h3⟩ := markSpotS_l0 q0 l.length h0 hq l.length (l.length + 1) 0 l (by omega) (by omega) rfl (by omega) (fun j h => by omega)
  refine ⟨l', fun k hk => ?_⟩
  · obtain ⟨l2, g1, g2, g3⟩ := markSpotS_l0 q0 l.length h0 hq l.length k 0 l (by omega) (by omega) rfl hk (fun j h => by omega)
    have e : l2 = l' := by
      apply List.ext_getElem (by omega)
      intro j a b
      have e1 := g3 j (by omega)
      have e2 := h3 j (by omega)
      rw [rdSpot_b l2 j (by omega)] at e1
      rw [rdSpot_b l' j (by omega)] at e2
      rw [e1, e2]
    subst e
    unfold laws_markSpotS.f
    simpa using g1
def fitsB (a : Int) : Bool := decide (-1073741823 ≤ a ∧ a ≤ 1073741823)
def lenB (a : Int) : Bool := decide (0 ≤ a ∧ a ≤ 1073741823)
theorem fits_s (a : Int) : spec_l1Fits.f a = some (fitsB a) := by
  unfold spec_l1Fits.f fitsB
  split <;> simp <;> omega
theorem fits_i (a : Int) : impl_oFits.f a = some (fitsB a) := fits_s a
theorem len_i (a : Int) : impl_oLen.f a = some (lenB a) := by
  unfold impl_oLen.f lenB
  split <;> simp <;> omega
def spotB (x y f c w h : Int) : Bool := fitsB x && fitsB y && decide (0 ≤ f ∧ f ≤ 15) && decide (-1 ≤ c ∧ c ≤ 255) && lenB w && lenB h
theorem spot_s (x y f c w h : Int) : spec_l15SpotOk.f x y f c w h = some (spotB x y f c w h) := by
  simp only [spec_l15SpotOk.f, fits_s, Option.bind_some, spotB]
  cases fitsB x <;> cases fitsB y <;> simp
  by_cases h1 : 0 ≤ f
  · by_cases h2 : f ≤ 15
    · by_cases h3 : -1 ≤ c
      · by_cases h4 : c ≤ 255
        · by_cases h5 : 0 ≤ w
          · by_cases h6 : w ≤ 1073741823
            · by_cases h7 : 0 ≤ h
              · simp [lenB, h1, h2, h3, h4, h5, h6, h7]
              · simp [lenB, h1, h2, h3, h4, h5, h6, h7]
            · simp [lenB, h1, h2, h3, h4, h5, h6]
          · simp [lenB, h1, h2, h3, h4, h5]
        · simp [h1, h2, h3, h4]
      · simp [h1, h2, h3]
    · simp [h1, h2]
  · simp [h1]
theorem spot_i (x y f c w h : Int) : impl_oSpotOk.f x y f c w h = some (spotB x y f c w h) := by
  simp only [impl_oSpotOk.f, fits_i, len_i, Option.bind_some, spotB]
  cases fitsB x <;> cases fitsB y <;> simp
  by_cases h1 : 0 ≤ f
  · by_cases h2 : f ≤ 15
    · by_cases h3 : -1 ≤ c
      · by_cases h4 : c ≤ 255
        · cases lenB w <;> simp [h1, h2, h3, h4]
        · simp [h1, h2, h3, h4]
      · simp [h1, h2, h3]
    · simp [h1, h2]
  · simp [h1]
def okS (x : S57) : Bool := spotB x.f0 x.f1 x.f2 x.f3 x.f4 x.f5
theorem page_l0 (l : List S57) (hl : l.length ≤ 1048576) : ∀ d k i : Nat, l.length - i = d → i ≤ l.length → d < k → spec_l15PageOk.l0 k l i = some ((l.drop i).all okS && decide ((l.length : Int) ≤ 20000)) := by
  intro d
  induction d with
  | zero =>
    intro k i hd hi hk
    obtain ⟨k, rfl⟩ : ∃ m, k = m + 1 := ⟨k - 1, by omega⟩
    rw [spec_l15PageOk.l0, if_neg (by omega), List.drop_of_length_le (by omega)]
    simp
  | succ d ih =>
    intro k i hd hi hk
    obtain ⟨k, rfl⟩ : ∃ m, k = m + 1 := ⟨k - 1, by omega⟩
    have hlt : i < l.length := by omega
    rw [spec_l15PageOk.l0, if_pos (by omega), if_pos (by omega), spot_s, wrap_succ i (by omega), ih k (i + 1) (by omega) (by omega) (by omega), List.drop_eq_getElem_cons hlt, List.all_cons, rdSpot_b l i hlt]
    simp only [Option.bind_some, okS]
    cases spotB l[i].f0 l[i].f1 l[i].f2 l[i].f3 l[i].f4 l[i].f5 <;> simp
theorem page_f (l : List S57) (hl : l.length ≤ 1048576) (k : Nat) (hk : l.length < k) : spec_l15PageOk.f k l = some (l.all okS && decide ((l.length : Int) ≤ 20000)) := by
  unfold spec_l15PageOk.f
  simpa using page_l0 l hl l.length k 0 (by omega) (by omega) hk

theorem szSpotS_f (l : List S134) (left : Int) (h0 : 0 ≤ left) (h1 : left ≤ 1048576) (hl : l.length ≤ 9223372036854775807) : ∃ r, laws_szSpotS.f l left = some r ∧ (r < 0 ∨ (0 ≤ r ∧ r ≤ left ∧ (l.length : Int) ≤ left)) := by
  unfold laws_szSpotS.f
  rw [wrap_in (left - (l.length : Int)) (by omega) (by omega)]
  split
  · exact ⟨-1, rfl, .inl (by omega)⟩
  · exact ⟨_, rfl, .inr (by omega)⟩
theorem rdL_one (l : List S57) : rd_L3 [l] 0 = l := by simp [rd_L3]
theorem desc_l1 (l : List (List S57)) (p : List S57) (hp : p.length ≤ 1048576) (n m c : Int) : ∀ e k j : Nat, p.length - j = e → j ≤ p.length →
    impl_DescOk.l1 (k + e + 1) n l m c p (p.length : Int) j = if (p.drop j).all okS = true then impl_DescOk.l0 k n l m (wrap64 (c + 1)) else some false := by
  intro e
  induction e with
  | zero =>
    intro k j hd hj
    rw [impl_DescOk.l1, if_neg (by omega), List.drop_of_length_le (by omega)]
    simp
  | succ e ih =>
    intro k j hd hj
    have hlt : j < p.length := by omega
    rw [impl_DescOk.l1, if_pos (by omega), if_pos (by omega), if_pos (by omega), spot_i, wrap_succ j (by omega), List.drop_eq_getElem_cons hlt, List.all_cons, rdSpot_b p j hlt, show k + (e + 1) = k + e + 1 from rfl, ih k (j + 1) (by omega) (by omega)]
    simp only [Option.bind_some, okS]
    by_cases hq : spotB p[j].f0 p[j].f1 p[j].f2 p[j].f3 p[j].f4 p[j].f5 = true <;> simp [hq]
theorem desc_one (l : List S57) (hl : l.length ≤ 1048576) (k : Nat) (hk : l.length + 10 < k) : impl_DescOk.f k [l] = some (l.all okS && decide ((l.length : Int) ≤ 20000)) := by
  obtain ⟨k, rfl⟩ : ∃ m, k = m + l.length + 3 := ⟨k - l.length - 3, by omega⟩
  unfold impl_DescOk.f
  rw [if_neg (by simp), show k + l.length + 3 = (k + l.length + 2) + 1 from rfl, impl_DescOk.l0, if_pos (by simp), if_pos (by omega), if_pos (by simp), rdL_one, wrap_in (0 + (l.length : Int)) (by omega) (by omega)]
  by_cases h : (l.length : Int) > 20000
  · rw [if_pos (by omega), show decide ((l.length : Int) ≤ 20000) = false from decide_eq_false (by omega)]
    simp
  · have e := desc_l1 [l] l hl (0 + (l.length : Int)) ((([l] : List (List S57)).length : Nat) : Int) 0 l.length (k + 1) 0 (by omega) (by omega)
    rw [show ((0 : Nat) : Int) = 0 from rfl, show k + 1 + l.length + 1 = k + l.length + 2 by omega] at e
    rw [if_neg (by omega), e, List.drop_zero, show decide ((l.length : Int) ≤ 20000) = true from decide_eq_true (by omega), Bool.and_true]
    by_cases hq : l.all okS = true
    · rw [if_pos hq, impl_DescOk.l0, wrap_in (0 + 1) (by omega) (by omega), if_neg (by simp), hq]
    · rw [if_neg hq, Bool.eq_false_iff.mpr hq]

theorem mn_lt (a x : Int) (h : x < a) : mn a x = x := by unfold mn; omega
theorem mn_ge (a x : Int) (h : ¬ x < a) : mn a x = a := by unfold mn; omega
theorem mx_gt (a x : Int) (h : x > a) : mx a x = x := by unfold mx; omega
theorem mx_le (a x : Int) (h : ¬ x > a) : mx a x = a := by unfold mx; omega
theorem s_step (l : List S57) (i : Nat) (hi : i < l.length) (hl : l.length ≤ 1048576) (a b c d : Int) (k : Nat) :
    spec_Bounds.l0 (k + 3) l [a, b, c, d] i = spec_Bounds.l0 k l [mn a l[i].f0, mn b (wrap64 (l[i].f1 - l[i].f5)), mx c (wrap64 (l[i].f0 + l[i].f4)), mx d l[i].f1] ((i + 1 : Nat) : Int) := by
  have j3 : ∀ a b : Int, spec_Bounds.j3 (k + 1) l [a, b, c, d] i l[i].f0 l[i].f1 l[i].f2 l[i].f3 l[i].f4 l[i].f5 = spec_Bounds.l0 k l [a, b, mx c (wrap64 (l[i].f0 + l[i].f4)), mx d l[i].f1] ((i + 1 : Nat) : Int) := by
    intro a b
    have e2 : ∀ z : Int, rd [a, b, z, d] 2 = z := fun z => rfl
    have e3 : ∀ z : Int, rd [a, b, z, d] 3 = d := fun z => rfl
    rw [spec_Bounds.j3, if_pos (show (2 : Int) < (([a, b, c, d] : List Int).length : Int) by simp), e2, wrap_succ i (by omega)]
    by_cases h : wrap64 (l[i].f0 + l[i].f4) > c
    · rw [if_pos h, Option.bind_some, if_pos (show (3 : Int) < (([a, b, c, d] : List Int).length : Int) by simp), mx_gt _ _ h]
      show (if l[i].f1 > rd [a, b, wrap64 (l[i].f0 + l[i].f4), d] 3 then spec_Bounds.l0 k l ([a, b, wrap64 (l[i].f0 + l[i].f4), l[i].f1]) ((i + 1 : Nat) : Int) else spec_Bounds.l0 k l [a, b, wrap64 (l[i].f0 + l[i].f4), d] ((i + 1 : Nat) : Int)) = _
      rw [e3]
      by_cases h2 : l[i].f1 > d
      · rw [if_pos h2, mx_gt _ _ h2]
      · rw [if_neg h2, mx_le _ _ h2]
    · rw [if_neg h, if_pos (show (3 : Int) < (([a, b, c, d] : List Int).length : Int) by simp), mx_le _ _ h, e3]
      show (if l[i].f1 > d then spec_Bounds.l0 k l ([a, b, c, l[i].f1]) ((i + 1 : Nat) : Int) else spec_Bounds.l0 k l [a, b, c, d] ((i + 1 : Nat) : Int)) = _
      by_cases h2 : l[i].f1 > d
      · rw [if_pos h2, mx_gt _ _ h2]
      · rw [if_neg h2, mx_le _ _ h2]
  have j2 : ∀ a : Int, spec_Bounds.j2 (k + 2) l [a, b, c, d] i l[i].f0 l[i].f1 l[i].f2 l[i].f3 l[i].f4 l[i].f5 = spec_Bounds.l0 k l [a, mn b (wrap64 (l[i].f1 - l[i].f5)), mx c (wrap64 (l[i].f0 + l[i].f4)), mx d l[i].f1] ((i + 1 : Nat) : Int) := by
    intro a
    have e1 : rd [a, b, c, d] 1 = b := rfl
    rw [spec_Bounds.j2, if_pos (show (1 : Int) < (([a, b, c, d] : List Int).length : Int) by simp), e1]
    by_cases h : wrap64 (l[i].f1 - l[i].f5) < b
    · rw [if_pos h, mn_lt _ _ h]
      exact j3 a (wrap64 (l[i].f1 - l[i].f5))
    · rw [if_neg h, mn_ge _ _ h]
      exact j3 a b
  have e0 : rd [a, b, c, d] 0 = a := rfl
  rw [spec_Bounds.l0, if_pos (by omega), if_pos (by omega), if_pos (show (0 : Int) < (([a, b, c, d] : List Int).length : Int) by simp), e0, rdSpot_b l i hi]
  by_cases h : l[i].f0 < a
  · rw [if_pos h, mn_lt _ _ h]
    exact j2 l[i].f0
  · rw [if_neg h, mn_ge _ _ h]
    exact j2 a
theorem i_step (l : List S57) (i : Nat) (hi : i < l.length) (hl : l.length ≤ 1048576) (a b c d : Int) (k : Nat) :
    impl_Bounds.l0 (k + 1) [a, b, c, d] l (l.length : Int) i = impl_Bounds.l0 k [mn a l[i].f0, mn b (wrap64 (l[i].f1 - l[i].f5)), mx c (wrap64 (l[i].f0 + l[i].f4)), mx d l[i].f1] l (l.length : Int) ((i + 1 : Nat) : Int) := by
  have q0 : (0 : Int) < (([a, b, c, d] : List Int).length : Int) := by simp
  have q1 : (1 : Int) < (([a, b, c, d] : List Int).length : Int) := by simp
  have q2 : (2 : Int) < (([a, b, c, d] : List Int).length : Int) := by simp
  have q3 : (3 : Int) < (([a, b, c, d] : List Int).length : Int) := by simp
  rw [impl_Bounds.l0, if_pos (by omega), if_pos (by omega), if_pos (by omega), if_pos q0, Option.bind_some, if_pos q1, Option.bind_some, if_pos q2, Option.bind_some, if_pos q3, rdSpot_b l i hi, wrap_succ i (by omega)]
  rfl
theorem walk (x : S57) (l : List S57) (hl : l.length ≤ 1048575) : ∀ e i : Nat, ∀ a b c d : Int, l.length - i = e → i ≤ l.length → ∃ r : List Int, r.length = 4 ∧ ∃ n, ∀ k, spec_Bounds.l0 (k + n) (x :: l) [a, b, c, d] ((i + 1 : Nat) : Int) = some r ∧ impl_Bounds.l0 (k + n) [a, b, c, d] l (l.length : Int) i = some r := by
  intro e
  induction e with
  | zero =>
    intro i a b c d he hi
    refine ⟨[a, b, c, d], rfl, 1, fun k => ⟨?_, ?_⟩⟩
    · rw [spec_Bounds.l0, if_neg (by rw [List.length_cons]; omega)]
    · rw [impl_Bounds.l0, if_neg (by omega)]
  | succ e ih =>
    intro i a b c d he hi
    have hlt : i < l.length := by omega
    obtain ⟨r, hr, n, hn⟩ := ih (i + 1) (mn a l[i].f0) (mn b (wrap64 (l[i].f1 - l[i].f5))) (mx c (wrap64 (l[i].f0 + l[i].f4))) (mx d l[i].f1) (by omega) (by omega)
    refine ⟨r, hr, n + 3, fun k => ⟨?_, ?_⟩⟩
    · have := s_step (x :: l) (i + 1) (by rw [List.length_cons]; omega) (by rw [List.length_cons]; omega) a b c d (k + n)
      rw [show k + (n + 3) = k + n + 3 from rfl, this]
      exact (hn k).1
    · have := i_step l i hlt (by omega) a b c d (k + n + 2)
      rw [show k + (n + 3) = k + n + 2 + 1 from rfl, this]
      have h2 := (hn (k + 2)).2
      rw [show k + 2 + n = k + n + 2 by omega] at h2
      exact h2
theorem both (l : List S57) (hl : l.length ≤ 1048576) : ∃ r : List Int, r.length ≤ 4 ∧ ∃ n, ∀ k, n ≤ k → spec_Bounds.f k l = some r ∧ impl_Bounds.f k l = some r := by
  have sj : ∀ k, spec_Bounds.j0 (k + 1) l true = some [] := fun k => by rw [spec_Bounds.j0, if_pos rfl]
  have ij : ∀ k, impl_Bounds.j0 (k + 1) l true = some [] := fun k => by rw [impl_Bounds.j0, if_pos rfl]
  by_cases h0 : (l.length : Int) = 0
  · refine ⟨[], by simp, 1, fun k hk => ?_⟩
    obtain ⟨k, rfl⟩ : ∃ m, k = m + 1 := ⟨k - 1, by omega⟩
    exact ⟨by unfold spec_Bounds.f; rw [if_pos h0, sj], by unfold impl_Bounds.f; rw [if_pos h0, ij]⟩
  · by_cases hp : (l.all okS && decide ((l.length : Int) ≤ 20000)) = true
    · cases l with
      | nil => exact absurd rfl h0
      | cons x t =>
        have ht : t.length ≤ 1048575 := by rw [List.length_cons] at hl; omega
        obtain ⟨r, hr, n, hn⟩ := walk x t ht t.length 0 x.f0 (wrap64 (x.f1 - x.f5)) (wrap64 (x.f0 + x.f4)) x.f1 (by omega) (by omega)
        have e0 : rd_T57 (x :: t) 0 = x := rfl
        refine ⟨r, by omega, n + (x :: t).length + 100, fun k hk => ⟨?_, ?_⟩⟩
        · unfold spec_Bounds.f
          rw [if_neg h0, page_f (x :: t) hl k (by omega), hp, Option.bind_some]
          obtain ⟨q, rfl⟩ : ∃ q, k = q + n + 1 := ⟨k - n - 1, by omega⟩
          rw [Bool.not_true, spec_Bounds.j0, if_neg (by simp), if_pos (by rw [List.length_cons]; omega), e0]
          exact (hn q).1
        · unfold impl_Bounds.f
          rw [if_neg h0, desc_one (x :: t) hl k (by omega), hp, Option.bind_some]
          obtain ⟨q, rfl⟩ : ∃ q, k = q + n + 1 := ⟨k - n - 1, by omega⟩
          rw [Bool.not_true, impl_Bounds.j0, if_neg (by simp), if_pos (by rw [List.length_cons]; omega), if_pos (by rw [List.length_cons]; omega), e0, Option.bind_some]
          exact (hn q).2
    · have hp' := Bool.eq_false_iff.mpr hp
      refine ⟨[], by simp, l.length + 100, fun k hk => ?_⟩
      obtain ⟨k, rfl⟩ : ∃ m, k = m + 1 := ⟨k - 1, by omega⟩
      refine ⟨?_, ?_⟩
      · unfold spec_Bounds.f
        rw [if_neg h0, page_f l hl _ (by omega), hp', Option.bind_some, Bool.not_false, sj]
      · unfold impl_Bounds.f
        rw [if_neg h0, desc_one l hl _ (by omega), hp', Option.bind_some, Bool.not_false, ij]

theorem FnExactBounds : laws_FnExactBounds.Pure := by
  intro l0 hl0 hw
  obtain ⟨r, hr, hc⟩ := szSpotS_f l0 1048576 (by omega) (by omega) hl0
  rcases hc with hc | ⟨hr0, hr1, hl⟩
  · refine ⟨0, ?_⟩
    unfold laws_FnExactBounds.f
    rw [hr, Option.bind_some, if_pos hc]
  · have hl' : l0.length ≤ 1048576 := by omega
    obtain ⟨p, hp4, n, hn⟩ := both (l0.map cvSpot) (by simpa using hl')
    obtain ⟨m, hm⟩ := markSpotS_f (l0.map cvSpot) 1 (by omega) (by simp; omega)
    obtain ⟨p', hm1, hm2⟩ := markInt64S_f p 1 (by omega) (by omega)
    obtain ⟨K, hK⟩ : ∃ K, K = n + l0.length + 1000 := ⟨_, rfl⟩
    refine ⟨K + 1, ?_⟩
    have hto := toSpotS_f l0 hl' (K + 1) (by omega)
    have hs := (hn (K + 1) (by omega)).1
    have hi := (hn (K + 1) (by omega)).2
    have he := eqInt64S_f p (by omega) (K + 1) (by omega)
    have hes := eqSpotS_f (l0.map cvSpot) (by simp; omega) (K + 1) (by simp; omega)
    have hmm := hm (K + 1) (by simp; omega)
    unfold laws_FnExactBounds.f
    rw [hr, Option.bind_some, if_neg (by omega), hto, Option.bind_some, hs, Option.bind_some, Option.bind_some, hi, Option.bind_some, he, Option.bind_some, if_pos rfl, Option.bind_some, hes, Option.bind_some, if_pos rfl, hmm, Option.bind_some, if_neg (by simp; omega), Option.bind_some, laws_FnExactBounds.j0, if_neg (by simp)]
    rw [hm1 K (by omega), Option.bind_some, hm2 K (by omega), Option.bind_some, if_neg (by omega), if_pos rfl, toSpotS_f l0 hl' K (by omega), Option.bind_some, (hn K (by omega)).2, Option.bind_some, eqInt64S_f p (by omega) K (by omega), Option.bind_some, if_pos rfl, Option.bind_some, if_neg (by omega), if_pos rfl]

end Go.Proofs.Ytabamachefgilaa.Pure
