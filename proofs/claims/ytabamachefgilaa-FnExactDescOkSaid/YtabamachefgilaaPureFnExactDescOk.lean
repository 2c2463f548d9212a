/- The pure statement of FnExactDescOk: both sides ask the same of a description's pages. No condition. -/
import Derived.Test.YtabamachefgilaaPFnExactDescOkx4
import Derived.Test.YtabamachefgilaaKit
namespace Go.Proofs.Ytabamachefgilaa.Pure
open Go.RowKit Go.Proofs.Ytabamachefgilaa.PFnExactDescOk Go.Proofs.Ytabamachefgilaa.Kit Go.Proofs.YtabamachefgilaaW.PrintWords Go.Proofs.YtabamachefgilaaW.PrintLast Go.Proofs.YtabamachefgilaaW.PrintMore
set_option linter.unusedVariables false
set_option linter.unusedSimpArgs false

def cvSpot (x : S134) : S57 := ⟨x.f0, x.f1, x.f2, x.f3, x.f4, x.f5⟩
theorem rdSpot_a (l : List S134) (i : Nat) (h : i < l.length) : rd_T134 l (i : Int) = l[i] := by simp [rd_T134, h]
theorem rdSpot_b (l : List S57) (i : Nat) (h : i < l.length) : rd_T57 l (i : Int) = l[i] := by simp [rd_T57, h]
theorem toSpotS_l0 (l : List S134) (hl : l.length ≤ 1048576) : ∀ d k i : Nat, l.length - i = d → i ≤ l.length → d < k →
    laws_toSpotS.l0 k l ((List.range i).map (fun j : Nat => cvSpot (rd_T134 l (j : Int))) ++ List.replicate (l.length - i) z57) i = some (l.map cvSpot) := by
  intro d
  induction d with
  | zero =>
    intro k i hd hi hk
    obtain ⟨k, rfl⟩ : ∃ m, k = m + 1 := ⟨k - 1, by omega⟩
    obtain rfl : i = l.length := by omega
    rw [laws_toSpotS.l0, if_neg (by omega), Nat.sub_self, map_get l cvSpot (fun j : Nat => cvSpot (rd_T134 l (j : Int))) (fun j hj => by rw [rdSpot_a l j hj])]
    simp
  | succ d ih =>
    intro k i hd hi hk
    obtain ⟨k, rfl⟩ : ∃ m, k = m + 1 := ⟨k - 1, by omega⟩
    rw [laws_toSpotS.l0, if_pos (by omega), if_pos (by omega)]
    simp only [laws_toSpot.f, Option.bind_some]
    rw [if_pos (by simp; omega), wrap_succ i (by omega), Int.toNat_natCast]
    have := set_step (fun j : Nat => cvSpot (rd_T134 l (j : Int))) z57 l.length i (by omega)
    rw [show (⟨(rd_T134 l (i : Int)).f0, (rd_T134 l (i : Int)).f1, (rd_T134 l (i : Int)).f2, (rd_T134 l (i : Int)).f3, (rd_T134 l (i : Int)).f4, (rd_T134 l (i : Int)).f5⟩ : S57) = cvSpot (rd_T134 l (i : Int)) from rfl, this]
    exact ih k (i + 1) (by omega) (by omega) (by omega)
theorem toSpotS_f (l : List S134) (hl : l.length ≤ 1048576) (k : Nat) (hk : l.length < k) : laws_toSpotS.f k l = some (l.map cvSpot) := by
  unfold laws_toSpotS.f
  rw [if_pos (by omega), if_pos (by simp; omega), Int.toNat_natCast]
  exact toSpotS_l0 l hl l.length k 0 (by omega) (by omega) hk
theorem eqSpotS_l0 (l : List S57) (hl : l.length ≤ 9223372036854775806) : ∀ d k i : Nat, l.length - i = d → i ≤ l.length → d < k → laws_eqSpotS.l0 k l l i = some true := by
  intro d
  induction d with
  | zero =>
    intro k i hd hi hk
    obtain ⟨k, rfl⟩ : ∃ m, k = m + 1 := ⟨k - 1, by omega⟩
    rw [laws_eqSpotS.l0, if_neg (by omega)]
  | succ d ih =>
    intro k i hd hi hk
    obtain ⟨k, rfl⟩ : ∃ m, k = m + 1 := ⟨k - 1, by omega⟩
    rw [laws_eqSpotS.l0, if_pos (by omega), if_pos (by omega), if_pos (by omega)]
    simp only [laws_eqSpot.f, if_true, Option.bind_some]
    rw [wrap_succ i (by omega)]
    exact ih k (i + 1) (by omega) (by omega) (by omega)
theorem eqSpotS_f (l : List S57) (hl : l.length ≤ 9223372036854775806) (k : Nat) (hk : l.length < k) : laws_eqSpotS.f k l l = some true := by
  unfold laws_eqSpotS.f
  rw [if_pos rfl]
  exact eqSpotS_l0 l hl l.length k 0 (by omega) (by omega) hk
theorem rdSpotL_a (l : List (List S134)) (i : Nat) (h : i < l.length) : rd_L2 l (i : Int) = l[i] := by simp [rd_L2, h]
theorem rdSpotL_b (l : List (List S57)) (i : Nat) (h : i < l.length) : rd_L4 l (i : Int) = l[i] := by simp [rd_L4, h]
theorem szSpotS_f (l : List S134) (left : Int) (h0 : 0 ≤ left) (h1 : left ≤ 1048576) (hl : l.length ≤ 9223372036854775807) : ∃ r, laws_szSpotS.f l left = some r ∧ (r < 0 ∨ (0 ≤ r ∧ r ≤ left ∧ (l.length : Int) ≤ left)) := by
  unfold laws_szSpotS.f
  rw [wrap_in (left - (l.length : Int)) (by omega) (by omega)]
  split
  · exact ⟨-1, rfl, .inl (by omega)⟩
  · exact ⟨_, rfl, .inr (by omega)⟩
theorem szSpotSS_l0 (l : List (List S134)) (hl : l.length ≤ 1048576) (hm : ∀ x ∈ l, x.length ≤ 9223372036854775807) : ∀ d i : Nat, ∀ left : Int, l.length - i = d → i ≤ l.length → 0 ≤ left → left ≤ 1048576 →
    ∃ r, (∀ k, d < k → laws_szSpotSS.l0 k l left i = some r) ∧ (r < 0 ∨ (0 ≤ r ∧ ∀ j (h : j < l.length), i ≤ j → l[j].length ≤ 1048576)) := by
  intro d
  induction d with
  | zero =>
    intro i left hd hi h0 h1
    refine ⟨left, fun k hk => ?_, .inr ⟨h0, fun j h hij => by omega⟩⟩
    obtain ⟨k, rfl⟩ : ∃ m, k = m + 1 := ⟨k - 1, by omega⟩
    rw [laws_szSpotSS.l0, if_neg (by omega)]
  | succ d ih =>
    intro i left hd hi h0 h1
    have hlt : i < l.length := by omega
    obtain ⟨r, hr, hc⟩ := szSpotS_f l[i] left h0 h1 (hm _ (List.getElem_mem hlt))
    rcases hc with hc | ⟨c0, c1, c2⟩
    · refine ⟨-1, fun k hk => ?_, .inl (by omega)⟩
      obtain ⟨k, rfl⟩ : ∃ m, k = m + 1 := ⟨k - 1, by omega⟩
      rw [laws_szSpotSS.l0, if_pos (by omega), if_pos (by omega), rdSpotL_a l i hlt, hr]
      simp only [Option.bind_some]
      rw [if_pos hc]
    · obtain ⟨r2, h2, h3⟩ := ih (i + 1) r (by omega) (by omega) c0 (by omega)
      refine ⟨r2, fun k hk => ?_, ?_⟩
      · obtain ⟨k, rfl⟩ : ∃ m, k = m + 1 := ⟨k - 1, by omega⟩
        rw [laws_szSpotSS.l0, if_pos (by omega), if_pos (by omega), rdSpotL_a l i hlt, hr]
        simp only [Option.bind_some]
        rw [if_neg (by omega), wrap_succ i (by omega)]
        exact h2 k (by omega)
      · rcases h3 with h3 | ⟨h3, h4⟩
        · exact .inl h3
        · refine .inr ⟨h3, fun j hj hij => ?_⟩
          rcases Nat.lt_or_ge i j with h | h
          · exact h4 j hj (by omega)
          · obtain rfl : i = j := by omega
            omega
theorem szSpotSS_f (l : List (List S134)) (hl : l.length ≤ 9223372036854775807) (hm : ∀ x ∈ l, x.length ≤ 9223372036854775807) (left : Int) (h0 : 0 ≤ left) (h1 : left ≤ 1048576) :
    ∃ r, (∀ k, l.length < k ∨ r < 0 ∧ 1048577 < k → laws_szSpotSS.f k l left = some r) ∧ (r < 0 ∨ (0 ≤ r ∧ l.length ≤ 1048576 ∧ ∀ x ∈ l, x.length ≤ 1048576)) := by
  unfold laws_szSpotSS.f
  rw [wrap_in (left - (l.length : Int)) (by omega) (by omega)]
  split
  · exact ⟨-1, fun _ _ => rfl, .inl (by omega)⟩
  · obtain ⟨r, hr, hc⟩ := szSpotSS_l0 l (by omega) hm l.length 0 (left - (l.length : Int)) (by omega) (by omega) (by omega) (by omega)
    refine ⟨r, fun k hk => hr k (by omega), ?_⟩
    rcases hc with hc | ⟨hc, hj⟩
    · exact .inl hc
    · refine .inr ⟨hc, by omega, fun x hx => ?_⟩
      obtain ⟨j, hjl, rfl⟩ := List.mem_iff_getElem.1 hx
      exact hj j hjl (by omega)
theorem toSpotSS_l0 (l : List (List S134)) (hl : l.length ≤ 1048576) (hm : ∀ x ∈ l, x.length ≤ 1048576) : ∀ d k i : Nat, l.length - i = d → i ≤ l.length → d + 1048577 < k →
    laws_toSpotSS.l0 k l ((List.range i).map (fun j : Nat => (rd_L2 l (j : Int)).map cvSpot) ++ List.replicate (l.length - i) []) i = some (l.map (fun x => x.map cvSpot)) := by
  intro d
  induction d with
  | zero =>
    intro k i hd hi hk
    obtain ⟨k, rfl⟩ : ∃ m, k = m + 1 := ⟨k - 1, by omega⟩
    obtain rfl : i = l.length := by omega
    rw [laws_toSpotSS.l0, if_neg (by omega), Nat.sub_self, map_get l (fun x => x.map cvSpot) (fun j : Nat => (rd_L2 l (j : Int)).map cvSpot) (fun j hj => by rw [rdSpotL_a l j hj])]
    simp
  | succ d ih =>
    intro k i hd hi hk
    obtain ⟨k, rfl⟩ : ∃ m, k = m + 1 := ⟨k - 1, by omega⟩
    have hlt : i < l.length := by omega
    have hx := hm _ (List.getElem_mem hlt)
    rw [laws_toSpotSS.l0, if_pos (by omega), if_pos (by omega), toSpotS_f (rd_L2 l (i : Int)) (by rw [rdSpotL_a l i hlt]; exact hx) k (by rw [rdSpotL_a l i hlt]; omega)]
    simp only [Option.bind_some]
    rw [if_pos (by simp; omega), wrap_succ i (by omega), Int.toNat_natCast]
    have := set_step (fun j : Nat => (rd_L2 l (j : Int)).map cvSpot) ([] : List S57) l.length i (by omega)
    rw [this]
    exact ih k (i + 1) (by omega) (by omega) (by omega)
theorem toSpotSS_f (l : List (List S134)) (hl : l.length ≤ 1048576) (hm : ∀ x ∈ l, x.length ≤ 1048576) (k : Nat) (hk : l.length + 1048577 < k) : laws_toSpotSS.f k l = some (l.map (fun x => x.map cvSpot)) := by
  unfold laws_toSpotSS.f
  rw [if_pos (by omega), if_pos (by simp; omega), Int.toNat_natCast]
  exact toSpotSS_l0 l hl hm l.length k 0 (by omega) (by omega) hk
theorem eqSpotSS_l0 (l : List (List S57)) (hl : l.length ≤ 9223372036854775806) (hm : ∀ x ∈ l, x.length ≤ 1048576) : ∀ d k i : Nat, l.length - i = d → i ≤ l.length → d + 1048577 < k → laws_eqSpotSS.l0 k l l i = some true := by
  intro d
  induction d with
  | zero =>
    intro k i hd hi hk
    obtain ⟨k, rfl⟩ : ∃ m, k = m + 1 := ⟨k - 1, by omega⟩
    rw [laws_eqSpotSS.l0, if_neg (by omega)]
  | succ d ih =>
    intro k i hd hi hk
    obtain ⟨k, rfl⟩ : ∃ m, k = m + 1 := ⟨k - 1, by omega⟩
    have hlt : i < l.length := by omega
    have hx := hm _ (List.getElem_mem hlt)
    rw [laws_eqSpotSS.l0, if_pos (by omega), if_pos (by omega), if_pos (by omega), rdSpotL_b l i hlt, eqSpotS_f l[i] (by omega) k (by omega)]
    simp only [if_true, Option.bind_some]
    rw [wrap_succ i (by omega)]
    exact ih k (i + 1) (by omega) (by omega) (by omega)
theorem eqSpotSS_f (l : List (List S57)) (hl : l.length ≤ 9223372036854775806) (hm : ∀ x ∈ l, x.length ≤ 1048576) (k : Nat) (hk : l.length + 1048577 < k) : laws_eqSpotSS.f k l l = some true := by
  unfold laws_eqSpotSS.f
  rw [if_pos rfl]
  exact eqSpotSS_l0 l hl hm l.length k 0 (by omega) (by omega) hk
def fitsB (a : Int) : Bool := decide (-1073741823 ≤ a ∧ a ≤ 1073741823)
def lenB (a : Int) : Bool := decide (0 ≤ a ∧ a ≤ 1073741823)
theorem fits_s (a : Int) : spec_l1Fits.f a = some (fitsB a) := by
  unfold spec_l1Fits.f fitsB
  split <;> simp <;> omega
theorem fits_i (a : Int) : impl_oFits.f a = some (fitsB a) := fits_s a
theorem len_i (a : Int) : impl_oLen.f a = some (lenB a) := by
  unfold impl_oLen.f lenB
  split <;> simp <;> omega
def spotB (x y f c w h : Int) : Bool := fitsB x && fitsB y && decide (0 ≤ f ∧ f ≤ 15) && decide (-1 ≤ c ∧ c ≤ 255) && lenB w && lenB h
theorem spot_s (x y f c w h : Int) : spec_l15SpotOk.f x y f c w h = some (spotB x y f c w h) := by
  simp only [spec_l15SpotOk.f, fits_s, Option.bind_some, spotB]
  cases fitsB x <;> cases fitsB y <;> simp
  by_cases h1 : 0 ≤ f
  · by_cases h2 : f ≤ 15
    · by_cases h3 : -1 ≤ c
      · by_cases h4 : c ≤ 255
        · by_cases h5 : 0 ≤ w
          · by_cases h6 : w ≤ 1073741823
            · by_cases h7 : 0 ≤ h
              · simp [lenB, h1, h2, h3, h4, h5, h6, h7]
              · simp [lenB, h1, h2, h3, h4, h5, h6, h7]
            · simp [lenB, h1, h2, h3, h4, h5, h6]
          · simp [lenB, h1, h2, h3, h4, h5]
        · simp [h1, h2, h3, h4]
      · simp [h1, h2, h3]
    · simp [h1, h2]
  · simp [h1]
theorem spot_i (x y f c w h : Int) : impl_oSpotOk.f x y f c w h = some (spotB x y f c w h) := by
  simp only [impl_oSpotOk.f, fits_i, len_i, Option.bind_some, spotB]
  cases fitsB x <;> cases fitsB y <;> simp
  by_cases h1 : 0 ≤ f
  · by_cases h2 : f ≤ 15
    · by_cases h3 : -1 ≤ c
      · by_cases h4 : c ≤ 255
        · cases lenB w <;> simp [h1, h2, h3, h4]
        · simp [h1, h2, h3, h4]
      · simp [h1, h2, h3]
    · simp [h1, h2]
  · simp [h1]
def okS (x : S57) : Bool := spotB x.f0 x.f1 x.f2 x.f3 x.f4 x.f5
theorem page_l0 (l : List S57) (hl : l.length ≤ 1048576) : ∀ d k i : Nat, l.length - i = d → i ≤ l.length → d < k → spec_l15PageOk.l0 k l i = some ((l.drop i).all okS && decide ((l.length : Int) ≤ 20000)) := by
  intro d
  induction d with
  | zero =>
    intro k i hd hi hk
    obtain ⟨k, rfl⟩ : ∃ m, k = m + 1 := ⟨k - 1, by omega⟩
    rw [spec_l15PageOk.l0, if_neg (by omega), List.drop_of_length_le (by omega)]
    simp
  | succ d ih =>
    intro k i hd hi hk
    obtain ⟨k, rfl⟩ : ∃ m, k = m + 1 := ⟨k - 1, by omega⟩
    have hlt : i < l.length := by omega
    rw [spec_l15PageOk.l0, if_pos (by omega), if_pos (by omega), spot_s, wrap_succ i (by omega), ih k (i + 1) (by omega) (by omega) (by omega), List.drop_eq_getElem_cons hlt, List.all_cons, rdSpot_b l i hlt]
    simp only [Option.bind_some, okS]
    cases spotB l[i].f0 l[i].f1 l[i].f2 l[i].f3 l[i].f4 l[i].f5 <;> simp
theorem page_f (l : List S57) (hl : l.length ≤ 1048576) (k : Nat) (hk : l.length < k) : spec_l15PageOk.f k l = some (l.all okS && decide ((l.length : Int) ≤ 20000)) := by
  unfold spec_l15PageOk.f
  simpa using page_l0 l hl l.length k 0 (by omega) (by omega) hk
def descR : List (List S57) → Int → Bool
  | [], _ => true
  | p :: ps, n => if n + (p.length : Int) > 20000 then false else p.all okS && descR ps (n + (p.length : Int))
theorem desc_s (l : List (List S57)) (hl : l.length ≤ 1048576) (hm : ∀ x ∈ l, x.length ≤ 1048576) : ∀ d k i : Nat, ∀ n : Int, l.length - i = d → i ≤ l.length → d + 1048577 < k → 0 ≤ n → n ≤ 20000 → spec_DescOk.l0 k l n i = some (descR (l.drop i) n) := by
  intro d
  induction d with
  | zero =>
    intro k i n hd hi hk h0 h1
    obtain ⟨k, rfl⟩ : ∃ m, k = m + 1 := ⟨k - 1, by omega⟩
    rw [spec_DescOk.l0, if_neg (by omega), List.drop_of_length_le (by omega)]
    rfl
  | succ d ih =>
    intro k i n hd hi hk h0 h1
    obtain ⟨k, rfl⟩ : ∃ m, k = m + 1 := ⟨k - 1, by omega⟩
    have hlt : i < l.length := by omega
    have hx := hm _ (List.getElem_mem hlt)
    rw [spec_DescOk.l0, if_pos (by omega), if_pos (by omega), rdSpotL_b l i hlt, wrap_in (n + (l[i].length : Int)) (by omega) (by omega), List.drop_eq_getElem_cons hlt, descR]
    by_cases hb : n + (l[i].length : Int) > 20000
    · rw [if_pos hb, if_pos hb]
    · rw [if_neg hb, if_neg hb, page_f l[i] (by omega) k (by omega), wrap_succ i (by omega), ih k (i + 1) _ (by omega) (by omega) (by omega) (by omega) (by omega)]
      have : decide ((l[i].length : Int) ≤ 20000) = true := by simp; omega
      rw [this]
      simp only [Option.bind_some]
      by_cases hq : l[i].all okS = true <;> simp [hq]
theorem desc_l1 (l : List (List S57)) (p : List S57) (hp : p.length ≤ 1048576) (n m c : Int) : ∀ e k j : Nat, p.length - j = e → j ≤ p.length →
    impl_DescOk.l1 (k + e + 1) n l m c p (p.length : Int) j = if (p.drop j).all okS = true then impl_DescOk.l0 k n l m (wrap64 (c + 1)) else some false := by
  intro e
  induction e with
  | zero =>
    intro k j hd hj
    rw [impl_DescOk.l1, if_neg (by omega), List.drop_of_length_le (by omega)]
    simp
  | succ e ih =>
    intro k j hd hj
    have hlt : j < p.length := by omega
    rw [impl_DescOk.l1, if_pos (by omega), if_pos (by omega), if_pos (by omega), spot_i, wrap_succ j (by omega), List.drop_eq_getElem_cons hlt, List.all_cons, rdSpot_b p j hlt, show k + (e + 1) = k + e + 1 from rfl, ih k (j + 1) (by omega) (by omega)]
    simp only [Option.bind_some, okS]
    by_cases hq : spotB p[j].f0 p[j].f1 p[j].f2 p[j].f3 p[j].f4 p[j].f5 = true <;> simp [hq]
theorem desc_i (l : List (List S57)) (hl : l.length ≤ 1048576) (hm : ∀ x ∈ l, x.length ≤ 1048576) : ∀ d k i : Nat, ∀ n : Int, l.length - i = d → i ≤ l.length → 2 * d + 20000 < k + n.toNat → 0 ≤ n → n ≤ 20000 → impl_DescOk.l0 k n l (l.length : Int) i = some (descR (l.drop i) n) := by
  intro d
  induction d with
  | zero =>
    intro k i n hd hi hk h0 h1
    obtain ⟨k, rfl⟩ : ∃ m, k = m + 1 := ⟨k - 1, by omega⟩
    rw [impl_DescOk.l0, if_neg (by omega), List.drop_of_length_le (by omega)]
    rfl
  | succ d ih =>
    intro k i n hd hi hk h0 h1
    obtain ⟨k, rfl⟩ : ∃ m, k = m + 1 := ⟨k - 1, by omega⟩
    have hlt : i < l.length := by omega
    have hx := hm _ (List.getElem_mem hlt)
    rw [impl_DescOk.l0, if_pos (by omega), if_pos (by omega), if_pos (by omega), rdSpotL_b l i hlt, wrap_in (n + (l[i].length : Int)) (by omega) (by omega), List.drop_eq_getElem_cons hlt, descR]
    by_cases hb : n + (l[i].length : Int) > 20000
    · rw [if_pos hb, if_pos hb]
    · rw [if_neg hb, if_neg hb]
      obtain ⟨k2, rfl⟩ : ∃ m, k = m + l[i].length + 1 := ⟨k - l[i].length - 1, by omega⟩
      have := desc_l1 l l[i] (by omega) (n + (l[i].length : Int)) (l.length : Int) (i : Int) l[i].length k2 0 (by omega) (by omega)
      rw [show ((0 : Nat) : Int) = 0 from rfl] at this
      rw [this, wrap_succ i (by omega), ih k2 (i + 1) _ (by omega) (by omega) (by omega) (by omega) (by omega), List.drop_zero]
      by_cases hq : l[i].all okS = true <;> simp [hq]
theorem desc_both (l : List (List S57)) (hl : l.length ≤ 1048576) (hm : ∀ x ∈ l, x.length ≤ 1048576) : ∃ b, ∀ k, l.length + 1048577 < k → spec_DescOk.f k l = some b ∧ impl_DescOk.f k l = some b := by
  by_cases hb : (l.length : Int) > 1000
  · exact ⟨false, fun k _ => ⟨by unfold spec_DescOk.f; rw [if_pos hb], by unfold impl_DescOk.f; rw [if_pos hb]⟩⟩
  · refine ⟨descR l 0, fun k hk => ⟨?_, ?_⟩⟩
    · unfold spec_DescOk.f
      rw [if_neg hb]
      simpa using desc_s l hl hm l.length k 0 0 (by omega) (by omega) (by omega) (by omega) (by omega)
    · unfold impl_DescOk.f
      rw [if_neg hb]
      simpa using desc_i l hl hm l.length k 0 0 (by omega) (by omega) (by simp; omega) (by omega) (by omega)

theorem FnExactDescOk : laws_FnExactDescOk.Pure := by
  intro l0 hl0 hw
  obtain ⟨r, hr, hc⟩ := szSpotSS_f l0 hl0 (fun x hx => (hw x hx).1) 1048576 (by omega) (by omega)
  rcases hc with hc | ⟨hr0, hl, hm⟩
  · refine ⟨1048578, ?_⟩
    unfold laws_FnExactDescOk.f
    rw [hr 1048578 (.inr ⟨hc, by omega⟩)]
    simp only [Option.bind_some]
    rw [if_pos hc]
  · have hm' : ∀ x ∈ l0.map (fun x => x.map cvSpot), x.length ≤ 1048576 := by
      intro x hx
      obtain ⟨y, hy, rfl⟩ := List.mem_map.1 hx
      simpa using hm y hy
    obtain ⟨b, hb⟩ := desc_both (l0.map (fun x => x.map cvSpot)) (by simpa using hl) hm'
    refine ⟨l0.length + 1048600, ?_⟩
    unfold laws_FnExactDescOk.f
    rw [hr _ (.inl (by omega))]
    simp only [Option.bind_some]
    rw [if_neg (by omega), toSpotSS_f l0 hl hm _ (by omega)]
    simp only [Option.bind_some]
    rw [(hb (l0.length + 1048600) (by simp)).1]
    simp only [Option.bind_some]
    rw [(hb (l0.length + 1048600) (by simp)).2]
    simp only [Option.bind_some, bne_self]
    rw [if_neg (by simp), eqSpotSS_f _ (by simp; omega) hm' _ (by simp)]
    simp

end Go.Proofs.Ytabamachefgilaa.Pure
