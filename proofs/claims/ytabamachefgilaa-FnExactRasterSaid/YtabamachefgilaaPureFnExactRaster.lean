/- The pure statement of FnExactRaster: both sides draw the same picture. No condition. -/
import Derived.Test.YtabamachefgilaaPFnExactRasterx7
import Derived.Test.YtabamachefgilaaKit
namespace Go.Proofs.Ytabamachefgilaa.Pure
open Go.RowKit Go.Proofs.Ytabamachefgilaa.PFnExactRaster Go.Proofs.Ytabamachefgilaa.Kit Go.Proofs.YtabamachefgilaaW.PrintWords Go.Proofs.YtabamachefgilaaW.PrintLast Go.Proofs.YtabamachefgilaaW.PrintMore
set_option linter.unusedVariables false
set_option linter.unusedSimpArgs false
set_option linter.unusedSectionVars false

def cvSpot (x : S134) : S57 := ⟨x.f0, x.f1, x.f2, x.f3, x.f4, x.f5⟩
theorem rdSpot_a (l : List S134) (i : Nat) (h : i < l.length) : rd_T134 l (i : Int) = l[i] := by simp [rd_T134, h]
theorem rdSpot_b (l : List S57) (i : Nat) (h : i < l.length) : rd_T57 l (i : Int) = l[i] := by simp [rd_T57, h]
theorem toSpotS_l0 (l : List S134) (hl : l.length ≤ 1048576) : ∀ d k i : Nat, l.length - i = d → i ≤ l.length → d < k →
    laws_toSpotS.l0 k l ((List.range i).map (fun j : Nat => cvSpot (rd_T134 l (j : Int))) ++ List.replicate (l.length - i) z57) i = some (l.map cvSpot) := by
  intro d
  induction d with
  | zero =>
    intro k i hd hi hk
    obtain ⟨k, rfl⟩ : ∃ m, k = m + 1 := ⟨k - 1, by omega⟩
    obtain rfl : i = l.length := by omega
    rw [laws_toSpotS.l0, if_neg (by omega), Nat.sub_self, map_get l cvSpot (fun j : Nat => cvSpot (rd_T134 l (j : Int))) (fun j hj => by rw [rdSpot_a l j hj])]
    simp
  | succ d ih =>
    intro k i hd hi hk
    obtain ⟨k, rfl⟩ : ∃ m, k = m + 1 := ⟨k - 1, by omega⟩
    rw [laws_toSpotS.l0, if_pos (by omega), if_pos (by omega)]
    simp only [laws_toSpot.f, Option.bind_some]
    rw [if_pos (by simp; omega), wrap_succ i (by omega), Int.toNat_natCast]
    have := set_step (fun j : Nat => cvSpot (rd_T134 l (j : Int))) z57 l.length i (by omega)
    rw [show (⟨(rd_T134 l (i : Int)).f0, (rd_T134 l (i : Int)).f1, (rd_T134 l (i : Int)).f2, (rd_T134 l (i : Int)).f3, (rd_T134 l (i : Int)).f4, (rd_T134 l (i : Int)).f5⟩ : S57) = cvSpot (rd_T134 l (i : Int)) from rfl, this]
    exact ih k (i + 1) (by omega) (by omega) (by omega)
theorem toSpotS_f (l : List S134) (hl : l.length ≤ 1048576) (k : Nat) (hk : l.length < k) : laws_toSpotS.f k l = some (l.map cvSpot) := by
  unfold laws_toSpotS.f
  rw [if_pos (by omega), if_pos (by simp; omega), Int.toNat_natCast]
  exact toSpotS_l0 l hl l.length k 0 (by omega) (by omega) hk
theorem eqSpotS_l0 (l : List S57) (hl : l.length ≤ 9223372036854775806) : ∀ d k i : Nat, l.length - i = d → i ≤ l.length → d < k → laws_eqSpotS.l0 k l l i = some true := by
  intro d
  induction d with
  | zero =>
    intro k i hd hi hk
    obtain ⟨k, rfl⟩ : ∃ m, k = m + 1 := ⟨k - 1, by omega⟩
    rw [laws_eqSpotS.l0, if_neg (by omega)]
  | succ d ih =>
    intro k i hd hi hk
    obtain ⟨k, rfl⟩ : ∃ m, k = m + 1 := ⟨k - 1, by omega⟩
    rw [laws_eqSpotS.l0, if_pos (by omega), if_pos (by omega), if_pos (by omega)]
    simp only [laws_eqSpot.f, if_true, Option.bind_some]
    rw [wrap_succ i (by omega)]
    exact ih k (i + 1) (by omega) (by omega) (by omega)
theorem eqSpotS_f (l : List S57) (hl : l.length ≤ 9223372036854775806) (k : Nat) (hk : l.length < k) : laws_eqSpotS.f k l l = some true := by
  unfold laws_eqSpotS.f
  rw [if_pos rfl]
  exact eqSpotS_l0 l hl l.length k 0 (by omega) (by omega) hk
def MSpot (q : Int) : S57 := ⟨q, q + 1, q + 2, q + 3, q + 4, q + 5⟩
theorem rdsetSpot_eq (x : List S57) (i : Nat) (v : S57) (h : i < x.length) : rd_T57 (x.set i v) (i : Int) = v := by simp [rd_T57, h]
theorem rdsetSpot_ne (x : List S57) (i j : Nat) (v : S57) (h : i ≠ j) : rd_T57 (x.set i v) (j : Int) = rd_T57 x (j : Int) := by simp [rd_T57, List.getElem?_set_ne h]
theorem markSpotS_l0 (q0 : Int) (n : Nat) (h0 : 0 ≤ q0) (hq : q0 + 6 * n ≤ 4611686018427387904) : ∀ d k i : Nat, ∀ x : List S57, n - i = d → i ≤ n → x.length = n → d < k → (∀ j : Nat, j < i → rd_T57 x (j : Int) = (MSpot (q0 + 6 * j))) →
    ∃ l', laws_markSpotS.l0 k x (q0 + 6 * i) i = some (q0 + 6 * n, l') ∧ l'.length = n ∧ ∀ j : Nat, j < n → rd_T57 l' (j : Int) = (MSpot (q0 + 6 * j)) := by
  intro d
  induction d with
  | zero =>
    intro k i x hd hi hx hk hj
    obtain ⟨k, rfl⟩ : ∃ m, k = m + 1 := ⟨k - 1, by omega⟩
    obtain rfl : i = n := by omega
    exact ⟨x, by rw [laws_markSpotS.l0, if_neg (by omega)], hx, hj⟩
  | succ d ih =>
    intro k i x hd hi hx hk hj
    obtain ⟨k, rfl⟩ : ∃ m, k = m + 1 := ⟨k - 1, by omega⟩
    have hlt : i < x.length := by omega
    rw [laws_markSpotS.l0, if_pos (by omega), if_pos (by omega)]
    rw [Option.bind_some]
    simp only [Int.toNat_natCast, List.set_set, List.length_set, rdsetSpot_eq x i _ hlt]
    rw [Option.bind_some]
    simp only [Int.toNat_natCast, List.set_set, List.length_set, rdsetSpot_eq x i _ hlt]
    rw [Option.bind_some]
    simp only [Int.toNat_natCast, List.set_set, List.length_set, rdsetSpot_eq x i _ hlt]
    rw [Option.bind_some]
    simp only [Int.toNat_natCast, List.set_set, List.length_set, rdsetSpot_eq x i _ hlt]
    rw [Option.bind_some]
    simp only [Int.toNat_natCast, List.set_set, List.length_set, rdsetSpot_eq x i _ hlt]
    simp only [show wrap64 (q0 + 6 * (i : Int) + 1) = q0 + 6 * (i : Int) + 1 from by unfold wrap64; omega, show wrap64 (q0 + 6 * (i : Int) + 1 + 1) = q0 + 6 * (i : Int) + 2 from by unfold wrap64; omega, show wrap64 (q0 + 6 * (i : Int) + 2 + 1) = q0 + 6 * (i : Int) + 3 from by unfold wrap64; omega, show wrap64 (q0 + 6 * (i : Int) + 3 + 1) = q0 + 6 * (i : Int) + 4 from by unfold wrap64; omega, show wrap64 (q0 + 6 * (i : Int) + 4 + 1) = q0 + 6 * (i : Int) + 5 from by unfold wrap64; omega, show wrap64 (q0 + 6 * (i : Int) + 5 + 1) = q0 + 6 * (i : Int) + 6 from by unfold wrap64; omega]
    rw [wrap_succ i (by omega), show q0 + 6 * (i : Int) + 6 = q0 + 6 * ((i + 1 : Nat) : Int) by omega]
    refine ih k (i + 1) _ (by omega) (by omega) (by simpa using hx) (by omega) (fun j hlj => ?_)
    rcases Nat.lt_or_ge j i with h | h
    · rw [← hj j h, rdsetSpot_ne x i j _ (by omega)]
    · obtain rfl : j = i := by omega
      rw [rdsetSpot_eq x j _ hlt]
      rfl
theorem markSpotS_f (l : List S57) (q0 : Int) (h0 : 0 ≤ q0) (hq : q0 + 6 * l.length ≤ 4611686018427387904) :
    ∃ l', (∀ k, l.length < k → laws_markSpotS.f k l q0 = some (q0 + 6 * l.length, l')) := by
  obtain ⟨l', h1, h2, h3⟩ := markSpotS_l0 q0 l.length h0 hq l.length (l.length + 1) 0 l (by omega) (by omega) rfl (by omega) (fun j h => by omega)
  refine ⟨l', fun k hk => ?_⟩
  · obtain ⟨l2, g1, g2, g3⟩ := markSpotS_l0 q0 l.length h0 hq l.length k 0 l (by omega) (by omega) rfl hk (fun j h => by omega)
    have e : l2 = l' := by
      apply List.ext_getElem (by omega)
      intro j a b
      have e1 := g3 j (by omega)
      have e2 := h3 j (by omega)
      rw [rdSpot_b l2 j (by omega)] at e1
      rw [rdSpot_b l' j (by omega)] at e2
      rw [e1, e2]
    subst e
    unfold laws_markSpotS.f
    simpa using g1
def fitsB (a : Int) : Bool := decide (-1073741823 ≤ a ∧ a ≤ 1073741823)
def lenB (a : Int) : Bool := decide (0 ≤ a ∧ a ≤ 1073741823)
theorem fits_s (a : Int) : spec_l1Fits.f a = some (fitsB a) := by
  unfold spec_l1Fits.f fitsB
  split <;> simp <;> omega
theorem fits_i (a : Int) : impl_oFits.f a = some (fitsB a) := fits_s a
theorem len_i (a : Int) : impl_oLen.f a = some (lenB a) := by
  unfold impl_oLen.f lenB
  split <;> simp <;> omega
def spotB (x y f c w h : Int) : Bool := fitsB x && fitsB y && decide (0 ≤ f ∧ f ≤ 15) && decide (-1 ≤ c ∧ c ≤ 255) && lenB w && lenB h
theorem spot_s (x y f c w h : Int) : spec_l15SpotOk.f x y f c w h = some (spotB x y f c w h) := by
  simp only [spec_l15SpotOk.f, fits_s, Option.bind_some, spotB]
  cases fitsB x <;> cases fitsB y <;> simp
  by_cases h1 : 0 ≤ f
  · by_cases h2 : f ≤ 15
    · by_cases h3 : -1 ≤ c
      · by_cases h4 : c ≤ 255
        · by_cases h5 : 0 ≤ w
          · by_cases h6 : w ≤ 1073741823
            · by_cases h7 : 0 ≤ h
              · simp [lenB, h1, h2, h3, h4, h5, h6, h7]
              · simp [lenB, h1, h2, h3, h4, h5, h6, h7]
            · simp [lenB, h1, h2, h3, h4, h5, h6]
          · simp [lenB, h1, h2, h3, h4, h5]
        · simp [h1, h2, h3, h4]
      · simp [h1, h2, h3]
    · simp [h1, h2]
  · simp [h1]
theorem spot_i (x y f c w h : Int) : impl_oSpotOk.f x y f c w h = some (spotB x y f c w h) := by
  simp only [impl_oSpotOk.f, fits_i, len_i, Option.bind_some, spotB]
  cases fitsB x <;> cases fitsB y <;> simp
  by_cases h1 : 0 ≤ f
  · by_cases h2 : f ≤ 15
    · by_cases h3 : -1 ≤ c
      · by_cases h4 : c ≤ 255
        · cases lenB w <;> simp [h1, h2, h3, h4]
        · simp [h1, h2, h3, h4]
      · simp [h1, h2, h3]
    · simp [h1, h2]
  · simp [h1]
def okS (x : S57) : Bool := spotB x.f0 x.f1 x.f2 x.f3 x.f4 x.f5
theorem page_l0 (l : List S57) (hl : l.length ≤ 1048576) : ∀ d k i : Nat, l.length - i = d → i ≤ l.length → d < k → spec_l15PageOk.l0 k l i = some ((l.drop i).all okS && decide ((l.length : Int) ≤ 20000)) := by
  intro d
  induction d with
  | zero =>
    intro k i hd hi hk
    obtain ⟨k, rfl⟩ : ∃ m, k = m + 1 := ⟨k - 1, by omega⟩
    rw [spec_l15PageOk.l0, if_neg (by omega), List.drop_of_length_le (by omega)]
    simp
  | succ d ih =>
    intro k i hd hi hk
    obtain ⟨k, rfl⟩ : ∃ m, k = m + 1 := ⟨k - 1, by omega⟩
    have hlt : i < l.length := by omega
    rw [spec_l15PageOk.l0, if_pos (by omega), if_pos (by omega), spot_s, wrap_succ i (by omega), ih k (i + 1) (by omega) (by omega) (by omega), List.drop_eq_getElem_cons hlt, List.all_cons, rdSpot_b l i hlt]
    simp only [Option.bind_some, okS]
    cases spotB l[i].f0 l[i].f1 l[i].f2 l[i].f3 l[i].f4 l[i].f5 <;> simp
theorem page_f (l : List S57) (hl : l.length ≤ 1048576) (k : Nat) (hk : l.length < k) : spec_l15PageOk.f k l = some (l.all okS && decide ((l.length : Int) ≤ 20000)) := by
  unfold spec_l15PageOk.f
  simpa using page_l0 l hl l.length k 0 (by omega) (by omega) hk

theorem szSpotS_f (l : List S134) (left : Int) (h0 : 0 ≤ left) (h1 : left ≤ 1048576) (hl : l.length ≤ 9223372036854775807) : ∃ r, laws_szSpotS.f l left = some r ∧ (r < 0 ∨ (0 ≤ r ∧ r ≤ left ∧ (l.length : Int) ≤ left)) := by
  unfold laws_szSpotS.f
  rw [wrap_in (left - (l.length : Int)) (by omega) (by omega)]
  split
  · exact ⟨-1, rfl, .inl (by omega)⟩
  · exact ⟨_, rfl, .inr (by omega)⟩
theorem rdL_one (l : List S57) : rd_L2 [l] 0 = l := by simp [rd_L2]
theorem desc_l1 (l : List (List S57)) (p : List S57) (hp : p.length ≤ 1048576) (n m c : Int) : ∀ e k j : Nat, p.length - j = e → j ≤ p.length →
    impl_DescOk.l1 (k + e + 1) n l m c p (p.length : Int) j = if (p.drop j).all okS = true then impl_DescOk.l0 k n l m (wrap64 (c + 1)) else some false := by
  intro e
  induction e with
  | zero =>
    intro k j hd hj
    rw [impl_DescOk.l1, if_neg (by omega), List.drop_of_length_le (by omega)]
    simp
  | succ e ih =>
    intro k j hd hj
    have hlt : j < p.length := by omega
    rw [impl_DescOk.l1, if_pos (by omega), if_pos (by omega), if_pos (by omega), spot_i, wrap_succ j (by omega), List.drop_eq_getElem_cons hlt, List.all_cons, rdSpot_b p j hlt, show k + (e + 1) = k + e + 1 from rfl, ih k (j + 1) (by omega) (by omega)]
    simp only [Option.bind_some, okS]
    by_cases hq : spotB p[j].f0 p[j].f1 p[j].f2 p[j].f3 p[j].f4 p[j].f5 = true <;> simp [hq]
theorem desc_one (l : List S57) (hl : l.length ≤ 1048576) (k : Nat) (hk : l.length + 10 < k) : impl_DescOk.f k [l] = some (l.all okS && decide ((l.length : Int) ≤ 20000)) := by
  obtain ⟨k, rfl⟩ : ∃ m, k = m + l.length + 3 := ⟨k - l.length - 3, by omega⟩
  unfold impl_DescOk.f
  rw [if_neg (by simp), show k + l.length + 3 = (k + l.length + 2) + 1 from rfl, impl_DescOk.l0, if_pos (by simp), if_pos (by omega), if_pos (by simp), rdL_one, wrap_in (0 + (l.length : Int)) (by omega) (by omega)]
  by_cases h : (l.length : Int) > 20000
  · rw [if_pos (by omega), show decide ((l.length : Int) ≤ 20000) = false from decide_eq_false (by omega)]
    simp
  · have e := desc_l1 [l] l hl (0 + (l.length : Int)) ((([l] : List (List S57)).length : Nat) : Int) 0 l.length (k + 1) 0 (by omega) (by omega)
    rw [show ((0 : Nat) : Int) = 0 from rfl, show k + 1 + l.length + 1 = k + l.length + 2 by omega] at e
    rw [if_neg (by omega), e, List.drop_zero, show decide ((l.length : Int) ≤ 20000) = true from decide_eq_true (by omega), Bool.and_true]
    by_cases hq : l.all okS = true
    · rw [if_pos hq, impl_DescOk.l0, wrap_in (0 + 1) (by omega) (by omega), if_neg (by simp), hq]
    · rw [if_neg hq, Bool.eq_false_iff.mpr hq]
def covB (u : Int) (s : S57) (r c : Nat) : Bool := decide ((s.f0 ≤ (c : Int) * u + u / 2 ∧ (c : Int) * u + u / 2 < s.f0 + s.f4) ∧ (s.f1 - s.f5 ≤ (r : Int) * u + u / 2 ∧ (r : Int) * u + u / 2 < s.f1))
def shB (s : S57) : Int := if s.f3 < 0 then 35 else if s.f3 < 33 then 63 else if s.f3 > 126 then 63 else s.f3 % 256
def cv (u : Int) (l : List S57) (r c : Nat) : Int := l.foldl (fun a s => if covB u s r c = true then shB s else a) 32
theorem cv_snoc (u : Int) (l : List S57) (s : S57) (r c : Nat) : cv u (l ++ [s]) r c = if covB u s r c = true then shB s else cv u l r c := by simp [cv]
theorem okS_at (s : S57) (h : okS s = true) : (-1073741823 ≤ s.f0 ∧ s.f0 ≤ 1073741823) ∧ (-1073741823 ≤ s.f1 ∧ s.f1 ≤ 1073741823) ∧ (-1 ≤ s.f3 ∧ s.f3 ≤ 255) ∧ (0 ≤ s.f4 ∧ s.f4 ≤ 1073741823) ∧ (0 ≤ s.f5 ∧ s.f5 ≤ 1073741823) := by
  simp only [okS, spotB, fitsB, lenB, Bool.and_eq_true, decide_eq_true_eq] at h
  omega
theorem mul_in (c : Nat) (u : Int) (hc : c ≤ 400) (h1 : 1 ≤ u) (h2 : u ≤ 1073741823) : 0 ≤ (c : Int) * u ∧ (c : Int) * u ≤ 429496729200 := by
  refine ⟨Int.mul_nonneg (by omega) (by omega), ?_⟩
  have := Int.mul_le_mul (show (c : Int) ≤ 400 by omega) h2 (by omega) (by omega)
  omega
section
variable (l : List S57) (hl : l.length ≤ 20000) (hok : ∀ s ∈ l, okS s = true) (u : Int) (hu1 : 1 ≤ u) (hu2 : u ≤ 1073741823) (W H : Nat) (hW1 : 1 ≤ W) (hW2 : W ≤ 400) (hH1 : 1 ≤ H) (hH2 : H ≤ 400)
include hl hok hu1 hu2 hW1 hW2 hH1 hH2
theorem i_l2 (acc : List ByteArray) (r c : Nat) (hr : r < H) (hc : c < W) (row : List Int) (hrow : row.length = W) : ∀ m : Nat, m ≤ l.length → ∃ n, ∀ k,
    impl_Raster.l2 (k + n) l u W acc r (row.set c 32) c ((c : Int) * u + u / 2) ((r : Int) * u + u / 2) ((m : Int) - 1) H r W c = impl_Raster.l1 k l u W acc r (row.set c (cv u (l.take m) r c)) H r W ((c + 1 : Nat) : Int) := by
  intro m
  induction m with
  | zero =>
    intro hm
    refine ⟨1, fun k => ?_⟩
    rw [impl_Raster.l2, if_neg (by omega), wrap_succ c (by omega)]
    simp [cv]
  | succ m ih =>
    intro hm
    obtain ⟨n, hn⟩ := ih (by omega)
    have hlt : m < l.length := by omega
    obtain ⟨b0, b1, b3, b4, b5⟩ := okS_at l[m] (hok _ (List.getElem_mem hlt))
    have w1 : wrap64 (l[m].f0 + l[m].f4) = l[m].f0 + l[m].f4 := wrap_in _ (by omega) (by omega)
    have w2 : wrap64 (l[m].f1 - l[m].f5) = l[m].f1 - l[m].f5 := wrap_in _ (by omega) (by omega)
    have w3 : wrap64 ((m : Int) - 1) = (m : Int) - 1 := wrap_in _ (by omega) (by omega)
    have ht : l.take (m + 1) = l.take m ++ [l[m]] := List.take_succ_eq_append_getElem hlt
    by_cases hcov : covB u l[m] r c = true
    · refine ⟨2, fun k => ?_⟩
      have hc' := hcov
      simp only [covB, decide_eq_true_eq] at hc'
      have hset : ∀ v : Int, (row.set c 32).set (c : Int).toNat v = row.set c v := by intro v; simp
      have hlen : (c : Int) < ((row.set c 32).length : Int) := by rw [List.length_set]; omega
      rw [show k + 2 = (k + 1) + 1 from rfl, show (((m + 1 : Nat) : Int) - 1) = (m : Int) by omega, impl_Raster.l2, if_pos (by omega), if_pos (by omega), if_pos (by omega), rdSpot_b l m hlt, w1, w2, ht, cv_snoc, if_pos hcov,
        if_neg (by omega), if_neg (by omega), if_neg (by omega), show decide ((r : Int) * u + u / 2 ≥ l[m].f1) = false from decide_eq_false (by omega), impl_Raster.j4, if_neg (by simp)]
      unfold shB
      by_cases d1 : l[m].f3 < 0
      · rw [if_pos d1, if_pos (by omega), if_pos hlen, hset, if_pos d1, wrap_succ c (by omega)]
      · rw [if_neg d1, if_neg d1]
        by_cases d2 : l[m].f3 < 33
        · rw [if_neg (by omega), if_pos (by omega), if_pos hlen, hset, if_pos d2, wrap_succ c (by omega)]
        · rw [if_pos (by omega), if_neg d2]
          by_cases d3 : l[m].f3 > 126
          · rw [if_neg (by omega), if_pos (by omega), if_pos hlen, hset, if_pos d3, wrap_succ c (by omega)]
          · rw [if_pos (by omega), if_pos (by omega), if_pos hlen, hset, if_neg d3, wrap_succ c (by omega)]
    · refine ⟨n + 2, fun k => ?_⟩
      have hc' := hcov
      simp only [covB, decide_eq_true_eq] at hc'
      rw [show k + (n + 2) = (k + n + 1) + 1 from rfl, show (((m + 1 : Nat) : Int) - 1) = (m : Int) by omega, impl_Raster.l2, if_pos (by omega), if_pos (by omega), if_pos (by omega), rdSpot_b l m hlt, w1, w2, ht, cv_snoc, if_neg hcov]
      have out : ∀ (a b d e f g : Int), impl_Raster.j4 (k + n + 1) l u W acc r (row.set c 32) c ((c : Int) * u + u / 2) ((r : Int) * u + u / 2) (m : Int) H r W c true a b d e f g = impl_Raster.l1 k l u W acc r (row.set c (cv u (l.take m) r c)) H r W ((c + 1 : Nat) : Int) := by
        intro a b d e f g
        rw [impl_Raster.j4, if_pos rfl, w3, hn k]
      by_cases c1 : (c : Int) * u + u / 2 < l[m].f0
      · rw [if_pos c1, out]
      · rw [if_neg c1]
        by_cases c2 : (c : Int) * u + u / 2 ≥ l[m].f0 + l[m].f4
        · rw [if_pos c2, out]
        · rw [if_neg c2]
          by_cases c3 : (r : Int) * u + u / 2 < l[m].f1 - l[m].f5
          · rw [if_pos c3, out]
          · rw [if_neg c3, show decide ((r : Int) * u + u / 2 ≥ l[m].f1) = true from decide_eq_true (by omega), out]
theorem half_wrap (c : Nat) (hc : c ≤ 400) : wrap64 ((wrap64 ((c : Int) * u)) + (wrap64 (Int.tdiv u 2))) = (c : Int) * u + u / 2 := by
  have h := mul_in c u hc hu1 hu2
  rw [Int.tdiv_eq_ediv_of_nonneg (by omega), wrap_in ((c : Int) * u) (by omega) (by omega), wrap_in (u / 2) (by omega) (by omega), wrap_in _ (by omega) (by omega)]
theorem i_l1 (acc : List ByteArray) (hacc : acc.length ≤ 1000) (r : Nat) (hr : r < H) : ∀ d c : Nat, W - c = d → c ≤ W → ∃ n, ∀ k,
    impl_Raster.l1 (k + n) l u W acc r ((List.range c).map (fun j : Nat => cv u l r j) ++ List.replicate (W - c) 0) H r W c = impl_Raster.l0 k l u W (acc ++ [strOfNums ((List.range W).map (fun j : Nat => cv u l r j))]) H ((r + 1 : Nat) : Int) := by
  intro d
  induction d with
  | zero =>
    intro c hd hc
    obtain rfl : c = W := by omega
    refine ⟨1, fun k => ?_⟩
    rw [impl_Raster.l1, if_neg (by omega), if_pos (by omega), wrap_succ r (by omega), Nat.sub_self]
    simp
  | succ d ih =>
    intro c hd hc
    obtain ⟨n, hn⟩ := ih (c + 1) (by omega) (by omega)
    obtain ⟨n2, hn2⟩ := i_l2 l hl hok u hu1 hu2 W H hW1 hW2 hH1 hH2 acc r c hr (by omega) ((List.range c).map (fun j : Nat => cv u l r j) ++ List.replicate (W - c) 0) (by simp; omega) l.length (Nat.le_refl _)
    refine ⟨n + n2 + 1, fun k => ?_⟩
    rw [show k + (n + n2 + 1) = (k + n + n2) + 1 by omega, impl_Raster.l1, if_pos (by omega), if_pos (by omega), if_pos (by simp; omega), half_wrap l hl hok u hu1 hu2 W H hW1 hW2 hH1 hH2 c (by omega), half_wrap l hl hok u hu1 hu2 W H hW1 hW2 hH1 hH2 r (by omega), wrap_in ((l.length : Int) - 1) (by omega) (by omega), Int.toNat_natCast, hn2 (k + n), List.take_length]
    have := set_step (fun j : Nat => cv u l r j) (0 : Int) W c (by omega)
    rw [this]
    exact hn k
theorem i_l0 : ∀ d r : Nat, H - r = d → r ≤ H → ∃ n, ∀ k,
    impl_Raster.l0 (k + n) l u W ((List.range r).map (fun i : Nat => strOfNums ((List.range W).map (fun j : Nat => cv u l i j)))) H r = some ((List.range H).map (fun i : Nat => strOfNums ((List.range W).map (fun j : Nat => cv u l i j)))) := by
  intro d
  induction d with
  | zero =>
    intro r hd hr
    obtain rfl : r = H := by omega
    refine ⟨1, fun k => ?_⟩
    rw [impl_Raster.l0, if_neg (by omega)]
  | succ d ih =>
    intro r hd hr
    obtain ⟨n, hn⟩ := ih (r + 1) (by omega) (by omega)
    obtain ⟨n2, hn2⟩ := i_l1 l hl hok u hu1 hu2 W H hW1 hW2 hH1 hH2 ((List.range r).map (fun i : Nat => strOfNums ((List.range W).map (fun j : Nat => cv u l i j)))) (by simp; omega) r (by omega) W 0 (by omega) (by omega)
    refine ⟨n + n2 + 1, fun k => ?_⟩
    have e := hn2 (k + n)
    simp only [List.range_zero, List.map_nil, List.nil_append, Nat.sub_zero] at e
    rw [show k + (n + n2 + 1) = (k + n + n2) + 1 by omega, impl_Raster.l0, if_pos (by omega), if_pos (by omega), if_pos (by simp; omega), Int.toNat_natCast, show (0 : Int) = ((0 : Nat) : Int) from rfl]
    have e' := hn k
    rw [List.range_succ, List.map_append] at e'
    exact e.trans e'
theorem cells_ok (a b : Int) (ha : -4294967296 ≤ a ∧ a ≤ 4294967296) (hb : -4294967296 ≤ b ∧ b ≤ 4294967296) (n : Nat) (hn : n ≤ 400) : ∃ f e : Nat, e ≤ n ∧ (∀ c : Nat, c < n → ((f ≤ c ∧ c < e) ↔ (a ≤ (c : Int) * u + u / 2 ∧ (c : Int) * u + u / 2 < b))) ∧ ∀ k, 1 ≤ k → spec_l15Cells.f k a b u n = some ((f : Int), (e : Int)) := by
  have hq : ∀ A : Int, 0 < A → A ≤ 8589934592 → wrap64 (Int.tdiv (wrap64 ((wrap64 ((wrap64 A) + u)) - 1)) u) = (A + u - 1) / u := by
    intro A h1 h2
    rw [wrap_in A (by omega) (by omega), wrap_in (A + u) (by omega) (by omega), wrap_in (A + u - 1) (by omega) (by omega), Int.tdiv_eq_ediv_of_nonneg (by omega)]
    have h3 : 0 ≤ (A + u - 1) / u := Int.ediv_nonneg (by omega) (by omega)
    have h4 : (A + u - 1) / u ≤ A + u - 1 := Int.ediv_le_self _ (by omega)
    exact wrap_in _ (by omega) (by omega)
  have hge : ∀ A : Int, 0 < A → ∀ c : Nat, (A + u - 1) / u ≤ (c : Int) ↔ A ≤ (c : Int) * u := by
    intro A h1 c
    have g1 := Int.ediv_mul_le (A + u - 1) (show u ≠ 0 by omega)
    have g2 := Int.lt_ediv_add_one_mul_self (A + u - 1) (show 0 < u by omega)
    rw [Int.add_mul, Int.one_mul] at g2
    constructor
    · intro h
      have := Int.mul_le_mul_of_nonneg_right h (show 0 ≤ u by omega)
      omega
    · intro h
      rcases (show (c : Int) < (A + u - 1) / u ∨ (A + u - 1) / u ≤ (c : Int) by omega) with g | g
      · have g3 : (c : Int) + 1 ≤ (A + u - 1) / u := by omega
        have := Int.mul_le_mul_of_nonneg_right g3 (show 0 ≤ u by omega)
        rw [Int.add_mul, Int.one_mul] at this
        omega
      · exact g
  have hh : wrap64 (Int.tdiv u 2) = u / 2 := by rw [Int.tdiv_eq_ediv_of_nonneg (by omega)]; exact wrap_in _ (by omega) (by omega)
  obtain ⟨f, hf, hf2⟩ : ∃ f : Nat, (f : Int) = (if a > u / 2 then (a - u / 2 + u - 1) / u else 0) ∧ ∀ c : Nat, f ≤ c ↔ a ≤ (c : Int) * u + u / 2 := by
    by_cases h : a > u / 2
    · obtain ⟨f, hf⟩ := Int.eq_ofNat_of_zero_le (show 0 ≤ (a - u / 2 + u - 1) / u from Int.ediv_nonneg (by omega) (by omega))
      refine ⟨f, by rw [if_pos h, hf], fun c => ?_⟩
      have := hge (a - u / 2) (by omega) c
      rw [hf] at this
      omega
    · refine ⟨0, by rw [if_neg h]; rfl, fun c => ?_⟩
      have := Int.mul_nonneg (show 0 ≤ (c : Int) by omega) (show 0 ≤ u by omega)
      omega
  obtain ⟨e0, he, he2⟩ : ∃ f : Nat, (f : Int) = (if b > u / 2 then (b - u / 2 + u - 1) / u else 0) ∧ ∀ c : Nat, f ≤ c ↔ b ≤ (c : Int) * u + u / 2 := by
    by_cases h : b > u / 2
    · obtain ⟨f, hf⟩ := Int.eq_ofNat_of_zero_le (show 0 ≤ (b - u / 2 + u - 1) / u from Int.ediv_nonneg (by omega) (by omega))
      refine ⟨f, by rw [if_pos h, hf], fun c => ?_⟩
      have := hge (b - u / 2) (by omega) c
      rw [hf] at this
      omega
    · refine ⟨0, by rw [if_neg h]; rfl, fun c => ?_⟩
      have := Int.mul_nonneg (show 0 ≤ (c : Int) by omega) (show 0 ≤ u by omega)
      omega
  refine ⟨f, min e0 n, Nat.min_le_right _ _, fun c hc => ?_, fun k hk => ?_⟩
  · have h1 := hf2 c
    have h2 := he2 c
    have : c < min e0 n ↔ c < e0 := by omega
    rw [this]
    omega
  · obtain ⟨k, rfl⟩ : ∃ m, k = m + 1 := ⟨k - 1, by omega⟩
    have j : ∀ x : Int, spec_l15Cells.j0 (k + 1) b u n (u / 2) x = some (x, ((min e0 n : Nat) : Int)) := by
      intro x
      rw [spec_l15Cells.j0]
      by_cases h : b > u / 2
      · rw [if_pos h, if_neg (by omega), hq (b - u / 2) (by omega) (by omega)]
        rw [if_pos h] at he
        rw [← he]
        split
        · rw [Nat.min_eq_right (by omega)]
        · rw [Nat.min_eq_left (by omega)]
      · rw [if_neg h, if_neg (by omega)]
        rw [if_neg h] at he
        rw [Nat.min_eq_left (by omega), he]
    unfold spec_l15Cells.f
    rw [hh]
    by_cases h : a > u / 2
    · rw [if_pos h, if_neg (by omega), hq (a - u / 2) (by omega) (by omega), j]
      rw [if_pos h] at hf
      rw [hf]
    · rw [if_neg h, j]
      rw [if_neg h] at hf
      rw [hf]
end
def mk (n : Nat) (f : Nat → Int) : List Int := (List.range n).map f
theorem mk_len (n : Nat) (f : Nat → Int) : (mk n f).length = n := by simp [mk]
theorem mk_congr (n : Nat) (f g : Nat → Int) (h : ∀ p, p < n → f p = g p) : mk n f = mk n g := by
  unfold mk
  apply List.map_congr_left
  intro p hp
  exact h p (List.mem_range.1 hp)
theorem mk_set (n : Nat) (f : Nat → Int) (q : Nat) (v : Int) : (mk n f).set q v = mk n (fun p => if p = q then v else f p) := by
  apply List.ext_getElem
  · simp [mk]
  · intro i h1 h2
    simp only [mk, List.getElem_set, List.getElem_map, List.getElem_range]
    by_cases h : q = i
    · simp [h]
    · rw [if_neg h, if_neg (fun hh => h hh.symm)]
theorem pick3 (a b r c c1 : Nat) (v x : Int) (hc : c < c1) : (if a = r ∧ c + 1 ≤ b ∧ b < c1 then v else if a = r ∧ b = c then v else x) = (if a = r ∧ c ≤ b ∧ b < c1 then v else x) := by
  by_cases h : a = r ∧ c ≤ b ∧ b < c1
  · rw [if_pos h]
    by_cases h2 : b = c
    · rw [if_neg (by omega), if_pos ⟨h.1, h2⟩]
    · rw [if_pos (by omega)]
  · rw [if_neg h, if_neg (by omega), if_neg (by omega)]
theorem pick2 (a b r r1 c0 c1 : Nat) (v x : Int) (hr : r < r1) : (if (r + 1 ≤ a ∧ a < r1) ∧ (c0 ≤ b ∧ b < c1) then v else if a = r ∧ c0 ≤ b ∧ b < c1 then v else x) = (if (r ≤ a ∧ a < r1) ∧ (c0 ≤ b ∧ b < c1) then v else x) := by
  by_cases h : (r ≤ a ∧ a < r1) ∧ (c0 ≤ b ∧ b < c1)
  · rw [if_pos h]
    by_cases h2 : a = r
    · rw [if_neg (by omega), if_pos (by omega)]
    · rw [if_pos (by omega)]
  · rw [if_neg h, if_neg (by omega), if_neg (by omega)]
theorem idx_in (W H r c : Nat) (ha : r * W + c < W * H) (hal : W * H ≤ 160000) (f : Nat → Int) : (0 : Int) ≤ ((r * W + c : Nat) : Int) ∧ ((r * W + c : Nat) : Int) < ((mk (W * H) f).length : Int) ∧ wrap64 ((wrap64 ((r : Int) * (W : Int))) + (c : Int)) = ((r * W + c : Nat) : Int) := by
  rw [mk_len, ← Int.natCast_mul]
  generalize r * W = q at *
  generalize W * H = z at *
  refine ⟨by omega, by omega, ?_⟩
  rw [wrap_in (q : Int) (by omega) (by omega), wrap_in ((q : Int) + (c : Int)) (by omega) (by omega)]
  omega
theorem rows_in (W H y : Nat) (hy : y ≤ 400) (h1 : (y + 1) * W ≤ W * H) (h2 : (y + 1) * W = y * W + W) (hal : W * H ≤ 160000) (f : Nat → Int) : (0 : Int) ≤ ((y * W : Nat) : Int) ∧ ((y * W : Nat) : Int) ≤ (((y + 1) * W : Nat) : Int) ∧ (((y + 1) * W : Nat) : Int) ≤ ((mk (W * H) f).length : Int) ∧ wrap64 ((y : Int) * (W : Int)) = ((y * W : Nat) : Int) ∧ wrap64 ((wrap64 ((y : Int) + 1)) * (W : Int)) = (((y + 1) * W : Nat) : Int) ∧ wrap64 ((y : Int) + 1) = ((y + 1 : Nat) : Int) := by
  have hws : wrap64 ((y : Int) + 1) = ((y + 1 : Nat) : Int) := wrap_succ y (by omega)
  rw [hws, mk_len, ← Int.natCast_mul, ← Int.natCast_mul]
  clear hws
  refine ⟨?_, ?_, ?_, ?_, ?_, rfl⟩
  · exact Int.natCast_nonneg _
  · exact Int.ofNat_le.2 (by rw [h2]; exact Nat.le_add_right _ _)
  · exact Int.ofNat_le.2 h1
  · generalize y * W = q at *
    generalize (y + 1) * W = z at *
    generalize W * H = v at *
    exact wrap_in _ (by omega) (by omega)
  · generalize y * W = q at *
    generalize (y + 1) * W = z at *
    generalize W * H = v at *
    exact wrap_in _ (by omega) (by omega)
theorem at_rc (W r c p : Nat) (hc : c < W) : p = r * W + c ↔ p / W = r ∧ p % W = c := by
  constructor
  · rintro rfl
    rw [Nat.mul_comm]
    exact ⟨by rw [Nat.mul_add_div (by omega), Nat.div_eq_of_lt hc, Nat.add_zero], by rw [Nat.mul_add_mod, Nat.mod_eq_of_lt hc]⟩
  · rintro ⟨rfl, rfl⟩
    rw [Nat.mul_comm]
    exact (Nat.div_add_mod p W).symm
section
variable (l : List S57) (hl : l.length ≤ 20000) (hok : ∀ s ∈ l, okS s = true) (u : Int) (hu1 : 1 ≤ u) (hu2 : u ≤ 1073741823) (W H : Nat) (hW1 : 1 ≤ W) (hW2 : W ≤ 400) (hH1 : 1 ≤ H) (hH2 : H ≤ 400)
include hl hok hu1 hu2 hW1 hW2 hH1 hH2
theorem area (r c : Nat) (hr : r < H) (hc : c < W) : r * W + c < W * H := by
  have : (r + 1) * W ≤ H * W := Nat.mul_le_mul_right W (by omega)
  rw [Nat.add_mul, Nat.one_mul] at this
  rw [Nat.mul_comm W H]
  omega
theorem area_le : W * H ≤ 160000 := Nat.mul_le_mul hW2 hH2
theorem s_l3 (i r : Nat) (hr : r < H) (c0 r1 : Int) (c1 : Nat) (hc1 : c1 ≤ W) (s : S57) : ∀ d c : Nat, ∀ f : Nat → Int, c1 - c = d → ∃ n, ∀ k,
    spec_Raster.l3 (k + n) l u W H (mk (W * H) f) i c0 c1 r1 r c s.f0 s.f1 s.f2 s.f3 s.f4 s.f5 = spec_Raster.l2 k l u W H (mk (W * H) (fun p => if p / W = r ∧ c ≤ p % W ∧ p % W < c1 then shB s else f p)) i c0 c1 r1 ((r + 1 : Nat) : Int) s.f0 s.f1 s.f2 s.f3 s.f4 s.f5 := by
  have hsh : spec_l15Shows.f s.f0 s.f1 s.f2 s.f3 s.f4 s.f5 = some (shB s) := by
    unfold spec_l15Shows.f shB
    split
    · rfl
    · split
      · rfl
      · split <;> rfl
  intro d
  induction d with
  | zero =>
    intro c f hd
    refine ⟨1, fun k => ?_⟩
    rw [spec_Raster.l3, if_neg (by omega), wrap_succ r (by omega), mk_congr (W * H) f (fun p => if p / W = r ∧ c ≤ p % W ∧ p % W < c1 then shB s else f p) (fun p hp => by rw [if_neg (fun hh => by have := hh.2; omega)])]
  | succ d ih =>
    intro c f hd
    have hc : c < W := by omega
    obtain ⟨n, hn⟩ := ih (c + 1) (fun p => if p = r * W + c then shB s else f p) (by omega)
    have ha := area l hl hok u hu1 hu2 W H hW1 hW2 hH1 hH2 r c hr hc
    have hal := area_le l hl hok u hu1 hu2 W H hW1 hW2 hH1 hH2
    have hlt1 : (c : Int) < (c1 : Int) := by omega
    have hcs : wrap64 ((c : Int) + 1) = ((c + 1 : Nat) : Int) := wrap_succ c (by omega)
    have hidx0 := idx_in W H r c ha hal (fun p => f p)
    have hp0 := hidx0.1
    have hp1 := hidx0.2.1
    have hidx := hidx0.2.2
    clear hidx0
    refine ⟨n + 1, fun k => ?_⟩
    rw [show k + (n + 1) = (k + n) + 1 from rfl, spec_Raster.l3, if_pos hlt1, hsh, Option.bind_some, hidx, if_pos hp0, if_pos hp1, Int.toNat_natCast, mk_set, hcs, hn k]
    clear hidx hcs hp0 hp1
    refine congrArg (fun g => spec_Raster.l2 k l u W H g i c0 c1 r1 ((r + 1 : Nat) : Int) s.f0 s.f1 s.f2 s.f3 s.f4 s.f5) (mk_congr _ _ _ (fun p hp => ?_))
    clear ha hal hp
    have e := at_rc W r c p hc
    generalize p / W = A at e ⊢
    generalize p % W = B at e ⊢
    simp only [e]
    exact pick3 A B r c c1 (shB s) (f p) (by omega)
theorem s_l2 (i : Nat) (hi : i < l.length) (c0 c1 r1 : Nat) (hc1 : c1 ≤ W) (hr1 : r1 ≤ H) (s : S57) : ∀ d r : Nat, ∀ f : Nat → Int, r1 - r = d → ∃ n, ∀ k,
    spec_Raster.l2 (k + n) l u W H (mk (W * H) f) i c0 c1 r1 r s.f0 s.f1 s.f2 s.f3 s.f4 s.f5 = spec_Raster.l1 k l u W H (mk (W * H) (fun p => if (r ≤ p / W ∧ p / W < r1) ∧ (c0 ≤ p % W ∧ p % W < c1) then shB s else f p)) ((i + 1 : Nat) : Int) := by
  intro d
  induction d with
  | zero =>
    intro r f hd
    refine ⟨1, fun k => ?_⟩
    rw [spec_Raster.l2, if_neg (by omega), wrap_succ i (by omega), mk_congr (W * H) f (fun p => if (r ≤ p / W ∧ p / W < r1) ∧ (c0 ≤ p % W ∧ p % W < c1) then shB s else f p) (fun p hp => by rw [if_neg (fun hh => by have := hh.1; omega)])]
  | succ d ih =>
    intro r f hd
    obtain ⟨n2, hn2⟩ := s_l3 l hl hok u hu1 hu2 W H hW1 hW2 hH1 hH2 i r (by omega) c0 r1 c1 hc1 s (c1 - c0) c0 f rfl
    obtain ⟨n, hn⟩ := ih (r + 1) (fun p => if p / W = r ∧ c0 ≤ p % W ∧ p % W < c1 then shB s else f p) (by omega)
    refine ⟨n + n2 + 1, fun k => ?_⟩
    rw [show k + (n + n2 + 1) = (k + n + n2) + 1 by omega, spec_Raster.l2, if_pos (by omega), hn2 (k + n), hn k]
    refine congrArg (fun g => spec_Raster.l1 k l u W H g ((i + 1 : Nat) : Int)) (mk_congr _ _ _ (fun p hp => ?_))
    clear hp
    generalize p / W = A
    generalize p % W = B
    exact pick2 A B r r1 c0 c1 (shB s) (f p) (by omega)
theorem div_lt (p : Nat) (hp : p < W * H) : p / W < H ∧ p % W < W := ⟨Nat.div_lt_of_lt_mul hp, Nat.mod_lt _ (by omega)⟩
theorem s_l1 : ∀ d i : Nat, l.length - i = d → i ≤ l.length → ∃ n, ∀ k, 1 ≤ k →
    spec_Raster.l1 (k + n) l u W H (mk (W * H) (fun p => cv u (l.take i) (p / W) (p % W))) i = spec_Raster.l4 k W H (mk (W * H) (fun p => cv u l (p / W) (p % W))) [] 0 := by
  intro d
  induction d with
  | zero =>
    intro i hd hi
    obtain rfl : i = l.length := by omega
    refine ⟨1, fun k hk => ?_⟩
    rw [spec_Raster.l1, if_neg (by omega), List.take_length]
  | succ d ih =>
    intro i hd hi
    have hlt : i < l.length := by omega
    obtain ⟨b0, b1, b3, b4, b5⟩ := okS_at l[i] (hok _ (List.getElem_mem hlt))
    have w1 : wrap64 (l[i].f0 + l[i].f4) = l[i].f0 + l[i].f4 := wrap_in _ (by omega) (by omega)
    have w2 : wrap64 (l[i].f1 - l[i].f5) = l[i].f1 - l[i].f5 := wrap_in _ (by omega) (by omega)
    obtain ⟨n, hn⟩ := ih (i + 1) (by omega) (by omega)
    obtain ⟨c0, c1, hc1, hcc, hcf⟩ := cells_ok l hl hok u hu1 hu2 W H hW1 hW2 hH1 hH2 l[i].f0 (l[i].f0 + l[i].f4) (by omega) (by omega) W hW2
    obtain ⟨r0, r1, hr1, hrr, hrf⟩ := cells_ok l hl hok u hu1 hu2 W H hW1 hW2 hH1 hH2 (l[i].f1 - l[i].f5) l[i].f1 (by omega) (by omega) H hH2
    obtain ⟨n2, hn2⟩ := s_l2 l hl hok u hu1 hu2 W H hW1 hW2 hH1 hH2 i hlt c0 c1 r1 hc1 hr1 l[i] (r1 - r0) r0 (fun p => cv u (l.take i) (p / W) (p % W)) rfl
    refine ⟨n + n2 + 1, fun k hk => ?_⟩
    have ht : l.take (i + 1) = l.take i ++ [l[i]] := List.take_succ_eq_append_getElem hlt
    have hm : mk (W * H) (fun p => if (r0 ≤ p / W ∧ p / W < r1) ∧ (c0 ≤ p % W ∧ p % W < c1) then shB l[i] else cv u (l.take i) (p / W) (p % W)) = mk (W * H) (fun p => cv u (l.take (i + 1)) (p / W) (p % W)) := by
      refine mk_congr _ _ _ (fun p hp => ?_)
      obtain ⟨g1, g2⟩ := div_lt l hl hok u hu1 hu2 W H hW1 hW2 hH1 hH2 p hp
      have e1 := hcc (p % W) g2
      have e2 := hrr (p / W) g1
      rw [ht, cv_snoc]
      clear hn hn2 hcf hrf hcc hrr ht w1 w2
      by_cases hcov : covB u l[i] (p / W) (p % W) = true
      · rw [if_pos hcov, if_pos]
        simp only [covB, decide_eq_true_eq] at hcov
        exact ⟨e2.2 hcov.2, e1.2 hcov.1⟩
      · rw [if_neg hcov, if_neg]
        intro hh
        apply hcov
        simp only [covB, decide_eq_true_eq]
        exact ⟨e1.1 hh.2, e2.1 hh.1⟩
    have a1 : (i : Int) < (l.length : Int) := by omega
    have a2 : (0 : Int) ≤ (i : Int) := by omega
    have a3 := hcf (k + n + n2) (by omega)
    have a4 := hrf (k + n + n2) (by omega)
    have a5 := hn2 (k + n)
    have a6 := hn k hk
    rw [show k + (n + n2 + 1) = (k + n + n2) + 1 by omega, spec_Raster.l1, if_pos a1, if_pos a2, rdSpot_b l i hlt, w1, w2, a3]
    simp only [Option.bind_some]
    rw [a4]
    simp only [Option.bind_some]
    rw [a5, hm, a6]
theorem row_of (g : Nat → Nat → Int) (y : Nat) (hy : y < H) : ((mk (W * H) (fun p => g (p / W) (p % W))).take ((y + 1) * W)).drop (y * W) = (List.range W).map (fun j : Nat => g y j) := by
  have h1 : (y + 1) * W ≤ W * H := by rw [Nat.mul_comm W H]; exact Nat.mul_le_mul_right W (by omega)
  have h2 : (y + 1) * W = y * W + W := by rw [Nat.add_mul, Nat.one_mul]
  apply List.ext_getElem
  · simp [mk]; omega
  · intro j a b
    have hj : j < W := by simpa using b
    obtain ⟨e1, e2⟩ := (at_rc W y j (y * W + j) hj).1 rfl
    simp [mk, e1, e2]
theorem s_l4 (g : Nat → Nat → Int) : ∀ d y : Nat, H - y = d → y ≤ H → ∃ n, ∀ k,
    spec_Raster.l4 (k + n) W H (mk (W * H) (fun p => g (p / W) (p % W))) ((List.range y).map (fun i : Nat => strOfNums ((List.range W).map (fun j : Nat => g i j)))) y = some ((List.range H).map (fun i : Nat => strOfNums ((List.range W).map (fun j : Nat => g i j)))) := by
  intro d
  induction d with
  | zero =>
    intro y hd hy
    obtain rfl : y = H := by omega
    refine ⟨1, fun k => ?_⟩
    rw [spec_Raster.l4, if_neg (by omega)]
  | succ d ih =>
    intro y hd hy
    obtain ⟨n, hn⟩ := ih (y + 1) (by omega) (by omega)
    have hr := row_of l hl hok u hu1 hu2 W H hW1 hW2 hH1 hH2 g y (by omega)
    have hal := area_le l hl hok u hu1 hu2 W H hW1 hW2 hH1 hH2
    have h1 : (y + 1) * W ≤ W * H := by rw [Nat.mul_comm W H]; exact Nat.mul_le_mul_right W (by omega)
    have h2 : (y + 1) * W = y * W + W := by rw [Nat.add_mul, Nat.one_mul]
    have hy1 : y ≤ 400 := by omega
    have a1 : (y : Int) < (H : Int) := by omega
    have a5 : ((List.range y).map (fun i : Nat => strOfNums ((List.range W).map (fun j : Nat => g i j)))).length < 8796093022208 := by rw [List.length_map, List.length_range]; omega
    have a6 := hn
    have hee := rows_in W H y hy1 h1 h2 hal (fun p => g (p / W) (p % W))
    obtain ⟨a2, a3, a4, e1, e2, hws⟩ := hee
    refine ⟨n + 1, fun k => ?_⟩
    have a7 := a6 k
    rw [List.range_succ, List.map_append] at a7
    rw [show k + (n + 1) = (k + n) + 1 from rfl, spec_Raster.l4, if_pos a1, e1, e2, if_pos a2, if_pos a3, if_pos a4, if_pos a5, Int.toNat_natCast, Int.toNat_natCast, hr, hws]
    exact a7
theorem s_l0 (n : Nat) (hn : n ≤ 160000) : ∀ d i : Nat, n - i = d → i ≤ n → ∃ m, ∀ k,
    spec_Raster.l0 (k + m) l u W H (mk n (fun p => if p < i then 32 else 0)) i = spec_Raster.l1 k l u W H (mk n (fun _ => 32)) 0 := by
  intro d
  induction d with
  | zero =>
    intro i hd hi
    obtain rfl : i = n := by omega
    refine ⟨1, fun k => ?_⟩
    rw [spec_Raster.l0, if_neg (by rw [mk_len]; omega), mk_congr i (fun p => if p < i then 32 else 0) (fun _ => 32) (fun p hp => if_pos hp)]
  | succ d ih =>
    intro i hd hi
    obtain ⟨m, hm⟩ := ih (i + 1) (by omega) (by omega)
    refine ⟨m + 1, fun k => ?_⟩
    have e : mk n (fun p => if p = i then 32 else if p < i then 32 else 0) = mk n (fun p => if p < i + 1 then 32 else 0) := by
      refine mk_congr _ _ _ (fun p hp => ?_)
      by_cases h : p = i
      · rw [if_pos h, if_pos (by omega)]
      · rw [if_neg h]
        by_cases h2 : p < i
        · rw [if_pos h2, if_pos (by omega)]
        · rw [if_neg h2, if_neg (by omega)]
    have b1 : (i : Int) < ((mk n (fun p => if p < i then 32 else 0)).length : Int) := by rw [mk_len]; omega
    have b2 : (0 : Int) ≤ (i : Int) := by omega
    rw [show k + (m + 1) = (k + m) + 1 from rfl, spec_Raster.l0, if_pos b1, if_pos b2, Int.toNat_natCast, mk_set, e, wrap_succ i (by omega)]
    exact hm k
theorem pic : ∃ n, ∀ k, n ≤ k → spec_Raster.j0 k l u W H false = some ((List.range H).map (fun i : Nat => strOfNums ((List.range W).map (fun j : Nat => cv u l i j)))) ∧ impl_Raster.j0 k l u W H false = some ((List.range H).map (fun i : Nat => strOfNums ((List.range W).map (fun j : Nat => cv u l i j)))) := by
  obtain ⟨n1, h1⟩ := s_l0 l hl hok u hu1 hu2 W H hW1 hW2 hH1 hH2 (W * H) (area_le l hl hok u hu1 hu2 W H hW1 hW2 hH1 hH2) (W * H) 0 (by omega) (by omega)
  obtain ⟨n2, h2⟩ := s_l1 l hl hok u hu1 hu2 W H hW1 hW2 hH1 hH2 l.length 0 (by omega) (by omega)
  obtain ⟨n3, h3⟩ := s_l4 l hl hok u hu1 hu2 W H hW1 hW2 hH1 hH2 (fun r c => cv u l r c) H 0 (by omega) (by omega)
  obtain ⟨n4, h4⟩ := i_l0 l hl hok u hu1 hu2 W H hW1 hW2 hH1 hH2 H 0 (by omega) (by omega)
  have hal := area_le l hl hok u hu1 hu2 W H hW1 hW2 hH1 hH2
  have ew : wrap64 ((W : Int) * (H : Int)) = ((W * H : Nat) : Int) := by rw [← Int.natCast_mul]; exact wrap_in _ (by omega) (by omega)
  have er : List.replicate (W * H) (0 : Int) = mk (W * H) (fun p => if p < 0 then 32 else 0) := by
    apply List.ext_getElem
    · simp [mk]
    · intro i a b
      simp [mk]
  refine ⟨n1 + n2 + n3 + n4 + 2, fun k hk => ⟨?_, ?_⟩⟩
  · obtain ⟨q, rfl⟩ : ∃ q, k = (q + 1 + n3 + n2 + n1) + 1 := ⟨k - (n1 + n2 + n3 + 2), by omega⟩
    have a1 := h1 (q + 1 + n3 + n2)
    have a2 := h2 (q + 1 + n3) (by omega)
    have a3 := h3 (q + 1)
    rw [List.take_zero, show (fun p : Nat => cv u [] (p / W) (p % W)) = (fun _ : Nat => (32 : Int)) from rfl] at a2
    rw [spec_Raster.j0, if_neg (by simp), ew, if_pos (by omega), if_pos (by omega), Int.toNat_natCast, er]
    exact a1.trans (a2.trans a3)
  · obtain ⟨q, rfl⟩ : ∃ q, k = (q + n4) + 1 := ⟨k - (n4 + 1), by omega⟩
    rw [impl_Raster.j0, if_neg (by simp)]
    exact h4 q
end
theorem both (l : List S57) (hl : l.length ≤ 1048576) (a b c : Int) : ∃ r : List ByteArray, r.length ≤ 400 ∧ ∃ n, ∀ k, n ≤ k → spec_Raster.f k l a b c = some r ∧ impl_Raster.f k l a b c = some r := by
  have sj : ∀ k, spec_Raster.j0 (k + 1) l a b c true = some [] := fun k => by rw [spec_Raster.j0, if_pos rfl]
  have ij : ∀ k, impl_Raster.j0 (k + 1) l a b c true = some [] := fun k => by rw [impl_Raster.j0, if_pos rfl]
  by_cases good : (1 ≤ a ∧ a ≤ 1073741823) ∧ (1 ≤ b ∧ b ≤ 400) ∧ (1 ≤ c ∧ c ≤ 400)
  · obtain ⟨⟨g1, g2⟩, ⟨g3, g4⟩, g5, g6⟩ := good
    by_cases hp : (l.all okS && decide ((l.length : Int) ≤ 20000)) = true
    · have hp2 := hp
      simp only [Bool.and_eq_true, decide_eq_true_eq, List.all_eq_true] at hp2
      obtain ⟨W, rfl⟩ := Int.eq_ofNat_of_zero_le (show 0 ≤ b by omega)
      obtain ⟨H, rfl⟩ := Int.eq_ofNat_of_zero_le (show 0 ≤ c by omega)
      obtain ⟨n, hn⟩ := pic l (by omega) hp2.1 a g1 g2 W H (by omega) (by omega) (by omega) (by omega)
      refine ⟨(List.range H).map (fun i : Nat => strOfNums ((List.range W).map (fun j : Nat => cv a l i j))), by rw [List.length_map, List.length_range]; omega, n + l.length + 100, fun k hk => ⟨?_, ?_⟩⟩
      · unfold spec_Raster.f
        rw [page_f l hl k (by omega), hp]
        simp only [Option.bind_some, if_true]
        rw [if_neg (by omega), if_neg (by omega), if_neg (by omega), if_neg (by omega), if_neg (by omega), show decide ((H : Int) > 400) = false from decide_eq_false (by omega)]
        exact (hn k (by omega)).1
      · unfold impl_Raster.f
        rw [if_neg (by omega), if_neg (by omega), if_neg (by omega), if_neg (by omega), if_neg (by omega), if_neg (by omega), desc_one l hl k (by omega), hp]
        simp only [Option.bind_some, Bool.not_true]
        exact (hn k (by omega)).2
    · have hp' := Bool.eq_false_iff.mpr hp
      refine ⟨[], by simp, l.length + 100, fun k hk => ?_⟩
      obtain ⟨k, rfl⟩ : ∃ m, k = m + 1 := ⟨k - 1, by omega⟩
      refine ⟨?_, ?_⟩
      · unfold spec_Raster.f
        rw [page_f l hl _ (by omega), hp']
        simp only [Option.bind_some]
        rw [if_neg (by simp), sj]
      · unfold impl_Raster.f
        rw [if_neg (by omega), if_neg (by omega), if_neg (by omega), if_neg (by omega), if_neg (by omega), if_neg (by omega), desc_one l hl _ (by omega), hp']
        simp only [Option.bind_some, Bool.not_false]
        rw [ij]
  · refine ⟨[], by simp, l.length + 100, fun k hk => ?_⟩
    obtain ⟨k, rfl⟩ : ∃ m, k = m + 1 := ⟨k - 1, by omega⟩
    refine ⟨?_, ?_⟩
    · unfold spec_Raster.f
      rw [page_f l hl _ (by omega)]
      simp only [Option.bind_some, sj]
      by_cases c0 : (l.all okS && decide ((l.length : Int) ≤ 20000)) = true
      · rw [if_pos c0]
        by_cases c1 : a < 1
        · rw [if_pos c1]
        · rw [if_neg c1]
          by_cases c2 : a > 1073741823
          · rw [if_pos c2]
          · rw [if_neg c2]
            by_cases c3 : b < 1
            · rw [if_pos c3]
            · rw [if_neg c3]
              by_cases c4 : b > 400
              · rw [if_pos c4]
              · rw [if_neg c4]
                by_cases c5 : c < 1
                · rw [if_pos c5]
                · rw [if_neg c5, show decide (c > 400) = true from decide_eq_true (by omega), sj]
      · rw [if_neg c0]
    · unfold impl_Raster.f
      simp only [ij]
      by_cases c1 : a < 1
      · rw [if_pos c1]
      · rw [if_neg c1]
        by_cases c2 : a > 1073741823
        · rw [if_pos c2]
        · rw [if_neg c2]
          by_cases c3 : b < 1
          · rw [if_pos c3]
          · rw [if_neg c3]
            by_cases c4 : b > 400
            · rw [if_pos c4]
            · rw [if_neg c4]
              by_cases c5 : c < 1
              · rw [if_pos c5]
              · rw [if_neg c5, if_pos (by omega)]
theorem str_size (xs : List Int) : (strOfNums xs).size = xs.length := by
  simp [strOfNums, ByteArray.size]
theorem markText_l0 : ∀ d : Nat, ∀ (x : Int) (s : ByteArray), 0 ≤ x → x ≤ 4611686018427387904 → x < (10 : Int) ^ d → s.size + d ≤ 1000 → ∃ t, ∀ k, d < k → laws_markText.l0 k x s = some t := by
  intro d
  induction d with
  | zero =>
    intro x s h0 hm h1 hs
    have hx : x = 0 := by simp at h1; omega
    subst hx
    refine ⟨(⟨#[109]⟩ : ByteArray) ++ s, fun k hk => ?_⟩
    obtain ⟨k, rfl⟩ : ∃ m, k = m + 1 := ⟨k - 1, by omega⟩
    rw [laws_markText.l0, if_neg (by omega), if_pos (by omega)]
  | succ d ih =>
    intro x s h0 hm h1 hs
    by_cases hx : x > 0
    · have h2 : x < 10 * (10 : Int) ^ d := by rw [Int.pow_succ] at h1; omega
      have h3 : Int.tdiv x 10 = x / 10 := Int.tdiv_eq_ediv_of_nonneg h0
      obtain ⟨t, ht⟩ := ih (wrap64 (Int.tdiv x 10)) ((strOfNums [(wrap64 (48 + (Int.tmod x 10))) % 256]) ++ s) (by rw [h3]; unfold wrap64; omega) (by rw [h3]; unfold wrap64; omega) (by rw [h3]; unfold wrap64; omega) (by rw [ByteArray.size_append, str_size]; simp; omega)
      refine ⟨t, fun k hk => ?_⟩
      obtain ⟨k, rfl⟩ : ∃ m, k = m + 1 := ⟨k - 1, by omega⟩
      rw [laws_markText.l0, if_pos hx]
      simp only [Option.bind_some]
      rw [if_pos (by rw [str_size]; simp; omega)]
      exact ht k (by omega)
    · refine ⟨(⟨#[109]⟩ : ByteArray) ++ s, fun k hk => ?_⟩
      obtain ⟨k, rfl⟩ : ∃ m, k = m + 1 := ⟨k - 1, by omega⟩
      rw [laws_markText.l0, if_neg hx, if_pos (by omega)]
theorem markText_ex (q : Int) (h : q ≤ 4611686018427387904) : ∃ t, ∀ k, 30 < k → laws_markText.f k q = some t := by
  unfold laws_markText.f
  by_cases h0 : q ≤ 0
  · exact ⟨_, fun k _ => by rw [if_pos h0]⟩
  · obtain ⟨t, ht⟩ := markText_l0 30 q (⟨#[]⟩ : ByteArray) (by omega) h (by rw [show (10 : Int) ^ 30 = 1000000000000000000000000000000 from by decide]; omega) (by simp [ByteArray.size])
    exact ⟨t, fun k hk => by rw [if_neg h0]; exact ht k hk⟩
open Classical in
noncomputable def mtx (q : Int) : ByteArray := if h : q ≤ 4611686018427387904 then Classical.choose (markText_ex q h) else (⟨#[]⟩ : ByteArray)
theorem mtx_f (q : Int) (h : q ≤ 4611686018427387904) (k : Nat) (hk : 30 < k) : laws_markText.f k q = some (mtx q) := by
  unfold mtx
  rw [dif_pos h]
  exact Classical.choose_spec (markText_ex q h) k hk
theorem eqStringS_l0 (l : List ByteArray) (hl : l.length ≤ 9223372036854775806) : ∀ d k i : Nat, l.length - i = d → i ≤ l.length → d < k → laws_eqStringS.l0 k l l i = some true := by
  intro d
  induction d with
  | zero =>
    intro k i hd hi hk
    obtain ⟨k, rfl⟩ : ∃ m, k = m + 1 := ⟨k - 1, by omega⟩
    rw [laws_eqStringS.l0, if_neg (by omega)]
  | succ d ih =>
    intro k i hd hi hk
    obtain ⟨k, rfl⟩ : ∃ m, k = m + 1 := ⟨k - 1, by omega⟩
    rw [laws_eqStringS.l0, if_pos (by omega), if_pos (by omega), if_pos (by omega), if_pos rfl, wrap_succ i (by omega)]
    exact ih k (i + 1) (by omega) (by omega) (by omega)
theorem eqStringS_f (l : List ByteArray) (hl : l.length ≤ 9223372036854775806) (k : Nat) (hk : l.length < k) : laws_eqStringS.f k l l = some true := by
  unfold laws_eqStringS.f
  rw [if_pos rfl]
  exact eqStringS_l0 l hl l.length k 0 (by omega) (by omega) hk
noncomputable def mS (q0 : Int) (n : Nat) : List ByteArray := (List.range n).map (fun j : Nat => mtx (q0 + j))
theorem mS_len (q0 : Int) (n : Nat) : (mS q0 n).length = n := by simp [mS]
theorem mS_at (q0 : Int) (n j : Nat) (h : j < n) : rdOf ByteArray.empty (mS q0 n) (j : Int) = mtx (q0 + j) := by
  rw [rdOf_nat ByteArray.empty (mS q0 n) j (by rw [mS_len]; exact h)]
  simp [mS]
theorem markStringS_l0 (q0 : Int) (n : Nat) (h0 : 0 ≤ q0) (hq : q0 + n ≤ 4611686018427387000) : ∀ d k i : Nat, ∀ x : List ByteArray, n - i = d → i ≤ n → x.length = n → d + 31 < k → (∀ j : Nat, j < i → x[j]? = some (mtx (q0 + j))) →
    laws_markStringS.l0 k x (q0 + i) i = some (q0 + n, mS q0 n) := by
  intro d
  induction d with
  | zero =>
    intro k i x hd hi hx hk hj
    obtain ⟨k, rfl⟩ : ∃ m, k = m + 1 := ⟨k - 1, by omega⟩
    obtain rfl : i = n := by omega
    rw [laws_markStringS.l0, if_neg (by omega)]
    have e : x = mS q0 i := by
      apply List.ext_getElem?
      intro j
      rcases Nat.lt_or_ge j i with h | h
      · rw [hj j h]
        simp [mS, h]
      · rw [List.getElem?_eq_none (by omega), List.getElem?_eq_none (by rw [mS_len]; omega)]
    rw [e]
  | succ d ih =>
    intro k i x hd hi hx hk hj
    obtain ⟨k, rfl⟩ : ∃ m, k = m + 1 := ⟨k - 1, by omega⟩
    have hlt : i < x.length := by omega
    rw [laws_markStringS.l0, if_pos (by omega), mtx_f _ (by omega) k (by omega)]
    simp only [Option.bind_some]
    rw [if_pos (by omega), Int.toNat_natCast, wrap_succ i (by omega), show wrap64 (q0 + (i : Int) + 1) = q0 + ((i + 1 : Nat) : Int) by rw [wrap_in _ (by omega) (by omega)]; omega]
    refine ih k (i + 1) _ (by omega) (by omega) (by simpa using hx) (by omega) (fun j hlj => ?_)
    rcases Nat.lt_or_ge j i with h | h
    · rw [List.getElem?_set_ne (by omega), hj j h]
    · obtain rfl : j = i := by omega
      simp [hlt]
theorem heldStringS_l0 (q0 : Int) (n : Nat) (h0 : 0 ≤ q0) (hq : q0 + n ≤ 4611686018427387000) : ∀ d k i : Nat, n - i = d → i ≤ n → d + 31 < k →
    laws_heldStringS.l0 k (mS q0 n) (q0 + i) i = some (q0 + n) := by
  intro d
  induction d with
  | zero =>
    intro k i hd hi hk
    obtain ⟨k, rfl⟩ : ∃ m, k = m + 1 := ⟨k - 1, by omega⟩
    obtain rfl : i = n := by omega
    rw [laws_heldStringS.l0, if_neg (by rw [mS_len]; omega)]
  | succ d ih =>
    intro k i hd hi hk
    obtain ⟨k, rfl⟩ : ∃ m, k = m + 1 := ⟨k - 1, by omega⟩
    rw [laws_heldStringS.l0, if_pos (by rw [mS_len]; omega), if_pos (by omega), mtx_f _ (by omega) k (by omega)]
    simp only [Option.bind_some]
    rw [mS_at q0 n i (by omega), if_pos rfl, wrap_succ i (by omega), show wrap64 (q0 + (i : Int) + 1) = q0 + ((i + 1 : Nat) : Int) by rw [wrap_in _ (by omega) (by omega)]; omega]
    exact ih k (i + 1) (by omega) (by omega) (by omega)
theorem markStringS_f (l : List ByteArray) (q0 : Int) (h0 : 0 ≤ q0) (hq : q0 + l.length ≤ 4611686018427387000) :
    ∃ l', (∀ k, l.length + 31 < k → laws_markStringS.f k l q0 = some (q0 + l.length, l')) ∧ ∀ k, l.length + 31 < k → laws_heldStringS.f k l' q0 = some (q0 + l.length) := by
  refine ⟨mS q0 l.length, fun k hk => ?_, fun k hk => ?_⟩
  · unfold laws_markStringS.f
    simpa using markStringS_l0 q0 l.length h0 hq l.length k 0 l (by omega) (by omega) rfl hk (fun j h => by omega)
  · unfold laws_heldStringS.f
    simpa using heldStringS_l0 q0 l.length h0 hq l.length k 0 (by omega) (by omega) hk

theorem FnExactRaster : laws_FnExactRaster.Pure := by
  intro l0 a1 a2 a3 hl0 hw w1 w2 w3
  obtain ⟨r, hr, hc⟩ := szSpotS_f l0 1048576 (by omega) (by omega) hl0
  rcases hc with hc | ⟨hr0, hr1, hl⟩
  · refine ⟨0, ?_⟩
    unfold laws_FnExactRaster.f
    rw [hr]
    simp only [Option.bind_some]
    rw [if_pos hc]
  · have hl' : l0.length ≤ 1048576 := by omega
    obtain ⟨p, hp400, n, hn⟩ := both (l0.map cvSpot) (by simpa using hl') a1 a2 a3
    obtain ⟨m, hm⟩ := markSpotS_f (l0.map cvSpot) 1 (by omega) (by simp; omega)
    obtain ⟨p', hm1, hm2⟩ := markStringS_f p 1 (by omega) (by omega)
    refine ⟨n + l0.length + 1000 + 1, ?_⟩
    have hto := toSpotS_f l0 hl' (n + l0.length + 1000 + 1) (by omega)
    have hs := (hn (n + l0.length + 1000 + 1) (by omega)).1
    have hi := (hn (n + l0.length + 1000 + 1) (by omega)).2
    have he := eqStringS_f p (by omega) (n + l0.length + 1000 + 1) (by omega)
    have hes := eqSpotS_f (l0.map cvSpot) (by simp; omega) (n + l0.length + 1000 + 1) (by simp; omega)
    have hmm := hm (n + l0.length + 1000 + 1) (by simp; omega)
    unfold laws_FnExactRaster.f
    rw [hr]
    simp only [Option.bind_some]
    rw [if_neg (by omega), hto]
    simp only [Option.bind_some]
    rw [hs]
    simp only [Option.bind_some]
    rw [hi]
    simp only [Option.bind_some]
    rw [he]
    simp only [Option.bind_some, if_true]
    rw [hes]
    simp only [Option.bind_some, if_true]
    rw [hmm]
    simp only [Option.bind_some]
    rw [if_neg (by simp; omega), laws_FnExactRaster.j0, if_neg (by simp)]
    have hi' := (hn (n + l0.length + 1000) (by omega)).2
    rw [hm1 _ (by omega)]
    simp only [Option.bind_some]
    rw [hm2 _ (by omega)]
    simp only [Option.bind_some]
    rw [if_neg (by omega), if_pos trivial, toSpotS_f l0 hl' (n + l0.length + 1000) (by omega)]
    simp only [Option.bind_some]
    rw [hi']
    simp only [Option.bind_some]
    rw [eqStringS_f p (by omega) (n + l0.length + 1000) (by omega)]
    simp only [Option.bind_some, if_true]
    rw [if_neg (by omega)]

end Go.Proofs.Ytabamachefgilaa.Pure
