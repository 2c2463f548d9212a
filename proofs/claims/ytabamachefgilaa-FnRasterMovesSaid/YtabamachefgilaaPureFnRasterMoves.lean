/- The pure statement of FnRasterMoves: spots moved by one cell right and up draw the picture moved by one cell. No condition. -/
import Derived.Test.YtabamachefgilaaPFnRasterMovesx5
import Derived.Test.YtabamachefgilaaKit
namespace Go.Proofs.Ytabamachefgilaa.Pure
open Go.RowKit Go.Proofs.Ytabamachefgilaa.PFnRasterMoves Go.Proofs.Ytabamachefgilaa.Kit Go.Proofs.YtabamachefgilaaW.PrintWords Go.Proofs.YtabamachefgilaaW.PrintLast Go.Proofs.YtabamachefgilaaW.PrintMore
set_option linter.unusedVariables false
set_option linter.unusedSimpArgs false
set_option linter.unusedSectionVars false

theorem rdSpot_b (l : List S57) (i : Nat) (h : i < l.length) : rd_T57 l (i : Int) = l[i] := by simp [rd_T57, h]
def fitsB (a : Int) : Bool := decide (-1073741823 ≤ a ∧ a ≤ 1073741823)
def lenB (a : Int) : Bool := decide (0 ≤ a ∧ a ≤ 1073741823)
theorem fits_i (a : Int) : impl_oFits.f a = some (fitsB a) := by
  unfold impl_oFits.f fitsB
  split <;> simp <;> omega
theorem len_i (a : Int) : impl_oLen.f a = some (lenB a) := by
  unfold impl_oLen.f lenB
  split <;> simp <;> omega
def spotB (x y f c w h : Int) : Bool := fitsB x && fitsB y && decide (0 ≤ f ∧ f ≤ 15) && decide (-1 ≤ c ∧ c ≤ 255) && lenB w && lenB h
theorem spot_i (x y f c w h : Int) : impl_oSpotOk.f x y f c w h = some (spotB x y f c w h) := by
  simp only [impl_oSpotOk.f, fits_i, len_i, Option.bind_some, spotB]
  cases fitsB x <;> cases fitsB y <;> simp
  by_cases h1 : 0 ≤ f
  · by_cases h2 : f ≤ 15
    · by_cases h3 : -1 ≤ c
      · by_cases h4 : c ≤ 255
        · cases lenB w <;> simp [h1, h2, h3, h4]
        · simp [h1, h2, h3, h4]
      · simp [h1, h2, h3]
    · simp [h1, h2]
  · simp [h1]
def okS (x : S57) : Bool := spotB x.f0 x.f1 x.f2 x.f3 x.f4 x.f5
theorem rdL_one (l : List S57) : rd_L3 [l] 0 = l := by simp [rd_L3]
theorem desc_l1 (l : List (List S57)) (p : List S57) (hp : p.length ≤ 1048576) (n m c : Int) : ∀ e k j : Nat, p.length - j = e → j ≤ p.length →
    impl_DescOk.l1 (k + e + 1) n l m c p (p.length : Int) j = if (p.drop j).all okS = true then impl_DescOk.l0 k n l m (wrap64 (c + 1)) else some false := by
  intro e
  induction e with
  | zero =>
    intro k j hd hj
    rw [impl_DescOk.l1, if_neg (by omega), List.drop_of_length_le (by omega)]
    simp
  | succ e ih =>
    intro k j hd hj
    have hlt : j < p.length := by omega
    rw [impl_DescOk.l1, if_pos (by omega), if_pos (by omega), if_pos (by omega), spot_i, wrap_succ j (by omega), List.drop_eq_getElem_cons hlt, List.all_cons, rdSpot_b p j hlt, show k + (e + 1) = k + e + 1 from rfl, ih k (j + 1) (by omega) (by omega)]
    simp only [Option.bind_some, okS]
    by_cases hq : spotB p[j].f0 p[j].f1 p[j].f2 p[j].f3 p[j].f4 p[j].f5 = true <;> simp [hq]
theorem desc_one (l : List S57) (hl : l.length ≤ 1048576) (k : Nat) (hk : l.length + 10 < k) : impl_DescOk.f k [l] = some (l.all okS && decide ((l.length : Int) ≤ 20000)) := by
  obtain ⟨k, rfl⟩ : ∃ m, k = m + l.length + 3 := ⟨k - l.length - 3, by omega⟩
  unfold impl_DescOk.f
  rw [if_neg (by simp), show k + l.length + 3 = (k + l.length + 2) + 1 from rfl, impl_DescOk.l0, if_pos (by simp), if_pos (by omega), if_pos (by simp), rdL_one, wrap_in (0 + (l.length : Int)) (by omega) (by omega)]
  by_cases h : (l.length : Int) > 20000
  · rw [if_pos (by omega), show decide ((l.length : Int) ≤ 20000) = false from decide_eq_false (by omega)]
    simp
  · have e := desc_l1 [l] l hl (0 + (l.length : Int)) ((([l] : List (List S57)).length : Nat) : Int) 0 l.length (k + 1) 0 (by omega) (by omega)
    rw [show ((0 : Nat) : Int) = 0 from rfl, show k + 1 + l.length + 1 = k + l.length + 2 by omega] at e
    rw [if_neg (by omega), e, List.drop_zero, show decide ((l.length : Int) ≤ 20000) = true from decide_eq_true (by omega), Bool.and_true]
    by_cases hq : l.all okS = true
    · rw [if_pos hq, impl_DescOk.l0, wrap_in (0 + 1) (by omega) (by omega), if_neg (by simp), hq]
    · rw [if_neg hq, Bool.eq_false_iff.mpr hq]
def covB (u : Int) (s : S57) (r c : Nat) : Bool := decide ((s.f0 ≤ (c : Int) * u + u / 2 ∧ (c : Int) * u + u / 2 < s.f0 + s.f4) ∧ (s.f1 - s.f5 ≤ (r : Int) * u + u / 2 ∧ (r : Int) * u + u / 2 < s.f1))
def shB (s : S57) : Int := if s.f3 < 0 then 35 else if s.f3 < 33 then 63 else if s.f3 > 126 then 63 else s.f3 % 256
def cv (u : Int) (l : List S57) (r c : Nat) : Int := l.foldl (fun a s => if covB u s r c = true then shB s else a) 32
theorem cv_snoc (u : Int) (l : List S57) (s : S57) (r c : Nat) : cv u (l ++ [s]) r c = if covB u s r c = true then shB s else cv u l r c := by simp [cv]
theorem okS_at (s : S57) (h : okS s = true) : (-1073741823 ≤ s.f0 ∧ s.f0 ≤ 1073741823) ∧ (-1073741823 ≤ s.f1 ∧ s.f1 ≤ 1073741823) ∧ (-1 ≤ s.f3 ∧ s.f3 ≤ 255) ∧ (0 ≤ s.f4 ∧ s.f4 ≤ 1073741823) ∧ (0 ≤ s.f5 ∧ s.f5 ≤ 1073741823) := by
  simp only [okS, spotB, fitsB, lenB, Bool.and_eq_true, decide_eq_true_eq] at h
  omega
theorem mul_in (c : Nat) (u : Int) (hc : c ≤ 400) (h1 : 1 ≤ u) (h2 : u ≤ 1073741823) : 0 ≤ (c : Int) * u ∧ (c : Int) * u ≤ 429496729200 := by
  refine ⟨Int.mul_nonneg (by omega) (by omega), ?_⟩
  have := Int.mul_le_mul (show (c : Int) ≤ 400 by omega) h2 (by omega) (by omega)
  omega
section
variable (l : List S57) (hl : l.length ≤ 20000) (hok : ∀ s ∈ l, okS s = true) (u : Int) (hu1 : 1 ≤ u) (hu2 : u ≤ 1073741823) (W H : Nat) (hW1 : 1 ≤ W) (hW2 : W ≤ 400) (hH1 : 1 ≤ H) (hH2 : H ≤ 400)
include hl hok hu1 hu2 hW1 hW2 hH1 hH2
theorem i_l2 (acc : List ByteArray) (r c : Nat) (hr : r < H) (hc : c < W) (row : List Int) (hrow : row.length = W) : ∀ m : Nat, m ≤ l.length → ∃ n, ∀ k,
    impl_Raster.l2 (k + n) l u W acc r (row.set c 32) c ((c : Int) * u + u / 2) ((r : Int) * u + u / 2) ((m : Int) - 1) H r W c = impl_Raster.l1 k l u W acc r (row.set c (cv u (l.take m) r c)) H r W ((c + 1 : Nat) : Int) := by
  intro m
  induction m with
  | zero =>
    intro hm
    refine ⟨1, fun k => ?_⟩
    rw [impl_Raster.l2, if_neg (by omega), wrap_succ c (by omega)]
    simp [cv]
  | succ m ih =>
    intro hm
    obtain ⟨n, hn⟩ := ih (by omega)
    have hlt : m < l.length := by omega
    obtain ⟨b0, b1, b3, b4, b5⟩ := okS_at l[m] (hok _ (List.getElem_mem hlt))
    have w1 : wrap64 (l[m].f0 + l[m].f4) = l[m].f0 + l[m].f4 := wrap_in _ (by omega) (by omega)
    have w2 : wrap64 (l[m].f1 - l[m].f5) = l[m].f1 - l[m].f5 := wrap_in _ (by omega) (by omega)
    have w3 : wrap64 ((m : Int) - 1) = (m : Int) - 1 := wrap_in _ (by omega) (by omega)
    have ht : l.take (m + 1) = l.take m ++ [l[m]] := List.take_succ_eq_append_getElem hlt
    by_cases hcov : covB u l[m] r c = true
    · refine ⟨2, fun k => ?_⟩
      have hc' := hcov
      simp only [covB, decide_eq_true_eq] at hc'
      have hset : ∀ v : Int, (row.set c 32).set (c : Int).toNat v = row.set c v := by intro v; simp
      have hlen : (c : Int) < ((row.set c 32).length : Int) := by rw [List.length_set]; omega
      rw [show k + 2 = (k + 1) + 1 from rfl, show (((m + 1 : Nat) : Int) - 1) = (m : Int) by omega, impl_Raster.l2, if_pos (by omega), if_pos (by omega), if_pos (by omega), rdSpot_b l m hlt, w1, w2, ht, cv_snoc, if_pos hcov,
        if_neg (by omega), if_neg (by omega), if_neg (by omega), show decide ((r : Int) * u + u / 2 ≥ l[m].f1) = false from decide_eq_false (by omega), impl_Raster.j4, if_neg (by simp)]
      unfold shB
      by_cases d1 : l[m].f3 < 0
      · rw [if_pos d1, if_pos (by omega), if_pos hlen, hset, if_pos d1, wrap_succ c (by omega)]
      · rw [if_neg d1, if_neg d1]
        by_cases d2 : l[m].f3 < 33
        · rw [if_neg (by omega), if_pos (by omega), if_pos hlen, hset, if_pos d2, wrap_succ c (by omega)]
        · rw [if_pos (by omega), if_neg d2]
          by_cases d3 : l[m].f3 > 126
          · rw [if_neg (by omega), if_pos (by omega), if_pos hlen, hset, if_pos d3, wrap_succ c (by omega)]
          · rw [if_pos (by omega), if_pos (by omega), if_pos hlen, hset, if_neg d3, wrap_succ c (by omega)]
    · refine ⟨n + 2, fun k => ?_⟩
      have hc' := hcov
      simp only [covB, decide_eq_true_eq] at hc'
      rw [show k + (n + 2) = (k + n + 1) + 1 from rfl, show (((m + 1 : Nat) : Int) - 1) = (m : Int) by omega, impl_Raster.l2, if_pos (by omega), if_pos (by omega), if_pos (by omega), rdSpot_b l m hlt, w1, w2, ht, cv_snoc, if_neg hcov]
      have out : ∀ (a b d e f g : Int), impl_Raster.j4 (k + n + 1) l u W acc r (row.set c 32) c ((c : Int) * u + u / 2) ((r : Int) * u + u / 2) (m : Int) H r W c true a b d e f g = impl_Raster.l1 k l u W acc r (row.set c (cv u (l.take m) r c)) H r W ((c + 1 : Nat) : Int) := by
        intro a b d e f g
        rw [impl_Raster.j4, if_pos rfl, w3, hn k]
      by_cases c1 : (c : Int) * u + u / 2 < l[m].f0
      · rw [if_pos c1, out]
      · rw [if_neg c1]
        by_cases c2 : (c : Int) * u + u / 2 ≥ l[m].f0 + l[m].f4
        · rw [if_pos c2, out]
        · rw [if_neg c2]
          by_cases c3 : (r : Int) * u + u / 2 < l[m].f1 - l[m].f5
          · rw [if_pos c3, out]
          · rw [if_neg c3, show decide ((r : Int) * u + u / 2 ≥ l[m].f1) = true from decide_eq_true (by omega), out]
theorem half_wrap (c : Nat) (hc : c ≤ 400) : wrap64 ((wrap64 ((c : Int) * u)) + (wrap64 (Int.tdiv u 2))) = (c : Int) * u + u / 2 := by
  have h := mul_in c u hc hu1 hu2
  rw [Int.tdiv_eq_ediv_of_nonneg (by omega), wrap_in ((c : Int) * u) (by omega) (by omega), wrap_in (u / 2) (by omega) (by omega), wrap_in _ (by omega) (by omega)]
theorem i_l1 (acc : List ByteArray) (hacc : acc.length ≤ 1000) (r : Nat) (hr : r < H) : ∀ d c : Nat, W - c = d → c ≤ W → ∃ n, ∀ k,
    impl_Raster.l1 (k + n) l u W acc r ((List.range c).map (fun j : Nat => cv u l r j) ++ List.replicate (W - c) 0) H r W c = impl_Raster.l0 k l u W (acc ++ [strOfNums ((List.range W).map (fun j : Nat => cv u l r j))]) H ((r + 1 : Nat) : Int) := by
  intro d
  induction d with
  | zero =>
    intro c hd hc
    obtain rfl : c = W := by omega
    refine ⟨1, fun k => ?_⟩
    rw [impl_Raster.l1, if_neg (by omega), if_pos (by omega), wrap_succ r (by omega), Nat.sub_self]
    simp
  | succ d ih =>
    intro c hd hc
    obtain ⟨n, hn⟩ := ih (c + 1) (by omega) (by omega)
    obtain ⟨n2, hn2⟩ := i_l2 l hl hok u hu1 hu2 W H hW1 hW2 hH1 hH2 acc r c hr (by omega) ((List.range c).map (fun j : Nat => cv u l r j) ++ List.replicate (W - c) 0) (by simp; omega) l.length (Nat.le_refl _)
    refine ⟨n + n2 + 1, fun k => ?_⟩
    rw [show k + (n + n2 + 1) = (k + n + n2) + 1 by omega, impl_Raster.l1, if_pos (by omega), if_pos (by omega), if_pos (by simp; omega), half_wrap l hl hok u hu1 hu2 W H hW1 hW2 hH1 hH2 c (by omega), half_wrap l hl hok u hu1 hu2 W H hW1 hW2 hH1 hH2 r (by omega), wrap_in ((l.length : Int) - 1) (by omega) (by omega), Int.toNat_natCast, hn2 (k + n), List.take_length]
    have := set_step (fun j : Nat => cv u l r j) (0 : Int) W c (by omega)
    rw [this]
    exact hn k
theorem i_l0 : ∀ d r : Nat, H - r = d → r ≤ H → ∃ n, ∀ k,
    impl_Raster.l0 (k + n) l u W ((List.range r).map (fun i : Nat => strOfNums ((List.range W).map (fun j : Nat => cv u l i j)))) H r = some ((List.range H).map (fun i : Nat => strOfNums ((List.range W).map (fun j : Nat => cv u l i j)))) := by
  intro d
  induction d with
  | zero =>
    intro r hd hr
    obtain rfl : r = H := by omega
    refine ⟨1, fun k => ?_⟩
    rw [impl_Raster.l0, if_neg (by omega)]
  | succ d ih =>
    intro r hd hr
    obtain ⟨n, hn⟩ := ih (r + 1) (by omega) (by omega)
    obtain ⟨n2, hn2⟩ := i_l1 l hl hok u hu1 hu2 W H hW1 hW2 hH1 hH2 ((List.range r).map (fun i : Nat => strOfNums ((List.range W).map (fun j : Nat => cv u l i j)))) (by simp; omega) r (by omega) W 0 (by omega) (by omega)
    refine ⟨n + n2 + 1, fun k => ?_⟩
    have e := hn2 (k + n)
    simp only [List.range_zero, List.map_nil, List.nil_append, Nat.sub_zero] at e
    rw [show k + (n + n2 + 1) = (k + n + n2) + 1 by omega, impl_Raster.l0, if_pos (by omega), if_pos (by omega), if_pos (by simp; omega), Int.toNat_natCast, show (0 : Int) = ((0 : Nat) : Int) from rfl]
    have e' := hn k
    rw [List.range_succ, List.map_append] at e'
    exact e.trans e'
end
theorem str_size (xs : List Int) : (strOfNums xs).size = xs.length := by
  simp [strOfNums, ByteArray.size]
def rowsR (l : List S57) (u : Int) (W H : Nat) : List ByteArray := (List.range H).map (fun i : Nat => strOfNums ((List.range W).map (fun j : Nat => cv u l i j)))
def okR (l : List S57) (a b c : Int) : Bool := decide (1 ≤ a ∧ a ≤ 1073741823) && decide (1 ≤ b ∧ b ≤ 400) && decide (1 ≤ c ∧ c ≤ 400) && l.all okS && decide ((l.length : Int) ≤ 20000)
theorem ras_ok (l : List S57) (a b c : Int) (h : okR l a b c = true) : ∃ n, ∀ k, n ≤ k → impl_Raster.f k l a b c = some (rowsR l a b.toNat c.toNat) := by
  simp only [okR, Bool.and_eq_true, decide_eq_true_eq] at h
  obtain ⟨⟨⟨⟨⟨g1, g2⟩, g3, g4⟩, g5, g6⟩, hall⟩, hle⟩ := h
  have hall' := hall
  rw [List.all_eq_true] at hall'
  obtain ⟨W, rfl⟩ := Int.eq_ofNat_of_zero_le (show 0 ≤ b by omega)
  obtain ⟨H, rfl⟩ := Int.eq_ofNat_of_zero_le (show 0 ≤ c by omega)
  obtain ⟨n, hn⟩ := i_l0 l (by omega) hall' a g1 g2 W H (by omega) (by omega) (by omega) (by omega) H 0 (by omega) (by omega)
  refine ⟨n + l.length + 100, fun k hk => ?_⟩
  unfold impl_Raster.f
  rw [if_neg (by omega), if_neg (by omega), if_neg (by omega), if_neg (by omega), if_neg (by omega), if_neg (by omega), desc_one l (by omega) k (by omega), hall, show decide ((l.length : Int) ≤ 20000) = true from decide_eq_true hle]
  simp only [Option.bind_some, Bool.and_self, Bool.not_true]
  obtain ⟨q, rfl⟩ : ∃ q, k = (q + n) + 1 := ⟨k - (n + 1), by omega⟩
  rw [impl_Raster.j0, if_neg (by simp)]
  exact hn q
theorem ras_no (l : List S57) (hl : l.length ≤ 1048576) (a b c : Int) (h : okR l a b c = false) : ∃ n, ∀ k, n ≤ k → impl_Raster.f k l a b c = some [] := by
  have ij : ∀ k, impl_Raster.j0 (k + 1) l a b c true = some [] := fun k => by rw [impl_Raster.j0, if_pos rfl]
  refine ⟨l.length + 100, fun k hk => ?_⟩
  obtain ⟨k, rfl⟩ : ∃ m, k = m + 1 := ⟨k - 1, by omega⟩
  unfold impl_Raster.f
  simp only [ij]
  by_cases c1 : a < 1
  · rw [if_pos c1]
  · rw [if_neg c1]
    by_cases c2 : a > 1073741823
    · rw [if_pos c2]
    · rw [if_neg c2]
      by_cases c3 : b < 1
      · rw [if_pos c3]
      · rw [if_neg c3]
        by_cases c4 : b > 400
        · rw [if_pos c4]
        · rw [if_neg c4]
          by_cases c5 : c < 1
          · rw [if_pos c5]
          · rw [if_neg c5]
            by_cases c6 : c > 400
            · rw [if_pos c6]
            · rw [if_neg c6, desc_one l hl _ (by omega)]
              have hx : (l.all okS && decide ((l.length : Int) ≤ 20000)) = false := by
                rw [okR, show decide (1 ≤ a ∧ a ≤ 1073741823) = true from decide_eq_true (by omega), show decide (1 ≤ b ∧ b ≤ 400) = true from decide_eq_true (by omega), show decide (1 ≤ c ∧ c ≤ 400) = true from decide_eq_true (by omega)] at h
                simpa using h
              rw [hx]
              simp only [Option.bind_some, Bool.not_false, ij]
def mvS (u : Int) (s : S57) : S57 := ⟨wrap64 (s.f0 + u), wrap64 (s.f1 + u), s.f2, s.f3, s.f4, s.f5⟩
theorem cov_mv (u : Int) (hu1 : 1 ≤ u) (hu2 : u ≤ 1073741823) (s : S57) (h : okS s = true) (r c : Nat) : covB u (mvS u s) (r + 1) (c + 1) = covB u s r c := by
  obtain ⟨b0, b1, b3, b4, b5⟩ := okS_at s h
  have e1 : (((c + 1 : Nat) : Int)) * u = (c : Int) * u + u := by rw [Int.natCast_add, Int.add_mul]; simp
  have e2 : (((r + 1 : Nat) : Int)) * u = (r : Int) * u + u := by rw [Int.natCast_add, Int.add_mul]; simp
  unfold covB mvS
  simp only []
  rw [wrap_in (s.f0 + u) (by omega) (by omega), wrap_in (s.f1 + u) (by omega) (by omega), e1, e2]
  generalize (c : Int) * u = X
  generalize (r : Int) * u = Y
  generalize u / 2 = Z
  apply decide_eq_decide.mpr
  constructor <;> intro hh <;> omega
theorem cv_mv (u : Int) (hu1 : 1 ≤ u) (hu2 : u ≤ 1073741823) (r c : Nat) : ∀ (l : List S57) (acc : Int), (∀ s ∈ l, okS s = true) →
    (l.map (mvS u)).foldl (fun a s => if covB u s (r + 1) (c + 1) = true then shB s else a) acc = l.foldl (fun a s => if covB u s r c = true then shB s else a) acc := by
  intro l
  induction l with
  | nil => intro acc h; rfl
  | cons s l ih =>
    intro acc h
    rw [List.map_cons, List.foldl_cons, List.foldl_cons, cov_mv u hu1 hu2 s (h s (by simp)) r c]
    exact ih _ (fun t ht => h t (by simp [ht]))
theorem and_small (x : Int) (m : Nat) (h : m < 9223372036854775808) : 0 ≤ Go.bits .and .i64 x m ∧ Go.bits .and .i64 x m ≤ m := by
  have e : Go.bits .and .i64 x m = Go.IntKind.i64.wrap ((BitVec.ofInt 64 x &&& BitVec.ofInt 64 (m : Int)).toNat : Int) := rfl
  have h1 : (BitVec.ofInt 64 x &&& BitVec.ofInt 64 (m : Int)).toNat ≤ m := by
    rw [BitVec.toNat_and]
    refine Nat.le_trans Nat.and_le_right ?_
    simp
    omega
  rw [e, i64_w, wrap_in _ (by omega) (by omega)]
  omega
theorem and_255 (x : Int) : 0 ≤ Go.bits .and .i64 x 255 ∧ Go.bits .and .i64 x 255 ≤ 255 := and_small x 255 (by omega)
section
variable (l : List Int) (hl : l.length ≤ 1048576)
include hl
theorem byte_ok (p h : Int) (h0 : 0 ≤ p) (h1 : p ≤ l.length) : ∃ (v p' h' : Int), spec_l1Byte.f l p h = some (v, p', h') ∧ 0 ≤ v ∧ v ≤ 255 ∧ 0 ≤ p' ∧ p' ≤ l.length := by
  unfold spec_l1Byte.f
  by_cases hlt : p < (l.length : Int)
  · rw [if_pos hlt, if_pos h0, wrap_in (p + 1) (by omega) (by omega)]
    exact ⟨_, _, _, rfl, (and_255 _).1, (and_255 _).2, by omega, by omega⟩
  · rw [if_neg hlt]
    exact ⟨_, _, _, rfl, (and_255 _).1, (and_255 _).2, h0, h1⟩
theorem below_ok (n p h : Int) (h0 : 0 ≤ p) (h1 : p ≤ l.length) (hn : 0 < n) : ∃ v p' h', spec_l1Below.f l p h n = some (v, p', h') ∧ 0 ≤ v ∧ v < n ∧ 0 ≤ p' ∧ p' ≤ l.length := by
  unfold spec_l1Below.f
  rw [if_neg (by omega)]
  split
  · obtain ⟨v, p', h', e, a, b, c, d⟩ := byte_ok l hl p h h0 h1
    rw [e]
    simp only [Option.bind_some]
    rw [if_neg (by omega)]
    exact ⟨_, _, _, rfl, Int.tmod_nonneg _ a, Int.tmod_lt_of_pos _ hn, c, d⟩
  · obtain ⟨v1, p1, h1', e1, a1, b1, c1, d1⟩ := byte_ok l hl p h h0 h1
    obtain ⟨v2, p2, h2', e2, a2, b2, c2, d2⟩ := byte_ok l hl p1 h1' c1 d1
    obtain ⟨v3, p3, h3', e3, a3, b3, c3, d3⟩ := byte_ok l hl p2 h2' c2 d2
    obtain ⟨v4, p4, h4', e4, a4, b4, c4, d4⟩ := byte_ok l hl p3 h3' c3 d3
    rw [e1]
    simp only [Option.bind_some]
    rw [e2]
    simp only [Option.bind_some]
    rw [e3]
    simp only [Option.bind_some]
    rw [e4]
    simp only [Option.bind_some]
    rw [if_neg (by omega)]
    refine ⟨_, _, _, rfl, Int.tmod_nonneg _ ?_, Int.tmod_lt_of_pos _ hn, c4, d4⟩
    unfold wrap64
    omega
theorem once_ok (n p h : Int) (h0 : 0 ≤ p) (h1 : p ≤ l.length) (hn : 0 < n) : ∃ v p' h', spec_l1Once.f l p h n = some (v, p', h') ∧ 0 ≤ p' ∧ p' ≤ l.length := by
  obtain ⟨v, p', h', e, -, -, c, d⟩ := below_ok l hl n p h h0 h1 hn
  unfold spec_l1Once.f
  rw [e]
  exact ⟨_, _, _, rfl, c, d⟩
theorem new_l0 : ∀ d i : Nat, ∀ h : Int, l.length - i = d → i ≤ l.length → ∃ h', ∀ k, d < k → spec_l1New.l0 k l h i = some (l, 0, h') := by
  intro d
  induction d with
  | zero =>
    intro i h hd hi
    refine ⟨h, fun k hk => ?_⟩
    obtain ⟨k, rfl⟩ : ∃ m, k = m + 1 := ⟨k - 1, by omega⟩
    rw [spec_l1New.l0, if_neg (by omega)]
  | succ d ih =>
    intro i h hd hi
    obtain ⟨h', hh⟩ := ih (i + 1) (Go.bits .and .i64 (wrap64 ((wrap64 ((wrap64 (h * 137)) + (wrap64 (rd l i)))) + 11)) 1073741823) (by omega) (by omega)
    refine ⟨h', fun k hk => ?_⟩
    obtain ⟨k, rfl⟩ : ∃ m, k = m + 1 := ⟨k - 1, by omega⟩
    rw [spec_l1New.l0, if_pos (by omega), if_pos (by omega), wrap_succ i (by omega)]
    exact hh k (by omega)
theorem new_ok : ∃ h', ∀ k, l.length < k → spec_l1New.f k l = some (l, 0, h') := by
  obtain ⟨h', hh⟩ := new_l0 l hl l.length 0 (wrap64 (91237 + (l.length : Int))) (by omega) (by omega)
  exact ⟨h', fun k hk => hh k hk⟩
end
section
variable (l : List Int) (hl : l.length ≤ 1048576)
include hl
theorem size_ok (p h : Int) (h0 : 0 ≤ p) (h1 : p ≤ l.length) : ∃ v p' h', spec_l8DrawSize.f l p h = some (v, p', h') ∧ 0 ≤ p' ∧ p' ≤ l.length := by
  obtain ⟨v, p', h', e, -, -, c, d⟩ := below_ok l hl 786432 p h h0 h1 (by omega)
  unfold spec_l8DrawSize.f
  rw [e]
  exact ⟨_, _, _, rfl, c, d⟩
theorem dlen_j0 (x p h : Int) (h0 : 0 ≤ p) (h1 : p ≤ l.length) : ∃ (v p' h' : Int), (0 ≤ p' ∧ p' ≤ l.length) ∧ ∀ k, 1 ≤ k → spec_l1DrawLen.j0 k x l p h = some (v, p', h') := by
  obtain ⟨b, p1, q1, e1, c1, d1⟩ := once_ok l hl 40 p h h0 h1 (by omega)
  cases b
  · refine ⟨x, p1, q1, ⟨c1, d1⟩, fun k hk => ?_⟩
    obtain ⟨k, rfl⟩ : ∃ m, k = m + 1 := ⟨k - 1, by omega⟩
    rw [spec_l1DrawLen.j0, e1]
    simp only [Option.bind_some]
    rw [if_neg (by simp)]
  · obtain ⟨v, p2, q2, e2, a2, b2, c2, d2⟩ := below_ok l hl 6 p1 q1 c1 d1 (by omega)
    refine ⟨rd [1073741823, 1073741824, (-1073741823), (-1073741824), 4611686018427387904, (-9223372036854775808)] v, p2, q2, ⟨c2, d2⟩, fun k hk => ?_⟩
    obtain ⟨k, rfl⟩ : ∃ m, k = m + 1 := ⟨k - 1, by omega⟩
    rw [spec_l1DrawLen.j0, e1]
    simp only [Option.bind_some]
    first | rw [if_pos rfl] | rw [if_pos trivial]
    rw [e2]
    simp only [Option.bind_some]
    rw [if_pos a2, if_pos (by simp only [List.length_cons, List.length_nil]; omega)]
theorem dlen_ok (p h : Int) (h0 : 0 ≤ p) (h1 : p ≤ l.length) : ∃ (v p' h' : Int), (0 ≤ p' ∧ p' ≤ l.length) ∧ ∀ k, 1 ≤ k → spec_l1DrawLen.f k l p h = some (v, p', h') := by
  obtain ⟨v1, p1, q1, e1, a1, b1, c1, d1⟩ := below_ok l hl 1310720 p h h0 h1 (by omega)
  obtain ⟨v2, p2, q2, e2, a2, b2, c2, d2⟩ := below_ok l hl 12 p1 q1 c1 d1 (by omega)
  have go : ∀ x p h : Int, 0 ≤ p → p ≤ l.length → ∃ (v p' h' : Int), (0 ≤ p' ∧ p' ≤ l.length) ∧ ∀ k, 1 ≤ k → spec_l1DrawLen.j0 k x l p h = some (v, p', h') := fun x p h a b => dlen_j0 l hl x p h a b
  have key : ∃ (v p' h' : Int), (0 ≤ p' ∧ p' ≤ l.length) ∧ ∀ k, 1 ≤ k → (if v2 = 0 then (spec_l1DrawLen.j0 k 0 l p2 q2) else (if v2 = 1 then (spec_l1DrawLen.j0 k (wrap64 (-v1)) l p2 q2) else (if v2 = 2 then ((spec_l1Below.f l p2 q2 100).bind fun bt131 => (spec_l1DrawLen.j0 k bt131.1 l bt131.2.1 bt131.2.2)) else (if v2 = 3 then ((spec_l1Below.f l p2 q2 300).bind fun bt134 => (spec_l1DrawLen.j0 k (wrap64 (65536 * bt134.1)) l bt134.2.1 bt134.2.2)) else (if v2 = 4 then ((spec_l1Below.f l p2 q2 1073741823).bind fun bt137 => (spec_l1DrawLen.j0 k bt137.1 l bt137.2.1 bt137.2.2)) else (spec_l1DrawLen.j0 k v1 l p2 q2)))))) = some (v, p', h') := by
    by_cases t0 : v2 = 0
    · simp only [if_pos t0]; exact go _ _ _ c2 d2
    · simp only [if_neg t0]
      by_cases t1 : v2 = 1
      · simp only [if_pos t1]; exact go _ _ _ c2 d2
      · simp only [if_neg t1]
        by_cases t2 : v2 = 2
        · obtain ⟨v3, p3, q3, e3, a3, b3, c3, d3⟩ := below_ok l hl 100 p2 q2 c2 d2 (by omega)
          simp only [if_pos t2, e3, Option.bind_some]; exact go _ _ _ c3 d3
        · simp only [if_neg t2]
          by_cases t3 : v2 = 3
          · obtain ⟨v3, p3, q3, e3, a3, b3, c3, d3⟩ := below_ok l hl 300 p2 q2 c2 d2 (by omega)
            simp only [if_pos t3, e3, Option.bind_some]; exact go _ _ _ c3 d3
          · simp only [if_neg t3]
            by_cases t4 : v2 = 4
            · obtain ⟨v3, p3, q3, e3, a3, b3, c3, d3⟩ := below_ok l hl 1073741823 p2 q2 c2 d2 (by omega)
              simp only [if_pos t4, e3, Option.bind_some]; exact go _ _ _ c3 d3
            · simp only [if_neg t4]; exact go _ _ _ c2 d2
  obtain ⟨v, p', h', hb, hk⟩ := key
  refine ⟨v, p', h', hb, fun k hk1 => ?_⟩
  unfold spec_l1DrawLen.f
  rw [e1]
  simp only [Option.bind_some]
  rw [e2]
  simp only [Option.bind_some]
  exact hk k hk1
def Tot (l : List Int) (N m : Nat) (F : Nat → Option (List S57 × Int × Int)) : Prop := ∃ (r : List S57) (p' h' : Int), (r.length = m ∧ 0 ≤ p' ∧ p' ≤ (l.length : Int)) ∧ ∀ k, N ≤ k → F k = some (r, p', h')
theorem spots_j3 (n i N m : Nat) (hi : i ≤ 100) (x5 : List S57) (hx : x5.length = i) (x6 p h a b c d e f : Int) (h0 : 0 ≤ p) (h1 : p ≤ l.length)
    (ih : ∀ (y : List S57) (x6 p h : Int), y.length = i + 1 → 0 ≤ p → p ≤ l.length → Tot l N m (fun k => spec_l15DrawSpots.l0 k n y x6 ((i + 1 : Nat) : Int) l p h)) :
    Tot l (N + 2) m (fun k => spec_l15DrawSpots.j3 k n x5 x6 i l p h a b c d e f) := by
  obtain ⟨t, p1, q1, e1, c1, d1⟩ := once_ok l hl 60 p h h0 h1 (by omega)
  cases t
  · obtain ⟨r, p', h', hb, hk⟩ := ih (x5 ++ [(⟨a, b, c, d, e, f⟩ : S57)]) x6 p1 q1 (by simp [hx]) c1 d1
    refine ⟨r, p', h', hb, fun k hkk => ?_⟩
    obtain ⟨k, rfl⟩ : ∃ m, k = m + 1 := ⟨k - 1, by omega⟩
    show spec_l15DrawSpots.j3 (k + 1) n x5 x6 i l p h a b c d e f = _
    rw [spec_l15DrawSpots.j3, e1]
    simp only [Option.bind_some]
    rw [if_neg (by simp), if_pos (by omega), wrap_succ i (by omega)]
    exact hk k (by omega)
  · obtain ⟨v, p2, q2, ⟨c2, d2⟩, e2⟩ := dlen_ok l hl p1 q1 c1 d1
    obtain ⟨r, p', h', hb, hk⟩ := ih (x5 ++ [(⟨a, v, c, d, e, f⟩ : S57)]) x6 p2 q2 (by simp [hx]) c2 d2
    refine ⟨r, p', h', hb, fun k hkk => ?_⟩
    obtain ⟨k, rfl⟩ : ∃ m, k = m + 1 := ⟨k - 1, by omega⟩
    show spec_l15DrawSpots.j3 (k + 1) n x5 x6 i l p h a b c d e f = _
    rw [spec_l15DrawSpots.j3, e1]
    simp only [Option.bind_some]
    first | rw [if_pos rfl] | rw [if_pos trivial]
    rw [e2 k (by omega)]
    simp only [Option.bind_some]
    rw [if_pos (by omega), wrap_succ i (by omega)]
    exact hk k (by omega)
theorem spots_j2 (n i N m : Nat) (hi : i ≤ 100) (x5 : List S57) (hx : x5.length = i) (x6 p h a b c d e f : Int) (h0 : 0 ≤ p) (h1 : p ≤ l.length)
    (ih : ∀ (y : List S57) (x6 p h : Int), y.length = i + 1 → 0 ≤ p → p ≤ l.length → Tot l N m (fun k => spec_l15DrawSpots.l0 k n y x6 ((i + 1 : Nat) : Int) l p h)) :
    Tot l (N + 3) m (fun k => spec_l15DrawSpots.j2 k n x5 x6 i l p h a b c d e f) := by
  obtain ⟨t, p1, q1, e1, c1, d1⟩ := once_ok l hl 12 p h h0 h1 (by omega)
  cases t
  · obtain ⟨r, p', h', hb, hk⟩ := spots_j3 l hl n i N m hi x5 hx x6 p1 q1 a b c d e f c1 d1 ih
    refine ⟨r, p', h', hb, fun k hkk => ?_⟩
    obtain ⟨k, rfl⟩ : ∃ m, k = m + 1 := ⟨k - 1, by omega⟩
    show spec_l15DrawSpots.j2 (k + 1) n x5 x6 i l p h a b c d e f = _
    rw [spec_l15DrawSpots.j2, e1]
    simp only [Option.bind_some]
    rw [if_neg (by simp)]
    exact hk k (by omega)
  · obtain ⟨r, p', h', hb, hk⟩ := spots_j3 l hl n i N m hi x5 hx x6 p1 q1 (wrap64 (-a)) b c d e f c1 d1 ih
    refine ⟨r, p', h', hb, fun k hkk => ?_⟩
    obtain ⟨k, rfl⟩ : ∃ m, k = m + 1 := ⟨k - 1, by omega⟩
    show spec_l15DrawSpots.j2 (k + 1) n x5 x6 i l p h a b c d e f = _
    rw [spec_l15DrawSpots.j2, e1]
    simp only [Option.bind_some]
    first | rw [if_pos rfl] | rw [if_pos trivial]
    exact hk k (by omega)
theorem spots_j1 (n i N m : Nat) (hi : i ≤ 100) (x5 : List S57) (hx : x5.length = i) (x6 p h a b c d e f : Int) (h0 : 0 ≤ p) (h1 : p ≤ l.length)
    (ih : ∀ (y : List S57) (x6 p h : Int), y.length = i + 1 → 0 ≤ p → p ≤ l.length → Tot l N m (fun k => spec_l15DrawSpots.l0 k n y x6 ((i + 1 : Nat) : Int) l p h)) :
    Tot l (N + 4) m (fun k => spec_l15DrawSpots.j1 k n x5 x6 i l p h a b c d e f) := by
  obtain ⟨t, p1, q1, e1, c1, d1⟩ := once_ok l hl 6 p h h0 h1 (by omega)
  cases t
  · obtain ⟨r, p', h', hb, hk⟩ := spots_j2 l hl n i N m hi x5 hx x6 p1 q1 a b x6 d e f c1 d1 ih
    refine ⟨r, p', h', hb, fun k hkk => ?_⟩
    obtain ⟨k, rfl⟩ : ∃ m, k = m + 1 := ⟨k - 1, by omega⟩
    show spec_l15DrawSpots.j1 (k + 1) n x5 x6 i l p h a b c d e f = _
    rw [spec_l15DrawSpots.j1, e1]
    simp only [Option.bind_some]
    rw [if_neg (by simp)]
    exact hk k (by omega)
  · obtain ⟨r, p', h', hb, hk⟩ := spots_j2 l hl n i N m hi x5 hx x6 p1 q1 a b 0 (-1) e f c1 d1 ih
    refine ⟨r, p', h', hb, fun k hkk => ?_⟩
    obtain ⟨k, rfl⟩ : ∃ m, k = m + 1 := ⟨k - 1, by omega⟩
    show spec_l15DrawSpots.j1 (k + 1) n x5 x6 i l p h a b c d e f = _
    rw [spec_l15DrawSpots.j1, e1]
    simp only [Option.bind_some]
    first | rw [if_pos rfl] | rw [if_pos trivial]
    exact hk k (by omega)
theorem spots_j4 (n : Nat) (x5 : List S57) (hx : x5.length = n) (b : Bool) (hb : b = true → 0 < n) (p h : Int) (h0 : 0 ≤ p) (h1 : p ≤ l.length) :
    Tot l 1 n (fun k => spec_l15DrawSpots.j4 k n x5 b l p h) := by
  cases b
  · refine ⟨x5, p, h, ⟨hx, h0, h1⟩, fun k hk => ?_⟩
    obtain ⟨k, rfl⟩ : ∃ m, k = m + 1 := ⟨k - 1, by omega⟩
    show spec_l15DrawSpots.j4 (k + 1) n x5 false l p h = _
    rw [spec_l15DrawSpots.j4, if_neg (by simp)]
  · have hn := hb rfl
    obtain ⟨v1, p1, q1, e1, a1, b1, c1, d1⟩ := below_ok l hl n p h h0 h1 (by omega)
    obtain ⟨v2, p2, q2, e2, a2, b2, c2, d2⟩ := below_ok l hl 5 p1 q1 c1 d1 (by omega)
    have st : ∀ k, spec_l15DrawSpots.j4 (k + 1) n x5 true l p h = spec_l15DrawSpots.j4 (0 + 1) n x5 true l p h := fun k => by rw [spec_l15DrawSpots.j4, spec_l15DrawSpots.j4]
    suffices hs : ∃ (r : List S57) (p' h' : Int), (r.length = n ∧ 0 ≤ p' ∧ p' ≤ (l.length : Int)) ∧ spec_l15DrawSpots.j4 (0 + 1) n x5 true l p h = some (r, p', h') by
      obtain ⟨r, p', h', hh, e⟩ := hs
      refine ⟨r, p', h', hh, fun k hk => ?_⟩
      obtain ⟨k, rfl⟩ : ∃ m, k = m + 1 := ⟨k - 1, by omega⟩
      exact (st k).trans e
    rw [spec_l15DrawSpots.j4, if_pos rfl, e1]
    simp only [Option.bind_some]
    rw [if_pos a1, if_pos (by omega), e2]
    simp only [Option.bind_some]
    by_cases t0 : v2 = 0
    · obtain ⟨v3, p3, q3, e3, a3, b3, c3, d3⟩ := below_ok l hl 3 p2 q2 c2 d2 (by omega)
      rw [if_pos t0, e3]
      simp only [Option.bind_some]
      rw [if_pos a3, if_pos (by simp only [List.length_cons, List.length_nil]; omega)]
      exact ⟨_, _, _, ⟨by rw [List.length_set]; exact hx, c3, d3⟩, rfl⟩
    · rw [if_neg t0]
      by_cases t1 : v2 = 1
      · obtain ⟨v3, p3, q3, e3, a3, b3, c3, d3⟩ := below_ok l hl 3 p2 q2 c2 d2 (by omega)
        rw [if_pos t1, e3]
        simp only [Option.bind_some]
        rw [if_pos a3, if_pos (by simp only [List.length_cons, List.length_nil]; omega)]
        exact ⟨_, _, _, ⟨by rw [List.length_set]; exact hx, c3, d3⟩, rfl⟩
      · rw [if_neg t1]
        by_cases t2 : v2 = 2
        · rw [if_pos t2]
          exact ⟨_, _, _, ⟨by rw [List.length_set]; exact hx, c2, d2⟩, rfl⟩
        · rw [if_neg t2]
          by_cases t3 : v2 = 3
          · obtain ⟨v3, p3, q3, e3, a3, b3, c3, d3⟩ := below_ok l hl 2 p2 q2 c2 d2 (by omega)
            rw [if_pos t3, e3]
            simp only [Option.bind_some]
            exact ⟨_, _, _, ⟨by rw [List.length_set]; exact hx, c3, d3⟩, rfl⟩
          · rw [if_neg t3]
            by_cases t4 : v2 = 4
            · obtain ⟨v3, p3, q3, e3, a3, b3, c3, d3⟩ := below_ok l hl 2 p2 q2 c2 d2 (by omega)
              rw [if_pos t4, e3]
              simp only [Option.bind_some]
              exact ⟨_, _, _, ⟨by rw [List.length_set]; exact hx, c3, d3⟩, rfl⟩
            · rw [if_neg t4]
              exact ⟨_, _, _, ⟨hx, c2, d2⟩, rfl⟩
theorem spots_l0 (n : Nat) (hn : n ≤ 100) : ∀ d i : Nat, n - i = d → i ≤ n → ∀ (x5 : List S57) (x6 p h : Int), x5.length = i → 0 ≤ p → p ≤ l.length →
    Tot l (6 * d + 3) n (fun k => spec_l15DrawSpots.l0 k n x5 x6 (i : Int) l p h) := by
  intro d
  induction d with
  | zero =>
    intro i hd hi x5 x6 p h hx h0 h1
    obtain rfl : i = n := by omega
    obtain ⟨t, p1, q1, e1, c1, d1⟩ := once_ok l hl 20 p h h0 h1 (by omega)
    cases t
    · obtain ⟨r, p', h', hb, hk⟩ := spots_j4 l hl i x5 hx false (by simp) p1 q1 c1 d1
      refine ⟨r, p', h', hb, fun k hkk => ?_⟩
      obtain ⟨k, rfl⟩ : ∃ m, k = m + 1 := ⟨k - 1, by omega⟩
      show spec_l15DrawSpots.l0 (k + 1) i x5 x6 (i : Int) l p h = _
      rw [spec_l15DrawSpots.l0, if_neg (by omega), e1]
      simp only [Option.bind_some]
      rw [if_neg (by simp)]
      exact hk k (by omega)
    · obtain ⟨r, p', h', hb, hk⟩ := spots_j4 l hl i x5 hx (decide ((x5.length : Int) > 0)) (fun h => by have := of_decide_eq_true h; omega) p1 q1 c1 d1
      refine ⟨r, p', h', hb, fun k hkk => ?_⟩
      obtain ⟨k, rfl⟩ : ∃ m, k = m + 1 := ⟨k - 1, by omega⟩
      show spec_l15DrawSpots.l0 (k + 1) i x5 x6 (i : Int) l p h = _
      rw [spec_l15DrawSpots.l0, if_neg (by omega), e1]
      simp only [Option.bind_some]
      first | rw [if_pos rfl] | rw [if_pos trivial]
      exact hk k (by omega)
  | succ d ih =>
    intro i hd hi x5 x6 p h hx h0 h1
    have IH : ∀ (y : List S57) (x6 p h : Int), y.length = i + 1 → 0 ≤ p → p ≤ l.length → Tot l (6 * d + 3) n (fun k => spec_l15DrawSpots.l0 k n y x6 ((i + 1 : Nat) : Int) l p h) := fun y x6 p h a b c => ih (i + 1) (by omega) (by omega) y x6 p h a b c
    obtain ⟨v1, p1, q1, e1, a1, b1, c1, d1⟩ := below_ok l hl 13107200 p h h0 h1 (by omega)
    obtain ⟨v2, p2, q2, e2, a2, b2, c2, d2⟩ := below_ok l hl 6553600 p1 q1 c1 d1 (by omega)
    obtain ⟨v3, p3, q3, e3, a3, b3, c3, d3⟩ := below_ok l hl 256 p2 q2 c2 d2 (by omega)
    obtain ⟨v4, p4, q4, e4, c4, d4⟩ := size_ok l hl p3 q3 c3 d3
    obtain ⟨v5, p5, q5, e5, c5, d5⟩ := size_ok l hl p4 q4 c4 d4
    obtain ⟨t, p6, q6, e6, c6, d6⟩ := once_ok l hl 4 p5 q5 c5 d5 (by omega)
    have head : ∀ k, spec_l15DrawSpots.l0 (k + 1) n x5 x6 (i : Int) l p h = (if t = true then ((spec_l1Below.f l p6 q6 16).bind fun bt172 => (spec_l15DrawSpots.j1 k n x5 bt172.1 (i : Int) l bt172.2.1 bt172.2.2 v1 v2 0 v3 v4 v5)) else (spec_l15DrawSpots.j1 k n x5 x6 (i : Int) l p6 q6 v1 v2 0 v3 v4 v5)) := by
      intro k
      rw [spec_l15DrawSpots.l0, if_pos (by omega), e1]
      simp only [Option.bind_some]
      rw [e2]
      simp only [Option.bind_some]
      rw [e3]
      simp only [Option.bind_some]
      rw [e4]
      simp only [Option.bind_some]
      rw [e5]
      simp only [Option.bind_some]
      rw [e6]
      simp only [Option.bind_some]
    cases t
    · obtain ⟨r, p', h', hb, hk⟩ := spots_j1 l hl n i (6 * d + 3) n (by omega) x5 hx x6 p6 q6 v1 v2 0 v3 v4 v5 c6 d6 IH
      refine ⟨r, p', h', hb, fun k hkk => ?_⟩
      obtain ⟨k, rfl⟩ : ∃ m, k = m + 1 := ⟨k - 1, by omega⟩
      refine (head k).trans ?_
      rw [if_neg (by simp)]
      exact hk k (by omega)
    · obtain ⟨v7, p7, q7, e7, a7, b7, c7, d7⟩ := below_ok l hl 16 p6 q6 c6 d6 (by omega)
      obtain ⟨r, p', h', hb, hk⟩ := spots_j1 l hl n i (6 * d + 3) n (by omega) x5 hx v7 p7 q7 v1 v2 0 v3 v4 v5 c7 d7 IH
      refine ⟨r, p', h', hb, fun k hkk => ?_⟩
      obtain ⟨k, rfl⟩ : ∃ m, k = m + 1 := ⟨k - 1, by omega⟩
      refine (head k).trans ?_
      rw [if_pos rfl, e7]
      exact hk k (by omega)
theorem dr_ok : ∃ (r : List S57) (u w h : Int), r.length ≤ 100 ∧ ∃ N, ∀ k, N ≤ k → spec_DrawRaster.f k l = some (r, u, w, h) := by
  obtain ⟨q0, e0⟩ := new_ok l hl
  obtain ⟨v1, p1, q1, e1, a1, b1, c1, d1⟩ := below_ok l hl 12 0 q0 (by omega) (by omega) (by omega)
  obtain ⟨n, rfl⟩ := Int.eq_ofNat_of_zero_le a1
  obtain ⟨r, p2, q2, ⟨hr, c2, d2⟩, e2⟩ := spots_l0 l hl n (by omega) n 0 (by omega) (by omega) [] 0 p1 q1 rfl c1 d1
  obtain ⟨v3, p3, q3, e3, a3, b3, c3, d3⟩ := below_ok l hl 524288 p2 q2 c2 d2 (by omega)
  obtain ⟨v4, p4, q4, e4, a4, b4, c4, d4⟩ := below_ok l hl 40 p3 q3 c3 d3 (by omega)
  obtain ⟨v5, p5, q5, e5, a5, b5, c5, d5⟩ := below_ok l hl 20 p4 q4 c4 d4 (by omega)
  obtain ⟨t, p6, q6, e6, c6, d6⟩ := once_ok l hl 30 p5 q5 c5 d5 (by omega)
  suffices hs : ∃ (u w h : Int), ∀ k, 6 * n + l.length + 10 ≤ k → spec_DrawRaster.f k l = some (r, u, w, h) by
    obtain ⟨u, w, h, hh⟩ := hs
    exact ⟨r, u, w, h, by omega, _, hh⟩
  have head : ∀ k, 6 * n + l.length + 10 ≤ k → ∀ z, (if t = true then ((spec_l1Below.f l p6 q6 3).bind fun bt252 => (if bt252.1 = 0 then ((some (([0, 1073741823, 1073741824] : List Int) : List Int)).bind fun y255 => ((spec_l1Below.f l bt252.2.1 bt252.2.2 3).bind fun bt258 => (if 0 ≤ bt258.1 then (if bt258.1 < (y255.length : Int) then (some (r, rd y255 bt258.1, wrap64 (1 + v4), wrap64 (1 + v5))) else (none)) else (none)))) else (if bt252.1 = 1 then ((some (([0, 401, 400] : List Int) : List Int)).bind fun y262 => ((spec_l1Below.f l bt252.2.1 bt252.2.2 3).bind fun bt265 => (if 0 ≤ bt265.1 then (if bt265.1 < (y262.length : Int) then (some (r, wrap64 (1 + v3), rd y262 bt265.1, wrap64 (1 + v5))) else (none)) else (none)))) else (if bt252.1 = 2 then ((some (([0, 401, (-1)] : List Int) : List Int)).bind fun y269 => ((spec_l1Below.f l bt252.2.1 bt252.2.2 3).bind fun bt272 => (if 0 ≤ bt272.1 then (if bt272.1 < (y269.length : Int) then (some (r, wrap64 (1 + v3), wrap64 (1 + v4), rd y269 bt272.1)) else (none)) else (none)))) else (some (r, wrap64 (1 + v3), wrap64 (1 + v4), wrap64 (1 + v5))))))) else (some (r, wrap64 (1 + v3), wrap64 (1 + v4), wrap64 (1 + v5)))) = z → spec_DrawRaster.f k l = z := by
    intro k hk z hz
    unfold spec_DrawRaster.f
    rw [e0 k (by omega)]
    simp only [Option.bind_some]
    rw [e1]
    simp only [Option.bind_some]
    have e2k : spec_l15DrawSpots.f k l p1 q1 n = some (r, p2, q2) := e2 k (by omega)
    rw [e2k]
    simp only [Option.bind_some]
    rw [e3]
    simp only [Option.bind_some]
    rw [e4]
    simp only [Option.bind_some]
    rw [e5]
    simp only [Option.bind_some]
    rw [e6]
    simp only [Option.bind_some]
    exact hz
  cases t
  · exact ⟨wrap64 (1 + v3), wrap64 (1 + v4), wrap64 (1 + v5), fun k hk => head k hk _ (by rw [if_neg (by simp)])⟩
  · obtain ⟨v7, p7, q7, e7, a7, b7, c7, d7⟩ := below_ok l hl 3 p6 q6 c6 d6 (by omega)
    obtain ⟨v8, p8, q8, e8, a8, b8, c8, d8⟩ := below_ok l hl 3 p7 q7 c7 d7 (by omega)
    by_cases t0 : v7 = 0
    · refine ⟨rd [0, 1073741823, 1073741824] v8, wrap64 (1 + v4), wrap64 (1 + v5), fun k hk => head k hk _ ?_⟩
      rw [if_pos rfl, e7]
      simp only [Option.bind_some]
      rw [if_pos t0, e8]
      simp only [Option.bind_some]
      rw [if_pos a8, if_pos (by simp only [List.length_cons, List.length_nil]; omega)]
    · by_cases t1 : v7 = 1
      · refine ⟨wrap64 (1 + v3), rd [0, 401, 400] v8, wrap64 (1 + v5), fun k hk => head k hk _ ?_⟩
        rw [if_pos rfl, e7]
        simp only [Option.bind_some]
        rw [if_neg t0, if_pos t1, e8]
        simp only [Option.bind_some]
        rw [if_pos a8, if_pos (by simp only [List.length_cons, List.length_nil]; omega)]
      · refine ⟨wrap64 (1 + v3), wrap64 (1 + v4), rd [0, 401, (-1)] v8, fun k hk => head k hk _ ?_⟩
        rw [if_pos rfl, e7]
        simp only [Option.bind_some]
        rw [if_neg t0, if_neg t1, if_pos (by omega), e8]
        simp only [Option.bind_some]
        rw [if_pos a8, if_pos (by simp only [List.length_cons, List.length_nil]; omega)]
end
theorem law_l0 (p : List S57) (hp : p.length ≤ 1048576) (u w h : Int) (a : List ByteArray) : ∀ d i : Nat, p.length - i = d → i ≤ p.length → ∀ k,
    laws_FnRasterMoves.l0 (k + d + 1) p u w h a ((p.take i).map (mvS u)) i = (impl_Raster.f k (p.map (mvS u)) u w h).bind fun t326 => (if (t326.length : Int) = (a.length : Int) then (laws_FnRasterMoves.l1 k w h a t326 1) else (some ((t326.length : Int) == 0))) := by
  intro d
  induction d with
  | zero =>
    intro i hd hi k
    obtain rfl : i = p.length := by omega
    rw [Nat.add_zero, laws_FnRasterMoves.l0, if_neg (by omega), List.take_length]
  | succ d ih =>
    intro i hd hi k
    have hlt : i < p.length := by omega
    have e := ih (i + 1) (by omega) (by omega) k
    rw [List.take_succ_eq_append_getElem hlt, List.map_append] at e
    rw [show k + (d + 1) + 1 = (k + d + 1) + 1 by omega, laws_FnRasterMoves.l0, if_pos (by omega), if_pos (by omega), if_pos (by simp; omega), rdSpot_b p i hlt, wrap_succ i (by omega)]
    exact e
theorem row_at (l : List S57) (u : Int) (W H y : Nat) (h : y < H) : rdOf ByteArray.empty (rowsR l u W H) (y : Int) = strOfNums ((List.range W).map (fun j : Nat => cv u l y j)) := by
  simp [rdOf, rowsR, h]
theorem str_ext (xs : List Int) (a b : Nat) : (strOfNums xs).extract a b = strOfNums ((xs.take b).drop a) := by
  apply ByteArray.ext
  simp [strOfNums, List.map_take, List.map_drop, List.drop_take]
theorem row_eq (u : Int) (hu1 : 1 ≤ u) (hu2 : u ≤ 1073741823) (p : List S57) (hok : ∀ s ∈ p, okS s = true) (W y : Nat) (hW : 1 ≤ W) :
    (strOfNums ((List.range W).map (fun j : Nat => cv u (p.map (mvS u)) (y + 1) j))).extract 1 W = (strOfNums ((List.range W).map (fun j : Nat => cv u p y j))).extract 0 (W - 1) := by
  rw [str_ext, str_ext]
  congr 1
  apply List.ext_getElem
  · simp
  · intro i h1 h2
    simp only [List.getElem_drop, List.getElem_take, List.getElem_map, List.getElem_range, Nat.zero_add]
    rw [Nat.add_comm 1 i]
    exact cv_mv u hu1 hu2 y i p 32 hok
theorem law_l1 (u : Int) (hu1 : 1 ≤ u) (hu2 : u ≤ 1073741823) (p : List S57) (hok : ∀ s ∈ p, okS s = true) (W H : Nat) (hW : 1 ≤ W) (hW2 : W ≤ 400) (hH : 1 ≤ H) (hH2 : H ≤ 400) : ∀ d y : Nat, H - y = d → 1 ≤ y → y ≤ H → ∀ k, d < k →
    laws_FnRasterMoves.l1 k W H (rowsR p u W H) (rowsR (p.map (mvS u)) u W H) y = some true := by
  have la : ∀ q : List S57, (rowsR q u W H).length = H := fun q => by simp [rowsR]
  have sz : ∀ f : Nat → Int, (strOfNums ((List.range W).map f)).size = W := fun f => by rw [str_size]; simp
  intro d
  induction d with
  | zero =>
    intro y hd h1 hy k hk
    obtain ⟨k, rfl⟩ : ∃ m, k = m + 1 := ⟨k - 1, by omega⟩
    have e0 := row_at p u W H 0 (by omega)
    rw [show ((0 : Nat) : Int) = 0 from rfl] at e0
    rw [laws_FnRasterMoves.l1, la, if_neg (by omega), if_pos rfl, if_pos (by omega), e0, sz]
    simp
  | succ d ih =>
    intro y hd h1 hy k hk
    obtain ⟨k, rfl⟩ : ∃ m, k = m + 1 := ⟨k - 1, by omega⟩
    obtain ⟨z, rfl⟩ : ∃ z, y = z + 1 := ⟨y - 1, by omega⟩
    have ew : wrap64 (((z + 1 : Nat) : Int) - 1) = (z : Int) := by rw [wrap_in _ (by omega) (by omega)]; omega
    have ew2 : wrap64 ((W : Int) - 1) = ((W - 1 : Nat) : Int) := by rw [wrap_in _ (by omega) (by omega)]; omega
    rw [laws_FnRasterMoves.l1, ew, la, la, row_at _ u W H (z + 1) (by omega), row_at p u W H z (by omega), sz, sz, ew2, if_pos (by omega), if_pos (by omega), if_pos (by omega), if_pos (by omega), if_pos (by omega), if_pos (by omega), if_pos (by omega), if_pos (by omega),
      Int.toNat_natCast, row_eq u hu1 hu2 p hok W z hW, if_pos rfl, wrap_succ (z + 1) (by omega)]
    exact ih (z + 1 + 1) (by omega) (by omega) (by omega) k (by omega)
theorem FnRasterMoves : laws_FnRasterMoves.Pure := by
  intro l hlen hw
  by_cases big : (l.length : Int) > 1048576
  · refine ⟨0, ?_⟩
    unfold laws_FnRasterMoves.f laws_big.f
    rw [show decide ((l.length : Int) > 1048576) = true from decide_eq_true big]
    simp only [Option.bind_some]
    first | rw [if_pos rfl] | rw [if_pos trivial]
  · obtain ⟨p, u, w, h, hp, N, hN⟩ := dr_ok l (by omega)
    have hd : ∀ k, N ≤ k → laws_FnRasterMoves.f k l = ((impl_Raster.f k p u w h).bind fun t309 => (if (t309.length : Int) = 0 then ((impl_Raster.f k (([] : List (S57))) 1 1 1).bind fun t315 => (some ((t315.length : Int) == 1))) else (laws_FnRasterMoves.l0 k p u w h t309 (([] : List (S57))) 0))) := by
      intro k hk
      unfold laws_FnRasterMoves.f laws_big.f
      rw [show decide ((l.length : Int) > 1048576) = false from decide_eq_false big]
      simp only [Option.bind_some]
      rw [if_neg (by simp), hN k hk]
      simp only [Option.bind_some]
    by_cases ok1 : okR p u w h = true
    · obtain ⟨n1, r1⟩ := ras_ok p u w h ok1
      have ok1' := ok1
      simp only [okR, Bool.and_eq_true, decide_eq_true_eq, List.all_eq_true] at ok1'
      obtain ⟨⟨⟨⟨⟨g1, g2⟩, g3, g4⟩, g5, g6⟩, hall⟩, hle⟩ := ok1'
      obtain ⟨W, rfl⟩ := Int.eq_ofNat_of_zero_le (show 0 ≤ w by omega)
      obtain ⟨H, rfl⟩ := Int.eq_ofNat_of_zero_le (show 0 ≤ h by omega)
      rw [Int.toNat_natCast, Int.toNat_natCast] at r1
      have la : ∀ q : List S57, (rowsR q u W H).length = H := fun q => by simp [rowsR]
      by_cases ok2 : okR (p.map (mvS u)) u W H = true
      · obtain ⟨n2, r2⟩ := ras_ok _ u W H ok2
        rw [Int.toNat_natCast, Int.toNat_natCast] at r2
        refine ⟨N + n1 + n2 + H + p.length + 10, ?_⟩
        rw [hd _ (by omega), r1 _ (by omega)]
        simp only [Option.bind_some]
        have e := law_l0 p (by omega) u W H (rowsR p u W H) p.length 0 (by omega) (by omega) (N + n1 + n2 + H + 9)
        rw [List.take_zero, List.map_nil, r2 _ (by omega)] at e
        simp only [Option.bind_some] at e
        rw [if_neg (by rw [la]; omega), show N + n1 + n2 + H + p.length + 10 = N + n1 + n2 + H + 9 + p.length + 1 by omega]
        refine e.trans ?_
        rw [la, la, if_pos rfl]
        exact law_l1 u g1 g2 p hall W H (by omega) (by omega) (by omega) (by omega) (H - 1) 1 rfl (by omega) (by omega) _ (by omega)
      · obtain ⟨n2, r2⟩ := ras_no (p.map (mvS u)) (by rw [List.length_map]; omega) u W H (Bool.eq_false_iff.mpr ok2)
        refine ⟨N + n1 + n2 + H + p.length + 10, ?_⟩
        rw [hd _ (by omega), r1 _ (by omega)]
        simp only [Option.bind_some]
        have e := law_l0 p (by omega) u W H (rowsR p u W H) p.length 0 (by omega) (by omega) (N + n1 + n2 + H + 9)
        rw [List.take_zero, List.map_nil, r2 _ (by omega)] at e
        simp only [Option.bind_some] at e
        rw [if_neg (by rw [la]; omega), show N + n1 + n2 + H + p.length + 10 = N + n1 + n2 + H + 9 + p.length + 1 by omega]
        refine e.trans ?_
        rw [la, if_neg (by rw [List.length_nil]; omega)]
        rfl
    · obtain ⟨n1, r1⟩ := ras_no p (by omega) u w h (Bool.eq_false_iff.mpr ok1)
      obtain ⟨n2, r2⟩ := ras_ok [] 1 1 1 (by decide)
      refine ⟨N + n1 + n2, ?_⟩
      rw [hd _ (by omega), r1 _ (by omega)]
      simp only [Option.bind_some]
      rw [if_pos (by simp), r2 _ (by omega)]
      simp only [Option.bind_some]
      simp [rowsR]


end Go.Proofs.Ytabamachefgilaa.Pure
