/- The pure statement of FnExactTokenize: both sides make the same tokens. No condition. -/
import Derived.Test.YtgfifmbbjoocgaaPFnExactTokenizex8
import Derived.Test.YtgfifmbbjoocgaaKit
namespace Go.Proofs.Ytgfifmbbjoocgaa.Pure
open Go.RowKit Go.Proofs.Ytgfifmbbjoocgaa.PFnExactTokenize Go.Proofs.Ytgfifmbbjoocgaa.Kit Go.Proofs.YtgfifmbbjoocgaaW.PrintWords Go.Proofs.YtgfifmbbjoocgaaW.PrintLast Go.Proofs.YtgfifmbbjoocgaaW.PrintMore
set_option linter.unusedVariables false
set_option linter.unusedSimpArgs false

theorem toInt64S_l0 (l : List Int) (hl : l.length ≤ 1048576) : ∀ d k i : Nat, l.length - i = d → i ≤ l.length → d < k →
    laws_toInt64S.l0 k l ((List.range i).map (fun j : Nat => rd l (j : Int)) ++ List.replicate (l.length - i) 0) i = some l := by
  intro d
  induction d with
  | zero =>
    intro k i hd hi hk
    obtain ⟨k, rfl⟩ : ∃ m, k = m + 1 := ⟨k - 1, by omega⟩
    obtain rfl : i = l.length := by omega
    rw [laws_toInt64S.l0, if_neg (by omega), Nat.sub_self, map_get l (fun x => x) (fun j : Nat => rd l (j : Int)) (fun j hj => rd_nat l j hj)]
    simp
  | succ d ih =>
    intro k i hd hi hk
    obtain ⟨k, rfl⟩ : ∃ m, k = m + 1 := ⟨k - 1, by omega⟩
    rw [laws_toInt64S.l0, if_pos (by omega), if_pos (by omega), if_pos (by simp; omega), wrap_succ i (by omega), Int.toNat_natCast, set_step (fun j : Nat => rd l (j : Int)) 0 l.length i (by omega)]
    exact ih k (i + 1) (by omega) (by omega) (by omega)
theorem toInt64S_f (l : List Int) (hl : l.length ≤ 1048576) (k : Nat) (hk : l.length < k) : laws_toInt64S.f k l = some l := by
  unfold laws_toInt64S.f
  rw [if_pos (by omega), if_pos (by simp; omega), Int.toNat_natCast]
  exact toInt64S_l0 l hl l.length k 0 (by omega) (by omega) hk
theorem eqInt64S_l0 (l : List Int) (hl : l.length ≤ 9223372036854775806) : ∀ d k i : Nat, l.length - i = d → i ≤ l.length → d < k → laws_eqInt64S.l0 k l l i = some true := by
  intro d
  induction d with
  | zero =>
    intro k i hd hi hk
    obtain ⟨k, rfl⟩ : ∃ m, k = m + 1 := ⟨k - 1, by omega⟩
    rw [laws_eqInt64S.l0, if_neg (by omega)]
  | succ d ih =>
    intro k i hd hi hk
    obtain ⟨k, rfl⟩ : ∃ m, k = m + 1 := ⟨k - 1, by omega⟩
    rw [laws_eqInt64S.l0, if_pos (by omega), if_pos (by omega), if_pos (by omega), if_pos rfl, wrap_succ i (by omega)]
    exact ih k (i + 1) (by omega) (by omega) (by omega)
theorem eqInt64S_f (l : List Int) (hl : l.length ≤ 9223372036854775806) (k : Nat) (hk : l.length < k) : laws_eqInt64S.f k l l = some true := by
  unfold laws_eqInt64S.f
  rw [if_pos rfl]
  exact eqInt64S_l0 l hl l.length k 0 (by omega) (by omega) hk
theorem markInt64S_l0 (q0 : Int) (n : Nat) (h0 : 0 ≤ q0) (hq : q0 + n ≤ 4611686018427387904) : ∀ d k i : Nat, ∀ x : List Int, n - i = d → i ≤ n → x.length = n → d < k → (∀ j : Nat, j < i → rd x (j : Int) = q0 + j) →
    ∃ l', laws_markInt64S.l0 k x (q0 + i) i = some (q0 + n, l') ∧ l'.length = n ∧ ∀ j : Nat, j < n → rd l' (j : Int) = q0 + j := by
  intro d
  induction d with
  | zero =>
    intro k i x hd hi hx hk hj
    obtain ⟨k, rfl⟩ : ∃ m, k = m + 1 := ⟨k - 1, by omega⟩
    obtain rfl : i = n := by omega
    exact ⟨x, by rw [laws_markInt64S.l0, if_neg (by omega)], hx, hj⟩
  | succ d ih =>
    intro k i x hd hi hx hk hj
    obtain ⟨k, rfl⟩ : ∃ m, k = m + 1 := ⟨k - 1, by omega⟩
    rw [laws_markInt64S.l0, if_pos (by omega), if_pos (by omega), wrap_succ i (by omega), wrap_in (q0 + i + 1) (by omega) (by omega), Int.toNat_natCast, show q0 + (i : Int) + 1 = q0 + ((i + 1 : Nat) : Int) by omega]
    refine ih k (i + 1) _ (by omega) (by omega) (by simpa using hx) (by omega) (fun j hlt => ?_)
    rcases Nat.lt_or_ge j i with h | h
    · rw [← hj j h, rd_set_ne x i j _ (by omega)]
    · obtain rfl : j = i := by omega
      rw [rd_set_eq x j _ (by omega)]
theorem markInt64S_f (l : List Int) (q0 : Int) (h0 : 0 ≤ q0) (hq : q0 + l.length ≤ 4611686018427387904) :
    ∃ l', (∀ k, l.length < k → laws_markInt64S.f k l q0 = some (q0 + l.length, l')) := by
  obtain ⟨l', h1, h2, h3⟩ := markInt64S_l0 q0 l.length h0 hq l.length (l.length + 1) 0 l (by omega) (by omega) rfl (by omega) (fun j h => by omega)
  refine ⟨l', fun k hk => ?_⟩
  · obtain ⟨l2, g1, g2, g3⟩ := markInt64S_l0 q0 l.length h0 hq l.length k 0 l (by omega) (by omega) rfl hk (fun j h => by omega)
    have e : l2 = l' := by
      apply List.ext_getElem (by omega)
      intro j a b
      have e1 := g3 j (by omega)
      have e2 := h3 j (by omega)
      rw [rd_nat l2 j (by omega)] at e1
      rw [rd_nat l' j (by omega)] at e2
      rw [e1, e2]
    subst e
    unfold laws_markInt64S.f
    simpa using g1
def okc (c : Int) : Bool := !decide (c < 0) && !decide (c > 15)
def catsB (l : List Int) : Bool := l.all okc && ((l.length : Int) == 256)
theorem impl_l0 (l : List Int) (hl : l.length ≤ 1048576) : ∀ d k i : Nat, l.length - i = d → i ≤ l.length → d < k → impl_CatsOk.l0 k l l (l.length : Int) i = some ((l.drop i).all okc && ((l.length : Int) == 256)) := by
  intro d
  induction d with
  | zero =>
    intro k i hd hi hk
    obtain ⟨k, rfl⟩ : ∃ m, k = m + 1 := ⟨k - 1, by omega⟩
    rw [impl_CatsOk.l0, if_neg (by omega), List.drop_of_length_le (by omega)]
    simp
  | succ d ih =>
    intro k i hd hi hk
    obtain ⟨k, rfl⟩ : ∃ m, k = m + 1 := ⟨k - 1, by omega⟩
    rw [impl_CatsOk.l0, if_pos (by omega), if_pos (by omega), if_pos (by omega), drop_rd l i (by omega), List.all_cons]
    by_cases h1 : rd l (i : Int) < 0
    · rw [if_pos h1]; simp [okc, h1]
    · rw [if_neg h1]
      by_cases h2 : rd l (i : Int) > 15
      · rw [if_pos h2]; simp [okc, h2]
      · rw [if_neg h2, wrap_succ i (by omega), ih k (i + 1) (by omega) (by omega) (by omega)]
        have e : okc (rd l (i : Int)) = true := by simp [okc]; omega
        rw [e, Bool.true_and]
theorem spec_l0 (l : List Int) (hl : l.length = 256) : ∀ d k i : Nat, 256 - i = d → i ≤ 256 → d < k → spec_CatsOk.l0 k l i = some ((l.drop i).all okc) := by
  intro d
  induction d with
  | zero =>
    intro k i hd hi hk
    obtain ⟨k, rfl⟩ : ∃ m, k = m + 1 := ⟨k - 1, by omega⟩
    rw [spec_CatsOk.l0, if_neg (by omega), List.drop_of_length_le (by omega)]
    simp
  | succ d ih =>
    intro k i hd hi hk
    obtain ⟨k, rfl⟩ : ∃ m, k = m + 1 := ⟨k - 1, by omega⟩
    rw [spec_CatsOk.l0, if_pos (by omega), if_pos (by omega), if_pos (by omega), drop_rd l i (by omega), List.all_cons]
    by_cases h1 : rd l (i : Int) < 0
    · rw [if_pos h1]; simp [okc, h1]
    · rw [if_neg h1]
      by_cases h2 : rd l (i : Int) > 15
      · rw [if_pos h2]; simp [okc, h2]
      · rw [if_neg h2, wrap_succ i (by omega), ih k (i + 1) (by omega) (by omega) (by omega)]
        have e : okc (rd l (i : Int)) = true := by simp [okc]; omega
        rw [e, Bool.true_and]
theorem cats_i (l : List Int) (hl : l.length ≤ 1048576) (k : Nat) (hk : l.length < k) : impl_CatsOk.f k l = some (catsB l) := by
  unfold impl_CatsOk.f catsB
  simpa using impl_l0 l hl l.length k 0 (by omega) (by omega) hk
theorem cats_s (l : List Int) (k : Nat) (hk : 256 < k) : spec_CatsOk.f k l = some (catsB l) := by
  unfold spec_CatsOk.f catsB
  by_cases h : (l.length : Int) = 256
  · rw [if_pos h]
    have := spec_l0 l (by omega) 256 k 0 (by omega) (by omega) (by omega)
    rw [show ((0 : Nat) : Int) = 0 from rfl] at this
    rw [this, List.drop_zero, h]
    simp
  · rw [if_neg h]
    have : ((l.length : Int) == 256) = false := by simpa using h
    rw [this, Bool.and_false]
theorem cats_at (l : List Int) (h : catsB l = true) : l.length = 256 ∧ ∀ c : Int, 0 ≤ c → c < 256 → 0 ≤ rd l c ∧ rd l c ≤ 15 := by
  simp only [catsB, Bool.and_eq_true, beq_iff_eq] at h
  refine ⟨by omega, fun c h0 h1 => ?_⟩
  obtain ⟨n, rfl⟩ := Int.eq_ofNat_of_zero_le h0
  rw [rd_nat l n (by omega)]
  have := List.all_eq_true.1 h.1 _ (List.getElem_mem (show n < l.length by omega))
  simp only [okc, Bool.and_eq_true, Bool.not_eq_true', decide_eq_false_iff_not] at this
  omega
theorem clone_f (s : ByteArray) (h : s.size ≤ 140737488351232) : strings_Clone.f s = some s := by
  unfold strings_Clone.f stringslite_Clone.f
  rw [if_pos h]
  rfl
theorem extract_le (s : ByteArray) (a b : Nat) : (s.extract a b).size ≤ s.size := by
  rw [ByteArray.size_extract]
  omega
theorem extract_none (s : ByteArray) (a : Nat) : s.extract a a = (⟨#[]⟩ : ByteArray) := by
  apply ByteArray.ext
  apply Array.eq_empty_of_size_eq_zero
  have : (s.extract a a).size = 0 := by rw [ByteArray.size_extract]; omega
  exact this
abbrev Sc := Int × Int × Int × ByteArray × Int × Int
def okN (n i : Nat) (r : Sc) : Prop := r.1 = 1 ∧ (i : Int) ≤ r.2.2.2.2.1 ∧ r.2.2.2.2.1 ≤ n ∧ 0 ≤ r.2.2.2.2.2 ∧ r.2.2.2.2.2 ≤ 2
/-- A scan that gives a token or a bad byte goes on by one byte at least, and not past the end. -/
def good (n i : Nat) (r : Sc) : Prop := (r.1 = 0 ∨ r.1 = 1 ∨ r.1 = 2) ∧ (r.1 ≠ 0 → (i : Int) < r.2.2.2.2.1) ∧ (i : Int) ≤ r.2.2.2.2.1 ∧ r.2.2.2.2.1 ≤ n ∧ 0 ≤ r.2.2.2.2.2 ∧ r.2.2.2.2.2 ≤ 2
theorem good_mono (n i j : Nat) (r : Sc) (h : good n j r) (hij : i ≤ j) : good n i r := by
  obtain ⟨h1, h2, h3, h4, h5, h6⟩ := h
  exact ⟨h1, fun hr => by have := h2 hr; omega, by omega, h4, h5, h6⟩
theorem good_of_name (n i : Nat) (r : Sc) (h : okN n (i + 1) r) : good n i r := by
  obtain ⟨h1, h2, h3, h4, h5⟩ := h
  exact ⟨.inr (.inl h1), fun _ => by omega, by omega, h3, h4, h5⟩
theorem at_byte (x0 : List Int) (x1 : ByteArray) (hx : catsB x0 = true) (j : Nat) (hj : j < x1.size) : 0 ≤ bt x1 (j : Int) ∧ bt x1 (j : Int) < (x0.length : Int) ∧ bt x1 (j : Int) ≤ 255 := by
  have h1 := bt_range x1 (j : Int)
  have h2 := (cats_at x0 hx).1
  omega
section
variable (x0 : List Int) (x1 : ByteArray) (hx : catsB x0 = true) (hn : x1.size ≤ 65536)
include hx hn
theorem name_end (i j : Nat) (hi : i < x1.size) (hj : j ≤ x1.size) (hij : i ≤ j) : ∃ r : Sc, okN x1.size i r ∧
    (∀ k, 0 < k → spec_l2Name.j1 k x0 x1 i j 1 0 0 (⟨#[]⟩ : ByteArray) i 1 = some r) ∧ (∀ k, 0 < k → impl_Next.j3 k x0 x1 i (x1.size : Int) j = some r) := by
  obtain ⟨b0, b1, b2⟩ := at_byte x0 x1 hx i hi
  by_cases h : i < j
  · refine ⟨(1, 0, 0, x1.extract i j, j, 2), by simp [okN]; omega, fun k hk => ?_, fun k hk => ?_⟩
    · obtain ⟨k, rfl⟩ : ∃ m, k = m + 1 := ⟨k - 1, by omega⟩
      rw [spec_l2Name.j1, if_pos (by omega), if_pos (by omega), if_pos (by omega), if_pos (by omega)]
      simp
    · obtain ⟨k, rfl⟩ : ∃ m, k = m + 1 := ⟨k - 1, by omega⟩
      rw [impl_Next.j3, if_pos (by omega), if_pos (by omega), if_pos (by omega), clone_f _ (by have := extract_le x1 (i : Int).toNat (j : Int).toNat; omega)]
      simp only [Option.bind_some]
      rw [if_pos (by omega)]
      simp
  · obtain rfl : j = i := by omega
    have hw : wrap64 ((j : Int) + 1) = ((j + 1 : Nat) : Int) := wrap_succ j (by omega)
    by_cases h3 : rd x0 (bt x1 (j : Int)) = 3
    · refine ⟨(1, 0, 0, x1.extract j (j + 1), ((j + 1 : Nat) : Int), 2), by simp [okN]; omega, fun k hk => ?_, fun k hk => ?_⟩
      · obtain ⟨k, rfl⟩ : ∃ m, k = m + 1 := ⟨k - 1, by omega⟩
        rw [spec_l2Name.j1, if_neg (by omega), if_pos (by omega), if_pos (by omega), if_pos b0, if_pos b1, if_pos h3, hw, if_pos (by omega), if_pos (by omega)]
        simp
      · obtain ⟨k, rfl⟩ : ∃ m, k = m + 1 := ⟨k - 1, by omega⟩
        rw [impl_Next.j3, if_pos (by omega), if_pos (by omega), if_pos (by omega), clone_f _ (by have := extract_le x1 (j : Int).toNat (j : Int).toNat; omega)]
        simp only [Option.bind_some]
        rw [if_neg (by omega), if_pos (by omega), hw, if_pos (by omega), if_pos (by omega), clone_f _ (by have := extract_le x1 (j : Int).toNat (((j + 1 : Nat) : Int)).toNat; omega)]
        simp only [Option.bind_some]
        rw [if_pos (by omega), if_pos b0, if_pos b1, if_pos h3]
        simp
    · refine ⟨(1, 0, 0, x1.extract j (j + 1), ((j + 1 : Nat) : Int), 1), by simp [okN]; omega, fun k hk => ?_, fun k hk => ?_⟩
      · obtain ⟨k, rfl⟩ : ∃ m, k = m + 1 := ⟨k - 1, by omega⟩
        rw [spec_l2Name.j1, if_neg (by omega), if_pos (by omega), if_pos (by omega), if_pos b0, if_pos b1, if_neg h3, hw, if_pos (by omega), if_pos (by omega)]
        simp
      · obtain ⟨k, rfl⟩ : ∃ m, k = m + 1 := ⟨k - 1, by omega⟩
        rw [impl_Next.j3, if_pos (by omega), if_pos (by omega), if_pos (by omega), clone_f _ (by have := extract_le x1 (j : Int).toNat (j : Int).toNat; omega)]
        simp only [Option.bind_some]
        rw [if_neg (by omega), if_pos (by omega), hw, if_pos (by omega), if_pos (by omega), clone_f _ (by have := extract_le x1 (j : Int).toNat (((j + 1 : Nat) : Int)).toNat; omega)]
        simp only [Option.bind_some]
        rw [if_pos (by omega), if_pos b0, if_pos b1, if_neg h3]
        simp
theorem name_loop (i : Nat) (hi : i < x1.size) : ∀ d j : Nat, x1.size - j = d → j ≤ x1.size → i ≤ j → j ≤ i + 40 → ∃ r : Sc, okN x1.size i r ∧
    ∀ k, d + 1 < k → spec_l2Name.l0 k x0 x1 i (x1.size : Int) j 1 0 0 (⟨#[]⟩ : ByteArray) i 1 = some r ∧ impl_Next.l1 k x0 x1 i (x1.size : Int) j = some r := by
  intro d
  induction d with
  | zero =>
    intro j hd hj hij h40
    obtain ⟨r, hg, hs, hm⟩ := name_end x0 x1 hx hn i j hi hj hij
    refine ⟨r, hg, fun k hk => ?_⟩
    obtain ⟨k, rfl⟩ : ∃ m, k = m + 1 := ⟨k - 1, by omega⟩
    rw [spec_l2Name.l0, if_neg (by omega), impl_Next.l1, if_neg (by omega)]
    exact ⟨hs k (by omega), hm k (by omega)⟩
  | succ d ih =>
    intro j hd hj hij h40
    obtain ⟨r, hg, hs, hm⟩ := name_end x0 x1 hx hn i j hi hj hij
    have hlt : j < x1.size := by omega
    obtain ⟨b0, b1, b2⟩ := at_byte x0 x1 hx j hlt
    have e1 : wrap64 ((j : Int) - (i : Int)) = (j : Int) - (i : Int) := wrap_in _ (by omega) (by omega)
    have e2 : wrap64 ((i : Int) + 40) = (i : Int) + 40 := wrap_in _ (by omega) (by omega)
    by_cases hl : j < i + 40
    · by_cases h4 : rd x0 (bt x1 (j : Int)) = 4
      · obtain ⟨r', hg', hr'⟩ := ih (j + 1) (by omega) (by omega) (by omega) (by omega)
        refine ⟨r', hg', fun k hk => ?_⟩
        obtain ⟨k, rfl⟩ : ∃ m, k = m + 1 := ⟨k - 1, by omega⟩
        rw [spec_l2Name.l0, if_pos (by omega), e1, if_pos (by omega), if_pos (by omega), if_pos (by omega), if_pos b0, if_pos b1, if_pos h4, wrap_succ j (by omega),
          impl_Next.l1, if_pos (by omega), e2, if_pos (by omega), if_pos (by omega), if_pos (by omega), if_pos b0, if_pos b1, if_pos h4, wrap_succ j (by omega)]
        exact hr' k (by omega)
      · refine ⟨r, hg, fun k hk => ?_⟩
        obtain ⟨k, rfl⟩ : ∃ m, k = m + 1 := ⟨k - 1, by omega⟩
        rw [spec_l2Name.l0, if_pos (by omega), e1, if_pos (by omega), if_pos (by omega), if_pos (by omega), if_pos b0, if_pos b1, if_neg h4,
          impl_Next.l1, if_pos (by omega), e2, if_pos (by omega), if_pos (by omega), if_pos (by omega), if_pos b0, if_pos b1, if_neg h4]
        exact ⟨hs k (by omega), hm k (by omega)⟩
    · refine ⟨r, hg, fun k hk => ?_⟩
      obtain ⟨k, rfl⟩ : ∃ m, k = m + 1 := ⟨k - 1, by omega⟩
      rw [spec_l2Name.l0, if_pos (by omega), e1, if_neg (by omega), impl_Next.l1, if_pos (by omega), e2, if_neg (by omega)]
      exact ⟨hs k (by omega), hm k (by omega)⟩
theorem name_f (i : Nat) (hi : i ≤ x1.size) : ∃ r : Sc, okN x1.size i r ∧ ∀ k, x1.size - i + 2 < k → spec_l2Name.f k x0 x1 i = some r ∧ impl_Next.l1 k x0 x1 i (x1.size : Int) i = some r := by
  by_cases h : i < x1.size
  · obtain ⟨r, hg, hr⟩ := name_loop x0 x1 hx hn i h (x1.size - i) i rfl hi (by omega) (by omega)
    refine ⟨r, hg, fun k hk => ?_⟩
    obtain ⟨a, b⟩ := hr k (by omega)
    unfold spec_l2Name.f
    rw [if_neg (by omega)]
    exact ⟨a, b⟩
  · obtain rfl : i = x1.size := by omega
    refine ⟨(1, 0, 0, (⟨#[]⟩ : ByteArray), (x1.size : Int), 1), by simp [okN], fun k hk => ?_⟩
    obtain ⟨k, rfl⟩ : ∃ m, k = m + 2 := ⟨k - 2, by omega⟩
    unfold spec_l2Name.f
    rw [if_pos rfl, impl_Next.l1, if_neg (by omega), impl_Next.j3, if_pos (by omega), if_pos (by omega), if_pos (by omega), clone_f _ (by have := extract_le x1 (x1.size : Int).toNat (x1.size : Int).toNat; omega)]
    simp only [Option.bind_some]
    rw [if_neg (by omega), if_neg (by omega), extract_none]
    exact ⟨by trivial, rfl⟩
theorem scan_both : ∀ d : Nat,
    (∀ (i : Nat) (st : Int), x1.size - i = d → i ≤ x1.size → 0 ≤ st → st ≤ 2 → ∃ r : Sc, good x1.size i r ∧ ∀ k, 2 * d + 5 < k → spec_l2Next.l0 k x0 x1 i st (x1.size : Int) = some r ∧ impl_Next.l0 k x0 x1 i st (x1.size : Int) = some r) ∧
    (∀ i : Nat, x1.size - i = d → i ≤ x1.size → ∃ r : Sc, good x1.size i r ∧ ∀ k, 2 * d + 6 < k → spec_l2Next.l1 k x0 x1 i (x1.size : Int) = some r ∧ impl_Next.l2 k x0 x1 i (x1.size : Int) = some r) := by
  intro d
  induction d with
  | zero =>
    have hP : ∀ (i : Nat) (st : Int), x1.size - i = 0 → i ≤ x1.size → 0 ≤ st → st ≤ 2 → ∃ r : Sc, good x1.size i r ∧ ∀ k, 2 * 0 + 5 < k → spec_l2Next.l0 k x0 x1 i st (x1.size : Int) = some r ∧ impl_Next.l0 k x0 x1 i st (x1.size : Int) = some r := by
      intro i st hd hi h0 h2
      refine ⟨(0, 0, 0, (⟨#[]⟩ : ByteArray), i, st), by simp [good]; omega, fun k hk => ?_⟩
      obtain ⟨k, rfl⟩ : ∃ m, k = m + 1 := ⟨k - 1, by omega⟩
      rw [spec_l2Next.l0, if_neg (by omega), impl_Next.l0, if_neg (by omega)]
      exact ⟨rfl, rfl⟩
    refine ⟨hP, fun i hd hi => ?_⟩
    obtain ⟨r, hg, hr⟩ := hP i 0 hd hi (by omega) (by omega)
    refine ⟨r, hg, fun k hk => ?_⟩
    obtain ⟨k, rfl⟩ : ∃ m, k = m + 1 := ⟨k - 1, by omega⟩
    rw [spec_l2Next.l1, if_neg (by omega), impl_Next.l2, if_neg (by omega)]
    exact hr k (by omega)
  | succ d ih =>
    have hP : ∀ (i : Nat) (st : Int), x1.size - i = d + 1 → i ≤ x1.size → 0 ≤ st → st ≤ 2 → ∃ r : Sc, good x1.size i r ∧ ∀ k, 2 * (d + 1) + 5 < k → spec_l2Next.l0 k x0 x1 i st (x1.size : Int) = some r ∧ impl_Next.l0 k x0 x1 i st (x1.size : Int) = some r := by
      intro i st hd hi h0 h2
      have hlt : i < x1.size := by omega
      obtain ⟨b0, b1, b2⟩ := at_byte x0 x1 hx i hlt
      have hw : wrap64 ((i : Int) + 1) = ((i + 1 : Nat) : Int) := wrap_succ i (by omega)
      have hw2 : wrap64 (((i + 1 : Nat) : Int) - 1) = (i : Int) := by rw [wrap_in _ (by omega) (by omega)]; omega
      have hb : wrap64 (bt x1 (i : Int)) = bt x1 (i : Int) := wrap_in _ (by omega) (by omega)
      generalize hc : rd x0 (bt x1 (i : Int)) = c
      have fin : ∀ r : Sc, good x1.size i r → (∀ k, 2 * d + 6 < k → spec_l2Next.l0 (k + 1) x0 x1 i st (x1.size : Int) = some r ∧ impl_Next.l0 (k + 1) x0 x1 i st (x1.size : Int) = some r) → ∃ r : Sc, good x1.size i r ∧ ∀ k, 2 * (d + 1) + 5 < k → spec_l2Next.l0 k x0 x1 i st (x1.size : Int) = some r ∧ impl_Next.l0 k x0 x1 i st (x1.size : Int) = some r := by
        intro r hg h
        refine ⟨r, hg, fun k hk => ?_⟩
        obtain ⟨k, rfl⟩ : ∃ m, k = m + 1 := ⟨k - 1, by omega⟩
        exact h k (by omega)
      have go : ∀ st' : Int, 0 ≤ st' → st' ≤ 2 → ∃ r : Sc, good x1.size i r ∧ ∀ k, 2 * d + 6 < k → spec_l2Next.l0 k x0 x1 ((i + 1 : Nat) : Int) st' (x1.size : Int) = some r ∧ impl_Next.l0 k x0 x1 ((i + 1 : Nat) : Int) st' (x1.size : Int) = some r := by
        intro st' a b
        obtain ⟨r, hg, hr⟩ := ih.1 (i + 1) st' (by omega) (by omega) a b
        exact ⟨r, good_mono _ _ _ _ hg (by omega), fun k hk => hr k (by omega)⟩
      have sp : ∀ k, spec_l2Next.l0 (k + 1) x0 x1 i st (x1.size : Int) = (if c = 0 then ((spec_l2Name.f k x0 x1 ((i + 1 : Nat) : Int)).bind fun bt112 => (some (bt112.1, bt112.2.1, bt112.2.2.1, bt112.2.2.2.1, bt112.2.2.2.2.1, bt112.2.2.2.2.2)))
          else (if c = 6 then (if st = 0 then (some (1, 0, 0, (⟨#[112, 97, 114]⟩ : ByteArray), ((i + 1 : Nat) : Int), 0)) else (if st = 1 then some (1, 3, 32, (⟨#[]⟩ : ByteArray), ((i + 1 : Nat) : Int), 0) else (spec_l2Next.l0 k x0 x1 ((i + 1 : Nat) : Int) 0 (x1.size : Int))))
          else (if c = 3 then (if st = 1 then some (1, 3, 32, (⟨#[]⟩ : ByteArray), ((i + 1 : Nat) : Int), 2) else (spec_l2Next.l0 k x0 x1 ((i + 1 : Nat) : Int) st (x1.size : Int)))
          else (if c = 8 then (spec_l2Next.l1 k x0 x1 ((i + 1 : Nat) : Int) (x1.size : Int)) else (if c = 9 then (spec_l2Next.l0 k x0 x1 ((i + 1 : Nat) : Int) st (x1.size : Int)) else (if c = 15 then (some (2, 0, 0, (⟨#[]⟩ : ByteArray), ((i + 1 : Nat) : Int), st)) else some (1, c, bt x1 (i : Int), (⟨#[]⟩ : ByteArray), ((i + 1 : Nat) : Int), 1))))))) := by
        intro k
        rw [spec_l2Next.l0, if_pos (by omega), if_pos (by omega), if_pos (by omega), if_pos b0, if_pos b1, hc, hw, hw2, if_pos (show (0 : Int) ≤ (i : Int) by omega), if_pos (show (i : Int) < (x1.size : Int) by omega), hb]
        simp only [spec_l2Blank.f, Option.bind_some]
      have im : ∀ k, impl_Next.l0 (k + 1) x0 x1 i st (x1.size : Int) = (if c = 0 then (impl_Next.l1 k x0 x1 ((i + 1 : Nat) : Int) (x1.size : Int) ((i + 1 : Nat) : Int))
          else (if c = 6 then (if st = 0 then (some (1, 0, 0, (⟨#[112, 97, 114]⟩ : ByteArray), ((i + 1 : Nat) : Int), 0)) else (if st = 1 then some (1, 3, 32, (⟨#[]⟩ : ByteArray), ((i + 1 : Nat) : Int), 0) else (impl_Next.l0 k x0 x1 ((i + 1 : Nat) : Int) 0 (x1.size : Int))))
          else (if c = 3 then (if st = 1 then some (1, 3, 32, (⟨#[]⟩ : ByteArray), ((i + 1 : Nat) : Int), 2) else (impl_Next.l0 k x0 x1 ((i + 1 : Nat) : Int) st (x1.size : Int)))
          else (if c = 8 then (impl_Next.l2 k x0 x1 ((i + 1 : Nat) : Int) (x1.size : Int)) else (if c = 9 then (impl_Next.l0 k x0 x1 ((i + 1 : Nat) : Int) st (x1.size : Int)) else (if c = 15 then (some (2, 0, 0, (⟨#[]⟩ : ByteArray), ((i + 1 : Nat) : Int), st)) else some (1, c, bt x1 (i : Int), (⟨#[]⟩ : ByteArray), ((i + 1 : Nat) : Int), 1))))))) := by
        intro k
        rw [impl_Next.l0, if_pos (by omega), if_pos (by omega), if_pos (by omega), if_pos b0, if_pos b1, hc, hw]
        simp only [impl_Next_1.f, Option.bind_some, hb, wrap_in 32 (by omega) (by omega)]
      by_cases c0 : c = 0
      · obtain ⟨r, hg, hr⟩ := name_f x0 x1 hx hn (i + 1) (by omega)
        refine fin r (good_of_name _ _ _ hg) (fun k hk => ?_)
        rw [sp, im, if_pos c0, if_pos c0, (hr k (by omega)).1, (hr k (by omega)).2]
        exact ⟨rfl, rfl⟩
      by_cases c6 : c = 6
      · by_cases s0 : st = 0
        · refine fin (1, 0, 0, (⟨#[112, 97, 114]⟩ : ByteArray), ((i + 1 : Nat) : Int), 0) (by simp [good]; omega) (fun k hk => ?_)
          rw [sp, im, if_neg c0, if_neg c0, if_pos c6, if_pos c6, if_pos s0, if_pos s0]
          exact ⟨rfl, rfl⟩
        · by_cases s1 : st = 1
          · refine fin (1, 3, 32, (⟨#[]⟩ : ByteArray), ((i + 1 : Nat) : Int), 0) (by simp [good]; omega) (fun k hk => ?_)
            rw [sp, im, if_neg c0, if_neg c0, if_pos c6, if_pos c6, if_neg s0, if_neg s0, if_pos s1, if_pos s1]
            exact ⟨rfl, rfl⟩
          · obtain ⟨r, hg, hr⟩ := go 0 (by omega) (by omega)
            refine fin r hg (fun k hk => ?_)
            rw [sp, im, if_neg c0, if_neg c0, if_pos c6, if_pos c6, if_neg s0, if_neg s0, if_neg s1, if_neg s1]
            exact hr k hk
      by_cases c3 : c = 3
      · by_cases s1 : st = 1
        · refine fin (1, 3, 32, (⟨#[]⟩ : ByteArray), ((i + 1 : Nat) : Int), 2) (by simp [good]; omega) (fun k hk => ?_)
          rw [sp, im, if_neg c0, if_neg c0, if_neg c6, if_neg c6, if_pos c3, if_pos c3, if_pos s1, if_pos s1]
          exact ⟨rfl, rfl⟩
        · obtain ⟨r, hg, hr⟩ := go st h0 h2
          refine fin r hg (fun k hk => ?_)
          rw [sp, im, if_neg c0, if_neg c0, if_neg c6, if_neg c6, if_pos c3, if_pos c3, if_neg s1, if_neg s1]
          exact hr k hk
      by_cases c8 : c = 8
      · obtain ⟨r, hg, hr⟩ := ih.2 (i + 1) (by omega) (by omega)
        refine fin r (good_mono _ _ _ _ hg (by omega)) (fun k hk => ?_)
        rw [sp, im, if_neg c0, if_neg c0, if_neg c6, if_neg c6, if_neg c3, if_neg c3, if_pos c8, if_pos c8]
        exact hr k hk
      by_cases c9 : c = 9
      · obtain ⟨r, hg, hr⟩ := go st h0 h2
        refine fin r hg (fun k hk => ?_)
        rw [sp, im, if_neg c0, if_neg c0, if_neg c6, if_neg c6, if_neg c3, if_neg c3, if_neg c8, if_neg c8, if_pos c9, if_pos c9]
        exact hr k hk
      by_cases c15 : c = 15
      · refine fin (2, 0, 0, (⟨#[]⟩ : ByteArray), ((i + 1 : Nat) : Int), st) (by simp [good]; omega) (fun k hk => ?_)
        rw [sp, im, if_neg c0, if_neg c0, if_neg c6, if_neg c6, if_neg c3, if_neg c3, if_neg c8, if_neg c8, if_neg c9, if_neg c9, if_pos c15]
        exact ⟨rfl, rfl⟩
      · refine fin (1, c, bt x1 (i : Int), (⟨#[]⟩ : ByteArray), ((i + 1 : Nat) : Int), 1) (by simp [good]; omega) (fun k hk => ?_)
        rw [sp, im, if_neg c0, if_neg c0, if_neg c6, if_neg c6, if_neg c3, if_neg c3, if_neg c8, if_neg c8, if_neg c9, if_neg c9, if_neg c15]
        exact ⟨rfl, rfl⟩
    refine ⟨hP, fun i hd hi => ?_⟩
    have hlt : i < x1.size := by omega
    obtain ⟨b0, b1, b2⟩ := at_byte x0 x1 hx i hlt
    have hw : wrap64 ((i : Int) + 1) = ((i + 1 : Nat) : Int) := wrap_succ i (by omega)
    by_cases h6 : rd x0 (bt x1 (i : Int)) = 6
    · obtain ⟨r, hg, hr⟩ := ih.1 (i + 1) 0 (by omega) (by omega) (by omega) (by omega)
      refine ⟨r, good_mono _ _ _ _ hg (by omega), fun k hk => ?_⟩
      obtain ⟨k, rfl⟩ : ∃ m, k = m + 1 := ⟨k - 1, by omega⟩
      rw [spec_l2Next.l1, if_pos (by omega), if_pos (by omega), if_pos (by omega), if_pos b0, if_pos b1, if_pos h6, hw, impl_Next.l2, if_pos (by omega), if_pos (by omega), if_pos (by omega), if_pos b0, if_pos b1, if_pos h6, hw]
      exact hr k (by omega)
    · obtain ⟨r, hg, hr⟩ := ih.2 (i + 1) (by omega) (by omega)
      refine ⟨r, good_mono _ _ _ _ hg (by omega), fun k hk => ?_⟩
      obtain ⟨k, rfl⟩ : ∃ m, k = m + 1 := ⟨k - 1, by omega⟩
      rw [spec_l2Next.l1, if_pos (by omega), if_pos (by omega), if_pos (by omega), if_pos b0, if_pos b1, if_neg h6, hw, impl_Next.l2, if_pos (by omega), if_pos (by omega), if_pos (by omega), if_pos b0, if_pos b1, if_neg h6, hw]
      exact hr k (by omega)
end
theorem next_ok (l : List Int) (s : ByteArray) (hc : catsB l = true) (hn : s.size ≤ 65536) (i : Nat) (hi : i ≤ s.size) (st : Int) (h0 : 0 ≤ st) (h2 : st ≤ 2) :
    ∃ r : Sc, good s.size i r ∧ ∀ k, 2 * s.size + 300 < k → spec_l2Next.f k l s i st = some r ∧ impl_Next.f k l s i st = some r := by
  obtain ⟨r, hg, hr⟩ := (scan_both l s hc hn (s.size - i)).1 i st rfl hi h0 h2
  have hl := (cats_at l hc).1
  refine ⟨r, hg, fun k hk => ⟨?_, ?_⟩⟩
  · unfold spec_l2Next.f
    exact (hr k (by omega)).1
  · unfold impl_Next.f
    rw [cats_i l (by omega) k (by omega), hc]
    simp only [Option.bind_some, if_true]
    rw [if_neg (by omega), if_neg (by omega), if_neg (by omega), if_neg (by omega), show decide (st > 2) = false from decide_eq_false (by omega)]
    obtain ⟨k, rfl⟩ : ∃ m, k = m + 1 := ⟨k - 1, by omega⟩
    rw [impl_Next.j0, if_neg (by simp)]
    exact (hr k (by omega)).2
theorem next_no (l : List Int) (s : ByteArray) (a st : Int) (hl : l.length ≤ 1048576) (h : catsB l = false ∨ s.size > 65536) (k : Nat) (hk : l.length + 300 < k) : impl_Next.f k l s a st = some (3, 0, 0, (⟨#[]⟩ : ByteArray), 0, 0) := by
  have no : ∀ k, 0 < k → impl_Next.j0 k l s a st true = some (3, 0, 0, (⟨#[]⟩ : ByteArray), 0, 0) := by
    intro k hk
    obtain ⟨k, rfl⟩ : ∃ m, k = m + 1 := ⟨k - 1, by omega⟩
    rw [impl_Next.j0, if_pos rfl]
  unfold impl_Next.f
  rw [cats_i l hl k (by omega)]
  simp only [Option.bind_some]
  rcases h with h | h
  · rw [h, if_neg (by simp), no k (by omega)]
  · cases catsB l
    · rw [if_neg (by simp), no k (by omega)]
    · rw [if_pos rfl, if_pos (by omega), no k (by omega)]
theorem toks (l : List Int) (s : ByteArray) (hc : catsB l = true) (hn : s.size ≤ 65536) : ∀ d i : Nat, ∀ (st : Int) (acc : List S42), s.size - i ≤ d → i ≤ s.size → 0 ≤ st → st ≤ 2 → acc.length + d ≤ 100000 →
    ∃ r : List S42 × Int, r.1.length ≤ acc.length + d ∧ (∀ k, 2 * s.size + d + 301 < k → (∀ (a b c : Int) (e : ByteArray), spec_Tokenize.l0 k l s acc a b c e i st = some r) ∧ impl_Tokenize.l0 k l s acc i st = some r) := by
  intro d
  induction d with
  | zero =>
    intro i st acc hd hi h0 h2 hl
    obtain ⟨r, hg, hr⟩ := next_ok l s hc hn i hi st h0 h2
    obtain ⟨g1, g2, g3, g4, g5, g6⟩ := hg
    have e : r.1 = 0 := by
      rcases g1 with g | g | g
      · exact g
      · have := g2 (by omega); omega
      · have := g2 (by omega); omega
    refine ⟨(acc, -1), by simp, fun k hk => ?_⟩
    obtain ⟨k, rfl⟩ : ∃ m, k = m + 1 := ⟨k - 1, by omega⟩
    refine ⟨fun a b c e' => ?_, ?_⟩
    · rw [spec_Tokenize.l0, (hr k (by omega)).1]
      simp only [Option.bind_some]
      rw [if_pos e]
    · rw [impl_Tokenize.l0, (hr k (by omega)).2]
      simp only [Option.bind_some]
      rw [if_neg (by omega), if_pos e]
  | succ d ih =>
    intro i st acc hd hi h0 h2 hl
    obtain ⟨r, hg, hr⟩ := next_ok l s hc hn i hi st h0 h2
    obtain ⟨g1, g2, g3, g4, g5, g6⟩ := hg
    rcases g1 with e | e | e
    · refine ⟨(acc, -1), by simp, fun k hk => ?_⟩
      obtain ⟨k, rfl⟩ : ∃ m, k = m + 1 := ⟨k - 1, by omega⟩
      refine ⟨fun a b c e' => ?_, ?_⟩
      · rw [spec_Tokenize.l0, (hr k (by omega)).1]
        simp only [Option.bind_some]
        rw [if_pos e]
      · rw [impl_Tokenize.l0, (hr k (by omega)).2]
        simp only [Option.bind_some]
        rw [if_neg (by omega), if_pos e]
    · have g2' := g2 (by omega)
      obtain ⟨j, hj⟩ := Int.eq_ofNat_of_zero_le (show 0 ≤ r.2.2.2.2.1 by omega)
      obtain ⟨r', hlen, hr'⟩ := ih j r.2.2.2.2.2 (acc ++ [(⟨r.2.1, r.2.2.1, r.2.2.2.1⟩ : S42)]) (by omega) (by omega) g5 g6 (by simp; omega)
      refine ⟨r', by simp at hlen; omega, fun k hk => ?_⟩
      obtain ⟨k, rfl⟩ : ∃ m, k = m + 1 := ⟨k - 1, by omega⟩
      refine ⟨fun a b c e' => ?_, ?_⟩
      · rw [spec_Tokenize.l0, (hr k (by omega)).1]
        simp only [Option.bind_some]
        rw [if_neg (by omega), if_neg (by omega), if_pos (by omega), hj]
        exact (hr' k (by omega)).1 _ _ _ _
      · rw [impl_Tokenize.l0, (hr k (by omega)).2]
        simp only [Option.bind_some]
        rw [if_neg (by omega), if_neg (by omega), if_neg (by omega), if_pos (by omega), hj]
        exact (hr' k (by omega)).2
    · refine ⟨(acc, wrap64 (r.2.2.2.2.1 - 1)), by simp, fun k hk => ?_⟩
      obtain ⟨k, rfl⟩ : ∃ m, k = m + 1 := ⟨k - 1, by omega⟩
      refine ⟨fun a b c e' => ?_, ?_⟩
      · rw [spec_Tokenize.l0, (hr k (by omega)).1]
        simp only [Option.bind_some]
        rw [if_neg (by omega), if_pos e]
      · rw [impl_Tokenize.l0, (hr k (by omega)).2]
        simp only [Option.bind_some]
        rw [if_neg (by omega), if_neg (by omega), if_pos e]
theorem tokenize_both (l : List Int) (hl : l.length ≤ 1048576) (s : ByteArray) : ∃ r : List S42 × Int, r.1.length ≤ 70000 ∧ ∀ k, l.length + 3 * s.size + 400 < k → spec_Tokenize.f k l s = some r ∧ impl_Tokenize.f k l s = some r := by
  have no : ∀ k, 0 < k → spec_Tokenize.j0 k l s ([] : List S42) true = some ([], -2) := by
    intro k hk
    obtain ⟨k, rfl⟩ : ∃ m, k = m + 1 := ⟨k - 1, by omega⟩
    rw [spec_Tokenize.j0, if_pos rfl]
  by_cases hb : catsB l = true ∧ s.size ≤ 65536
  · obtain ⟨hc, hn⟩ := hb
    obtain ⟨r, hlen, hr⟩ := toks l s hc hn s.size 0 0 [] (by omega) (by omega) (by omega) (by omega) (by simp; omega)
    refine ⟨r, by simp at hlen; omega, fun k hk => ⟨?_, ?_⟩⟩
    · unfold spec_Tokenize.f
      rw [cats_s l k (by omega), hc]
      simp only [Option.bind_some, if_true]
      rw [show decide ((s.size : Int) > 65536) = false from decide_eq_false (by omega)]
      obtain ⟨k, rfl⟩ : ∃ m, k = m + 1 := ⟨k - 1, by omega⟩
      rw [spec_Tokenize.j0, if_neg (by simp)]
      exact (hr k (by omega)).1 _ _ _ _
    · unfold impl_Tokenize.f
      exact (hr k (by omega)).2
  · have hb' : catsB l = false ∨ s.size > 65536 := by
      cases h : catsB l
      · exact .inl rfl
      · exact .inr (by
          rcases Nat.lt_or_ge 65536 s.size with h' | h'
          · exact h'
          · exact absurd ⟨h, h'⟩ hb)
    refine ⟨([], -2), by simp, fun k hk => ⟨?_, ?_⟩⟩
    · unfold spec_Tokenize.f
      rw [cats_s l k (by omega)]
      simp only [Option.bind_some]
      rcases hb' with h | h
      · rw [h, if_neg (by simp), no k (by omega)]
      · rw [show decide ((s.size : Int) > 65536) = true from decide_eq_true (by omega)]
        cases catsB l
        · rw [if_neg (by simp), no k (by omega)]
        · rw [if_pos rfl, no k (by omega)]
    · unfold impl_Tokenize.f
      obtain ⟨k, rfl⟩ : ∃ m, k = m + 1 := ⟨k - 1, by omega⟩
      rw [impl_Tokenize.l0, next_no l s 0 0 hl hb' k (by omega)]
      simp
theorem rdToken_b (l : List S42) (i : Nat) (h : i < l.length) : rd_T42 l (i : Int) = l[i] := by simp [rd_T42, h]
theorem eqTokenS_l0 (l : List S42) (hl : l.length ≤ 9223372036854775806) : ∀ d k i : Nat, l.length - i = d → i ≤ l.length → d < k → laws_eqTokenS.l0 k l l i = some true := by
  intro d
  induction d with
  | zero =>
    intro k i hd hi hk
    obtain ⟨k, rfl⟩ : ∃ m, k = m + 1 := ⟨k - 1, by omega⟩
    rw [laws_eqTokenS.l0, if_neg (by omega)]
  | succ d ih =>
    intro k i hd hi hk
    obtain ⟨k, rfl⟩ : ∃ m, k = m + 1 := ⟨k - 1, by omega⟩
    rw [laws_eqTokenS.l0, if_pos (by omega), if_pos (by omega), if_pos (by omega)]
    simp only [laws_eqToken.f, if_true, Option.bind_some]
    rw [wrap_succ i (by omega)]
    exact ih k (i + 1) (by omega) (by omega) (by omega)
theorem eqTokenS_f (l : List S42) (hl : l.length ≤ 9223372036854775806) (k : Nat) (hk : l.length < k) : laws_eqTokenS.f k l l = some true := by
  unfold laws_eqTokenS.f
  rw [if_pos rfl]
  exact eqTokenS_l0 l hl l.length k 0 (by omega) (by omega) hk
theorem str_size (xs : List Int) : (strOfNums xs).size = xs.length := by
  simp [strOfNums, ByteArray.size]
theorem markText_l0 : ∀ d : Nat, ∀ (x : Int) (s : ByteArray), 0 ≤ x → x ≤ 4611686018427387904 → x < (10 : Int) ^ d → s.size + d ≤ 1000 → ∃ t, ∀ k, d < k → laws_markText.l0 k x s = some t := by
  intro d
  induction d with
  | zero =>
    intro x s h0 hm h1 hs
    have hx : x = 0 := by simp at h1; omega
    subst hx
    refine ⟨(⟨#[109]⟩ : ByteArray) ++ s, fun k hk => ?_⟩
    obtain ⟨k, rfl⟩ : ∃ m, k = m + 1 := ⟨k - 1, by omega⟩
    rw [laws_markText.l0, if_neg (by omega), if_pos (by omega)]
  | succ d ih =>
    intro x s h0 hm h1 hs
    by_cases hx : x > 0
    · have h2 : x < 10 * (10 : Int) ^ d := by rw [Int.pow_succ] at h1; omega
      have h3 : Int.tdiv x 10 = x / 10 := Int.tdiv_eq_ediv_of_nonneg h0
      obtain ⟨t, ht⟩ := ih (wrap64 (Int.tdiv x 10)) ((strOfNums [(wrap64 (48 + (Int.tmod x 10))) % 256]) ++ s) (by rw [h3]; unfold wrap64; omega) (by rw [h3]; unfold wrap64; omega) (by rw [h3]; unfold wrap64; omega) (by rw [ByteArray.size_append, str_size]; simp; omega)
      refine ⟨t, fun k hk => ?_⟩
      obtain ⟨k, rfl⟩ : ∃ m, k = m + 1 := ⟨k - 1, by omega⟩
      rw [laws_markText.l0, if_pos hx]
      simp only [Option.bind_some]
      rw [if_pos (by rw [str_size]; simp; omega)]
      exact ht k (by omega)
    · refine ⟨(⟨#[109]⟩ : ByteArray) ++ s, fun k hk => ?_⟩
      obtain ⟨k, rfl⟩ : ∃ m, k = m + 1 := ⟨k - 1, by omega⟩
      rw [laws_markText.l0, if_neg hx, if_pos (by omega)]
theorem markText_ex (q : Int) (h : q ≤ 4611686018427387904) : ∃ t, ∀ k, 30 < k → laws_markText.f k q = some t := by
  unfold laws_markText.f
  by_cases h0 : q ≤ 0
  · exact ⟨_, fun k _ => by rw [if_pos h0]⟩
  · obtain ⟨t, ht⟩ := markText_l0 30 q (⟨#[]⟩ : ByteArray) (by omega) h (by rw [show (10 : Int) ^ 30 = 1000000000000000000000000000000 from by decide]; omega) (by simp [ByteArray.size])
    exact ⟨t, fun k hk => by rw [if_neg h0]; exact ht k hk⟩
open Classical in
noncomputable def mtx (q : Int) : ByteArray := if h : q ≤ 4611686018427387904 then Classical.choose (markText_ex q h) else (⟨#[]⟩ : ByteArray)
theorem mtx_f (q : Int) (h : q ≤ 4611686018427387904) (k : Nat) (hk : 30 < k) : laws_markText.f k q = some (mtx q) := by
  unfold mtx
  rw [dif_pos h]
  exact Classical.choose_spec (markText_ex q h) k hk
noncomputable def MToken (q : Int) : S42 := ⟨q, q + 1, mtx (q + 2)⟩
theorem rdsetToken_eq (x : List S42) (i : Nat) (v : S42) (h : i < x.length) : rd_T42 (x.set i v) (i : Int) = v := by simp [rd_T42, h]
theorem rdsetToken_ne (x : List S42) (i j : Nat) (v : S42) (h : i ≠ j) : rd_T42 (x.set i v) (j : Int) = rd_T42 x (j : Int) := by simp [rd_T42, List.getElem?_set_ne h]
theorem markTokenS_l0 (q0 : Int) (n : Nat) (h0 : 0 ≤ q0) (hq : q0 + 3 * n ≤ 4611686018427387000) : ∀ d k i : Nat, ∀ x : List S42, n - i = d → i ≤ n → x.length = n → d + 31 < k → (∀ j : Nat, j < i → rd_T42 x (j : Int) = MToken (q0 + 3 * j)) →
    ∃ l', laws_markTokenS.l0 k x (q0 + 3 * i) i = some (q0 + 3 * n, l') ∧ l'.length = n ∧ ∀ j : Nat, j < n → rd_T42 l' (j : Int) = MToken (q0 + 3 * j) := by
  intro d
  induction d with
  | zero =>
    intro k i x hd hi hx hk hj
    obtain ⟨k, rfl⟩ : ∃ m, k = m + 1 := ⟨k - 1, by omega⟩
    obtain rfl : i = n := by omega
    exact ⟨x, by rw [laws_markTokenS.l0, if_neg (by omega)], hx, hj⟩
  | succ d ih =>
    intro k i x hd hi hx hk hj
    obtain ⟨k, rfl⟩ : ∃ m, k = m + 1 := ⟨k - 1, by omega⟩
    have hlt : i < x.length := by omega
    have w1 : wrap64 (q0 + 3 * (i : Int) + 1) = q0 + 3 * (i : Int) + 1 := by unfold wrap64; omega
    have w2 : wrap64 (q0 + 3 * (i : Int) + 1 + 1) = q0 + 3 * (i : Int) + 2 := by unfold wrap64; omega
    have w3 : wrap64 (q0 + 3 * (i : Int) + 2 + 1) = q0 + 3 * ((i + 1 : Nat) : Int) := by unfold wrap64; omega
    rw [laws_markTokenS.l0, if_pos (by omega), if_pos (by omega)]
    simp only [Option.bind_some, Int.toNat_natCast, List.set_set, List.length_set, rdsetToken_eq x i _ hlt]
    simp only [w1, w2]
    rw [mtx_f _ (by omega) k (by omega)]
    simp only [Option.bind_some, w3]
    rw [wrap_succ i (by omega)]
    refine ih k (i + 1) _ (by omega) (by omega) (by simpa using hx) (by omega) (fun j hlj => ?_)
    rcases Nat.lt_or_ge j i with h | h
    · rw [← hj j h, rdsetToken_ne x i j _ (by omega)]
    · obtain rfl : j = i := by omega
      rw [rdsetToken_eq x j _ hlt]
      rfl
theorem heldTokenS_l0 (q0 : Int) (l : List S42) (h0 : 0 ≤ q0) (hq : q0 + 3 * l.length ≤ 4611686018427387000) (hj : ∀ j : Nat, j < l.length → rd_T42 l (j : Int) = MToken (q0 + 3 * j)) : ∀ d k i : Nat, l.length - i = d → i ≤ l.length → d + 31 < k →
    laws_heldTokenS.l0 k l (q0 + 3 * i) i = some (q0 + 3 * l.length) := by
  intro d
  induction d with
  | zero =>
    intro k i hd hi hk
    obtain ⟨k, rfl⟩ : ∃ m, k = m + 1 := ⟨k - 1, by omega⟩
    obtain rfl : i = l.length := by omega
    rw [laws_heldTokenS.l0, if_neg (by omega)]
  | succ d ih =>
    intro k i hd hi hk
    obtain ⟨k, rfl⟩ : ∃ m, k = m + 1 := ⟨k - 1, by omega⟩
    have w1 : wrap64 (q0 + 3 * (i : Int) + 1) = q0 + 3 * (i : Int) + 1 := by unfold wrap64; omega
    have w2 : wrap64 (q0 + 3 * (i : Int) + 1 + 1) = q0 + 3 * (i : Int) + 2 := by unfold wrap64; omega
    have w3 : wrap64 (q0 + 3 * (i : Int) + 2 + 1) = q0 + 3 * ((i + 1 : Nat) : Int) := by unfold wrap64; omega
    rw [laws_heldTokenS.l0, if_pos (by omega), if_pos (by omega), hj i (by omega)]
    simp only [MToken, w1, w2, if_true]
    rw [mtx_f _ (by omega) k (by omega)]
    simp only [Option.bind_some, if_true, w3]
    rw [wrap_succ i (by omega)]
    exact ih k (i + 1) (by omega) (by omega) (by omega)
theorem markTokenS_f (l : List S42) (q0 : Int) (h0 : 0 ≤ q0) (hq : q0 + 3 * l.length ≤ 4611686018427387000) :
    ∃ l', (∀ k, l.length + 31 < k → laws_markTokenS.f k l q0 = some (q0 + 3 * l.length, l')) ∧ ∀ k, l.length + 31 < k → laws_heldTokenS.f k l' q0 = some (q0 + 3 * l.length) := by
  obtain ⟨l', h1, h2, h3⟩ := markTokenS_l0 q0 l.length h0 hq l.length (l.length + 32) 0 l (by omega) (by omega) rfl (by omega) (fun j h => by omega)
  refine ⟨l', fun k hk => ?_, fun k hk => ?_⟩
  · obtain ⟨l2, g1, g2, g3⟩ := markTokenS_l0 q0 l.length h0 hq l.length k 0 l (by omega) (by omega) rfl hk (fun j h => by omega)
    have e : l2 = l' := by
      apply List.ext_getElem (by omega)
      intro j a b
      have e1 := g3 j (by omega)
      have e2 := h3 j (by omega)
      rw [rdToken_b l2 j (by omega)] at e1
      rw [rdToken_b l' j (by omega)] at e2
      rw [e1, e2]
    subst e
    unfold laws_markTokenS.f
    simpa using g1
  · have := heldTokenS_l0 q0 l' h0 (by rw [h2]; exact hq) (fun j h => h3 j (by omega)) l'.length k 0 (by omega) (by omega) (by omega)
    unfold laws_heldTokenS.f
    rw [h2] at this
    simpa using this

theorem FnExactTokenize : laws_FnExactTokenize.Pure := by
  intro l s _ _ _
  by_cases hb : (l.length : Int) > 1048576
  · exact ⟨0, by unfold laws_FnExactTokenize.f; rw [if_pos hb]⟩
  by_cases hc : (s.size : Int) > 1048576
  · exact ⟨0, by unfold laws_FnExactTokenize.f; rw [if_neg hb, if_pos hc]⟩
  have hl : l.length ≤ 1048576 := by omega
  obtain ⟨⟨ts, e⟩, hlen, hr⟩ := tokenize_both l hl s
  simp only at hlen
  obtain ⟨xg, mg⟩ := markInt64S_f l 1 (by omega) (by omega)
  obtain ⟨t', mt, ht⟩ := markTokenS_f ts 1 (by omega) (by omega)
  generalize hN : l.length + 3 * s.size + 100000 = n
  have he := fun k (hk : 70000 < k) => eqTokenS_f ts (by omega) k (by omega)
  have hto := fun k (hk : 1048577 < k) => toInt64S_f l hl k (by omega)
  have heq := fun k (hk : 1048577 < k) => eqInt64S_f l (by omega) k (by omega)
  have j2 : ∀ k, n + 1999999 < k → laws_FnExactTokenize.j2 k t' (1 + 3 * ts.length) (e != e) = some true := by
    intro k hk
    obtain ⟨k, rfl⟩ : ∃ m, k = m + 1 := ⟨k - 1, by omega⟩
    rw [laws_FnExactTokenize.j2, if_neg (by simp), ht _ (by omega)]
    simp only [Option.bind_some]
    rw [if_neg (by omega)]
    simp
  have j1 : ∀ k, n + 2000000 < k → laws_FnExactTokenize.j1 k l s ts e ts (e != e) = some true := by
    intro k hk
    obtain ⟨k, rfl⟩ : ∃ m, k = m + 1 := ⟨k - 1, by omega⟩
    rw [laws_FnExactTokenize.j1, if_neg (by simp), mt _ (by omega)]
    simp only [Option.bind_some]
    rw [ht _ (by omega)]
    simp only [Option.bind_some]
    rw [if_neg (by omega), if_pos trivial, hto _ (by omega)]
    simp only [Option.bind_some]
    rw [(hr _ (by omega)).2]
    simp only [Option.bind_some]
    rw [he _ (by omega)]
    simp only [Option.bind_some, if_true]
    exact j2 k (by omega)
  have j0 : ∀ k, n + 2000001 < k → laws_FnExactTokenize.j0 k l s ts e l ts e (e != e) = some true := by
    intro k hk
    obtain ⟨k, rfl⟩ : ∃ m, k = m + 1 := ⟨k - 1, by omega⟩
    rw [laws_FnExactTokenize.j0, if_neg (by simp), hto _ (by omega)]
    simp only [Option.bind_some]
    rw [heq _ (by omega)]
    simp only [Option.bind_some, if_true]
    rw [mg _ (by omega)]
    simp only [Option.bind_some]
    rw [if_neg (by omega), he _ (by omega)]
    simp only [Option.bind_some, if_true]
    exact j1 k (by omega)
  suffices h : ∀ k, n + 2000002 < k → laws_FnExactTokenize.f k l s = some true from ⟨_, h (n + 2000003) (by omega)⟩
  intro k hk
  unfold laws_FnExactTokenize.f
  rw [if_neg hb, if_neg hc, hto _ (by omega)]
  simp only [Option.bind_some]
  rw [(hr _ (by omega)).1]
  simp only [Option.bind_some]
  rw [(hr _ (by omega)).2]
  simp only [Option.bind_some]
  rw [he _ (by omega)]
  simp only [Option.bind_some, if_true]
  exact j0 k (by omega)

end Go.Proofs.Ytgfifmbbjoocgaa.Pure
