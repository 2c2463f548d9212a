/- The pure statement of FnNextAll: the tokens one by one are the whole text's, and a text cut behind a token gives the tokens up to there. No condition. -/
import Derived.Test.YtabamachefgilaaPFnNextAllx7
import Derived.Test.YtabamachefgilaaKit
namespace Go.Proofs.Ytabamachefgilaa.Pure
open Go.RowKit Go.Proofs.Ytabamachefgilaa.PFnNextAll Go.Proofs.Ytabamachefgilaa.Kit Go.Proofs.YtabamachefgilaaW.PrintWords Go.Proofs.YtabamachefgilaaW.PrintLast Go.Proofs.YtabamachefgilaaW.PrintMore
set_option linter.unusedVariables false
set_option linter.unusedSimpArgs false
set_option linter.unusedSectionVars false

def okc (c : Int) : Bool := !decide (c < 0) && !decide (c > 15)
def catsB (l : List Int) : Bool := l.all okc && ((l.length : Int) == 256)
theorem impl_l0 (l : List Int) (hl : l.length ≤ 1048576) : ∀ d k i : Nat, l.length - i = d → i ≤ l.length → d < k → impl_CatsOk.l0 k l l (l.length : Int) i = some ((l.drop i).all okc && ((l.length : Int) == 256)) := by
  intro d
  induction d with
  | zero =>
    intro k i hd hi hk
    obtain ⟨k, rfl⟩ : ∃ m, k = m + 1 := ⟨k - 1, by omega⟩
    rw [impl_CatsOk.l0, if_neg (by omega), List.drop_of_length_le (by omega)]
    simp
  | succ d ih =>
    intro k i hd hi hk
    obtain ⟨k, rfl⟩ : ∃ m, k = m + 1 := ⟨k - 1, by omega⟩
    rw [impl_CatsOk.l0, if_pos (by omega), if_pos (by omega), if_pos (by omega), drop_rd l i (by omega), List.all_cons]
    by_cases h1 : rd l (i : Int) < 0
    · rw [if_pos h1]; simp [okc, h1]
    · rw [if_neg h1]
      by_cases h2 : rd l (i : Int) > 15
      · rw [if_pos h2]; simp [okc, h2]
      · rw [if_neg h2, wrap_succ i (by omega), ih k (i + 1) (by omega) (by omega) (by omega)]
        have e : okc (rd l (i : Int)) = true := by simp [okc]; omega
        rw [e, Bool.true_and]
theorem cats_i (l : List Int) (hl : l.length ≤ 1048576) (k : Nat) (hk : l.length < k) : impl_CatsOk.f k l = some (catsB l) := by
  unfold impl_CatsOk.f catsB
  simpa using impl_l0 l hl l.length k 0 (by omega) (by omega) hk
theorem cats_at (l : List Int) (h : catsB l = true) : l.length = 256 ∧ ∀ c : Int, 0 ≤ c → c < 256 → 0 ≤ rd l c ∧ rd l c ≤ 15 := by
  simp only [catsB, Bool.and_eq_true, beq_iff_eq] at h
  refine ⟨by omega, fun c h0 h1 => ?_⟩
  obtain ⟨n, rfl⟩ := Int.eq_ofNat_of_zero_le h0
  rw [rd_nat l n (by omega)]
  have := List.all_eq_true.1 h.1 _ (List.getElem_mem (show n < l.length by omega))
  simp only [okc, Bool.and_eq_true, Bool.not_eq_true', decide_eq_false_iff_not] at this
  omega
theorem clone_f (s : ByteArray) (h : s.size ≤ 140737488351232) : strings_Clone.f s = some s := by
  unfold strings_Clone.f stringslite_Clone.f
  rw [if_pos h]
  rfl
theorem extract_le (s : ByteArray) (a b : Nat) : (s.extract a b).size ≤ s.size := by
  rw [ByteArray.size_extract]
  omega
theorem extract_none (s : ByteArray) (a : Nat) : s.extract a a = (⟨#[]⟩ : ByteArray) := by
  apply ByteArray.ext
  apply Array.eq_empty_of_size_eq_zero
  have : (s.extract a a).size = 0 := by rw [ByteArray.size_extract]; omega
  exact this
abbrev Sc := Int × Int × Int × ByteArray × Int × Int
def okN (n i : Nat) (r : Sc) : Prop := r.1 = 1 ∧ (i : Int) ≤ r.2.2.2.2.1 ∧ r.2.2.2.2.1 ≤ n ∧ 0 ≤ r.2.2.2.2.2 ∧ r.2.2.2.2.2 ≤ 2
/-- A scan that gives a token or a bad byte goes on by one byte at least, and not past the end. -/
def good (n i : Nat) (r : Sc) : Prop := (r.1 = 0 ∨ r.1 = 1 ∨ r.1 = 2) ∧ (r.1 ≠ 0 → (i : Int) < r.2.2.2.2.1) ∧ (i : Int) ≤ r.2.2.2.2.1 ∧ r.2.2.2.2.1 ≤ n ∧ 0 ≤ r.2.2.2.2.2 ∧ r.2.2.2.2.2 ≤ 2
theorem good_mono (n i j : Nat) (r : Sc) (h : good n j r) (hij : i ≤ j) : good n i r := by
  obtain ⟨h1, h2, h3, h4, h5, h6⟩ := h
  exact ⟨h1, fun hr => by have := h2 hr; omega, by omega, h4, h5, h6⟩
theorem good_of_name (n i : Nat) (r : Sc) (h : okN n (i + 1) r) : good n i r := by
  obtain ⟨h1, h2, h3, h4, h5⟩ := h
  exact ⟨.inr (.inl h1), fun _ => by omega, by omega, h3, h4, h5⟩
theorem at_byte (x0 : List Int) (x1 : ByteArray) (hx : catsB x0 = true) (j : Nat) (hj : j < x1.size) : 0 ≤ bt x1 (j : Int) ∧ bt x1 (j : Int) < (x0.length : Int) ∧ bt x1 (j : Int) ≤ 255 := by
  have h1 := bt_range x1 (j : Int)
  have h2 := (cats_at x0 hx).1
  omega
theorem pre_size (s : ByteArray) (e : Nat) (h : e ≤ s.size) : (s.extract 0 e).size = e := by rw [ByteArray.size_extract]; omega
theorem pre_bt (s : ByteArray) (e i : Nat) (h : i < e) (he : e ≤ s.size) : bt (s.extract 0 e) (i : Int) = bt s (i : Int) := by
  rw [bt_nat _ i (by rw [pre_size s e he]; exact h), bt_nat s i (by omega)]
  simp [ByteArray.getElem_extract]
theorem pre_pre (s : ByteArray) (e i j : Nat) (h : j ≤ e) : (s.extract 0 e).extract i j = s.extract i j := by
  rw [ByteArray.extract_extract]
  congr 1 <;> omega
section
variable (x0 : List Int) (hx : catsB x0 = true) (x1 : ByteArray) (hn : x1.size ≤ 65536)
include hx hn
theorem j3_far (k i j : Nat) (hij : i < j) (hj : j ≤ x1.size) : impl_Next.j3 (k + 1) x0 x1 i (x1.size : Int) j = some (1, 0, 0, x1.extract i j, (j : Int), 2) := by
  rw [impl_Next.j3, if_pos (by omega), if_pos (by omega), if_pos (by omega), clone_f _ (by have := extract_le x1 (i : Int).toNat (j : Int).toNat; omega)]
  simp only [Option.bind_some]
  rw [if_pos (by omega)]
  simp
theorem j3_near (k j : Nat) (hj : j < x1.size) : impl_Next.j3 (k + 1) x0 x1 j (x1.size : Int) j = some (1, 0, 0, x1.extract j (j + 1), ((j + 1 : Nat) : Int), if rd x0 (bt x1 (j : Int)) = 3 then 2 else 1) := by
  obtain ⟨b0, b1, b2⟩ := at_byte x0 x1 hx j hj
  have hw : wrap64 ((j : Int) + 1) = ((j + 1 : Nat) : Int) := wrap_succ j (by omega)
  rw [impl_Next.j3, if_pos (by omega), if_pos (by omega), if_pos (by omega), clone_f _ (by have := extract_le x1 (j : Int).toNat (j : Int).toNat; omega)]
  simp only [Option.bind_some]
  rw [if_neg (by omega), if_pos (by omega), hw, if_pos (by omega), if_pos (by omega), clone_f _ (by have := extract_le x1 (j : Int).toNat (((j + 1 : Nat) : Int)).toNat; omega)]
  simp only [Option.bind_some]
  rw [if_pos (by omega), if_pos b0, if_pos b1]
  split <;> simp
theorem j3_end (k : Nat) : impl_Next.j3 (k + 1) x0 x1 (x1.size : Int) (x1.size : Int) (x1.size : Int) = some (1, 0, 0, (⟨#[]⟩ : ByteArray), (x1.size : Int), 1) := by
  rw [impl_Next.j3, if_pos (by omega), if_pos (by omega), if_pos (by omega), clone_f _ (by have := extract_le x1 (x1.size : Int).toNat (x1.size : Int).toNat; omega)]
  simp only [Option.bind_some]
  rw [if_neg (by omega), if_neg (by omega), extract_none]
theorem l1_step (k i j : Nat) (hj : j < x1.size) (hij : i ≤ j) : impl_Next.l1 (k + 1) x0 x1 i (x1.size : Int) j = if j < i + 40 ∧ rd x0 (bt x1 (j : Int)) = 4 then impl_Next.l1 k x0 x1 i (x1.size : Int) ((j + 1 : Nat) : Int) else impl_Next.j3 k x0 x1 i (x1.size : Int) j := by
  obtain ⟨b0, b1, b2⟩ := at_byte x0 x1 hx j hj
  rw [impl_Next.l1, if_pos (by omega), wrap_in ((i : Int) + 40) (by omega) (by omega)]
  by_cases h : j < i + 40
  · rw [if_pos (by omega), if_pos (by omega), if_pos (by omega), if_pos b0, if_pos b1, wrap_succ j (by omega)]
    by_cases h4 : rd x0 (bt x1 (j : Int)) = 4
    · rw [if_pos h4, if_pos ⟨h, h4⟩]
    · rw [if_neg h4, if_neg (fun hh => h4 hh.2)]
  · rw [if_neg (by omega), if_neg (fun hh => h hh.1)]
theorem l1_end (k : Nat) (i : Int) : impl_Next.l1 (k + 1) x0 x1 i (x1.size : Int) (x1.size : Int) = impl_Next.j3 k x0 x1 i (x1.size : Int) (x1.size : Int) := by
  rw [impl_Next.l1, if_neg (by omega)]
theorem l2_step (k i : Nat) (hi : i < x1.size) : impl_Next.l2 (k + 1) x0 x1 i (x1.size : Int) = if rd x0 (bt x1 (i : Int)) = 6 then impl_Next.l0 k x0 x1 ((i + 1 : Nat) : Int) 0 (x1.size : Int) else impl_Next.l2 k x0 x1 ((i + 1 : Nat) : Int) (x1.size : Int) := by
  obtain ⟨b0, b1, b2⟩ := at_byte x0 x1 hx i hi
  rw [impl_Next.l2, if_pos (by omega), if_pos (by omega), if_pos (by omega), if_pos b0, if_pos b1, wrap_succ i (by omega)]
theorem l2_end (k : Nat) : impl_Next.l2 (k + 1) x0 x1 (x1.size : Int) (x1.size : Int) = impl_Next.l0 k x0 x1 (x1.size : Int) 0 (x1.size : Int) := by
  rw [impl_Next.l2, if_neg (by omega)]
theorem l0_end (k : Nat) (st : Int) : impl_Next.l0 (k + 1) x0 x1 (x1.size : Int) st (x1.size : Int) = some (0, 0, 0, (⟨#[]⟩ : ByteArray), (x1.size : Int), st) := by
  rw [impl_Next.l0, if_neg (by omega)]
theorem l0_step (k i : Nat) (st : Int) (hi : i < x1.size) (c : Int) (hc : rd x0 (bt x1 (i : Int)) = c) : impl_Next.l0 (k + 1) x0 x1 i st (x1.size : Int) = (if c = 0 then (impl_Next.l1 k x0 x1 ((i + 1 : Nat) : Int) (x1.size : Int) ((i + 1 : Nat) : Int))
      else (if c = 6 then (if st = 0 then (some (1, 0, 0, (⟨#[112, 97, 114]⟩ : ByteArray), ((i + 1 : Nat) : Int), 0)) else (if st = 1 then some (1, 3, 32, (⟨#[]⟩ : ByteArray), ((i + 1 : Nat) : Int), 0) else (impl_Next.l0 k x0 x1 ((i + 1 : Nat) : Int) 0 (x1.size : Int))))
      else (if c = 3 then (if st = 1 then some (1, 3, 32, (⟨#[]⟩ : ByteArray), ((i + 1 : Nat) : Int), 2) else (impl_Next.l0 k x0 x1 ((i + 1 : Nat) : Int) st (x1.size : Int)))
      else (if c = 8 then (impl_Next.l2 k x0 x1 ((i + 1 : Nat) : Int) (x1.size : Int)) else (if c = 9 then (impl_Next.l0 k x0 x1 ((i + 1 : Nat) : Int) st (x1.size : Int)) else (if c = 15 then (some (2, 0, 0, (⟨#[]⟩ : ByteArray), ((i + 1 : Nat) : Int), st)) else some (1, c, bt x1 (i : Int), (⟨#[]⟩ : ByteArray), ((i + 1 : Nat) : Int), 1))))))) := by
  obtain ⟨b0, b1, b2⟩ := at_byte x0 x1 hx i hi
  have hb : wrap64 (bt x1 (i : Int)) = bt x1 (i : Int) := wrap_in _ (by omega) (by omega)
  rw [impl_Next.l0, if_pos (by omega), if_pos (by omega), if_pos (by omega), if_pos b0, if_pos b1, hc, wrap_succ i (by omega)]
  simp only [impl_Next_1.f, Option.bind_some, hb, wrap_in 32 (by omega) (by omega)]
end
section
variable (x0 : List Int) (hx : catsB x0 = true) (x1 : ByteArray) (hn : x1.size ≤ 65536)
include hx hn
/-- What a name's scan from 'i' gives, told of the text and of every prefix of it that holds the token. -/
theorem name_loop (i : Nat) (hi : i ≤ x1.size) : ∀ d j : Nat, x1.size - j = d → j ≤ x1.size → i ≤ j → ∃ r : Sc, okN x1.size i r ∧ (j : Int) ≤ r.2.2.2.2.1 ∧
    ∀ e : Nat, r.2.2.2.2.1 ≤ e → e ≤ x1.size → ∀ k, d + 1 < k → impl_Next.l1 k x0 (x1.extract 0 e) i (e : Int) j = some r := by
  have fin : ∀ j : Nat, j ≤ x1.size → i ≤ j → (j < x1.size → ¬ (j < i + 40 ∧ rd x0 (bt x1 (j : Int)) = 4)) → ∃ r : Sc, okN x1.size i r ∧ (j : Int) ≤ r.2.2.2.2.1 ∧
      ∀ e : Nat, r.2.2.2.2.1 ≤ e → e ≤ x1.size → ∀ k, 1 < k → impl_Next.l1 k x0 (x1.extract 0 e) i (e : Int) j = some r := by
    intro j hj hij hno
    by_cases h : i < j
    · refine ⟨(1, 0, 0, x1.extract i j, (j : Int), 2), by simp [okN]; omega, by simp, fun e h1 h2 k hk => ?_⟩
      obtain ⟨k, rfl⟩ : ∃ m, k = m + 2 := ⟨k - 2, by omega⟩
      have h1' : j ≤ e := by simpa using h1
      have hs := pre_size x1 e h2
      have hp := j3_far x0 hx (x1.extract 0 e) (by omega) k i j h (by omega)
      rw [hs, pre_pre x1 e i j h1'] at hp
      rcases Nat.lt_or_ge j e with g | g
      · have := l1_step x0 hx (x1.extract 0 e) (by omega) (k + 1) i j (by omega) hij
        rw [hs, pre_bt x1 e j g h2, if_neg (hno (by omega)), hp] at this
        exact this
      · obtain rfl : j = e := by omega
        have := l1_end x0 hx (x1.extract 0 j) (by omega) (k + 1) i
        rw [hs, hp] at this
        exact this
    · obtain rfl : j = i := by omega
      rcases Nat.lt_or_ge j x1.size with g | g
      · refine ⟨(1, 0, 0, x1.extract j (j + 1), ((j + 1 : Nat) : Int), if rd x0 (bt x1 (j : Int)) = 3 then 2 else 1), by simp only [okN]; split <;> exact ⟨trivial, by omega, by omega, by omega, by omega⟩, by simp only; omega, fun e h1 h2 k hk => ?_⟩
        obtain ⟨k, rfl⟩ : ∃ m, k = m + 2 := ⟨k - 2, by omega⟩
        have h1' : j + 1 ≤ e := by simp only at h1; omega
        have hs := pre_size x1 e h2
        have hp := j3_near x0 hx (x1.extract 0 e) (by omega) k j (by omega)
        rw [hs, pre_pre x1 e j (j + 1) h1', pre_bt x1 e j (by omega) h2] at hp
        have := l1_step x0 hx (x1.extract 0 e) (by omega) (k + 1) j j (by omega) (Nat.le_refl _)
        rw [hs, pre_bt x1 e j (by omega) h2, if_neg (hno g), hp] at this
        exact this
      · obtain rfl : j = x1.size := by omega
        refine ⟨(1, 0, 0, (⟨#[]⟩ : ByteArray), (x1.size : Int), 1), by simp [okN], by simp, fun e h1 h2 k hk => ?_⟩
        obtain ⟨k, rfl⟩ : ∃ m, k = m + 2 := ⟨k - 2, by omega⟩
        obtain rfl : e = x1.size := by simp only at h1; omega
        have hs := pre_size x1 x1.size (Nat.le_refl _)
        have hp := j3_end x0 hx (x1.extract 0 x1.size) (by omega) k
        have := l1_end x0 hx (x1.extract 0 x1.size) (by omega) (k + 1) (x1.size : Int)
        rw [hs] at hp this
        rw [this, hp]
  intro d
  induction d with
  | zero =>
    intro j hd hj hij
    obtain ⟨r, a, b, c⟩ := fin j hj hij (fun h => by omega)
    exact ⟨r, a, b, fun e h1 h2 k hk => c e h1 h2 k (by omega)⟩
  | succ d ih =>
    intro j hd hj hij
    by_cases h : j < i + 40 ∧ rd x0 (bt x1 (j : Int)) = 4
    · obtain ⟨r, a, b, c⟩ := ih (j + 1) (by omega) (by omega) (by omega)
      refine ⟨r, a, by omega, fun e h1 h2 k hk => ?_⟩
      obtain ⟨k, rfl⟩ : ∃ m, k = m + 1 := ⟨k - 1, by omega⟩
      have hs := pre_size x1 e h2
      have := l1_step x0 hx (x1.extract 0 e) (by omega) k i j (by omega) hij
      rw [hs, pre_bt x1 e j (by omega) h2, if_pos h, c e h1 h2 k (by omega)] at this
      exact this
    · obtain ⟨r, a, b, c⟩ := fin j hj hij (fun _ => h)
      exact ⟨r, a, b, fun e h1 h2 k hk => c e h1 h2 k (by omega)⟩
/-- One scan, told of the text and, where it gives a token, of every prefix that holds it. -/
theorem scan_pre : ∀ d : Nat,
    (∀ (i : Nat) (st : Int), x1.size - i = d → i ≤ x1.size → 0 ≤ st → st ≤ 2 → ∃ r : Sc, good x1.size i r ∧ ∀ e : Nat, e ≤ x1.size → (e = x1.size ∨ r.1 = 1 ∧ r.2.2.2.2.1 ≤ e) → ∀ k, 2 * d + 5 < k → impl_Next.l0 k x0 (x1.extract 0 e) i st (e : Int) = some r) ∧
    (∀ i : Nat, x1.size - i = d → i ≤ x1.size → ∃ r : Sc, good x1.size i r ∧ ∀ e : Nat, e ≤ x1.size → (e = x1.size ∨ r.1 = 1 ∧ r.2.2.2.2.1 ≤ e) → ∀ k, 2 * d + 6 < k → impl_Next.l2 k x0 (x1.extract 0 e) i (e : Int) = some r) := by
  intro d
  induction d with
  | zero =>
    have hP : ∀ (i : Nat) (st : Int), x1.size - i = 0 → i ≤ x1.size → 0 ≤ st → st ≤ 2 → ∃ r : Sc, good x1.size i r ∧ ∀ e : Nat, e ≤ x1.size → (e = x1.size ∨ r.1 = 1 ∧ r.2.2.2.2.1 ≤ e) → ∀ k, 2 * 0 + 5 < k → impl_Next.l0 k x0 (x1.extract 0 e) i st (e : Int) = some r := by
      intro i st hd hi h0 h2
      obtain rfl : i = x1.size := by omega
      refine ⟨(0, 0, 0, (⟨#[]⟩ : ByteArray), (x1.size : Int), st), by simp [good]; omega, fun e he hc k hk => ?_⟩
      obtain ⟨k, rfl⟩ : ∃ m, k = m + 1 := ⟨k - 1, by omega⟩
      obtain rfl : e = x1.size := by
        rcases hc with hc | hc
        · exact hc
        · exact absurd hc.1 (by simp)
      have hs := pre_size x1 x1.size (Nat.le_refl _)
      have := l0_end x0 hx (x1.extract 0 x1.size) (by omega) k st
      rw [hs] at this
      exact this
    refine ⟨hP, fun i hd hi => ?_⟩
    obtain ⟨r, hg, hr⟩ := hP i 0 hd hi (by omega) (by omega)
    refine ⟨r, hg, fun e he hc k hk => ?_⟩
    obtain ⟨k, rfl⟩ : ∃ m, k = m + 1 := ⟨k - 1, by omega⟩
    obtain ⟨g1, g2, g3, g4, g5, g6⟩ := hg
    obtain rfl : i = x1.size := by omega
    obtain rfl : e = x1.size := by omega
    have hs := pre_size x1 x1.size (Nat.le_refl _)
    have := l2_end x0 hx (x1.extract 0 x1.size) (by omega) k
    rw [hs] at this
    rw [this]
    exact hr _ he hc k (by omega)
  | succ d ih =>
    have hP : ∀ (i : Nat) (st : Int), x1.size - i = d + 1 → i ≤ x1.size → 0 ≤ st → st ≤ 2 → ∃ r : Sc, good x1.size i r ∧ ∀ e : Nat, e ≤ x1.size → (e = x1.size ∨ r.1 = 1 ∧ r.2.2.2.2.1 ≤ e) → ∀ k, 2 * (d + 1) + 5 < k → impl_Next.l0 k x0 (x1.extract 0 e) i st (e : Int) = some r := by
      intro i st hd hi h0 h2
      have hlt : i < x1.size := by omega
      generalize hc : rd x0 (bt x1 (i : Int)) = c
      have fin : ∀ r : Sc, good x1.size (i + 1) r ∨ good x1.size i r ∧ r.1 ≠ 0 → (∀ e : Nat, i < e → e ≤ x1.size → (e = x1.size ∨ r.1 = 1 ∧ r.2.2.2.2.1 ≤ e) → ∀ k, 2 * d + 6 < k → impl_Next.l0 (k + 1) x0 (x1.extract 0 e) i st (e : Int) = some r) →
          ∃ r : Sc, good x1.size i r ∧ ∀ e : Nat, e ≤ x1.size → (e = x1.size ∨ r.1 = 1 ∧ r.2.2.2.2.1 ≤ e) → ∀ k, 2 * (d + 1) + 5 < k → impl_Next.l0 k x0 (x1.extract 0 e) i st (e : Int) = some r := by
        intro r hg h
        have hg' : good x1.size i r := by
          rcases hg with hg | hg
          · exact good_mono _ _ _ _ hg (by omega)
          · exact hg.1
        refine ⟨r, hg', fun e he hc k hk => ?_⟩
        obtain ⟨k, rfl⟩ : ∃ m, k = m + 1 := ⟨k - 1, by omega⟩
        refine h e ?_ he hc k (by omega)
        rcases hc with hc | hc
        · omega
        · have := hg'.2.1 (by omega)
          omega
      have step : ∀ e : Nat, i < e → e ≤ x1.size → ∀ k, impl_Next.l0 (k + 1) x0 (x1.extract 0 e) i st (e : Int) = (if c = 0 then (impl_Next.l1 k x0 (x1.extract 0 e) ((i + 1 : Nat) : Int) (e : Int) ((i + 1 : Nat) : Int))
          else (if c = 6 then (if st = 0 then (some (1, 0, 0, (⟨#[112, 97, 114]⟩ : ByteArray), ((i + 1 : Nat) : Int), 0)) else (if st = 1 then some (1, 3, 32, (⟨#[]⟩ : ByteArray), ((i + 1 : Nat) : Int), 0) else (impl_Next.l0 k x0 (x1.extract 0 e) ((i + 1 : Nat) : Int) 0 (e : Int))))
          else (if c = 3 then (if st = 1 then some (1, 3, 32, (⟨#[]⟩ : ByteArray), ((i + 1 : Nat) : Int), 2) else (impl_Next.l0 k x0 (x1.extract 0 e) ((i + 1 : Nat) : Int) st (e : Int)))
          else (if c = 8 then (impl_Next.l2 k x0 (x1.extract 0 e) ((i + 1 : Nat) : Int) (e : Int)) else (if c = 9 then (impl_Next.l0 k x0 (x1.extract 0 e) ((i + 1 : Nat) : Int) st (e : Int)) else (if c = 15 then (some (2, 0, 0, (⟨#[]⟩ : ByteArray), ((i + 1 : Nat) : Int), st)) else some (1, c, bt x1 (i : Int), (⟨#[]⟩ : ByteArray), ((i + 1 : Nat) : Int), 1))))))) := by
        intro e h1 h2 k
        have hs := pre_size x1 e h2
        have := l0_step x0 hx (x1.extract 0 e) (by omega) k i st (by omega) c (by rw [pre_bt x1 e i h1 h2]; exact hc)
        rw [hs, pre_bt x1 e i h1 h2] at this
        exact this
      by_cases c0 : c = 0
      · obtain ⟨r, hg, hj, hr⟩ := name_loop x0 hx x1 hn (i + 1) (by omega) (x1.size - (i + 1)) (i + 1) rfl (by omega) (by omega)
        refine fin r (.inr ⟨good_of_name _ _ _ hg, by have := hg.1; omega⟩) (fun e h1 h2 hc k hk => ?_)
        rw [step e h1 h2, if_pos c0]
        refine hr e ?_ h2 k (by omega)
        rcases hc with hc | hc
        · have := hg.2.2.1; omega
        · exact hc.2
      by_cases c6 : c = 6
      · by_cases s0 : st = 0
        · refine fin (1, 0, 0, (⟨#[112, 97, 114]⟩ : ByteArray), ((i + 1 : Nat) : Int), 0) (.inr (by simp [good]; omega)) (fun e h1 h2 hc k hk => ?_)
          rw [step e h1 h2, if_neg c0, if_pos c6, if_pos s0]
        · by_cases s1 : st = 1
          · refine fin (1, 3, 32, (⟨#[]⟩ : ByteArray), ((i + 1 : Nat) : Int), 0) (.inr (by simp [good]; omega)) (fun e h1 h2 hc k hk => ?_)
            rw [step e h1 h2, if_neg c0, if_pos c6, if_neg s0, if_pos s1]
          · obtain ⟨r, hg, hr⟩ := ih.1 (i + 1) 0 (by omega) (by omega) (by omega) (by omega)
            refine fin r (.inl hg) (fun e h1 h2 hc k hk => ?_)
            rw [step e h1 h2, if_neg c0, if_pos c6, if_neg s0, if_neg s1]
            exact hr e h2 hc k (by omega)
      by_cases c3 : c = 3
      · by_cases s1 : st = 1
        · refine fin (1, 3, 32, (⟨#[]⟩ : ByteArray), ((i + 1 : Nat) : Int), 2) (.inr (by simp [good]; omega)) (fun e h1 h2 hc k hk => ?_)
          rw [step e h1 h2, if_neg c0, if_neg c6, if_pos c3, if_pos s1]
        · obtain ⟨r, hg, hr⟩ := ih.1 (i + 1) st (by omega) (by omega) h0 h2
          refine fin r (.inl hg) (fun e h1 h2 hc k hk => ?_)
          rw [step e h1 h2, if_neg c0, if_neg c6, if_pos c3, if_neg s1]
          exact hr e h2 hc k (by omega)
      by_cases c8 : c = 8
      · obtain ⟨r, hg, hr⟩ := ih.2 (i + 1) (by omega) (by omega)
        refine fin r (.inl hg) (fun e h1 h2 hc k hk => ?_)
        rw [step e h1 h2, if_neg c0, if_neg c6, if_neg c3, if_pos c8]
        exact hr e h2 hc k (by omega)
      by_cases c9 : c = 9
      · obtain ⟨r, hg, hr⟩ := ih.1 (i + 1) st (by omega) (by omega) h0 h2
        refine fin r (.inl hg) (fun e h1 h2 hc k hk => ?_)
        rw [step e h1 h2, if_neg c0, if_neg c6, if_neg c3, if_neg c8, if_pos c9]
        exact hr e h2 hc k (by omega)
      by_cases c15 : c = 15
      · refine fin (2, 0, 0, (⟨#[]⟩ : ByteArray), ((i + 1 : Nat) : Int), st) (.inr (by simp [good]; omega)) (fun e h1 h2 hc k hk => ?_)
        rw [step e h1 h2, if_neg c0, if_neg c6, if_neg c3, if_neg c8, if_neg c9, if_pos c15]
      · refine fin (1, c, bt x1 (i : Int), (⟨#[]⟩ : ByteArray), ((i + 1 : Nat) : Int), 1) (.inr (by simp [good]; omega)) (fun e h1 h2 hc k hk => ?_)
        rw [step e h1 h2, if_neg c0, if_neg c6, if_neg c3, if_neg c8, if_neg c9, if_neg c15]
    refine ⟨hP, fun i hd hi => ?_⟩
    have hlt : i < x1.size := by omega
    have fin2 : ∀ r : Sc, good x1.size (i + 1) r → (∀ e : Nat, i < e → e ≤ x1.size → (e = x1.size ∨ r.1 = 1 ∧ r.2.2.2.2.1 ≤ e) → ∀ k, 2 * d + 7 < k → impl_Next.l2 (k + 1) x0 (x1.extract 0 e) i (e : Int) = some r) →
        ∃ r : Sc, good x1.size i r ∧ ∀ e : Nat, e ≤ x1.size → (e = x1.size ∨ r.1 = 1 ∧ r.2.2.2.2.1 ≤ e) → ∀ k, 2 * (d + 1) + 6 < k → impl_Next.l2 k x0 (x1.extract 0 e) i (e : Int) = some r := by
      intro r hg h
      refine ⟨r, good_mono _ _ _ _ hg (by omega), fun e he hc k hk => ?_⟩
      obtain ⟨k, rfl⟩ : ∃ m, k = m + 1 := ⟨k - 1, by omega⟩
      refine h e ?_ he hc k (by omega)
      rcases hc with hc | hc
      · omega
      · have := hg.2.1 (by omega)
        omega
    by_cases h6 : rd x0 (bt x1 (i : Int)) = 6
    · obtain ⟨r, hg, hr⟩ := ih.1 (i + 1) 0 (by omega) (by omega) (by omega) (by omega)
      refine fin2 r hg (fun e h1 h2 hc k hk => ?_)
      have hs := pre_size x1 e h2
      have := l2_step x0 hx (x1.extract 0 e) (by omega) k i (by omega)
      rw [hs, pre_bt x1 e i h1 h2, if_pos h6, hr e h2 hc k (by omega)] at this
      exact this
    · obtain ⟨r, hg, hr⟩ := ih.2 (i + 1) (by omega) (by omega)
      refine fin2 r hg (fun e h1 h2 hc k hk => ?_)
      have hs := pre_size x1 e h2
      have := l2_step x0 hx (x1.extract 0 e) (by omega) k i (by omega)
      rw [hs, pre_bt x1 e i h1 h2, if_neg h6, hr e h2 hc k (by omega)] at this
      exact this
end
theorem next_pre (l : List Int) (s : ByteArray) (hc : catsB l = true) (hn : s.size ≤ 65536) (i : Nat) (hi : i ≤ s.size) (st : Int) (h0 : 0 ≤ st) (h2 : st ≤ 2) :
    ∃ r : Sc, good s.size i r ∧ ∀ e : Nat, e ≤ s.size → (e = s.size ∨ r.1 = 1 ∧ r.2.2.2.2.1 ≤ e) → ∀ k, 2 * s.size + 300 < k → impl_Next.f k l (s.extract 0 e) i st = some r := by
  obtain ⟨r, hg, hr⟩ := (scan_pre l hc s hn (s.size - i)).1 i st rfl hi h0 h2
  have hl := (cats_at l hc).1
  refine ⟨r, hg, fun e he hcc k hk => ?_⟩
  have hs := pre_size s e he
  have hie : i ≤ e := by
    rcases hcc with h | h
    · omega
    · have := hg.2.2.1; omega
  unfold impl_Next.f
  rw [cats_i l (by omega) k (by omega), hc]
  simp only [Option.bind_some, if_true]
  rw [hs, if_neg (by omega), if_neg (by omega), if_neg (by omega), if_neg (by omega), show decide (st > 2) = false from decide_eq_false (by omega)]
  obtain ⟨k, rfl⟩ : ∃ m, k = m + 1 := ⟨k - 1, by omega⟩
  rw [impl_Next.j0, if_neg (by simp), hs]
  exact hr e he hcc k (by omega)
theorem ext_all (s : ByteArray) : s.extract 0 s.size = s := ByteArray.extract_zero_size
theorem next_ok (l : List Int) (s : ByteArray) (hc : catsB l = true) (hn : s.size ≤ 65536) (i : Nat) (hi : i ≤ s.size) (st : Int) (h0 : 0 ≤ st) (h2 : st ≤ 2) :
    ∃ r : Sc, good s.size i r ∧ (∀ k, 2 * s.size + 300 < k → impl_Next.f k l s i st = some r) ∧ (r.1 = 1 → ∀ e : Nat, r.2.2.2.2.1 ≤ e → e ≤ s.size → ∀ k, 2 * s.size + 300 < k → impl_Next.f k l (s.extract 0 e) i st = some r) := by
  obtain ⟨r, hg, hr⟩ := next_pre l s hc hn i hi st h0 h2
  refine ⟨r, hg, fun k hk => ?_, fun h1 e h3 h4 k hk => hr e h4 (.inr ⟨h1, h3⟩) k hk⟩
  have := hr s.size (Nat.le_refl _) (.inl rfl) k hk
  rw [ext_all] at this
  exact this
theorem next_no (l : List Int) (s : ByteArray) (a st : Int) (hl : l.length ≤ 1048576) (h : catsB l = false ∨ s.size > 65536) (k : Nat) (hk : l.length + 300 < k) : impl_Next.f k l s a st = some (3, 0, 0, (⟨#[]⟩ : ByteArray), 0, 0) := by
  have no : ∀ k, 0 < k → impl_Next.j0 k l s a st true = some (3, 0, 0, (⟨#[]⟩ : ByteArray), 0, 0) := by
    intro k hk
    obtain ⟨k, rfl⟩ : ∃ m, k = m + 1 := ⟨k - 1, by omega⟩
    rw [impl_Next.j0, if_pos rfl]
  unfold impl_Next.f
  rw [cats_i l hl k (by omega)]
  simp only [Option.bind_some]
  rcases h with h | h
  · rw [h, if_neg (by simp), no k (by omega)]
  · cases catsB l
    · rw [if_neg (by simp), no k (by omega)]
    · rw [if_pos rfl, if_pos (by omega), no k (by omega)]
def Step (l : List Int) (s : ByteArray) (i : Nat) (st : Int) (t : S80) (j : Nat) (st' : Int) : Prop := i < j ∧ 0 ≤ st' ∧ st' ≤ 2 ∧ ∀ k, 2 * s.size + 300 < k → impl_Next.f k l s i st = some (1, t.f0, t.f1, t.f2, (j : Int), st')
inductive Seg (l : List Int) (s : ByteArray) : Nat → Int → List S80 → Nat → Int → Prop
  | none (i : Nat) (st : Int) : Seg l s i st [] i st
  | more (i : Nat) (st : Int) (t : S80) (j : Nat) (st' : Int) (us : List S80) (e : Nat) (st2 : Int) : Step l s i st t j st' → Seg l s j st' us e st2 → Seg l s i st (t :: us) e st2
/-- The scan's end: nothing more, or a bad byte. -/
def Over (l : List Int) (s : ByteArray) (i : Nat) (st : Int) (at_ : Int) : Prop := (at_ = -1 ∧ ∃ b c d e f, ∀ k, 2 * s.size + 300 < k → impl_Next.f k l s i st = some (0, b, c, d, e, f)) ∨ ((0 ≤ at_ ∧ at_ ≤ 1000000) ∧ ∃ b c d f, ∀ k, 2 * s.size + 300 < k → impl_Next.f k l s i st = some (2, b, c, d, wrap64 (at_ + 1), f))
theorem seg_le (l : List Int) (s : ByteArray) (i : Nat) (st : Int) (us : List S80) (j : Nat) (st' : Int) (h : Seg l s i st us j st') : i ≤ j := by
  induction h with
  | none => omega
  | more i st t j st' us e st2 h1 h2 ih => have := h1.1; omega
theorem seg_snoc (l : List Int) (s : ByteArray) (i : Nat) (st : Int) (us : List S80) (j : Nat) (st' : Int) (h : Seg l s i st us j st') (t : S80) (m : Nat) (st2 : Int) (hs : Step l s j st' t m st2) : Seg l s i st (us ++ [t]) m st2 := by
  induction h with
  | none => exact .more _ _ _ _ _ _ _ _ hs (.none _ _)
  | more i st t j st' us e st3 h1 h2 ih => exact .more _ _ _ _ _ _ _ _ h1 (ih hs)
theorem seg_pre (l : List Int) (s : ByteArray) (hc : catsB l = true) (hn : s.size ≤ 65536) (i : Nat) (st : Int) (us : List S80) (j : Nat) (st' : Int) (h : Seg l s i st us j st') (e : Nat) (he : e ≤ s.size) (hj : j ≤ e) (h0 : 0 ≤ st) (h2 : st ≤ 2) : Seg l (s.extract 0 e) i st us j st' := by
  induction h with
  | none => exact .none _ _
  | more i st t j st' us m st2 h1 h3 ih =>
    obtain ⟨a, b, c, d⟩ := h1
    have := seg_le _ _ _ _ _ _ _ h3
    refine .more _ _ _ _ _ _ _ _ ⟨a, b, c, ?_⟩ (ih hj b c)
    obtain ⟨r, hg, hr, hp⟩ := next_ok l s hc hn i (by omega) st h0 h2
    have e1 := hr (2 * s.size + 301) (by omega)
    rw [d _ (by omega)] at e1
    obtain rfl := Option.some.inj e1
    intro k hk
    obtain ⟨k2, hk2⟩ : ∃ k2, k2 = 2 * s.size + 301 + k := ⟨_, rfl⟩
    obtain ⟨r2, hg2, hr2, -⟩ := next_ok l (s.extract 0 e) hc (by rw [pre_size s e he]; omega) i (by rw [pre_size s e he]; omega) st h0 h2
    have e2 := hp rfl e (by simp only; omega) he k2 (by omega)
    rw [hr2 k2 (by rw [pre_size s e he]; omega)] at e2
    rw [← e2]
    exact hr2 k (by rw [pre_size s e he] at hk ⊢; omega)
/-- Tokenize walks along a segment. -/
theorem tok_seg (l : List Int) (s : ByteArray) (i : Nat) (st : Int) (us : List S80) (j : Nat) (st' : Int) (h : Seg l s i st us j st') : ∀ (acc : List S80) (k : Nat), acc.length + us.length ≤ 1000000 → 2 * s.size + 300 < k → impl_Tokenize.l0 (k + us.length) l s acc i st = impl_Tokenize.l0 k l s (acc ++ us) j st' := by
  induction h with
  | none => intro acc k _ _; simp
  | more i st t j st' us m st2 h1 h3 ih =>
    intro acc k ha hk
    simp only [List.length_cons] at ha ⊢
    rw [show k + (us.length + 1) = (k + us.length) + 1 from rfl, impl_Tokenize.l0, h1.2.2.2 _ (by omega)]
    simp only [Option.bind_some]
    rw [if_neg (by omega), if_neg (by omega), if_neg (by omega), if_pos (by omega), ih _ k (by simp; omega) hk, List.append_assoc]
    rfl
theorem toks (l : List Int) (s : ByteArray) (hc : catsB l = true) (hn : s.size ≤ 65536) : ∀ d i : Nat, ∀ (st : Int), s.size - i ≤ d → i ≤ s.size → 0 ≤ st → st ≤ 2 →
    ∃ us j st' at_, Seg l s i st us j st' ∧ Over l s j st' at_ ∧ us.length ≤ d ∧ j ≤ s.size := by
  intro d
  induction d with
  | zero =>
    intro i st hd hi h0 h2
    obtain ⟨⟨a, b, c, m, e, f⟩, hg, hr, -⟩ := next_ok l s hc hn i hi st h0 h2
    obtain ⟨g1, g2, g3, g4, g5, g6⟩ := hg
    simp only at g1 g2 g3 g4 g5 g6
    obtain rfl : a = 0 := by
      rcases g1 with g | g | g
      · exact g
      · have := g2 (by omega); omega
      · have := g2 (by omega); omega
    exact ⟨[], i, st, -1, .none _ _, .inl ⟨rfl, _, _, _, _, _, hr⟩, by simp, hi⟩
  | succ d ih =>
    intro i st hd hi h0 h2
    obtain ⟨⟨a, b, c, m, e, f⟩, hg, hr, -⟩ := next_ok l s hc hn i hi st h0 h2
    obtain ⟨g1, g2, g3, g4, g5, g6⟩ := hg
    simp only at g1 g2 g3 g4 g5 g6
    rcases g1 with rfl | rfl | rfl
    · exact ⟨[], i, st, -1, .none _ _, .inl ⟨rfl, _, _, _, _, _, hr⟩, by simp, hi⟩
    · obtain ⟨j, rfl⟩ := Int.eq_ofNat_of_zero_le (show 0 ≤ e by omega)
      have := g2 (by omega)
      obtain ⟨us, j2, st2, at_, hs, ho, hl, hj⟩ := ih j f (by omega) (by omega) g5 g6
      exact ⟨⟨b, c, m⟩ :: us, j2, st2, at_, .more _ _ _ _ _ _ _ _ ⟨by omega, g5, g6, hr⟩ hs, ho, by simp; omega, hj⟩
    · have := g2 (by omega)
      refine ⟨[], i, st, e - 1, .none _ _, .inr ⟨⟨by omega, by omega⟩, b, c, m, f, ?_⟩, by simp, hi⟩
      rw [show e - 1 + 1 = e by omega, wrap_in e (by omega) (by omega)]
      exact hr
theorem tok_over (l : List Int) (s : ByteArray) (j : Nat) (st at_ : Int) (h : Over l s j st at_) (hn : at_ ≤ 1000000) (acc : List S80) (k : Nat) (hk : 2 * s.size + 301 < k) : impl_Tokenize.l0 k l s acc j st = some (acc, at_) := by
  obtain ⟨k, rfl⟩ : ∃ m, k = m + 1 := ⟨k - 1, by omega⟩
  rcases h with ⟨rfl, b, c, d, e, f, h⟩ | ⟨h0, b, c, d, f, h⟩
  · rw [impl_Tokenize.l0, h k (by omega)]
    simp only [Option.bind_some]
    rw [if_neg (by omega), if_pos trivial]
  · rw [impl_Tokenize.l0, h k (by omega)]
    simp only [Option.bind_some]
    rw [if_neg (by omega), if_neg (by omega), if_pos trivial, wrap_in (at_ + 1) (by omega) (by omega), show at_ + 1 - 1 = at_ by omega, wrap_in at_ (by omega) (by omega)]
theorem over_at (l : List Int) (s : ByteArray) (hc : catsB l = true) (hn : s.size ≤ 65536) (j : Nat) (hj : j ≤ s.size) (st at_ : Int) (h0 : 0 ≤ st) (h2 : st ≤ 2) (h : Over l s j st at_) : at_ ≤ 1000000 := by
  rcases h with ⟨rfl, -⟩ | ⟨h0', -⟩
  · omega
  · exact h0'.2
theorem seg_st (l : List Int) (s : ByteArray) (i : Nat) (st : Int) (us : List S80) (j : Nat) (st' : Int) (h : Seg l s i st us j st') (h0 : 0 ≤ st ∧ st ≤ 2) : 0 ≤ st' ∧ st' ≤ 2 := by
  induction h with
  | none => exact h0
  | more i st t j st' us m st2 h1 h3 ih => exact ih ⟨h1.2.1, h1.2.2.1⟩
/-- Tokenize of a prefix that ends behind a token gives the tokens up to there, and no bad byte. -/
theorem tok_pre (l : List Int) (s : ByteArray) (hc : catsB l = true) (hn : s.size ≤ 65536) (us : List S80) (j : Nat) (st' : Int) (h : Seg l s 0 0 us j st') (hj : j ≤ s.size) (hu : us.length ≤ 100000) (k : Nat) (hk : 2 * s.size + us.length + 310 < k) : impl_Tokenize.f k l (s.extract 0 j) = some (us, -1) := by
  have hs := pre_size s j hj
  have hst := seg_st _ _ _ _ _ _ _ h (by omega)
  have h' := seg_pre l s hc hn 0 0 us j st' h j hj (Nat.le_refl _) (by omega) (by omega)
  unfold impl_Tokenize.f
  obtain ⟨k, rfl⟩ : ∃ m, k = m + us.length := ⟨k - us.length, by omega⟩
  have := tok_seg l (s.extract 0 j) 0 0 us j st' h' [] k (by simp; omega) (by omega)
  rw [show ((0 : Nat) : Int) = 0 from rfl] at this
  rw [this, List.nil_append]
  refine tok_over l (s.extract 0 j) j st' (-1) (.inl ⟨rfl, ?_⟩) (by omega) us k (by omega)
  obtain ⟨⟨a, b, c, m, e, f⟩, hg, hr, -⟩ := next_ok l (s.extract 0 j) hc (by omega) j (by omega) st' hst.1 hst.2
  obtain ⟨g1, g2, g3, g4, g5, g6⟩ := hg
  simp only at g1 g2 g3 g4 g5 g6
  obtain rfl : a = 0 := by
    rcases g1 with g | g | g
    · exact g
    · have := g2 (by omega); omega
    · have := g2 (by omega); omega
  exact ⟨_, _, _, _, _, hr⟩
theorem rd80 (l : List S80) (i : Nat) (h : i < l.length) : rd_T80 l (i : Int) = l[i] := by simp [rd_T80, h]
theorem same_l0 (l : List S80) (hl : l.length ≤ 1048576) : ∀ d k i : Nat, l.length - i = d → i ≤ l.length → d < k → laws_sameTokens.l0 k l l i = some true := by
  intro d
  induction d with
  | zero =>
    intro k i hd hi hk
    obtain ⟨k, rfl⟩ : ∃ m, k = m + 1 := ⟨k - 1, by omega⟩
    rw [laws_sameTokens.l0, if_neg (by omega)]
  | succ d ih =>
    intro k i hd hi hk
    obtain ⟨k, rfl⟩ : ∃ m, k = m + 1 := ⟨k - 1, by omega⟩
    rw [laws_sameTokens.l0, if_pos (by omega), if_pos (by omega), if_pos (by omega), if_neg (by simp), wrap_succ i (by omega)]
    exact ih k (i + 1) (by omega) (by omega) (by omega)
theorem same_f (l : List S80) (hl : l.length ≤ 1048576) (k : Nat) (hk : l.length < k) : laws_sameTokens.f k l l = some true := by
  unfold laws_sameTokens.f
  rw [if_pos rfl]
  exact same_l0 l hl l.length k 0 (by omega) (by omega) hk
section
variable (x1 : List Int) (l : List Int) (s : ByteArray) (hc : catsB l = true) (hn : s.size ≤ 65536) (ts : List S80) (hts : ts.length ≤ 70000) (at_ : Int)
include hc hn hts
theorem law_end (n m : Nat) (hm : m ≤ ts.length) (st : Int) (hseg : Seg l s 0 0 (ts.take m) n st) (hj : n ≤ s.size) (k : Nat) (hk : 2 * s.size + 200000 < k) :
    (if 0 ≤ (n : Int) then (if (n : Int) ≤ (s.size : Int) then ((impl_Tokenize.f k l (s.extract 0 (n : Int).toNat)).bind fun bt320 => (if bt320.2 = (-1) then (if 0 ≤ (m : Int) then (if (m : Int) ≤ (ts.length : Int) then ((laws_sameTokens.f k bt320.1 (ts.take (m : Int).toNat)).bind fun t328 => (some t328)) else (none)) else (none)) else (some false))) else (none)) else (none)) = some true := by
  have hl : (ts.take m).length ≤ 70000 := by simp; omega
  rw [if_pos (by omega), if_pos (by omega), Int.toNat_natCast, tok_pre l s hc hn (ts.take m) n st hseg hj (by omega) k (by omega)]
  simp only [Option.bind_some, if_true]
  rw [if_pos (by omega), if_pos (by omega), Int.toNat_natCast, same_f _ (by omega) k (by omega)]
  rfl
theorem law_loop (k0 : Nat) (hk0 : 2 * s.size + 200000 < k0) : ∀ d : Nat, ∀ (i : Nat) (pos : Nat) (st : Int) (n m : Nat) (st2 : Int) (e : Nat) (st3 : Int), ts.length - i = d → i ≤ ts.length → Seg l s 0 0 (ts.take i) pos st → Seg l s pos st (ts.drop i) e st3 → Over l s e st3 at_ → e ≤ s.size →
    m ≤ ts.length → Seg l s 0 0 (ts.take m) n st2 → n ≤ s.size → 0 ≤ st → st ≤ 2 →
    ∀ k, k0 + 2 * d < k → laws_FnNextAll.l0 k x1 l s ts at_ pos st n m i = some true := by
  intro d
  induction d with
  | zero =>
    intro i pos st n m st2 e st3 hd hi h1 h2 h3 he hm h4 hnn h0 h02 k hk
    obtain ⟨k, rfl⟩ : ∃ q, k = q + 1 := ⟨k - 1, by omega⟩
    obtain rfl : i = ts.length := by omega
    rw [List.drop_length] at h2
    cases h2
    have E := law_end l s hc hn ts hts n m hm st2 h4 hnn k (by omega)
    rw [laws_FnNextAll.l0, if_pos (by omega)]
    rcases h3 with ⟨rfl, b, c, d', e', f, h3⟩ | ⟨h5, b, c, d', f, h3⟩
    · rw [h3 k (by omega)]
      simp only [Option.bind_some]
      rw [if_pos trivial, if_pos trivial, if_pos trivial, if_neg (by omega)]
      exact E
    · rw [h3 k (by omega)]
      simp only [Option.bind_some]
      rw [if_pos trivial, if_neg (by omega), if_pos (by omega), if_pos trivial, if_pos trivial]
      exact E
  | succ d ih =>
    intro i pos st n m st2 e st3 hd hi h1 h2 h3 he hm h4 hnn h0 h02 k hk
    obtain ⟨k, rfl⟩ : ∃ q, k = q + 2 := ⟨k - 2, by omega⟩
    have hlt : i < ts.length := by omega
    rw [List.drop_eq_getElem_cons hlt] at h2
    cases h2 with
    | more _ _ _ j st' _ _ _ g1 g2 =>
      have h1' := seg_snoc _ _ _ _ _ _ _ h1 _ _ _ g1
      rw [← List.take_succ_eq_append_getElem hlt] at h1'
      have hje := seg_le _ _ _ _ _ _ _ g2
      obtain ⟨a, b, c, g⟩ := g1
      rw [laws_FnNextAll.l0, if_pos (by omega), g (k + 1) (by omega)]
      simp only [Option.bind_some]
      rw [if_neg (by omega), if_pos trivial, if_pos (by omega), if_pos (by omega), rd80 ts i hlt, if_neg (by simp), show decide ((j : Int) ≤ (pos : Int)) = false from decide_eq_false (by omega)]
      rw [laws_FnNextAll.j2, if_neg (by simp), wrap_succ i (by omega)]
      split
      · exact ih (i + 1) j st' j (i + 1) st' e st3 (by omega) (by omega) h1' g2 h3 he (by omega) h1' (by omega) b c k (by omega)
      · exact ih (i + 1) j st' n m st2 e st3 (by omega) (by omega) h1' g2 h3 he hm h4 hnn b c k (by omega)
end
theorem and_small (x : Int) (m : Nat) (h : m < 9223372036854775808) : 0 ≤ Go.bits .and .i64 x m ∧ Go.bits .and .i64 x m ≤ m := by
  have e : Go.bits .and .i64 x m = Go.IntKind.i64.wrap ((BitVec.ofInt 64 x &&& BitVec.ofInt 64 (m : Int)).toNat : Int) := rfl
  have h1 : (BitVec.ofInt 64 x &&& BitVec.ofInt 64 (m : Int)).toNat ≤ m := by
    rw [BitVec.toNat_and]
    refine Nat.le_trans Nat.and_le_right ?_
    simp
    omega
  rw [e, i64_w, wrap_in _ (by omega) (by omega)]
  omega
theorem and_255 (x : Int) : 0 ≤ Go.bits .and .i64 x 255 ∧ Go.bits .and .i64 x 255 ≤ 255 := and_small x 255 (by omega)
section
variable (l : List Int) (hl : l.length ≤ 1048576)
include hl
theorem byte_ok (p h : Int) (h0 : 0 ≤ p) (h1 : p ≤ l.length) : ∃ (v p' h' : Int), spec_l1Byte.f l p h = some (v, p', h') ∧ 0 ≤ v ∧ v ≤ 255 ∧ 0 ≤ p' ∧ p' ≤ l.length := by
  unfold spec_l1Byte.f
  by_cases hlt : p < (l.length : Int)
  · rw [if_pos hlt, if_pos h0, wrap_in (p + 1) (by omega) (by omega)]
    exact ⟨_, _, _, rfl, (and_255 _).1, (and_255 _).2, by omega, by omega⟩
  · rw [if_neg hlt]
    exact ⟨_, _, _, rfl, (and_255 _).1, (and_255 _).2, h0, h1⟩
theorem below_ok (n p h : Int) (h0 : 0 ≤ p) (h1 : p ≤ l.length) (hn : 0 < n) : ∃ v p' h', spec_l1Below.f l p h n = some (v, p', h') ∧ 0 ≤ v ∧ v < n ∧ 0 ≤ p' ∧ p' ≤ l.length := by
  unfold spec_l1Below.f
  rw [if_neg (by omega)]
  split
  · obtain ⟨v, p', h', e, a, b, c, d⟩ := byte_ok l hl p h h0 h1
    rw [e]
    simp only [Option.bind_some]
    rw [if_neg (by omega)]
    exact ⟨_, _, _, rfl, Int.tmod_nonneg _ a, Int.tmod_lt_of_pos _ hn, c, d⟩
  · obtain ⟨v1, p1, h1', e1, a1, b1, c1, d1⟩ := byte_ok l hl p h h0 h1
    obtain ⟨v2, p2, h2', e2, a2, b2, c2, d2⟩ := byte_ok l hl p1 h1' c1 d1
    obtain ⟨v3, p3, h3', e3, a3, b3, c3, d3⟩ := byte_ok l hl p2 h2' c2 d2
    obtain ⟨v4, p4, h4', e4, a4, b4, c4, d4⟩ := byte_ok l hl p3 h3' c3 d3
    rw [e1]
    simp only [Option.bind_some]
    rw [e2]
    simp only [Option.bind_some]
    rw [e3]
    simp only [Option.bind_some]
    rw [e4]
    simp only [Option.bind_some]
    rw [if_neg (by omega)]
    refine ⟨_, _, _, rfl, Int.tmod_nonneg _ ?_, Int.tmod_lt_of_pos _ hn, c4, d4⟩
    unfold wrap64
    omega
theorem once_ok (n p h : Int) (h0 : 0 ≤ p) (h1 : p ≤ l.length) (hn : 0 < n) : ∃ v p' h', spec_l1Once.f l p h n = some (v, p', h') ∧ 0 ≤ p' ∧ p' ≤ l.length := by
  obtain ⟨v, p', h', e, -, -, c, d⟩ := below_ok l hl n p h h0 h1 hn
  unfold spec_l1Once.f
  rw [e]
  exact ⟨_, _, _, rfl, c, d⟩
theorem new_l0 : ∀ d i : Nat, ∀ h : Int, l.length - i = d → i ≤ l.length → ∃ h', ∀ k, d < k → spec_l1New.l0 k l h i = some (l, 0, h') := by
  intro d
  induction d with
  | zero =>
    intro i h hd hi
    refine ⟨h, fun k hk => ?_⟩
    obtain ⟨k, rfl⟩ : ∃ m, k = m + 1 := ⟨k - 1, by omega⟩
    rw [spec_l1New.l0, if_neg (by omega)]
  | succ d ih =>
    intro i h hd hi
    obtain ⟨h', hh⟩ := ih (i + 1) (Go.bits .and .i64 (wrap64 ((wrap64 ((wrap64 (h * 137)) + (wrap64 (rd l i)))) + 11)) 1073741823) (by omega) (by omega)
    refine ⟨h', fun k hk => ?_⟩
    obtain ⟨k, rfl⟩ : ∃ m, k = m + 1 := ⟨k - 1, by omega⟩
    rw [spec_l1New.l0, if_pos (by omega), if_pos (by omega), wrap_succ i (by omega)]
    exact hh k (by omega)
theorem new_ok : ∃ h', ∀ k, l.length < k → spec_l1New.f k l = some (l, 0, h') := by
  obtain ⟨h', hh⟩ := new_l0 l hl l.length 0 (wrap64 (91237 + (l.length : Int))) (by omega) (by omega)
  exact ⟨h', fun k hk => hh k hk⟩
end
theorem letter_ok (a : Int) : ∃ b, spec_l2Letter.f a = some b := by
  unfold spec_l2Letter.f
  split
  · split
    · exact ⟨_, rfl⟩
    · split <;> exact ⟨_, rfl⟩
  · split <;> exact ⟨_, rfl⟩
theorem plain_l0 : ∀ d i : Nat, ∀ x : List Int, 256 - i = d → i ≤ 256 → x.length = i → ∃ r, r.length = 256 ∧ ∀ k, d < k → spec_PlainCats.l0 k x i = some r := by
  intro d
  induction d with
  | zero =>
    intro i x hd hi hx
    refine ⟨(((((((((((((((x.set (92 : Int).toNat 0).set (123 : Int).toNat 1).set (125 : Int).toNat 2).set (32 : Int).toNat 3).set (9 : Int).toNat 3).set (10 : Int).toNat 6).set (35 : Int).toNat 7).set (37 : Int).toNat 8).set (0 : Int).toNat 9).set (36 : Int).toNat 10).set (94 : Int).toNat 11).set (95 : Int).toNat 12).set (38 : Int).toNat 13).set (126 : Int).toNat 14).set (127 : Int).toNat 15), by simp; omega, fun k hk => ?_⟩
    obtain ⟨k, rfl⟩ : ∃ m, k = m + 1 := ⟨k - 1, by omega⟩
    rw [spec_PlainCats.l0, if_neg (by omega)]
    repeat rw [if_pos (by omega)]
  | succ d ih =>
    intro i x hd hi hx
    obtain ⟨b, hb⟩ := letter_ok ((i : Int) % 256)
    obtain ⟨r, hr, hh⟩ := ih (i + 1) (x ++ [if b = true then 4 else 5]) (by omega) (by omega) (by simp; omega)
    refine ⟨r, hr, fun k hk => ?_⟩
    obtain ⟨k, rfl⟩ : ∃ m, k = m + 1 := ⟨k - 1, by omega⟩
    have hx2 : x.length < 17592186044416 := by omega
    have hg := hh k (by omega)
    rw [spec_PlainCats.l0, if_pos (by omega), hb]
    simp only [Option.bind_some]
    rw [wrap_succ i (by omega)]
    cases b
    · rw [if_neg (by simp), if_pos hx2]
      exact hg
    · rw [if_pos rfl, if_pos hx2]
      exact hg
theorem plain_ok : ∃ r : List Int, r.length = 256 ∧ ∀ k, 256 < k → spec_PlainCats.f k = some r := by
  obtain ⟨r, h1, h2⟩ := plain_l0 256 0 [] (by omega) (by omega) rfl
  exact ⟨r, h1, fun k hk => h2 k hk⟩
section
variable (l : List Int) (hl : l.length ≤ 1048576)
include hl
theorem cats_l0 : ∀ d n : Nat, n = d → n ≤ 256 → ∀ (x : List Int) (p h : Int), x.length = 256 → 0 ≤ p → p ≤ l.length → ∃ (r : List Int) (p' h' : Int), (r.length ≤ 256 ∧ 0 ≤ p' ∧ p' ≤ l.length) ∧ ∀ k, d < k → spec_l2DrawCats.l0 k x n l p h = some (r, p', h') := by
  intro d
  induction d with
  | zero =>
    intro n hn hle x p h hx h0 h1
    subst hn
    obtain ⟨b, p1, h1', e1, c1, d1⟩ := once_ok l hl 30 p h h0 h1 (by omega)
    cases b
    · obtain ⟨b2, p2, h2', e2, c2, d2⟩ := once_ok l hl 40 p1 h1' c1 d1 (by omega)
      cases b2
      · refine ⟨x, p2, h2', ⟨by omega, c2, d2⟩, fun k hk => ?_⟩
        obtain ⟨k, rfl⟩ : ∃ m, k = m + 1 := ⟨k - 1, by omega⟩
        rw [spec_l2DrawCats.l0, if_neg (by omega), e1]
        simp [e2]
      · refine ⟨x.take 255, p2, h2', ⟨by simp; omega, c2, d2⟩, fun k hk => ?_⟩
        obtain ⟨k, rfl⟩ : ∃ m, k = m + 1 := ⟨k - 1, by omega⟩
        rw [spec_l2DrawCats.l0, if_neg (by omega), e1]
        simp [e2]
        omega
    · obtain ⟨v, p2, h2', e2, a2, b2, c2, d2⟩ := below_ok l hl 3 p1 h1' c1 d1 (by omega)
      obtain ⟨b3, p3, h3', e3, c3, d3⟩ := once_ok l hl 40 p2 h2' c2 d2 (by omega)
      cases b3
      · refine ⟨x.set 7 (rd [(-1), 16, 15] v), p3, h3', ⟨by simp; omega, c3, d3⟩, fun k hk => ?_⟩
        obtain ⟨k, rfl⟩ : ∃ m, k = m + 1 := ⟨k - 1, by omega⟩
        rw [spec_l2DrawCats.l0, if_neg (by omega), e1]
        simp only [Option.bind_some, if_true]
        rw [e2]
        simp only [Option.bind_some]
        rw [if_pos a2, if_pos (by simp; omega), if_pos (by omega), e3]
        simp
      · refine ⟨(x.set 7 (rd [(-1), 16, 15] v)).take 255, p3, h3', ⟨by simp; omega, c3, d3⟩, fun k hk => ?_⟩
        obtain ⟨k, rfl⟩ : ∃ m, k = m + 1 := ⟨k - 1, by omega⟩
        rw [spec_l2DrawCats.l0, if_neg (by omega), e1]
        simp only [Option.bind_some, if_true]
        rw [e2]
        simp only [Option.bind_some]
        rw [if_pos a2, if_pos (by simp; omega), if_pos (by omega), e3]
        simp
        omega
  | succ d ih =>
    intro n hn hle x p h hx h0 h1
    obtain ⟨v1, p1, h1', e1, a1, b1, c1, d1⟩ := below_ok l hl 128 p h h0 h1 (by omega)
    obtain ⟨v2, p2, h2', e2, a2, b2, c2, d2⟩ := below_ok l hl 16 p1 h1' c1 d1 (by omega)
    obtain ⟨r, p', h', g, hh⟩ := ih (n - 1) (by omega) (by omega) (x.set v1.toNat v2) p2 h2' (by simpa using hx) c2 d2
    refine ⟨r, p', h', g, fun k hk => ?_⟩
    obtain ⟨k, rfl⟩ : ∃ m, k = m + 1 := ⟨k - 1, by omega⟩
    rw [spec_l2DrawCats.l0, if_pos (by omega), e1]
    simp only [Option.bind_some]
    rw [e2]
    simp only [Option.bind_some]
    rw [if_pos a1, if_pos (by omega), wrap_in ((n : Int) - 1) (by omega) (by omega), show (n : Int) - 1 = ((n - 1 : Nat) : Int) by omega]
    exact hh k (by omega)
theorem cats_ok (p h : Int) (h0 : 0 ≤ p) (h1 : p ≤ l.length) : ∃ (r : List Int) (p' h' : Int), (r.length ≤ 256 ∧ 0 ≤ p' ∧ p' ≤ l.length) ∧ ∀ k, 300 < k → spec_l2DrawCats.f k l p h = some (r, p', h') := by
  obtain ⟨c, hc, hcc⟩ := plain_ok
  obtain ⟨v, p1, h1', e, a, b, c1, d1⟩ := below_ok l hl 4 p h h0 h1 (by omega)
  obtain ⟨n, rfl⟩ := Int.eq_ofNat_of_zero_le a
  obtain ⟨r, p', h', g, hh⟩ := cats_l0 l hl n n rfl (by omega) c p1 h1' hc c1 d1
  refine ⟨r, p', h', g, fun k hk => ?_⟩
  unfold spec_l2DrawCats.f
  rw [hcc k (by omega)]
  simp only [Option.bind_some]
  rw [e]
  exact hh k (by omega)
theorem text_l1 (p h : Int) : ∀ d n : Nat, n = d → n ≤ 1000 → ∀ x : List Int, x.length + n ≤ 100000 → ∃ r : ByteArray, r.size ≤ x.length + n ∧ ∀ k, d < k → spec_l2DrawText.l1 k x n l p h = some (r, p, h) := by
  intro d
  induction d with
  | zero =>
    intro n hn hle x hx
    subst hn
    refine ⟨strOfNums x, by simp [strOfNums, ByteArray.size], fun k hk => ?_⟩
    obtain ⟨k, rfl⟩ : ∃ m, k = m + 1 := ⟨k - 1, by omega⟩
    rw [spec_l2DrawText.l1, if_neg (by omega)]
  | succ d ih =>
    intro n hn hle x hx
    obtain ⟨r, g, hh⟩ := ih (n - 1) (by omega) (by omega) (x ++ [113]) (by simp; omega)
    refine ⟨r, by simp at g; omega, fun k hk => ?_⟩
    obtain ⟨k, rfl⟩ : ∃ m, k = m + 1 := ⟨k - 1, by omega⟩
    rw [spec_l2DrawText.l1, if_pos (by omega), if_pos (by omega), wrap_in ((n : Int) - 1) (by omega) (by omega), show (n : Int) - 1 = ((n - 1 : Nat) : Int) by omega]
    exact hh k (by omega)
theorem text_l0 (N : Nat) (hN : N ≤ 100) : ∀ d i : Nat, N - i = d → i ≤ N → ∀ (x : List Int) (p h : Int), x.length + d ≤ 1000 → 0 ≤ p → p ≤ l.length → ∃ (r : ByteArray) (p' h' : Int), (r.size ≤ x.length + d + 100 ∧ 0 ≤ p' ∧ p' ≤ l.length) ∧ ∀ k, 3 * d + 200 < k → spec_l2DrawText.l0 k N x i l p h = some (r, p', h') := by
  intro d
  induction d with
  | zero =>
    intro i hd hi x p h hx h0 h1
    obtain rfl : i = N := by omega
    obtain ⟨b, p1, h1', e1, c1, d1⟩ := once_ok l hl 40 p h h0 h1 (by omega)
    cases b
    · have e_ : (strOfNums x).size = x.length := by simp [strOfNums, ByteArray.size]
      refine ⟨strOfNums x, p1, h1', ⟨by omega, c1, d1⟩, fun k hk => ?_⟩
      obtain ⟨k, rfl⟩ : ∃ m, k = m + 1 := ⟨k - 1, by omega⟩
      rw [spec_l2DrawText.l0, if_neg (by omega), e1]
      simp
    · obtain ⟨v, p2, h2', e2, a2, b2, c2, d2⟩ := below_ok l hl 5 p1 h1' c1 d1 (by omega)
      obtain ⟨n, rfl⟩ := Int.eq_ofNat_of_zero_le a2
      obtain ⟨r, g, hh⟩ := text_l1 l hl p2 h2' (n + 38) (n + 38) rfl (by omega) (x ++ [92]) (by simp; omega)
      refine ⟨r, p2, h2', ⟨by simp at g; omega, c2, d2⟩, fun k hk => ?_⟩
      obtain ⟨k, rfl⟩ : ∃ m, k = m + 1 := ⟨k - 1, by omega⟩
      rw [spec_l2DrawText.l0, if_neg (by omega), e1]
      simp only [Option.bind_some, if_true]
      rw [if_pos (by omega), e2]
      simp only [Option.bind_some]
      rw [wrap_in ((n : Int) + 38) (by omega) (by omega)]
      exact hh k (by omega)
  | succ d ih =>
    intro i hd hi x p h hx h0 h1
    have go : ∀ (b p1 h1' : Int), 0 ≤ p1 → p1 ≤ l.length → ∃ (r : ByteArray) (p' h' : Int), (r.size ≤ x.length + (d + 1) + 100 ∧ 0 ≤ p' ∧ p' ≤ l.length) ∧ ∀ k, 3 * d + 200 < k → (if x.length < 140737488355328 then spec_l2DrawText.l0 k N (x ++ [b]) (wrap64 ((i : Int) + 1)) l p1 h1' else none) = some (r, p', h') := by
      intro b p1 h1' g0 g1
      obtain ⟨r, p', h', ⟨g, gg⟩, hh⟩ := ih (i + 1) (by omega) (by omega) (x ++ [b]) p1 h1' (by simp; omega) g0 g1
      refine ⟨r, p', h', ⟨by simp at g; omega, gg⟩, fun k hk => ?_⟩
      rw [if_pos (by omega), wrap_succ i (by omega)]
      exact hh k hk
    obtain ⟨v, p1, h1', e1, a1, b1, c1, d1⟩ := below_ok l hl 16 p h h0 h1 (by omega)
    have st : ∀ k, spec_l2DrawText.l0 (k + 1) N x i l p h = (if v = 0 then (if x.length < 140737488355328 then spec_l2DrawText.l0 k N (x ++ [92]) (wrap64 ((i : Int) + 1)) l p1 h1' else none) else spec_l2DrawText.j1 k N x i v (decide (v ≤ 3)) l p1 h1') := by
      intro k
      rw [spec_l2DrawText.l0, if_pos (by omega), e1]
      simp only [Option.bind_some]
      by_cases v0 : v = 0
      · rw [if_pos v0, if_pos v0]
      · rw [if_neg v0, if_neg v0]
        by_cases v1 : v = 1
        · rw [if_pos v1, show (v == 1) = decide (v ≤ 3) by subst v1; decide]
        · rw [if_neg v1]
          by_cases v2 : v = 2
          · rw [if_pos v2, show (v == 2) = decide (v ≤ 3) by subst v2; decide]
          · rw [if_neg v2]
            by_cases v3 : v = 3
            · rw [show (v == 3) = decide (v ≤ 3) by subst v3; decide]
            · rw [show (v == 3) = decide (v ≤ 3) by rw [show decide (v ≤ 3) = false from decide_eq_false (by omega)]; exact beq_false_of_ne v3]
    have sj : ∀ k, ¬ v ≤ 3 → spec_l2DrawText.j1 (k + 1) N x i v (decide (v ≤ 3)) l p1 h1' = spec_l2DrawText.j2 k N x i v (decide (v ≤ 5)) l p1 h1' := by
      intro k hv
      rw [spec_l2DrawText.j1, if_neg (by simpa using hv)]
      by_cases v4 : v = 4
      · rw [if_pos v4, show (v == 4) = decide (v ≤ 5) by subst v4; decide]
      · rw [if_neg v4]
        by_cases v5 : v = 5
        · rw [show (v == 5) = decide (v ≤ 5) by subst v5; decide]
        · rw [show (v == 5) = decide (v ≤ 5) by rw [show decide (v ≤ 5) = false from decide_eq_false (by omega)]; exact beq_false_of_ne v5]
    by_cases v0 : v = 0
    · obtain ⟨r, p', h', g, hh⟩ := go 92 p1 h1' c1 d1
      refine ⟨r, p', h', g, fun k hk => ?_⟩
      obtain ⟨k, rfl⟩ : ∃ m, k = m + 1 := ⟨k - 1, by omega⟩
      rw [st, if_pos v0]
      exact hh k (by omega)
    by_cases v3 : v ≤ 3
    · obtain ⟨r, p', h', g, hh⟩ := go 32 p1 h1' c1 d1
      refine ⟨r, p', h', g, fun k hk => ?_⟩
      obtain ⟨k, rfl⟩ : ∃ m, k = m + 2 := ⟨k - 2, by omega⟩
      rw [st, if_neg v0, spec_l2DrawText.j1, if_pos (by simpa using v3)]
      exact hh k (by omega)
    have fin : ∀ (r : ByteArray) (p' h' : Int), (r.size ≤ x.length + (d + 1) + 100 ∧ 0 ≤ p' ∧ p' ≤ l.length) → (∀ k, 3 * d + 200 < k → spec_l2DrawText.j2 (k + 1) N x i v (decide (v ≤ 5)) l p1 h1' = some (r, p', h')) → ∃ (r : ByteArray) (p' h' : Int), (r.size ≤ x.length + (d + 1) + 100 ∧ 0 ≤ p' ∧ p' ≤ l.length) ∧ ∀ k, 3 * (d + 1) + 200 < k → spec_l2DrawText.l0 k N x i l p h = some (r, p', h') := by
      intro r p' h' g hh
      refine ⟨r, p', h', g, fun k hk => ?_⟩
      obtain ⟨k, rfl⟩ : ∃ m, k = m + 3 := ⟨k - 3, by omega⟩
      rw [st, if_neg v0, sj _ v3]
      exact hh k (by omega)
    by_cases v5 : v ≤ 5
    · obtain ⟨r, p', h', g, hh⟩ := go 10 p1 h1' c1 d1
      refine fin r p' h' g (fun k hk => ?_)
      rw [spec_l2DrawText.j2, if_pos (by simpa using v5)]
      exact hh k hk
    by_cases v6 : v = 6
    · obtain ⟨w, p2, h2', e2, a2, b2, c2, d2⟩ := below_ok l hl 8 p1 h1' c1 d1 (by omega)
      obtain ⟨r, p', h', g, hh⟩ := go (bt (⟨#[123, 125, 36, 94, 95, 38, 35, 126]⟩ : ByteArray) w) p2 h2' c2 d2
      refine fin r p' h' g (fun k hk => ?_)
      rw [spec_l2DrawText.j2, if_neg (by simpa using v5), if_pos v6, e2]
      simp only [Option.bind_some]
      rw [if_pos a2, if_pos (by omega)]
      exact hh k hk
    by_cases v7 : v = 7
    · obtain ⟨r, p', h', g, hh⟩ := go 37 p1 h1' c1 d1
      refine fin r p' h' g (fun k hk => ?_)
      rw [spec_l2DrawText.j2, if_neg (by simpa using v5), if_neg v6, if_pos v7]
      exact hh k hk
    by_cases v8 : v = 8
    · obtain ⟨w, p2, h2', e2, a2, b2, c2, d2⟩ := below_ok l hl 256 p1 h1' c1 d1 (by omega)
      obtain ⟨r, p', h', g, hh⟩ := go (w % 256) p2 h2' c2 d2
      refine fin r p' h' g (fun k hk => ?_)
      rw [spec_l2DrawText.j2, if_neg (by simpa using v5), if_neg v6, if_neg v7, if_pos v8, e2]
      simp only [Option.bind_some]
      exact hh k hk
    · obtain ⟨w, p2, h2', e2, a2, b2, c2, d2⟩ := below_ok l hl 26 p1 h1' c1 d1 (by omega)
      obtain ⟨r, p', h', g, hh⟩ := go ((wrap64 (97 + w)) % 256) p2 h2' c2 d2
      refine fin r p' h' g (fun k hk => ?_)
      rw [spec_l2DrawText.j2, if_neg (by simpa using v5), if_neg v6, if_neg v7, if_neg v8, e2]
      simp only [Option.bind_some]
      exact hh k hk
theorem draw_ok : ∃ r : List Int × ByteArray, (∀ k, 1048576 + 1000 < k → spec_DrawTokenize.f k l = some r) ∧ r.1.length ≤ 256 ∧ r.2.size ≤ 65537 := by
  obtain ⟨h, hh⟩ := new_ok l hl
  obtain ⟨c, p1, h1, ⟨g1, c1, d1⟩, hc⟩ := cats_ok l hl 0 h (by omega) (by omega)
  obtain ⟨v, p2, h2, e2, a2, b2, c2, d2⟩ := below_ok l hl 60 p1 h1 c1 d1 (by omega)
  obtain ⟨n, rfl⟩ := Int.eq_ofNat_of_zero_le a2
  obtain ⟨t, p3, h3, ⟨g3, c3, d3⟩, ht⟩ := text_l0 l hl n (by omega) n 0 (by omega) (by omega) [] p2 h2 (by simp; omega) c2 d2
  obtain ⟨b, p4, h4, e4, c4, d4⟩ := once_ok l hl 60 p3 h3 c3 d3 (by omega)
  have ht' : ∀ k, 1000 < k → spec_l2DrawText.f k l p2 h2 (n : Int) = some (t, p3, h3) := fun k hk => ht k (by omega)
  cases b
  · refine ⟨(c, t), fun k hk => ?_, g1, by simp at g3 ⊢; omega⟩
    unfold spec_DrawTokenize.f
    rw [hh k (by omega)]
    simp only [Option.bind_some]
    rw [hc k (by omega)]
    simp only [Option.bind_some]
    rw [e2]
    simp only [Option.bind_some]
    rw [ht' k (by omega)]
    simp only [Option.bind_some]
    rw [e4]
    simp
  · obtain ⟨w, p5, h5, e5, a5, b5, c5, d5⟩ := below_ok l hl 2 p4 h4 c4 d4 (by omega)
    refine ⟨(c, strOfNums (List.replicate (wrap64 (65536 + w) : Int).toNat 0)), fun k hk => ?_, g1, by rw [wrap_in (65536 + w) (by omega) (by omega)]; simp [strOfNums, ByteArray.size]; omega⟩
    unfold spec_DrawTokenize.f
    rw [hh k (by omega)]
    simp only [Option.bind_some]
    rw [hc k (by omega)]
    simp only [Option.bind_some]
    rw [e2]
    simp only [Option.bind_some]
    rw [ht' k (by omega)]
    simp only [Option.bind_some]
    rw [e4]
    simp only [Option.bind_some, if_true]
    rw [e5]
    simp only [Option.bind_some]
    rw [if_pos (by rw [wrap_in (65536 + w) (by omega) (by omega)]; omega), if_pos (by rw [wrap_in (65536 + w) (by omega) (by omega)]; omega)]
end

theorem law_ok (x1 : List Int) (l : List Int) (s : ByteArray) (hl : l.length ≤ 1048576) (hs : s.size ≤ 1048576) (k : Nat) (hk : 3000000 < k) :
    ((impl_Tokenize.f k l s).bind fun bt294 => (if bt294.2 = (-2) then ((impl_Next.f k l s 0 0).bind fun bt298 => (some (bt298.1 == 3))) else (laws_FnNextAll.l0 k x1 l s bt294.1 bt294.2 0 0 0 0 0))) = some true := by
  by_cases hb : catsB l = true ∧ s.size ≤ 65536
  · obtain ⟨hc, hn⟩ := hb
    obtain ⟨us, j, st, at_, h1, h2, h3, h4⟩ := toks l s hc hn s.size 0 0 (by omega) (by omega) (by omega) (by omega)
    have hst := seg_st _ _ _ _ _ _ _ h1 (by omega)
    have hat := over_at l s hc hn j h4 st at_ hst.1 hst.2 h2
    have e1 : impl_Tokenize.f k l s = some (us, at_) := by
      unfold impl_Tokenize.f
      obtain ⟨q, hq⟩ : ∃ q, k = q + us.length := ⟨k - us.length, by omega⟩
      have := tok_seg l s 0 0 us j st h1 [] q (by simp; omega) (by omega)
      have this' : impl_Tokenize.l0 (q + us.length) l s [] 0 0 = _ := this
      rw [hq, this', List.nil_append]
      exact tok_over l s j st at_ h2 hat us q (by omega)
    rw [e1]
    simp only [Option.bind_some]
    rw [if_neg (by rcases h2 with ⟨h, _⟩ | ⟨h, _⟩ <;> omega)]
    exact law_loop x1 l s hc hn us (by omega) at_ 1000000 (by omega) us.length 0 0 0 0 0 0 j st (by omega) (by omega) (.none _ _) h1 h2 h4 (by omega) (.none _ _) (by omega) (by omega) (by omega) k (by omega)
  · have hb' : catsB l = false ∨ s.size > 65536 := by
      cases h : catsB l
      · exact .inl rfl
      · exact .inr (by
          rcases Nat.lt_or_ge 65536 s.size with h' | h'
          · exact h'
          · exact absurd ⟨h, h'⟩ hb)
    obtain ⟨k, rfl⟩ : ∃ q, k = q + 1 := ⟨k - 1, by omega⟩
    unfold impl_Tokenize.f
    rw [impl_Tokenize.l0, next_no l s 0 0 hl hb' k (by omega), next_no l s 0 0 hl hb' (k + 1) (by omega)]
    simp

theorem FnNextAll : laws_FnNextAll.Pure := by
  intro l0 l1 _ _ _ _
  unfold laws_FnNextAll.f laws_big.f
  simp only [Option.bind_some]
  by_cases hb : (l0.length : Int) > 1048576
  · exact ⟨1, by rw [if_pos (by simpa using hb), laws_FnNextAll.j0, if_pos rfl]⟩
  by_cases hc : (l1.length : Int) > 1048576
  · exact ⟨1, by rw [if_neg (by simpa using hb), laws_FnNextAll.j0, if_pos (by simpa using hc)]⟩
  obtain ⟨⟨cs, tx⟩, hd, h1, h2⟩ := draw_ok l0 (by omega)
  simp only at h1 h2
  suffices h : ∀ k, 5000000 < k → (if decide ((l0.length : Int) > 1048576) = true then laws_FnNextAll.j0 k l0 l1 true else laws_FnNextAll.j0 k l0 l1 (decide ((l1.length : Int) > 1048576))) = some true from ⟨_, h 5000001 (by omega)⟩
  intro k hk
  obtain ⟨k, rfl⟩ : ∃ q, k = q + 1 := ⟨k - 1, by omega⟩
  rw [if_neg (by simpa using hb), laws_FnNextAll.j0, if_neg (by simpa using hc), hd k (by omega)]
  simp only [Option.bind_some]
  exact law_ok l1 cs tx (by omega) (by omega) k (by omega)

end Go.Proofs.Ytabamachefgilaa.Pure
