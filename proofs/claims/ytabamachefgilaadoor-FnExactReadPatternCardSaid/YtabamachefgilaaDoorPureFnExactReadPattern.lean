/- For every input the law FnExactReadPattern returns true: the printed functions, over numbers and lists alone. No condition. -/
import Derived.Test.YtabamachefgilaaDoorPFnExactReadPatternx5
import Derived.Test.YtabamachefgilaaDoorKit
namespace Go.Proofs.YtabamachefgilaaDoor.Pure
open Go.RowKit Go.Proofs.YtabamachefgilaaDoor.PFnExactReadPattern Go.Proofs.YtabamachefgilaaDoor.Kit Go.Proofs.YtabamachefgilaaDoorW.PrintWords Go.Proofs.YtabamachefgilaaDoorW.PrintLast Go.Proofs.YtabamachefgilaaDoorW.PrintMore
set_option linter.unusedVariables false
set_option linter.unusedSimpArgs false
set_option linter.unusedSectionVars false

theorem toList_loop (u : ByteArray) : ∀ d i (r : List UInt8), u.size - i = d → (ByteArray.toList.loop u i r).length = r.length + d := by
  intro d
  induction d with
  | zero =>
    intro i r h
    rw [ByteArray.toList.loop.eq_def, if_neg (by omega)]
    simp
  | succ d ih =>
    intro i r h
    rw [ByteArray.toList.loop.eq_def, if_pos (by omega), ih (i + 1) _ (by omega)]
    simp; omega
theorem toList_nil (u : ByteArray) : u.toList = [] ↔ u.size = 0 := by
  have h : u.toList.length = u.size := by
    unfold ByteArray.toList
    rw [toList_loop u u.size 0 [] (by omega)]
    simp
  constructor
  · intro e; rw [e] at h; exact h.symm
  · intro e; exact List.eq_nil_of_length_eq_zero (by omega)
theorem bt_ext (s : ByteArray) (a e i : Nat) (h : a + i < e) (he : e ≤ s.size) : bt (s.extract a e) (i : Int) = bt s ((a + i : Nat) : Int) := by
  rw [bt_nat (s.extract a e) i (by rw [ByteArray.size_extract]; omega), bt_nat s (a + i) (by omega)]
  congr 1
  rw [ByteArray.getElem_extract]
theorem size_ext (s : ByteArray) (a e : Nat) (he : e ≤ s.size) : (s.extract a e).size = e - a := by rw [ByteArray.size_extract]; omega
def dots (s : ByteArray) : Prop := ∀ j, j < s.size → bt s (j : Int) = 46
theorem right_l : ∀ d k (s : ByteArray), s.size = d → s.size ≤ 1048576 → d < k → ∃ t, strings_trimRightByte.l0 k s 46 = some t ∧ (dots s ↔ dots t) ∧ (dots s → t.size = 0) ∧ t.size ≤ s.size := by
  intro d
  induction d with
  | zero =>
    intro k s hd hs hk
    obtain ⟨k, rfl⟩ : ∃ m, k = m + 1 := ⟨k - 1, by omega⟩
    simp only [strings_trimRightByte.l0]
    rw [if_neg (by omega)]
    exact ⟨s, rfl, Iff.rfl, fun _ => hd, Nat.le_refl _⟩
  | succ d ih =>
    intro k s hd hs hk
    obtain ⟨k, rfl⟩ : ∃ m, k = m + 1 := ⟨k - 1, by omega⟩
    simp only [strings_trimRightByte.l0]
    rw [wrap_in ((s.size : Int) - 1) (by omega) (by omega), if_pos (by omega), if_pos (by omega), if_pos (by omega)]
    have e1 : (s.size : Int) - 1 = ((d : Nat) : Int) := by omega
    rw [e1]
    by_cases h : bt s (d : Int) = 46
    · rw [if_pos h, if_pos (by omega), Int.toNat_natCast]
      have hz : (s.extract 0 d).size = d := by rw [size_ext s 0 d (by omega)]; omega
      obtain ⟨t, ht, h1, h2, h3⟩ := ih k (s.extract 0 d) hz (by omega) (by omega)
      have hD : dots s ↔ dots (s.extract 0 d) := by
        constructor
        · intro hd' j hj
          rw [hz] at hj
          rw [bt_ext s 0 d j (by omega) (by omega), Nat.zero_add]
          exact hd' j (by omega)
        · intro hd' j hj
          by_cases hj' : j = d
          · rw [hj']; exact h
          · have := hd' j (by omega)
            rwa [bt_ext s 0 d j (by omega) (by omega), Nat.zero_add] at this
      exact ⟨t, ht, hD.trans h1, fun x => h2 (hD.1 x), by omega⟩
    · rw [if_neg h]
      exact ⟨s, rfl, Iff.rfl, fun x => absurd (x d (by omega)) h, Nat.le_refl _⟩
theorem left_l : ∀ d k (s : ByteArray), s.size = d → s.size ≤ 1048576 → d < k → ∃ t, strings_trimLeftByte.l0 k s 46 = some t ∧ (t.size = 0 ↔ dots s) := by
  intro d
  induction d with
  | zero =>
    intro k s hd hs hk
    obtain ⟨k, rfl⟩ : ∃ m, k = m + 1 := ⟨k - 1, by omega⟩
    simp only [strings_trimLeftByte.l0]
    rw [if_neg (by omega)]
    exact ⟨s, rfl, fun _ j hj => by omega, fun _ => hd⟩
  | succ d ih =>
    intro k s hd hs hk
    obtain ⟨k, rfl⟩ : ∃ m, k = m + 1 := ⟨k - 1, by omega⟩
    simp only [strings_trimLeftByte.l0]
    rw [if_pos (by omega), if_pos (by omega)]
    by_cases h : bt s 0 = 46
    · rw [if_pos h, if_pos (by omega)]
      have hz : (s.extract 1 s.size).size = d := by rw [size_ext s 1 s.size (by omega)]; omega
      obtain ⟨t, ht, h1⟩ := ih k (s.extract 1 s.size) hz (by omega) (by omega)
      refine ⟨t, ht, h1.trans ⟨fun hd' j hj => ?_, fun hd' j hj => ?_⟩⟩
      · by_cases hj' : j = 0
        · rw [hj']; exact h
        · have := hd' (j - 1) (by omega)
          rwa [bt_ext s 1 s.size (j - 1) (by omega) (by omega), show 1 + (j - 1) = j by omega] at this
      · rw [hz] at hj
        rw [bt_ext s 1 s.size j (by omega) (by omega)]
        exact hd' (1 + j) (by omega)
    · rw [if_neg h]
      exact ⟨s, rfl, fun h0 => by omega, fun x => absurd (x 0 (by omega)) h⟩
theorem trim_f (s : ByteArray) (hs : s.size ≤ 1048576) (k : Nat) (hk : s.size < k) : ∃ t, strings_Trim.f k s (⟨#[46]⟩ : ByteArray) = some t ∧ (t.toList = [] ↔ dots s) := by
  unfold strings_Trim.f
  rw [if_pos rfl]
  by_cases h0 : s.toList = ([] : List UInt8)
  · rw [if_pos h0]
    exact ⟨s, rfl, fun _ j hj => by rw [toList_nil] at h0; omega, fun _ => h0⟩
  · rw [if_neg h0]
    obtain ⟨t, ht, h1, h2, h3⟩ := right_l s.size k s rfl hs hk
    obtain ⟨u, hu, h4⟩ := left_l t.size k t rfl (by omega) (by omega)
    unfold strings_trimRightByte.f strings_trimLeftByte.f
    rw [ht, Option.bind_some, hu]
    exact ⟨u, rfl, (toList_nil u).trans (h4.trans h1.symm)⟩

def low (s : ByteArray) (j : Nat) : Prop := 97 ≤ bt s (j : Int) ∧ bt s (j : Int) ≤ 122
def good (s : ByteArray) (j : Nat) : Prop := low s j ∨ (bt s (j : Int) = 46 ∧ (j = 0 ∨ j + 1 = s.size))
def mok (l : List Int) (j : Nat) : Prop := 0 ≤ rd l (j : Int) ∧ rd l (j : Int) ≤ 9
/-- A pattern that is one. -/
def PO (s : ByteArray) (l : List Int) : Prop := 1 ≤ s.size ∧ s.size ≤ 20 ∧ l.length = s.size + 1 ∧ (∀ j, j < s.size → good s j) ∧ (∀ j, j ≤ s.size → mok l j) ∧ ∃ j, j < s.size ∧ low s j

theorem low_f (a : Int) : spec_l7Low.f a = some (decide (97 ≤ a ∧ a ≤ 122)) := by
  unfold spec_l7Low.f
  by_cases h : a ≥ 97
  · rw [if_pos h]; simp; omega
  · rw [if_neg h]; simp; omega
theorem s_l1 (s : ByteArray) (l : List Int) (x4 : Int) (n : Nat) (hn : n ≤ 20) (hl : l.length = n + 1) : ∀ d k i : Nat, n + 1 - i = d → i ≤ n + 1 → d < k →
    ∃ r, spec_PatternOk.l1 k (n : Int) x4 (i : Int) s l = some r ∧ (r = true ↔ (∀ j, i ≤ j → j ≤ n → mok l j) ∧ 0 < x4) := by
  intro d
  induction d with
  | zero =>
    intro k i hd hi hk
    obtain ⟨k, rfl⟩ : ∃ m, k = m + 1 := ⟨k - 1, by omega⟩
    simp only [spec_PatternOk.l1]
    rw [if_neg (by omega)]
    exact ⟨_, rfl, fun h => ⟨fun j h1 h2 => by omega, of_decide_eq_true h⟩, fun h => decide_eq_true h.2⟩
  | succ d ih =>
    intro k i hd hi hk
    obtain ⟨k, rfl⟩ : ∃ m, k = m + 1 := ⟨k - 1, by omega⟩
    simp only [spec_PatternOk.l1]
    rw [if_pos (by omega), if_pos (by omega), if_pos (by omega)]
    by_cases h0 : rd l (i : Int) < 0
    · rw [if_pos h0]
      exact ⟨false, rfl, fun h => (by cases h), fun h => by have := (h.1 i (Nat.le_refl _) (by omega)).1; omega⟩
    rw [if_neg h0]
    by_cases h1 : rd l (i : Int) > 9
    · rw [if_pos h1]
      exact ⟨false, rfl, fun h => (by cases h), fun h => by have := (h.1 i (Nat.le_refl _) (by omega)).2; omega⟩
    rw [if_neg h1, wrap_succ i (by omega)]
    obtain ⟨r, e, hr⟩ := ih k (i + 1) (by omega) (by omega) (by omega)
    refine ⟨r, e, hr.trans ⟨fun h => ⟨fun j h2 h3 => ?_, h.2⟩, fun h => ⟨fun j h2 h3 => h.1 j (by omega) h3, h.2⟩⟩⟩
    by_cases hj : j = i
    · subst hj; exact ⟨by omega, by omega⟩
    · exact h.1 j (by omega) h3
theorem s_l0 (s : ByteArray) (l : List Int) (hn1 : 1 ≤ s.size) (hn : s.size ≤ 20) (hl : l.length = s.size + 1) : ∀ d k i c : Nat, s.size - i = d → i ≤ s.size → c ≤ i → d + s.size + 2 < k →
    ∃ r, spec_PatternOk.l0 k (s.size : Int) (c : Int) (i : Int) s l = some r ∧ (r = true ↔ (∀ j, i ≤ j → j < s.size → good s j) ∧ (∀ j, j ≤ s.size → mok l j) ∧ (0 < c ∨ ∃ j, i ≤ j ∧ j < s.size ∧ low s j)) := by
  intro d
  induction d with
  | zero =>
    intro k i c hd hi hc hk
    obtain ⟨k, rfl⟩ : ∃ m, k = m + 1 := ⟨k - 1, by omega⟩
    simp only [spec_PatternOk.l0]
    rw [if_neg (by omega)]
    obtain ⟨r, e, hr⟩ := s_l1 s l (c : Int) s.size hn hl (s.size + 1) k 0 (by omega) (by omega) (by omega)
    refine ⟨r, e, hr.trans ⟨fun h => ⟨fun j h1 h2 => by omega, fun j h1 => h.1 j (by omega) h1, .inl (by omega)⟩, fun h => ⟨fun j _ h1 => h.2.1 j h1, ?_⟩⟩⟩
    rcases h.2.2 with h1 | ⟨j, h1, h2, _⟩
    · omega
    · omega
  | succ d ih =>
    intro k i c hd hi hc hk
    obtain ⟨k, rfl⟩ : ∃ m, k = m + 1 := ⟨k - 1, by omega⟩
    have hlt : i < s.size := by omega
    simp only [spec_PatternOk.l0]
    rw [if_pos (by omega), if_pos (by omega), if_pos (by omega), low_f, Option.bind_some]
    have skip : ¬ low s i → good s i → ∃ r, spec_PatternOk.l0 k (s.size : Int) (c : Int) ((i + 1 : Nat) : Int) s l = some r ∧ (r = true ↔ (∀ j, i ≤ j → j < s.size → good s j) ∧ (∀ j, j ≤ s.size → mok l j) ∧ (0 < c ∨ ∃ j, i ≤ j ∧ j < s.size ∧ low s j)) := by
      intro hL hg
      obtain ⟨r, e, hr⟩ := ih k (i + 1) c (by omega) (by omega) (by omega) (by omega)
      refine ⟨r, e, hr.trans ⟨fun h => ⟨fun j h1 h2 => ?_, h.2.1, ?_⟩, fun h => ⟨fun j h1 h2 => h.1 j (by omega) h2, h.2.1, ?_⟩⟩⟩
      · by_cases hj : j = i
        · subst hj; exact hg
        · exact h.1 j (by omega) h2
      · rcases h.2.2 with h1 | ⟨j, h1, h2, h3⟩
        · exact .inl h1
        · exact .inr ⟨j, by omega, h2, h3⟩
      · rcases h.2.2 with h1 | ⟨j, h1, h2, h3⟩
        · exact .inl h1
        · refine .inr ⟨j, ?_, h2, h3⟩
          by_cases hj : j = i
          · subst hj; exact absurd h3 hL
          · omega
    have skip := Aside0.mk skip
    by_cases hL : low s i
    · rw [if_pos (decide_eq_true (show 97 ≤ bt s (i : Int) ∧ bt s (i : Int) ≤ 122 from hL)), wrap_succ i (by omega), wrap_succ c (by omega)]
      obtain ⟨r, e, hr⟩ := ih k (i + 1) (c + 1) (by omega) (by omega) (by omega) (by omega)
      refine ⟨r, e, hr.trans ⟨fun h => ⟨fun j h1 h2 => ?_, h.2.1, .inr ⟨i, Nat.le_refl _, by omega, hL⟩⟩, fun h => ⟨fun j h1 h2 => h.1 j (by omega) h2, h.2.1, .inl (by omega)⟩⟩⟩
      by_cases hj : j = i
      · subst hj; exact .inl hL
      · exact h.1 j (by omega) h2
    · rw [if_neg (by rw [decide_eq_false (show ¬ (97 ≤ bt s (i : Int) ∧ bt s (i : Int) ≤ 122) from hL)]; decide), wrap_succ i (by omega), wrap_in ((s.size : Int) - 1) (by omega) (by omega)]
      by_cases h46 : bt s (i : Int) = 46
      · rw [if_pos h46]
        by_cases hi0 : (i : Int) > 0
        · rw [if_pos hi0]
          by_cases hi1 : (i : Int) < (s.size : Int) - 1
          · rw [if_pos hi1]
            refine ⟨false, rfl, fun h => (by cases h), fun h => ?_⟩
            rcases h.1 i (Nat.le_refl _) hlt with h1 | ⟨_, h1⟩
            · exact absurd h1 hL
            · clear h; omega
          · rw [if_neg hi1]
            exact skip.out hL (.inr ⟨h46, .inr (by omega)⟩)
        · rw [if_neg hi0]
          exact skip.out hL (.inr ⟨h46, .inl (by omega)⟩)
      · rw [if_neg h46]
        refine ⟨false, rfl, fun h => (by cases h), fun h => ?_⟩
        rcases h.1 i (Nat.le_refl _) hlt with h1 | ⟨h1, _⟩
        · exact absurd h1 hL
        · exact absurd h1 h46
theorem s_f (s : ByteArray) (l : List Int) (hs : s.size ≤ 1048576) (hl : l.length ≤ 2097152) (k : Nat) (hk : 100 < k) : ∃ r, spec_PatternOk.f k s l = some r ∧ (r = true ↔ PO s l) := by
  obtain ⟨k, rfl⟩ : ∃ m, k = m + 1 := ⟨k - 1, by omega⟩
  unfold spec_PatternOk.f
  simp only [spec_PatternOk.j0, if_pos]
  by_cases h1 : (s.size : Int) < 1
  · rw [if_pos h1]
    exact ⟨false, rfl, fun h => (by cases h), fun h => by have := h.1; omega⟩
  rw [if_neg h1]
  by_cases h2 : (s.size : Int) > 20
  · rw [if_pos h2]
    exact ⟨false, rfl, fun h => (by cases h), fun h => by have := h.2.1; omega⟩
  rw [if_neg h2, wrap_in ((s.size : Int) + 1) (by omega) (by omega)]
  by_cases h3 : (l.length : Int) = (s.size : Int) + 1
  · rw [if_neg (by rw [bne_eq_false_iff_eq.mpr h3]; decide)]
    obtain ⟨r, e, hr⟩ := s_l0 s l (by omega) (by omega) (by omega) s.size k 0 0 (by omega) (by omega) (by omega) (by omega)
    refine ⟨r, e, hr.trans ⟨fun h => ⟨by omega, by omega, by omega, fun j hj => h.1 j (by omega) hj, h.2.1, ?_⟩, fun h => ⟨fun j _ hj => h.2.2.2.1 j hj, h.2.2.2.2.1, ?_⟩⟩⟩
    · rcases h.2.2 with h4 | ⟨j, _, h5, h6⟩
      · omega
      · exact ⟨j, h5, h6⟩
    · obtain ⟨j, h4, h5⟩ := h.2.2.2.2.2
      exact .inr ⟨j, by omega, h4, h5⟩
  · rw [if_pos (bne_iff_ne.mpr h3)]
    exact ⟨false, rfl, fun h => (by cases h), fun h => by have := h.2.2.1; omega⟩

theorem c1_f (a : Int) : impl_PatternOk_1.f a = some (decide (a < 0 ∨ a > 9)) := by
  unfold impl_PatternOk_1.f
  by_cases h : a < 0
  · rw [if_pos h]; simp [h]
  · rw [if_neg h]; simp [h]
theorem ix_l (l : List Int) (hl : l.length ≤ 2097152) : ∀ d k i : Nat, l.length - i = d → i ≤ l.length → d < k → ∃ r, slices_IndexFunc_int64_int64.l0 k l (l.length : Int) (i : Int) = some r ∧ (r < 0 ↔ ∀ j, i ≤ j → j < l.length → mok l j) := by
  intro d
  induction d with
  | zero =>
    intro k i hd hi hk
    obtain ⟨k, rfl⟩ : ∃ m, k = m + 1 := ⟨k - 1, by omega⟩
    simp only [slices_IndexFunc_int64_int64.l0]
    rw [if_neg (by omega)]
    exact ⟨_, rfl, fun _ j h1 h2 => by omega, fun _ => by decide⟩
  | succ d ih =>
    intro k i hd hi hk
    obtain ⟨k, rfl⟩ : ∃ m, k = m + 1 := ⟨k - 1, by omega⟩
    simp only [slices_IndexFunc_int64_int64.l0]
    rw [if_pos (by omega), if_pos (by omega), if_pos (by omega), c1_f, Option.bind_some]
    by_cases h : rd l (i : Int) < 0 ∨ rd l (i : Int) > 9
    · rw [if_pos (decide_eq_true h)]
      refine ⟨_, rfl, fun h0 => by omega, fun h0 => ?_⟩
      have := h0 i (Nat.le_refl _) (by omega)
      unfold mok at this
      omega
    · rw [if_neg (by rw [decide_eq_false h]; decide), wrap_succ i (by omega)]
      obtain ⟨r, e, hr⟩ := ih k (i + 1) (by omega) (by omega) (by omega)
      refine ⟨r, e, hr.trans ⟨fun h0 j h1 h2 => ?_, fun h0 j h1 h2 => h0 j (by omega) h2⟩⟩
      by_cases hj : j = i
      · subst hj; unfold mok; omega
      · exact h0 j (by omega) h2
theorem cont_f (l : List Int) (hl : l.length ≤ 2097152) (k : Nat) (hk : l.length < k) : ∃ b, slices_ContainsFunc_int64_int64.f k l = some b ∧ (b = false ↔ ∀ j, j < l.length → mok l j) := by
  unfold slices_ContainsFunc_int64_int64.f slices_IndexFunc_int64_int64.f
  obtain ⟨r, e, hr⟩ := ix_l l hl l.length k 0 (by omega) (by omega) hk
  rw [show ((0 : Nat) : Int) = 0 from rfl] at e
  rw [e, Option.bind_some]
  refine ⟨_, rfl, ?_⟩
  rw [decide_eq_false_iff_not]
  constructor
  · intro h j hj; exact hr.1 (by omega) j (by omega) hj
  · intro h; have := hr.2 (fun j _ hj => h j hj); omega
theorem i_l0 (s : ByteArray) (l : List Int) (hn1 : 1 ≤ s.size) (hn : s.size ≤ 20) (hl : l.length = s.size + 1) : ∀ d k i : Nat, s.size - i = d → i ≤ s.size → d + s.size + 2 < k →
    ∃ r, impl_PatternOk.l0 k (s.size : Int) (s.size : Int) (i : Int) s l = some r ∧ (r = true ↔ (∀ j, i ≤ j → j < s.size → good s j) ∧ (∀ j, j ≤ s.size → mok l j)) := by
  intro d
  induction d with
  | zero =>
    intro k i hd hi hk
    obtain ⟨k, rfl⟩ : ∃ m, k = m + 1 := ⟨k - 1, by omega⟩
    simp only [impl_PatternOk.l0]
    rw [if_neg (by omega)]
    obtain ⟨b, e, hb⟩ := cont_f l (by omega) k (by omega)
    rw [e, Option.bind_some]
    refine ⟨_, rfl, ?_⟩
    cases b with
    | false => exact ⟨fun _ => ⟨fun j h1 h2 => by omega, fun j hj => hb.1 rfl j (by omega)⟩, fun _ => rfl⟩
    | true => exact ⟨fun h => (by cases h), fun h => by have := hb.2 (fun j hj => h.2 j (by omega)); cases this⟩
  | succ d ih =>
    intro k i hd hi hk
    obtain ⟨k, rfl⟩ : ∃ m, k = m + 1 := ⟨k - 1, by omega⟩
    have skip : good s i → ∃ r, impl_PatternOk.l0 k (s.size : Int) (s.size : Int) ((i + 1 : Nat) : Int) s l = some r ∧ (r = true ↔ (∀ j, i ≤ j → j < s.size → good s j) ∧ (∀ j, j ≤ s.size → mok l j)) := by
      intro hg
      obtain ⟨r, e, hr⟩ := ih k (i + 1) (by omega) (by omega) (by omega)
      refine ⟨r, e, hr.trans ⟨fun h => ⟨fun j h1 h2 => ?_, h.2⟩, fun h => ⟨fun j h1 h2 => h.1 j (by omega) h2, h.2⟩⟩⟩
      by_cases hj : j = i
      · subst hj; exact hg
      · exact h.1 j (by omega) h2
    have skip := Aside0.mk skip
    have bad : ¬ good s i → ∃ r, (some false : Option Bool) = some r ∧ (r = true ↔ (∀ j, i ≤ j → j < s.size → good s j) ∧ (∀ j, j ≤ s.size → mok l j)) := fun hg => ⟨false, rfl, fun h => (by cases h), fun h => absurd (h.1 i (Nat.le_refl _) (by omega)) hg⟩
    have bad := Aside0.mk bad
    simp only [impl_PatternOk.l0]
    rw [if_pos (by omega), if_pos (by omega), if_pos (by omega), wrap_succ i (by omega), wrap_in ((s.size : Int) - 1) (by omega) (by omega)]
    have dot : ¬ low s i → ∃ r, (if bt s (i : Int) = 46 then (if (i : Int) = 0 then (impl_PatternOk.l0 k (s.size : Int) (s.size : Int) ((i + 1 : Nat) : Int) s l) else (if ((i : Int) = (s.size : Int) - 1) then (impl_PatternOk.l0 k (s.size : Int) (s.size : Int) ((i + 1 : Nat) : Int) s l) else (some false))) else (some false)) = some r ∧ (r = true ↔ (∀ j, i ≤ j → j < s.size → good s j) ∧ (∀ j, j ≤ s.size → mok l j)) := by
      intro hL
      by_cases h46 : bt s (i : Int) = 46
      · rw [if_pos h46]
        by_cases h0 : (i : Int) = 0
        · rw [if_pos h0]; exact skip.out (.inr ⟨h46, .inl (by omega)⟩)
        · rw [if_neg h0]
          by_cases h1 : (i : Int) = (s.size : Int) - 1
          · rw [if_pos h1]; exact skip.out (.inr ⟨h46, .inr (by omega)⟩)
          · rw [if_neg h1]
            refine bad.out fun hg => ?_
            rcases hg with h2 | ⟨_, h2⟩
            · exact hL h2
            · omega
      · rw [if_neg h46]
        refine bad.out fun hg => ?_
        rcases hg with h2 | ⟨h2, _⟩
        · exact hL h2
        · exact h46 h2
    by_cases ha : bt s (i : Int) ≥ 97
    · rw [if_pos ha]
      by_cases hb : bt s (i : Int) ≤ 122
      · rw [if_pos hb]; exact skip.out (.inl ⟨ha, hb⟩)
      · rw [if_neg hb]; exact dot fun h => hb h.2
    · rw [if_neg ha]; exact dot fun h => ha h.1
theorem i_f (s : ByteArray) (l : List Int) (hs : s.size ≤ 1048576) (hl : l.length ≤ 2097152) (k : Nat) (hk : 100 < k) : ∃ r, impl_PatternOk.f k s l = some r ∧ (r = true ↔ PO s l) := by
  obtain ⟨k, rfl⟩ : ∃ m, k = m + 1 := ⟨k - 1, by omega⟩
  unfold impl_PatternOk.f
  simp only [impl_PatternOk.j0, if_pos]
  by_cases h1 : (s.size : Int) < 1
  · rw [if_pos h1]
    exact ⟨false, rfl, fun h => (by cases h), fun h => by have := h.1; omega⟩
  rw [if_neg h1]
  by_cases h2 : (s.size : Int) > 20
  · rw [if_pos h2]
    exact ⟨false, rfl, fun h => (by cases h), fun h => by have := h.2.1; omega⟩
  rw [if_neg h2, wrap_in ((s.size : Int) + 1) (by omega) (by omega)]
  by_cases h3 : (l.length : Int) = (s.size : Int) + 1
  · rw [if_pos h3]
    obtain ⟨t, ht, hd⟩ := trim_f s hs (k + 1) (by omega)
    rw [ht, Option.bind_some]
    by_cases h4 : t.toList = ([] : List UInt8)
    · rw [if_pos (beq_iff_eq.mpr h4)]
      refine ⟨false, rfl, fun h => (by cases h), fun h => ?_⟩
      obtain ⟨j, h5, h6⟩ := h.2.2.2.2.2
      have := hd.1 h4 j h5
      unfold low at h6
      omega
    · rw [if_neg (by rw [beq_eq_false_iff_ne.mpr h4]; decide)]
      obtain ⟨r, e, hr⟩ := i_l0 s l (by omega) (by omega) (by omega) s.size k 0 (by omega) (by omega) (by omega)
      rw [show ((0 : Nat) : Int) = 0 from rfl] at e
      refine ⟨r, e, hr.trans ⟨fun h => ⟨by omega, by omega, by omega, fun j hj => h.1 j (by omega) hj, h.2, ?_⟩, fun h => ⟨fun j _ hj => h.2.2.2.1 j hj, h.2.2.2.2.1⟩⟩⟩
      refine Classical.byContradiction fun hno => h4 (hd.2 fun j hj => ?_)
      rcases h.1 j (by omega) hj with h5 | ⟨h5, _⟩
      · exact absurd ⟨j, hj, h5⟩ hno
      · exact h5
  · rw [if_neg h3]
    exact ⟨false, rfl, fun h => (by cases h), fun h => by have := h.2.2.1; omega⟩
theorem same_ok (s : ByteArray) (l : List Int) (hs : s.size ≤ 1048576) (hl : l.length ≤ 2097152) (k k' : Nat) (hk : 100 < k) (hk' : 100 < k') : ∃ r, spec_PatternOk.f k s l = some r ∧ impl_PatternOk.f k' s l = some r ∧ (r = true ↔ PO s l) := by
  obtain ⟨r, e, hr⟩ := s_f s l hs hl k hk
  obtain ⟨q, e', hq⟩ := i_f s l hs hl k' hk'
  obtain rfl : r = q := Bool.eq_iff_iff.mpr (hr.trans hq.symm)
  exact ⟨r, e, e', hr⟩
theorem nums_app (x y : List Int) : strOfNums (x ++ y) = strOfNums x ++ strOfNums y := by
  apply ByteArray.ext
  simp [strOfNums, ByteArray.data_append]
theorem nums_size (x : List Int) : (strOfNums x).size = x.length := by simp [strOfNums, ByteArray.size]
theorem nums_bt (s : ByteArray) (i : Nat) (h : i < s.size) : strOfNums [bt s (i : Int)] = s.extract i (i + 1) := by
  rw [bt_nat s i h]
  apply ByteArray.ext_getElem
  · rw [size_ext s i (i + 1) (by omega), nums_size]; simp
  · intro j h1 h2
    rw [nums_size] at h1
    have hj : j = 0 := by simpa using h1
    subst hj
    rw [ByteArray.getElem_extract]
    simp [strOfNums, ByteArray.getElem_eq_getElem_data]
theorem eqInt64S_l0 (l : List Int) (hl : l.length ≤ 9223372036854775806) : ∀ d k i : Nat, l.length - i = d → i ≤ l.length → d < k → laws_eqInt64S.l0 k l l i = some true := by
  intro d
  induction d with
  | zero =>
    intro k i hd hi hk
    obtain ⟨k, rfl⟩ : ∃ m, k = m + 1 := ⟨k - 1, by omega⟩
    rw [laws_eqInt64S.l0, if_neg (by omega)]
  | succ d ih =>
    intro k i hd hi hk
    obtain ⟨k, rfl⟩ : ∃ m, k = m + 1 := ⟨k - 1, by omega⟩
    rw [laws_eqInt64S.l0, if_pos (by omega), if_pos (by omega), if_pos (by omega), if_pos rfl, wrap_succ i (by omega)]
    exact ih k (i + 1) (by omega) (by omega) (by omega)
theorem eqInt64S_f (l : List Int) (hl : l.length ≤ 9223372036854775806) (k : Nat) (hk : l.length < k) : laws_eqInt64S.f k l l = some true := by
  unfold laws_eqInt64S.f
  rw [if_pos rfl]
  exact eqInt64S_l0 l hl l.length k 0 (by omega) (by omega) hk
theorem markInt64S_l0 (q0 : Int) (n : Nat) (h0 : 0 ≤ q0) (hq : q0 + n ≤ 4611686018427387904) : ∀ d k i : Nat, ∀ x : List Int, n - i = d → i ≤ n → x.length = n → d < k → (∀ j : Nat, j < i → rd x (j : Int) = q0 + j) →
    ∃ l', laws_markInt64S.l0 k x (q0 + i) i = some (q0 + n, l') ∧ l'.length = n ∧ ∀ j : Nat, j < n → rd l' (j : Int) = q0 + j := by
  intro d
  induction d with
  | zero =>
    intro k i x hd hi hx hk hj
    obtain ⟨k, rfl⟩ : ∃ m, k = m + 1 := ⟨k - 1, by omega⟩
    obtain rfl : i = n := by omega
    exact ⟨x, by rw [laws_markInt64S.l0, if_neg (by omega)], hx, hj⟩
  | succ d ih =>
    intro k i x hd hi hx hk hj
    obtain ⟨k, rfl⟩ : ∃ m, k = m + 1 := ⟨k - 1, by omega⟩
    rw [laws_markInt64S.l0, if_pos (by omega), if_pos (by omega), wrap_succ i (by omega), wrap_in (q0 + i + 1) (by omega) (by omega), Int.toNat_natCast, show q0 + (i : Int) + 1 = q0 + ((i + 1 : Nat) : Int) by omega]
    refine ih k (i + 1) _ (by omega) (by omega) (by simpa using hx) (by omega) (fun j hlt => ?_)
    rcases Nat.lt_or_ge j i with h | h
    · rw [← hj j h, rd_set_ne x i j _ (by omega)]
    · obtain rfl : j = i := by omega
      rw [rd_set_eq x j _ (by omega)]
theorem heldInt64S_l0 (q0 : Int) (l : List Int) (h0 : 0 ≤ q0) (hq : q0 + l.length ≤ 4611686018427387904) (hj : ∀ j : Nat, j < l.length → rd l (j : Int) = q0 + j) : ∀ d k i : Nat, l.length - i = d → i ≤ l.length → d < k →
    laws_heldInt64S.l0 k l (q0 + i) i = some (q0 + l.length) := by
  intro d
  induction d with
  | zero =>
    intro k i hd hi hk
    obtain ⟨k, rfl⟩ : ∃ m, k = m + 1 := ⟨k - 1, by omega⟩
    obtain rfl : i = l.length := by omega
    rw [laws_heldInt64S.l0, if_neg (by omega)]
  | succ d ih =>
    intro k i hd hi hk
    obtain ⟨k, rfl⟩ : ∃ m, k = m + 1 := ⟨k - 1, by omega⟩
    rw [laws_heldInt64S.l0, if_pos (by omega), if_pos (by omega), if_pos (hj i (by omega)), wrap_succ i (by omega), wrap_in (q0 + i + 1) (by omega) (by omega), show q0 + (i : Int) + 1 = q0 + ((i + 1 : Nat) : Int) by omega]
    exact ih k (i + 1) (by omega) (by omega) (by omega)
theorem markInt64S_f (l : List Int) (q0 : Int) (h0 : 0 ≤ q0) (hq : q0 + l.length ≤ 4611686018427387904) :
    ∃ l', (∀ k, l.length < k → laws_markInt64S.f k l q0 = some (q0 + l.length, l')) ∧ ∀ k, l.length < k → laws_heldInt64S.f k l' q0 = some (q0 + l.length) := by
  obtain ⟨l', h1, h2, h3⟩ := markInt64S_l0 q0 l.length h0 hq l.length (l.length + 1) 0 l (by omega) (by omega) rfl (by omega) (fun j h => by omega)
  refine ⟨l', fun k hk => ?_, fun k hk => ?_⟩
  · obtain ⟨l2, g1, g2, g3⟩ := markInt64S_l0 q0 l.length h0 hq l.length k 0 l (by omega) (by omega) rfl hk (fun j h => by omega)
    have e : l2 = l' := by
      apply List.ext_getElem (by omega)
      intro j a b
      have e1 := g3 j (by omega)
      have e2 := h3 j (by omega)
      rw [rd_nat l2 j (by omega)] at e1
      rw [rd_nat l' j (by omega)] at e2
      rw [e1, e2]
    subst e
    unfold laws_markInt64S.f
    simpa using g1
  · have := heldInt64S_l0 q0 l' h0 (by rw [h2]; exact hq) (fun j h => h3 j (by omega)) l'.length k 0 (by omega) (by omega) (by omega)
    unfold laws_heldInt64S.f
    rw [h2] at this
    simpa using this
theorem eqPB (s : ByteArray) (l : List Int) (hl : l.length ≤ 2097152) (k : Nat) (hk : l.length < k) : laws_eqPattern.f k s l s l = some true := by
  unfold laws_eqPattern.f
  rw [if_pos rfl, eqInt64S_f l (by omega) k hk, Option.bind_some, if_pos rfl]
theorem dig_s (a : Int) : spec_l1Digit.f a = some (decide (48 ≤ a ∧ a ≤ 57)) := by
  unfold spec_l1Digit.f
  by_cases h : a ≥ 48
  · rw [if_pos h]; simp; omega
  · rw [if_neg h]; simp; omega
theorem dig_i (a : Int) : impl_isDigit.f a = some (decide (48 ≤ a ∧ a ≤ 57)) := dig_s a
theorem bt_range (s : ByteArray) (i : Nat) (h : i < s.size) : 0 ≤ bt s (i : Int) ∧ bt s (i : Int) ≤ 255 := by
  rw [bt_nat s i h]
  have := (s[i]'h).toNat_lt
  omega
theorem read_i (s : ByteArray) (hs : s.size ≤ 1048576) : ∀ d k i : Nat, ∀ (L M : List Int) (g : Bool), s.size - i = d → i ≤ s.size → d + 101 < k → M.length = L.length + 1 → L.length ≤ i → i ≤ 2 * L.length + (if g = true then 1 else 0) →
    ∃ r, impl_ReadPattern.l0 k s L g (s.size : Int) (i : Int) (⟨#[]⟩ : ByteArray) M = some r ∧ (41 < s.size → r = ((⟨#[]⟩ : ByteArray), ([] : List Int), false)) ∧ r.2.1.length ≤ s.size + 1 := by
  intro d
  induction d with
  | zero =>
    intro k i L M g hd hi hk hM hL hg
    obtain ⟨k, rfl⟩ : ∃ m, k = m + 1 := ⟨k - 1, by omega⟩
    simp only [impl_ReadPattern.l0]
    rw [if_neg (by omega)]
    obtain ⟨r, e, hr⟩ := i_f (strOfNums L) M (by rw [nums_size]; omega) (by omega) k (by omega)
    rw [e, Option.bind_some]
    cases r with
    | false => exact ⟨_, rfl, fun _ => rfl, by simp⟩
    | true =>
      refine ⟨_, rfl, fun h => ?_, by show M.length ≤ _; omega⟩
      have h2 := (hr.1 rfl).2.1
      rw [nums_size] at h2
      cases g with
      | false => simp at hg; omega
      | true => simp at hg; omega
  | succ d ih =>
    intro k i L M g hd hi hk hM hL hg
    obtain ⟨k, rfl⟩ : ∃ m, k = m + 1 := ⟨k - 1, by omega⟩
    simp only [impl_ReadPattern.l0]
    rw [if_pos (by omega), if_pos (by omega), if_pos (by omega), dig_i, Option.bind_some, wrap_succ i (by omega), wrap_in ((M.length : Int) - 1) (by omega) (by omega)]
    by_cases hD : 48 ≤ bt s (i : Int) ∧ bt s (i : Int) ≤ 57
    · rw [if_pos (decide_eq_true hD)]
      cases g with
      | true => exact ⟨_, by rw [if_pos rfl], fun _ => rfl, by simp⟩
      | false =>
        rw [if_neg (by decide), if_pos (by omega), if_pos (by omega)]
        exact ih k (i + 1) L _ true (by omega) (by omega) (by omega) (by rw [List.length_set]; omega) (by omega) (by simp at hg ⊢; omega)
    · rw [if_neg (by rw [decide_eq_false hD]; decide), if_pos (by omega), if_pos (by omega)]
      refine ih k (i + 1) (L ++ [bt s (i : Int)]) (M ++ [0]) false (by omega) (by omega) (by omega) (by simp; omega) (by simp; omega) ?_
      cases g with
      | false => simp at hg ⊢; omega
      | true => simp at hg ⊢; omega
theorem read_b (s : ByteArray) (hs : s.size ≤ 1048576) : ∀ d k k' i : Nat, ∀ (L S : List Int) (m : Int), s.size - i = d → i ≤ s.size → d + 101 < k → d + 101 < k' → S.length = L.length → L.length ≤ i → m = -1 ∨ (0 ≤ m ∧ m ≤ 9) →
    ∃ r, spec_ReadPattern.l0 k s m (i : Int) (strOfNums L) S = some r ∧ impl_ReadPattern.l0 k' s L (decide (0 ≤ m)) (s.size : Int) (i : Int) (⟨#[]⟩ : ByteArray) (S ++ [if m < 0 then 0 else m]) = some r := by
  intro d
  induction d with
  | zero =>
    intro k k' i L S m hd hi hk hk' hS hL hm
    obtain ⟨k, rfl⟩ : ∃ m, k = m + 1 := ⟨k - 1, by omega⟩
    obtain ⟨k', rfl⟩ : ∃ m, k' = m + 1 := ⟨k' - 1, by omega⟩
    have hz : ¬ ((i : Int) < (s.size : Int)) := by omega
    simp only [spec_ReadPattern.l0, impl_ReadPattern.l0]
    rw [if_neg hz, if_neg hz]
    obtain ⟨r, e1, e2, _⟩ := same_ok (strOfNums L) (S ++ [if m < 0 then 0 else m]) (by rw [nums_size]; omega) (by simp; omega) k k' (by omega) (by omega)
    rw [e2, Option.bind_some]
    have hS2 : S.length < 17592186044416 := by omega
    by_cases h : m < 0
    · rw [if_pos h] at e1 ⊢
      rw [if_pos h, if_pos hS2, Option.bind_some, e1, Option.bind_some]
      cases r with
      | false => exact ⟨_, rfl, rfl⟩
      | true => exact ⟨_, rfl, rfl⟩
    · rw [if_neg h] at e1 ⊢
      rw [if_neg h, if_pos hS2, Option.bind_some, e1, Option.bind_some]
      cases r with
      | false => exact ⟨_, rfl, rfl⟩
      | true => exact ⟨_, rfl, rfl⟩
  | succ d ih =>
    intro k k' i L S m hd hi hk hk' hS hL hm
    obtain ⟨k, rfl⟩ : ∃ m, k = m + 1 := ⟨k - 1, by omega⟩
    obtain ⟨k', rfl⟩ : ∃ m, k' = m + 1 := ⟨k' - 1, by omega⟩
    have ha : (i : Int) < (s.size : Int) := by omega
    have hb : (0 : Int) ≤ (i : Int) := by omega
    have hr := bt_range s i (by omega)
    have hMl : (S ++ [if m < 0 then 0 else m]).length = S.length + 1 := by simp
    simp only [spec_ReadPattern.l0, impl_ReadPattern.l0]
    rw [if_pos ha, if_pos hb, if_pos ha, if_pos hb, if_pos ha, dig_s, dig_i, Option.bind_some, Option.bind_some, wrap_succ i (by omega), hMl, wrap_in (((S.length + 1 : Nat) : Int) - 1) (by omega) (by omega)]
    by_cases hD : 48 ≤ bt s (i : Int) ∧ bt s (i : Int) ≤ 57
    · rw [if_pos (decide_eq_true hD), if_pos (decide_eq_true hD)]
      by_cases h : m < 0
      · have e0 : ((S.length + 1 : Nat) : Int) - 1 = ((S.length : Nat) : Int) := by omega
        have hq1 : (0 : Int) ≤ ((S.length : Nat) : Int) := by omega
        have hq2 : ((S.length : Nat) : Int) < ((S.length + 1 : Nat) : Int) := by omega
        rw [if_neg (by omega : ¬ m ≥ 0), if_neg (by rw [decide_eq_false (by omega : ¬ 0 ≤ m)]; decide), e0, if_pos hq1, if_pos hq2, Int.toNat_natCast]
        have e1 : (S ++ [if m < 0 then 0 else m]).set S.length ((bt s (i : Int) - 48) % 256) = S ++ [(bt s (i : Int) - 48) % 256] := by simp
        rw [e1]
        have hv : 0 ≤ (bt s (i : Int) - 48) % 256 ∧ (bt s (i : Int) - 48) % 256 ≤ 9 := by omega
        have := ih k k' (i + 1) L S ((bt s (i : Int) - 48) % 256) (by omega) (by omega) (by omega) (by omega) hS (by omega) (.inr hv)
        rwa [decide_eq_true hv.1, if_neg (by omega)] at this
      · rw [if_pos (by omega : m ≥ 0), if_pos (decide_eq_true (by omega : 0 ≤ m))]
        exact ⟨_, rfl, rfl⟩
    · have hn : ¬ (decide (48 ≤ bt s (i : Int) ∧ bt s (i : Int) ≤ 57) = true) := by rw [decide_eq_false hD]; decide
      rw [if_neg hn, if_neg hn]
      have h1 : (i : Int) ≤ ((i + 1 : Nat) : Int) := by omega
      have h2 : ((i + 1 : Nat) : Int) ≤ (s.size : Int) := by omega
      have h3 : (strOfNums L).size + (s.extract (i : Int).toNat ((i + 1 : Nat) : Int).toNat).size ≤ 9223372036854775807 := by
        rw [Int.toNat_natCast, Int.toNat_natCast, nums_size, size_ext s i (i + 1) (by omega)]; omega
      have h4 : S.length < 17592186044416 := by omega
      have h5 : L.length < 140737488355328 := by omega
      have h6 : S.length + 1 < 17592186044416 := by omega
      rw [if_pos h1, if_pos h2, if_pos h3, if_pos h5, if_pos h6, Int.toNat_natCast, Int.toNat_natCast, ← nums_bt s i (by omega), ← nums_app]
      have := ih k k' (i + 1) (L ++ [bt s (i : Int)]) (S ++ [if m < 0 then 0 else m]) (-1) (by omega) (by omega) (by omega) (by omega) (by simp; omega) (by simp; omega) (.inl rfl)
      rw [decide_eq_false (by decide : ¬ (0 : Int) ≤ -1), if_pos (by decide : (-1 : Int) < 0)] at this
      by_cases h : m < 0
      · rw [if_pos h, if_pos h4]
        rw [if_pos h] at this
        rw [if_pos h]
        exact this
      · rw [if_neg h, if_pos h4]
        rw [if_neg h] at this
        rw [if_neg h]
        exact this
theorem read_f (s : ByteArray) (hs : s.size ≤ 1048576) (k : Nat) (hk : s.size + 101 < k) : ∃ r, spec_ReadPattern.f k s = some r ∧ impl_ReadPattern.f k s = some r ∧ r.2.1.length ≤ s.size + 1 := by
  unfold spec_ReadPattern.f impl_ReadPattern.f
  obtain ⟨r, e, h1, h2⟩ := read_i s hs s.size k 0 [] [0] false (by omega) (by omega) hk (by simp) (by simp) (by simp)
  rw [show ((0 : Nat) : Int) = 0 from rfl] at e
  by_cases h : (s.size : Int) > 41
  · rw [if_pos h]
    have := h1 (by omega)
    subst this
    exact ⟨_, rfl, e, h2⟩
  · rw [if_neg h]
    obtain ⟨q, e1, e2⟩ := read_b s hs s.size k k 0 [] [] (-1) (by omega) (by omega) hk hk rfl (by simp) (.inl rfl)
    rw [show ((0 : Nat) : Int) = 0 from rfl, show strOfNums [] = (⟨#[]⟩ : ByteArray) from rfl] at e1
    rw [show ((0 : Nat) : Int) = 0 from rfl, decide_eq_false (by decide : ¬ (0 : Int) ≤ -1), if_pos (by decide : (-1 : Int) < 0), List.nil_append] at e2
    obtain rfl : r = q := Option.some.inj (e.symm.trans e2)
    exact ⟨r, e1, e, h2⟩
theorem FnExactReadPattern : laws_FnExactReadPattern.Pure := by
  intro s hs0
  refine ⟨2 * s.size + 402, ?_⟩
  unfold laws_FnExactReadPattern.f
  by_cases h0 : (s.size : Int) > 1048576
  · rw [if_pos h0]
  rw [if_neg h0]
  obtain ⟨⟨p, l, ok⟩, e1, e2, hl⟩ := read_f s (by omega) (2 * s.size + 402) (by omega)
  obtain ⟨q, e3, e4, _⟩ := read_f s (by omega) (2 * s.size + 401) (by omega)
  obtain rfl : (p, l, ok) = q := by
    have := impl_ReadPattern.mono s (2 * s.size + 401) _ e4
    exact Option.some.inj (e2.symm.trans this)
  have hl : l.length ≤ s.size + 1 := hl
  rw [e1, e2]
  simp only [Option.bind_some]
  rw [eqPB p l (by omega) _ (by omega), Option.bind_some, if_pos rfl, bne_self]
  obtain ⟨l', hm, hh⟩ := markInt64S_f l 1 (by omega) (by omega)
  have hM : laws_markPattern.f (2 * s.size + 401) p l 1 = some (1 + (l.length : Int), l') := by
    unfold laws_markPattern.f
    rw [hm _ (by omega), Option.bind_some]
  have hH : ∀ k, l.length < k → laws_heldPattern.f k p l' 1 = some (1 + (l.length : Int)) := by
    intro k hk
    unfold laws_heldPattern.f
    rw [hh k hk, Option.bind_some, if_neg (by omega)]
  simp only [laws_FnExactReadPattern.j0]
  rw [if_neg (by decide), hM, Option.bind_some, hH _ (by omega), Option.bind_some, if_neg (by omega), if_pos rfl, e4, Option.bind_some, eqPB p l (by omega) _ (by omega), Option.bind_some, if_pos rfl, bne_self]
  simp only [laws_FnExactReadPattern.j1]
  rw [if_neg (by decide), hH _ (by omega), Option.bind_some, if_neg (by omega), if_pos rfl]


end Go.Proofs.YtabamachefgilaaDoor.Pure
