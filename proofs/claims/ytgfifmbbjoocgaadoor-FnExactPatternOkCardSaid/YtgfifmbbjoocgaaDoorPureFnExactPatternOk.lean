/- For every input the law FnExactPatternOk returns true: the printed functions, over numbers and lists alone. No condition. -/
import Derived.Test.YtgfifmbbjoocgaaDoorPFnExactPatternOkx4
import Derived.Test.YtgfifmbbjoocgaaDoorKit
namespace Go.Proofs.YtgfifmbbjoocgaaDoor.Pure
open Go.RowKit Go.Proofs.YtgfifmbbjoocgaaDoor.PFnExactPatternOk Go.Proofs.YtgfifmbbjoocgaaDoor.Kit Go.Proofs.YtgfifmbbjoocgaaDoorW.PrintWords Go.Proofs.YtgfifmbbjoocgaaDoorW.PrintLast Go.Proofs.YtgfifmbbjoocgaaDoorW.PrintMore
set_option linter.unusedVariables false
set_option linter.unusedSimpArgs false
set_option linter.unusedSectionVars false

theorem toList_loop (u : ByteArray) : ∀ d i (r : List UInt8), u.size - i = d → (ByteArray.toList.loop u i r).length = r.length + d := by
  intro d
  induction d with
  | zero =>
    intro i r h
    rw [ByteArray.toList.loop.eq_def, if_neg (by omega)]
    simp
  | succ d ih =>
    intro i r h
    rw [ByteArray.toList.loop.eq_def, if_pos (by omega), ih (i + 1) _ (by omega)]
    simp; omega
theorem toList_nil (u : ByteArray) : u.toList = [] ↔ u.size = 0 := by
  have h : u.toList.length = u.size := by
    unfold ByteArray.toList
    rw [toList_loop u u.size 0 [] (by omega)]
    simp
  constructor
  · intro e; rw [e] at h; exact h.symm
  · intro e; exact List.eq_nil_of_length_eq_zero (by omega)
theorem bt_ext (s : ByteArray) (a e i : Nat) (h : a + i < e) (he : e ≤ s.size) : bt (s.extract a e) (i : Int) = bt s ((a + i : Nat) : Int) := by
  rw [bt_nat (s.extract a e) i (by rw [ByteArray.size_extract]; omega), bt_nat s (a + i) (by omega)]
  congr 1
  rw [ByteArray.getElem_extract]
theorem size_ext (s : ByteArray) (a e : Nat) (he : e ≤ s.size) : (s.extract a e).size = e - a := by rw [ByteArray.size_extract]; omega
def dots (s : ByteArray) : Prop := ∀ j, j < s.size → bt s (j : Int) = 46
theorem right_l : ∀ d k (s : ByteArray), s.size = d → s.size ≤ 1048576 → d < k → ∃ t, strings_trimRightByte.l0 k s 46 = some t ∧ (dots s ↔ dots t) ∧ (dots s → t.size = 0) ∧ t.size ≤ s.size := by
  intro d
  induction d with
  | zero =>
    intro k s hd hs hk
    obtain ⟨k, rfl⟩ : ∃ m, k = m + 1 := ⟨k - 1, by omega⟩
    simp only [strings_trimRightByte.l0]
    rw [if_neg (by omega)]
    exact ⟨s, rfl, Iff.rfl, fun _ => hd, Nat.le_refl _⟩
  | succ d ih =>
    intro k s hd hs hk
    obtain ⟨k, rfl⟩ : ∃ m, k = m + 1 := ⟨k - 1, by omega⟩
    simp only [strings_trimRightByte.l0]
    rw [wrap_in ((s.size : Int) - 1) (by omega) (by omega), if_pos (by omega), if_pos (by omega), if_pos (by omega)]
    have e1 : (s.size : Int) - 1 = ((d : Nat) : Int) := by omega
    rw [e1]
    by_cases h : bt s (d : Int) = 46
    · rw [if_pos h, if_pos (by omega), Int.toNat_natCast]
      have hz : (s.extract 0 d).size = d := by rw [size_ext s 0 d (by omega)]; omega
      obtain ⟨t, ht, h1, h2, h3⟩ := ih k (s.extract 0 d) hz (by omega) (by omega)
      have hD : dots s ↔ dots (s.extract 0 d) := by
        constructor
        · intro hd' j hj
          rw [hz] at hj
          rw [bt_ext s 0 d j (by omega) (by omega), Nat.zero_add]
          exact hd' j (by omega)
        · intro hd' j hj
          by_cases hj' : j = d
          · rw [hj']; exact h
          · have := hd' j (by omega)
            rwa [bt_ext s 0 d j (by omega) (by omega), Nat.zero_add] at this
      exact ⟨t, ht, hD.trans h1, fun x => h2 (hD.1 x), by omega⟩
    · rw [if_neg h]
      exact ⟨s, rfl, Iff.rfl, fun x => absurd (x d (by omega)) h, Nat.le_refl _⟩
theorem left_l : ∀ d k (s : ByteArray), s.size = d → s.size ≤ 1048576 → d < k → ∃ t, strings_trimLeftByte.l0 k s 46 = some t ∧ (t.size = 0 ↔ dots s) := by
  intro d
  induction d with
  | zero =>
    intro k s hd hs hk
    obtain ⟨k, rfl⟩ : ∃ m, k = m + 1 := ⟨k - 1, by omega⟩
    simp only [strings_trimLeftByte.l0]
    rw [if_neg (by omega)]
    exact ⟨s, rfl, fun _ j hj => by omega, fun _ => hd⟩
  | succ d ih =>
    intro k s hd hs hk
    obtain ⟨k, rfl⟩ : ∃ m, k = m + 1 := ⟨k - 1, by omega⟩
    simp only [strings_trimLeftByte.l0]
    rw [if_pos (by omega), if_pos (by omega)]
    by_cases h : bt s 0 = 46
    · rw [if_pos h, if_pos (by omega)]
      have hz : (s.extract 1 s.size).size = d := by rw [size_ext s 1 s.size (by omega)]; omega
      obtain ⟨t, ht, h1⟩ := ih k (s.extract 1 s.size) hz (by omega) (by omega)
      refine ⟨t, ht, h1.trans ⟨fun hd' j hj => ?_, fun hd' j hj => ?_⟩⟩
      · by_cases hj' : j = 0
        · rw [hj']; exact h
        · have := hd' (j - 1) (by omega)
          rwa [bt_ext s 1 s.size (j - 1) (by omega) (by omega), show 1 + (j - 1) = j by omega] at this
      · rw [hz] at hj
        rw [bt_ext s 1 s.size j (by omega) (by omega)]
        exact hd' (1 + j) (by omega)
    · rw [if_neg h]
      exact ⟨s, rfl, fun h0 => by omega, fun x => absurd (x 0 (by omega)) h⟩
theorem trim_f (s : ByteArray) (hs : s.size ≤ 1048576) (k : Nat) (hk : s.size < k) : ∃ t, strings_Trim.f k s (⟨#[46]⟩ : ByteArray) = some t ∧ (t.toList = [] ↔ dots s) := by
  unfold strings_Trim.f
  rw [if_pos rfl]
  by_cases h0 : s.toList = ([] : List UInt8)
  · rw [if_pos h0]
    exact ⟨s, rfl, fun _ j hj => by rw [toList_nil] at h0; omega, fun _ => h0⟩
  · rw [if_neg h0]
    obtain ⟨t, ht, h1, h2, h3⟩ := right_l s.size k s rfl hs hk
    obtain ⟨u, hu, h4⟩ := left_l t.size k t rfl (by omega) (by omega)
    unfold strings_trimRightByte.f strings_trimLeftByte.f
    rw [ht, Option.bind_some, hu]
    exact ⟨u, rfl, (toList_nil u).trans (h4.trans h1.symm)⟩

def low (s : ByteArray) (j : Nat) : Prop := 97 ≤ bt s (j : Int) ∧ bt s (j : Int) ≤ 122
def good (s : ByteArray) (j : Nat) : Prop := low s j ∨ (bt s (j : Int) = 46 ∧ (j = 0 ∨ j + 1 = s.size))
def mok (l : List Int) (j : Nat) : Prop := 0 ≤ rd l (j : Int) ∧ rd l (j : Int) ≤ 9
/-- A pattern that is one. -/
def PO (s : ByteArray) (l : List Int) : Prop := 1 ≤ s.size ∧ s.size ≤ 20 ∧ l.length = s.size + 1 ∧ (∀ j, j < s.size → good s j) ∧ (∀ j, j ≤ s.size → mok l j) ∧ ∃ j, j < s.size ∧ low s j

theorem low_f (a : Int) : spec_l7Low.f a = some (decide (97 ≤ a ∧ a ≤ 122)) := by
  unfold spec_l7Low.f
  by_cases h : a ≥ 97
  · rw [if_pos h]; simp; omega
  · rw [if_neg h]; simp; omega
theorem s_l1 (s : ByteArray) (l : List Int) (x4 : Int) (n : Nat) (hn : n ≤ 20) (hl : l.length = n + 1) : ∀ d k i : Nat, n + 1 - i = d → i ≤ n + 1 → d < k →
    ∃ r, spec_PatternOk.l1 k (n : Int) x4 (i : Int) s l = some r ∧ (r = true ↔ (∀ j, i ≤ j → j ≤ n → mok l j) ∧ 0 < x4) := by
  intro d
  induction d with
  | zero =>
    intro k i hd hi hk
    obtain ⟨k, rfl⟩ : ∃ m, k = m + 1 := ⟨k - 1, by omega⟩
    simp only [spec_PatternOk.l1]
    rw [if_neg (by omega)]
    exact ⟨_, rfl, fun h => ⟨fun j h1 h2 => by omega, of_decide_eq_true h⟩, fun h => decide_eq_true h.2⟩
  | succ d ih =>
    intro k i hd hi hk
    obtain ⟨k, rfl⟩ : ∃ m, k = m + 1 := ⟨k - 1, by omega⟩
    simp only [spec_PatternOk.l1]
    rw [if_pos (by omega), if_pos (by omega), if_pos (by omega)]
    by_cases h0 : rd l (i : Int) < 0
    · rw [if_pos h0]
      exact ⟨false, rfl, fun h => (by cases h), fun h => by have := (h.1 i (Nat.le_refl _) (by omega)).1; omega⟩
    rw [if_neg h0]
    by_cases h1 : rd l (i : Int) > 9
    · rw [if_pos h1]
      exact ⟨false, rfl, fun h => (by cases h), fun h => by have := (h.1 i (Nat.le_refl _) (by omega)).2; omega⟩
    rw [if_neg h1, wrap_succ i (by omega)]
    obtain ⟨r, e, hr⟩ := ih k (i + 1) (by omega) (by omega) (by omega)
    refine ⟨r, e, hr.trans ⟨fun h => ⟨fun j h2 h3 => ?_, h.2⟩, fun h => ⟨fun j h2 h3 => h.1 j (by omega) h3, h.2⟩⟩⟩
    by_cases hj : j = i
    · subst hj; exact ⟨by omega, by omega⟩
    · exact h.1 j (by omega) h3
theorem s_l0 (s : ByteArray) (l : List Int) (hn1 : 1 ≤ s.size) (hn : s.size ≤ 20) (hl : l.length = s.size + 1) : ∀ d k i c : Nat, s.size - i = d → i ≤ s.size → c ≤ i → d + s.size + 2 < k →
    ∃ r, spec_PatternOk.l0 k (s.size : Int) (c : Int) (i : Int) s l = some r ∧ (r = true ↔ (∀ j, i ≤ j → j < s.size → good s j) ∧ (∀ j, j ≤ s.size → mok l j) ∧ (0 < c ∨ ∃ j, i ≤ j ∧ j < s.size ∧ low s j)) := by
  intro d
  induction d with
  | zero =>
    intro k i c hd hi hc hk
    obtain ⟨k, rfl⟩ : ∃ m, k = m + 1 := ⟨k - 1, by omega⟩
    simp only [spec_PatternOk.l0]
    rw [if_neg (by omega)]
    obtain ⟨r, e, hr⟩ := s_l1 s l (c : Int) s.size hn hl (s.size + 1) k 0 (by omega) (by omega) (by omega)
    refine ⟨r, e, hr.trans ⟨fun h => ⟨fun j h1 h2 => by omega, fun j h1 => h.1 j (by omega) h1, .inl (by omega)⟩, fun h => ⟨fun j _ h1 => h.2.1 j h1, ?_⟩⟩⟩
    rcases h.2.2 with h1 | ⟨j, h1, h2, _⟩
    · omega
    · omega
  | succ d ih =>
    intro k i c hd hi hc hk
    obtain ⟨k, rfl⟩ : ∃ m, k = m + 1 := ⟨k - 1, by omega⟩
    have hlt : i < s.size := by omega
    simp only [spec_PatternOk.l0]
    rw [if_pos (by omega), if_pos (by omega), if_pos (by omega), low_f, Option.bind_some]
    have skip : ¬ low s i → good s i → ∃ r, spec_PatternOk.l0 k (s.size : Int) (c : Int) ((i + 1 : Nat) : Int) s l = some r ∧ (r = true ↔ (∀ j, i ≤ j → j < s.size → good s j) ∧ (∀ j, j ≤ s.size → mok l j) ∧ (0 < c ∨ ∃ j, i ≤ j ∧ j < s.size ∧ low s j)) := by
      intro hL hg
      obtain ⟨r, e, hr⟩ := ih k (i + 1) c (by omega) (by omega) (by omega) (by omega)
      refine ⟨r, e, hr.trans ⟨fun h => ⟨fun j h1 h2 => ?_, h.2.1, ?_⟩, fun h => ⟨fun j h1 h2 => h.1 j (by omega) h2, h.2.1, ?_⟩⟩⟩
      · by_cases hj : j = i
        · subst hj; exact hg
        · exact h.1 j (by omega) h2
      · rcases h.2.2 with h1 | ⟨j, h1, h2, h3⟩
        · exact .inl h1
        · exact .inr ⟨j, by omega, h2, h3⟩
      · rcases h.2.2 with h1 | ⟨j, h1, h2, h3⟩
        · exact .inl h1
        · refine .inr ⟨j, ?_, h2, h3⟩
          by_cases hj : j = i
          · subst hj; exact absurd h3 hL
          · omega
    have skip := Aside0.mk skip
    by_cases hL : low s i
    · rw [if_pos (decide_eq_true (show 97 ≤ bt s (i : Int) ∧ bt s (i : Int) ≤ 122 from hL)), wrap_succ i (by omega), wrap_succ c (by omega)]
      obtain ⟨r, e, hr⟩ := ih k (i + 1) (c + 1) (by omega) (by omega) (by omega) (by omega)
      refine ⟨r, e, hr.trans ⟨fun h => ⟨fun j h1 h2 => ?_, h.2.1, .inr ⟨i, Nat.le_refl _, by omega, hL⟩⟩, fun h => ⟨fun j h1 h2 => h.1 j (by omega) h2, h.2.1, .inl (by omega)⟩⟩⟩
      by_cases hj : j = i
      · subst hj; exact .inl hL
      · exact h.1 j (by omega) h2
    · rw [if_neg (by rw [decide_eq_false (show ¬ (97 ≤ bt s (i : Int) ∧ bt s (i : Int) ≤ 122) from hL)]; decide), wrap_succ i (by omega), wrap_in ((s.size : Int) - 1) (by omega) (by omega)]
      by_cases h46 : bt s (i : Int) = 46
      · rw [if_pos h46]
        by_cases hi0 : (i : Int) > 0
        · rw [if_pos hi0]
          by_cases hi1 : (i : Int) < (s.size : Int) - 1
          · rw [if_pos hi1]
            refine ⟨false, rfl, fun h => (by cases h), fun h => ?_⟩
            rcases h.1 i (Nat.le_refl _) hlt with h1 | ⟨_, h1⟩
            · exact absurd h1 hL
            · clear h; omega
          · rw [if_neg hi1]
            exact skip.out hL (.inr ⟨h46, .inr (by omega)⟩)
        · rw [if_neg hi0]
          exact skip.out hL (.inr ⟨h46, .inl (by omega)⟩)
      · rw [if_neg h46]
        refine ⟨false, rfl, fun h => (by cases h), fun h => ?_⟩
        rcases h.1 i (Nat.le_refl _) hlt with h1 | ⟨h1, _⟩
        · exact absurd h1 hL
        · exact absurd h1 h46
theorem s_f (s : ByteArray) (l : List Int) (hs : s.size ≤ 1048576) (hl : l.length ≤ 1048576) (k : Nat) (hk : 100 < k) : ∃ r, spec_PatternOk.f k s l = some r ∧ (r = true ↔ PO s l) := by
  obtain ⟨k, rfl⟩ : ∃ m, k = m + 1 := ⟨k - 1, by omega⟩
  unfold spec_PatternOk.f
  simp only [spec_PatternOk.j0, if_pos]
  by_cases h1 : (s.size : Int) < 1
  · rw [if_pos h1]
    exact ⟨false, rfl, fun h => (by cases h), fun h => by have := h.1; omega⟩
  rw [if_neg h1]
  by_cases h2 : (s.size : Int) > 20
  · rw [if_pos h2]
    exact ⟨false, rfl, fun h => (by cases h), fun h => by have := h.2.1; omega⟩
  rw [if_neg h2, wrap_in ((s.size : Int) + 1) (by omega) (by omega)]
  by_cases h3 : (l.length : Int) = (s.size : Int) + 1
  · rw [if_neg (by rw [bne_eq_false_iff_eq.mpr h3]; decide)]
    obtain ⟨r, e, hr⟩ := s_l0 s l (by omega) (by omega) (by omega) s.size k 0 0 (by omega) (by omega) (by omega) (by omega)
    refine ⟨r, e, hr.trans ⟨fun h => ⟨by omega, by omega, by omega, fun j hj => h.1 j (by omega) hj, h.2.1, ?_⟩, fun h => ⟨fun j _ hj => h.2.2.2.1 j hj, h.2.2.2.2.1, ?_⟩⟩⟩
    · rcases h.2.2 with h4 | ⟨j, _, h5, h6⟩
      · omega
      · exact ⟨j, h5, h6⟩
    · obtain ⟨j, h4, h5⟩ := h.2.2.2.2.2
      exact .inr ⟨j, by omega, h4, h5⟩
  · rw [if_pos (bne_iff_ne.mpr h3)]
    exact ⟨false, rfl, fun h => (by cases h), fun h => by have := h.2.2.1; omega⟩

theorem c1_f (a : Int) : impl_PatternOk_1.f a = some (decide (a < 0 ∨ a > 9)) := by
  unfold impl_PatternOk_1.f
  by_cases h : a < 0
  · rw [if_pos h]; simp [h]
  · rw [if_neg h]; simp [h]
theorem ix_l (l : List Int) (hl : l.length ≤ 1048576) : ∀ d k i : Nat, l.length - i = d → i ≤ l.length → d < k → ∃ r, slices_IndexFunc_int64_int64.l0 k l (l.length : Int) (i : Int) = some r ∧ (r < 0 ↔ ∀ j, i ≤ j → j < l.length → mok l j) := by
  intro d
  induction d with
  | zero =>
    intro k i hd hi hk
    obtain ⟨k, rfl⟩ : ∃ m, k = m + 1 := ⟨k - 1, by omega⟩
    simp only [slices_IndexFunc_int64_int64.l0]
    rw [if_neg (by omega)]
    exact ⟨_, rfl, fun _ j h1 h2 => by omega, fun _ => by decide⟩
  | succ d ih =>
    intro k i hd hi hk
    obtain ⟨k, rfl⟩ : ∃ m, k = m + 1 := ⟨k - 1, by omega⟩
    simp only [slices_IndexFunc_int64_int64.l0]
    rw [if_pos (by omega), if_pos (by omega), if_pos (by omega), c1_f, Option.bind_some]
    by_cases h : rd l (i : Int) < 0 ∨ rd l (i : Int) > 9
    · rw [if_pos (decide_eq_true h)]
      refine ⟨_, rfl, fun h0 => by omega, fun h0 => ?_⟩
      have := h0 i (Nat.le_refl _) (by omega)
      unfold mok at this
      omega
    · rw [if_neg (by rw [decide_eq_false h]; decide), wrap_succ i (by omega)]
      obtain ⟨r, e, hr⟩ := ih k (i + 1) (by omega) (by omega) (by omega)
      refine ⟨r, e, hr.trans ⟨fun h0 j h1 h2 => ?_, fun h0 j h1 h2 => h0 j (by omega) h2⟩⟩
      by_cases hj : j = i
      · subst hj; unfold mok; omega
      · exact h0 j (by omega) h2
theorem cont_f (l : List Int) (hl : l.length ≤ 1048576) (k : Nat) (hk : l.length < k) : ∃ b, slices_ContainsFunc_int64_int64.f k l = some b ∧ (b = false ↔ ∀ j, j < l.length → mok l j) := by
  unfold slices_ContainsFunc_int64_int64.f slices_IndexFunc_int64_int64.f
  obtain ⟨r, e, hr⟩ := ix_l l hl l.length k 0 (by omega) (by omega) hk
  rw [show ((0 : Nat) : Int) = 0 from rfl] at e
  rw [e, Option.bind_some]
  refine ⟨_, rfl, ?_⟩
  rw [decide_eq_false_iff_not]
  constructor
  · intro h j hj; exact hr.1 (by omega) j (by omega) hj
  · intro h; have := hr.2 (fun j _ hj => h j hj); omega
theorem i_l0 (s : ByteArray) (l : List Int) (hn1 : 1 ≤ s.size) (hn : s.size ≤ 20) (hl : l.length = s.size + 1) : ∀ d k i : Nat, s.size - i = d → i ≤ s.size → d + s.size + 2 < k →
    ∃ r, impl_PatternOk.l0 k (s.size : Int) (s.size : Int) (i : Int) s l = some r ∧ (r = true ↔ (∀ j, i ≤ j → j < s.size → good s j) ∧ (∀ j, j ≤ s.size → mok l j)) := by
  intro d
  induction d with
  | zero =>
    intro k i hd hi hk
    obtain ⟨k, rfl⟩ : ∃ m, k = m + 1 := ⟨k - 1, by omega⟩
    simp only [impl_PatternOk.l0]
    rw [if_neg (by omega)]
    obtain ⟨b, e, hb⟩ := cont_f l (by omega) k (by omega)
    rw [e, Option.bind_some]
    refine ⟨_, rfl, ?_⟩
    cases b with
    | false => exact ⟨fun _ => ⟨fun j h1 h2 => by omega, fun j hj => hb.1 rfl j (by omega)⟩, fun _ => rfl⟩
    | true => exact ⟨fun h => (by cases h), fun h => by have := hb.2 (fun j hj => h.2 j (by omega)); cases this⟩
  | succ d ih =>
    intro k i hd hi hk
    obtain ⟨k, rfl⟩ : ∃ m, k = m + 1 := ⟨k - 1, by omega⟩
    have skip : good s i → ∃ r, impl_PatternOk.l0 k (s.size : Int) (s.size : Int) ((i + 1 : Nat) : Int) s l = some r ∧ (r = true ↔ (∀ j, i ≤ j → j < s.size → good s j) ∧ (∀ j, j ≤ s.size → mok l j)) := by
      intro hg
      obtain ⟨r, e, hr⟩ := ih k (i + 1) (by omega) (by omega) (by omega)
      refine ⟨r, e, hr.trans ⟨fun h => ⟨fun j h1 h2 => ?_, h.2⟩, fun h => ⟨fun j h1 h2 => h.1 j (by omega) h2, h.2⟩⟩⟩
      by_cases hj : j = i
      · subst hj; exact hg
      · exact h.1 j (by omega) h2
    have skip := Aside0.mk skip
    have bad : ¬ good s i → ∃ r, (some false : Option Bool) = some r ∧ (r = true ↔ (∀ j, i ≤ j → j < s.size → good s j) ∧ (∀ j, j ≤ s.size → mok l j)) := fun hg => ⟨false, rfl, fun h => (by cases h), fun h => absurd (h.1 i (Nat.le_refl _) (by omega)) hg⟩
    have bad := Aside0.mk bad
    simp only [impl_PatternOk.l0]
    rw [if_pos (by omega), if_pos (by omega), if_pos (by omega), wrap_succ i (by omega), wrap_in ((s.size : Int) - 1) (by omega) (by omega)]
    have dot : ¬ low s i → ∃ r, (if bt s (i : Int) = 46 then (if (i : Int) = 0 then (impl_PatternOk.l0 k (s.size : Int) (s.size : Int) ((i + 1 : Nat) : Int) s l) else (if ((i : Int) = (s.size : Int) - 1) then (impl_PatternOk.l0 k (s.size : Int) (s.size : Int) ((i + 1 : Nat) : Int) s l) else (some false))) else (some false)) = some r ∧ (r = true ↔ (∀ j, i ≤ j → j < s.size → good s j) ∧ (∀ j, j ≤ s.size → mok l j)) := by
      intro hL
      by_cases h46 : bt s (i : Int) = 46
      · rw [if_pos h46]
        by_cases h0 : (i : Int) = 0
        · rw [if_pos h0]; exact skip.out (.inr ⟨h46, .inl (by omega)⟩)
        · rw [if_neg h0]
          by_cases h1 : (i : Int) = (s.size : Int) - 1
          · rw [if_pos h1]; exact skip.out (.inr ⟨h46, .inr (by omega)⟩)
          · rw [if_neg h1]
            refine bad.out fun hg => ?_
            rcases hg with h2 | ⟨_, h2⟩
            · exact hL h2
            · omega
      · rw [if_neg h46]
        refine bad.out fun hg => ?_
        rcases hg with h2 | ⟨h2, _⟩
        · exact hL h2
        · exact h46 h2
    by_cases ha : bt s (i : Int) ≥ 97
    · rw [if_pos ha]
      by_cases hb : bt s (i : Int) ≤ 122
      · rw [if_pos hb]; exact skip.out (.inl ⟨ha, hb⟩)
      · rw [if_neg hb]; exact dot fun h => hb h.2
    · rw [if_neg ha]; exact dot fun h => ha h.1
theorem i_f (s : ByteArray) (l : List Int) (hs : s.size ≤ 1048576) (hl : l.length ≤ 1048576) (k : Nat) (hk : 100 < k) : ∃ r, impl_PatternOk.f k s l = some r ∧ (r = true ↔ PO s l) := by
  obtain ⟨k, rfl⟩ : ∃ m, k = m + 1 := ⟨k - 1, by omega⟩
  unfold impl_PatternOk.f
  simp only [impl_PatternOk.j0, if_pos]
  by_cases h1 : (s.size : Int) < 1
  · rw [if_pos h1]
    exact ⟨false, rfl, fun h => (by cases h), fun h => by have := h.1; omega⟩
  rw [if_neg h1]
  by_cases h2 : (s.size : Int) > 20
  · rw [if_pos h2]
    exact ⟨false, rfl, fun h => (by cases h), fun h => by have := h.2.1; omega⟩
  rw [if_neg h2, wrap_in ((s.size : Int) + 1) (by omega) (by omega)]
  by_cases h3 : (l.length : Int) = (s.size : Int) + 1
  · rw [if_pos h3]
    obtain ⟨t, ht, hd⟩ := trim_f s hs (k + 1) (by omega)
    rw [ht, Option.bind_some]
    by_cases h4 : t.toList = ([] : List UInt8)
    · rw [if_pos (beq_iff_eq.mpr h4)]
      refine ⟨false, rfl, fun h => (by cases h), fun h => ?_⟩
      obtain ⟨j, h5, h6⟩ := h.2.2.2.2.2
      have := hd.1 h4 j h5
      unfold low at h6
      omega
    · rw [if_neg (by rw [beq_eq_false_iff_ne.mpr h4]; decide)]
      obtain ⟨r, e, hr⟩ := i_l0 s l (by omega) (by omega) (by omega) s.size k 0 (by omega) (by omega) (by omega)
      rw [show ((0 : Nat) : Int) = 0 from rfl] at e
      refine ⟨r, e, hr.trans ⟨fun h => ⟨by omega, by omega, by omega, fun j hj => h.1 j (by omega) hj, h.2, ?_⟩, fun h => ⟨fun j _ hj => h.2.2.2.1 j hj, h.2.2.2.2.1⟩⟩⟩
      refine Classical.byContradiction fun hno => h4 (hd.2 fun j hj => ?_)
      rcases h.1 j (by omega) hj with h5 | ⟨h5, _⟩
      · exact absurd ⟨j, hj, h5⟩ hno
      · exact h5
  · rw [if_neg h3]
    exact ⟨false, rfl, fun h => (by cases h), fun h => by have := h.2.2.1; omega⟩
theorem same_ok (s : ByteArray) (l : List Int) (hs : s.size ≤ 1048576) (hl : l.length ≤ 1048576) (k k' : Nat) (hk : 100 < k) (hk' : 100 < k') : ∃ r, spec_PatternOk.f k s l = some r ∧ impl_PatternOk.f k' s l = some r ∧ (r = true ↔ PO s l) := by
  obtain ⟨r, e, hr⟩ := s_f s l hs hl k hk
  obtain ⟨q, e', hq⟩ := i_f s l hs hl k' hk'
  obtain rfl : r = q := Bool.eq_iff_iff.mpr (hr.trans hq.symm)
  exact ⟨r, e, e', hr⟩
theorem to_l0 (l : List Int) (hl : l.length ≤ 1048576) : ∀ d k i : Nat, l.length - i = d → i ≤ l.length → d < k →
    laws_toInt64S.l0 k l ((List.range i).map (fun j : Nat => rd l (j : Int)) ++ List.replicate (l.length - i) 0) i = some l := by
  intro d
  induction d with
  | zero =>
    intro k i hd hi hk
    obtain ⟨k, rfl⟩ : ∃ m, k = m + 1 := ⟨k - 1, by omega⟩
    obtain rfl : i = l.length := by omega
    simp only [laws_toInt64S.l0]
    rw [if_neg (by omega), Nat.sub_self, map_get l (fun x => x) (fun j : Nat => rd l (j : Int)) (fun j hj => rd_nat l j hj)]
    simp
  | succ d ih =>
    intro k i hd hi hk
    obtain ⟨k, rfl⟩ : ∃ m, k = m + 1 := ⟨k - 1, by omega⟩
    simp only [laws_toInt64S.l0]
    rw [if_pos (by omega), if_pos (by omega), if_pos (by simp; omega), wrap_succ i (by omega), Int.toNat_natCast, set_step (fun j : Nat => rd l (j : Int)) 0 l.length i (by omega)]
    exact ih k (i + 1) (by omega) (by omega) (by omega)
theorem to_f (l : List Int) (hl : l.length ≤ 1048576) (k : Nat) (hk : l.length < k) : laws_toInt64S.f k l = some l := by
  unfold laws_toInt64S.f
  rw [if_pos (by omega), if_pos (by simp; omega), Int.toNat_natCast]
  exact to_l0 l hl l.length k 0 (by omega) (by omega) hk
theorem eq_l0 (l : List Int) (hl : l.length ≤ 1048576) : ∀ d k i : Nat, l.length - i = d → i ≤ l.length → d < k → laws_eqInt64S.l0 k l l i = some true := by
  intro d
  induction d with
  | zero =>
    intro k i hd hi hk
    obtain ⟨k, rfl⟩ : ∃ m, k = m + 1 := ⟨k - 1, by omega⟩
    simp only [laws_eqInt64S.l0]
    rw [if_neg (by omega)]
  | succ d ih =>
    intro k i hd hi hk
    obtain ⟨k, rfl⟩ : ∃ m, k = m + 1 := ⟨k - 1, by omega⟩
    rw [laws_eqInt64S.l0, if_pos (by omega), if_pos (by omega), if_pos (by omega), if_pos rfl, wrap_succ i (by omega)]
    exact ih k (i + 1) (by omega) (by omega) (by omega)
theorem eq_f (l : List Int) (hl : l.length ≤ 1048576) (k : Nat) (hk : l.length < k) : laws_eqInt64S.f k l l = some true := by
  unfold laws_eqInt64S.f
  rw [if_pos rfl]
  exact eq_l0 l hl l.length k 0 (by omega) (by omega) hk
theorem eqP (s : ByteArray) (l : List Int) (hl : l.length ≤ 1048576) (k : Nat) (hk : l.length < k) : laws_eqPattern.f k s l s l = some true := by
  unfold laws_eqPattern.f
  rw [if_pos rfl, eq_f l hl k hk, Option.bind_some, if_pos rfl]
theorem FnExactPatternOk : laws_FnExactPatternOk.Pure := by
  intro s l hs0 hl0 hw
  refine ⟨2 * l.length + 300, ?_⟩
  unfold laws_FnExactPatternOk.f laws_szPattern.f laws_szInt64S.f
  by_cases h1 : wrap64 (1048576 - (s.size : Int)) < 0
  · rw [if_pos h1, Option.bind_some, if_pos (by decide)]
  rw [if_neg h1]
  have hs : s.size ≤ 1048576 := by unfold wrap64 at h1; omega
  rw [wrap_in (1048576 - (s.size : Int)) (by omega) (by omega)]
  by_cases h2 : wrap64 (1048576 - (s.size : Int) - (l.length : Int)) < 0
  · rw [if_pos h2, Option.bind_some, if_pos (by decide), Option.bind_some, if_pos (by decide)]
  rw [if_neg h2]
  have hl : l.length ≤ 1048576 := by unfold wrap64 at h2; omega
  rw [wrap_in (1048576 - (s.size : Int) - (l.length : Int)) (by omega) (by omega)] at h2 ⊢
  rw [Option.bind_some, if_neg (by omega), Option.bind_some, if_neg (by omega)]
  have ht : laws_toPattern.f (2 * l.length + 300) s l = some (s, l) := by
    unfold laws_toPattern.f
    rw [to_f l hl _ (by omega), Option.bind_some]
  rw [ht, Option.bind_some]
  simp only [Option.bind_some]
  obtain ⟨r, e1, e2, hr⟩ := same_ok s l hs hl (2 * l.length + 300) (2 * l.length + 300) (by omega) (by omega)
  rw [e1, e2]
  simp only [Option.bind_some]
  rw [eqP s l hl _ (by omega)]
  cases r <;> simp


end Go.Proofs.YtgfifmbbjoocgaaDoor.Pure
