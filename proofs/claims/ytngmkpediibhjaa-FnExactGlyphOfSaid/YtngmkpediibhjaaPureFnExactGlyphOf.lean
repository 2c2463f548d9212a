/- The pure statement of FnExactGlyphOf: both sides hand back the same glyph. No condition. -/
import Derived.Test.YtngmkpediibhjaaPFnExactGlyphOfx5
import Derived.Test.YtngmkpediibhjaaKitVGl
namespace Go.Proofs.Ytngmkpediibhjaa.Pure
open Go.RowKit Go.Proofs.Ytngmkpediibhjaa.PFnExactGlyphOf Go.Proofs.Ytngmkpediibhjaa.Kit Go.Proofs.YtngmkpediibhjaaW.PrintWords Go.Proofs.YtngmkpediibhjaaW.PrintLast Go.Proofs.YtngmkpediibhjaaW.PrintMore
set_option linter.unusedVariables false
set_option linter.unusedSimpArgs false
set_option linter.unusedSectionVars false

def cvGlyph (x : S104) : S39 := ⟨x.f0, x.f1, x.f2, x.f3⟩
theorem rdGlyph_a (l : List S104) (i : Nat) (h : i < l.length) : rd_T104 l (i : Int) = l[i] := by simp [rd_T104, h]
theorem rdGlyph_b (l : List S39) (i : Nat) (h : i < l.length) : rd_T39 l (i : Int) = l[i] := by simp [rd_T39, h]
theorem toGlyphS_l0 (l : List S104) (hl : l.length ≤ 1048576) : ∀ d k i : Nat, l.length - i = d → i ≤ l.length → d < k →
    laws_toGlyphS.l0 k l ((List.range i).map (fun j : Nat => cvGlyph (rd_T104 l (j : Int))) ++ List.replicate (l.length - i) z39) i = some (l.map cvGlyph) := by
  intro d
  induction d with
  | zero =>
    intro k i hd hi hk
    obtain ⟨k, rfl⟩ : ∃ m, k = m + 1 := ⟨k - 1, by omega⟩
    obtain rfl : i = l.length := by omega
    rw [laws_toGlyphS.l0, if_neg (by omega), Nat.sub_self, map_get l cvGlyph (fun j : Nat => cvGlyph (rd_T104 l (j : Int))) (fun j hj => by rw [rdGlyph_a l j hj])]
    simp
  | succ d ih =>
    intro k i hd hi hk
    obtain ⟨k, rfl⟩ : ∃ m, k = m + 1 := ⟨k - 1, by omega⟩
    rw [laws_toGlyphS.l0, if_pos (by omega), if_pos (by omega)]
    simp only [laws_toGlyph.f, Option.bind_some]
    rw [if_pos (by simp; omega), wrap_succ i (by omega), Int.toNat_natCast]
    have := set_step (fun j : Nat => cvGlyph (rd_T104 l (j : Int))) z39 l.length i (by omega)
    rw [show (⟨(rd_T104 l (i : Int)).f0, (rd_T104 l (i : Int)).f1, (rd_T104 l (i : Int)).f2, (rd_T104 l (i : Int)).f3⟩ : S39) = cvGlyph (rd_T104 l (i : Int)) from rfl, this]
    exact ih k (i + 1) (by omega) (by omega) (by omega)
theorem toGlyphS_f (l : List S104) (hl : l.length ≤ 1048576) (k : Nat) (hk : l.length < k) : laws_toGlyphS.f k l = some (l.map cvGlyph) := by
  unfold laws_toGlyphS.f
  rw [if_pos (by omega), if_pos (by simp; omega), Int.toNat_natCast]
  exact toGlyphS_l0 l hl l.length k 0 (by omega) (by omega) hk
theorem eqGlyphS_l0 (l : List S39) (hl : l.length ≤ 9223372036854775806) : ∀ d k i : Nat, l.length - i = d → i ≤ l.length → d < k → laws_eqGlyphS.l0 k l l i = some true := by
  intro d
  induction d with
  | zero =>
    intro k i hd hi hk
    obtain ⟨k, rfl⟩ : ∃ m, k = m + 1 := ⟨k - 1, by omega⟩
    rw [laws_eqGlyphS.l0, if_neg (by omega)]
  | succ d ih =>
    intro k i hd hi hk
    obtain ⟨k, rfl⟩ : ∃ m, k = m + 1 := ⟨k - 1, by omega⟩
    rw [laws_eqGlyphS.l0, if_pos (by omega), if_pos (by omega), if_pos (by omega)]
    simp only [laws_eqGlyph.f, if_true, Option.bind_some]
    rw [wrap_succ i (by omega)]
    exact ih k (i + 1) (by omega) (by omega) (by omega)
theorem eqGlyphS_f (l : List S39) (hl : l.length ≤ 9223372036854775806) (k : Nat) (hk : l.length < k) : laws_eqGlyphS.f k l l = some true := by
  unfold laws_eqGlyphS.f
  rw [if_pos rfl]
  exact eqGlyphS_l0 l hl l.length k 0 (by omega) (by omega) hk
def cvPair (x : S106) : S64 := ⟨x.f0, x.f1, x.f2, x.f3⟩
theorem rdPair_a (l : List S106) (i : Nat) (h : i < l.length) : rd_T106 l (i : Int) = l[i] := by simp [rd_T106, h]
theorem rdPair_b (l : List S64) (i : Nat) (h : i < l.length) : rd_T64 l (i : Int) = l[i] := by simp [rd_T64, h]
theorem toPairS_l0 (l : List S106) (hl : l.length ≤ 1048576) : ∀ d k i : Nat, l.length - i = d → i ≤ l.length → d < k →
    laws_toPairS.l0 k l ((List.range i).map (fun j : Nat => cvPair (rd_T106 l (j : Int))) ++ List.replicate (l.length - i) z64) i = some (l.map cvPair) := by
  intro d
  induction d with
  | zero =>
    intro k i hd hi hk
    obtain ⟨k, rfl⟩ : ∃ m, k = m + 1 := ⟨k - 1, by omega⟩
    obtain rfl : i = l.length := by omega
    rw [laws_toPairS.l0, if_neg (by omega), Nat.sub_self, map_get l cvPair (fun j : Nat => cvPair (rd_T106 l (j : Int))) (fun j hj => by rw [rdPair_a l j hj])]
    simp
  | succ d ih =>
    intro k i hd hi hk
    obtain ⟨k, rfl⟩ : ∃ m, k = m + 1 := ⟨k - 1, by omega⟩
    rw [laws_toPairS.l0, if_pos (by omega), if_pos (by omega)]
    simp only [laws_toPair.f, Option.bind_some]
    rw [if_pos (by simp; omega), wrap_succ i (by omega), Int.toNat_natCast]
    have := set_step (fun j : Nat => cvPair (rd_T106 l (j : Int))) z64 l.length i (by omega)
    rw [show (⟨(rd_T106 l (i : Int)).f0, (rd_T106 l (i : Int)).f1, (rd_T106 l (i : Int)).f2, (rd_T106 l (i : Int)).f3⟩ : S64) = cvPair (rd_T106 l (i : Int)) from rfl, this]
    exact ih k (i + 1) (by omega) (by omega) (by omega)
theorem toPairS_f (l : List S106) (hl : l.length ≤ 1048576) (k : Nat) (hk : l.length < k) : laws_toPairS.f k l = some (l.map cvPair) := by
  unfold laws_toPairS.f
  rw [if_pos (by omega), if_pos (by simp; omega), Int.toNat_natCast]
  exact toPairS_l0 l hl l.length k 0 (by omega) (by omega) hk
theorem eqPairS_l0 (l : List S64) (hl : l.length ≤ 9223372036854775806) : ∀ d k i : Nat, l.length - i = d → i ≤ l.length → d < k → laws_eqPairS.l0 k l l i = some true := by
  intro d
  induction d with
  | zero =>
    intro k i hd hi hk
    obtain ⟨k, rfl⟩ : ∃ m, k = m + 1 := ⟨k - 1, by omega⟩
    rw [laws_eqPairS.l0, if_neg (by omega)]
  | succ d ih =>
    intro k i hd hi hk
    obtain ⟨k, rfl⟩ : ∃ m, k = m + 1 := ⟨k - 1, by omega⟩
    rw [laws_eqPairS.l0, if_pos (by omega), if_pos (by omega), if_pos (by omega)]
    simp only [laws_eqPair.f, if_true, Option.bind_some]
    rw [wrap_succ i (by omega)]
    exact ih k (i + 1) (by omega) (by omega) (by omega)
theorem eqPairS_f (l : List S64) (hl : l.length ≤ 9223372036854775806) (k : Nat) (hk : l.length < k) : laws_eqPairS.f k l l = some true := by
  unfold laws_eqPairS.f
  rw [if_pos rfl]
  exact eqPairS_l0 l hl l.length k 0 (by omega) (by omega) hk
theorem szGlyphS_f (l : List S104) (left : Int) (h0 : 0 ≤ left) (h1 : left ≤ 1048576) (hl : l.length ≤ 9223372036854775807) : ∃ r, laws_szGlyphS.f l left = some r ∧ (r < 0 ∨ (0 ≤ r ∧ r ≤ left ∧ (l.length : Int) ≤ left)) := by
  unfold laws_szGlyphS.f
  rw [wrap_in (left - (l.length : Int)) (by omega) (by omega)]
  split
  · exact ⟨-1, rfl, .inl (by omega)⟩
  · exact ⟨_, rfl, .inr (by omega)⟩
theorem szPairS_f (l : List S106) (left : Int) (h0 : 0 ≤ left) (h1 : left ≤ 1048576) (hl : l.length ≤ 9223372036854775807) : ∃ r, laws_szPairS.f l left = some r ∧ (r < 0 ∨ (0 ≤ r ∧ r ≤ left ∧ (l.length : Int) ≤ left)) := by
  unfold laws_szPairS.f
  rw [wrap_in (left - (l.length : Int)) (by omega) (by omega)]
  split
  · exact ⟨-1, rfl, .inl (by omega)⟩
  · exact ⟨_, rfl, .inr (by omega)⟩
theorem szFont_f (s : ByteArray) (l : List S104) (p : List S106) (b3 b4 b5 b6 b7 b8 b9 : Int) (hs : s.size ≤ 9223372036854775807) (hl : l.length ≤ 9223372036854775807) (hp : p.length ≤ 9223372036854775807) :
    ∃ r, laws_szFont.f s l p b3 b4 b5 b6 b7 b8 b9 1048576 = some r ∧ (r < 0 ∨ (0 ≤ r ∧ l.length ≤ 1048576 ∧ p.length ≤ 1048576)) := by
  unfold laws_szFont.f
  rw [wrap_in (1048576 - (s.size : Int)) (by omega) (by omega)]
  by_cases h1 : (1048576 - (s.size : Int)) < 0
  · rw [if_pos h1]; exact ⟨-1, rfl, .inl (by omega)⟩
  · rw [if_neg h1]
    obtain ⟨r, hr, hc⟩ := szGlyphS_f l (1048576 - (s.size : Int)) (by omega) (by omega) hl
    rw [hr, Option.bind_some]
    rcases hc with hc | ⟨c0, c1, c2⟩
    · rw [if_pos hc]; exact ⟨-1, rfl, .inl (by omega)⟩
    · rw [if_neg (by omega)]
      obtain ⟨r2, hr2, hc2⟩ := szPairS_f p r c0 (by omega) hp
      rw [hr2, Option.bind_some]
      rcases hc2 with hc2 | ⟨d0, d1, d2⟩
      · rw [if_pos hc2]; exact ⟨-1, rfl, .inl (by omega)⟩
      · rw [if_neg (by omega)]; exact ⟨_, rfl, .inr (by omega)⟩
theorem toFont_f (s : ByteArray) (l : List S104) (p : List S106) (b3 b4 b5 b6 b7 b8 b9 : Int) (hl : l.length ≤ 1048576) (hp : p.length ≤ 1048576) (k : Nat) (h1 : l.length < k) (h2 : p.length < k) :
    laws_toFont.f k s l p b3 b4 b5 b6 b7 b8 b9 = some (s, l.map cvGlyph, p.map cvPair, b3, b4, b5, b6, b7, b8, b9) := by
  unfold laws_toFont.f laws_toGlue.f
  rw [toGlyphS_f l hl k h1, Option.bind_some, toPairS_f p hp k h2, Option.bind_some, Option.bind_some]
theorem eqFont_f (s : ByteArray) (l : List S39) (p : List S64) (b3 b4 b5 b6 b7 b8 b9 : Int) (hl : l.length ≤ 1048576) (hp : p.length ≤ 1048576) (k : Nat) (h1 : l.length < k) (h2 : p.length < k) :
    laws_eqFont.f k s l p b3 b4 b5 b6 b7 b8 b9 s l p b3 b4 b5 b6 b7 b8 b9 = some true := by
  unfold laws_eqFont.f laws_eqGlue.f
  rw [if_pos rfl, eqGlyphS_f l (by omega) k h1, Option.bind_some, if_pos rfl, eqPairS_f p (by omega) k h2, Option.bind_some, if_pos rfl, if_pos rfl, if_pos rfl, if_pos rfl, if_pos rfl, if_pos rfl, Option.bind_some, if_pos rfl, if_pos rfl, if_pos rfl]
theorem wfP_map (p : List S106) (hw : ∀ x ∈ p, WF106 x) : wfP (p.map cvPair) = true := by
  unfold wfP
  rw [List.all_eq_true]
  intro x hx
  obtain ⟨y, hy, rfl⟩ := List.mem_map.1 hx
  obtain ⟨h0, h1, h2, _⟩ := hw y hy
  show ((Lit.int .i64 y.f0).wf && (Lit.int .i64 y.f1).wf && (Lit.int .i64 y.f2).wf) = true
  rw [h0, h1, h2]
  rfl
/-! ### the glyph -/
theorem glyph_some (a0 : ByteArray) (l1 : List S39) (l2 : List S64) (a3 a4 a5 a6 a7 a8 a9 c : Int) : ∀ (k : Nat) (lo hi r : Int), spec_l6Glyph.l0 k c lo hi a0 l1 l2 a3 a4 a5 a6 a7 a8 a9 = some r → r < 0 ∨ (0 ≤ r ∧ r < (l1.length : Int) ∧ (rd_T39 l1 r).f0 = c) := by
  intro k
  induction k with
  | zero => intro lo hi r h; simp [spec_l6Glyph.l0] at h
  | succ k ih =>
    intro lo hi r h
    rw [spec_l6Glyph.l0] at h
    by_cases h1 : lo < hi
    · rw [if_pos h1] at h
      split at h
      · split at h
        · split at h
          · exact ih _ _ _ h
          · exact ih _ _ _ h
        · cases h
      · cases h
    · rw [if_neg h1] at h
      by_cases h2 : lo < (l1.length : Int)
      · rw [if_pos h2] at h
        by_cases h3 : 0 ≤ lo
        · rw [if_pos h3] at h
          by_cases h4 : (rd_T39 l1 lo).f0 = c
          · rw [if_pos h4] at h
            injection h with h
            subst h
            exact .inr ⟨h3, h2, h4⟩
          · rw [if_neg h4] at h
            injection h with h
            subst h
            exact .inl (by omega)
        · rw [if_neg h3] at h
          cases h
      · rw [if_neg h2] at h
        injection h with h
        subst h
        exact .inl (by omega)
theorem walk_hit (l : List S39) (c : Int) (n : Nat) (hM : l.length ≤ 9223372036854775807) (hn : n < l.length) (hc : (rd_T39 l (n : Int)).f0 = c) : ∀ d k i : Nat, n - i = d → i ≤ n → (∀ j : Nat, j < n → (rd_T39 l (j : Int)).f0 ≠ c) → d < k →
    impl_glyph.l0 k c l (l.length : Int) i = some ((rd_T39 l (n : Int)).f0, (rd_T39 l (n : Int)).f1, (rd_T39 l (n : Int)).f2, (rd_T39 l (n : Int)).f3, true) := by
  intro d
  induction d with
  | zero =>
    intro k i hd hi hne hk
    obtain ⟨k, rfl⟩ : ∃ m, k = m + 1 := ⟨k - 1, by omega⟩
    obtain rfl : i = n := by omega
    rw [impl_glyph.l0, if_pos (by omega), if_pos (by omega), if_pos (by omega), if_pos hc]
  | succ d ih =>
    intro k i hd hi hne hk
    obtain ⟨k, rfl⟩ : ∃ m, k = m + 1 := ⟨k - 1, by omega⟩
    rw [impl_glyph.l0, if_pos (by omega), if_pos (by omega), if_pos (by omega), if_neg (hne i (by omega)), wrap_succ i (by omega)]
    exact ih k (i + 1) (by omega) (by omega) hne (by omega)
theorem walk_miss (l : List S39) (c : Int) (hM : l.length ≤ 9223372036854775807) (hne : ∀ j : Nat, j < l.length → (rd_T39 l (j : Int)).f0 ≠ c) : ∀ d k i : Nat, l.length - i = d → i ≤ l.length → d < k →
    impl_glyph.l0 k c l (l.length : Int) i = some (0, 0, 0, 0, false) := by
  intro d
  induction d with
  | zero =>
    intro k i hd hi hk
    obtain ⟨k, rfl⟩ : ∃ m, k = m + 1 := ⟨k - 1, by omega⟩
    rw [impl_glyph.l0, if_neg (by omega)]
  | succ d ih =>
    intro k i hd hi hk
    obtain ⟨k, rfl⟩ : ∃ m, k = m + 1 := ⟨k - 1, by omega⟩
    rw [impl_glyph.l0, if_pos (by omega), if_pos (by omega), if_pos (by omega), if_neg (hne i (by omega)), wrap_succ i (by omega)]
    exact ih k (i + 1) (by omega) (by omega) (by omega)
theorem of_both (a0 : ByteArray) (l1 : List S39) (l2 : List S64) (a3 a4 a5 a6 a7 a8 a9 c : Int) (h1 : l1.length ≤ 1048576) (h2 : l2.length ≤ 1048576) (hw : wfP l2 = true) : ∃ r, spec_GlyphOf.f 1048580 a0 l1 l2 a3 a4 a5 a6 a7 a8 a9 c = some r ∧ impl_GlyphOf.f 1048580 a0 l1 l2 a3 a4 a5 a6 a7 a8 a9 c = some r := by
  have hS : spec_FontOk.f 1048580 a0 l1 l2 a3 a4 a5 a6 a7 a8 a9 = some (fontB a0 l1 l2 a3 a4 a5 a6 a7 a8 a9) := by
    unfold spec_FontOk.f
    rw [if_pos (by omega)]
  have hI : impl_FontOk.f 1048580 a0 l1 l2 a3 a4 a5 a6 a7 a8 a9 = some (fontB a0 l1 l2 a3 a4 a5 a6 a7 a8 a9) := by
    unfold impl_FontOk.f
    rw [if_pos hw]
    exact hS
  unfold spec_GlyphOf.f impl_GlyphOf.f
  rw [hS, hI, Option.bind_some, Option.bind_some]
  cases hb : fontB a0 l1 l2 a3 a4 a5 a6 a7 a8 a9 with
  | false => exact ⟨_, rfl, rfl⟩
  | true =>
    rw [if_pos rfl, if_pos rfl]
    have hA : allB l1.length (gB l1) = true := by
      unfold fontB at hb
      simp only [Bool.and_eq_true] at hb
      exact hb.1.2
    obtain ⟨r, hr, hiff⟩ := glyph_has a0 l1 l2 a3 a4 a5 a6 a7 a8 a9 c (by omega) hA
    have hr2 : spec_l6Glyph.f 1048580 a0 l1 l2 a3 a4 a5 a6 a7 a8 a9 c = some r := at_rounds (g := fun k => spec_l6Glyph.f k a0 l1 l2 a3 a4 a5 a6 a7 a8 a9 c) (fun k => spec_l6Glyph.mono _ _ _ _ _ _ _ _ _ _ _ k) (by omega : l1.length + 1 ≤ 1048580) hr
    rw [hr2, Option.bind_some]
    rcases glyph_some a0 l1 l2 a3 a4 a5 a6 a7 a8 a9 c _ _ _ _ hr with hneg | ⟨g0, g1, g2⟩
    · have hno := hiff.1 hneg
      have hm := walk_miss l1 c (by omega) (fun j hj he => by have := (hasB_iff l1 c).2 ⟨j, hj, he⟩; rw [hno] at this; cases this) l1.length 1048580 0 (by omega) (by omega) (by omega)
      refine ⟨(0, 0, 0, 0, false), by rw [if_pos hneg], ?_⟩
      unfold impl_glyph.f
      rw [show ((0 : Nat) : Int) = 0 from rfl] at hm
      rw [hm, Option.bind_some]
    · have hn : r.toNat < l1.length := by omega
      have e : ((r.toNat : Nat) : Int) = r := by omega
      have hh := walk_hit l1 c r.toNat (by omega) hn (by rw [e]; exact g2) r.toNat 1048580 0 (by omega) (by omega) (fun j hj he => by have := g_lt l1 (by omega) hA j r.toNat hj hn; rw [e, g2, he] at this; omega) (by omega)
      rw [show ((0 : Nat) : Int) = 0 from rfl, e] at hh
      refine ⟨((rd_T39 l1 r).f0, (rd_T39 l1 r).f1, (rd_T39 l1 r).f2, (rd_T39 l1 r).f3, true), by rw [if_neg (by omega), if_pos g0, if_pos g1], ?_⟩
      unfold impl_glyph.f
      rw [hh, Option.bind_some]
theorem eqGlyph_self (a b c d : Int) : laws_eqGlyph.f a b c d a b c d = some true := by
  unfold laws_eqGlyph.f
  simp

theorem FnExactGlyphOf : laws_FnExactGlyphOf.Pure := by
  intro s l p b3 b4 b5 b6 b7 b8 b9 c hs hl hwl hp hwp _ _ _ _ _ _ _ _
  obtain ⟨r, hr, hc⟩ := szFont_f s l p b3 b4 b5 b6 b7 b8 b9 hs hl hp
  refine ⟨1048580, ?_⟩
  unfold laws_FnExactGlyphOf.f
  rw [hr, Option.bind_some]
  rcases hc with hc | ⟨hc, h1, h2⟩
  · rw [if_pos hc]
  · rw [if_neg (by omega), toFont_f s l p b3 b4 b5 b6 b7 b8 b9 h1 h2 1048580 (by omega) (by omega), Option.bind_some]
    obtain ⟨q, hS, hI⟩ := of_both s (l.map cvGlyph) (p.map cvPair) b3 b4 b5 b6 b7 b8 b9 c (by rw [List.length_map]; exact h1) (by rw [List.length_map]; exact h2) (wfP_map p hwp)
    simp only []
    rw [hS, Option.bind_some, Option.bind_some, hI, Option.bind_some, eqGlyph_self, Option.bind_some, if_pos rfl]
    rw [show (q.2.2.2.2 != q.2.2.2.2) = false by simp]
    rw [laws_FnExactGlyphOf.j0, if_neg (by decide), toFont_f s l p b3 b4 b5 b6 b7 b8 b9 h1 h2 1048579 (by omega) (by omega), Option.bind_some]
    simp only []
    rw [eqFont_f s (l.map cvGlyph) (p.map cvPair) b3 b4 b5 b6 b7 b8 b9 (by rw [List.length_map]; omega) (by rw [List.length_map]; omega) 1048579 (by rw [List.length_map]; omega) (by rw [List.length_map]; omega), Option.bind_some, if_pos rfl]

end Go.Proofs.Ytngmkpediibhjaa.Pure
