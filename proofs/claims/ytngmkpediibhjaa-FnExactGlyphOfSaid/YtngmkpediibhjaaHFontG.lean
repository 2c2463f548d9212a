/- What FontOk answers, in plain words, and what both walks share. No condition. -/
import Derived.Test.YtngmkpediibhjaaPFnExactGlyphOfx4
import Derived.Test.YtngmkpediibhjaaBoxG
import Derived.Test.YtngmkpediibhjaaHQG
import Derived.Maps.Own
import Derived.Maps.Views
namespace Go.Proofs.Ytngmkpediibhjaa.PFnExactGlyphOf
open Go.Proofs.Ytngmkpediibhjaa.Quiet Go.RowKit Go.Proofs.YtngmkpediibhjaaW.PrintWords Go.Proofs.YtngmkpediibhjaaW.PrintLast Go.Proofs.YtngmkpediibhjaaW.PrintMore
open Go.WideElems (Fit)
attribute [local go_sem] max2_int min2_int max_two min_two max_three min_three max_four min_four   -- for this text's walks alone
set_option linter.unusedVariables false
set_option linter.unusedSimpArgs false
/-! ### the plain answer -/
def szB (x : Int) : Bool := decide (0 ≤ x) && decide (x ≤ 6553600)
theorem sz_s (x : Int) : spec_l6Size.f x = some (szB x) := by
  unfold spec_l6Size.f szB
  split <;> rename_i h
  · simp [h]
  · simp [h]
theorem sz_i (x : Int) : impl_FontOk_1.f x = some (szB x) := sz_s x
def fitsB (a : Int) : Bool := decide (-1073741823 ≤ a ∧ a ≤ 1073741823)
def ordB (a : Int) : Bool := decide (0 ≤ a ∧ a ≤ 3)
def glueB (a b c d e : Int) : Bool := fitsB a && fitsB b && fitsB d && ordB c && ordB e
theorem fits_s (a : Int) : spec_l1Fits.f a = some (fitsB a) := by
  unfold spec_l1Fits.f fitsB
  split <;> simp <;> omega
theorem ord_s (a : Int) : spec_l1Order.f a = some (ordB a) := by
  unfold spec_l1Order.f ordB
  split <;> simp <;> omega
theorem fits_i (a : Int) : impl_fits.f a = some (fitsB a) := fits_s a
theorem ord_i (a : Int) : impl_GlueOk_1.f a = some (ordB a) := ord_s a
theorem glue_s (a b c d e : Int) : spec_GlueOk.f a b c d e = some (glueB a b c d e) := by
  simp only [spec_GlueOk.f, fits_s, ord_s, Option.bind_some, glueB]
  cases fitsB a <;> cases fitsB b <;> cases fitsB d <;> cases ordB c <;> cases ordB e <;> simp
theorem glue_i (a b c d e : Int) : impl_GlueOk.f a b c d e = some (glueB a b c d e) := by
  simp only [impl_GlueOk.f, fits_i, ord_i, Option.bind_some, glueB]
  cases fitsB a <;> cases fitsB b <;> cases fitsB d <;> cases ordB c <;> cases ordB e <;> simp
def hdB (a0 : ByteArray) (n : Nat) (a3 a4 a5 a6 a7 a8 a9 : Int) : Bool := decide (a0.size ≤ 40) && decide (n ≤ 2000) && glueB a3 a4 a5 a6 a7 && decide (0 ≤ a3) && decide (a5 = 0) && decide (a7 = 0) && szB a8 && szB a9
def gB (l : List S39) (x : Int) : Bool := decide (0 ≤ (rd_T39 l x).f0) && decide ((rd_T39 l x).f0 ≤ 255) && (decide (¬ 0 < x) || decide ((rd_T39 l (wrap64 (x - 1))).f0 < (rd_T39 l x).f0)) && szB (rd_T39 l x).f1 && szB (rd_T39 l x).f2 && szB (rd_T39 l x).f3
def hasB (l : List S39) (c : Int) : Bool := l.any fun g => decide (g.f0 = c)
def lessB (p q : S64) : Bool := decide (p.f0 < q.f0) || decide (p.f0 = q.f0) && decide (p.f1 < q.f1)
def pB (l : List S39) (ps : List S64) (j : Int) : Bool := (decide (¬ 0 < j) || lessB (rd_T64 ps (wrap64 (j - 1))) (rd_T64 ps j)) && hasB l (rd_T64 ps j).f0 && hasB l (rd_T64 ps j).f1 &&
  (if (rd_T64 ps j).f2 = -1 then decide (-6553600 ≤ (rd_T64 ps j).f3) && decide ((rd_T64 ps j).f3 ≤ 6553600) else decide ((rd_T64 ps j).f3 = 0) && hasB l (rd_T64 ps j).f2)
def allB (n : Nat) (f : Int → Bool) : Bool := (List.range n).all fun i => f (i : Int)
theorem allB_true {n : Nat} {f : Int → Bool} (h : ∀ i : Nat, i < n → f (i : Int) = true) : allB n f = true := by
  unfold allB
  rw [List.all_eq_true]
  intro i hi
  exact h i (List.mem_range.1 hi)
theorem allB_get {n : Nat} {f : Int → Bool} (h : allB n f = true) (i : Nat) (hi : i < n) : f (i : Int) = true := by
  unfold allB at h
  rw [List.all_eq_true] at h
  exact h i (List.mem_range.2 hi)
theorem allB_false {n : Nat} {f : Int → Bool} {x : Int} (h0 : 0 ≤ x) (hx : x < (n : Int)) (h : f x = false) : allB n f = false := by
  cases hb : allB n f with
  | false => rfl
  | true =>
    have := allB_get hb x.toNat (by omega)
    rw [show ((x.toNat : Nat) : Int) = x by omega, h] at this
    cases this
def fontB (a0 : ByteArray) (l1 : List S39) (l2 : List S64) (a3 a4 a5 a6 a7 a8 a9 : Int) : Bool := hdB a0 l2.length a3 a4 a5 a6 a7 a8 a9 && allB l1.length (gB l1) && allB l2.length (pB l1 l2)
def spec_FontOk.f (k : Nat) (a0 : ByteArray) (l1 : List S39) (l2 : List S64) (a3 a4 a5 a6 a7 a8 a9 : Int) : Option Bool := if l1.length ≤ 9223372036854775807 ∧ l2.length ≤ 9223372036854775807 then some (fontB a0 l1 l2 a3 a4 a5 a6 a7 a8 a9) else none
theorem spec_FontOk.mono : ∀ a0 a1 a2 a3 a4 a5 a6 a7 a8 a9 k, LeO (spec_FontOk.f k a0 a1 a2 a3 a4 a5 a6 a7 a8 a9) (spec_FontOk.f (k + 1) a0 a1 a2 a3 a4 a5 a6 a7 a8 a9) := fun _ _ _ _ _ _ _ _ _ _ _ => LeO.refl _
theorem g_step (l : List S39) (x : Int) (h : gB l x = true) : 0 ≤ (rd_T39 l x).f0 ∧ (rd_T39 l x).f0 ≤ 255 ∧ (0 < x → (rd_T39 l (wrap64 (x - 1))).f0 < (rd_T39 l x).f0) := by
  unfold gB at h
  simp only [Bool.and_eq_true, Bool.or_eq_true, decide_eq_true_eq] at h
  obtain ⟨⟨⟨⟨⟨h1, h2⟩, h3⟩, _⟩, _⟩, _⟩ := h
  exact ⟨h1, h2, fun hx => h3.resolve_left (fun hn => hn hx)⟩
theorem wrap_pred (i : Nat) (h : i < 9223372036854775807) : wrap64 (((i + 1 : Nat) : Int) - 1) = (i : Int) := by
  unfold wrap64
  omega
theorem g_ge (l : List S39) (hM : l.length ≤ 9223372036854775807) (h : allB l.length (gB l) = true) : ∀ i : Nat, i < l.length → (i : Int) ≤ (rd_T39 l (i : Int)).f0 := by
  intro i
  induction i with
  | zero => intro hi; exact (g_step l _ (allB_get h 0 hi)).1
  | succ i ih =>
    intro hi
    have h1 := ih (by omega)
    have h2 := (g_step l _ (allB_get h (i + 1) hi)).2.2 (by omega)
    rw [wrap_pred i (by omega)] at h2
    omega
theorem g_len (l : List S39) (hM : l.length ≤ 9223372036854775807) (h : allB l.length (gB l) = true) : l.length ≤ 256 := by
  rcases Nat.eq_zero_or_pos l.length with h0 | h0
  · omega
  · have h1 := g_ge l hM h (l.length - 1) (by omega)
    have h2 := (g_step l _ (allB_get h (l.length - 1) (by omega))).2.1
    omega
theorem bad_hd (a0 : ByteArray) (l1 : List S39) (l2 : List S64) (a3 a4 a5 a6 a7 a8 a9 : Int) (h : hdB a0 l2.length a3 a4 a5 a6 a7 a8 a9 = false) : fontB a0 l1 l2 a3 a4 a5 a6 a7 a8 a9 = false := by unfold fontB; rw [h]; rfl
theorem bad_g (a0 : ByteArray) (l1 : List S39) (l2 : List S64) (a3 a4 a5 a6 a7 a8 a9 : Int) (h : allB l1.length (gB l1) = false) : fontB a0 l1 l2 a3 a4 a5 a6 a7 a8 a9 = false := by unfold fontB; rw [h]; simp
theorem bad_p (a0 : ByteArray) (l1 : List S39) (l2 : List S64) (a3 a4 a5 a6 a7 a8 a9 : Int) (h : allB l2.length (pB l1 l2) = false) : fontB a0 l1 l2 a3 a4 a5 a6 a7 a8 a9 = false := by unfold fontB; rw [h]; simp
theorem ld_2 {w : World} {ad : Addr} {v : Value} (h : w.cell? ad = some v) : (Instr.loadAt 2 (.pointer (some ad))).run Try.prog w = .ok v w := by
  go_simp
theorem ld_30 {w : World} {ad : Addr} {v : Value} (h : w.cell? ad = some v) : (Instr.loadAt 30 (.pointer (some ad))).run Try.prog w = .ok v w := by
  go_simp
theorem ld_31 {w : World} {ad : Addr} {v : Value} (h : w.cell? ad = some v) : (Instr.loadAt 31 (.pointer (some ad))).run Try.prog w = .ok v w := by
  go_simp
theorem ix_30 {w : World} {ad : Addr} {n c : Nat} {x : Int} (h0 : 0 ≤ x) (h1 : x < (n : Int)) : (Instr.indexAt 30 (.slice (some ad) n c) (.int .i64 x)).run Try.prog w = .ok (.pointer (some (ad.add (x.toNat * 4)))) w := by
  go_simp
theorem ix_31 {w : World} {ad : Addr} {n c : Nat} {x : Int} (h0 : 0 ≤ x) (h1 : x < (n : Int)) : (Instr.indexAt 31 (.slice (some ad) n c) (.int .i64 x)).run Try.prog w = .ok (.pointer (some (ad.add (x.toNat * 4)))) w := by
  go_simp
theorem ld_34 {W : World} {g : Nat} {cur : Array Value} (hb : W.heap[g]? = some (.cells cur 34 (0, 0))) (hs : cur.size = 10) : (Instr.loadAt 34 (.pointer (some ⟨g, 0, none⟩))).run Try.prog W = .ok (.agg cur) W := by
  have hi : (Try.prog.info? 34).map (·.size) = some cur.size := by rw [hs]; kernel_rfl
  simp [Instr.loadAt, Instr.sureAddr, run_loadVar_row W g 34 34 cur (0, 0) _ hb Try.underlying34 rfl hi]
theorem ld_64n {W : World} {g : Nat} {cur : Array Value} (hb : W.heap[g]? = some (.cells cur 64 (0, 0))) (hs : cur.size = 4) : (Instr.loadAt 64 (.pointer (some ⟨g, 0, none⟩))).run Try.prog W = .ok (.agg cur) W := by
  have hi : (Try.prog.info? 64).map (·.size) = some cur.size := by rw [hs]; kernel_rfl
  simp [Instr.loadAt, Instr.sureAddr, run_loadVar_row W g 64 64 cur (0, 0) _ hb Try.underlying64 rfl hi]
theorem ld_64 {w : World} {ad : Addr} {v0 v1 v2 v3 : Value} (h0 : w.cell? ad = some v0) (h1 : w.cell? ⟨ad.block, ad.off + 1, none⟩ = some v1) (h2 : w.cell? ⟨ad.block, ad.off + 2, none⟩ = some v2) (h3 : w.cell? ⟨ad.block, ad.off + 3, none⟩ = some v3) : (Instr.loadAt 64 (.pointer (some ad))).run Try.prog w = .ok (.agg #[v0, v1, v2, v3]) w := by
  have hu := Try.underlying64
  go_simp
/-! ### the search for a glyph -/
theorem win (x : Int) (h0 : -9223372036854775808 ≤ x) (h1 : x ≤ 9223372036854775807) : wrap64 x = x := by
  unfold wrap64
  omega
theorem g_mono (l : List S39) (hM : l.length ≤ 9223372036854775807) (h : allB l.length (gB l) = true) : ∀ d i : Nat, i + d + 1 < l.length → (rd_T39 l (i : Int)).f0 < (rd_T39 l ((i + d + 1 : Nat) : Int)).f0 := by
  intro d
  induction d with
  | zero =>
    intro i hi
    have h2 := (g_step l _ (allB_get h (i + 1) hi)).2.2 (by omega)
    rw [wrap_pred i (by omega)] at h2
    exact h2
  | succ d ih =>
    intro i hi
    have h1 := ih i (by omega)
    have h2 := (g_step l _ (allB_get h (i + d + 1 + 1) hi)).2.2 (by omega)
    rw [wrap_pred (i + d + 1) (by omega)] at h2
    exact Int.lt_trans h1 h2
theorem g_lt (l : List S39) (hM : l.length ≤ 9223372036854775807) (h : allB l.length (gB l) = true) (i j : Nat) (hij : i < j) (hj : j < l.length) : (rd_T39 l (i : Int)).f0 < (rd_T39 l (j : Int)).f0 := by
  have := g_mono l hM h (j - i - 1) i (by omega)
  rwa [show i + (j - i - 1) + 1 = j by omega] at this
theorem rd39 (l : List S39) (i : Nat) (h : i < l.length) : rd_T39 l (i : Int) = l[i] := by simp [rd_T39, h]
theorem hasB_iff (l : List S39) (c : Int) : hasB l c = true ↔ ∃ i : Nat, i < l.length ∧ (rd_T39 l (i : Int)).f0 = c := by
  unfold hasB
  rw [List.any_eq_true]
  constructor
  · rintro ⟨x, hx, hc⟩
    obtain ⟨i, hi, rfl⟩ := List.mem_iff_getElem.1 hx
    exact ⟨i, hi, by rw [rd39 l i hi]; simpa using hc⟩
  · rintro ⟨i, hi, hc⟩
    exact ⟨l[i], List.getElem_mem hi, by rw [rd39 l i hi] at hc; simpa using hc⟩
theorem glyph_l0 (a0 : ByteArray) (l1 : List S39) (l2 : List S64) (a3 a4 a5 a6 a7 a8 a9 c : Int) (hM : l1.length ≤ 256) (h : allB l1.length (gB l1) = true) : ∀ d k lo hi : Nat, hi - lo ≤ d → d < k → lo ≤ hi → hi ≤ l1.length → (∀ j, j < lo → (rd_T39 l1 (j : Int)).f0 < c) → (∀ j, hi ≤ j → j < l1.length → c ≤ (rd_T39 l1 (j : Int)).f0) →
    ∃ r, spec_l6Glyph.l0 k c lo hi a0 l1 l2 a3 a4 a5 a6 a7 a8 a9 = some r ∧ (r < 0 ↔ hasB l1 c = false) := by
  have fin : ∀ k lo : Nat, lo ≤ l1.length → (∀ j, j < lo → (rd_T39 l1 (j : Int)).f0 < c) → (∀ j, lo ≤ j → j < l1.length → c ≤ (rd_T39 l1 (j : Int)).f0) → ∃ r, spec_l6Glyph.l0 (k + 1) c lo lo a0 l1 l2 a3 a4 a5 a6 a7 a8 a9 = some r ∧ (r < 0 ↔ hasB l1 c = false) := by
    intro k lo hl h1 h2
    rw [spec_l6Glyph.l0, if_neg (by omega)]
    by_cases e1 : lo < l1.length
    · rw [if_pos (by omega), if_pos (by omega)]
      by_cases e2 : (rd_T39 l1 (lo : Int)).f0 = c
      · rw [if_pos e2]
        refine ⟨_, rfl, ?_⟩
        have : hasB l1 c = true := (hasB_iff l1 c).2 ⟨lo, e1, e2⟩
        rw [this]
        constructor
        · intro h_; omega
        · intro h_; cases h_
      · rw [if_neg e2]
        refine ⟨_, rfl, ?_⟩
        have : hasB l1 c = false := by
          cases hb : hasB l1 c with
          | false => rfl
          | true =>
            obtain ⟨i, hi, hc⟩ := (hasB_iff l1 c).1 hb
            rcases Nat.lt_trichotomy i lo with q | q | q
            · have := h1 i q; omega
            · subst q; exact absurd hc e2
            · have := h2 lo (Nat.le_refl _) e1; have := g_lt l1 (by omega) h lo i q hi; omega
        rw [this]
        simp
    · rw [if_neg (by omega)]
      refine ⟨_, rfl, ?_⟩
      have : hasB l1 c = false := by
        cases hb : hasB l1 c with
        | false => rfl
        | true =>
          obtain ⟨i, hi, hc⟩ := (hasB_iff l1 c).1 hb
          have := h1 i (by omega)
          omega
      rw [this]
      simp
  intro d
  induction d with
  | zero =>
    intro k lo hi hd hk hlh hn h1 h2
    obtain ⟨k, rfl⟩ : ∃ m, k = m + 1 := ⟨k - 1, by omega⟩
    obtain rfl : lo = hi := by omega
    exact fin k lo hn h1 h2
  | succ d ih =>
    intro k lo hi hd hk hlh hn h1 h2
    obtain ⟨k, rfl⟩ : ∃ m, k = m + 1 := ⟨k - 1, by omega⟩
    by_cases e : lo < hi
    · have hm : wrap64 (Int.tdiv (wrap64 ((lo : Int) + (hi : Int))) 2) = (((lo + hi) / 2 : Nat) : Int) := by
        rw [win ((lo : Int) + (hi : Int)) (by omega) (by omega), Int.tdiv_eq_ediv_of_nonneg (by omega), win _ (by omega) (by omega)]
        omega
      rw [spec_l6Glyph.l0, if_pos (by omega)]
      simp only [hm]
      clear hm
      rw [if_pos (by omega), if_pos (by omega)]
      have hm1 : lo ≤ (lo + hi) / 2 := by omega
      have hm2 : (lo + hi) / 2 < hi := by omega
      generalize (lo + hi) / 2 = m at hm1 hm2
      by_cases e2 : (rd_T39 l1 (m : Int)).f0 < c
      · rw [if_pos e2]
        rw [show wrap64 ((m : Int) + 1) = ((m + 1 : Nat) : Int) by rw [win _ (by omega) (by omega)]; omega]
        refine ih k (m + 1) hi (by omega) (by omega) (by omega) hn (fun j hj => ?_) h2
        rcases Nat.lt_or_ge j m with q | q
        · exact Int.lt_trans (g_lt l1 (by omega) h j m q (by omega)) e2
        · obtain rfl : j = m := by omega
          exact e2
      · rw [if_neg e2]
        refine ih k lo m (by omega) (by omega) hm1 (by omega) h1 (fun j hj hjl => ?_)
        rcases Nat.lt_or_ge m j with q | q
        · have := g_lt l1 (by omega) h m j q hjl; omega
        · obtain rfl : j = m := by omega
          omega
    · obtain rfl : lo = hi := by omega
      exact fin k lo hn h1 h2
theorem glyph_has (a0 : ByteArray) (l1 : List S39) (l2 : List S64) (a3 a4 a5 a6 a7 a8 a9 c : Int) (hM : l1.length ≤ 9223372036854775807) (h : allB l1.length (gB l1) = true) : ∃ r, spec_l6Glyph.f (l1.length + 1) a0 l1 l2 a3 a4 a5 a6 a7 a8 a9 c = some r ∧ (r < 0 ↔ hasB l1 c = false) := by
  obtain ⟨r, h1, h2⟩ := glyph_l0 a0 l1 l2 a3 a4 a5 a6 a7 a8 a9 c (g_len l1 hM h) h l1.length (l1.length + 1) 0 l1.length (by omega) (by omega) (by omega) (by omega) (fun j hj => by omega) (fun j hj hjl => by omega)
  exact ⟨r, h1, h2⟩
theorem less_s (p q : S64) : spec_l6PairLess.f p.f0 p.f1 p.f2 p.f3 q.f0 q.f1 q.f2 q.f3 = some (lessB p q) := by
  unfold spec_l6PairLess.f lessB
  by_cases h1 : p.f0 < q.f0
  · simp [h1]
  · by_cases h2 : p.f0 = q.f0
    · simp [h2]
    · simp [h1, h2]
theorem lt0_t {r : Int} {b : Bool} (h : r < 0 ↔ b = false) (hb : b = false) : decide (r < 0) = true := decide_eq_true (h.2 hb)
theorem lt0_f {r : Int} {b : Bool} (h : r < 0 ↔ b = false) (hb : b = true) : decide (r < 0) = false := decide_eq_false (fun q => by rw [h.1 q] at hb; cases hb)
def wfP (l : List S64) : Bool := l.all fun p => (Lit.int .i64 p.f0).wf && (Lit.int .i64 p.f1).wf && (Lit.int .i64 p.f2).wf
def impl_FontOk.f (k : Nat) (a0 : ByteArray) (l1 : List S39) (l2 : List S64) (a3 a4 a5 a6 a7 a8 a9 : Int) : Option Bool := if wfP l2 = true then spec_FontOk.f k a0 l1 l2 a3 a4 a5 a6 a7 a8 a9 else none
theorem impl_FontOk.mono : ∀ a0 a1 a2 a3 a4 a5 a6 a7 a8 a9 k, LeO (impl_FontOk.f k a0 a1 a2 a3 a4 a5 a6 a7 a8 a9) (impl_FontOk.f (k + 1) a0 a1 a2 a3 a4 a5 a6 a7 a8 a9) := fun _ _ _ _ _ _ _ _ _ _ _ => LeO.refl _
theorem rd64 (l : List S64) (i : Nat) (h : i < l.length) : rd_T64 l (i : Int) = l[i] := by simp [rd_T64, h]
theorem wfP_at {l : List S64} (h : wfP l = true) {y : Int} (h0 : 0 ≤ y) (h1 : y < (l.length : Int)) : (Lit.int .i64 (rd_T64 l y).f0).wf = true ∧ (Lit.int .i64 (rd_T64 l y).f1).wf = true ∧ (Lit.int .i64 (rd_T64 l y).f2).wf = true := by
  have e : y = ((y.toNat : Nat) : Int) := by omega
  rw [e, rd64 l y.toNat (by omega)]
  unfold wfP at h
  rw [List.all_eq_true] at h
  have := h _ (List.getElem_mem (h := (by omega : y.toNat < l.length)))
  simp only [Bool.and_eq_true] at this
  exact ⟨this.1.1, this.1.2, this.2⟩
theorem has_take (l : List S39) (x : Int) (h0 : 0 ≤ x) (h1 : x < (l.length : Int)) : (fun c => decide (c = (rd_T39 l x).f0) || hasB (l.take x.toNat) c) = hasB (l.take (x + 1).toNat) := by
  funext c
  have e : (x + 1).toNat = x.toNat + 1 := by omega
  have hx : x.toNat < l.length := by omega
  have er : rd_T39 l x = l[x.toNat] := by
    have := rd39 l x.toNat hx
    rwa [show ((x.toNat : Nat) : Int) = x by omega] at this
  rw [e, er]
  unfold hasB
  rw [List.take_add_one, List.any_append, Bool.or_comm, List.getElem?_eq_getElem hx]
  simp [eq_comm]
/-- A map to bools, as an object: what it answers at each whole number. -/
def SetObj (om : Obj) (n : Nat) (S : Int → Bool) : Prop := ∀ (w : World) (g : Nat), w.heap[g]? = some om → ∃ D : DataW Unit, w.ownsMap Try.prog 2 (plainElem Try.prog 4) g n D ∧ ∃ es, D = .map es ∧ ∀ c : Int, D.atKey (.int .i64 c) (.lit (.bool false)) = .lit (.bool (S c))
theorem fo_law : Go.Maps.Keyed Try.prog 2 := Go.Maps.int_keyed (q := .i64) Try.underlying2
theorem SetObj.new (w : World) : SetObj (.map #[] 0) 0 (fun _ => false) := by
  intro w g hg
  refine ⟨.map [], ?_, [], rfl, fun c => rfl⟩
  obtain ⟨es, clock, hb, F, hs, hD⟩ := World.ownsMap_made w Try.prog 2 (plainElem (H := Unit) Try.prog 4)
  have e : some (Obj.map #[] 0) = some (Obj.map es clock) := by rw [← hb]; exact (heap_alloc_new w _).symm
  injection e with e
  injection e with e1 e2
  subst e1
  subst e2
  exact ⟨_, _, hg, F, hs, hD⟩
theorem plainElem_bool_inv {H : Type} {P : Program} {e : TypeId} (he : P.underlying e = some .bool) {v : Value} {z : DataW H × List MemPlace} (h : plainElem P e v = some z) : ∃ x, v = .bool x ∧ z = (.lit (.bool x), []) := by
  unfold plainElem at h
  rw [he] at h
  cases v <;> simp at h
  exact ⟨_, rfl, h.symm⟩
set_option maxRecDepth 100000 in
theorem SetObj.look {om : Obj} {n : Nat} {S : Int → Bool} (h : SetObj om n S) {w : World} {g : Nat} (hg : w.heap[g]? = some om) (c : Int) (hc : (Lit.int .i64 c).wf = true) : (Instr.lookup 70 (.map (some g)) (.int .i64 c) false).run Try.prog w = .ok (.bool (S c)) w := by
  obtain ⟨D, hown, es, hD, hat⟩ := h w g hg
  have hz : (zeroValue 4).run Try.prog w = .ok (.bool false) w := by kernel_rfl
  obtain ⟨v, ps, hrun, hv⟩ := hown.lookup fo_law Try.underlying70 hz (plainElem_bool Try.underlying4 false) (Go.Maps.keyOf_int_mk Try.underlying2 hc)
  rw [hat c] at hv
  obtain ⟨x, rfl, hx⟩ := plainElem_bool_inv Try.underlying4 hv
  have e : S c = x := by
    have h1 := congrArg Prod.fst hx
    simp only at h1
    injection h1 with h1
    injection h1 with h1
  rw [e]
  exact hrun
theorem SetObj.put {w' : World} {g n : Nat} {D : DataW Unit} {es : List (Lit × DataW Unit)} {S : Int → Bool} {x : Int} (hown : w'.ownsMap Try.prog 2 (plainElem Try.prog 4) g (n + 1) (D.put (.int .i64 x) (.lit (.bool true)))) (hD : D = .map es)
    (hat : ∀ c : Int, D.atKey (.int .i64 c) (.lit (.bool false)) = .lit (.bool (S c))) : ∃ om, w'.heap[g]? = some om ∧ SetObj om (n + 1) (fun c => decide (c = x) || S c) := by
  obtain ⟨es', clock, hb, F, hs, hD'⟩ := hown
  refine ⟨_, hb, fun w g hg => ⟨D.put (.int .i64 x) (.lit (.bool true)), ⟨es', clock, hg, F, hs, hD'⟩, _, hD', fun c => ?_⟩⟩
  by_cases e : c = x
  · subst e
    rw [Go.Maps.atKey_put_same (by rw [hD]; exact ⟨_, rfl⟩) (by trivial)]
    simp
  · rw [Go.Maps.atKey_put_other (by intro h_; injection h_ with _ h_; exact e h_), hat]
    simp [e]
theorem ten_ {w : World} {g : Nat} {v0 v1 v2 v3 v4 v5 v6 v7 v8 v9 : Value} (h : w.heap[g]? = some (.cells #[v0, v1, v2, v3, v4, v5, v6, v7, v8, v9] 34 (0, 0))) : w.cell? ⟨g, 0, none⟩ = some v0 ∧ w.cell? ⟨g, 1, none⟩ = some v1 ∧ w.cell? ⟨g, 2, none⟩ = some v2 ∧ w.cell? ⟨g, 3, none⟩ = some v3 ∧ w.cell? ⟨g, 4, none⟩ = some v4 ∧ w.cell? ⟨g, 5, none⟩ = some v5 ∧ w.cell? ⟨g, 6, none⟩ = some v6 ∧ w.cell? ⟨g, 7, none⟩ = some v7 ∧ w.cell? ⟨g, 8, none⟩ = some v8 ∧ w.cell? ⟨g, 9, none⟩ = some v9 :=
  ⟨(blk_cell h 0).trans rfl, (blk_cell h 1).trans rfl, (blk_cell h 2).trans rfl, (blk_cell h 3).trans rfl, (blk_cell h 4).trans rfl, (blk_cell h 5).trans rfl, (blk_cell h 6).trans rfl, (blk_cell h 7).trans rfl, (blk_cell h 8).trans rfl, (blk_cell h 9).trans rfl⟩
theorem four_ {w : World} {g t : Nat} {v0 v1 v2 v3 : Value} (h : w.heap[g]? = some (.cells #[v0, v1, v2, v3] t (0, 0))) : w.cell? ⟨g, 0, none⟩ = some v0 ∧ w.cell? ⟨g, 1, none⟩ = some v1 ∧ w.cell? ⟨g, 2, none⟩ = some v2 ∧ w.cell? ⟨g, 3, none⟩ = some v3 :=
  ⟨(blk_cell h 0).trans rfl, (blk_cell h 1).trans rfl, (blk_cell h 2).trans rfl, (blk_cell h 3).trans rfl⟩
theorem all_step {P : Int → Bool} {x : Int} (h : ∀ m : Nat, (m : Int) < x → P (m : Int) = true) (hx : P x = true) : ∀ m : Nat, (m : Int) < x + 1 → P (m : Int) = true := by
  intro m hm
  rcases Int.lt_or_le (m : Int) x with h_ | h_
  · exact h m h_
  · obtain h_ : (m : Int) = x := by omega
    rw [h_]; exact hx
theorem wf_small {c : Int} (h0 : 0 ≤ c) (h1 : c ≤ 255) : (Lit.int .i64 c).wf = true := by
  simp only [Lit.wf, IntKind.min, IntKind.max, IntKind.signed, IntKind.bits, Bool.and_eq_true, decide_eq_true_eq, if_true]
  omega
end Go.Proofs.Ytngmkpediibhjaa.PFnExactGlyphOf
