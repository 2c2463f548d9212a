/- The pure statement of FnExactMeanOk: both sides ask the same of a meaning. No condition. -/
import Derived.Test.YtgfifmbbjoocgaaPFnExactMeanOkx10
import Derived.Test.YtgfifmbbjoocgaaKit
namespace Go.Proofs.Ytgfifmbbjoocgaa.Pure
open Go.RowKit Go.Proofs.Ytgfifmbbjoocgaa.PFnExactMeanOk Go.Proofs.Ytgfifmbbjoocgaa.Kit Go.Proofs.YtgfifmbbjoocgaaW.PrintWords Go.Proofs.YtgfifmbbjoocgaaW.PrintLast Go.Proofs.YtgfifmbbjoocgaaW.PrintMore
set_option linter.unusedVariables false
set_option linter.unusedSimpArgs false

def cvToken (x : S34) : S42 := ⟨x.f0, x.f1, x.f2⟩
theorem rdToken_a (l : List S34) (i : Nat) (h : i < l.length) : rd_T34 l (i : Int) = l[i] := by simp [rd_T34, h]
theorem toTokenS_l0 (l : List S34) (hl : l.length ≤ 1048576) : ∀ d k i : Nat, l.length - i = d → i ≤ l.length → d < k →
    laws_toTokenS.l0 k l ((List.range i).map (fun j : Nat => cvToken (rd_T34 l (j : Int))) ++ List.replicate (l.length - i) z42) i = some (l.map cvToken) := by
  intro d
  induction d with
  | zero =>
    intro k i hd hi hk
    obtain ⟨k, rfl⟩ : ∃ m, k = m + 1 := ⟨k - 1, by omega⟩
    obtain rfl : i = l.length := by omega
    rw [laws_toTokenS.l0, if_neg (by omega), Nat.sub_self, map_get l cvToken (fun j : Nat => cvToken (rd_T34 l (j : Int))) (fun j hj => by rw [rdToken_a l j hj])]
    simp
  | succ d ih =>
    intro k i hd hi hk
    obtain ⟨k, rfl⟩ : ∃ m, k = m + 1 := ⟨k - 1, by omega⟩
    rw [laws_toTokenS.l0, if_pos (by omega), if_pos (by omega)]
    simp only [laws_toToken.f, Option.bind_some]
    rw [if_pos (by simp; omega), wrap_succ i (by omega), Int.toNat_natCast]
    have := set_step (fun j : Nat => cvToken (rd_T34 l (j : Int))) z42 l.length i (by omega)
    rw [show (⟨(rd_T34 l (i : Int)).f0, (rd_T34 l (i : Int)).f1, (rd_T34 l (i : Int)).f2⟩ : S42) = cvToken (rd_T34 l (i : Int)) from rfl, this]
    exact ih k (i + 1) (by omega) (by omega) (by omega)
theorem toTokenS_f (l : List S34) (hl : l.length ≤ 1048576) (k : Nat) (hk : l.length < k) : laws_toTokenS.f k l = some (l.map cvToken) := by
  unfold laws_toTokenS.f
  rw [if_pos (by omega), if_pos (by simp; omega), Int.toNat_natCast]
  exact toTokenS_l0 l hl l.length k 0 (by omega) (by omega) hk
theorem rdToken_b (l : List S42) (i : Nat) (h : i < l.length) : rd_T42 l (i : Int) = l[i] := by simp [rd_T42, h]
theorem szToken_f (c x : Int) (s : ByteArray) (left : Int) (h0 : 0 ≤ left) (h1 : left ≤ 1048576) (hs : s.size ≤ 9223372036854775807) : ∃ r, laws_szToken.f c x s left = some r ∧ (r < 0 ∨ (0 ≤ r ∧ r ≤ left ∧ (s.size : Int) ≤ left)) := by
  unfold laws_szToken.f
  rw [wrap_in (left - (s.size : Int)) (by omega) (by omega)]
  split
  · exact ⟨-1, rfl, .inl (by omega)⟩
  · exact ⟨_, rfl, .inr (by omega)⟩
theorem szTokenS_l0 (l : List S34) (hl : l.length ≤ 1048576) (hm : ∀ x ∈ l, x.f2.size ≤ 9223372036854775807) : ∀ d i : Nat, ∀ left : Int, l.length - i = d → i ≤ l.length → 0 ≤ left → left ≤ 1048576 →
    ∃ r, (∀ k, d < k → laws_szTokenS.l0 k l left i = some r) ∧ (r < 0 ∨ (0 ≤ r ∧ r ≤ left ∧ ∀ j (h : j < l.length), i ≤ j → l[j].f2.size ≤ 1048576)) := by
  intro d
  induction d with
  | zero =>
    intro i left hd hi h0 h1
    refine ⟨left, fun k hk => ?_, .inr ⟨h0, by omega, fun j h hij => by omega⟩⟩
    obtain ⟨k, rfl⟩ : ∃ m, k = m + 1 := ⟨k - 1, by omega⟩
    rw [laws_szTokenS.l0, if_neg (by omega)]
  | succ d ih =>
    intro i left hd hi h0 h1
    have hlt : i < l.length := by omega
    obtain ⟨r, hr, hc⟩ := szToken_f l[i].f0 l[i].f1 l[i].f2 left h0 h1 (hm _ (List.getElem_mem hlt))
    rcases hc with hc | ⟨c0, c1, c2⟩
    · refine ⟨-1, fun k hk => ?_, .inl (by omega)⟩
      obtain ⟨k, rfl⟩ : ∃ m, k = m + 1 := ⟨k - 1, by omega⟩
      rw [laws_szTokenS.l0, if_pos (by omega), if_pos (by omega), rdToken_a l i hlt, hr]
      simp only [Option.bind_some]
      rw [if_pos hc]
    · obtain ⟨r2, h2, h3⟩ := ih (i + 1) r (by omega) (by omega) c0 (by omega)
      refine ⟨r2, fun k hk => ?_, ?_⟩
      · obtain ⟨k, rfl⟩ : ∃ m, k = m + 1 := ⟨k - 1, by omega⟩
        rw [laws_szTokenS.l0, if_pos (by omega), if_pos (by omega), rdToken_a l i hlt, hr]
        simp only [Option.bind_some]
        rw [if_neg (by omega), wrap_succ i (by omega)]
        exact h2 k (by omega)
      · rcases h3 with h3 | ⟨h3, h5, h4⟩
        · exact .inl h3
        · refine .inr ⟨h3, by omega, fun j hj hij => ?_⟩
          rcases Nat.lt_or_ge i j with h | h
          · exact h4 j hj (by omega)
          · obtain rfl : i = j := by omega
            omega
theorem szTokenS_f (l : List S34) (left : Int) (h0 : 0 ≤ left) (h1 : left ≤ 1048576) (hl : l.length ≤ 9223372036854775807) (hm : ∀ x ∈ l, x.f2.size ≤ 9223372036854775807) :
    ∃ r, (∀ k, 1048577 < k → laws_szTokenS.f k l left = some r) ∧ (r < 0 ∨ (0 ≤ r ∧ r ≤ left ∧ l.length ≤ 1048576 ∧ ∀ x ∈ l, x.f2.size ≤ 1048576)) := by
  unfold laws_szTokenS.f
  rw [wrap_in (left - (l.length : Int)) (by omega) (by omega)]
  split
  · exact ⟨-1, fun _ _ => rfl, .inl (by omega)⟩
  · obtain ⟨r, hr, hc⟩ := szTokenS_l0 l (by omega) hm l.length 0 (left - (l.length : Int)) (by omega) (by omega) (by omega) (by omega)
    refine ⟨r, fun k hk => hr k (by omega), ?_⟩
    rcases hc with hc | ⟨hc, hd, hj⟩
    · exact .inl hc
    · refine .inr ⟨hc, by omega, by omega, fun x hx => ?_⟩
      obtain ⟨j, hjl, rfl⟩ := List.mem_iff_getElem.1 hx
      exact hj j hjl (by omega)
theorem eqTokenS_l0 (l : List S42) (hl : l.length ≤ 9223372036854775806) : ∀ d k i : Nat, l.length - i = d → i ≤ l.length → d < k → laws_eqTokenS.l0 k l l i = some true := by
  intro d
  induction d with
  | zero =>
    intro k i hd hi hk
    obtain ⟨k, rfl⟩ : ∃ m, k = m + 1 := ⟨k - 1, by omega⟩
    rw [laws_eqTokenS.l0, if_neg (by omega)]
  | succ d ih =>
    intro k i hd hi hk
    obtain ⟨k, rfl⟩ : ∃ m, k = m + 1 := ⟨k - 1, by omega⟩
    rw [laws_eqTokenS.l0, if_pos (by omega), if_pos (by omega), if_pos (by omega)]
    simp only [laws_eqToken.f, if_true, Option.bind_some]
    rw [wrap_succ i (by omega)]
    exact ih k (i + 1) (by omega) (by omega) (by omega)
theorem eqTokenS_f (l : List S42) (hl : l.length ≤ 9223372036854775806) (k : Nat) (hk : l.length < k) : laws_eqTokenS.f k l l = some true := by
  unfold laws_eqTokenS.f
  rw [if_pos rfl]
  exact eqTokenS_l0 l hl l.length k 0 (by omega) (by omega) hk
theorem token_same (c x : Int) (n : ByteArray) : ∃ b, spec_TokenOk.f c x n = some b ∧ impl_TokenOk.f c x n = some b := by
  unfold spec_TokenOk.f impl_TokenOk.f impl_isName.f impl_isChar.f impl_isSlot.f
  by_cases hc : c = 0
  · subst hc
    by_cases hx : x = 0
    · subst hx
      by_cases hn : (n.size : Int) ≤ 40
      · exact ⟨true, by simp [hn], by simp [hn]⟩
      · exact ⟨false, by simp [hn], by simp [hn]⟩
    · refine ⟨false, by simp [hx], ?_⟩
      by_cases hn : (n.size : Int) ≤ 40 <;> simp [hn, hx]
  · by_cases hl : n.toList = ([] : List UInt8)
    · by_cases h16 : c = 16
      · subst h16
        by_cases h1 : x ≥ 1
        · exact ⟨decide (x ≤ 9), by simp [hl, h1], by simp [hl, h1]⟩
        · exact ⟨false, by simp [hl, h1], by simp [hl, h1]⟩
      · by_cases h6 : c = 6
        · subst h6
          exact ⟨false, by simp [hl], by simp [hl]⟩
        · by_cases h8 : c = 8
          · subst h8
            exact ⟨false, by simp [hl], by simp [hl]⟩
          · by_cases h9 : c = 9
            · subst h9
              exact ⟨false, by simp [hl], by simp [hl]⟩
            · by_cases h15 : c = 15
              · subst h15
                exact ⟨false, by simp [hl], by simp [hl]⟩
              · by_cases a1 : c < 1
                · have a1' : ¬ c ≥ 1 := by omega
                  exact ⟨false, by simp [hc, hl, h16, h6, h8, h9, h15, a1'], by simp [hc, hl, h16, a1]⟩
                · by_cases a2 : c > 15
                  · have a1' : c ≥ 1 := by omega
                    have a2' : ¬ c < 15 := by omega
                    exact ⟨false, by simp [hc, hl, h16, h6, h8, h9, h15, a1', a2'], by simp [hc, hl, h16, a1, a2]⟩
                  · have a1' : c ≥ 1 := by omega
                    have a2' : c < 15 := by omega
                    by_cases a3 : x < 0
                    · have a3' : ¬ x ≥ 0 := by omega
                      exact ⟨false, by simp [hc, hl, h16, h6, h8, h9, h15, a1', a2', a3'], by simp [hc, hl, h16, a1, a2, a3]⟩
                    · have a3' : x ≥ 0 := by omega
                      by_cases a4 : x > 255
                      · have a4' : ¬ x ≤ 255 := by omega
                        exact ⟨false, by simp [hc, hl, h16, h6, h8, h9, h15, a1', a2', a3', a4'], by simp [hc, hl, h16, a1, a2, a3, a4]⟩
                      · have a4' : x ≤ 255 := by omega
                        exact ⟨true, by simp [hc, hl, h16, h6, h8, h9, h15, a1', a2', a3', a4'], by simp [hc, hl, h16, a1, a2, a3, a4, h6, h8, h9, h15]⟩
    · exact ⟨false, by simp [hc, hl], by simp [hc, hl]⟩
def tokB (c x : Int) (n : ByteArray) : Bool := (spec_TokenOk.f c x n).getD false
theorem tok_s (c x : Int) (n : ByteArray) : spec_TokenOk.f c x n = some (tokB c x n) := by
  obtain ⟨b, h, _⟩ := token_same c x n
  unfold tokB
  rw [h]
  rfl
theorem tok_i (c x : Int) (n : ByteArray) : impl_TokenOk.f c x n = some (tokB c x n) := by
  obtain ⟨b, h, h'⟩ := token_same c x n
  unfold tokB
  rw [h, h']
  rfl
theorem char_i (c x : Int) (n : ByteArray) : impl_isChar.f c x n = some (tokB c x n && !decide (c = 0) && !decide (c = 16)) := by
  by_cases hc : c = 0
  · subst hc
    unfold impl_isChar.f
    by_cases hl : n.toList = ([] : List UInt8) <;> simp [hl]
  · by_cases h16 : c = 16
    · subst h16
      unfold impl_isChar.f
      by_cases hl : n.toList = ([] : List UInt8) <;> simp [hl]
    · have e := tok_i c x n
      unfold impl_TokenOk.f at e
      have e1 : impl_isName.f c x n = some false := by unfold impl_isName.f; rw [if_neg hc]
      have e2 : impl_isSlot.f c x n = some false := by unfold impl_isSlot.f; rw [if_neg h16]
      rw [e1, e2] at e
      simp only [Option.bind_some] at e
      rw [if_neg (by simp)] at e
      have hd : ∃ b, impl_isChar.f c x n = some b := by
        unfold impl_isChar.f
        repeat' split
        all_goals exact ⟨_, rfl⟩
      obtain ⟨b, hb⟩ := hd
      rw [hb] at e ⊢
      simp only [Option.bind_some] at e
      cases b
      · rw [if_neg (by simp)] at e
        have := Option.some.inj e
        simp [← this]
      · rw [if_pos rfl] at e
        have := Option.some.inj e
        simp [← this, hc, h16]
def okT (t : S42) : Bool := tokB t.f0 t.f1 t.f2
def slotB (m : Int) (t : S42) : Bool := !(decide (t.f0 = 16) && decide (t.f1 > m))
def balR : List S42 → Int → Bool
  | [], n => n == 0
  | t :: ts, n => if t.f0 = 1 then balR ts (n + 1) else if t.f0 = 2 then (if n - 1 < 0 then false else balR ts (n - 1)) else balR ts n
def patN : List S42 → Int → Option Int
  | [], n => some n
  | t :: ts, n => if t.f0 = 16 then (if t.f1 = n + 1 then patN ts (n + 1) else none) else if t.f0 = 1 then none else if t.f0 = 2 then none else if t.f0 = 7 then none else patN ts n
theorem toks_s (l : List S42) (m : Int) (hl : l.length ≤ 1048576) : ∀ d k i : Nat, ∀ n : Int, l.length - i = d → i ≤ l.length → 3 * d < k → 0 ≤ n → n + d ≤ 2000000 → spec_l3Toks.l0 k l m n i = some ((l.drop i).all (fun t => okT t && slotB m t) && balR (l.drop i) n) := by
  intro d
  induction d with
  | zero =>
    intro k i n hd hi hk h0 h1
    obtain ⟨k, rfl⟩ : ∃ m, k = m + 1 := ⟨k - 1, by omega⟩
    rw [spec_l3Toks.l0, if_neg (by omega), List.drop_of_length_le (by omega)]
    simp [balR]
  | succ d ih =>
    intro k i n hd hi hk h0 h1
    obtain ⟨k, rfl⟩ : ∃ m, k = m + 3 := ⟨k - 3, by omega⟩
    have hlt : i < l.length := by omega
    have hj2 : ∀ n' : Int, 0 ≤ n' → n' ≤ n + 1 → spec_l3Toks.l0 k l m n' ((i + 1 : Nat) : Int) = some ((l.drop (i + 1)).all (fun t => okT t && slotB m t) && balR (l.drop (i + 1)) n') := fun n' a b => ih k (i + 1) n' (by omega) (by omega) (by omega) a (by omega)
    have j2 : ∀ n' : Int, 0 ≤ n' → n' ≤ n + 1 → spec_l3Toks.j2 (k + 1) l m n' i = some ((l.drop (i + 1)).all (fun t => okT t && slotB m t) && (if l[i].f0 = 2 then (if n' - 1 < 0 then false else balR (l.drop (i + 1)) (n' - 1)) else balR (l.drop (i + 1)) n')) := by
      intro n' a b
      rw [spec_l3Toks.j2, if_pos (by omega), if_pos (by omega), rdToken_b l i hlt, wrap_succ i (by omega), wrap_in (n' - 1) (by omega) (by omega)]
      by_cases h2 : l[i].f0 = 2
      · rw [if_pos h2, if_pos h2]
        by_cases h3 : n' - 1 < 0
        · rw [if_pos h3, if_pos h3]; simp
        · rw [if_neg h3, if_neg h3, hj2 _ (by omega) (by omega)]
      · rw [if_neg h2, if_neg h2, if_neg (by omega), hj2 _ a b]
    have j1 : ∀ b : Bool, spec_l3Toks.j1 (k + 2) l m n i b = some (!b && ((l.drop (i + 1)).all (fun t => okT t && slotB m t) && balR (l.drop i) n)) := by
      intro b
      rw [List.drop_eq_getElem_cons hlt, balR, spec_l3Toks.j1]
      cases b
      · rw [if_neg (by simp), if_pos (by omega), if_pos (by omega), rdToken_b l i hlt, wrap_in (n + 1) (by omega) (by omega)]
        by_cases h1 : l[i].f0 = 1
        · rw [if_pos h1, if_pos h1, j2 _ (by omega) (by omega), if_neg (by omega)]
          simp
        · rw [if_neg h1, if_neg h1, j2 _ (by omega) (by omega)]
          simp
      · rw [if_pos rfl]
        simp
    rw [show k + 3 = (k + 2) + 1 from rfl, spec_l3Toks.l0, if_pos (by omega), if_pos (by omega), tok_s, rdToken_b l i hlt]
    simp only [Option.bind_some, j1]
    have e : (l.drop i).all (fun t => okT t && slotB m t) = ((okT l[i] && slotB m l[i]) && (l.drop (i + 1)).all (fun t => okT t && slotB m t)) := by rw [List.drop_eq_getElem_cons hlt, List.all_cons]
    rw [e]
    simp only [okT, slotB]
    cases tokB l[i].f0 l[i].f1 l[i].f2
    · simp
    · by_cases h16 : l[i].f0 = 16
      · by_cases hm : l[i].f1 > m
        · simp [h16, hm]
        · simp [h16, hm]
      · simp [h16]
theorem toks_i (l : List S42) (hl : l.length ≤ 1048576) : ∀ d k i : Nat, l.length - i = d → i ≤ l.length → d < k → impl_tokensOk.l0 k l (l.length : Int) i = some ((l.drop i).all okT) := by
  intro d
  induction d with
  | zero =>
    intro k i hd hi hk
    obtain ⟨k, rfl⟩ : ∃ m, k = m + 1 := ⟨k - 1, by omega⟩
    rw [impl_tokensOk.l0, if_neg (by omega), List.drop_of_length_le (by omega)]
    simp
  | succ d ih =>
    intro k i hd hi hk
    obtain ⟨k, rfl⟩ : ∃ m, k = m + 1 := ⟨k - 1, by omega⟩
    have hlt : i < l.length := by omega
    rw [impl_tokensOk.l0, if_pos (by omega), if_pos (by omega), if_pos (by omega), tok_i, wrap_succ i (by omega), ih k (i + 1) (by omega) (by omega) (by omega), List.drop_eq_getElem_cons hlt, List.all_cons, rdToken_b l i hlt]
    simp only [Option.bind_some, okT]
    cases tokB l[i].f0 l[i].f1 l[i].f2 <;> simp
theorem tokensOk_f (l : List S42) (hl : l.length ≤ 1048576) (m : Int) (k : Nat) (hk : l.length < k) : impl_tokensOk.f k l m = some (!decide ((l.length : Int) > m) && l.all okT) := by
  unfold impl_tokensOk.f
  by_cases h : (l.length : Int) > m
  · rw [if_pos h]; simp [h]
  · rw [if_neg h]
    have := toks_i l hl l.length k 0 (by omega) (by omega) hk
    rw [show ((0 : Nat) : Int) = 0 from rfl, List.drop_zero] at this
    rw [this]
    simp [h]
theorem bal_i (l : List S42) (hl : l.length ≤ 1048576) : ∀ d k i : Nat, ∀ n : Int, l.length - i = d → i ≤ l.length → d < k → 0 ≤ n → n + d ≤ 2000000 → impl_balanced.l0 k n l (l.length : Int) i = some (balR (l.drop i) n) := by
  intro d
  induction d with
  | zero =>
    intro k i n hd hi hk h0 h1
    obtain ⟨k, rfl⟩ : ∃ m, k = m + 1 := ⟨k - 1, by omega⟩
    rw [impl_balanced.l0, if_neg (by omega), List.drop_of_length_le (by omega)]
    rfl
  | succ d ih =>
    intro k i n hd hi hk h0 h1
    obtain ⟨k, rfl⟩ : ∃ m, k = m + 1 := ⟨k - 1, by omega⟩
    have hlt : i < l.length := by omega
    rw [impl_balanced.l0, if_pos (by omega), if_pos (by omega), if_pos (by omega), wrap_succ i (by omega), wrap_in (n + 1) (by omega) (by omega), wrap_in (n - 1) (by omega) (by omega), List.drop_eq_getElem_cons hlt, balR, rdToken_b l i hlt]
    by_cases c1 : l[i].f0 = 1
    · rw [if_pos c1, if_pos c1, if_neg (by omega), ih k (i + 1) _ (by omega) (by omega) (by omega) (by omega) (by omega)]
    · rw [if_neg c1, if_neg c1]
      by_cases c2 : l[i].f0 = 2
      · rw [if_pos c2, if_pos c2]
        by_cases h3 : n - 1 < 0
        · rw [if_pos h3, if_pos h3]
        · rw [if_neg h3, if_neg h3, ih k (i + 1) _ (by omega) (by omega) (by omega) (by omega) (by omega)]
      · rw [if_neg c2, if_neg c2, if_neg (by omega), ih k (i + 1) _ (by omega) (by omega) (by omega) (by omega) (by omega)]
theorem balanced_f (l : List S42) (hl : l.length ≤ 1048576) (k : Nat) (hk : l.length < k) : impl_balanced.f k l = some (balR l 0) := by
  unfold impl_balanced.f
  simpa using bal_i l hl l.length k 0 0 (by omega) (by omega) hk (by omega) (by omega)
def macB (p : List S42) (m : Int) (b : List S42) : Bool :=
  decide (0 ≤ m ∧ m ≤ 9) && !decide ((p.length : Int) > 100) && p.all okT && !decide ((b.length : Int) > 2000) && b.all okT && balR b 0 && b.all (slotB m) && (patN p 0 == some m)
theorem mac_i1 (b p q : List S42) (hl : b.length ≤ 1048576) (m n : Int) (hm : 0 ≤ m) (hm9 : m ≤ 9) : ∀ d k i : Nat, b.length - i = d → i ≤ b.length → d < k → impl_macroOk.l1 k n b (b.length : Int) i p m q = some ((b.drop i).all (slotB m) && (n == m + 1)) := by
  intro d
  induction d with
  | zero =>
    intro k i hd hi hk
    obtain ⟨k, rfl⟩ : ∃ m, k = m + 1 := ⟨k - 1, by omega⟩
    rw [impl_macroOk.l1, if_neg (by omega), List.drop_of_length_le (by omega), wrap_in (m + 1) (by omega) (by omega)]
    simp
  | succ d ih =>
    intro k i hd hi hk
    obtain ⟨k, rfl⟩ : ∃ m, k = m + 1 := ⟨k - 1, by omega⟩
    have hlt : i < b.length := by omega
    rw [impl_macroOk.l1, if_pos (by omega), if_pos (by omega), if_pos (by omega), wrap_succ i (by omega), ih k (i + 1) (by omega) (by omega) (by omega), List.drop_eq_getElem_cons hlt, List.all_cons, rdToken_b b i hlt]
    by_cases h16 : b[i].f0 = 16
    · by_cases hs : b[i].f1 > m
      · simp [slotB, h16, hs]
      · simp [slotB, h16, hs]
    · simp [slotB, h16]
theorem mac_i0 (b p q : List S42) (hl : b.length ≤ 2000) (hp : p.length ≤ 100) (m : Int) (hm : 0 ≤ m) (hm9 : m ≤ 9) : ∀ d k i : Nat, ∀ n : Int, p.length - i = d → i ≤ p.length → d + 2002 < k → 0 ≤ n → n + d ≤ 1000 →
    impl_macroOk.l0 k (n + 1) p (p.length : Int) i q m b = some (b.all (slotB m) && (patN (p.drop i) n == some m)) := by
  intro d
  induction d with
  | zero =>
    intro k i n hd hi hk h0 h1
    obtain ⟨k, rfl⟩ : ∃ m, k = m + 1 := ⟨k - 1, by omega⟩
    have := mac_i1 b q b (by omega) m (n + 1) hm hm9 b.length k 0 (by omega) (by omega) (by omega)
    rw [show ((0 : Nat) : Int) = 0 from rfl, List.drop_zero] at this
    rw [impl_macroOk.l0, if_neg (by omega), this, List.drop_of_length_le (by omega), patN]
    have e : (n + 1 == m + 1) = (some n == some m) := by
      rw [Bool.eq_iff_iff]
      simp
    rw [e]
  | succ d ih =>
    intro k i n hd hi hk h0 h1
    obtain ⟨k, rfl⟩ : ∃ m, k = m + 1 := ⟨k - 1, by omega⟩
    have hlt : i < p.length := by omega
    rw [impl_macroOk.l0, if_pos (by omega), if_pos (by omega), if_pos (by omega), wrap_succ i (by omega), wrap_in (n + 1 + 1) (by omega) (by omega), List.drop_eq_getElem_cons hlt, patN, rdToken_b p i hlt]
    by_cases h16 : p[i].f0 = 16
    · rw [if_pos h16, if_pos h16]
      by_cases hs : p[i].f1 = n + 1
      · rw [if_pos hs, if_pos hs, ih k (i + 1) (n + 1) (by omega) (by omega) (by omega) (by omega) (by omega)]
      · rw [if_neg hs, if_neg hs]
        simp
    · rw [if_neg h16, if_neg h16]
      by_cases c1 : p[i].f0 = 1
      · rw [if_pos c1, if_pos c1]; simp
      · rw [if_neg c1, if_neg c1]
        by_cases c2 : p[i].f0 = 2
        · rw [if_pos c2, if_pos c2]; simp
        · rw [if_neg c2, if_neg c2]
          by_cases c7 : p[i].f0 = 7
          · rw [if_pos c7, if_pos c7]; simp
          · rw [if_neg c7, if_neg c7, ih k (i + 1) n (by omega) (by omega) (by omega) (by omega) (by omega)]
theorem macro_i (p : List S42) (m : Int) (b : List S42) (hp : p.length ≤ 1048576) (hb : b.length ≤ 1048576) (k : Nat) (hk : 1100000 < k) : impl_macroOk.f k p m b = some (macB p m b) := by
  have no : ∀ k, 0 < k → impl_macroOk.j0 k true p m b = some false := by
    intro k hk
    obtain ⟨k, rfl⟩ : ∃ m, k = m + 1 := ⟨k - 1, by omega⟩
    rw [impl_macroOk.j0, if_pos rfl]
  unfold impl_macroOk.f macB
  by_cases h0 : m < 0
  · rw [if_pos h0, no k (by omega), show decide (0 ≤ m ∧ m ≤ 9) = false from decide_eq_false (by omega)]
    simp
  rw [if_neg h0]
  by_cases h9 : m > 9
  · rw [if_pos h9, no k (by omega), show decide (0 ≤ m ∧ m ≤ 9) = false from decide_eq_false (by omega)]
    simp
  rw [if_neg h9, show decide (0 ≤ m ∧ m ≤ 9) = true from decide_eq_true (by omega), tokensOk_f p hp 100 k (by omega)]
  simp only [Option.bind_some, Bool.true_and]
  cases e1 : (!decide ((p.length : Int) > 100) && p.all okT)
  · rw [if_neg (by simp), no k (by omega)]
    simp
  · rw [if_pos rfl, tokensOk_f b hb 2000 k (by omega)]
    simp only [Option.bind_some, Bool.true_and]
    cases e2 : (!decide ((b.length : Int) > 2000) && b.all okT)
    · rw [if_neg (by simp), no k (by omega)]
      simp
    · rw [if_pos rfl, balanced_f b hb k (by omega)]
      simp only [Option.bind_some, Bool.true_and]
      cases e3 : balR b 0
      · rw [show (!false) = true from rfl, no k (by omega)]
        simp
      · have hpl : p.length ≤ 100 := by
          simp only [Bool.and_eq_true, Bool.not_eq_true', decide_eq_false_iff_not] at e1
          omega
        have hbl : b.length ≤ 2000 := by
          simp only [Bool.and_eq_true, Bool.not_eq_true', decide_eq_false_iff_not] at e2
          omega
        obtain ⟨k, rfl⟩ : ∃ m, k = m + 1 := ⟨k - 1, by omega⟩
        rw [impl_macroOk.j0, if_neg (by simp)]
        have := mac_i0 b p p hbl hpl m (by omega) (by omega) p.length k 0 0 (by omega) (by omega) (by omega) (by omega) (by omega)
        rw [show ((0 : Nat) : Int) = 0 from rfl, List.drop_zero, show (0 : Int) + 1 = 1 from rfl] at this
        rw [this]
        simp
theorem mac_s0 (b p : List S42) (hb : b.length ≤ 1048576) (hp : p.length ≤ 100) (m : Int) (hm : 0 ≤ m) (hm9 : m ≤ 9) (B : Bool) (hB : ∀ k, 3200000 < k → spec_l3Toks.f k b 2000 m = some B) : ∀ d k i : Nat, ∀ n : Int, p.length - i = d → i ≤ p.length → 2 * d + 3200002 < k → 0 ≤ n → n + d ≤ 1000 →
    spec_l3MacroOk.l0 k n i p m b = some ((p.drop i).all okT && (patN (p.drop i) n == some m) && B) := by
  intro d
  induction d with
  | zero =>
    intro k i n hd hi hk h0 h1
    obtain ⟨k, rfl⟩ : ∃ m, k = m + 1 := ⟨k - 1, by omega⟩
    rw [spec_l3MacroOk.l0, if_neg (by omega), List.drop_of_length_le (by omega), patN, hB k (by omega)]
    simp only [Option.bind_some]
    by_cases h : n = m
    · rw [if_pos h]; simp [h]
    · rw [if_neg h]; simp [h]
  | succ d ih =>
    intro k i n hd hi hk h0 h1
    obtain ⟨k, rfl⟩ : ∃ m, k = m + 2 := ⟨k - 2, by omega⟩
    have hlt : i < p.length := by omega
    have j2t : ∀ (a c : Int) (e : ByteArray), spec_l3MacroOk.j2 (k + 1) n i true p m b a c e = some false := by
      intro a c e
      rw [spec_l3MacroOk.j2, if_pos rfl]
    have e0 : (p.drop i).all okT = (okT p[i] && (p.drop (i + 1)).all okT) := by rw [List.drop_eq_getElem_cons hlt, List.all_cons]
    have e1 : patN (p.drop i) n = (if p[i].f0 = 16 then (if p[i].f1 = n + 1 then patN (p.drop (i + 1)) (n + 1) else none) else if p[i].f0 = 1 then none else if p[i].f0 = 2 then none else if p[i].f0 = 7 then none else patN (p.drop (i + 1)) n) := by rw [List.drop_eq_getElem_cons hlt, patN]
    rw [show k + 2 = (k + 1) + 1 from rfl, spec_l3MacroOk.l0, if_pos (by omega), if_pos (by omega), tok_s, rdToken_b p i hlt, e0, e1]
    simp only [Option.bind_some, okT, j2t]
    cases ht : tokB p[i].f0 p[i].f1 p[i].f2
    · rw [if_neg (by simp)]; simp
    · rw [if_pos rfl]
      by_cases c1 : p[i].f0 = 1
      · rw [if_pos c1, if_neg (by omega), if_pos c1]; simp
      · rw [if_neg c1]
        by_cases c2 : p[i].f0 = 2
        · rw [if_pos c2, if_neg (by omega), if_neg c1, if_pos c2]; simp
        · rw [if_neg c2, spec_l3MacroOk.j2, wrap_succ i (by omega), wrap_in (n + 1) (by omega) (by omega)]
          by_cases c7 : p[i].f0 = 7
          · rw [if_pos (by simp [c7]), if_neg (by omega), if_neg c1, if_neg c2, if_pos c7]; simp
          · rw [if_neg (by simp [c7])]
            by_cases h16 : p[i].f0 = 16
            · rw [if_pos h16, if_pos h16]
              by_cases hs : p[i].f1 = n + 1
              · rw [if_pos hs, if_pos hs, ih k (i + 1) (n + 1) (by omega) (by omega) (by omega) (by omega) (by omega)]; first | (simp; done) | (simp; rfl)
              · rw [if_neg hs, if_neg hs]; simp
            · rw [if_neg h16, if_neg h16, if_neg c1, if_neg c2, if_neg c7, ih k (i + 1) n (by omega) (by omega) (by omega) (by omega) (by omega)]; first | (simp; done) | (simp; rfl)
theorem toks_sf (b : List S42) (hb : b.length ≤ 1048576) (m : Int) (k : Nat) (hk : 3200000 < k) : spec_l3Toks.f k b 2000 m = some (!decide ((b.length : Int) > 2000) && (b.all (fun t => okT t && slotB m t) && balR b 0)) := by
  unfold spec_l3Toks.f
  by_cases h : (b.length : Int) > 2000
  · rw [if_pos h]; simp [h]
  · rw [if_neg h]
    have := toks_s b m hb b.length k 0 0 (by omega) (by omega) (by omega) (by omega) (by omega)
    rw [show ((0 : Nat) : Int) = 0 from rfl, List.drop_zero] at this
    rw [this]
    simp [h]
theorem all_two (b : List S42) (m : Int) : b.all (fun t => okT t && slotB m t) = (b.all okT && b.all (slotB m)) := by
  induction b with
  | nil => rfl
  | cons t ts ih =>
    simp only [List.all_cons, ih]
    cases okT t <;> cases slotB m t <;> cases ts.all okT <;> simp
theorem macro_s (p : List S42) (m : Int) (b : List S42) (hp : p.length ≤ 1048576) (hb : b.length ≤ 1048576) (k : Nat) (hk : 3300000 < k) : spec_l3MacroOk.f k p m b = some (macB p m b) := by
  have no : ∀ k, 0 < k → spec_l3MacroOk.j0 k true p m b = some false := by
    intro k hk
    obtain ⟨k, rfl⟩ : ∃ m, k = m + 1 := ⟨k - 1, by omega⟩
    rw [spec_l3MacroOk.j0, if_pos rfl]
  unfold spec_l3MacroOk.f macB
  by_cases h0 : m < 0
  · rw [if_pos h0, no k (by omega), show decide (0 ≤ m ∧ m ≤ 9) = false from decide_eq_false (by omega)]
    simp
  rw [if_neg h0]
  by_cases h9 : m > 9
  · rw [if_pos h9, no k (by omega), show decide (0 ≤ m ∧ m ≤ 9) = false from decide_eq_false (by omega)]
    simp
  rw [if_neg h9, show decide (0 ≤ m ∧ m ≤ 9) = true from decide_eq_true (by omega)]
  by_cases hl : (p.length : Int) > 100
  · rw [show decide ((p.length : Int) > 100) = true from decide_eq_true hl, no k (by omega)]
    simp
  · rw [show decide ((p.length : Int) > 100) = false from decide_eq_false hl]
    obtain ⟨k, rfl⟩ : ∃ m, k = m + 1 := ⟨k - 1, by omega⟩
    rw [spec_l3MacroOk.j0, if_neg (by simp)]
    have := mac_s0 b p hb (by omega) m (by omega) (by omega) _ (fun k hk => toks_sf b hb m k hk) p.length k 0 0 (by omega) (by omega) (by omega) (by omega) (by omega)
    rw [show ((0 : Nat) : Int) = 0 from rfl, List.drop_zero] at this
    rw [this, all_two]
    cases p.all okT <;> cases decide ((b.length : Int) > 2000) <;> cases b.all okT <;> cases b.all (slotB m) <;> cases balR b 0 <;> cases (patN p 0 == some m) <;> rfl
theorem noMacro_same (p : List S42) (m : Int) (b : List S42) (hp : p.length ≤ 1048576) (hb : b.length ≤ 1048576) : ∃ r, spec_l3NoMacro.f p m b = some r ∧ impl_noMacro.f p m b = some r := by
  unfold spec_l3NoMacro.f impl_noMacro.f
  rw [wrap_in ((p.length : Int) + (b.length : Int)) (by omega) (by omega)]
  by_cases h1 : (p.length : Int) = 0
  · rw [if_pos h1]
    by_cases h2 : (b.length : Int) = 0
    · rw [if_pos (by omega)]
      by_cases h3 : m = 0
      · rw [if_pos h3]
        exact ⟨true, by simp [h3], by simp [h2]⟩
      · rw [if_neg h3]
        exact ⟨false, by simp [h3], rfl⟩
    · rw [if_neg (by omega)]
      by_cases h3 : m = 0
      · rw [if_pos h3]
        exact ⟨false, rfl, by simp; rintro rfl; simp at h2⟩
      · rw [if_neg h3]
        exact ⟨false, rfl, rfl⟩
  · rw [if_neg h1, if_neg (by omega)]
    exact ⟨false, rfl, rfl⟩
theorem mean_both (a n c x : Int) (s : ByteArray) (p : List S42) (m : Int) (b : List S42) (hp : p.length ≤ 1048576) (hb : b.length ≤ 1048576) : ∃ r, ∀ k, 3300000 < k → spec_MeanOk.f k a n c x s p m b = some r ∧ impl_MeanOk.f k a n c x s p m b = some r := by
  obtain ⟨r0, hs0, hi0⟩ := noMacro_same p m b hp hb
  have hms := fun k (hk : 3300000 < k) => macro_s p m b hp hb k hk
  have hmi := fun k (hk : 3300000 < k) => macro_i p m b hp hb k (by omega)
  generalize he : (c == 0 && (x == 0 && (s.toList == ([] : List UInt8)))) = e
  by_cases a0 : a = 0
  · by_cases n0 : n = 0
    · cases e
      · refine ⟨false, fun k hk => ⟨?_, ?_⟩⟩
        · unfold spec_MeanOk.f; rw [he]; simp [a0, n0]
        · unfold impl_MeanOk.f; rw [he, hi0]; simp [a0, n0]
      · refine ⟨r0, fun k hk => ⟨?_, ?_⟩⟩
        · unfold spec_MeanOk.f; rw [he, hs0]; simp [a0, n0]
        · unfold impl_MeanOk.f; rw [he, hi0]; simp [a0, n0]
    · refine ⟨false, fun k hk => ⟨?_, ?_⟩⟩
      · unfold spec_MeanOk.f; simp [a0, n0]
      · unfold impl_MeanOk.f; rw [hi0]; simp [a0, n0]
  by_cases a1 : a = 1
  · by_cases n0 : n ≥ 1
    · by_cases n1 : n ≤ 58
      · cases e
        · refine ⟨false, fun k hk => ⟨?_, ?_⟩⟩
          · unfold spec_MeanOk.f; rw [he]; simp [a1, n0, n1]
          · unfold impl_MeanOk.f; rw [he, hi0]; simp [a1, n0, n1]
        · refine ⟨r0, fun k hk => ⟨?_, ?_⟩⟩
          · unfold spec_MeanOk.f; rw [he, hs0]; simp [a1, n0, n1]
          · unfold impl_MeanOk.f; rw [he, hi0]; simp [a1, n0, n1]
      · refine ⟨false, fun k hk => ⟨?_, ?_⟩⟩
        · unfold spec_MeanOk.f; simp [a1, n0, n1]
        · unfold impl_MeanOk.f; rw [hi0]; simp [a1, n0, n1]
    · refine ⟨false, fun k hk => ⟨?_, ?_⟩⟩
      · unfold spec_MeanOk.f; simp [a1, n0]
      · unfold impl_MeanOk.f; rw [hi0]; simp [a1, n0]
  by_cases a2 : a = 2
  · by_cases n0 : n = 0
    · cases ht : tokB c x s
      · refine ⟨false, fun k hk => ⟨?_, ?_⟩⟩
        · unfold spec_MeanOk.f; rw [tok_s, ht]; simp [a2, n0]
        · unfold impl_MeanOk.f; rw [hi0, char_i, ht]; simp [a2, n0]
      · by_cases c0 : c = 0
        · refine ⟨false, fun k hk => ⟨?_, ?_⟩⟩
          · unfold spec_MeanOk.f; rw [tok_s, ht]; simp [a2, n0, c0]
          · unfold impl_MeanOk.f; rw [hi0, char_i, ht]; simp [a2, n0, c0]
        · by_cases c16 : c = 16
          · refine ⟨false, fun k hk => ⟨?_, ?_⟩⟩
            · unfold spec_MeanOk.f; rw [tok_s, ht]; simp [a2, n0, c16]
            · unfold impl_MeanOk.f; rw [hi0, char_i, ht]; simp [a2, n0, c16]
          · refine ⟨r0, fun k hk => ⟨?_, ?_⟩⟩
            · unfold spec_MeanOk.f; rw [tok_s, ht, hs0]; simp [a2, n0, c0, c16]
            · unfold impl_MeanOk.f; rw [hi0, char_i, ht]; simp [a2, n0, c0, c16]
    · refine ⟨false, fun k hk => ⟨?_, ?_⟩⟩
      · unfold spec_MeanOk.f; simp [a2, n0]
      · unfold impl_MeanOk.f; rw [hi0]; simp [a2, n0]
  by_cases a3 : a = 3
  · by_cases n0 : n = 0
    · cases e
      · refine ⟨false, fun k hk => ⟨?_, ?_⟩⟩
        · unfold spec_MeanOk.f; rw [he]; simp [a3, n0]
        · unfold impl_MeanOk.f; rw [he, hi0]; simp [a3, n0]
      · refine ⟨macB p m b, fun k hk => ⟨?_, ?_⟩⟩
        · unfold spec_MeanOk.f; rw [he, hms k hk]; simp [a3, n0]
        · unfold impl_MeanOk.f; rw [he, hi0, hmi k hk]; simp [a3, n0]
    · refine ⟨false, fun k hk => ⟨?_, ?_⟩⟩
      · unfold spec_MeanOk.f; simp [a3, n0]
      · unfold impl_MeanOk.f; rw [hi0]; simp [a3, n0]
  · refine ⟨false, fun k hk => ⟨?_, ?_⟩⟩
    · unfold spec_MeanOk.f; simp [a0, a1, a2, a3]
    · unfold impl_MeanOk.f; rw [hi0]; simp [a0, a1, a2, a3]

theorem FnExactMeanOk : laws_FnExactMeanOk.Pure := by
  intro a n c x s p m b _ _ _ _ hs hp hwp _ hb hwb
  obtain ⟨r1, hr1, hc1⟩ := szToken_f c x s 1048576 (by omega) (by omega) hs
  have fin : ∀ k r, laws_szMean.f k a n c x s p m b 1048576 = some r → r < 0 → laws_FnExactMeanOk.f k a n c x s p m b = some true := by
    intro k r h hneg
    unfold laws_FnExactMeanOk.f
    rw [h]
    simp only [Option.bind_some]
    rw [if_pos hneg]
  rcases hc1 with hc1 | ⟨c0, c1, c2⟩
  · refine ⟨2000000, fin _ (-1) ?_ (by omega)⟩
    unfold laws_szMean.f
    rw [hr1]
    simp only [Option.bind_some]
    rw [if_pos hc1]
  obtain ⟨r2, hr2, hc2⟩ := szTokenS_f p r1 c0 c1 hp (fun x hx => (hwp x hx).2.2)
  rcases hc2 with hc2 | ⟨d0, d1, d2, d3⟩
  · refine ⟨2000000, fin _ (-1) ?_ (by omega)⟩
    unfold laws_szMean.f laws_szMacro.f
    rw [hr1]
    simp only [Option.bind_some]
    rw [if_neg (by omega), hr2 _ (by omega)]
    simp only [Option.bind_some]
    rw [if_pos hc2]
    simp
  obtain ⟨r3, hr3, hc3⟩ := szTokenS_f b r2 d0 (by omega) hb (fun x hx => (hwb x hx).2.2)
  rcases hc3 with hc3 | ⟨e0, e1, e2, e3⟩
  · refine ⟨2000000, fin _ (-1) ?_ (by omega)⟩
    unfold laws_szMean.f laws_szMacro.f
    rw [hr1]
    simp only [Option.bind_some]
    rw [if_neg (by omega), hr2 _ (by omega)]
    simp only [Option.bind_some]
    rw [if_neg (by omega), hr3 _ (by omega)]
    simp only [Option.bind_some]
    rw [if_pos hc3]
    simp
  obtain ⟨r, hr⟩ := mean_both a n c x s (p.map cvToken) m (b.map cvToken) (by simpa using d2) (by simpa using e2)
  have hsz : ∀ k, 3300000 < k → laws_szMean.f k a n c x s p m b 1048576 = some r3 := by
    intro k hk
    unfold laws_szMean.f laws_szMacro.f
    rw [hr1]
    simp only [Option.bind_some]
    rw [if_neg (by omega), hr2 _ (by omega)]
    simp only [Option.bind_some]
    rw [if_neg (by omega), hr3 _ (by omega)]
    simp only [Option.bind_some]
    rw [if_neg (by omega)]
    simp only [Option.bind_some]
    rw [if_neg (by omega)]
  have hto : ∀ k, 3300000 < k → laws_toMean.f k a n c x s p m b = some (a, n, c, x, s, p.map cvToken, m, b.map cvToken) := by
    intro k hk
    unfold laws_toMean.f laws_toMacro.f laws_toToken.f
    rw [toTokenS_f p d2 k (by omega), toTokenS_f b e2 k (by omega)]
    rfl
  refine ⟨3300001, ?_⟩
  unfold laws_FnExactMeanOk.f
  rw [hsz _ (by omega)]
  simp only [Option.bind_some]
  rw [if_neg (by omega), hto _ (by omega)]
  simp only [Option.bind_some]
  rw [(hr _ (by omega)).1]
  simp only [Option.bind_some]
  rw [(hr _ (by omega)).2]
  simp only [Option.bind_some, bne_self]
  rw [if_neg (by simp)]
  unfold laws_eqMean.f laws_eqToken.f laws_eqMacro.f
  rw [eqTokenS_f (p.map cvToken) (by simp; omega) _ (by simp; omega), eqTokenS_f (b.map cvToken) (by simp; omega) _ (by simp; omega)]
  simp

end Go.Proofs.Ytgfifmbbjoocgaa.Pure
