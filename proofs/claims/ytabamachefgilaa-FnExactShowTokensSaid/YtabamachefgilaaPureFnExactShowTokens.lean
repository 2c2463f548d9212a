/- The pure statement of FnExactShowTokens: both sides show the same text. No condition. -/
import Derived.Test.YtabamachefgilaaPFnExactShowTokensx3
import Derived.Test.YtabamachefgilaaKit
namespace Go.Proofs.Ytabamachefgilaa.Pure
open Go.RowKit Go.Proofs.Ytabamachefgilaa.PFnExactShowTokens Go.Proofs.Ytabamachefgilaa.Kit Go.Proofs.YtabamachefgilaaW.PrintWords Go.Proofs.YtabamachefgilaaW.PrintLast Go.Proofs.YtabamachefgilaaW.PrintMore
set_option linter.unusedVariables false
set_option linter.unusedSimpArgs false
set_option linter.unusedSectionVars false

def cvToken (x : S127) : S80 := ⟨x.f0, x.f1, x.f2⟩
theorem rdToken_a (l : List S127) (i : Nat) (h : i < l.length) : rd_T127 l (i : Int) = l[i] := by simp [rd_T127, h]
theorem toTokenS_l0 (l : List S127) (hl : l.length ≤ 1048576) : ∀ d k i : Nat, l.length - i = d → i ≤ l.length → d < k →
    laws_toTokenS.l0 k l ((List.range i).map (fun j : Nat => cvToken (rd_T127 l (j : Int))) ++ List.replicate (l.length - i) z80) i = some (l.map cvToken) := by
  intro d
  induction d with
  | zero =>
    intro k i hd hi hk
    obtain ⟨k, rfl⟩ : ∃ m, k = m + 1 := ⟨k - 1, by omega⟩
    obtain rfl : i = l.length := by omega
    rw [laws_toTokenS.l0, if_neg (by omega), Nat.sub_self, map_get l cvToken (fun j : Nat => cvToken (rd_T127 l (j : Int))) (fun j hj => by rw [rdToken_a l j hj])]
    simp
  | succ d ih =>
    intro k i hd hi hk
    obtain ⟨k, rfl⟩ : ∃ m, k = m + 1 := ⟨k - 1, by omega⟩
    rw [laws_toTokenS.l0, if_pos (by omega), if_pos (by omega)]
    simp only [laws_toToken.f, Option.bind_some]
    rw [if_pos (by simp; omega), wrap_succ i (by omega), Int.toNat_natCast]
    have := set_step (fun j : Nat => cvToken (rd_T127 l (j : Int))) z80 l.length i (by omega)
    rw [show (⟨(rd_T127 l (i : Int)).f0, (rd_T127 l (i : Int)).f1, (rd_T127 l (i : Int)).f2⟩ : S80) = cvToken (rd_T127 l (i : Int)) from rfl, this]
    exact ih k (i + 1) (by omega) (by omega) (by omega)
theorem toTokenS_f (l : List S127) (hl : l.length ≤ 1048576) (k : Nat) (hk : l.length < k) : laws_toTokenS.f k l = some (l.map cvToken) := by
  unfold laws_toTokenS.f
  rw [if_pos (by omega), if_pos (by simp; omega), Int.toNat_natCast]
  exact toTokenS_l0 l hl l.length k 0 (by omega) (by omega) hk
theorem rdToken_b (l : List S80) (i : Nat) (h : i < l.length) : rd_T80 l (i : Int) = l[i] := by simp [rd_T80, h]
theorem szToken_f (c x : Int) (s : ByteArray) (left : Int) (h0 : 0 ≤ left) (h1 : left ≤ 1048576) (hs : s.size ≤ 9223372036854775807) : ∃ r, laws_szToken.f c x s left = some r ∧ (r < 0 ∨ (0 ≤ r ∧ r ≤ left ∧ (s.size : Int) ≤ left)) := by
  unfold laws_szToken.f
  rw [wrap_in (left - (s.size : Int)) (by omega) (by omega)]
  split
  · exact ⟨-1, rfl, .inl (by omega)⟩
  · exact ⟨_, rfl, .inr (by omega)⟩
theorem szTokenS_l0 (l : List S127) (hl : l.length ≤ 1048576) (hm : ∀ x ∈ l, x.f2.size ≤ 9223372036854775807) : ∀ d i : Nat, ∀ left : Int, l.length - i = d → i ≤ l.length → 0 ≤ left → left ≤ 1048576 →
    ∃ r, (∀ k, d < k → laws_szTokenS.l0 k l left i = some r) ∧ (r < 0 ∨ (0 ≤ r ∧ r ≤ left ∧ ∀ j (h : j < l.length), i ≤ j → l[j].f2.size ≤ 1048576)) := by
  intro d
  induction d with
  | zero =>
    intro i left hd hi h0 h1
    refine ⟨left, fun k hk => ?_, .inr ⟨h0, by omega, fun j h hij => by omega⟩⟩
    obtain ⟨k, rfl⟩ : ∃ m, k = m + 1 := ⟨k - 1, by omega⟩
    rw [laws_szTokenS.l0, if_neg (by omega)]
  | succ d ih =>
    intro i left hd hi h0 h1
    have hlt : i < l.length := by omega
    obtain ⟨r, hr, hc⟩ := szToken_f l[i].f0 l[i].f1 l[i].f2 left h0 h1 (hm _ (List.getElem_mem hlt))
    rcases hc with hc | ⟨c0, c1, c2⟩
    · refine ⟨-1, fun k hk => ?_, .inl (by omega)⟩
      obtain ⟨k, rfl⟩ : ∃ m, k = m + 1 := ⟨k - 1, by omega⟩
      rw [laws_szTokenS.l0, if_pos (by omega), if_pos (by omega), rdToken_a l i hlt, hr]
      simp only [Option.bind_some]
      rw [if_pos hc]
    · obtain ⟨r2, h2, h3⟩ := ih (i + 1) r (by omega) (by omega) c0 (by omega)
      refine ⟨r2, fun k hk => ?_, ?_⟩
      · obtain ⟨k, rfl⟩ : ∃ m, k = m + 1 := ⟨k - 1, by omega⟩
        rw [laws_szTokenS.l0, if_pos (by omega), if_pos (by omega), rdToken_a l i hlt, hr]
        simp only [Option.bind_some]
        rw [if_neg (by omega), wrap_succ i (by omega)]
        exact h2 k (by omega)
      · rcases h3 with h3 | ⟨h3, h5, h4⟩
        · exact .inl h3
        · refine .inr ⟨h3, by omega, fun j hj hij => ?_⟩
          rcases Nat.lt_or_ge i j with h | h
          · exact h4 j hj (by omega)
          · obtain rfl : i = j := by omega
            omega
theorem szTokenS_f (l : List S127) (left : Int) (h0 : 0 ≤ left) (h1 : left ≤ 1048576) (hl : l.length ≤ 9223372036854775807) (hm : ∀ x ∈ l, x.f2.size ≤ 9223372036854775807) :
    ∃ r, (∀ k, 1048577 < k → laws_szTokenS.f k l left = some r) ∧ (r < 0 ∨ (0 ≤ r ∧ r ≤ left ∧ l.length ≤ 1048576 ∧ ∀ x ∈ l, x.f2.size ≤ 1048576)) := by
  unfold laws_szTokenS.f
  rw [wrap_in (left - (l.length : Int)) (by omega) (by omega)]
  split
  · exact ⟨-1, fun _ _ => rfl, .inl (by omega)⟩
  · obtain ⟨r, hr, hc⟩ := szTokenS_l0 l (by omega) hm l.length 0 (left - (l.length : Int)) (by omega) (by omega) (by omega) (by omega)
    refine ⟨r, fun k hk => hr k (by omega), ?_⟩
    rcases hc with hc | ⟨hc, hd, hj⟩
    · exact .inl hc
    · refine .inr ⟨hc, by omega, by omega, fun x hx => ?_⟩
      obtain ⟨j, hjl, rfl⟩ := List.mem_iff_getElem.1 hx
      exact hj j hjl (by omega)
theorem eqTokenS_l0 (l : List S80) (hl : l.length ≤ 9223372036854775806) : ∀ d k i : Nat, l.length - i = d → i ≤ l.length → d < k → laws_eqTokenS.l0 k l l i = some true := by
  intro d
  induction d with
  | zero =>
    intro k i hd hi hk
    obtain ⟨k, rfl⟩ : ∃ m, k = m + 1 := ⟨k - 1, by omega⟩
    rw [laws_eqTokenS.l0, if_neg (by omega)]
  | succ d ih =>
    intro k i hd hi hk
    obtain ⟨k, rfl⟩ : ∃ m, k = m + 1 := ⟨k - 1, by omega⟩
    rw [laws_eqTokenS.l0, if_pos (by omega), if_pos (by omega), if_pos (by omega)]
    simp only [laws_eqToken.f, if_true, Option.bind_some]
    rw [wrap_succ i (by omega)]
    exact ih k (i + 1) (by omega) (by omega) (by omega)
theorem eqTokenS_f (l : List S80) (hl : l.length ≤ 9223372036854775806) (k : Nat) (hk : l.length < k) : laws_eqTokenS.f k l l = some true := by
  unfold laws_eqTokenS.f
  rw [if_pos rfl]
  exact eqTokenS_l0 l hl l.length k 0 (by omega) (by omega) hk
theorem toList_loop (u : ByteArray) : ∀ d i (r : List UInt8), u.size - i = d → (ByteArray.toList.loop u i r).length = r.length + d := by
  intro d
  induction d with
  | zero =>
    intro i r h
    rw [ByteArray.toList.loop.eq_def, if_neg (by omega)]
    simp
  | succ d ih =>
    intro i r h
    rw [ByteArray.toList.loop.eq_def, if_pos (by omega), ih (i + 1) _ (by omega)]
    simp; omega
theorem toList_nil (u : ByteArray) : u.toList = [] ↔ u.size = 0 := by
  have h : u.toList.length = u.size := by
    unfold ByteArray.toList
    rw [toList_loop u u.size 0 [] (by omega)]
    simp
  constructor
  · intro e; rw [e] at h; exact h.symm
  · intro e; exact List.eq_nil_of_length_eq_zero (by omega)

theorem token_same (c x : Int) (n : ByteArray) : ∃ b, spec_TokenOk.f c x n = some b ∧ impl_TokenOk.f c x n = some b := by
  unfold spec_TokenOk.f impl_TokenOk.f impl_isName.f impl_isChar.f impl_isSlot.f
  by_cases hc : c = 0
  · subst hc
    by_cases hx : x = 0
    · subst hx
      by_cases hn : (n.size : Int) ≤ 40
      · exact ⟨true, by simp [hn], by simp [hn]⟩
      · exact ⟨false, by simp [hn], by simp [hn]⟩
    · refine ⟨false, by simp [hx], ?_⟩
      by_cases hn : (n.size : Int) ≤ 40 <;> simp [hn, hx]
  · by_cases hl : n.toList = ([] : List UInt8)
    · by_cases h16 : c = 16
      · subst h16
        by_cases h1 : x ≥ 1
        · exact ⟨decide (x ≤ 9), by simp [hl, h1], by simp [hl, h1]⟩
        · exact ⟨false, by simp [hl, h1], by simp [hl, h1]⟩
      · by_cases h6 : c = 6
        · subst h6
          exact ⟨false, by simp [hl], by simp [hl]⟩
        · by_cases h8 : c = 8
          · subst h8
            exact ⟨false, by simp [hl], by simp [hl]⟩
          · by_cases h9 : c = 9
            · subst h9
              exact ⟨false, by simp [hl], by simp [hl]⟩
            · by_cases h15 : c = 15
              · subst h15
                exact ⟨false, by simp [hl], by simp [hl]⟩
              · by_cases a1 : c < 1
                · have a1' : ¬ c ≥ 1 := by omega
                  exact ⟨false, by simp [hc, hl, h16, h6, h8, h9, h15, a1'], by simp [hc, hl, h16, a1]⟩
                · by_cases a2 : c > 15
                  · have a1' : c ≥ 1 := by omega
                    have a2' : ¬ c < 15 := by omega
                    exact ⟨false, by simp [hc, hl, h16, h6, h8, h9, h15, a1', a2'], by simp [hc, hl, h16, a1, a2]⟩
                  · have a1' : c ≥ 1 := by omega
                    have a2' : c < 15 := by omega
                    by_cases a3 : x < 0
                    · have a3' : ¬ x ≥ 0 := by omega
                      exact ⟨false, by simp [hc, hl, h16, h6, h8, h9, h15, a1', a2', a3'], by simp [hc, hl, h16, a1, a2, a3]⟩
                    · have a3' : x ≥ 0 := by omega
                      by_cases a4 : x > 255
                      · have a4' : ¬ x ≤ 255 := by omega
                        exact ⟨false, by simp [hc, hl, h16, h6, h8, h9, h15, a1', a2', a3', a4'], by simp [hc, hl, h16, a1, a2, a3, a4]⟩
                      · have a4' : x ≤ 255 := by omega
                        exact ⟨true, by simp [hc, hl, h16, h6, h8, h9, h15, a1', a2', a3', a4'], by simp [hc, hl, h16, a1, a2, a3, a4, h6, h8, h9, h15]⟩
    · exact ⟨false, by simp [hc, hl], by simp [hc, hl]⟩
def tokB (c x : Int) (n : ByteArray) : Bool := (spec_TokenOk.f c x n).getD false
theorem tok_s (c x : Int) (n : ByteArray) : spec_TokenOk.f c x n = some (tokB c x n) := by
  obtain ⟨b, h, _⟩ := token_same c x n
  unfold tokB
  rw [h]
  rfl
theorem tok_i (c x : Int) (n : ByteArray) : impl_TokenOk.f c x n = some (tokB c x n) := by
  obtain ⟨b, h, h'⟩ := token_same c x n
  unfold tokB
  rw [h, h']
  rfl
theorem char_i (c x : Int) (n : ByteArray) : impl_isChar.f c x n = some (tokB c x n && !decide (c = 0) && !decide (c = 16)) := by
  by_cases hc : c = 0
  · subst hc
    unfold impl_isChar.f
    by_cases hl : n.toList = ([] : List UInt8) <;> simp [hl]
  · by_cases h16 : c = 16
    · subst h16
      unfold impl_isChar.f
      by_cases hl : n.toList = ([] : List UInt8) <;> simp [hl]
    · have e := tok_i c x n
      unfold impl_TokenOk.f at e
      have e1 : impl_isName.f c x n = some false := by unfold impl_isName.f; rw [if_neg hc]
      have e2 : impl_isSlot.f c x n = some false := by unfold impl_isSlot.f; rw [if_neg h16]
      rw [e1, e2] at e
      simp only [Option.bind_some] at e
      rw [if_neg (by simp)] at e
      have hd : ∃ b, impl_isChar.f c x n = some b := by
        unfold impl_isChar.f
        repeat' split
        all_goals exact ⟨_, rfl⟩
      obtain ⟨b, hb⟩ := hd
      rw [hb] at e ⊢
      simp only [Option.bind_some] at e
      cases b
      · rw [if_neg (by simp)] at e
        have := Option.some.inj e
        simp [← this]
      · rw [if_pos rfl] at e
        have := Option.some.inj e
        simp [← this, hc, h16]
theorem nums_app (x y : List Int) : strOfNums (x ++ y) = strOfNums x ++ strOfNums y := by
  apply ByteArray.ext
  simp [strOfNums]
theorem nums_size (x : List Int) : (strOfNums x).size = x.length := by simp [strOfNums, ByteArray.size]
theorem nums_of (s : ByteArray) : strOfNums (bytesOf s) = s := by
  apply ByteArray.ext
  have h : ((fun n : Int => UInt8.ofNat n.toNat) ∘ fun b : UInt8 => (b.toNat : Int)) = id := by
    funext b
    simp
  simp only [strOfNums, bytesOf, List.map_map, h, List.map_id, Array.toArray_toList]
theorem app_assoc (a b c : ByteArray) : (a ++ b) ++ c = a ++ (b ++ c) := by
  apply ByteArray.ext
  simp
theorem app_nil (a : ByteArray) : a ++ strOfNums [] = a := by
  apply ByteArray.ext
  simp [strOfNums]
def letB (c : Int) : Bool := (decide (97 ≤ c) && decide (c ≤ 122)) || (decide (65 ≤ c) && decide (c ≤ 90))
theorem let_i (c : Int) : impl_isLetter.f c = some (letB c) := by
  unfold impl_isLetter.f letB
  repeat' split
  all_goals congr 1
  all_goals rw [Bool.eq_iff_iff]
  all_goals simp
  all_goals omega
def lastB (s : ByteArray) : Bool := decide (0 < s.size) && letB (bt s ((s.size : Int) - 1))
def showL (t : S80) : List Int := if t.f0 = 0 then 92 :: (bytesOf t.f2 ++ if lastB t.f2 = true then [32] else []) else if t.f0 = 16 then [35, (wrap64 (48 + t.f1)) % 256] else [t.f1 % 256]
theorem showL_len (t : S80) (h : t.f2.size ≤ 40) : (showL t).length ≤ 42 := by
  unfold showL
  split
  · rw [List.length_cons, List.length_append, bytesOf_length]
    split <;> simp <;> omega
  · split <;> simp
theorem show_i (t : S80) (hn : t.f2.size ≤ 40) : impl_show.f t.f0 t.f1 t.f2 = some (strOfNums (showL t)) := by
  have e92 : (⟨#[92]⟩ : ByteArray) = strOfNums [92] := rfl
  have e32 : (⟨#[32]⟩ : ByteArray) = strOfNums [32] := rfl
  have e35 : (⟨#[35]⟩ : ByteArray) = strOfNums [35] := rfl
  unfold impl_show.f showL
  by_cases h0 : t.f0 = 0
  · rw [if_pos h0, if_pos h0]
    have hw : wrap64 ((t.f2.size : Int) - 1) = (t.f2.size : Int) - 1 := wrap_in _ (by omega) (by omega)
    have hc : (92 : Int) :: (bytesOf t.f2 ++ if lastB t.f2 = true then [32] else []) = [92] ++ (bytesOf t.f2 ++ if lastB t.f2 = true then [32] else []) := rfl
    rw [hc, nums_app, nums_app, nums_of]
    by_cases hp : (t.f2.size : Int) > 0
    · rw [if_pos hp, hw, if_pos (by omega), if_pos (by omega), let_i, Option.bind_some]
      have hl : lastB t.f2 = letB (bt t.f2 ((t.f2.size : Int) - 1)) := by unfold lastB; rw [decide_eq_true (by omega)]; rfl
      rw [hl]
      cases letB (bt t.f2 ((t.f2.size : Int) - 1)) with
      | true =>
        rw [if_pos rfl, if_pos rfl, if_pos (by omega), if_pos (by rw [ByteArray.size_append]; show 1 + t.f2.size + 1 ≤ _; omega), e92, e32, app_assoc]
      | false =>
        rw [if_neg (show ¬ (false = true) by decide), if_neg (show ¬ (false = true) by decide), if_pos (by omega), e92, app_nil]
    · have hl : lastB t.f2 = false := by unfold lastB; rw [decide_eq_false (by omega)]; rfl
      rw [if_neg hp, if_pos (by omega), hl, if_neg (by decide), e92, app_nil]
  · rw [if_neg h0, if_neg h0]
    by_cases h16 : t.f0 = 16
    · rw [if_pos h16, if_pos h16, Option.bind_some, if_pos (by rw [nums_size]; show 1 + 1 ≤ _; omega), e35]
      have hc : [35, (wrap64 (48 + t.f1)) % 256] = [35] ++ [(wrap64 (48 + t.f1)) % 256] := rfl
      rw [hc, nums_app]
    · rw [if_neg h16, if_neg h16]
theorem all_i (l : List S80) (hl : l.length ≤ 1048576) (hn : ∀ x ∈ l, x.f2.size ≤ 40) : ∀ d k i : Nat, ∀ y : ByteArray, l.length - i = d → i ≤ l.length → d < k → y.size + 42 * d ≤ 100000000 → impl_showAll.l0 k l i y = some (y ++ strOfNums ((l.drop i).map showL).flatten) := by
  intro d
  induction d with
  | zero =>
    intro k i y hd hi hk hy
    obtain ⟨k, rfl⟩ : ∃ m, k = m + 1 := ⟨k - 1, by omega⟩
    rw [impl_showAll.l0, if_neg (by omega), List.drop_of_length_le (by omega)]
    congr 1
    apply ByteArray.ext
    simp [strOfNums]
  | succ d ih =>
    intro k i y hd hi hk hy
    obtain ⟨k, rfl⟩ : ∃ m, k = m + 1 := ⟨k - 1, by omega⟩
    have hlt : i < l.length := by omega
    have hr : rd_T80 l (i : Int) = l[i] := by simp [rd_T80, hlt]
    have hx := hn l[i] (List.getElem_mem hlt)
    have hs := showL_len l[i] hx
    rw [impl_showAll.l0, if_pos (by omega), if_pos (by omega), hr, show_i _ hx, Option.bind_some, if_pos (by rw [nums_size]; omega)]
    have hw : wrap64 ((i : Int) + 1) = ((i + 1 : Nat) : Int) := wrap_succ i (by omega)
    rw [hw, ih k (i + 1) _ (by omega) (by omega) (by omega) (by rw [ByteArray.size_append, nums_size]; omega)]
    rw [List.drop_eq_getElem_cons hlt, List.map_cons, List.flatten_cons, nums_app]
    congr 1
    apply ByteArray.ext
    simp [strOfNums]
theorem showAll_f (l : List S80) (hl : l.length ≤ 1048576) (hn : ∀ x ∈ l, x.f2.size ≤ 40) (k : Nat) (hk : l.length < k) : impl_showAll.f k l = some (strOfNums (l.map showL).flatten) := by
  unfold impl_showAll.f
  have h := all_i l hl hn l.length k 0 ByteArray.empty (by omega) (by omega) (by omega) (by show 0 + _ ≤ _; omega)
  rw [show (0 : Int) = ((0 : Nat) : Int) from rfl, h, List.drop_zero]
  congr 1
  first | done | (apply ByteArray.ext; simp [strOfNums])
def okT (t : S80) : Bool := tokB t.f0 t.f1 t.f2
theorem oks_i (l : List S80) (hl : l.length ≤ 1048576) : ∀ d k i : Nat, l.length - i = d → i ≤ l.length → d < k → impl_tokensOk.l0 k l (l.length : Int) i = some ((l.drop i).all okT) := by
  intro d
  induction d with
  | zero =>
    intro k i hd hi hk
    obtain ⟨k, rfl⟩ : ∃ m, k = m + 1 := ⟨k - 1, by omega⟩
    rw [impl_tokensOk.l0, if_neg (by omega), List.drop_of_length_le (by omega)]
    rfl
  | succ d ih =>
    intro k i hd hi hk
    obtain ⟨k, rfl⟩ : ∃ m, k = m + 1 := ⟨k - 1, by omega⟩
    have hlt : i < l.length := by omega
    have hr : rd_T80 l (i : Int) = l[i] := by simp [rd_T80, hlt]
    rw [impl_tokensOk.l0, if_pos (by omega), if_pos (by omega), if_pos (by omega), hr, tok_i, Option.bind_some, List.drop_eq_getElem_cons hlt, List.all_cons]
    show (if okT l[i] = true then _ else _) = _
    cases okT l[i] with
    | true =>
      have hw : wrap64 ((i : Int) + 1) = ((i + 1 : Nat) : Int) := wrap_succ i (by omega)
      rw [if_pos rfl, hw, ih k (i + 1) (by omega) (by omega) (by omega)]
      simp
    | false => simp
theorem ok_size (t : S80) (h : okT t = true) : t.f2.size ≤ 40 := by
  unfold okT at h
  have e := tok_i t.f0 t.f1 t.f2
  rw [h] at e
  by_cases h0 : t.f0 = 0
  · unfold impl_TokenOk.f impl_isName.f impl_isChar.f impl_isSlot.f at e
    by_cases hs : (t.f2.size : Int) ≤ 40
    · omega
    · exfalso
      rw [h0] at e
      simp [hs] at e
  · have hz : t.f2.toList = [] := by
      by_cases hz : t.f2.toList = []
      · exact hz
      · exfalso
        unfold impl_TokenOk.f impl_isName.f impl_isChar.f impl_isSlot.f at e
        simp [h0, hz] at e
    have := (toList_nil t.f2).1 hz
    omega
theorem let_s (c : Int) : spec_l2Letter.f c = some (letB c) := let_i c
theorem show_s (l : List S80) (hl : l.length ≤ 20000) : ∀ d k i : Nat, ∀ a : List Int, l.length - i = d → i ≤ l.length → d < k → a.length + 42 * d ≤ 100000000 → spec_ShowTokens.l0 k l a i = some (if (l.drop i).all okT = true then strOfNums (a ++ ((l.drop i).map showL).flatten) else (⟨#[]⟩ : ByteArray)) := by
  intro d
  induction d with
  | zero =>
    intro k i a hd hi hk ha
    obtain ⟨k, rfl⟩ : ∃ m, k = m + 1 := ⟨k - 1, by omega⟩
    rw [spec_ShowTokens.l0, if_neg (by omega), List.drop_of_length_le (by omega)]
    simp
  | succ d ih =>
    intro k i a hd hi hk ha
    obtain ⟨k, rfl⟩ : ∃ m, k = m + 1 := ⟨k - 1, by omega⟩
    have hlt : i < l.length := by omega
    have hr : rd_T80 l (i : Int) = l[i] := by simp [rd_T80, hlt]
    have hw : wrap64 ((i : Int) + 1) = ((i + 1 : Nat) : Int) := wrap_succ i (by omega)
    rw [spec_ShowTokens.l0, if_pos (by omega), if_pos (by omega), hr, tok_s, Option.bind_some, List.drop_eq_getElem_cons hlt, List.all_cons, hw]
    show (if okT l[i] = true then _ else _) = _
    cases hok : okT l[i] with
    | false => simp
    | true =>
      have hx := ok_size _ hok
      have hs := showL_len l[i] hx
      have hgo : ∀ a' : List Int, a' = a ++ showL l[i] → spec_ShowTokens.l0 k l a' ((i + 1 : Nat) : Int) = some (if (true && (l.drop (i + 1)).all okT) = true then strOfNums (a ++ (List.map showL (l[i] :: l.drop (i + 1))).flatten) else (⟨#[]⟩ : ByteArray)) := by
        intro a' ea
        subst ea
        rw [ih k (i + 1) _ (by omega) (by omega) (by omega) (by rw [List.length_append]; omega), List.map_cons, List.flatten_cons, List.append_assoc, Bool.true_and]
      rw [if_pos rfl]
      generalize l[i] = t at hx hs hgo hok
      by_cases h0 : t.f0 = 0
      · rw [if_pos h0, if_pos (by omega), Option.bind_some, if_pos (by rw [List.length_append, List.length_singleton]; omega), Option.bind_some]
        have hw2 : wrap64 ((t.f2.size : Int) - 1) = (t.f2.size : Int) - 1 := wrap_in _ (by omega) (by omega)
        by_cases hp : (t.f2.size : Int) > 0
        · have hlb : lastB t.f2 = letB (bt t.f2 ((t.f2.size : Int) - 1)) := by unfold lastB; rw [decide_eq_true (by omega)]; rfl
          rw [if_pos hp, hw2, if_pos (by omega), if_pos (by omega), let_s, Option.bind_some]
          cases hb : letB (bt t.f2 ((t.f2.size : Int) - 1)) with
          | true =>
            rw [if_pos rfl, if_pos (by simp only [List.length_append, List.length_singleton, bytesOf_length]; omega)]
            refine hgo _ ?_
            unfold showL
            rw [if_pos h0, hlb, hb, if_pos rfl]
            simp
          | false =>
            rw [if_neg (by decide)]
            refine hgo _ ?_
            unfold showL
            rw [if_pos h0, hlb, hb, if_neg (by decide)]
            simp
        · have hlb : lastB t.f2 = false := by unfold lastB; rw [decide_eq_false (by omega)]; rfl
          rw [if_neg hp]
          refine hgo _ ?_
          unfold showL
          rw [if_pos h0, hlb, if_neg (by decide)]
          simp
      · rw [if_neg h0]
        by_cases h16 : t.f0 = 16
        · rw [if_pos h16, Option.bind_some, if_pos (by show a.length + 2 < _; omega)]
          refine hgo _ ?_
          unfold showL
          rw [if_neg h0, if_pos h16]
        · rw [if_neg h16, if_pos (by omega)]
          refine hgo _ ?_
          unfold showL
          rw [if_neg h0, if_neg h16]
theorem show_both (l : List S80) (hl : l.length ≤ 1048576) : ∃ r, ∀ k, l.length < k → spec_ShowTokens.f k l = some r ∧ impl_ShowTokens.f k l = some r := by
  by_cases hb : (l.length : Int) > 20000
  · refine ⟨(⟨#[]⟩ : ByteArray), fun k hk => ⟨?_, ?_⟩⟩
    · unfold spec_ShowTokens.f
      rw [if_pos hb]
    · unfold impl_ShowTokens.f impl_tokensOk.f
      rw [if_pos hb, Option.bind_some, if_neg (by decide)]
  · have hs := fun k (hk : l.length < k) => show_s l (by omega) l.length k 0 [] (by omega) (by omega) hk (by show 0 + _ ≤ _; omega)
    have hi := fun k (hk : l.length < k) => oks_i l hl l.length k 0 (by omega) (by omega) hk
    rw [List.drop_zero] at hs hi
    simp only [List.nil_append] at hs
    cases hok : l.all okT with
    | true =>
      refine ⟨strOfNums (l.map showL).flatten, fun k hk => ⟨?_, ?_⟩⟩
      · unfold spec_ShowTokens.f
        have h := hs k hk
        rw [hok, if_pos rfl] at h
        rw [if_neg hb]
        exact h
      · have h := hi k hk
        rw [hok] at h
        have hn : ∀ x ∈ l, x.f2.size ≤ 40 := fun x hx => ok_size x (List.all_eq_true.1 hok x hx)
        unfold impl_ShowTokens.f impl_tokensOk.f
        rw [if_neg hb]
        refine (congrArg (fun z => Option.bind z _) h).trans ?_
        rw [Option.bind_some, if_pos rfl, showAll_f l hl hn k hk, Option.bind_some]
    | false =>
      refine ⟨(⟨#[]⟩ : ByteArray), fun k hk => ⟨?_, ?_⟩⟩
      · unfold spec_ShowTokens.f
        have h := hs k hk
        rw [hok, if_neg (by decide)] at h
        rw [if_neg hb]
        exact h
      · have h := hi k hk
        rw [hok] at h
        unfold impl_ShowTokens.f impl_tokensOk.f
        rw [if_neg hb]
        refine (congrArg (fun z => Option.bind z _) h).trans ?_
        rw [Option.bind_some, if_neg (by decide)]

theorem FnExactShowTokens : laws_FnExactShowTokens.Pure := by
  intro l hl hx
  obtain ⟨r, hr, hcase⟩ := szTokenS_f l 1048576 (by omega) (by omega) hl (fun x h => (hx x h).2.2)
  by_cases hneg : r < 0
  · refine ⟨l.length + 1048579, ?_⟩
    unfold laws_FnExactShowTokens.f
    rw [hr _ (by omega), Option.bind_some, if_pos hneg]
  · have hle : l.length ≤ 1048576 := by omega
    obtain ⟨s, hs⟩ := show_both (l.map cvToken) (by rw [List.length_map]; omega)
    refine ⟨l.length + 1048580, ?_⟩
    have hto := toTokenS_f l hle (l.length + 1048580) (by omega)
    have he := eqTokenS_f (l.map cvToken) (by rw [List.length_map]; omega) (l.length + 1048580) (by rw [List.length_map]; omega)
    have hb := hs (l.length + 1048580) (by rw [List.length_map]; omega)
    unfold laws_FnExactShowTokens.f
    rw [hr _ (by omega), Option.bind_some, if_neg hneg, hto, Option.bind_some, hb.1, Option.bind_some, Option.bind_some, hb.2, Option.bind_some, if_pos rfl, Option.bind_some, he, Option.bind_some, if_pos rfl]

end Go.Proofs.Ytabamachefgilaa.Pure
