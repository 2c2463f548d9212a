/- The pure statement of FnExactFillBody: both sides fill a body alike. No condition. -/
import Derived.Test.YtgfifmbbjoocgaaPFnExactFillBodyx10
import Derived.Test.YtgfifmbbjoocgaaKitVFb
namespace Go.Proofs.Ytgfifmbbjoocgaa.Pure
open Go.RowKit Go.Proofs.Ytgfifmbbjoocgaa.PFnExactFillBody Go.Proofs.Ytgfifmbbjoocgaa.Kit Go.Proofs.YtgfifmbbjoocgaaW.PrintWords Go.Proofs.YtgfifmbbjoocgaaW.PrintLast Go.Proofs.YtgfifmbbjoocgaaW.PrintMore
set_option linter.unusedVariables false
set_option linter.unusedSimpArgs false
set_option linter.unusedSectionVars false

def cvToken (x : S34) : S42 := ⟨x.f0, x.f1, x.f2⟩
theorem rdToken_a (l : List S34) (i : Nat) (h : i < l.length) : rd_T34 l (i : Int) = l[i] := by simp [rd_T34, h]
theorem toTokenS_l0 (l : List S34) (hl : l.length ≤ 1048576) : ∀ d k i : Nat, l.length - i = d → i ≤ l.length → d < k →
    laws_toTokenS.l0 k l ((List.range i).map (fun j : Nat => cvToken (rd_T34 l (j : Int))) ++ List.replicate (l.length - i) z42) i = some (l.map cvToken) := by
  intro d
  induction d with
  | zero =>
    intro k i hd hi hk
    obtain ⟨k, rfl⟩ : ∃ m, k = m + 1 := ⟨k - 1, by omega⟩
    obtain rfl : i = l.length := by omega
    rw [laws_toTokenS.l0, if_neg (by omega), Nat.sub_self, map_get l cvToken (fun j : Nat => cvToken (rd_T34 l (j : Int))) (fun j hj => by rw [rdToken_a l j hj])]
    simp
  | succ d ih =>
    intro k i hd hi hk
    obtain ⟨k, rfl⟩ : ∃ m, k = m + 1 := ⟨k - 1, by omega⟩
    rw [laws_toTokenS.l0, if_pos (by omega), if_pos (by omega)]
    simp only [laws_toToken.f, Option.bind_some]
    rw [if_pos (by simp; omega), wrap_succ i (by omega), Int.toNat_natCast]
    have := set_step (fun j : Nat => cvToken (rd_T34 l (j : Int))) z42 l.length i (by omega)
    rw [show (⟨(rd_T34 l (i : Int)).f0, (rd_T34 l (i : Int)).f1, (rd_T34 l (i : Int)).f2⟩ : S42) = cvToken (rd_T34 l (i : Int)) from rfl, this]
    exact ih k (i + 1) (by omega) (by omega) (by omega)
theorem toTokenS_f (l : List S34) (hl : l.length ≤ 1048576) (k : Nat) (hk : l.length < k) : laws_toTokenS.f k l = some (l.map cvToken) := by
  unfold laws_toTokenS.f
  rw [if_pos (by omega), if_pos (by simp; omega), Int.toNat_natCast]
  exact toTokenS_l0 l hl l.length k 0 (by omega) (by omega) hk
theorem rdToken_b (l : List S42) (i : Nat) (h : i < l.length) : rd_T42 l (i : Int) = l[i] := by simp [rd_T42, h]
theorem szToken_f (c x : Int) (s : ByteArray) (left : Int) (h0 : 0 ≤ left) (h1 : left ≤ 1048576) (hs : s.size ≤ 9223372036854775807) : ∃ r, laws_szToken.f c x s left = some r ∧ (r < 0 ∨ (0 ≤ r ∧ r ≤ left ∧ (s.size : Int) ≤ left)) := by
  unfold laws_szToken.f
  rw [wrap_in (left - (s.size : Int)) (by omega) (by omega)]
  split
  · exact ⟨-1, rfl, .inl (by omega)⟩
  · exact ⟨_, rfl, .inr (by omega)⟩
theorem szTokenS_l0 (l : List S34) (hl : l.length ≤ 1048576) (hm : ∀ x ∈ l, x.f2.size ≤ 9223372036854775807) : ∀ d i : Nat, ∀ left : Int, l.length - i = d → i ≤ l.length → 0 ≤ left → left ≤ 1048576 →
    ∃ r, (∀ k, d < k → laws_szTokenS.l0 k l left i = some r) ∧ (r < 0 ∨ (0 ≤ r ∧ r ≤ left ∧ ∀ j (h : j < l.length), i ≤ j → l[j].f2.size ≤ 1048576)) := by
  intro d
  induction d with
  | zero =>
    intro i left hd hi h0 h1
    refine ⟨left, fun k hk => ?_, .inr ⟨h0, by omega, fun j h hij => by omega⟩⟩
    obtain ⟨k, rfl⟩ : ∃ m, k = m + 1 := ⟨k - 1, by omega⟩
    rw [laws_szTokenS.l0, if_neg (by omega)]
  | succ d ih =>
    intro i left hd hi h0 h1
    have hlt : i < l.length := by omega
    obtain ⟨r, hr, hc⟩ := szToken_f l[i].f0 l[i].f1 l[i].f2 left h0 h1 (hm _ (List.getElem_mem hlt))
    rcases hc with hc | ⟨c0, c1, c2⟩
    · refine ⟨-1, fun k hk => ?_, .inl (by omega)⟩
      obtain ⟨k, rfl⟩ : ∃ m, k = m + 1 := ⟨k - 1, by omega⟩
      rw [laws_szTokenS.l0, if_pos (by omega), if_pos (by omega), rdToken_a l i hlt, hr]
      simp only [Option.bind_some]
      rw [if_pos hc]
    · obtain ⟨r2, h2, h3⟩ := ih (i + 1) r (by omega) (by omega) c0 (by omega)
      refine ⟨r2, fun k hk => ?_, ?_⟩
      · obtain ⟨k, rfl⟩ : ∃ m, k = m + 1 := ⟨k - 1, by omega⟩
        rw [laws_szTokenS.l0, if_pos (by omega), if_pos (by omega), rdToken_a l i hlt, hr]
        simp only [Option.bind_some]
        rw [if_neg (by omega), wrap_succ i (by omega)]
        exact h2 k (by omega)
      · rcases h3 with h3 | ⟨h3, h5, h4⟩
        · exact .inl h3
        · refine .inr ⟨h3, by omega, fun j hj hij => ?_⟩
          rcases Nat.lt_or_ge i j with h | h
          · exact h4 j hj (by omega)
          · obtain rfl : i = j := by omega
            omega
theorem szTokenS_f (l : List S34) (left : Int) (h0 : 0 ≤ left) (h1 : left ≤ 1048576) (hl : l.length ≤ 9223372036854775807) (hm : ∀ x ∈ l, x.f2.size ≤ 9223372036854775807) :
    ∃ r, (∀ k, 1048577 < k → laws_szTokenS.f k l left = some r) ∧ (r < 0 ∨ (0 ≤ r ∧ r ≤ left ∧ l.length ≤ 1048576 ∧ ∀ x ∈ l, x.f2.size ≤ 1048576)) := by
  unfold laws_szTokenS.f
  rw [wrap_in (left - (l.length : Int)) (by omega) (by omega)]
  split
  · exact ⟨-1, fun _ _ => rfl, .inl (by omega)⟩
  · obtain ⟨r, hr, hc⟩ := szTokenS_l0 l (by omega) hm l.length 0 (left - (l.length : Int)) (by omega) (by omega) (by omega) (by omega)
    refine ⟨r, fun k hk => hr k (by omega), ?_⟩
    rcases hc with hc | ⟨hc, hd, hj⟩
    · exact .inl hc
    · refine .inr ⟨hc, by omega, by omega, fun x hx => ?_⟩
      obtain ⟨j, hjl, rfl⟩ := List.mem_iff_getElem.1 hx
      exact hj j hjl (by omega)
theorem eqTokenS_l0 (l : List S42) (hl : l.length ≤ 9223372036854775806) : ∀ d k i : Nat, l.length - i = d → i ≤ l.length → d < k → laws_eqTokenS.l0 k l l i = some true := by
  intro d
  induction d with
  | zero =>
    intro k i hd hi hk
    obtain ⟨k, rfl⟩ : ∃ m, k = m + 1 := ⟨k - 1, by omega⟩
    rw [laws_eqTokenS.l0, if_neg (by omega)]
  | succ d ih =>
    intro k i hd hi hk
    obtain ⟨k, rfl⟩ : ∃ m, k = m + 1 := ⟨k - 1, by omega⟩
    rw [laws_eqTokenS.l0, if_pos (by omega), if_pos (by omega), if_pos (by omega)]
    simp only [laws_eqToken.f, if_true, Option.bind_some]
    rw [wrap_succ i (by omega)]
    exact ih k (i + 1) (by omega) (by omega) (by omega)
theorem eqTokenS_f (l : List S42) (hl : l.length ≤ 9223372036854775806) (k : Nat) (hk : l.length < k) : laws_eqTokenS.f k l l = some true := by
  unfold laws_eqTokenS.f
  rw [if_pos rfl]
  exact eqTokenS_l0 l hl l.length k 0 (by omega) (by omega) hk
theorem str_size (xs : List Int) : (strOfNums xs).size = xs.length := by
  simp [strOfNums, ByteArray.size]
theorem markText_l0 : ∀ d : Nat, ∀ (x : Int) (s : ByteArray), 0 ≤ x → x ≤ 4611686018427387904 → x < (10 : Int) ^ d → s.size + d ≤ 1000 → ∃ t, ∀ k, d < k → laws_markText.l0 k x s = some t := by
  intro d
  induction d with
  | zero =>
    intro x s h0 hm h1 hs
    have hx : x = 0 := by simp at h1; omega
    subst hx
    refine ⟨(⟨#[109]⟩ : ByteArray) ++ s, fun k hk => ?_⟩
    obtain ⟨k, rfl⟩ : ∃ m, k = m + 1 := ⟨k - 1, by omega⟩
    rw [laws_markText.l0, if_neg (by omega), if_pos (by omega)]
  | succ d ih =>
    intro x s h0 hm h1 hs
    by_cases hx : x > 0
    · have h2 : x < 10 * (10 : Int) ^ d := by rw [Int.pow_succ] at h1; omega
      have h3 : Int.tdiv x 10 = x / 10 := Int.tdiv_eq_ediv_of_nonneg h0
      obtain ⟨t, ht⟩ := ih (wrap64 (Int.tdiv x 10)) ((strOfNums [(wrap64 (48 + (Int.tmod x 10))) % 256]) ++ s) (by rw [h3]; unfold wrap64; omega) (by rw [h3]; unfold wrap64; omega) (by rw [h3]; unfold wrap64; omega) (by rw [ByteArray.size_append, str_size]; simp; omega)
      refine ⟨t, fun k hk => ?_⟩
      obtain ⟨k, rfl⟩ : ∃ m, k = m + 1 := ⟨k - 1, by omega⟩
      rw [laws_markText.l0, if_pos hx]
      simp only [Option.bind_some]
      rw [if_pos (by rw [str_size]; simp; omega)]
      exact ht k (by omega)
    · refine ⟨(⟨#[109]⟩ : ByteArray) ++ s, fun k hk => ?_⟩
      obtain ⟨k, rfl⟩ : ∃ m, k = m + 1 := ⟨k - 1, by omega⟩
      rw [laws_markText.l0, if_neg hx, if_pos (by omega)]
theorem markText_ex (q : Int) (h : q ≤ 4611686018427387904) : ∃ t, ∀ k, 30 < k → laws_markText.f k q = some t := by
  unfold laws_markText.f
  by_cases h0 : q ≤ 0
  · exact ⟨_, fun k _ => by rw [if_pos h0]⟩
  · obtain ⟨t, ht⟩ := markText_l0 30 q (⟨#[]⟩ : ByteArray) (by omega) h (by rw [show (10 : Int) ^ 30 = 1000000000000000000000000000000 from by decide]; omega) (by simp [ByteArray.size])
    exact ⟨t, fun k hk => by rw [if_neg h0]; exact ht k hk⟩
open Classical in
noncomputable def mtx (q : Int) : ByteArray := if h : q ≤ 4611686018427387904 then Classical.choose (markText_ex q h) else (⟨#[]⟩ : ByteArray)
theorem mtx_f (q : Int) (h : q ≤ 4611686018427387904) (k : Nat) (hk : 30 < k) : laws_markText.f k q = some (mtx q) := by
  unfold mtx
  rw [dif_pos h]
  exact Classical.choose_spec (markText_ex q h) k hk
noncomputable def MToken (q : Int) : S42 := ⟨q, q + 1, mtx (q + 2)⟩
theorem rdsetToken_eq (x : List S42) (i : Nat) (v : S42) (h : i < x.length) : rd_T42 (x.set i v) (i : Int) = v := by simp [rd_T42, h]
theorem rdsetToken_ne (x : List S42) (i j : Nat) (v : S42) (h : i ≠ j) : rd_T42 (x.set i v) (j : Int) = rd_T42 x (j : Int) := by simp [rd_T42, List.getElem?_set_ne h]
theorem markTokenS_l0 (q0 : Int) (n : Nat) (h0 : 0 ≤ q0) (hq : q0 + 3 * n ≤ 4611686018427387000) : ∀ d k i : Nat, ∀ x : List S42, n - i = d → i ≤ n → x.length = n → d + 31 < k → (∀ j : Nat, j < i → rd_T42 x (j : Int) = MToken (q0 + 3 * j)) →
    ∃ l', laws_markTokenS.l0 k x (q0 + 3 * i) i = some (q0 + 3 * n, l') ∧ l'.length = n ∧ ∀ j : Nat, j < n → rd_T42 l' (j : Int) = MToken (q0 + 3 * j) := by
  intro d
  induction d with
  | zero =>
    intro k i x hd hi hx hk hj
    obtain ⟨k, rfl⟩ : ∃ m, k = m + 1 := ⟨k - 1, by omega⟩
    obtain rfl : i = n := by omega
    exact ⟨x, by rw [laws_markTokenS.l0, if_neg (by omega)], hx, hj⟩
  | succ d ih =>
    intro k i x hd hi hx hk hj
    obtain ⟨k, rfl⟩ : ∃ m, k = m + 1 := ⟨k - 1, by omega⟩
    have hlt : i < x.length := by omega
    have w1 : wrap64 (q0 + 3 * (i : Int) + 1) = q0 + 3 * (i : Int) + 1 := by unfold wrap64; omega
    have w2 : wrap64 (q0 + 3 * (i : Int) + 1 + 1) = q0 + 3 * (i : Int) + 2 := by unfold wrap64; omega
    have w3 : wrap64 (q0 + 3 * (i : Int) + 2 + 1) = q0 + 3 * ((i + 1 : Nat) : Int) := by unfold wrap64; omega
    rw [laws_markTokenS.l0, if_pos (by omega), if_pos (by omega)]
    simp only [Option.bind_some, Int.toNat_natCast, List.set_set, List.length_set, rdsetToken_eq x i _ hlt]
    simp only [w1, w2]
    rw [mtx_f _ (by omega) k (by omega)]
    simp only [Option.bind_some, w3]
    rw [wrap_succ i (by omega)]
    refine ih k (i + 1) _ (by omega) (by omega) (by simpa using hx) (by omega) (fun j hlj => ?_)
    rcases Nat.lt_or_ge j i with h | h
    · rw [← hj j h, rdsetToken_ne x i j _ (by omega)]
    · obtain rfl : j = i := by omega
      rw [rdsetToken_eq x j _ hlt]
      rfl
theorem heldTokenS_l0 (q0 : Int) (l : List S42) (h0 : 0 ≤ q0) (hq : q0 + 3 * l.length ≤ 4611686018427387000) (hj : ∀ j : Nat, j < l.length → rd_T42 l (j : Int) = MToken (q0 + 3 * j)) : ∀ d k i : Nat, l.length - i = d → i ≤ l.length → d + 31 < k →
    laws_heldTokenS.l0 k l (q0 + 3 * i) i = some (q0 + 3 * l.length) := by
  intro d
  induction d with
  | zero =>
    intro k i hd hi hk
    obtain ⟨k, rfl⟩ : ∃ m, k = m + 1 := ⟨k - 1, by omega⟩
    obtain rfl : i = l.length := by omega
    rw [laws_heldTokenS.l0, if_neg (by omega)]
  | succ d ih =>
    intro k i hd hi hk
    obtain ⟨k, rfl⟩ : ∃ m, k = m + 1 := ⟨k - 1, by omega⟩
    have w1 : wrap64 (q0 + 3 * (i : Int) + 1) = q0 + 3 * (i : Int) + 1 := by unfold wrap64; omega
    have w2 : wrap64 (q0 + 3 * (i : Int) + 1 + 1) = q0 + 3 * (i : Int) + 2 := by unfold wrap64; omega
    have w3 : wrap64 (q0 + 3 * (i : Int) + 2 + 1) = q0 + 3 * ((i + 1 : Nat) : Int) := by unfold wrap64; omega
    rw [laws_heldTokenS.l0, if_pos (by omega), if_pos (by omega), hj i (by omega)]
    simp only [MToken, w1, w2, if_true]
    rw [mtx_f _ (by omega) k (by omega)]
    simp only [Option.bind_some, if_true, w3]
    rw [wrap_succ i (by omega)]
    exact ih k (i + 1) (by omega) (by omega) (by omega)
theorem markTokenS_f (l : List S42) (q0 : Int) (h0 : 0 ≤ q0) (hq : q0 + 3 * l.length ≤ 4611686018427387000) :
    ∃ l', (∀ k, l.length + 31 < k → laws_markTokenS.f k l q0 = some (q0 + 3 * l.length, l')) ∧ ∀ k, l.length + 31 < k → laws_heldTokenS.f k l' q0 = some (q0 + 3 * l.length) := by
  obtain ⟨l', h1, h2, h3⟩ := markTokenS_l0 q0 l.length h0 hq l.length (l.length + 32) 0 l (by omega) (by omega) rfl (by omega) (fun j h => by omega)
  refine ⟨l', fun k hk => ?_, fun k hk => ?_⟩
  · obtain ⟨l2, g1, g2, g3⟩ := markTokenS_l0 q0 l.length h0 hq l.length k 0 l (by omega) (by omega) rfl hk (fun j h => by omega)
    have e : l2 = l' := by
      apply List.ext_getElem (by omega)
      intro j a b
      have e1 := g3 j (by omega)
      have e2 := h3 j (by omega)
      rw [rdToken_b l2 j (by omega)] at e1
      rw [rdToken_b l' j (by omega)] at e2
      rw [e1, e2]
    subst e
    unfold laws_markTokenS.f
    simpa using g1
  · have := heldTokenS_l0 q0 l' h0 (by rw [h2]; exact hq) (fun j h => h3 j (by omega)) l'.length k 0 (by omega) (by omega) (by omega)
    unfold laws_heldTokenS.f
    rw [h2] at this
    simpa using this
theorem markTokenS_len : ∀ (k : Nat) (l : List S42) (q i r : Int) (l' : List S42), laws_markTokenS.l0 k l q i = some (r, l') → l'.length = l.length := by
  intro k
  induction k with
  | zero => intro l q i r l' h; simp [laws_markTokenS.l0] at h
  | succ k ih =>
    intro l q i r l' h
    rw [laws_markTokenS.l0] at h
    by_cases h1 : i < (l.length : Int)
    · rw [if_pos h1] at h
      by_cases h2 : 0 ≤ i
      · rw [if_pos h2, Option.bind_some, Option.bind_some] at h
        obtain ⟨t, _, h⟩ := Option.bind_eq_some_iff.mp h
        have := ih _ _ _ _ _ h
        simpa using this
      · rw [if_neg h2] at h; cases h
    · rw [if_neg h1] at h
      injection h with h
      injection h with _ h
      rw [h]
theorem rdTokenL_a (l : List (List S34)) (i : Nat) (h : i < l.length) : rd_L5 l (i : Int) = l[i] := by simp [rd_L5, h]
theorem rdTokenL_b (l : List (List S42)) (i : Nat) (h : i < l.length) : rd_L6 l (i : Int) = l[i] := by simp [rd_L6, h]
theorem toTokenSS_l0 (l : List (List S34)) (hl : l.length ≤ 1048576) (hm : ∀ x ∈ l, x.length ≤ 1048576) : ∀ d k i : Nat, l.length - i = d → i ≤ l.length → d + 1048577 < k →
    laws_toTokenSS.l0 k l ((List.range i).map (fun j : Nat => (rd_L5 l (j : Int)).map cvToken) ++ List.replicate (l.length - i) []) i = some (l.map (fun x => x.map cvToken)) := by
  intro d
  induction d with
  | zero =>
    intro k i hd hi hk
    obtain ⟨k, rfl⟩ : ∃ m, k = m + 1 := ⟨k - 1, by omega⟩
    obtain rfl : i = l.length := by omega
    rw [laws_toTokenSS.l0, if_neg (by omega), Nat.sub_self, map_get l (fun x => x.map cvToken) (fun j : Nat => (rd_L5 l (j : Int)).map cvToken) (fun j hj => by rw [rdTokenL_a l j hj])]
    simp
  | succ d ih =>
    intro k i hd hi hk
    obtain ⟨k, rfl⟩ : ∃ m, k = m + 1 := ⟨k - 1, by omega⟩
    have hlt : i < l.length := by omega
    have hx := hm _ (List.getElem_mem hlt)
    rw [laws_toTokenSS.l0, if_pos (by omega), if_pos (by omega), toTokenS_f (rd_L5 l (i : Int)) (by rw [rdTokenL_a l i hlt]; exact hx) k (by rw [rdTokenL_a l i hlt]; omega)]
    simp only [Option.bind_some]
    rw [if_pos (by simp; omega), wrap_succ i (by omega), Int.toNat_natCast]
    have := set_step (fun j : Nat => (rd_L5 l (j : Int)).map cvToken) ([] : List S42) l.length i (by omega)
    rw [this]
    exact ih k (i + 1) (by omega) (by omega) (by omega)
theorem toTokenSS_f (l : List (List S34)) (hl : l.length ≤ 1048576) (hm : ∀ x ∈ l, x.length ≤ 1048576) (k : Nat) (hk : l.length + 1048577 < k) : laws_toTokenSS.f k l = some (l.map (fun x => x.map cvToken)) := by
  unfold laws_toTokenSS.f
  rw [if_pos (by omega), if_pos (by simp; omega), Int.toNat_natCast]
  exact toTokenSS_l0 l hl hm l.length k 0 (by omega) (by omega) hk
theorem eqTokenSS_l0 (l : List (List S42)) (hl : l.length ≤ 9223372036854775806) (hm : ∀ x ∈ l, x.length ≤ 1048576) : ∀ d k i : Nat, l.length - i = d → i ≤ l.length → d + 1048577 < k → laws_eqTokenSS.l0 k l l i = some true := by
  intro d
  induction d with
  | zero =>
    intro k i hd hi hk
    obtain ⟨k, rfl⟩ : ∃ m, k = m + 1 := ⟨k - 1, by omega⟩
    rw [laws_eqTokenSS.l0, if_neg (by omega)]
  | succ d ih =>
    intro k i hd hi hk
    obtain ⟨k, rfl⟩ : ∃ m, k = m + 1 := ⟨k - 1, by omega⟩
    have hlt : i < l.length := by omega
    have hx := hm _ (List.getElem_mem hlt)
    rw [laws_eqTokenSS.l0, if_pos (by omega), if_pos (by omega), if_pos (by omega), rdTokenL_b l i hlt, eqTokenS_f l[i] (by omega) k (by omega)]
    simp only [if_true, Option.bind_some]
    rw [wrap_succ i (by omega)]
    exact ih k (i + 1) (by omega) (by omega) (by omega)
theorem eqTokenSS_f (l : List (List S42)) (hl : l.length ≤ 9223372036854775806) (hm : ∀ x ∈ l, x.length ≤ 1048576) (k : Nat) (hk : l.length + 1048577 < k) : laws_eqTokenSS.f k l l = some true := by
  unfold laws_eqTokenSS.f
  rw [if_pos rfl]
  exact eqTokenSS_l0 l hl hm l.length k 0 (by omega) (by omega) hk
theorem szTokenSS_l0 (l : List (List S34)) (hl : l.length ≤ 1048576) (hm : ∀ x ∈ l, x.length ≤ 9223372036854775807 ∧ ∀ y ∈ x, y.f2.size ≤ 9223372036854775807) : ∀ d i : Nat, ∀ left : Int, l.length - i = d → i ≤ l.length → 0 ≤ left → left ≤ 1048576 →
    ∃ r, (∀ k, d + 1048578 < k → laws_szTokenSS.l0 k l left i = some r) ∧ (r < 0 ∨ (0 ≤ r ∧ ∀ j (h : j < l.length), i ≤ j → l[j].length ≤ 1048576)) := by
  intro d
  induction d with
  | zero =>
    intro i left hd hi h0 h1
    refine ⟨left, fun k hk => ?_, .inr ⟨h0, fun j h hj => by omega⟩⟩
    obtain ⟨k, rfl⟩ : ∃ m, k = m + 1 := ⟨k - 1, by omega⟩
    rw [laws_szTokenSS.l0, if_neg (by omega)]
  | succ d ih =>
    intro i left hd hi h0 h1
    have hlt : i < l.length := by omega
    have hx := hm l[i] (List.getElem_mem hlt)
    obtain ⟨r, hr, hc⟩ := szTokenS_f l[i] left h0 h1 hx.1 hx.2
    have hrd := rdTokenL_a l i hlt
    rcases hc with hc | ⟨c0, c1, c2, c3⟩
    · refine ⟨-1, fun k hk => ?_, .inl (by omega)⟩
      obtain ⟨k, rfl⟩ : ∃ m, k = m + 1 := ⟨k - 1, by omega⟩
      rw [laws_szTokenSS.l0, if_pos (by omega), if_pos (by omega), hrd, hr k (by omega), Option.bind_some, if_pos hc]
    · obtain ⟨r', hr', hc'⟩ := ih (i + 1) r (by omega) (by omega) c0 (by omega)
      refine ⟨r', fun k hk => ?_, ?_⟩
      · obtain ⟨k, rfl⟩ : ∃ m, k = m + 1 := ⟨k - 1, by omega⟩
        rw [laws_szTokenSS.l0, if_pos (by omega), if_pos (by omega), hrd, hr k (by omega), Option.bind_some, if_neg (by omega), wrap_succ i (by omega), hr' k (by omega)]
      · rcases hc' with h | ⟨h, h'⟩
        · exact .inl h
        · refine .inr ⟨h, fun j hj hij => ?_⟩
          rcases Nat.lt_or_ge i j with q | q
          · exact h' j hj (by omega)
          · obtain rfl : i = j := by omega
            omega
theorem szTokenSS_f (l : List (List S34)) (hl : l.length ≤ 9223372036854775807) (hm : ∀ x ∈ l, x.length ≤ 9223372036854775807 ∧ ∀ y ∈ x, y.f2.size ≤ 9223372036854775807) (left : Int) (h0 : 0 ≤ left) (h1 : left ≤ 1048576) :
    ∃ r, (∀ k, 3000000 < k → laws_szTokenSS.f k l left = some r) ∧ (r < 0 ∨ (0 ≤ r ∧ l.length ≤ 1048576 ∧ ∀ x ∈ l, x.length ≤ 1048576)) := by
  unfold laws_szTokenSS.f
  rw [wrap_in (left - (l.length : Int)) (by omega) (by omega)]
  by_cases hneg : left - (l.length : Int) < 0
  · simp only [if_pos hneg]
    exact ⟨-1, fun _ _ => rfl, .inl (by omega)⟩
  · simp only [if_neg hneg]
    obtain ⟨r, hr, hc⟩ := szTokenSS_l0 l (by omega) hm l.length 0 (left - (l.length : Int)) (by omega) (by omega) (by omega) (by omega)
    refine ⟨r, fun k hk => hr k (by omega), ?_⟩
    rcases hc with hc | ⟨c0, c1⟩
    · exact .inl hc
    · refine .inr ⟨c0, by omega, fun x hx => ?_⟩
      obtain ⟨j, hj, rfl⟩ := List.getElem_of_mem hx
      exact c1 j hj (by omega)
theorem markTokenSS_f : ∀ d : Nat, ∀ (l : List (List S42)) (k i : Nat) (q : Int), l.length - i = d → i ≤ l.length → l.length ≤ 1048576 → (∀ x ∈ l, x.length ≤ 1048576) → 0 ≤ q → q ≤ 4398046511104 + 3145728 * i → d + 1048609 < k → ∃ r, laws_markTokenSS.l0 k l q i = some r ∧ 0 ≤ r := by
  intro d
  induction d with
  | zero =>
    intro l k i q hd hi hl hm h0 h1 hk
    obtain ⟨k, rfl⟩ : ∃ m, k = m + 1 := ⟨k - 1, by omega⟩
    exact ⟨q, by rw [laws_markTokenSS.l0, if_neg (by omega)], h0⟩
  | succ d ih =>
    intro l k i q hd hi hl hm h0 h1 hk
    obtain ⟨k, rfl⟩ : ∃ m, k = m + 1 := ⟨k - 1, by omega⟩
    have hlt : i < l.length := by omega
    have hx := hm l[i] (List.getElem_mem hlt)
    obtain ⟨l', hmk, _⟩ := markTokenS_f l[i] q h0 (by omega)
    have hlen := markTokenS_len _ _ _ _ _ _ (hmk k (by omega))
    obtain ⟨r, hr, hr0⟩ := ih (l.set i l') k (i + 1) (q + 3 * (l[i].length : Int)) (by rw [List.length_set]; omega) (by rw [List.length_set]; omega) (by rw [List.length_set]; omega) (by
      intro x hx'
      rcases List.mem_or_eq_of_mem_set hx' with h | h
      · exact hm x h
      · rw [h, hlen]; exact hx) (by omega) (by omega) (by omega)
    refine ⟨r, ?_, hr0⟩
    rw [laws_markTokenSS.l0, if_pos (by omega), if_pos (by omega), Int.toNat_natCast]
    rw [show l.getD i [] = l[i] by simp [hlt], hmk k (by omega), Option.bind_some, wrap_succ i (by omega)]
    exact hr
theorem token_same (c x : Int) (n : ByteArray) : ∃ b, spec_TokenOk.f c x n = some b ∧ impl_TokenOk.f c x n = some b := by
  unfold spec_TokenOk.f impl_TokenOk.f impl_isName.f impl_isChar.f impl_isSlot.f
  by_cases hc : c = 0
  · subst hc
    by_cases hx : x = 0
    · subst hx
      by_cases hn : (n.size : Int) ≤ 40
      · exact ⟨true, by simp [hn], by simp [hn]⟩
      · exact ⟨false, by simp [hn], by simp [hn]⟩
    · refine ⟨false, by simp [hx], ?_⟩
      by_cases hn : (n.size : Int) ≤ 40 <;> simp [hn, hx]
  · by_cases hl : n.toList = ([] : List UInt8)
    · by_cases h16 : c = 16
      · subst h16
        by_cases h1 : x ≥ 1
        · exact ⟨decide (x ≤ 9), by simp [hl, h1], by simp [hl, h1]⟩
        · exact ⟨false, by simp [hl, h1], by simp [hl, h1]⟩
      · by_cases h6 : c = 6
        · subst h6
          exact ⟨false, by simp [hl], by simp [hl]⟩
        · by_cases h8 : c = 8
          · subst h8
            exact ⟨false, by simp [hl], by simp [hl]⟩
          · by_cases h9 : c = 9
            · subst h9
              exact ⟨false, by simp [hl], by simp [hl]⟩
            · by_cases h15 : c = 15
              · subst h15
                exact ⟨false, by simp [hl], by simp [hl]⟩
              · by_cases a1 : c < 1
                · have a1' : ¬ c ≥ 1 := by omega
                  exact ⟨false, by simp [hc, hl, h16, h6, h8, h9, h15, a1'], by simp [hc, hl, h16, a1]⟩
                · by_cases a2 : c > 15
                  · have a1' : c ≥ 1 := by omega
                    have a2' : ¬ c < 15 := by omega
                    exact ⟨false, by simp [hc, hl, h16, h6, h8, h9, h15, a1', a2'], by simp [hc, hl, h16, a1, a2]⟩
                  · have a1' : c ≥ 1 := by omega
                    have a2' : c < 15 := by omega
                    by_cases a3 : x < 0
                    · have a3' : ¬ x ≥ 0 := by omega
                      exact ⟨false, by simp [hc, hl, h16, h6, h8, h9, h15, a1', a2', a3'], by simp [hc, hl, h16, a1, a2, a3]⟩
                    · have a3' : x ≥ 0 := by omega
                      by_cases a4 : x > 255
                      · have a4' : ¬ x ≤ 255 := by omega
                        exact ⟨false, by simp [hc, hl, h16, h6, h8, h9, h15, a1', a2', a3', a4'], by simp [hc, hl, h16, a1, a2, a3, a4]⟩
                      · have a4' : x ≤ 255 := by omega
                        exact ⟨true, by simp [hc, hl, h16, h6, h8, h9, h15, a1', a2', a3', a4'], by simp [hc, hl, h16, a1, a2, a3, a4, h6, h8, h9, h15]⟩
    · exact ⟨false, by simp [hc, hl], by simp [hc, hl]⟩
def tokB (c x : Int) (n : ByteArray) : Bool := (spec_TokenOk.f c x n).getD false
theorem tok_s (c x : Int) (n : ByteArray) : spec_TokenOk.f c x n = some (tokB c x n) := by
  obtain ⟨b, h, _⟩ := token_same c x n
  unfold tokB
  rw [h]
  rfl
theorem tok_i (c x : Int) (n : ByteArray) : impl_TokenOk.f c x n = some (tokB c x n) := by
  obtain ⟨b, h, h'⟩ := token_same c x n
  unfold tokB
  rw [h, h']
  rfl
theorem char_i (c x : Int) (n : ByteArray) : impl_isChar.f c x n = some (tokB c x n && !decide (c = 0) && !decide (c = 16)) := by
  by_cases hc : c = 0
  · subst hc
    unfold impl_isChar.f
    by_cases hl : n.toList = ([] : List UInt8) <;> simp [hl]
  · by_cases h16 : c = 16
    · subst h16
      unfold impl_isChar.f
      by_cases hl : n.toList = ([] : List UInt8) <;> simp [hl]
    · have e := tok_i c x n
      unfold impl_TokenOk.f at e
      have e1 : impl_isName.f c x n = some false := by unfold impl_isName.f; rw [if_neg hc]
      have e2 : impl_isSlot.f c x n = some false := by unfold impl_isSlot.f; rw [if_neg h16]
      rw [e1, e2] at e
      simp only [Option.bind_some] at e
      rw [if_neg (by simp)] at e
      have hd : ∃ b, impl_isChar.f c x n = some b := by
        unfold impl_isChar.f
        repeat' split
        all_goals exact ⟨_, rfl⟩
      obtain ⟨b, hb⟩ := hd
      rw [hb] at e ⊢
      simp only [Option.bind_some] at e
      cases b
      · rw [if_neg (by simp)] at e
        have := Option.some.inj e
        simp [← this]
      · rw [if_pos rfl] at e
        have := Option.some.inj e
        simp [← this, hc, h16]
def okT (t : S42) : Bool := tokB t.f0 t.f1 t.f2
def slotB (m : Int) (t : S42) : Bool := !(decide (t.f0 = 16) && decide (t.f1 > m))
def balR : List S42 → Int → Bool
  | [], n => n == 0
  | t :: ts, n => if t.f0 = 1 then balR ts (n + 1) else if t.f0 = 2 then (if n - 1 < 0 then false else balR ts (n - 1)) else balR ts n
def patN : List S42 → Int → Option Int
  | [], n => some n
  | t :: ts, n => if t.f0 = 16 then (if t.f1 = n + 1 then patN ts (n + 1) else none) else if t.f0 = 1 then none else if t.f0 = 2 then none else if t.f0 = 7 then none else patN ts n
theorem toks_s (l : List S42) (m : Int) (hl : l.length ≤ 1048576) : ∀ d k i : Nat, ∀ n : Int, l.length - i = d → i ≤ l.length → 3 * d < k → 0 ≤ n → n + d ≤ 2000000 → spec_l3Toks.l0 k l m n i = some ((l.drop i).all (fun t => okT t && slotB m t) && balR (l.drop i) n) := by
  intro d
  induction d with
  | zero =>
    intro k i n hd hi hk h0 h1
    obtain ⟨k, rfl⟩ : ∃ m, k = m + 1 := ⟨k - 1, by omega⟩
    rw [spec_l3Toks.l0, if_neg (by omega), List.drop_of_length_le (by omega)]
    simp [balR]
  | succ d ih =>
    intro k i n hd hi hk h0 h1
    obtain ⟨k, rfl⟩ : ∃ m, k = m + 3 := ⟨k - 3, by omega⟩
    have hlt : i < l.length := by omega
    have hj2 : ∀ n' : Int, 0 ≤ n' → n' ≤ n + 1 → spec_l3Toks.l0 k l m n' ((i + 1 : Nat) : Int) = some ((l.drop (i + 1)).all (fun t => okT t && slotB m t) && balR (l.drop (i + 1)) n') := fun n' a b => ih k (i + 1) n' (by omega) (by omega) (by omega) a (by omega)
    have j2 : ∀ n' : Int, 0 ≤ n' → n' ≤ n + 1 → spec_l3Toks.j2 (k + 1) l m n' i = some ((l.drop (i + 1)).all (fun t => okT t && slotB m t) && (if l[i].f0 = 2 then (if n' - 1 < 0 then false else balR (l.drop (i + 1)) (n' - 1)) else balR (l.drop (i + 1)) n')) := by
      intro n' a b
      rw [spec_l3Toks.j2, if_pos (by omega), if_pos (by omega), rdToken_b l i hlt, wrap_succ i (by omega), wrap_in (n' - 1) (by omega) (by omega)]
      by_cases h2 : l[i].f0 = 2
      · rw [if_pos h2, if_pos h2]
        by_cases h3 : n' - 1 < 0
        · rw [if_pos h3, if_pos h3]; simp
        · rw [if_neg h3, if_neg h3, hj2 _ (by omega) (by omega)]
      · rw [if_neg h2, if_neg h2, if_neg (by omega), hj2 _ a b]
    have j1 : ∀ b : Bool, spec_l3Toks.j1 (k + 2) l m n i b = some (!b && ((l.drop (i + 1)).all (fun t => okT t && slotB m t) && balR (l.drop i) n)) := by
      intro b
      rw [List.drop_eq_getElem_cons hlt, balR, spec_l3Toks.j1]
      cases b
      · rw [if_neg (by simp), if_pos (by omega), if_pos (by omega), rdToken_b l i hlt, wrap_in (n + 1) (by omega) (by omega)]
        by_cases h1 : l[i].f0 = 1
        · rw [if_pos h1, if_pos h1, j2 _ (by omega) (by omega), if_neg (by omega)]
          simp
        · rw [if_neg h1, if_neg h1, j2 _ (by omega) (by omega)]
          simp
      · rw [if_pos rfl]
        simp
    rw [show k + 3 = (k + 2) + 1 from rfl, spec_l3Toks.l0, if_pos (by omega), if_pos (by omega), tok_s, rdToken_b l i hlt]
    simp only [Option.bind_some, j1]
    have e : (l.drop i).all (fun t => okT t && slotB m t) = ((okT l[i] && slotB m l[i]) && (l.drop (i + 1)).all (fun t => okT t && slotB m t)) := by rw [List.drop_eq_getElem_cons hlt, List.all_cons]
    rw [e]
    simp only [okT, slotB]
    cases tokB l[i].f0 l[i].f1 l[i].f2
    · simp
    · by_cases h16 : l[i].f0 = 16
      · by_cases hm : l[i].f1 > m
        · simp [h16, hm]
        · simp [h16, hm]
      · simp [h16]
theorem toks_i (l : List S42) (hl : l.length ≤ 1048576) : ∀ d k i : Nat, l.length - i = d → i ≤ l.length → d < k → impl_tokensOk.l0 k l (l.length : Int) i = some ((l.drop i).all okT) := by
  intro d
  induction d with
  | zero =>
    intro k i hd hi hk
    obtain ⟨k, rfl⟩ : ∃ m, k = m + 1 := ⟨k - 1, by omega⟩
    rw [impl_tokensOk.l0, if_neg (by omega), List.drop_of_length_le (by omega)]
    simp
  | succ d ih =>
    intro k i hd hi hk
    obtain ⟨k, rfl⟩ : ∃ m, k = m + 1 := ⟨k - 1, by omega⟩
    have hlt : i < l.length := by omega
    rw [impl_tokensOk.l0, if_pos (by omega), if_pos (by omega), if_pos (by omega), tok_i, wrap_succ i (by omega), ih k (i + 1) (by omega) (by omega) (by omega), List.drop_eq_getElem_cons hlt, List.all_cons, rdToken_b l i hlt]
    simp only [Option.bind_some, okT]
    cases tokB l[i].f0 l[i].f1 l[i].f2 <;> simp
theorem tokensOk_f (l : List S42) (hl : l.length ≤ 1048576) (m : Int) (k : Nat) (hk : l.length < k) : impl_tokensOk.f k l m = some (!decide ((l.length : Int) > m) && l.all okT) := by
  unfold impl_tokensOk.f
  by_cases h : (l.length : Int) > m
  · rw [if_pos h]; simp [h]
  · rw [if_neg h]
    have := toks_i l hl l.length k 0 (by omega) (by omega) hk
    rw [show ((0 : Nat) : Int) = 0 from rfl, List.drop_zero] at this
    rw [this]
    simp [h]
theorem bal_i (l : List S42) (hl : l.length ≤ 1048576) : ∀ d k i : Nat, ∀ n : Int, l.length - i = d → i ≤ l.length → d < k → 0 ≤ n → n + d ≤ 2000000 → impl_balanced.l0 k n l (l.length : Int) i = some (balR (l.drop i) n) := by
  intro d
  induction d with
  | zero =>
    intro k i n hd hi hk h0 h1
    obtain ⟨k, rfl⟩ : ∃ m, k = m + 1 := ⟨k - 1, by omega⟩
    rw [impl_balanced.l0, if_neg (by omega), List.drop_of_length_le (by omega)]
    rfl
  | succ d ih =>
    intro k i n hd hi hk h0 h1
    obtain ⟨k, rfl⟩ : ∃ m, k = m + 1 := ⟨k - 1, by omega⟩
    have hlt : i < l.length := by omega
    rw [impl_balanced.l0, if_pos (by omega), if_pos (by omega), if_pos (by omega), wrap_succ i (by omega), wrap_in (n + 1) (by omega) (by omega), wrap_in (n - 1) (by omega) (by omega), List.drop_eq_getElem_cons hlt, balR, rdToken_b l i hlt]
    by_cases c1 : l[i].f0 = 1
    · rw [if_pos c1, if_pos c1, if_neg (by omega), ih k (i + 1) _ (by omega) (by omega) (by omega) (by omega) (by omega)]
    · rw [if_neg c1, if_neg c1]
      by_cases c2 : l[i].f0 = 2
      · rw [if_pos c2, if_pos c2]
        by_cases h3 : n - 1 < 0
        · rw [if_pos h3, if_pos h3]
        · rw [if_neg h3, if_neg h3, ih k (i + 1) _ (by omega) (by omega) (by omega) (by omega) (by omega)]
      · rw [if_neg c2, if_neg c2, if_neg (by omega), ih k (i + 1) _ (by omega) (by omega) (by omega) (by omega) (by omega)]
theorem balanced_f (l : List S42) (hl : l.length ≤ 1048576) (k : Nat) (hk : l.length < k) : impl_balanced.f k l = some (balR l 0) := by
  unfold impl_balanced.f
  simpa using bal_i l hl l.length k 0 0 (by omega) (by omega) hk (by omega) (by omega)
def macB (p : List S42) (m : Int) (b : List S42) : Bool :=
  decide (0 ≤ m ∧ m ≤ 9) && !decide ((p.length : Int) > 100) && p.all okT && !decide ((b.length : Int) > 2000) && b.all okT && balR b 0 && b.all (slotB m) && (patN p 0 == some m)
theorem mac_i1 (b p q : List S42) (hl : b.length ≤ 1048576) (m n : Int) (hm : 0 ≤ m) (hm9 : m ≤ 9) : ∀ d k i : Nat, b.length - i = d → i ≤ b.length → d < k → impl_macroOk.l1 k n b (b.length : Int) i p m q = some ((b.drop i).all (slotB m) && (n == m + 1)) := by
  intro d
  induction d with
  | zero =>
    intro k i hd hi hk
    obtain ⟨k, rfl⟩ : ∃ m, k = m + 1 := ⟨k - 1, by omega⟩
    rw [impl_macroOk.l1, if_neg (by omega), List.drop_of_length_le (by omega), wrap_in (m + 1) (by omega) (by omega)]
    simp
  | succ d ih =>
    intro k i hd hi hk
    obtain ⟨k, rfl⟩ : ∃ m, k = m + 1 := ⟨k - 1, by omega⟩
    have hlt : i < b.length := by omega
    rw [impl_macroOk.l1, if_pos (by omega), if_pos (by omega), if_pos (by omega), wrap_succ i (by omega), ih k (i + 1) (by omega) (by omega) (by omega), List.drop_eq_getElem_cons hlt, List.all_cons, rdToken_b b i hlt]
    by_cases h16 : b[i].f0 = 16
    · by_cases hs : b[i].f1 > m
      · simp [slotB, h16, hs]
      · simp [slotB, h16, hs]
    · simp [slotB, h16]
theorem mac_i0 (b p q : List S42) (hl : b.length ≤ 2000) (hp : p.length ≤ 100) (m : Int) (hm : 0 ≤ m) (hm9 : m ≤ 9) : ∀ d k i : Nat, ∀ n : Int, p.length - i = d → i ≤ p.length → d + 2002 < k → 0 ≤ n → n + d ≤ 1000 →
    impl_macroOk.l0 k (n + 1) p (p.length : Int) i q m b = some (b.all (slotB m) && (patN (p.drop i) n == some m)) := by
  intro d
  induction d with
  | zero =>
    intro k i n hd hi hk h0 h1
    obtain ⟨k, rfl⟩ : ∃ m, k = m + 1 := ⟨k - 1, by omega⟩
    have := mac_i1 b q b (by omega) m (n + 1) hm hm9 b.length k 0 (by omega) (by omega) (by omega)
    rw [show ((0 : Nat) : Int) = 0 from rfl, List.drop_zero] at this
    rw [impl_macroOk.l0, if_neg (by omega), this, List.drop_of_length_le (by omega), patN]
    have e : (n + 1 == m + 1) = (some n == some m) := by
      rw [Bool.eq_iff_iff]
      simp
    rw [e]
  | succ d ih =>
    intro k i n hd hi hk h0 h1
    obtain ⟨k, rfl⟩ : ∃ m, k = m + 1 := ⟨k - 1, by omega⟩
    have hlt : i < p.length := by omega
    rw [impl_macroOk.l0, if_pos (by omega), if_pos (by omega), if_pos (by omega), wrap_succ i (by omega), wrap_in (n + 1 + 1) (by omega) (by omega), List.drop_eq_getElem_cons hlt, patN, rdToken_b p i hlt]
    by_cases h16 : p[i].f0 = 16
    · rw [if_pos h16, if_pos h16]
      by_cases hs : p[i].f1 = n + 1
      · rw [if_pos hs, if_pos hs, ih k (i + 1) (n + 1) (by omega) (by omega) (by omega) (by omega) (by omega)]
      · rw [if_neg hs, if_neg hs]
        simp
    · rw [if_neg h16, if_neg h16]
      by_cases c1 : p[i].f0 = 1
      · rw [if_pos c1, if_pos c1]; simp
      · rw [if_neg c1, if_neg c1]
        by_cases c2 : p[i].f0 = 2
        · rw [if_pos c2, if_pos c2]; simp
        · rw [if_neg c2, if_neg c2]
          by_cases c7 : p[i].f0 = 7
          · rw [if_pos c7, if_pos c7]; simp
          · rw [if_neg c7, if_neg c7, ih k (i + 1) n (by omega) (by omega) (by omega) (by omega) (by omega)]
theorem macro_i (p : List S42) (m : Int) (b : List S42) (hp : p.length ≤ 1048576) (hb : b.length ≤ 1048576) (k : Nat) (hk : 1100000 < k) : impl_macroOk.f k p m b = some (macB p m b) := by
  have no : ∀ k, 0 < k → impl_macroOk.j0 k true p m b = some false := by
    intro k hk
    obtain ⟨k, rfl⟩ : ∃ m, k = m + 1 := ⟨k - 1, by omega⟩
    rw [impl_macroOk.j0, if_pos rfl]
  unfold impl_macroOk.f macB
  by_cases h0 : m < 0
  · rw [if_pos h0, no k (by omega), show decide (0 ≤ m ∧ m ≤ 9) = false from decide_eq_false (by omega)]
    simp
  rw [if_neg h0]
  by_cases h9 : m > 9
  · rw [if_pos h9, no k (by omega), show decide (0 ≤ m ∧ m ≤ 9) = false from decide_eq_false (by omega)]
    simp
  rw [if_neg h9, show decide (0 ≤ m ∧ m ≤ 9) = true from decide_eq_true (by omega), tokensOk_f p hp 100 k (by omega)]
  simp only [Option.bind_some, Bool.true_and]
  cases e1 : (!decide ((p.length : Int) > 100) && p.all okT)
  · rw [if_neg (by simp), no k (by omega)]
    simp
  · rw [if_pos rfl, tokensOk_f b hb 2000 k (by omega)]
    simp only [Option.bind_some, Bool.true_and]
    cases e2 : (!decide ((b.length : Int) > 2000) && b.all okT)
    · rw [if_neg (by simp), no k (by omega)]
      simp
    · rw [if_pos rfl, balanced_f b hb k (by omega)]
      simp only [Option.bind_some, Bool.true_and]
      cases e3 : balR b 0
      · rw [show (!false) = true from rfl, no k (by omega)]
        simp
      · have hpl : p.length ≤ 100 := by
          simp only [Bool.and_eq_true, Bool.not_eq_true', decide_eq_false_iff_not] at e1
          omega
        have hbl : b.length ≤ 2000 := by
          simp only [Bool.and_eq_true, Bool.not_eq_true', decide_eq_false_iff_not] at e2
          omega
        obtain ⟨k, rfl⟩ : ∃ m, k = m + 1 := ⟨k - 1, by omega⟩
        rw [impl_macroOk.j0, if_neg (by simp)]
        have := mac_i0 b p p hbl hpl m (by omega) (by omega) p.length k 0 0 (by omega) (by omega) (by omega) (by omega) (by omega)
        rw [show ((0 : Nat) : Int) = 0 from rfl, List.drop_zero, show (0 : Int) + 1 = 1 from rfl] at this
        rw [this]
        simp
theorem mac_s0 (b p : List S42) (hb : b.length ≤ 1048576) (hp : p.length ≤ 100) (m : Int) (hm : 0 ≤ m) (hm9 : m ≤ 9) (B : Bool) (hB : ∀ k, 3200000 < k → spec_l3Toks.f k b 2000 m = some B) : ∀ d k i : Nat, ∀ n : Int, p.length - i = d → i ≤ p.length → 2 * d + 3200002 < k → 0 ≤ n → n + d ≤ 1000 →
    spec_l3MacroOk.l0 k n i p m b = some ((p.drop i).all okT && (patN (p.drop i) n == some m) && B) := by
  intro d
  induction d with
  | zero =>
    intro k i n hd hi hk h0 h1
    obtain ⟨k, rfl⟩ : ∃ m, k = m + 1 := ⟨k - 1, by omega⟩
    rw [spec_l3MacroOk.l0, if_neg (by omega), List.drop_of_length_le (by omega), patN, hB k (by omega)]
    simp only [Option.bind_some]
    by_cases h : n = m
    · rw [if_pos h]; simp [h]
    · rw [if_neg h]; simp [h]
  | succ d ih =>
    intro k i n hd hi hk h0 h1
    obtain ⟨k, rfl⟩ : ∃ m, k = m + 2 := ⟨k - 2, by omega⟩
    have hlt : i < p.length := by omega
    have j2t : ∀ (a c : Int) (e : ByteArray), spec_l3MacroOk.j2 (k + 1) n i true p m b a c e = some false := by
      intro a c e
      rw [spec_l3MacroOk.j2, if_pos rfl]
    have e0 : (p.drop i).all okT = (okT p[i] && (p.drop (i + 1)).all okT) := by rw [List.drop_eq_getElem_cons hlt, List.all_cons]
    have e1 : patN (p.drop i) n = (if p[i].f0 = 16 then (if p[i].f1 = n + 1 then patN (p.drop (i + 1)) (n + 1) else none) else if p[i].f0 = 1 then none else if p[i].f0 = 2 then none else if p[i].f0 = 7 then none else patN (p.drop (i + 1)) n) := by rw [List.drop_eq_getElem_cons hlt, patN]
    rw [show k + 2 = (k + 1) + 1 from rfl, spec_l3MacroOk.l0, if_pos (by omega), if_pos (by omega), tok_s, rdToken_b p i hlt, e0, e1]
    simp only [Option.bind_some, okT, j2t]
    cases ht : tokB p[i].f0 p[i].f1 p[i].f2
    · rw [if_neg (by simp)]; simp
    · rw [if_pos rfl]
      by_cases c1 : p[i].f0 = 1
      · rw [if_pos c1, if_neg (by omega), if_pos c1]; simp
      · rw [if_neg c1]
        by_cases c2 : p[i].f0 = 2
        · rw [if_pos c2, if_neg (by omega), if_neg c1, if_pos c2]; simp
        · rw [if_neg c2, spec_l3MacroOk.j2, wrap_succ i (by omega), wrap_in (n + 1) (by omega) (by omega)]
          by_cases c7 : p[i].f0 = 7
          · rw [if_pos (by simp [c7]), if_neg (by omega), if_neg c1, if_neg c2, if_pos c7]; simp
          · rw [if_neg (by simp [c7])]
            by_cases h16 : p[i].f0 = 16
            · rw [if_pos h16, if_pos h16]
              by_cases hs : p[i].f1 = n + 1
              · rw [if_pos hs, if_pos hs, ih k (i + 1) (n + 1) (by omega) (by omega) (by omega) (by omega) (by omega)]; first | (simp; done) | (simp; rfl)
              · rw [if_neg hs, if_neg hs]; simp
            · rw [if_neg h16, if_neg h16, if_neg c1, if_neg c2, if_neg c7, ih k (i + 1) n (by omega) (by omega) (by omega) (by omega) (by omega)]; first | (simp; done) | (simp; rfl)
theorem toks_sf (b : List S42) (hb : b.length ≤ 1048576) (m : Int) (k : Nat) (hk : 3200000 < k) : spec_l3Toks.f k b 2000 m = some (!decide ((b.length : Int) > 2000) && (b.all (fun t => okT t && slotB m t) && balR b 0)) := by
  unfold spec_l3Toks.f
  by_cases h : (b.length : Int) > 2000
  · rw [if_pos h]; simp [h]
  · rw [if_neg h]
    have := toks_s b m hb b.length k 0 0 (by omega) (by omega) (by omega) (by omega) (by omega)
    rw [show ((0 : Nat) : Int) = 0 from rfl, List.drop_zero] at this
    rw [this]
    simp [h]
theorem all_two (b : List S42) (m : Int) : b.all (fun t => okT t && slotB m t) = (b.all okT && b.all (slotB m)) := by
  induction b with
  | nil => rfl
  | cons t ts ih =>
    simp only [List.all_cons, ih]
    cases okT t <;> cases slotB m t <;> cases ts.all okT <;> simp
theorem macro_s (p : List S42) (m : Int) (b : List S42) (hp : p.length ≤ 1048576) (hb : b.length ≤ 1048576) (k : Nat) (hk : 3300000 < k) : spec_l3MacroOk.f k p m b = some (macB p m b) := by
  have no : ∀ k, 0 < k → spec_l3MacroOk.j0 k true p m b = some false := by
    intro k hk
    obtain ⟨k, rfl⟩ : ∃ m, k = m + 1 := ⟨k - 1, by omega⟩
    rw [spec_l3MacroOk.j0, if_pos rfl]
  unfold spec_l3MacroOk.f macB
  by_cases h0 : m < 0
  · rw [if_pos h0, no k (by omega), show decide (0 ≤ m ∧ m ≤ 9) = false from decide_eq_false (by omega)]
    simp
  rw [if_neg h0]
  by_cases h9 : m > 9
  · rw [if_pos h9, no k (by omega), show decide (0 ≤ m ∧ m ≤ 9) = false from decide_eq_false (by omega)]
    simp
  rw [if_neg h9, show decide (0 ≤ m ∧ m ≤ 9) = true from decide_eq_true (by omega)]
  by_cases hl : (p.length : Int) > 100
  · rw [show decide ((p.length : Int) > 100) = true from decide_eq_true hl, no k (by omega)]
    simp
  · rw [show decide ((p.length : Int) > 100) = false from decide_eq_false hl]
    obtain ⟨k, rfl⟩ : ∃ m, k = m + 1 := ⟨k - 1, by omega⟩
    rw [spec_l3MacroOk.j0, if_neg (by simp)]
    have := mac_s0 b p hb (by omega) m (by omega) (by omega) _ (fun k hk => toks_sf b hb m k hk) p.length k 0 0 (by omega) (by omega) (by omega) (by omega) (by omega)
    rw [show ((0 : Nat) : Int) = 0 from rfl, List.drop_zero] at this
    rw [this, all_two]
    cases p.all okT <;> cases decide ((b.length : Int) > 2000) <;> cases b.all okT <;> cases b.all (slotB m) <;> cases balR b 0 <;> cases (patN p 0 == some m) <;> rfl

/-! ### the body, filled -/
def fillR (args : List (List S42)) : List S42 → List S42 → List S42 × Bool
  | [], out => (out, true)
  | t :: b, out =>
    let o2 := if t.f0 = 16 then out ++ rd_L6 args (t.f1 - 1) else out ++ [t]
    if (o2.length : Int) > 20000 then ([], false) else fillR args b o2
theorem eta42 (t : S42) : (⟨t.f0, t.f1, t.f2⟩ : S42) = t := rfl
section
variable (b p : List S42) (m : Int) (args : List (List S42)) (hb : b.length ≤ 2000) (ha : args.length ≤ 1048576) (hal : ∀ x ∈ args, x.length ≤ 1048576) (hs : ∀ t ∈ b, t.f0 = 16 → 1 ≤ t.f1 ∧ t.f1 ≤ args.length)
include hb ha hal hs
theorem fill_s : ∀ d k i : Nat, ∀ out : List S42, b.length - i = d → i ≤ b.length → d < k → out.length ≤ 20000 → spec_l4Fill.l0 k args out i p m b = some (fillR args (b.drop i) out) := by
  intro d
  induction d with
  | zero =>
    intro k i out hd hi hk ho
    obtain ⟨k, rfl⟩ : ∃ q, k = q + 1 := ⟨k - 1, by omega⟩
    rw [spec_l4Fill.l0, if_neg (by omega), List.drop_of_length_le (by omega)]
    rfl
  | succ d ih =>
    intro k i out hd hi hk ho
    obtain ⟨k, rfl⟩ : ∃ q, k = q + 1 := ⟨k - 1, by omega⟩
    have hlt : i < b.length := by omega
    have hr : rd_T42 b (i : Int) = b[i] := by simp [rd_T42, hlt]
    have hw : wrap64 ((i : Int) + 1) = ((i + 1 : Nat) : Int) := wrap_succ i (by omega)
    have ht := hs b[i] (List.getElem_mem hlt)
    rw [spec_l4Fill.l0, if_pos (by omega), if_pos (by omega), hr, hw, List.drop_eq_getElem_cons hlt]
    generalize b[i] = t at ht
    rw [fillR]
    by_cases h16 : t.f0 = 16
    · have hq := ht h16
      have hw1 : wrap64 (t.f1 - 1) = t.f1 - 1 := wrap_in _ (by omega) (by omega)
      have hlen : (rd_L6 args (t.f1 - 1)).length ≤ 1048576 := by
        have hj : (t.f1 - 1).toNat < args.length := by omega
        have : rd_L6 args (t.f1 - 1) = args[(t.f1 - 1).toNat] := by unfold rd_L6; rw [List.getD_eq_getElem?_getD, List.getElem?_eq_getElem hj]; rfl
        rw [this]
        exact hal _ (List.getElem_mem hj)
      simp only [if_pos h16, hw1]
      rw [if_pos (by omega), if_pos (by omega), if_pos (by omega), Option.bind_some]
      by_cases hg : ((out ++ rd_L6 args (t.f1 - 1)).length : Int) > 20000
      · rw [if_pos hg, if_pos hg]
      · rw [if_neg hg, if_neg hg]
        exact ih k (i + 1) _ (by omega) (by omega) (by omega) (by omega)
    · simp only [if_neg h16, eta42]
      rw [if_pos (by omega), Option.bind_some]
      by_cases hg : ((out ++ [t]).length : Int) > 20000
      · rw [if_pos hg, if_pos hg]
      · rw [if_neg hg, if_neg hg]
        exact ih k (i + 1) _ (by omega) (by omega) (by omega) (by omega)
theorem fill_i : ∀ d k i : Nat, ∀ out : List S42, b.length - i = d → i ≤ b.length → d < k → out.length ≤ 20000 → impl_fillBody.l0 k args out b (b.length : Int) i = some (fillR args (b.drop i) out) := by
  intro d
  induction d with
  | zero =>
    intro k i out hd hi hk ho
    obtain ⟨k, rfl⟩ : ∃ q, k = q + 1 := ⟨k - 1, by omega⟩
    rw [impl_fillBody.l0, if_neg (by omega), List.drop_of_length_le (by omega)]
    rfl
  | succ d ih =>
    intro k i out hd hi hk ho
    obtain ⟨k, rfl⟩ : ∃ q, k = q + 1 := ⟨k - 1, by omega⟩
    have hlt : i < b.length := by omega
    have hr : rd_T42 b (i : Int) = b[i] := by simp [rd_T42, hlt]
    have hw : wrap64 ((i : Int) + 1) = ((i + 1 : Nat) : Int) := wrap_succ i (by omega)
    have ht := hs b[i] (List.getElem_mem hlt)
    rw [impl_fillBody.l0, if_pos (by omega), if_pos (by omega), if_pos (by omega), hr, hw, List.drop_eq_getElem_cons hlt]
    generalize b[i] = t at ht
    rw [fillR]
    by_cases h16 : t.f0 = 16
    · have hq := ht h16
      have hw1 : wrap64 (t.f1 - 1) = t.f1 - 1 := wrap_in _ (by omega) (by omega)
      have hlen : (rd_L6 args (t.f1 - 1)).length ≤ 1048576 := by
        have hj : (t.f1 - 1).toNat < args.length := by omega
        have : rd_L6 args (t.f1 - 1) = args[(t.f1 - 1).toNat] := by unfold rd_L6; rw [List.getD_eq_getElem?_getD, List.getElem?_eq_getElem hj]; rfl
        rw [this]
        exact hal _ (List.getElem_mem hj)
      simp only [if_pos h16, hw1]
      rw [if_pos (by omega), if_pos (by omega), if_pos (by omega), Option.bind_some]
      by_cases hg : ((out ++ rd_L6 args (t.f1 - 1)).length : Int) > 20000
      · rw [if_pos hg, if_pos hg]
      · rw [if_neg hg, if_neg hg]
        exact ih k (i + 1) _ (by omega) (by omega) (by omega) (by omega)
    · simp only [if_neg h16, eta42]
      rw [if_pos (by omega), Option.bind_some]
      by_cases hg : ((out ++ [t]).length : Int) > 20000
      · rw [if_pos hg, if_pos hg]
      · rw [if_neg hg, if_neg hg]
        exact ih k (i + 1) _ (by omega) (by omega) (by omega) (by omega)
end
theorem fillR_len (args : List (List S42)) : ∀ (b out : List S42), out.length ≤ 20000 → (fillR args b out).1.length ≤ 20000 := by
  intro b
  induction b with
  | nil => intro out h; exact h
  | cons t b ih =>
    intro out h
    have key : ∀ o2 : List S42, (if (o2.length : Int) > 20000 then (([], false) : List S42 × Bool) else fillR args b o2).1.length ≤ 20000 := by
      intro o2
      split
      · simp
      · exact ih _ (by omega)
    exact key _
/-! ### the arguments asked -/
def argB (t : S42) : Bool := okT t && !decide (t.f0 = 16)
section
variable (p b : List S42) (m : Int) (args : List (List S42)) (ha : args.length ≤ 1048576) (hal : ∀ x ∈ args, x.length ≤ 1048576) (R : List S42 × Bool) (hR : ∀ k, 5000 < k → spec_l4Fill.f k p m b args = some R ∧ impl_fillBody.f k p m b args = some R)
include ha hal hR
theorem args_s : ∀ e i : Nat, args.length - i = e → i ≤ args.length → ∀ k, 1048580 * e + 6000 < k → spec_FillBody.l0 k args i p m b = some (if (args.drop i).all (fun x => x.all argB) = true then R else ([], false)) := by
  intro e
  induction e with
  | zero =>
    intro i he hi k hk
    obtain ⟨k, rfl⟩ : ∃ q, k = q + 1 := ⟨k - 1, by omega⟩
    rw [spec_FillBody.l0, if_neg (by omega), List.drop_of_length_le (by omega), (hR k (by omega)).1, Option.bind_some]
    rfl
  | succ e ihe =>
    intro i he hi k hk
    have hlt : i < args.length := by omega
    have hx := hal args[i] (List.getElem_mem hlt)
    have hrd := rdTokenL_b args i hlt
    rw [List.drop_eq_getElem_cons hlt, List.all_cons]
    have inner : ∀ d j : Nat, args[i].length - j = d → j ≤ args[i].length → ∀ k, d + 1 + 1048580 * e + 6000 < k → spec_FillBody.l1 k args i j p m b = some (if ((args[i].drop j).all argB && (args.drop (i + 1)).all (fun x => x.all argB)) = true then R else ([], false)) := by
      intro d
      induction d with
      | zero =>
        intro j hd hj k hk
        obtain ⟨k, rfl⟩ : ∃ q, k = q + 1 := ⟨k - 1, by omega⟩
        rw [spec_FillBody.l1, if_pos (by omega), if_pos (by omega), hrd, if_neg (by omega), wrap_succ i (by omega), ihe (i + 1) (by omega) (by omega) k (by omega), List.drop_of_length_le (show args[i].length ≤ j by omega)]
        rfl
      | succ d ihd =>
        intro j hd hj k hk
        obtain ⟨k, rfl⟩ : ∃ q, k = q + 1 := ⟨k - 1, by omega⟩
        have hjl : j < args[i].length := by omega
        have hr : rd_T42 args[i] (j : Int) = args[i][j] := by simp [rd_T42, hjl]
        rw [spec_FillBody.l1, if_pos (by omega), if_pos (by omega), hrd, if_pos (by omega), if_pos (by omega), hr, tok_s, Option.bind_some, wrap_succ j (by omega), ihd (j + 1) (by omega) (by omega) k (by omega), List.drop_eq_getElem_cons hjl, List.all_cons]
        show (if okT args[i][j] = true then _ else _) = _
        unfold argB
        cases okT args[i][j] with
        | false => simp
        | true =>
          rw [if_pos rfl]
          by_cases h16 : args[i][j].f0 = 16
          · rw [if_pos h16]
            simp [h16]
          · rw [if_neg h16]
            simp [h16]
    obtain ⟨k, rfl⟩ : ∃ q, k = q + 1 := ⟨k - 1, by omega⟩
    rw [spec_FillBody.l0, if_pos (by omega)]
    have := inner args[i].length 0 (by omega) (by omega) k (by omega)
    rw [List.drop_zero] at this
    exact this
theorem args_i : ∀ e i : Nat, args.length - i = e → i ≤ args.length → ∀ k, 1048580 * e + 6000 < k → impl_FillBody.l0 k args args (args.length : Int) i p m b = some (if (args.drop i).all (fun x => x.all argB) = true then R else ([], false)) := by
  intro e
  induction e with
  | zero =>
    intro i he hi k hk
    obtain ⟨k, rfl⟩ : ∃ q, k = q + 1 := ⟨k - 1, by omega⟩
    rw [impl_FillBody.l0, if_neg (by omega), List.drop_of_length_le (by omega), (hR k (by omega)).2, Option.bind_some]
    rfl
  | succ e ihe =>
    intro i he hi k hk
    have hlt : i < args.length := by omega
    have hx := hal args[i] (List.getElem_mem hlt)
    have hrd := rdTokenL_b args i hlt
    rw [List.drop_eq_getElem_cons hlt, List.all_cons]
    have inner : ∀ d j : Nat, args[i].length - j = d → j ≤ args[i].length → ∀ k, d + 1 + 1048580 * e + 6000 < k → impl_FillBody.l1 k args args (args.length : Int) i args[i] (args[i].length : Int) j p m b = some (if ((args[i].drop j).all argB && (args.drop (i + 1)).all (fun x => x.all argB)) = true then R else ([], false)) := by
      intro d
      induction d with
      | zero =>
        intro j hd hj k hk
        obtain ⟨k, rfl⟩ : ∃ q, k = q + 1 := ⟨k - 1, by omega⟩
        rw [impl_FillBody.l1, if_neg (by omega), wrap_succ i (by omega), ihe (i + 1) (by omega) (by omega) k (by omega), List.drop_of_length_le (show args[i].length ≤ j by omega)]
        rfl
      | succ d ihd =>
        intro j hd hj k hk
        obtain ⟨k, rfl⟩ : ∃ q, k = q + 1 := ⟨k - 1, by omega⟩
        have hjl : j < args[i].length := by omega
        have hr : rd_T42 args[i] (j : Int) = args[i][j] := by simp [rd_T42, hjl]
        rw [impl_FillBody.l1, if_pos (by omega), if_pos (by omega), if_pos (by omega), hr, tok_i, Option.bind_some, wrap_succ j (by omega), ihd (j + 1) (by omega) (by omega) k (by omega), List.drop_eq_getElem_cons hjl, List.all_cons]
        show (if okT args[i][j] = true then _ else _) = _
        unfold argB
        cases okT args[i][j] with
        | false => simp
        | true =>
          rw [if_pos rfl]
          by_cases h16 : args[i][j].f0 = 16
          · rw [if_pos h16]
            simp [h16]
          · rw [if_neg h16]
            simp [h16]
    obtain ⟨k, rfl⟩ : ∃ q, k = q + 1 := ⟨k - 1, by omega⟩
    rw [impl_FillBody.l0, if_pos (by omega), if_pos (by omega), if_pos (by omega), hrd]
    have := inner args[i].length 0 (by omega) (by omega) k (by omega)
    rw [List.drop_zero] at this
    exact this
end
theorem fillBody_both (p : List S42) (m : Int) (b : List S42) (args : List (List S42)) (hp : p.length ≤ 1048576) (hb : b.length ≤ 1048576) (ha : args.length ≤ 1048576) (hal : ∀ x ∈ args, x.length ≤ 1048576) :
    ∃ R : List S42 × Bool, R.1.length ≤ 20000 ∧ ∀ k, 2000000000000 < k → spec_FillBody.f k p m b args = some R ∧ impl_FillBody.f k p m b args = some R := by
  have no : ∀ k, 5 < k → spec_FillBody.j0 k args true p m b = some ([], false) ∧ impl_FillBody.j0 k args true p m b = some ([], false) := by
    intro k hk
    obtain ⟨k, rfl⟩ : ∃ q, k = q + 1 := ⟨k - 1, by omega⟩
    rw [spec_FillBody.j0, impl_FillBody.j0, if_pos rfl, if_pos rfl]
    exact ⟨rfl, rfl⟩
  have hs := fun k (hk : 3300000 < k) => macro_s p m b hp hb k hk
  have hi := fun k (hk : 1100000 < k) => macro_i p m b hp hb k hk
  cases hm : macB p m b with
  | false =>
    refine ⟨([], false), by simp, fun k hk => ?_⟩
    unfold spec_FillBody.f impl_FillBody.f
    rw [hs k (by omega), hi k (by omega), hm, Option.bind_some, Option.bind_some, if_neg (by decide), if_neg (by decide)]
    exact no k (by omega)
  | true =>
    by_cases hl : ((args.length : Int) != m) = true
    · refine ⟨([], false), by simp, fun k hk => ?_⟩
      unfold spec_FillBody.f impl_FillBody.f
      rw [hs k (by omega), hi k (by omega), hm, Option.bind_some, Option.bind_some, if_pos rfl, if_pos rfl, hl]
      exact no k (by omega)
    · have hlen : (args.length : Int) = m := by simpa using hl
      simp only [macB, Bool.and_eq_true, decide_eq_true_eq, Bool.not_eq_true', decide_eq_false_iff_not] at hm
      obtain ⟨⟨⟨⟨⟨⟨⟨m0, m1⟩, m2⟩, m3⟩, m4⟩, m5⟩, m6⟩, m7⟩ := hm
      have hslot : ∀ t ∈ b, t.f0 = 16 → 1 ≤ t.f1 ∧ t.f1 ≤ args.length := by
        intro t ht h16
        have o1 := List.all_eq_true.1 m4 t ht
        have o2 := List.all_eq_true.1 m6 t ht
        refine ⟨?_, ?_⟩
        · unfold okT at o1
          have e := tok_s t.f0 t.f1 t.f2
          rw [o1] at e
          unfold spec_TokenOk.f at e
          rw [if_neg (by omega)] at e
          by_cases hz : t.f2.toList = ([] : List UInt8)
          · rw [if_pos hz, if_pos h16] at e
            by_cases h1 : t.f1 ≥ 1
            · exact h1
            · rw [if_neg h1] at e; cases e
          · rw [if_neg hz] at e; cases e
        · unfold slotB at o2
          simp [h16] at o2
          omega
      have hR : ∀ k, 5000 < k → spec_l4Fill.f k p m b args = some (fillR args b []) ∧ impl_fillBody.f k p m b args = some (fillR args b []) := by
        intro k hk
        have h := fill_s b p m args (by omega) ha hal hslot b.length k 0 [] (by omega) (by omega) (by omega) (by simp)
        have h2 := fill_i b args (by omega) ha hal hslot b.length k 0 [] (by omega) (by omega) (by omega) (by simp)
        rw [List.drop_zero] at h h2
        exact ⟨h, h2⟩
      have a1 := fun k hk => args_s p b m args ha hal _ hR args.length 0 (by omega) (by omega) k hk
      have a2 := fun k hk => args_i p b m args ha hal _ hR args.length 0 (by omega) (by omega) k hk
      rw [List.drop_zero] at a1 a2
      have hmb : macB p m b = true := by simp only [macB, Bool.and_eq_true, decide_eq_true_eq, Bool.not_eq_true', decide_eq_false_iff_not]; exact ⟨⟨⟨⟨⟨⟨⟨m0, m1⟩, m2⟩, m3⟩, m4⟩, m5⟩, m6⟩, m7⟩
      generalize hY : (if args.all (fun x => x.all argB) = true then fillR args b [] else ([], false)) = Y at a1 a2
      have hYl : Y.1.length ≤ 20000 := by
        rw [← hY]
        split
        · exact fillR_len args b [] (by simp)
        · simp
      refine ⟨Y, hYl, fun k hk => ?_⟩
      obtain ⟨k, rfl⟩ : ∃ q, k = q + 1 := ⟨k - 1, by omega⟩
      unfold spec_FillBody.f impl_FillBody.f
      rw [hs (k + 1) (by omega), hi (k + 1) (by omega), hmb, Option.bind_some, Option.bind_some, if_pos rfl, if_pos rfl, Bool.eq_false_iff.mpr hl, spec_FillBody.j0, impl_FillBody.j0, if_neg (by decide), if_neg (by decide)]
      exact ⟨a1 k (by omega), a2 k (by omega)⟩

theorem FnExactFillBody : laws_FnExactFillBody.Pure := by
  intro p m b args hp hwp _ hb hwb hargs hwa
  obtain ⟨r2, hr2, hc2⟩ := szTokenS_f p 1048576 (by omega) (by omega) hp (fun x hx => (hwp x hx).2.2)
  have fin : ∀ k r, laws_szMacro.f k p m b 1048576 = some r → r < 0 → laws_FnExactFillBody.f k p m b args = some true := by
    intro k r h hneg
    unfold laws_FnExactFillBody.f
    rw [h, Option.bind_some, if_pos hneg]
  rcases hc2 with hc2 | ⟨d0, d1, d2, d3⟩
  · refine ⟨2000000, fin _ (-1) ?_ (by omega)⟩
    unfold laws_szMacro.f
    rw [hr2 _ (by omega), Option.bind_some, if_pos hc2]
  obtain ⟨r3, hr3, hc3⟩ := szTokenS_f b r2 d0 (by omega) hb (fun x hx => (hwb x hx).2.2)
  rcases hc3 with hc3 | ⟨e0, e1, e2, e3⟩
  · refine ⟨2000000, fin _ (-1) ?_ (by omega)⟩
    unfold laws_szMacro.f
    rw [hr2 _ (by omega), Option.bind_some, if_neg (by omega), hr3 _ (by omega), Option.bind_some, if_pos hc3]
  have hsz : ∀ k, 1048577 < k → laws_szMacro.f k p m b 1048576 = some r3 := by
    intro k hk
    unfold laws_szMacro.f
    rw [hr2 _ (by omega), Option.bind_some, if_neg (by omega), hr3 _ (by omega), Option.bind_some, if_neg (by omega)]
  obtain ⟨r4, hr4, hc4⟩ := szTokenSS_f args hargs (fun x hx => ⟨(hwa x hx).1, fun y hy => ((hwa x hx).2 y hy).2.2⟩) r3 e0 (by omega)
  rcases hc4 with hc4 | ⟨f0, f1, f2⟩
  · refine ⟨4000000, ?_⟩
    unfold laws_FnExactFillBody.f
    rw [hsz _ (by omega), Option.bind_some, if_neg (by omega), hr4 _ (by omega), Option.bind_some, if_pos hc4]
  have hto : ∀ k, 3000000 < k → laws_toMacro.f k p m b = some (p.map cvToken, m, b.map cvToken) := by
    intro k hk
    unfold laws_toMacro.f
    rw [toTokenS_f p (by omega) k (by omega), Option.bind_some, toTokenS_f b (by omega) k (by omega), Option.bind_some]
  have htoS := fun k (hk : 3000000 < k) => toTokenSS_f args f1 f2 k (by omega)
  generalize hP : p.map cvToken = P at hto
  generalize hB : b.map cvToken = B at hto
  generalize hA : args.map (fun x => x.map cvToken) = A at htoS
  have lP : P.length ≤ 1048576 := by rw [← hP, List.length_map]; omega
  have lB : B.length ≤ 1048576 := by rw [← hB, List.length_map]; omega
  have lA : A.length ≤ 1048576 := by rw [← hA, List.length_map]; omega
  have lAA : ∀ x ∈ A, x.length ≤ 1048576 := by
    intro x hx
    rw [← hA] at hx
    obtain ⟨y, hy, rfl⟩ := List.mem_map.1 hx
    rw [List.length_map]
    exact f2 y hy
  obtain ⟨⟨g, o⟩, hlen, hR⟩ := fillBody_both P m B A lP lB lA lAA
  simp only at hlen
  have he : ∀ k, 3000000 < k → laws_eqTokenS.f k g g = some true := fun k hk => eqTokenS_f g (by omega) k (by omega)
  have heM : ∀ k, 3000000 < k → laws_eqMacro.f k P m B P m B = some true := by
    intro k hk
    unfold laws_eqMacro.f
    rw [eqTokenS_f P (by omega) k (by omega), Option.bind_some, if_pos rfl, if_pos rfl, eqTokenS_f B (by omega) k (by omega), Option.bind_some, if_pos rfl]
  have heS := fun k (hk : 3000000 < k) => eqTokenSS_f A (by omega) lAA k (by omega)
  obtain ⟨P', mp, _⟩ := markTokenS_f P 1 (by omega) (by omega)
  obtain ⟨B', mb, _⟩ := markTokenS_f B (1 + 3 * (P.length : Int)) (by omega) (by omega)
  have hmark : ∀ k, 3000000 < k → laws_markMacro.f k P m B 1 = some (1 + 3 * (P.length : Int) + 3 * (B.length : Int), P', B') := by
    intro k hk
    unfold laws_markMacro.f
    rw [mp k (by omega), Option.bind_some, mb k (by omega), Option.bind_some]
  have hmS : ∀ k, 3000000 < k → ∃ q, laws_markTokenSS.f k A (1 + 3 * (P.length : Int) + 3 * (B.length : Int)) = some q ∧ 0 ≤ q := by
    intro k hk
    exact markTokenSS_f A.length A k 0 _ (by omega) (by omega) lA lAA (by omega) (by omega) (by omega)
  obtain ⟨g', mg, hg⟩ := markTokenS_f g 1 (by omega) (by omega)
  have hne : (o != o) = false := by cases o <;> rfl
  suffices h : ∀ k, 2000000000010 < k → laws_FnExactFillBody.f k p m b args = some true from ⟨_, h 2000000000011 (by omega)⟩
  intro k hk
  obtain ⟨k, rfl⟩ : ∃ q, k = q + 1 := ⟨k - 1, by omega⟩
  obtain ⟨q, hq, hq0⟩ := hmS k (by omega)
  unfold laws_FnExactFillBody.f
  rw [hsz _ (by omega), Option.bind_some, if_neg (by omega), hr4 _ (by omega), Option.bind_some, if_neg (by omega), hto _ (by omega), Option.bind_some, htoS _ (by omega), Option.bind_some, (hR (k + 1) (by omega)).1, Option.bind_some, Option.bind_some, Option.bind_some, (hR (k + 1) (by omega)).2, Option.bind_some]
  simp only
  rw [he _ (by omega), Option.bind_some, if_pos rfl, laws_FnExactFillBody.j0, hne, if_neg (by decide), hto _ (by omega), Option.bind_some, heM _ (by omega), Option.bind_some, if_pos rfl, htoS _ (by omega), Option.bind_some, heS _ (by omega), Option.bind_some, if_pos rfl, hmark _ (by omega), Option.bind_some, hq, Option.bind_some, if_neg (by omega), he _ (by omega), Option.bind_some, if_pos rfl]
  obtain ⟨k, rfl⟩ : ∃ q, k = q + 1 := ⟨k - 1, by omega⟩
  rw [laws_FnExactFillBody.j1, if_neg (by decide), mg k (by omega), Option.bind_some]
  simp only
  rw [hg k (by omega), Option.bind_some, if_neg (by omega), if_pos (by omega), hto _ (by omega), Option.bind_some, htoS _ (by omega), Option.bind_some, (hR k (by omega)).2, Option.bind_some]
  simp only
  rw [he _ (by omega), Option.bind_some, if_pos rfl, hne]
  obtain ⟨k, rfl⟩ : ∃ q, k = q + 1 := ⟨k - 1, by omega⟩
  rw [laws_FnExactFillBody.j2, if_neg (by decide), hg k (by omega), Option.bind_some, if_neg (by omega), if_pos (by omega)]

end Go.Proofs.Ytgfifmbbjoocgaa.Pure
