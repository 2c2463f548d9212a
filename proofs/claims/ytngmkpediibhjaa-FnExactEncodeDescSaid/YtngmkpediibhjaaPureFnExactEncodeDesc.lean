/- The pure statement of FnExactEncodeDesc: both sides write the same bytes. No condition. -/
import Derived.Test.YtngmkpediibhjaaPFnExactEncodeDescx6
import Derived.Test.YtngmkpediibhjaaKit
namespace Go.Proofs.Ytngmkpediibhjaa.Pure
open Go.RowKit Go.Proofs.Ytngmkpediibhjaa.PFnExactEncodeDesc Go.Proofs.Ytngmkpediibhjaa.Kit Go.Proofs.YtngmkpediibhjaaW.PrintWords Go.Proofs.YtngmkpediibhjaaW.PrintLast Go.Proofs.YtngmkpediibhjaaW.PrintMore
set_option linter.unusedVariables false
set_option linter.unusedSimpArgs false
set_option linter.unusedSectionVars false

def cvSpot (x : S111) : S81 := ⟨x.f0, x.f1, x.f2, x.f3, x.f4, x.f5⟩
theorem rdSpot_a (l : List S111) (i : Nat) (h : i < l.length) : rd_T111 l (i : Int) = l[i] := by simp [rd_T111, h]
theorem rdSpot_b (l : List S81) (i : Nat) (h : i < l.length) : rd_T81 l (i : Int) = l[i] := by simp [rd_T81, h]
theorem toSpotS_l0 (l : List S111) (hl : l.length ≤ 1048576) : ∀ d k i : Nat, l.length - i = d → i ≤ l.length → d < k →
    laws_toSpotS.l0 k l ((List.range i).map (fun j : Nat => cvSpot (rd_T111 l (j : Int))) ++ List.replicate (l.length - i) z81) i = some (l.map cvSpot) := by
  intro d
  induction d with
  | zero =>
    intro k i hd hi hk
    obtain ⟨k, rfl⟩ : ∃ m, k = m + 1 := ⟨k - 1, by omega⟩
    obtain rfl : i = l.length := by omega
    rw [laws_toSpotS.l0, if_neg (by omega), Nat.sub_self, map_get l cvSpot (fun j : Nat => cvSpot (rd_T111 l (j : Int))) (fun j hj => by rw [rdSpot_a l j hj])]
    simp
  | succ d ih =>
    intro k i hd hi hk
    obtain ⟨k, rfl⟩ : ∃ m, k = m + 1 := ⟨k - 1, by omega⟩
    rw [laws_toSpotS.l0, if_pos (by omega), if_pos (by omega)]
    simp only [laws_toSpot.f, Option.bind_some]
    rw [if_pos (by simp; omega), wrap_succ i (by omega), Int.toNat_natCast]
    have := set_step (fun j : Nat => cvSpot (rd_T111 l (j : Int))) z81 l.length i (by omega)
    rw [show (⟨(rd_T111 l (i : Int)).f0, (rd_T111 l (i : Int)).f1, (rd_T111 l (i : Int)).f2, (rd_T111 l (i : Int)).f3, (rd_T111 l (i : Int)).f4, (rd_T111 l (i : Int)).f5⟩ : S81) = cvSpot (rd_T111 l (i : Int)) from rfl, this]
    exact ih k (i + 1) (by omega) (by omega) (by omega)
theorem toSpotS_f (l : List S111) (hl : l.length ≤ 1048576) (k : Nat) (hk : l.length < k) : laws_toSpotS.f k l = some (l.map cvSpot) := by
  unfold laws_toSpotS.f
  rw [if_pos (by omega), if_pos (by simp; omega), Int.toNat_natCast]
  exact toSpotS_l0 l hl l.length k 0 (by omega) (by omega) hk
theorem eqSpotS_l0 (l : List S81) (hl : l.length ≤ 9223372036854775806) : ∀ d k i : Nat, l.length - i = d → i ≤ l.length → d < k → laws_eqSpotS.l0 k l l i = some true := by
  intro d
  induction d with
  | zero =>
    intro k i hd hi hk
    obtain ⟨k, rfl⟩ : ∃ m, k = m + 1 := ⟨k - 1, by omega⟩
    rw [laws_eqSpotS.l0, if_neg (by omega)]
  | succ d ih =>
    intro k i hd hi hk
    obtain ⟨k, rfl⟩ : ∃ m, k = m + 1 := ⟨k - 1, by omega⟩
    rw [laws_eqSpotS.l0, if_pos (by omega), if_pos (by omega), if_pos (by omega)]
    simp only [laws_eqSpot.f, if_true, Option.bind_some]
    rw [wrap_succ i (by omega)]
    exact ih k (i + 1) (by omega) (by omega) (by omega)
theorem eqSpotS_f (l : List S81) (hl : l.length ≤ 9223372036854775806) (k : Nat) (hk : l.length < k) : laws_eqSpotS.f k l l = some true := by
  unfold laws_eqSpotS.f
  rw [if_pos rfl]
  exact eqSpotS_l0 l hl l.length k 0 (by omega) (by omega) hk
def MSpot (q : Int) : S81 := ⟨q, q + 1, q + 2, q + 3, q + 4, q + 5⟩
theorem rdsetSpot_eq (x : List S81) (i : Nat) (v : S81) (h : i < x.length) : rd_T81 (x.set i v) (i : Int) = v := by simp [rd_T81, h]
theorem rdsetSpot_ne (x : List S81) (i j : Nat) (v : S81) (h : i ≠ j) : rd_T81 (x.set i v) (j : Int) = rd_T81 x (j : Int) := by simp [rd_T81, List.getElem?_set_ne h]
theorem markSpotS_l0 (q0 : Int) (n : Nat) (h0 : 0 ≤ q0) (hq : q0 + 6 * n ≤ 4611686018427387904) : ∀ d k i : Nat, ∀ x : List S81, n - i = d → i ≤ n → x.length = n → d < k → (∀ j : Nat, j < i → rd_T81 x (j : Int) = (MSpot (q0 + 6 * j))) →
    ∃ l', laws_markSpotS.l0 k x (q0 + 6 * i) i = some (q0 + 6 * n, l') ∧ l'.length = n ∧ ∀ j : Nat, j < n → rd_T81 l' (j : Int) = (MSpot (q0 + 6 * j)) := by
  intro d
  induction d with
  | zero =>
    intro k i x hd hi hx hk hj
    obtain ⟨k, rfl⟩ : ∃ m, k = m + 1 := ⟨k - 1, by omega⟩
    obtain rfl : i = n := by omega
    exact ⟨x, by rw [laws_markSpotS.l0, if_neg (by omega)], hx, hj⟩
  | succ d ih =>
    intro k i x hd hi hx hk hj
    obtain ⟨k, rfl⟩ : ∃ m, k = m + 1 := ⟨k - 1, by omega⟩
    have hlt : i < x.length := by omega
    rw [laws_markSpotS.l0, if_pos (by omega), if_pos (by omega)]
    rw [Option.bind_some]
    simp only [Int.toNat_natCast, List.set_set, List.length_set, rdsetSpot_eq x i _ hlt]
    rw [Option.bind_some]
    simp only [Int.toNat_natCast, List.set_set, List.length_set, rdsetSpot_eq x i _ hlt]
    rw [Option.bind_some]
    simp only [Int.toNat_natCast, List.set_set, List.length_set, rdsetSpot_eq x i _ hlt]
    rw [Option.bind_some]
    simp only [Int.toNat_natCast, List.set_set, List.length_set, rdsetSpot_eq x i _ hlt]
    rw [Option.bind_some]
    simp only [Int.toNat_natCast, List.set_set, List.length_set, rdsetSpot_eq x i _ hlt]
    simp only [show wrap64 (q0 + 6 * (i : Int) + 1) = q0 + 6 * (i : Int) + 1 from by unfold wrap64; omega, show wrap64 (q0 + 6 * (i : Int) + 1 + 1) = q0 + 6 * (i : Int) + 2 from by unfold wrap64; omega, show wrap64 (q0 + 6 * (i : Int) + 2 + 1) = q0 + 6 * (i : Int) + 3 from by unfold wrap64; omega, show wrap64 (q0 + 6 * (i : Int) + 3 + 1) = q0 + 6 * (i : Int) + 4 from by unfold wrap64; omega, show wrap64 (q0 + 6 * (i : Int) + 4 + 1) = q0 + 6 * (i : Int) + 5 from by unfold wrap64; omega, show wrap64 (q0 + 6 * (i : Int) + 5 + 1) = q0 + 6 * (i : Int) + 6 from by unfold wrap64; omega]
    rw [wrap_succ i (by omega), show q0 + 6 * (i : Int) + 6 = q0 + 6 * ((i + 1 : Nat) : Int) by omega]
    refine ih k (i + 1) _ (by omega) (by omega) (by simpa using hx) (by omega) (fun j hlj => ?_)
    rcases Nat.lt_or_ge j i with h | h
    · rw [← hj j h, rdsetSpot_ne x i j _ (by omega)]
    · obtain rfl : j = i := by omega
      rw [rdsetSpot_eq x j _ hlt]
      rfl
theorem markSpotS_f (l : List S81) (q0 : Int) (h0 : 0 ≤ q0) (hq : q0 + 6 * l.length ≤ 4611686018427387904) :
    ∃ l', (∀ k, l.length < k → laws_markSpotS.f k l q0 = some (q0 + 6 * l.length, l')) := by
  obtain ⟨l', h1, h2, h3⟩ := markSpotS_l0 q0 l.length h0 hq l.length (l.length + 1) 0 l (by omega) (by omega) rfl (by omega) (fun j h => by omega)
  refine ⟨l', fun k hk => ?_⟩
  · obtain ⟨l2, g1, g2, g3⟩ := markSpotS_l0 q0 l.length h0 hq l.length k 0 l (by omega) (by omega) rfl hk (fun j h => by omega)
    have e : l2 = l' := by
      apply List.ext_getElem (by omega)
      intro j a b
      have e1 := g3 j (by omega)
      have e2 := h3 j (by omega)
      rw [rdSpot_b l2 j (by omega)] at e1
      rw [rdSpot_b l' j (by omega)] at e2
      rw [e1, e2]
    subst e
    unfold laws_markSpotS.f
    simpa using g1
theorem rdSpotL_a (l : List (List S111)) (i : Nat) (h : i < l.length) : rd_L2 l (i : Int) = l[i] := by simp [rd_L2, h]
theorem rdSpotL_b (l : List (List S81)) (i : Nat) (h : i < l.length) : rd_L4 l (i : Int) = l[i] := by simp [rd_L4, h]
theorem szSpotS_f (l : List S111) (left : Int) (h0 : 0 ≤ left) (h1 : left ≤ 1048576) (hl : l.length ≤ 9223372036854775807) : ∃ r, laws_szSpotS.f l left = some r ∧ (r < 0 ∨ (0 ≤ r ∧ r ≤ left ∧ (l.length : Int) ≤ left)) := by
  unfold laws_szSpotS.f
  rw [wrap_in (left - (l.length : Int)) (by omega) (by omega)]
  split
  · exact ⟨-1, rfl, .inl (by omega)⟩
  · exact ⟨_, rfl, .inr (by omega)⟩
theorem szSpotSS_l0 (l : List (List S111)) (hl : l.length ≤ 1048576) (hm : ∀ x ∈ l, x.length ≤ 9223372036854775807) : ∀ d i : Nat, ∀ left : Int, l.length - i = d → i ≤ l.length → 0 ≤ left → left ≤ 1048576 →
    ∃ r, (∀ k, d < k → laws_szSpotSS.l0 k l left i = some r) ∧ (r < 0 ∨ (0 ≤ r ∧ ∀ j (h : j < l.length), i ≤ j → l[j].length ≤ 1048576)) := by
  intro d
  induction d with
  | zero =>
    intro i left hd hi h0 h1
    refine ⟨left, fun k hk => ?_, .inr ⟨h0, fun j h hij => by omega⟩⟩
    obtain ⟨k, rfl⟩ : ∃ m, k = m + 1 := ⟨k - 1, by omega⟩
    rw [laws_szSpotSS.l0, if_neg (by omega)]
  | succ d ih =>
    intro i left hd hi h0 h1
    have hlt : i < l.length := by omega
    obtain ⟨r, hr, hc⟩ := szSpotS_f l[i] left h0 h1 (hm _ (List.getElem_mem hlt))
    rcases hc with hc | ⟨c0, c1, c2⟩
    · refine ⟨-1, fun k hk => ?_, .inl (by omega)⟩
      obtain ⟨k, rfl⟩ : ∃ m, k = m + 1 := ⟨k - 1, by omega⟩
      rw [laws_szSpotSS.l0, if_pos (by omega), if_pos (by omega), rdSpotL_a l i hlt, hr]
      simp only [Option.bind_some]
      rw [if_pos hc]
    · obtain ⟨r2, h2, h3⟩ := ih (i + 1) r (by omega) (by omega) c0 (by omega)
      refine ⟨r2, fun k hk => ?_, ?_⟩
      · obtain ⟨k, rfl⟩ : ∃ m, k = m + 1 := ⟨k - 1, by omega⟩
        rw [laws_szSpotSS.l0, if_pos (by omega), if_pos (by omega), rdSpotL_a l i hlt, hr]
        simp only [Option.bind_some]
        rw [if_neg (by omega), wrap_succ i (by omega)]
        exact h2 k (by omega)
      · rcases h3 with h3 | ⟨h3, h4⟩
        · exact .inl h3
        · refine .inr ⟨h3, fun j hj hij => ?_⟩
          rcases Nat.lt_or_ge i j with h | h
          · exact h4 j hj (by omega)
          · obtain rfl : i = j := by omega
            omega
theorem szSpotSS_f (l : List (List S111)) (hl : l.length ≤ 9223372036854775807) (hm : ∀ x ∈ l, x.length ≤ 9223372036854775807) (left : Int) (h0 : 0 ≤ left) (h1 : left ≤ 1048576) :
    ∃ r, (∀ k, l.length < k ∨ r < 0 ∧ 1048577 < k → laws_szSpotSS.f k l left = some r) ∧ (r < 0 ∨ (0 ≤ r ∧ l.length ≤ 1048576 ∧ ∀ x ∈ l, x.length ≤ 1048576)) := by
  unfold laws_szSpotSS.f
  rw [wrap_in (left - (l.length : Int)) (by omega) (by omega)]
  split
  · exact ⟨-1, fun _ _ => rfl, .inl (by omega)⟩
  · obtain ⟨r, hr, hc⟩ := szSpotSS_l0 l (by omega) hm l.length 0 (left - (l.length : Int)) (by omega) (by omega) (by omega) (by omega)
    refine ⟨r, fun k hk => hr k (by omega), ?_⟩
    rcases hc with hc | ⟨hc, hj⟩
    · exact .inl hc
    · refine .inr ⟨hc, by omega, fun x hx => ?_⟩
      obtain ⟨j, hjl, rfl⟩ := List.mem_iff_getElem.1 hx
      exact hj j hjl (by omega)
theorem toSpotSS_l0 (l : List (List S111)) (hl : l.length ≤ 1048576) (hm : ∀ x ∈ l, x.length ≤ 1048576) : ∀ d k i : Nat, l.length - i = d → i ≤ l.length → d + 1048577 < k →
    laws_toSpotSS.l0 k l ((List.range i).map (fun j : Nat => (rd_L2 l (j : Int)).map cvSpot) ++ List.replicate (l.length - i) []) i = some (l.map (fun x => x.map cvSpot)) := by
  intro d
  induction d with
  | zero =>
    intro k i hd hi hk
    obtain ⟨k, rfl⟩ : ∃ m, k = m + 1 := ⟨k - 1, by omega⟩
    obtain rfl : i = l.length := by omega
    rw [laws_toSpotSS.l0, if_neg (by omega), Nat.sub_self, map_get l (fun x => x.map cvSpot) (fun j : Nat => (rd_L2 l (j : Int)).map cvSpot) (fun j hj => by rw [rdSpotL_a l j hj])]
    simp
  | succ d ih =>
    intro k i hd hi hk
    obtain ⟨k, rfl⟩ : ∃ m, k = m + 1 := ⟨k - 1, by omega⟩
    have hlt : i < l.length := by omega
    have hx := hm _ (List.getElem_mem hlt)
    rw [laws_toSpotSS.l0, if_pos (by omega), if_pos (by omega), toSpotS_f (rd_L2 l (i : Int)) (by rw [rdSpotL_a l i hlt]; exact hx) k (by rw [rdSpotL_a l i hlt]; omega)]
    simp only [Option.bind_some]
    rw [if_pos (by simp; omega), wrap_succ i (by omega), Int.toNat_natCast]
    have := set_step (fun j : Nat => (rd_L2 l (j : Int)).map cvSpot) ([] : List S81) l.length i (by omega)
    rw [this]
    exact ih k (i + 1) (by omega) (by omega) (by omega)
theorem toSpotSS_f (l : List (List S111)) (hl : l.length ≤ 1048576) (hm : ∀ x ∈ l, x.length ≤ 1048576) (k : Nat) (hk : l.length + 1048577 < k) : laws_toSpotSS.f k l = some (l.map (fun x => x.map cvSpot)) := by
  unfold laws_toSpotSS.f
  rw [if_pos (by omega), if_pos (by simp; omega), Int.toNat_natCast]
  exact toSpotSS_l0 l hl hm l.length k 0 (by omega) (by omega) hk
theorem eqSpotSS_l0 (l : List (List S81)) (hl : l.length ≤ 9223372036854775806) (hm : ∀ x ∈ l, x.length ≤ 1048576) : ∀ d k i : Nat, l.length - i = d → i ≤ l.length → d + 1048577 < k → laws_eqSpotSS.l0 k l l i = some true := by
  intro d
  induction d with
  | zero =>
    intro k i hd hi hk
    obtain ⟨k, rfl⟩ : ∃ m, k = m + 1 := ⟨k - 1, by omega⟩
    rw [laws_eqSpotSS.l0, if_neg (by omega)]
  | succ d ih =>
    intro k i hd hi hk
    obtain ⟨k, rfl⟩ : ∃ m, k = m + 1 := ⟨k - 1, by omega⟩
    have hlt : i < l.length := by omega
    have hx := hm _ (List.getElem_mem hlt)
    rw [laws_eqSpotSS.l0, if_pos (by omega), if_pos (by omega), if_pos (by omega), rdSpotL_b l i hlt, eqSpotS_f l[i] (by omega) k (by omega)]
    simp only [if_true, Option.bind_some]
    rw [wrap_succ i (by omega)]
    exact ih k (i + 1) (by omega) (by omega) (by omega)
theorem eqSpotSS_f (l : List (List S81)) (hl : l.length ≤ 9223372036854775806) (hm : ∀ x ∈ l, x.length ≤ 1048576) (k : Nat) (hk : l.length + 1048577 < k) : laws_eqSpotSS.f k l l = some true := by
  unfold laws_eqSpotSS.f
  rw [if_pos rfl]
  exact eqSpotSS_l0 l hl hm l.length k 0 (by omega) (by omega) hk
theorem eqByteS_l0 (l : List Int) (hl : l.length ≤ 9223372036854775806) : ∀ d k i : Nat, l.length - i = d → i ≤ l.length → d < k → laws_eqByteS.l0 k l l i = some true := by
  intro d
  induction d with
  | zero =>
    intro k i hd hi hk
    obtain ⟨k, rfl⟩ : ∃ m, k = m + 1 := ⟨k - 1, by omega⟩
    rw [laws_eqByteS.l0, if_neg (by omega)]
  | succ d ih =>
    intro k i hd hi hk
    obtain ⟨k, rfl⟩ : ∃ m, k = m + 1 := ⟨k - 1, by omega⟩
    rw [laws_eqByteS.l0, if_pos (by omega), if_pos (by omega), if_pos (by omega), if_pos rfl, wrap_succ i (by omega)]
    exact ih k (i + 1) (by omega) (by omega) (by omega)
theorem eqByteS_f (l : List Int) (hl : l.length ≤ 9223372036854775806) (k : Nat) (hk : l.length < k) : laws_eqByteS.f k l l = some true := by
  unfold laws_eqByteS.f
  rw [if_pos rfl]
  exact eqByteS_l0 l hl l.length k 0 (by omega) (by omega) hk
theorem markByteS_l0 (q0 : Int) (n : Nat) (h0 : 0 ≤ q0) (hq : q0 + n ≤ 4611686018427387904) : ∀ d k i : Nat, ∀ x : List Int, n - i = d → i ≤ n → x.length = n → d < k → (∀ j : Nat, j < i → rd x (j : Int) = (((q0 + j)) % 256)) →
    ∃ l', laws_markByteS.l0 k x (q0 + i) i = some (q0 + n, l') ∧ l'.length = n ∧ ∀ j : Nat, j < n → rd l' (j : Int) = (((q0 + j)) % 256) := by
  intro d
  induction d with
  | zero =>
    intro k i x hd hi hx hk hj
    obtain ⟨k, rfl⟩ : ∃ m, k = m + 1 := ⟨k - 1, by omega⟩
    obtain rfl : i = n := by omega
    exact ⟨x, by rw [laws_markByteS.l0, if_neg (by omega)], hx, hj⟩
  | succ d ih =>
    intro k i x hd hi hx hk hj
    obtain ⟨k, rfl⟩ : ∃ m, k = m + 1 := ⟨k - 1, by omega⟩
    rw [laws_markByteS.l0, if_pos (by omega), if_pos (by omega), wrap_succ i (by omega), wrap_in (q0 + i + 1) (by omega) (by omega), Int.toNat_natCast, show q0 + (i : Int) + 1 = q0 + ((i + 1 : Nat) : Int) by omega]
    refine ih k (i + 1) _ (by omega) (by omega) (by simpa using hx) (by omega) (fun j hlt => ?_)
    rcases Nat.lt_or_ge j i with h | h
    · rw [← hj j h, rd_set_ne x i j _ (by omega)]
    · obtain rfl : j = i := by omega
      rw [rd_set_eq x j _ (by omega)]
theorem heldByteS_l0 (q0 : Int) (l : List Int) (h0 : 0 ≤ q0) (hq : q0 + l.length ≤ 4611686018427387904) (hj : ∀ j : Nat, j < l.length → rd l (j : Int) = (((q0 + j)) % 256)) : ∀ d k i : Nat, l.length - i = d → i ≤ l.length → d < k →
    laws_heldByteS.l0 k l (q0 + i) i = some (q0 + l.length) := by
  intro d
  induction d with
  | zero =>
    intro k i hd hi hk
    obtain ⟨k, rfl⟩ : ∃ m, k = m + 1 := ⟨k - 1, by omega⟩
    obtain rfl : i = l.length := by omega
    rw [laws_heldByteS.l0, if_neg (by omega)]
  | succ d ih =>
    intro k i hd hi hk
    obtain ⟨k, rfl⟩ : ∃ m, k = m + 1 := ⟨k - 1, by omega⟩
    rw [laws_heldByteS.l0, if_pos (by omega), if_pos (by omega), if_pos (hj i (by omega)), wrap_succ i (by omega), wrap_in (q0 + i + 1) (by omega) (by omega), show q0 + (i : Int) + 1 = q0 + ((i + 1 : Nat) : Int) by omega]
    exact ih k (i + 1) (by omega) (by omega) (by omega)
theorem markByteS_f (l : List Int) (q0 : Int) (h0 : 0 ≤ q0) (hq : q0 + l.length ≤ 4611686018427387904) :
    ∃ l', (∀ k, l.length < k → laws_markByteS.f k l q0 = some (q0 + l.length, l')) ∧ ∀ k, l.length < k → laws_heldByteS.f k l' q0 = some (q0 + l.length) := by
  obtain ⟨l', h1, h2, h3⟩ := markByteS_l0 q0 l.length h0 hq l.length (l.length + 1) 0 l (by omega) (by omega) rfl (by omega) (fun j h => by omega)
  refine ⟨l', fun k hk => ?_, fun k hk => ?_⟩
  · obtain ⟨l2, g1, g2, g3⟩ := markByteS_l0 q0 l.length h0 hq l.length k 0 l (by omega) (by omega) rfl hk (fun j h => by omega)
    have e : l2 = l' := by
      apply List.ext_getElem (by omega)
      intro j a b
      have e1 := g3 j (by omega)
      have e2 := h3 j (by omega)
      rw [rd_nat l2 j (by omega)] at e1
      rw [rd_nat l' j (by omega)] at e2
      rw [e1, e2]
    subst e
    unfold laws_markByteS.f
    simpa using g1
  · have := heldByteS_l0 q0 l' h0 (by rw [h2]; exact hq) (fun j h => h3 j (by omega)) l'.length k 0 (by omega) (by omega) (by omega)
    unfold laws_heldByteS.f
    rw [h2] at this
    simpa using this
def fitsB (a : Int) : Bool := decide (-1073741823 ≤ a ∧ a ≤ 1073741823)
def lenB (a : Int) : Bool := decide (0 ≤ a ∧ a ≤ 1073741823)
theorem fits_s (a : Int) : spec_l1Fits.f a = some (fitsB a) := by
  unfold spec_l1Fits.f fitsB
  split <;> simp <;> omega
theorem fits_i (a : Int) : impl_oFits.f a = some (fitsB a) := fits_s a
theorem len_i (a : Int) : impl_oLen.f a = some (lenB a) := by
  unfold impl_oLen.f lenB
  split <;> simp <;> omega
def spotB (x y f c w h : Int) : Bool := fitsB x && fitsB y && decide (0 ≤ f ∧ f ≤ 15) && decide (-1 ≤ c ∧ c ≤ 255) && lenB w && lenB h
theorem spot_s (x y f c w h : Int) : spec_l15SpotOk.f x y f c w h = some (spotB x y f c w h) := by
  simp only [spec_l15SpotOk.f, fits_s, Option.bind_some, spotB]
  cases fitsB x <;> cases fitsB y <;> simp
  by_cases h1 : 0 ≤ f
  · by_cases h2 : f ≤ 15
    · by_cases h3 : -1 ≤ c
      · by_cases h4 : c ≤ 255
        · by_cases h5 : 0 ≤ w
          · by_cases h6 : w ≤ 1073741823
            · by_cases h7 : 0 ≤ h
              · simp [lenB, h1, h2, h3, h4, h5, h6, h7]
              · simp [lenB, h1, h2, h3, h4, h5, h6, h7]
            · simp [lenB, h1, h2, h3, h4, h5, h6]
          · simp [lenB, h1, h2, h3, h4, h5]
        · simp [h1, h2, h3, h4]
      · simp [h1, h2, h3]
    · simp [h1, h2]
  · simp [h1]
theorem spot_i (x y f c w h : Int) : impl_oSpotOk.f x y f c w h = some (spotB x y f c w h) := by
  simp only [impl_oSpotOk.f, fits_i, len_i, Option.bind_some, spotB]
  cases fitsB x <;> cases fitsB y <;> simp
  by_cases h1 : 0 ≤ f
  · by_cases h2 : f ≤ 15
    · by_cases h3 : -1 ≤ c
      · by_cases h4 : c ≤ 255
        · cases lenB w <;> simp [h1, h2, h3, h4]
        · simp [h1, h2, h3, h4]
      · simp [h1, h2, h3]
    · simp [h1, h2]
  · simp [h1]
def okS (x : S81) : Bool := spotB x.f0 x.f1 x.f2 x.f3 x.f4 x.f5
theorem page_l0 (l : List S81) (hl : l.length ≤ 1048576) : ∀ d k i : Nat, l.length - i = d → i ≤ l.length → d < k → spec_l15PageOk.l0 k l i = some ((l.drop i).all okS && decide ((l.length : Int) ≤ 20000)) := by
  intro d
  induction d with
  | zero =>
    intro k i hd hi hk
    obtain ⟨k, rfl⟩ : ∃ m, k = m + 1 := ⟨k - 1, by omega⟩
    rw [spec_l15PageOk.l0, if_neg (by omega), List.drop_of_length_le (by omega)]
    simp
  | succ d ih =>
    intro k i hd hi hk
    obtain ⟨k, rfl⟩ : ∃ m, k = m + 1 := ⟨k - 1, by omega⟩
    have hlt : i < l.length := by omega
    rw [spec_l15PageOk.l0, if_pos (by omega), if_pos (by omega), spot_s, wrap_succ i (by omega), ih k (i + 1) (by omega) (by omega) (by omega), List.drop_eq_getElem_cons hlt, List.all_cons, rdSpot_b l i hlt]
    simp only [Option.bind_some, okS]
    cases spotB l[i].f0 l[i].f1 l[i].f2 l[i].f3 l[i].f4 l[i].f5 <;> simp
theorem page_f (l : List S81) (hl : l.length ≤ 1048576) (k : Nat) (hk : l.length < k) : spec_l15PageOk.f k l = some (l.all okS && decide ((l.length : Int) ≤ 20000)) := by
  unfold spec_l15PageOk.f
  simpa using page_l0 l hl l.length k 0 (by omega) (by omega) hk
def descR : List (List S81) → Int → Bool
  | [], _ => true
  | p :: ps, n => if n + (p.length : Int) > 20000 then false else p.all okS && descR ps (n + (p.length : Int))
theorem desc_s (l : List (List S81)) (hl : l.length ≤ 1048576) (hm : ∀ x ∈ l, x.length ≤ 1048576) : ∀ d k i : Nat, ∀ n : Int, l.length - i = d → i ≤ l.length → d + 1048577 < k → 0 ≤ n → n ≤ 20000 → spec_DescOk.l0 k l n i = some (descR (l.drop i) n) := by
  intro d
  induction d with
  | zero =>
    intro k i n hd hi hk h0 h1
    obtain ⟨k, rfl⟩ : ∃ m, k = m + 1 := ⟨k - 1, by omega⟩
    rw [spec_DescOk.l0, if_neg (by omega), List.drop_of_length_le (by omega)]
    rfl
  | succ d ih =>
    intro k i n hd hi hk h0 h1
    obtain ⟨k, rfl⟩ : ∃ m, k = m + 1 := ⟨k - 1, by omega⟩
    have hlt : i < l.length := by omega
    have hx := hm _ (List.getElem_mem hlt)
    rw [spec_DescOk.l0, if_pos (by omega), if_pos (by omega), rdSpotL_b l i hlt, wrap_in (n + (l[i].length : Int)) (by omega) (by omega), List.drop_eq_getElem_cons hlt, descR]
    by_cases hb : n + (l[i].length : Int) > 20000
    · rw [if_pos hb, if_pos hb]
    · rw [if_neg hb, if_neg hb, page_f l[i] (by omega) k (by omega), wrap_succ i (by omega), ih k (i + 1) _ (by omega) (by omega) (by omega) (by omega) (by omega)]
      have : decide ((l[i].length : Int) ≤ 20000) = true := by simp; omega
      rw [this]
      simp only [Option.bind_some]
      by_cases hq : l[i].all okS = true <;> simp [hq]
theorem desc_l1 (l : List (List S81)) (p : List S81) (hp : p.length ≤ 1048576) (n m c : Int) : ∀ e k j : Nat, p.length - j = e → j ≤ p.length →
    impl_DescOk.l1 (k + e + 1) n l m c p (p.length : Int) j = if (p.drop j).all okS = true then impl_DescOk.l0 k n l m (wrap64 (c + 1)) else some false := by
  intro e
  induction e with
  | zero =>
    intro k j hd hj
    rw [impl_DescOk.l1, if_neg (by omega), List.drop_of_length_le (by omega)]
    simp
  | succ e ih =>
    intro k j hd hj
    have hlt : j < p.length := by omega
    rw [impl_DescOk.l1, if_pos (by omega), if_pos (by omega), if_pos (by omega), spot_i, wrap_succ j (by omega), List.drop_eq_getElem_cons hlt, List.all_cons, rdSpot_b p j hlt, show k + (e + 1) = k + e + 1 from rfl, ih k (j + 1) (by omega) (by omega)]
    simp only [Option.bind_some, okS]
    by_cases hq : spotB p[j].f0 p[j].f1 p[j].f2 p[j].f3 p[j].f4 p[j].f5 = true <;> simp [hq]
theorem desc_i (l : List (List S81)) (hl : l.length ≤ 1048576) (hm : ∀ x ∈ l, x.length ≤ 1048576) : ∀ d k i : Nat, ∀ n : Int, l.length - i = d → i ≤ l.length → 2 * d + 20000 < k + n.toNat → 0 ≤ n → n ≤ 20000 → impl_DescOk.l0 k n l (l.length : Int) i = some (descR (l.drop i) n) := by
  intro d
  induction d with
  | zero =>
    intro k i n hd hi hk h0 h1
    obtain ⟨k, rfl⟩ : ∃ m, k = m + 1 := ⟨k - 1, by omega⟩
    rw [impl_DescOk.l0, if_neg (by omega), List.drop_of_length_le (by omega)]
    rfl
  | succ d ih =>
    intro k i n hd hi hk h0 h1
    obtain ⟨k, rfl⟩ : ∃ m, k = m + 1 := ⟨k - 1, by omega⟩
    have hlt : i < l.length := by omega
    have hx := hm _ (List.getElem_mem hlt)
    rw [impl_DescOk.l0, if_pos (by omega), if_pos (by omega), if_pos (by omega), rdSpotL_b l i hlt, wrap_in (n + (l[i].length : Int)) (by omega) (by omega), List.drop_eq_getElem_cons hlt, descR]
    by_cases hb : n + (l[i].length : Int) > 20000
    · rw [if_pos hb, if_pos hb]
    · rw [if_neg hb, if_neg hb]
      obtain ⟨k2, rfl⟩ : ∃ m, k = m + l[i].length + 1 := ⟨k - l[i].length - 1, by omega⟩
      have := desc_l1 l l[i] (by omega) (n + (l[i].length : Int)) (l.length : Int) (i : Int) l[i].length k2 0 (by omega) (by omega)
      rw [show ((0 : Nat) : Int) = 0 from rfl] at this
      rw [this, wrap_succ i (by omega), ih k2 (i + 1) _ (by omega) (by omega) (by omega) (by omega) (by omega), List.drop_zero]
      by_cases hq : l[i].all okS = true <;> simp [hq]
theorem desc_both (l : List (List S81)) (hl : l.length ≤ 1048576) (hm : ∀ x ∈ l, x.length ≤ 1048576) : ∃ b, ∀ k, l.length + 1048577 < k → spec_DescOk.f k l = some b ∧ impl_DescOk.f k l = some b := by
  by_cases hb : (l.length : Int) > 1000
  · exact ⟨false, fun k _ => ⟨by unfold spec_DescOk.f; rw [if_pos hb], by unfold impl_DescOk.f; rw [if_pos hb]⟩⟩
  · refine ⟨descR l 0, fun k hk => ⟨?_, ?_⟩⟩
    · unfold spec_DescOk.f
      rw [if_neg hb]
      simpa using desc_s l hl hm l.length k 0 0 (by omega) (by omega) (by omega) (by omega) (by omega)
    · unfold impl_DescOk.f
      rw [if_neg hb]
      simpa using desc_i l hl hm l.length k 0 0 (by omega) (by omega) (by simp; omega) (by omega) (by omega)
/-! ### numbers, written -/
theorem u64_mod (x : Int) : IntKind.u64.wrap x = x % 18446744073709551616 := by
  unfold IntKind.wrap
  simp only [IntKind.signed, IntKind.bits]
  simp
def numL : Nat → Int → List Int
  | 0, x => [x % 256]
  | m + 1, x => if x ≥ 128 then (IntKind.u64.wrap ((Int.tmod x 128) + 128)) % 256 :: numL m (IntKind.u64.wrap (Int.tdiv x 128)) else [x % 256]
theorem numL_len : ∀ m x, (numL m x).length ≤ m + 1 := by
  intro m
  induction m with
  | zero => intro x; simp [numL]
  | succ m ih =>
    intro x
    rw [numL]
    split
    · have := ih (IntKind.u64.wrap (Int.tdiv x 128))
      rw [List.length_cons]; omega
    · simp
theorem num_ev0 : ∀ (m : Nat) (x P : Int) (b : List Int), 0 ≤ x → (128 : Int) ^ (m + 1) = P → x < P → b.length + m < 140737488355328 → Ev (fun k => spec_l15Num.l0 k b x) (b ++ numL m x) := by
  intro m
  induction m with
  | zero =>
    intro x P b h0 hP h1 hb
    have : x < 128 := by simp at hP; omega
    refine Ev.step (f := fun k => some (b ++ numL 0 x)) (fun k => ?_) (Ev.now _)
    rw [spec_l15Num.l0, if_neg (by omega), if_pos (by omega)]
    rfl
  | succ m ih =>
    intro x P b h0 hP h1 hb
    rw [numL]
    by_cases h : x ≥ 128
    · have hd : Int.tdiv x 128 = x / 128 := Int.tdiv_eq_ediv_of_nonneg h0
      rw [if_pos h]
      refine Ev.step (f := fun k => spec_l15Num.l0 k (b ++ [(IntKind.u64.wrap ((Int.tmod x 128) + 128)) % 256]) (IntKind.u64.wrap (Int.tdiv x 128))) (fun k => ?_) ?_
      · rw [spec_l15Num.l0, if_pos h, if_pos (by omega)]
      · have hP2 : (128 : Int) ^ (m + 1) * 128 = P := by rw [← hP, Int.pow_succ (128 : Int) (m + 1)]
        have := ih (IntKind.u64.wrap (Int.tdiv x 128)) ((128 : Int) ^ (m + 1)) (b ++ [(IntKind.u64.wrap ((Int.tmod x 128) + 128)) % 256]) (by rw [u64_mod]; omega) rfl (by rw [hd, u64_mod]; omega) (by simp; omega)
        simpa using this
    · rw [if_neg h]
      refine Ev.step (f := fun k => some (b ++ [x % 256])) (fun k => ?_) (Ev.now _)
      rw [spec_l15Num.l0, if_neg h, if_pos (by omega)]
def NL (x : Int) : List Int := numL 9 x
theorem NL_len (x : Int) : (NL x).length ≤ 10 := numL_len 9 x
theorem num_ev (b : List Int) (x : Int) (h0 : 0 ≤ x) (h1 : x < 18446744073709551616) (hb : b.length ≤ 140000000000000) : Ev (fun k => spec_l15Num.f k b x) (b ++ NL x) :=
  num_ev0 9 x ((128 : Int) ^ 10) b h0 rfl (by have : (128 : Int) ^ 10 = 1180591620717411303424 := by decide
                                              omega) (by omega)
theorem num_u (b : List Int) (x : Int) (hb : b.length ≤ 140000000000000) : Ev (fun k => spec_l15Num.f k b (IntKind.u64.wrap x)) (b ++ NL (IntKind.u64.wrap x)) :=
  num_ev b _ (by rw [u64_mod]; omega) (by rw [u64_mod]; omega) hb
def SL (a : Int) : List Int := NL (if a < 0 then IntKind.u64.wrap (wrap64 ((wrap64 ((-2) * a)) - 1)) else IntKind.u64.wrap (wrap64 (2 * a)))
theorem SL_len (x : Int) : (SL x).length ≤ 10 := NL_len _
theorem signed_ev (b : List Int) (a : Int) (hb : b.length ≤ 140000000000000) : Ev (fun k => spec_l15Signed.f k b a) (b ++ SL a) := by
  unfold SL
  by_cases h : a < 0
  · rw [if_pos h]
    obtain ⟨K, hK⟩ := num_u b (wrap64 ((wrap64 ((-2) * a)) - 1)) hb
    refine ⟨K, fun k hk => ?_⟩
    have e : spec_l15Num.f k b (IntKind.u64.wrap (wrap64 ((wrap64 ((-2) * a)) - 1))) = _ := hK k hk
    show spec_l15Signed.f k b a = _
    unfold spec_l15Signed.f
    rw [if_pos h, e]
    rfl
  · rw [if_neg h]
    obtain ⟨K, hK⟩ := num_u b (wrap64 (2 * a)) hb
    refine ⟨K, fun k hk => ?_⟩
    have e : spec_l15Num.f k b (IntKind.u64.wrap (wrap64 (2 * a))) = _ := hK k hk
    show spec_l15Signed.f k b a = _
    unfold spec_l15Signed.f
    rw [if_neg h, e]
    rfl
/-! ### a page -/
def cH (s : S81) (f : Int) : Int := if s.f3 < 0 then 0 else if s.f2 = f then IntKind.u64.wrap (wrap64 (1 + s.f3)) else IntKind.u64.wrap (wrap64 (wrap64 (257 + s.f3) + wrap64 (256 * s.f2)))
theorem cH_in (s : S81) (f : Int) : 0 ≤ cH s f ∧ cH s f < 18446744073709551616 := by
  unfold cH
  split
  · omega
  · split <;> rw [u64_mod] <;> omega
def encS (s : S81) (x y f : Int) : List Int := SL (wrap64 (s.f0 - x)) ++ (SL (wrap64 (s.f1 - y)) ++ (NL (cH s f) ++ (NL (IntKind.u64.wrap s.f4) ++ NL (IntKind.u64.wrap s.f5))))
theorem encS_len (s : S81) (x y f : Int) : (encS s x y f).length ≤ 50 := by
  have h1 := SL_len (wrap64 (s.f0 - x)); have h2 := SL_len (wrap64 (s.f1 - y)); have h3 := NL_len (cH s f); have h4 := NL_len (IntKind.u64.wrap s.f4); have h5 := NL_len (IntKind.u64.wrap s.f5)
  unfold encS
  simp only [List.length_append]
  omega
def encP : List S81 → Int → Int → Int → List Int
  | [], _, _, _ => []
  | s :: ss, x, y, f => encS s x y f ++ encP ss s.f0 s.f1 (if s.f3 < 0 then f else s.f2)
theorem encP_len : ∀ ss x y f, (encP ss x y f).length ≤ 50 * ss.length := by
  intro ss
  induction ss with
  | nil => intro x y f; simp [encP]
  | cons s ss ih =>
    intro x y f
    have h1 := ih s.f0 s.f1 (if s.f3 < 0 then f else s.f2)
    have h2 := encS_len s x y f
    rw [encP, List.length_append, List.length_cons]
    omega
theorem five_ev (s : S81) (b : List Int) (x y f : Int) (hb : b.length ≤ 130000000000000) {g : Nat → List Int → Option (List Int)} {r : List Int} (hg : Ev (fun k => g k (b ++ encS s x y f)) r) :
    Ev (fun k => (spec_l15Signed.f k b (wrap64 (s.f0 - x))).bind fun t1 => (spec_l15Signed.f k t1 (wrap64 (s.f1 - y))).bind fun t2 => (spec_l15Num.f k t2 (cH s f)).bind fun t3 => (spec_l15Num.f k t3 (IntKind.u64.wrap s.f4)).bind fun t4 => (spec_l15Num.f k t4 (IntKind.u64.wrap s.f5)).bind fun t5 => g k t5) r := by
  have h1 := SL_len (wrap64 (s.f0 - x)); have h2 := SL_len (wrap64 (s.f1 - y)); have h3 := NL_len (cH s f); have h4 := NL_len (IntKind.u64.wrap s.f4)
  refine Ev.bind (signed_ev b _ (by omega)) ?_
  refine Ev.bind (signed_ev _ _ (by simp only [List.length_append]; omega)) ?_
  refine Ev.bind (num_ev _ _ (cH_in s f).1 (cH_in s f).2 (by simp only [List.length_append]; omega)) ?_
  refine Ev.bind (num_u _ _ (by simp only [List.length_append]; omega)) ?_
  refine Ev.bind (num_u _ _ (by simp only [List.length_append]; omega)) ?_
  unfold encS at hg
  simpa only [List.append_assoc] using hg
theorem NL_zero : NL 0 = [0] := rfl
theorem page_ev (ss : List S81) (hl : ss.length ≤ 1048576) : ∀ (d i : Nat) (b : List Int) (x y f : Int), ss.length - i = d → i ≤ ss.length → b.length + 50 * d ≤ 130000000000000 → Ev (fun k => spec_l15Page.l0 k b ss x y f i) (b ++ encP (ss.drop i) x y f) := by
  intro d
  induction d with
  | zero =>
    intro i b x y f hd hi hb
    refine Ev.step (f := fun k => some b) (fun k => ?_) ?_
    · rw [spec_l15Page.l0, if_neg (by omega)]
    · rw [List.drop_of_length_le (by omega), encP, List.append_nil]
      exact Ev.now _
  | succ d ih =>
    intro i b x y f hd hi hb
    have hlt : i < ss.length := by omega
    have hr : rd_T81 ss (i : Int) = ss[i] := by simp [rd_T81, hlt]
    have hw : wrap64 ((i : Int) + 1) = ((i + 1 : Nat) : Int) := wrap_succ i (by omega)
    rw [List.drop_eq_getElem_cons hlt, encP]
    have hE := encS_len ss[i] x y f
    have hI := ih (i + 1) (b ++ encS ss[i] x y f) ss[i].f0 ss[i].f1 (if ss[i].f3 < 0 then f else ss[i].f2) (by omega) (by omega) (by simp only [List.length_append]; omega)
    rw [List.append_assoc] at hI
    obtain ⟨s, hs⟩ : ∃ s, s = ss[i] := ⟨_, rfl⟩
    rw [← hs] at hr hE hI ⊢
    have h5 := five_ev (g := fun k t => spec_l15Page.l0 k t ss s.f0 s.f1 (if s.f3 < 0 then f else s.f2) ((i + 1 : Nat) : Int)) s b x y f (by omega) hI
    have h1 := SL_len (wrap64 (s.f0 - x)); have h2 := SL_len (wrap64 (s.f1 - y))
    by_cases c1 : s.f3 < 0
    · refine Ev.step (f := fun k => (spec_l15Signed.f k b (wrap64 (s.f0 - x))).bind fun t1 => (spec_l15Signed.f k t1 (wrap64 (s.f1 - y))).bind fun t2 => (if t2.length < 140737488355328 then ((spec_l15Num.f k (t2 ++ [0]) (IntKind.u64.wrap s.f4)).bind fun t137 => ((spec_l15Num.f k t137 (IntKind.u64.wrap s.f5)).bind fun t140 => (spec_l15Page.l0 k t140 ss s.f0 s.f1 f ((i + 1 : Nat) : Int)))) else none)) (fun k => ?_) ?_
      · rw [spec_l15Page.l0, if_pos (by omega), if_pos (by omega), hr, hw]
        simp only [if_pos c1]
      · refine Ev.bind (signed_ev b _ (by omega)) ?_
        refine Ev.bind (signed_ev _ _ (by simp only [List.length_append]; omega)) ?_
        simp only [if_pos c1] at hI
        have hlen : (b ++ SL (wrap64 (s.f0 - x)) ++ SL (wrap64 (s.f1 - y))).length < 140737488355328 := by simp only [List.length_append]; omega
        simp only [if_pos hlen]
        refine Ev.bind (num_u _ _ (by simp only [List.length_append, List.length_cons, List.length_nil]; omega)) ?_
        have h4 := NL_len (IntKind.u64.wrap s.f4)
        refine Ev.bind (num_u _ _ (by simp only [List.length_append, List.length_cons, List.length_nil]; omega)) ?_
        have hc : cH s f = 0 := by unfold cH; rw [if_pos c1]
        unfold encS at hI
        rw [hc, NL_zero] at hI
        simp only [if_pos c1]
        unfold encS
        rw [hc, NL_zero]
        simpa only [List.append_assoc] using hI
    · by_cases c2 : s.f2 = f
      · refine Ev.congr (g := fun k => spec_l15Page.l0 k b ss x y f i) (f := fun k => spec_l15Page.l0 k b ss x y f i) (fun _ => rfl) (Ev.step (fun k => ?_) h5)
        have hc : cH s f = IntKind.u64.wrap (wrap64 (1 + s.f3)) := by unfold cH; rw [if_neg c1, if_pos c2]
        rw [spec_l15Page.l0, if_pos (by omega), if_pos (by omega), hr, hw]
        simp only [if_neg c1, if_pos c2, hc]
        rw [c2]
      · refine Ev.congr (g := fun k => spec_l15Page.l0 k b ss x y f i) (f := fun k => spec_l15Page.l0 k b ss x y f i) (fun _ => rfl) (Ev.step (fun k => ?_) h5)
        have hc : cH s f = IntKind.u64.wrap (wrap64 (wrap64 (257 + s.f3) + wrap64 (256 * s.f2))) := by unfold cH; rw [if_neg c1, if_neg c2]
        rw [spec_l15Page.l0, if_pos (by omega), if_pos (by omega), hr, hw]
        simp only [if_neg c1, if_neg c2, hc]
theorem pageF_ev (ss : List S81) (hl : ss.length ≤ 1048576) (b : List Int) (hb : b.length ≤ 120000000000000) : Ev (fun k => spec_l15Page.f k b ss) (b ++ (NL (IntKind.u64.wrap (ss.length : Int)) ++ encP ss 0 0 0)) := by
  have h1 := NL_len (IntKind.u64.wrap (ss.length : Int))
  unfold spec_l15Page.f
  refine Ev.bind (num_u b _ (by omega)) ?_
  have := page_ev ss hl ss.length 0 (b ++ NL (IntKind.u64.wrap (ss.length : Int))) 0 0 0 (by omega) (by omega) (by simp only [List.length_append]; omega)
  rw [List.append_assoc, List.drop_zero] at this
  exact this
/-! ### the sum -/
def sumR (b : List Int) : Nat → Nat → Int → Int
  | 0, _, n => n
  | d + 1, i, n => sumR b d (i + 1) ((n + (((i : Int) + 1) % 65521 * (rd b i % 18446744073709551616)) % 18446744073709551616) % 18446744073709551616 % 65521)
theorem sumR_in (b : List Int) : ∀ d i n, 0 ≤ n → n < 65521 → 0 ≤ sumR b d i n ∧ sumR b d i n < 65521 := by
  intro d
  induction d with
  | zero => intro i n h0 h1; exact ⟨h0, h1⟩
  | succ d ih => intro i n h0 h1; rw [sumR]; exact ih _ _ (by omega) (by omega)
theorem tm (x m : Int) (h : 0 ≤ x) : Int.tmod x m = x % m := Int.tmod_eq_emod_of_nonneg h
theorem sum_s (b : List Int) (hb : b.length ≤ 140737488355328) : ∀ d i : Nat, ∀ n : Int, b.length - i = d → i ≤ b.length → Ev (fun k => spec_l15Sum.l0 k b n i) (sumR b d i n) := by
  intro d
  induction d with
  | zero =>
    intro i n hd hi
    refine Ev.step (f := fun k => some n) (fun k => ?_) (Ev.now _)
    rw [spec_l15Sum.l0, if_neg (by omega)]
  | succ d ih =>
    intro i n hd hi
    rw [sumR]
    refine Ev.step (fun k => ?_) (ih (i + 1) _ (by omega) (by omega))
    have e : ((i + 1 : Nat) : Int) % 18446744073709551616 = (i : Int) + 1 := by omega
    rw [spec_l15Sum.l0, if_pos (by omega), if_pos (by omega), wrap_succ i (by omega), u64_mod ((i + 1 : Nat) : Int), e, u64_mod (rd b i), tm ((i : Int) + 1) 65521 (by omega), u64_mod, u64_mod, tm _ _ (by omega)]
theorem sum_i (b : List Int) (hb : b.length ≤ 140737488355328) : ∀ d i : Nat, ∀ n : Int, b.length - i = d → i ≤ b.length → Ev (fun k => impl_oSum.l0 k n b (b.length : Int) i) (sumR b d i n) := by
  intro d
  induction d with
  | zero =>
    intro i n hd hi
    refine Ev.step (f := fun k => some n) (fun k => ?_) (Ev.now _)
    rw [impl_oSum.l0, if_neg (by omega)]
  | succ d ih =>
    intro i n hd hi
    rw [sumR]
    refine Ev.step (fun k => ?_) (ih (i + 1) _ (by omega) (by omega))
    rw [impl_oSum.l0, if_pos (by omega), if_pos (by omega), if_pos (by omega), wrap_succ i (by omega), tm ((i + 1 : Nat) : Int) _ (by omega), u64_mod (((i + 1 : Nat) : Int) % 65521), u64_mod (rd b i), u64_mod, u64_mod, tm _ _ (by omega)]
    have e : ((i + 1 : Nat) : Int) % 65521 % 18446744073709551616 = ((i : Int) + 1) % 65521 := by omega
    rw [e, Int.mul_comm]
def finL (b : List Int) : List Int := b ++ [((sumR b b.length 0 0 + b.length) % 65521) % 256, ((sumR b b.length 0 0 + b.length) % 65521) / 256]
theorem end_s (b : List Int) (hb : b.length ≤ 140000000000000) : Ev (fun k => spec_l15End.f k b) (finL b) := by
  have hS := sum_s b (by omega) b.length 0 0 (by omega) (by omega)
  obtain ⟨h0, h1⟩ := sumR_in b b.length 0 0 (by omega) (by omega)
  unfold spec_l15End.f finL
  refine Ev.bind (g := fun k => spec_l15Sum.f k b) hS ?_
  generalize sumR b b.length 0 0 = n at h0 h1 ⊢
  simp only [Option.bind_some]
  rw [if_pos (by simp; omega)]
  have e1 : IntKind.u64.wrap (IntKind.u64.wrap (b.length : Int) + n) = n + b.length := by rw [u64_mod, u64_mod]; omega
  rw [e1, tm (n + (b.length : Int)) _ (by omega), tm _ 256 (by omega), Int.tdiv_eq_ediv_of_nonneg (by omega), u64_mod]
  have e2 : (n + (b.length : Int)) % 65521 % 256 % 256 = (n + (b.length : Int)) % 65521 % 256 := by omega
  have e3 : (n + (b.length : Int)) % 65521 / 256 % 18446744073709551616 % 256 = (n + (b.length : Int)) % 65521 / 256 := by omega
  rw [e2, e3]
  exact Ev.now _
theorem end_i (b : List Int) (hb : b.length ≤ 140000000000000) : Ev (fun k => impl_sum.f k b) (finL b) := by
  have hS := sum_i b (by omega) b.length 0 0 (by omega) (by omega)
  obtain ⟨h0, h1⟩ := sumR_in b b.length 0 0 (by omega) (by omega)
  unfold impl_sum.f finL
  refine Ev.bind (g := fun k => impl_oSum.f k b) hS ?_
  generalize sumR b b.length 0 0 = n at h0 h1 ⊢
  rw [if_pos (by omega)]
  have e1 : IntKind.u64.wrap (n + IntKind.u64.wrap (b.length : Int)) = n + b.length := by rw [u64_mod, u64_mod]; omega
  rw [e1, tm (n + (b.length : Int)) _ (by omega)]
  have e2 : (n + (b.length : Int)) % 65521 / 256 % 256 = (n + (b.length : Int)) % 65521 / 256 := by omega
  rw [e2]
  exact Ev.now _
/-! ### the description -/
def badS (s : S81) : Bool := decide (s.f3 < 0) && !decide (s.f2 = 0)
def encD : List (List S81) → List Int → List Int
  | [], b => finL b
  | p :: ps, b => if p.any badS = true then [] else encD ps (b ++ (NL (IntKind.u64.wrap (p.length : Int)) ++ encP p 0 0 0))
theorem impl_page_ev (l : List (List S81)) (i : Nat) (p : List S81) (hp : rd_L4 l (i : Int) = p) (hl : p.length ≤ 1048576) (r : List Int) : ∀ (d j : Nat) (b : List Int) (x y f : Int), p.length - j = d → j ≤ p.length → b.length + 50 * d ≤ 130000000000000 →
    (((p.drop j).any badS = true ∧ r = []) ∨ ((p.drop j).any badS = false ∧ Ev (fun k => impl_EncodeDesc.l0 k l (b ++ encP (p.drop j) x y f) (wrap64 ((i : Int) + 1))) r)) → Ev (fun k => impl_EncodeDesc.l1 k l i b x y f j) r := by
  intro d
  induction d with
  | zero =>
    intro j b x y f hd hj hb h
    rw [List.drop_of_length_le (by omega)] at h
    rcases h with ⟨h, _⟩ | ⟨_, h⟩
    · simp at h
    · rw [encP, List.append_nil] at h
      refine Ev.step (fun k => ?_) h
      rw [impl_EncodeDesc.l1, hp, if_neg (by omega)]
  | succ d ih =>
    intro j b x y f hd hj hb h
    have hlt : j < p.length := by omega
    have hr : rd_T81 p (j : Int) = p[j] := by simp [rd_T81, hlt]
    have hw : wrap64 ((j : Int) + 1) = ((j + 1 : Nat) : Int) := wrap_succ j (by omega)
    rw [List.drop_eq_getElem_cons hlt, List.any_cons, encP] at h
    have hE := encS_len p[j] x y f
    have hI := ih (j + 1) (b ++ encS p[j] x y f) p[j].f0 p[j].f1 (if p[j].f3 < 0 then f else p[j].f2) (by omega) (by omega) (by simp only [List.length_append]; omega)
    obtain ⟨s, hs⟩ : ∃ s, s = p[j] := ⟨_, rfl⟩
    rw [← hs] at hr hE hI h
    by_cases c1 : s.f3 < 0 ∧ ¬ s.f2 = 0
    · have hbad : badS s = true := by unfold badS; simp [c1.1, c1.2]
      rw [hbad] at h
      rcases h with ⟨_, h⟩ | ⟨h, _⟩
      · refine Ev.step (f := fun k => some []) (fun k => ?_) (by rw [h]; exact Ev.now _)
        rw [impl_EncodeDesc.l1, hp, if_pos (by omega), if_pos (by omega), hr, if_pos c1]
      · simp at h
    · have hbad : badS s = false := by
        unfold badS
        by_cases c2 : s.f3 < 0
        · have : s.f2 = 0 := Decidable.byContradiction fun h_ => c1 ⟨c2, h_⟩
          simp [this]
        · simp [c2]
      rw [hbad, Bool.false_or] at h
      rw [List.append_assoc] at hI
      refine Ev.step (fun k => ?_) (five_ev (g := fun k t => impl_EncodeDesc.l1 k l i t s.f0 s.f1 (if s.f3 < 0 then f else s.f2) ((j + 1 : Nat) : Int)) (r := r) s b x y f (by omega) (hI h))
      rw [impl_EncodeDesc.l1, hp, if_pos (by omega), if_pos (by omega), hr, if_neg c1, hw]
      rfl
theorem impl_desc_ev (l : List (List S81)) (hl : l.length ≤ 1048576) (hm : ∀ x ∈ l, x.length ≤ 1048576) : ∀ (d i : Nat) (b : List Int), l.length - i = d → i ≤ l.length → b.length + 52428900 * d ≤ 110000000000000 → Ev (fun k => impl_EncodeDesc.l0 k l b i) (encD (l.drop i) b) := by
  intro d
  induction d with
  | zero =>
    intro i b hd hi hb
    rw [List.drop_of_length_le (by omega), encD]
    refine Ev.step (fun k => ?_) (end_i b (by omega))
    rw [impl_EncodeDesc.l0, if_neg (by omega)]
  | succ d ih =>
    intro i b hd hi hb
    have hlt : i < l.length := by omega
    have hx := hm _ (List.getElem_mem hlt)
    have hp := rdSpotL_b l i hlt
    have hw : wrap64 ((i : Int) + 1) = ((i + 1 : Nat) : Int) := wrap_succ i (by omega)
    rw [List.drop_eq_getElem_cons hlt, encD]
    have h1 := NL_len (IntKind.u64.wrap (l[i].length : Int))
    have h2 := encP_len l[i] 0 0 0
    have hI := ih (i + 1) (b ++ (NL (IntKind.u64.wrap (l[i].length : Int)) ++ encP l[i] 0 0 0)) (by omega) (by omega) (by simp only [List.length_append]; omega)
    refine Ev.step (f := fun k => (spec_l15Num.f k b (IntKind.u64.wrap (l[i].length : Int))).bind fun t => impl_EncodeDesc.l1 k l i t 0 0 0 0) (fun k => ?_) ?_
    · rw [impl_EncodeDesc.l0, if_pos (by omega), if_pos (by omega), hp]
    · refine Ev.bind (num_u b _ (by omega)) ?_
      refine impl_page_ev l i l[i] hp hx _ l[i].length 0 _ 0 0 0 (by omega) (by omega) (by simp only [List.length_append]; omega) ?_
      rw [List.drop_zero]
      by_cases hb2 : l[i].any badS = true
      · exact .inl ⟨hb2, by rw [if_pos hb2]⟩
      · refine .inr ⟨by simpa using hb2, ?_⟩
        rw [if_neg hb2, hw, List.append_assoc]
        exact hI
theorem spec_page_ev (l : List (List S81)) (i : Nat) (hi : i < l.length) (hl : l.length ≤ 1048576) (p : List S81) (hp : rd_L4 l (i : Int) = p) (hpl : p.length ≤ 1048576) (b r : List Int) (hb : b.length ≤ 120000000000000) : ∀ (d j : Nat), p.length - j = d → j ≤ p.length →
    (((p.drop j).any badS = true ∧ r = []) ∨ ((p.drop j).any badS = false ∧ Ev (fun k => spec_EncodeDesc.l0 k l (b ++ (NL (IntKind.u64.wrap (p.length : Int)) ++ encP p 0 0 0)) (wrap64 ((i : Int) + 1))) r)) → Ev (fun k => spec_EncodeDesc.l1 k l b i j) r := by
  intro d
  induction d with
  | zero =>
    intro j hd hj h
    rw [List.drop_of_length_le (by omega)] at h
    rcases h with ⟨h, _⟩ | ⟨_, h⟩
    · simp at h
    · refine Ev.step (f := fun k => (spec_l15Page.f k b p).bind fun t => spec_EncodeDesc.l0 k l t (wrap64 ((i : Int) + 1))) (fun k => ?_) (Ev.bind (pageF_ev p hpl b hb) h)
      rw [spec_EncodeDesc.l1, if_pos (by omega), if_pos (by omega), hp, if_neg (by omega)]
  | succ d ih =>
    intro j hd hj h
    have hlt : j < p.length := by omega
    have hr : rd_T81 p (j : Int) = p[j] := by simp [rd_T81, hlt]
    have hw : wrap64 ((j : Int) + 1) = ((j + 1 : Nat) : Int) := wrap_succ j (by omega)
    rw [List.drop_eq_getElem_cons hlt, List.any_cons] at h
    have hI := ih (j + 1) (by omega) (by omega)
    obtain ⟨s, hs⟩ : ∃ s, s = p[j] := ⟨_, rfl⟩
    rw [← hs] at hr h
    by_cases c1 : s.f3 < 0
    · by_cases c2 : s.f2 = 0
      · have hbad : badS s = false := by unfold badS; simp [c2]
        rw [hbad, Bool.false_or] at h
        refine Ev.step (fun k => ?_) (hI h)
        rw [spec_EncodeDesc.l1, if_pos (by omega), if_pos (by omega), hp, if_pos (by omega), if_pos (by omega), hr, if_pos c1, if_pos c2, hw]
      · have hbad : badS s = true := by unfold badS; simp [c1, c2]
        rw [hbad] at h
        rcases h with ⟨_, h⟩ | ⟨h, _⟩
        · refine Ev.step (f := fun k => some []) (fun k => ?_) (by rw [h]; exact Ev.now _)
          rw [spec_EncodeDesc.l1, if_pos (by omega), if_pos (by omega), hp, if_pos (by omega), if_pos (by omega), hr, if_pos c1, if_neg c2]
        · simp at h
    · have hbad : badS s = false := by unfold badS; simp [c1]
      rw [hbad, Bool.false_or] at h
      refine Ev.step (fun k => ?_) (hI h)
      rw [spec_EncodeDesc.l1, if_pos (by omega), if_pos (by omega), hp, if_pos (by omega), if_pos (by omega), hr, if_neg c1, hw]
theorem spec_desc_ev (l : List (List S81)) (hl : l.length ≤ 1048576) (hm : ∀ x ∈ l, x.length ≤ 1048576) : ∀ (d i : Nat) (b : List Int), l.length - i = d → i ≤ l.length → b.length + 52428900 * d ≤ 110000000000000 → Ev (fun k => spec_EncodeDesc.l0 k l b i) (encD (l.drop i) b) := by
  intro d
  induction d with
  | zero =>
    intro i b hd hi hb
    rw [List.drop_of_length_le (by omega), encD]
    refine Ev.step (f := fun k => (spec_l15End.f k b).bind fun t => some t) (fun k => ?_) (Ev.bind (end_s b (by omega)) (Ev.now _))
    rw [spec_EncodeDesc.l0, if_neg (by omega)]
  | succ d ih =>
    intro i b hd hi hb
    have hlt : i < l.length := by omega
    have hx := hm _ (List.getElem_mem hlt)
    have hp := rdSpotL_b l i hlt
    have hw : wrap64 ((i : Int) + 1) = ((i + 1 : Nat) : Int) := wrap_succ i (by omega)
    rw [List.drop_eq_getElem_cons hlt, encD]
    have h1 := NL_len (IntKind.u64.wrap (l[i].length : Int))
    have h2 := encP_len l[i] 0 0 0
    have hI := ih (i + 1) (b ++ (NL (IntKind.u64.wrap (l[i].length : Int)) ++ encP l[i] 0 0 0)) (by omega) (by omega) (by simp only [List.length_append]; omega)
    refine Ev.step (f := fun k => spec_EncodeDesc.l1 k l b i 0) (fun k => by rw [spec_EncodeDesc.l0, if_pos (by omega)]) ?_
    refine spec_page_ev l i hlt hl l[i] hp hx b _ (by omega) l[i].length 0 (by omega) (by omega) ?_
    rw [List.drop_zero]
    by_cases hb2 : l[i].any badS = true
    · exact .inl ⟨hb2, by rw [if_pos hb2]⟩
    · refine .inr ⟨by simpa using hb2, ?_⟩
      rw [if_neg hb2, hw]
      exact hI
def encF (l : List (List S81)) (ok : Bool) : List Int := if ok = true then encD l ([81, 80, 68, 49] ++ NL (IntKind.u64.wrap (l.length : Int))) else []
theorem encD_len : ∀ (l : List (List S81)) (b : List Int), (∀ x ∈ l, x.length ≤ 1048576) → (encD l b).length ≤ b.length + 52428900 * l.length + 2 := by
  intro l
  induction l with
  | nil => intro b _; simp [encD, finL]
  | cons p ps ih =>
    intro b hm
    rw [encD]
    split
    · simp
    · have h1 := NL_len (IntKind.u64.wrap (p.length : Int))
      have h2 := encP_len p 0 0 0
      have hx := hm p (by simp)
      have := ih (b ++ (NL (IntKind.u64.wrap (p.length : Int)) ++ encP p 0 0 0)) (fun x h => hm x (by simp [h]))
      simp only [List.length_append] at this
      rw [List.length_cons]
      omega
theorem encF_len (l : List (List S81)) (hl : l.length ≤ 1048576) (hm : ∀ x ∈ l, x.length ≤ 1048576) (ok : Bool) : (encF l ok).length ≤ 60000000000000 := by
  unfold encF
  split
  · have h1 := NL_len (IntKind.u64.wrap (l.length : Int))
    have := encD_len l ([81, 80, 68, 49] ++ NL (IntKind.u64.wrap (l.length : Int))) hm
    simp only [List.length_append, List.length_cons, List.length_nil] at this
    omega
  · simp
theorem enc_both (l : List (List S81)) (hl : l.length ≤ 1048576) (hm : ∀ x ∈ l, x.length ≤ 1048576) : ∃ ok, Ev (fun k => spec_EncodeDesc.f k l) (encF l ok) ∧ Ev (fun k => impl_EncodeDesc.f k l) (encF l ok) := by
  obtain ⟨ok, hb⟩ := desc_both l hl hm
  have hs : Ev (fun k => spec_DescOk.f k l) ok := ⟨l.length + 1048578, fun k hk => (hb k (by omega)).1⟩
  have hi : Ev (fun k => impl_DescOk.f k l) ok := ⟨l.length + 1048578, fun k hk => (hb k (by omega)).2⟩
  have h1 := NL_len (IntKind.u64.wrap (l.length : Int))
  refine ⟨ok, ?_, ?_⟩
  · unfold spec_EncodeDesc.f encF
    refine Ev.bind hs ?_
    cases ok with
    | false => simp only [Bool.false_eq_true, if_false]; exact Ev.now _
    | true =>
      simp only [if_true]
      refine Ev.bind (num_u [81, 80, 68, 49] _ (by simp)) ?_
      have := spec_desc_ev l hl hm l.length 0 ([81, 80, 68, 49] ++ NL (IntKind.u64.wrap (l.length : Int))) (by omega) (by omega) (by simp only [List.length_append, List.length_cons, List.length_nil]; omega)
      rw [List.drop_zero] at this
      exact this
  · unfold impl_EncodeDesc.f encF
    refine Ev.bind hi ?_
    cases ok with
    | false => simp only [Bool.false_eq_true, if_false]; exact Ev.now _
    | true =>
      simp only [if_true]
      refine Ev.bind (num_u [81, 80, 68, 49] _ (by simp)) ?_
      have := impl_desc_ev l hl hm l.length 0 ([81, 80, 68, 49] ++ NL (IntKind.u64.wrap (l.length : Int))) (by omega) (by omega) (by simp only [List.length_append, List.length_cons, List.length_nil]; omega)
      rw [List.drop_zero] at this
      exact this
theorem markSpotSS_ev : ∀ d : Nat, ∀ (l : List (List S81)) (i : Nat) (q : Int), l.length - i = d → i ≤ l.length → l.length ≤ 1048576 → (∀ x ∈ l, x.length ≤ 1048576) → 0 ≤ q → q ≤ 4398046511104 + 6291456 * i → ∃ r, Ev (fun k => laws_markSpotSS.l0 k l q i) r ∧ 0 ≤ r := by
  intro d
  induction d with
  | zero =>
    intro l i q hd hi hl hm h0 h1
    exact ⟨q, Ev.step (f := fun k => some q) (fun k => by rw [laws_markSpotSS.l0, if_neg (by omega)]) (Ev.now _), h0⟩
  | succ d ih =>
    intro l i q hd hi hl hm h0 h1
    have hlt : i < l.length := by omega
    have hx := hm l[i] (List.getElem_mem hlt)
    obtain ⟨l', hmk⟩ := markSpotS_f l[i] q h0 (by omega)
    obtain ⟨l2, g1, g2, _⟩ := markSpotS_l0 q l[i].length h0 (by omega) l[i].length (l[i].length + 1) 0 l[i] (by omega) (by omega) rfl (by omega) (fun j h => by omega)
    have hlen : l'.length = l[i].length := by
      have e := hmk (l[i].length + 1) (by omega)
      unfold laws_markSpotS.f at e
      have g3 : laws_markSpotS.l0 (l[i].length + 1) l[i] q 0 = some (q + 6 * (l[i].length : Int), l2) := by simpa using g1
      rw [g3] at e
      injection e with e
      injection e with _ e
      rw [← e]; exact g2
    obtain ⟨r, hr, hr0⟩ := ih (l.set i l') (i + 1) (q + 6 * (l[i].length : Int)) (by rw [List.length_set]; omega) (by rw [List.length_set]; omega) (by rw [List.length_set]; omega) (by
      intro x hx'
      rcases List.mem_or_eq_of_mem_set hx' with h | h
      · exact hm x h
      · rw [h, hlen]; exact hx) (by omega) (by omega)
    refine ⟨r, Ev.step (f := fun k => (laws_markSpotS.f k l[i] q).bind fun bt => laws_markSpotSS.l0 k (l.set i bt.2) bt.1 ((i + 1 : Nat) : Int)) (fun k => ?_) (Ev.bind ⟨l[i].length + 1, fun k hk => hmk k (by omega)⟩ hr), hr0⟩
    rw [laws_markSpotSS.l0, if_pos (by omega), if_pos (by omega), Int.toNat_natCast, show l.getD i [] = l[i] by simp [hlt], wrap_succ i (by omega)]

theorem FnExactEncodeDesc : laws_FnExactEncodeDesc.Pure := by
  intro l0 hl0 hw
  obtain ⟨r, hr, hc⟩ := szSpotSS_f l0 hl0 (fun x hx => (hw x hx).1) 1048576 (by omega) (by omega)
  rcases hc with hc | ⟨hr0, hl, hm⟩
  · refine ⟨1048578, ?_⟩
    unfold laws_FnExactEncodeDesc.f
    rw [hr 1048578 (.inr ⟨hc, by omega⟩)]
    simp only [Option.bind_some]
    rw [if_pos hc]
  · have hm' : ∀ x ∈ l0.map (fun x => x.map cvSpot), x.length ≤ 1048576 := by
      intro x hx
      obtain ⟨y, hy, rfl⟩ := List.mem_map.1 hx
      simpa using hm y hy
    have hl' : (l0.map (fun x => x.map cvSpot)).length ≤ 1048576 := by simpa using hl
    obtain ⟨ok, hS, hI⟩ := enc_both (l0.map (fun x => x.map cvSpot)) hl' hm'
    have hlen := encF_len (l0.map (fun x => x.map cvSpot)) hl' hm' ok
    have hT : Ev (fun k => laws_toSpotSS.f k l0) (l0.map (fun x => x.map cvSpot)) := ⟨l0.length + 1048578, fun k hk => toSpotSS_f l0 hl hm k (by omega)⟩
    have hE : Ev (fun k => laws_eqSpotSS.f k (l0.map (fun x => x.map cvSpot)) (l0.map (fun x => x.map cvSpot))) true := ⟨l0.length + 1048578, fun k hk => eqSpotSS_f _ (by omega) hm' k (by simp; omega)⟩
    obtain ⟨q, hq, hq0⟩ := markSpotSS_ev (l0.map (fun x => x.map cvSpot)).length (l0.map (fun x => x.map cvSpot)) 0 1 (by omega) (by omega) hl' hm' (by omega) (by omega)
    generalize l0.map (fun x => x.map cvSpot) = P at *
    generalize encF P ok = b at *
    have hB : Ev (fun k => laws_eqByteS.f k b b) true := ⟨b.length + 1, fun k hk => eqByteS_f b (by omega) k (by omega)⟩
    obtain ⟨b', hmk, hhd⟩ := markByteS_f b 1 (by omega) (by omega)
    have hM : Ev (fun k => laws_markByteS.f k b 1) (1 + (b.length : Int), b') := ⟨b.length + 1, fun k hk => hmk k (by omega)⟩
    have hH : Ev (fun k => laws_heldByteS.f k b' 1) (1 + (b.length : Int)) := ⟨b.length + 1, fun k hk => hhd k (by omega)⟩
    have hJ : Ev (fun k => laws_FnExactEncodeDesc.j0 k l0 b b false) true := by
      refine Ev.step (fun k => by rw [laws_FnExactEncodeDesc.j0, if_neg (by decide)]) ?_
      refine Ev.bind hM (Ev.bind hH ?_)
      have hq1 : ¬ (1 + (b.length : Int) < 0) := by omega
      simp only [if_neg hq1, if_true]
      refine Ev.bind hT (Ev.bind hI (Ev.bind hB ?_))
      simp only [if_true]
      refine Ev.bind hH ?_
      simp only [if_neg hq1, if_true]
      exact Ev.now _
    refine Ev.rounds ?_
    unfold laws_FnExactEncodeDesc.f
    refine Ev.bind ⟨l0.length + 1, fun k hk => hr k (.inl (by omega))⟩ ?_
    have hr1 : ¬ (r < 0) := by omega
    have hq1 : ¬ (q < 0) := by omega
    simp only [if_neg hr1]
    refine Ev.bind hT (Ev.bind hS (Ev.bind hT (Ev.bind hI (Ev.bind hB ?_))))
    simp only [if_true]
    refine Ev.bind hT (Ev.bind hE ?_)
    simp only [if_true]
    refine Ev.bind (g := fun k => laws_markSpotSS.f k P 1) hq ?_
    simp only [if_neg hq1]
    refine Ev.bind hB ?_
    exact hJ

end Go.Proofs.Ytngmkpediibhjaa.Pure
