/- The pure statement of FnExactDecodeDesc: both sides read the same. No condition. -/
import Derived.Test.YtngmkpediibhjaaPureDecE
namespace Go.Proofs.Ytngmkpediibhjaa.Pure
open Go.RowKit Go.Proofs.Ytngmkpediibhjaa.PFnExactDecodeDesc Go.Proofs.Ytngmkpediibhjaa.Kit Go.Proofs.YtngmkpediibhjaaW.PrintWords Go.Proofs.YtngmkpediibhjaaW.PrintLast Go.Proofs.YtngmkpediibhjaaW.PrintMore
set_option linter.unusedVariables false
set_option linter.unusedSimpArgs false

theorem eqSpotS_l0 (l : List S81) (hl : l.length ≤ 9223372036854775806) : ∀ d k i : Nat, l.length - i = d → i ≤ l.length → d < k → laws_eqSpotS.l0 k l l i = some true := by
  intro d
  induction d with
  | zero =>
    intro k i hd hi hk
    obtain ⟨k, rfl⟩ : ∃ m, k = m + 1 := ⟨k - 1, by omega⟩
    rw [laws_eqSpotS.l0, if_neg (by omega)]
  | succ d ih =>
    intro k i hd hi hk
    obtain ⟨k, rfl⟩ : ∃ m, k = m + 1 := ⟨k - 1, by omega⟩
    rw [laws_eqSpotS.l0, if_pos (by omega), if_pos (by omega), if_pos (by omega)]
    simp only [laws_eqSpot.f, if_true, Option.bind_some]
    rw [wrap_succ i (by omega)]
    exact ih k (i + 1) (by omega) (by omega) (by omega)
theorem eqSpotS_f (l : List S81) (hl : l.length ≤ 9223372036854775806) (k : Nat) (hk : l.length < k) : laws_eqSpotS.f k l l = some true := by
  unfold laws_eqSpotS.f
  rw [if_pos rfl]
  exact eqSpotS_l0 l hl l.length k 0 (by omega) (by omega) hk
def MSpot (q : Int) : S81 := ⟨q, q + 1, q + 2, q + 3, q + 4, q + 5⟩
theorem rdsetSpot_eq (x : List S81) (i : Nat) (v : S81) (h : i < x.length) : rd_T81 (x.set i v) (i : Int) = v := by simp [rd_T81, h]
theorem rdsetSpot_ne (x : List S81) (i j : Nat) (v : S81) (h : i ≠ j) : rd_T81 (x.set i v) (j : Int) = rd_T81 x (j : Int) := by simp [rd_T81, List.getElem?_set_ne h]
theorem markSpotS_l0 (q0 : Int) (n : Nat) (h0 : 0 ≤ q0) (hq : q0 + 6 * n ≤ 4611686018427387904) : ∀ d k i : Nat, ∀ x : List S81, n - i = d → i ≤ n → x.length = n → d < k → (∀ j : Nat, j < i → rd_T81 x (j : Int) = (MSpot (q0 + 6 * j))) →
    ∃ l', laws_markSpotS.l0 k x (q0 + 6 * i) i = some (q0 + 6 * n, l') ∧ l'.length = n ∧ ∀ j : Nat, j < n → rd_T81 l' (j : Int) = (MSpot (q0 + 6 * j)) := by
  intro d
  induction d with
  | zero =>
    intro k i x hd hi hx hk hj
    obtain ⟨k, rfl⟩ : ∃ m, k = m + 1 := ⟨k - 1, by omega⟩
    obtain rfl : i = n := by omega
    exact ⟨x, by rw [laws_markSpotS.l0, if_neg (by omega)], hx, hj⟩
  | succ d ih =>
    intro k i x hd hi hx hk hj
    obtain ⟨k, rfl⟩ : ∃ m, k = m + 1 := ⟨k - 1, by omega⟩
    have hlt : i < x.length := by omega
    rw [laws_markSpotS.l0, if_pos (by omega), if_pos (by omega)]
    rw [Option.bind_some]
    simp only [Int.toNat_natCast, List.set_set, List.length_set, rdsetSpot_eq x i _ hlt]
    rw [Option.bind_some]
    simp only [Int.toNat_natCast, List.set_set, List.length_set, rdsetSpot_eq x i _ hlt]
    rw [Option.bind_some]
    simp only [Int.toNat_natCast, List.set_set, List.length_set, rdsetSpot_eq x i _ hlt]
    rw [Option.bind_some]
    simp only [Int.toNat_natCast, List.set_set, List.length_set, rdsetSpot_eq x i _ hlt]
    rw [Option.bind_some]
    simp only [Int.toNat_natCast, List.set_set, List.length_set, rdsetSpot_eq x i _ hlt]
    simp only [show wrap64 (q0 + 6 * (i : Int) + 1) = q0 + 6 * (i : Int) + 1 from by unfold wrap64; omega, show wrap64 (q0 + 6 * (i : Int) + 1 + 1) = q0 + 6 * (i : Int) + 2 from by unfold wrap64; omega, show wrap64 (q0 + 6 * (i : Int) + 2 + 1) = q0 + 6 * (i : Int) + 3 from by unfold wrap64; omega, show wrap64 (q0 + 6 * (i : Int) + 3 + 1) = q0 + 6 * (i : Int) + 4 from by unfold wrap64; omega, show wrap64 (q0 + 6 * (i : Int) + 4 + 1) = q0 + 6 * (i : Int) + 5 from by unfold wrap64; omega, show wrap64 (q0 + 6 * (i : Int) + 5 + 1) = q0 + 6 * (i : Int) + 6 from by unfold wrap64; omega]
    rw [wrap_succ i (by omega), show q0 + 6 * (i : Int) + 6 = q0 + 6 * ((i + 1 : Nat) : Int) by omega]
    refine ih k (i + 1) _ (by omega) (by omega) (by simpa using hx) (by omega) (fun j hlj => ?_)
    rcases Nat.lt_or_ge j i with h | h
    · rw [← hj j h, rdsetSpot_ne x i j _ (by omega)]
    · obtain rfl : j = i := by omega
      rw [rdsetSpot_eq x j _ hlt]
      rfl
theorem eqSpotSS_l0 (l : List (List S81)) (hl : l.length ≤ 9223372036854775806) (hm : ∀ x ∈ l, x.length ≤ 1048576) : ∀ d k i : Nat, l.length - i = d → i ≤ l.length → d + 1048577 < k → laws_eqSpotSS.l0 k l l i = some true := by
  intro d
  induction d with
  | zero =>
    intro k i hd hi hk
    obtain ⟨k, rfl⟩ : ∃ m, k = m + 1 := ⟨k - 1, by omega⟩
    rw [laws_eqSpotSS.l0, if_neg (by omega)]
  | succ d ih =>
    intro k i hd hi hk
    obtain ⟨k, rfl⟩ : ∃ m, k = m + 1 := ⟨k - 1, by omega⟩
    have hlt : i < l.length := by omega
    have hx := hm _ (List.getElem_mem hlt)
    rw [laws_eqSpotSS.l0, if_pos (by omega), if_pos (by omega), if_pos (by omega), rdSpotL_b l i hlt, eqSpotS_f l[i] (by omega) k (by omega)]
    simp only [if_true, Option.bind_some]
    rw [wrap_succ i (by omega)]
    exact ih k (i + 1) (by omega) (by omega) (by omega)
theorem eqSpotSS_f (l : List (List S81)) (hl : l.length ≤ 9223372036854775806) (hm : ∀ x ∈ l, x.length ≤ 1048576) (k : Nat) (hk : l.length + 1048577 < k) : laws_eqSpotSS.f k l l = some true := by
  unfold laws_eqSpotSS.f
  rw [if_pos rfl]
  exact eqSpotSS_l0 l hl hm l.length k 0 (by omega) (by omega) hk
theorem eqByteS_l0 (l : List Int) (hl : l.length ≤ 9223372036854775806) : ∀ d k i : Nat, l.length - i = d → i ≤ l.length → d < k → laws_eqByteS.l0 k l l i = some true := by
  intro d
  induction d with
  | zero =>
    intro k i hd hi hk
    obtain ⟨k, rfl⟩ : ∃ m, k = m + 1 := ⟨k - 1, by omega⟩
    rw [laws_eqByteS.l0, if_neg (by omega)]
  | succ d ih =>
    intro k i hd hi hk
    obtain ⟨k, rfl⟩ : ∃ m, k = m + 1 := ⟨k - 1, by omega⟩
    rw [laws_eqByteS.l0, if_pos (by omega), if_pos (by omega), if_pos (by omega), if_pos rfl, wrap_succ i (by omega)]
    exact ih k (i + 1) (by omega) (by omega) (by omega)
theorem eqByteS_f (l : List Int) (hl : l.length ≤ 9223372036854775806) (k : Nat) (hk : l.length < k) : laws_eqByteS.f k l l = some true := by
  unfold laws_eqByteS.f
  rw [if_pos rfl]
  exact eqByteS_l0 l hl l.length k 0 (by omega) (by omega) hk
theorem markSpotS_held (q0 : Int) (l : List S81) (h0 : 0 ≤ q0) (hq : q0 + 6 * l.length ≤ 4611686018427387904) (hj : ∀ j : Nat, j < l.length → rd_T81 l (j : Int) = MSpot (q0 + 6 * j)) : ∀ d i : Nat, l.length - i = d → i ≤ l.length → Ev (fun k => laws_heldSpotS.l0 k l (q0 + 6 * (i : Int)) i) (q0 + 6 * (l.length : Int)) := by
  intro d
  induction d with
  | zero =>
    intro i hd hi
    obtain rfl : i = l.length := by omega
    exact Ev.step (f := fun _ => some (q0 + 6 * (l.length : Int))) (fun k => by rw [laws_heldSpotS.l0, if_neg (by omega)]) (Ev.now _)
  | succ d ih =>
    intro i hd hi
    have hr := hj i (by omega)
    refine Ev.step (fun k => ?_) (ih (i + 1) (by omega) (by omega))
    rw [laws_heldSpotS.l0, if_pos (by omega), if_pos (by omega), hr]
    simp only [MSpot]
    simp only [show wrap64 (q0 + 6 * (i : Int) + 1) = q0 + 6 * (i : Int) + 1 from by unfold wrap64; omega, show wrap64 (q0 + 6 * (i : Int) + 1 + 1) = q0 + 6 * (i : Int) + 2 from by unfold wrap64; omega, show wrap64 (q0 + 6 * (i : Int) + 2 + 1) = q0 + 6 * (i : Int) + 3 from by unfold wrap64; omega, show wrap64 (q0 + 6 * (i : Int) + 3 + 1) = q0 + 6 * (i : Int) + 4 from by unfold wrap64; omega, show wrap64 (q0 + 6 * (i : Int) + 4 + 1) = q0 + 6 * (i : Int) + 5 from by unfold wrap64; omega, show wrap64 (q0 + 6 * (i : Int) + 5 + 1) = q0 + 6 * (i : Int) + 6 from by unfold wrap64; omega, if_true]
    rw [wrap_succ i (by omega), show q0 + 6 * (i : Int) + 6 = q0 + 6 * ((i + 1 : Nat) : Int) by omega]
theorem markSpotS_ev (l : List S81) (q : Int) (h0 : 0 ≤ q) (hq : q + 6 * l.length ≤ 4611686018427387904) : ∃ l', Ev (fun k => laws_markSpotS.f k l q) (q + 6 * (l.length : Int), l') ∧ l'.length = l.length ∧ Ev (fun k => laws_heldSpotS.f k l' q) (q + 6 * (l.length : Int)) := by
  obtain ⟨l', h1, h2, h3⟩ := markSpotS_l0 q l.length h0 hq l.length (l.length + 1) 0 l (by omega) (by omega) rfl (by omega) (fun j h => by omega)
  refine ⟨l', Ev.of (fun k => laws_markSpotS.mono l q k) (k := l.length + 1) ?_, h2, ?_⟩
  · unfold laws_markSpotS.f
    simpa using h1
  · have := markSpotS_held q l' h0 (by rw [h2]; exact hq) (fun j h => h3 j (by omega)) l'.length 0 (by omega) (by omega)
    rw [h2] at this
    unfold laws_heldSpotS.f
    simpa using this
theorem markSS_ev : ∀ (d : Nat) (l : List (List S81)) (i : Nat) (q : Int), l.length - i = d → i ≤ l.length → l.length ≤ 1000 → (∀ x ∈ l, x.length ≤ 20000) → 0 ≤ q → q ≤ 1 + 120000 * i → ∃ (q' : Int) (M : List (List S81)), Ev (fun k => laws_markSpotSS.l0 k l q i) q' ∧ Ev (fun k => laws_markSpotSS.m0 k l q i) M ∧ 0 ≤ q' ∧ M.length = l.length ∧ (∀ j : Nat, j < i → M[j]? = l[j]?) ∧ Ev (fun k => laws_heldSpotSS.l0 k M q i) q' := by
  intro d
  induction d with
  | zero =>
    intro l i q hd hi hl hm h0 h1
    refine ⟨q, l, Ev.step (f := fun _ => some q) (fun k => by rw [laws_markSpotSS.l0, if_neg (by omega)]) (Ev.now _), Ev.step (f := fun _ => some l) (fun k => by rw [laws_markSpotSS.m0, if_neg (by omega)]) (Ev.now _), h0, rfl, fun _ _ => rfl, Ev.step (f := fun _ => some q) (fun k => by rw [laws_heldSpotSS.l0, if_neg (by omega)]) (Ev.now _)⟩
  | succ d ih =>
    intro l i q hd hi hl hm h0 h1
    have hlt : i < l.length := by omega
    have hx := hm l[i] (List.getElem_mem hlt)
    obtain ⟨l', e1, e2, e3⟩ := markSpotS_ev l[i] q h0 (by omega)
    obtain ⟨q', M, g1, g2, g3, g4, g5, g6⟩ := ih (l.set i l') (i + 1) (q + 6 * (l[i].length : Int)) (by rw [List.length_set]; omega) (by rw [List.length_set]; omega) (by rw [List.length_set]; omega) (by
      intro x hx'
      rcases List.mem_or_eq_of_mem_set hx' with h | h
      · exact hm x h
      · rw [h, e2]; exact hx) (by omega) (by omega)
    rw [List.length_set] at g4
    have hget : l.getD i [] = l[i] := by simp [hlt]
    have hMi : rd_L3 M (i : Int) = l' := by
      have := g5 i (by omega)
      rw [List.getElem?_set_self hlt] at this
      unfold rd_L3
      rw [Int.toNat_natCast, List.getD_eq_getElem?_getD, this]
      rfl
    have hw := wrap_succ i (by omega)
    refine ⟨q', M, Ev.step (f := fun k => (laws_markSpotS.f k l[i] q).bind fun bt => laws_markSpotSS.l0 k (l.set i bt.2) bt.1 ((i + 1 : Nat) : Int)) (fun k => ?_) (Ev.bind e1 g1), Ev.step (f := fun k => (laws_markSpotS.f k l[i] q).bind fun bt => laws_markSpotSS.m0 k (l.set i bt.2) bt.1 ((i + 1 : Nat) : Int)) (fun k => ?_) (Ev.bind e1 g2), g3, g4, fun j hj => ?_, Ev.step (f := fun k => (laws_heldSpotS.f k l' q).bind fun t => if t < 0 then some (-1) else laws_heldSpotSS.l0 k M t ((i + 1 : Nat) : Int)) (fun k => ?_) (Ev.bind e3 ?_)⟩
    · rw [laws_markSpotSS.l0, if_pos (by omega), if_pos (by omega), Int.toNat_natCast, hget, hw]
    · rw [laws_markSpotSS.m0, if_pos (by omega), if_pos (by omega), Int.toNat_natCast, hget, hw]
    · have := g5 j (by omega)
      rw [List.getElem?_set_ne (by omega)] at this
      exact this
    · rw [laws_heldSpotSS.l0, if_pos (by omega), if_pos (by omega), hMi, hw]
    · exact Ev.neg (by omega) g6
theorem markByteS_ev (n : Nat) : ∀ (d i : Nat) (l : List Int) (q : Int), l.length - i = d → i ≤ l.length → l.length ≤ 1048576 → 0 ≤ q → q ≤ 1 + i → ∃ (l' : List Int), Ev (fun k => laws_markByteS.l0 k l q i) (q + d, l') := by
  intro d
  induction d with
  | zero =>
    intro i l q hd hi hl h0 h1
    exact ⟨l, Ev.step (f := fun _ => some (q + ((0 : Nat) : Int), l)) (fun k => by rw [laws_markByteS.l0, if_neg (by omega), show q + ((0 : Nat) : Int) = q from by omega]) (Ev.now _)⟩
  | succ d ih =>
    intro i l q hd hi hl h0 h1
    obtain ⟨l', h⟩ := ih (i + 1) (l.set i (q % 256)) (q + 1) (by rw [List.length_set]; omega) (by rw [List.length_set]; omega) (by rw [List.length_set]; omega) (by omega) (by omega)
    rw [show q + 1 + (d : Int) = q + ((d + 1 : Nat) : Int) from by omega] at h
    refine ⟨l', Ev.step (fun k => ?_) h⟩
    rw [laws_markByteS.l0, if_pos (by omega), if_pos (by omega), Int.toNat_natCast, show wrap64 (q + 1) = q + 1 from by unfold wrap64; omega, wrap_succ i (by omega)]
theorem toByteS_ev (l : List Int) (hl : l.length ≤ 1048576) : ∀ (d i : Nat), l.length - i = d → i ≤ l.length → Ev (fun k => laws_toByteS.l0 k l (l.take i ++ List.replicate (l.length - i) 0) i) l := by
  intro d
  induction d with
  | zero =>
    intro i hd hi
    refine Ev.step (f := fun _ => some l) (fun k => ?_) (Ev.now _)
    rw [laws_toByteS.l0, if_neg (by omega), show l.length - i = 0 from hd, List.take_of_length_le (by omega)]
    simp
  | succ d ih =>
    intro i hd hi
    refine Ev.step (fun k => ?_) (ih (i + 1) (by omega) (by omega))
    rw [laws_toByteS.l0, if_pos (by omega), if_pos (by omega), if_pos (by rw [List.length_append, List.length_take, List.length_replicate]; omega), Int.toNat_natCast, wrap_succ i (by omega)]
    have hlt : i < l.length := by omega
    have e : (l.take i ++ List.replicate (l.length - i) 0).set i (rd l (i : Int)) = l.take (i + 1) ++ List.replicate (l.length - (i + 1)) 0 := by
      rw [List.set_append_right _ _ (by rw [List.length_take]; omega), List.length_take, show i - min i l.length = 0 from by omega, show l.length - i = (l.length - (i + 1)) + 1 from by omega, List.replicate_succ, List.set_cons_zero, rd_nat l i hlt, List.take_succ_eq_append_getElem hlt, List.append_assoc]
      rfl
    rw [e]
theorem toByteS_f (l : List Int) (hl : l.length ≤ 1048576) : Ev (fun k => laws_toByteS.f k l) l := by
  have h := toByteS_ev l hl l.length 0 (by omega) (by omega)
  rw [List.take_zero, List.nil_append, Nat.sub_zero] at h
  unfold laws_toByteS.f
  refine Ev.pos (by omega) (Ev.pos (by omega) ?_)
  rw [Int.toNat_natCast]
  exact h
theorem iRes_small (b : List Int) (hb : ∀ j, 0 ≤ rd b j ∧ rd b j < 256) (hl : b.length ≤ 1048576) : (iRes b).1.length ≤ 1000 ∧ ∀ p ∈ (iRes b).1, p.length ≤ 20000 := by
  unfold iRes
  cases hq : iDec b with
  | none => simp
  | some o =>
    obtain ⟨hf, e⟩ := of_dec hb hl hq
    obtain ⟨f1, f2, f3⟩ := fine_in hf
    refine ⟨f1, ?_⟩
    have : ∀ (l : List (List S81)) (n : Int), 0 ≤ n → descR l n = true → ∀ p ∈ l, p.length ≤ 20000 := by
      intro l
      induction l with
      | nil => intro n _ _ p hp; simp at hp
      | cons q l ih =>
        intro n h0 hd p hp
        rw [descR] at hd
        by_cases h1 : n + (q.length : Int) > 20000
        · rw [if_pos h1] at hd; cases hd
        · rw [if_neg h1, Bool.and_eq_true] at hd
          rcases List.mem_cons.mp hp with h | h
          · rw [h]; omega
          · exact ih _ (by omega) hd.2 p h
    exact this o 0 (by decide) f2
theorem FnExactDecodeDesc : laws_FnExactDecodeDesc.Pure := by
  intro l0 hl0 hw
  by_cases hbig : (l0.length : Int) > 1048576
  · exact ⟨0, by unfold laws_FnExactDecodeDesc.f; rw [if_pos hbig]⟩
  · have hl : l0.length ≤ 1048576 := by omega
    have hall : l0.all (fun x => decide (0 ≤ x ∧ x < 256)) = true := by
      rw [List.all_eq_true]
      intro x hx
      have h := hw x hx
      simp only [Lit.wf, IntKind.min, IntKind.max, IntKind.signed, IntKind.bits, Bool.and_eq_true, decide_eq_true_eq] at h
      rw [decide_eq_true_eq]
      simp at h
      omega
    have hb := rd_in hall
    have hS := both l0 hb hl
    have hI : Ev (fun k => impl_DecodeDesc.f k l0) (iRes l0) := ⟨0, fun k _ => if_pos ⟨hl, hall⟩⟩
    obtain ⟨hP1, hP2⟩ := iRes_small l0 hb hl
    generalize iRes l0 = R at hS hI hP1 hP2
    obtain ⟨P, ok⟩ := R
    have hT := toByteS_f l0 hl
    have hE : Ev (fun k => laws_eqSpotSS.f k P P) true := ⟨P.length + 1048578, fun k hk => eqSpotSS_f P (by have : P.length ≤ 1000 := hP1; omega) (fun x hx => by have : x.length ≤ 20000 := hP2 x hx; omega) k (by omega)⟩
    have hB : Ev (fun k => laws_eqByteS.f k l0 l0) true := ⟨l0.length + 1, fun k hk => eqByteS_f l0 (by omega) k (by omega)⟩
    obtain ⟨b', hM⟩ := markByteS_ev 0 l0.length 0 l0 1 (by omega) (by omega) hl (by omega) (by omega)
    have hM2 : Ev (fun k => laws_markByteS.f k l0 1) (1 + (l0.length : Int), b') := hM
    obtain ⟨q, M, g1, g2, g3, g4, g5, g6⟩ := markSS_ev P.length P 0 1 (by omega) (by omega) hP1 hP2 (by omega) (by omega)
    have hq1 : ¬ q < 0 := by omega
    have hJ2 : Ev (fun k => laws_FnExactDecodeDesc.j2 k M q false) true := by
      refine Ev.step (fun k => by rw [laws_FnExactDecodeDesc.j2, if_neg (by decide)]) ?_
      refine Ev.bind (g := fun k => laws_heldSpotSS.f k M 1) g6 ?_
      refine Ev.neg hq1 (Ev.pos rfl (Ev.now _))
    have hJ1 : Ev (fun k => laws_FnExactDecodeDesc.j1 k l0 P ok P false) true := by
      refine Ev.step (fun k => by rw [laws_FnExactDecodeDesc.j1, if_neg (by decide)]) ?_
      refine Ev.bind (g := fun k => laws_markSpotSS.f k P 1) g1 ?_
      refine Ev.bind (g := fun k => laws_markSpotSS.m0 k P 1 0) g2 ?_
      refine Ev.bind (g := fun k => laws_heldSpotSS.f k M 1) g6 ?_
      refine Ev.neg hq1 (Ev.pos rfl ?_)
      refine Ev.bind hT (Ev.bind hI (Ev.bind hE ?_))
      refine Ev.pos rfl ?_
      rw [bne_self]
      exact hJ2
    have hJ0 : Ev (fun k => laws_FnExactDecodeDesc.j0 k l0 P ok l0 P ok false) true := by
      refine Ev.step (fun k => by rw [laws_FnExactDecodeDesc.j0, if_neg (by decide)]) ?_
      refine Ev.bind hT (Ev.bind hB ?_)
      refine Ev.pos rfl ?_
      refine Ev.bind hM2 ?_
      refine Ev.neg (by show ¬ (1 + (l0.length : Int) < 0); omega) ?_
      refine Ev.bind hE ?_
      refine Ev.pos rfl ?_
      rw [bne_self]
      exact hJ1
    refine Ev.rounds ?_
    unfold laws_FnExactDecodeDesc.f
    refine Ev.neg hbig ?_
    refine Ev.bind hT (Ev.bind hS (Ev.bind hT (Ev.bind hI (Ev.bind hE ?_))))
    refine Ev.pos rfl ?_
    rw [bne_self]
    exact hJ0
end Go.Proofs.Ytngmkpediibhjaa.Pure
