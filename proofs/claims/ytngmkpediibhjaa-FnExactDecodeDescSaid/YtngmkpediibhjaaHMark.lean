import Derived.Test.YtngmkpediibhjaaPFnExactDecodeDescx2
import Derived.Test.YtngmkpediibhjaaPFnExactDecodeDescx7
namespace Go.Proofs.Ytngmkpediibhjaa.PFnExactDecodeDesc
open Go.RowKit Go.Proofs.YtngmkpediibhjaaW.PrintWords Go.Proofs.YtngmkpediibhjaaW.PrintLast Go.Proofs.YtngmkpediibhjaaW.PrintMore
attribute [local go_sem] max2_int min2_int max_two min_two max_three min_three max_four min_four   -- for this text's walks alone
set_option linter.unusedVariables false
set_option linter.unusedSimpArgs false

/-! markSpotSS: what it counts, and the marked list -/
def laws_markSpotSS.m0 : Nat → List (List (S81)) → Int → Int → Option (List (List S81))
  | 0, _, _, _ => none
  | k + 1, x0, x1, x4 => if x4 < (x0.length : Int) then (if 0 ≤ x4 then ((laws_markSpotS.f k (x0.getD x4.toNat []) x1).bind fun bt => (laws_markSpotSS.m0 k (x0.set x4.toNat bt.2) bt.1 (wrap64 (x4 + 1)))) else none) else (some x0)
theorem laws_markSpotSS.mono_m : ∀ k, ∀ y0 y1 y2, LeO (laws_markSpotSS.m0 k y0 y1 y2) (laws_markSpotSS.m0 (k + 1) y0 y1 y2)
  | 0 => fun _ _ _ r h => by simp [laws_markSpotSS.m0] at h
  | k + 1 => by
    have ih0 := laws_markSpotSS.mono_m k
    · intro y0 y1 y2
      unfold laws_markSpotSS.m0
      repeat' first
      | (with_reducible exact ih0 _ _ _)
      | (with_reducible exact laws_markSpotS.mono _ _ _)
      | (with_reducible exact LeO.refl _)
      | (with_reducible exact LeO.none _)
      | (with_reducible refine LeO.ite ?_ ?_)
      | (with_reducible refine LeO.bind ?_ (fun _ => ?_))
set_option maxHeartbeats 8000000 in
set_option maxRecDepth 100000 in
theorem laws_markSpotSS.callsM (k : Nat) (P0_ : Nat → Prop) (u0_ : Value) (l0 : List (List (S81))) (a1 : Int) (r1 : Int) (r2 : List (List S81)) (w0 w : World) (hB : Below w0.heap.size w0 w) (ho0 : Kd.S (Kd.slice 81 k81) 79 w w0.heap.size P0_ u0_ l0) (hl0 : l0.length ≤ 9223372036854775807) (h : laws_markSpotSS.f k l0 a1 = some r1) (hm : laws_markSpotSS.m0 k l0 a1 0 = some r2) :
    Calls Try.prog 21 #[u0_, .int .i64 a1] w fun e w' => e = .returned (.int .i64 r1) ∧ Kd.S (Kd.slice 81 k81) 79 w' w0.heap.size (fun k_ => P0_ k_ ∨ w.heap.size ≤ k_) u0_ r2 ∧ Below w0.heap.size w0 w' ∧ Kept w w' (fun k_ => P0_ k_) := by
  obtain ⟨A0, c0, rfl⟩ := Kd.S_slice ho0
  have HO0 := Aside0.mk (Kd.S_mono ho0 (ok' := fun k_ => P0_ k_ ∨ w.heap.size ≤ k_) (fun _ hk => .inl hk))
  have HK := Aside0.mk (Kept.refl w (fun k_ => P0_ k_))
  have HB := Aside0.mk hB
  have H' := Aside0.mk (show laws_markSpotSS.l0 k l0 a1 0 = some r1 from h)
  have M' := Aside0.mk hm
  clear h ho0 hB hm
  go_enter Try.func21, Try.ntmps21
  go_wp2
  go_loopg [1, 5] k (fun kq v1 v5 W => ∃ (x0 : List (List (S81))) (x1 x4 : Int), v1 = .int .i64 x1 ∧ v5 = .int .i64 x4 ∧ Aside0 (x0.length = l0.length) ∧ Aside0 (laws_markSpotSS.l0 kq x0 x1 x4 = some r1) ∧ Aside0 (laws_markSpotSS.m0 kq x0 x1 x4 = some r2) ∧ Aside0 (kq ≤ k) ∧ Aside0 (Kd.S (Kd.slice 81 k81) 79 W w0.heap.size (fun k_ => P0_ k_ ∨ w.heap.size ≤ k_) (.slice A0 l0.length c0) x0) ∧ Aside0 (Below w0.heap.size w0 W) ∧ Aside0 (Kept w W (fun k_ => P0_ k_)))
  case atStart => exact ⟨l0, a1, 0, rfl, rfl, ⟨rfl⟩, H', M', ⟨Nat.le_refl _⟩, HO0, HB, HK⟩
  case round =>
    clear H' M' HO0 HB HK
    obtain ⟨x0, x1, x4, rfl, rfl, HLEN, HA, MA, HK1, HO, HB, HK⟩ := hrel
    cases gk with
    | zero => exact absurd HA.out (by simp [laws_markSpotSS.l0])
    | succ k1 =>
      have H := HA.out
      have M := MA.out
      clear HA MA
      simp only [laws_markSpotSS.l0] at H
      simp only [laws_markSpotSS.m0] at M
      rw [HLEN.out] at H M
      by_cases c5 : x4 < (l0.length : Int)
      · rw [if_pos c5] at H M
        have c5b0 : decide (x4 < (l0.length : Int)) = true := decide_eq_true c5
        by_cases c6 : 0 ≤ x4
        · rw [if_pos c6] at H M
          obtain ⟨⟨t1, t2⟩, A70, H⟩ := Option.bind_eq_some_iff.mp H
          rw [A70] at M
          have H' := Aside0.mk H
          have M' := Aside0.mk (show laws_markSpotSS.m0 k1 (x0.set x4.toNat t2) t1 (wrap64 (x4 + 1)) = some r2 from M)
          have A7 := Aside0.mk A70
          clear H A70 M
          obtain ⟨g, cap, eo, gb, gl, cl, hcl⟩ := Kd.S_form HO.out (by have := HLEN.out; omega)
          rw [HLEN.out] at eo
          injection eo with ea en ec
          subst ea; subst ec
          obtain ⟨oki, v, hR, hcell, hoki, hback⟩ := laws_markSpotSS.row_ HO.out x4 c6 c5
          have HR := Aside0.mk hR
          have HOKI := Aside0.mk hoki
          have HBACK := Aside0.mk hback
          clear hR hoki hback gb gl hcl
          have C5 := Aside0.mk c5
          have C6 := Aside0.mk c6
          replace c5 := eq_true c5
          replace c6 := eq_true c6
          go_wp2_with (first
            | ((with_reducible refine gate_callee (f := 54) rfl ?_); refine goesL_ (some 17) rfl rfl Try.func54 (by kernel_rfl) rfl #[v, .int .i64 x1] rfl (by (try simp only [List.map_toArray, List.map_cons, List.map_nil]); first | done | rfl | (simp only [List.length_drop, List.length_take]; rfl)) ?_; (with_reducible refine (laws_markSpotS.calls k1 oki v _ x1 t1 t2 w0 _ HB.out HR.out A7.out).mono ?_); rintro e w3 ⟨rfl, hr3, hb3, hk3⟩; refine ⟨_, rfl, ?_⟩; have n0_ := Aside0.mk (HBACK.out w3 t2 hk3 (Kd.R_mono hr3 (fun k_ hk_ => hk_.imp (fun h_ => h_) (fun h_ => ⟨.inr (Nat.le_trans HK.out.1 h_), h_⟩)))); have n1_ := Aside0.mk hb3; have n2_ := Aside0.mk (Kept.then_ HK.out hk3 (fun k_ hk_ => (HOKI.out k_ hk_).1)); clear HO HB HK HR HBACK hr3 hb3 hk3; have HO := n0_; have HB := n1_; have HK := n2_; clear n0_ n1_ n2_))
          go_roundg k1
          case measure => have := HK1.out; omega
          case rel => exact ⟨x0.set x4.toNat t2, t1, wrap64 (x4 + 1), rfl, (by first | rfl | (simp; done) | (simp [*]; done)), ⟨by rw [List.length_set]; exact HLEN.out⟩, ⟨by have e_ := H'.out; exact e_⟩, M', ⟨by have := HK1.out; omega⟩, HO, HB, HK⟩
        · rw [if_neg c6] at H
          cases H
      · rw [if_neg c5] at H M
        have c5b0 : decide (x4 < (l0.length : Int)) = false := decide_eq_false c5
        obtain rfl := Option.some.inj H
        obtain rfl := Option.some.inj M
        go_wp2
        go_ret
        exact ⟨rfl, HO.out, HB.out, HK.out⟩

/-- What was made ahead of a call and what the call made: told apart by a bound. -/
theorem split2 {α β : Type} {d : Kd α} {d' : Kd β} {e e' : Nat} {W w1 : World} {base : Nat} {ok ok' : Nat → Prop} {u v : Value} {xs : List α} {ys : List β} (h3 : Kd.S d e W base ok u xs) (h6 : Kd.S d' e' w1 W.heap.size ok' v ys) (hb : Below W.heap.size W w1) (hbase : base ≤ W.heap.size) :
    ∃ NA : Nat, Kd.S d e w1 base (fun k => k < NA) u xs ∧ Kd.S d' e' w1 base (fun k => NA ≤ k) v ys :=
  ⟨W.heap.size, Kd.S_below (Kd.S_mono (Kd.S_bound h3) (fun _ hk => hk.2.2.1)) hb, Kd.S_lower (Kd.S_mono (Kd.S_bound h6) (fun _ hk => hk.2.1)) hbase⟩
theorem laws_heldSpotSS.callsN (k : Nat) (A0 : Option Addr) (c0 : Nat) (l0 : List (List (S81))) (n : Nat) (a1 : Int) (r : Int) (w : World) (hn : n = l0.length) (hr0 : Kd.C (Kd.slice 81 k81) w A0 l0.length l0) (hc0 : n ≤ c0) (h : laws_heldSpotSS.f k l0 a1 = some r) :
    Calls Try.prog 27 #[.slice A0 n c0, .int .i64 a1] w fun e w' => e = .returned (.int .i64 r) ∧ Drawn0 w w' := by
  subst hn
  exact laws_heldSpotSS.calls k A0 c0 l0 a1 r w hr0 hc0 h
end Go.Proofs.Ytngmkpediibhjaa.PFnExactDecodeDesc
