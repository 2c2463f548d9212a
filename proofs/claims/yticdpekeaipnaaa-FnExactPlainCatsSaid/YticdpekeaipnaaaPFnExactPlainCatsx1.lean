-- Written by this session's program over the kit's printer (wip/gen/gp.py): Lean checks it.
import Derived.Maps.Own
import Derived.Maps.RangeWalk
import Derived.Test.YticdpekeaipnaaaPFnExactPlainCatsx0
namespace Go.Proofs.Yticdpekeaipnaaa.PFnExactPlainCats
open Go.RowKit Go.Proofs.YticdpekeaipnaaaW.PrintWords Go.Proofs.YticdpekeaipnaaaW.PrintLast Go.Proofs.YticdpekeaipnaaaW.PrintMore
attribute [local go_sem] max2_int min2_int max_two min_two max_three min_three max_four min_four   -- for this text's walks alone
set_option linter.unusedVariables false
set_option linter.unusedSimpArgs false

/-! ### laws_eqInt64S: function 24 -/
def laws_eqInt64S.l0 : Nat → List Int → List Int → Int → Option (Bool)
  | 0, _, _, _ => none
  | k + 1, x0, x1, x5 => if x5 < (x0.length : Int) then (if 0 ≤ x5 then (if x5 < (x1.length : Int) then (if (rd x0 x5) = (rd x1 x5) then (laws_eqInt64S.l0 k x0 x1 (wrap64 (x5 + 1))) else (some false)) else (none)) else (none)) else (some true)
def laws_eqInt64S.f (k : Nat) (l0 : List Int) (l1 : List Int) : Option (Bool) := if (l0.length : Int) = (l1.length : Int) then (laws_eqInt64S.l0 k l0 l1 0) else (some false)
theorem laws_eqInt64S.mono_l : ∀ k, (∀ y0 y1 y2, LeO (laws_eqInt64S.l0 k y0 y1 y2) (laws_eqInt64S.l0 (k + 1) y0 y1 y2))
  | 0 => fun _ _ _ r h => by simp [laws_eqInt64S.l0] at h
  | k + 1 => by
    have ih0 := laws_eqInt64S.mono_l k
    · intro y0 y1 y2
      unfold laws_eqInt64S.l0
      repeat' first
      | (with_reducible exact ih0 _ _ _)
      | (with_reducible exact LeO.refl _)
      | (with_reducible exact LeO.none _)
      | (with_reducible refine LeO.ite ?_ ?_)
      | (with_reducible refine LeO.bind ?_ (fun _ => ?_))
      | exact ih0 _ _ _
      | exact LeO.none _
      | refine LeO.ite ?_ ?_
      | refine LeO.bind ?_ (fun _ => ?_)
theorem laws_eqInt64S.mono : ∀ a0 a1 k, LeO (laws_eqInt64S.f k a0 a1) (laws_eqInt64S.f (k + 1) a0 a1) := by
  intro a0 a1 k
  have ih0 := laws_eqInt64S.mono_l k
  unfold laws_eqInt64S.f
  repeat' first
      | (with_reducible exact ih0 _ _ _)
      | (with_reducible exact LeO.refl _)
      | (with_reducible exact LeO.none _)
      | (with_reducible refine LeO.ite ?_ ?_)
      | (with_reducible refine LeO.bind ?_ (fun _ => ?_))
      | exact ih0 _ _ _
      | exact LeO.none _
      | refine LeO.ite ?_ ?_
      | refine LeO.bind ?_ (fun _ => ?_)
set_option maxHeartbeats 8000000 in
set_option maxRecDepth 100000 in
theorem laws_eqInt64S.calls (k : Nat) (A0 : Option Addr) (c0 : Nat) (l0 : List Int) (A1 : Option Addr) (c1 : Nat) (l1 : List Int) (r : Bool) (w : World) (hr0 : Kd.C (Kd.int .i64) w A0 l0.length l0) (hc0 : l0.length ≤ c0) (hr1 : Kd.C (Kd.int .i64) w A1 l1.length l1) (hc1 : l1.length ≤ c1) (h : laws_eqInt64S.f k l0 l1 = some r) :
    Calls Try.prog 24 #[.slice A0 l0.length c0, .slice A1 l1.length c1] w fun e w' => e = .returned (.bool r) ∧ Drawn0 w w' := by
  have HR0 := Aside0.mk hr0
  have HC0 := Aside0.mk hc0
  clear hr0 hc0
  have HR1 := Aside0.mk hr1
  have HC1 := Aside0.mk hc1
  clear hr1 hc1
  have H : (if (l0.length : Int) = (l1.length : Int) then (laws_eqInt64S.l0 k l0 l1 0) else (some false)) = some r := h
  clear h
  by_cases c3 : (l0.length : Int) = (l1.length : Int)
  · rw [if_pos c3] at H
    have c3b0 : ((l0.length : Int) == (l1.length : Int)) = true := beq_iff_eq.mpr c3
    have c3b1 : ((l0.length : Int) != (l1.length : Int)) = false := bne_eq_false_iff_eq.mpr c3
    have c3b2 : (l0.length == l1.length) = true := by first | simpa using c3 | (simp at c3 ⊢; omega)
    clear c3
    have H' := Aside0.mk H
    clear H
    go_enter Try.func24, Try.ntmps24
    go_wp2
    repeat (go_quiet (fail); try go_wp2)
    go_loopg [5] k (fun kq v5 w' => ∃ (x5_1 : Int), v5 = .int .i64 x5_1 ∧ Aside0 (laws_eqInt64S.l0 kq l0 l1 x5_1 = some r) ∧ Aside0 (kq ≤ k) ∧ Drawn0 w w')
    case atStart => exact ⟨(0), (by first | rfl | (simp; done) | (simp [*]; done)), H', ⟨Nat.le_refl _⟩, by repeat (first | exact Drawn0.refl _ | apply Drawn0.step)⟩
    case round =>
      clear H'
      try clear c1
      try clear c2
      try clear p2
      try clear c3
      try clear c3b0
      try clear c3b1
      try clear c3b2
      obtain ⟨x5_1, rfl, HA, HK1, ⟨m1, rfl⟩⟩ := hrel
      cases gk with
      | zero => exact absurd HA.out (by simp [laws_eqInt64S.l0])
      | succ k1 =>
        have H := HA.out
        clear HA
        simp only [laws_eqInt64S.l0] at H
        by_cases c4 : x5_1 < (l0.length : Int)
        · rw [if_pos c4] at H
          have c4b0 : decide (x5_1 < (l0.length : Int)) = true := decide_eq_true c4
          clear c4
          by_cases c5 : 0 ≤ x5_1
          · rw [if_pos c5] at H
            have c5b0 : decide (0 ≤ x5_1) = true := decide_eq_true c5
            clear c5
            by_cases c6 : x5_1 < (l1.length : Int)
            · rw [if_pos c6] at H
              have c6b0 : decide (x5_1 < (l1.length : Int)) = true := decide_eq_true c6
              clear c6
              by_cases c7 : (rd l0 x5_1) = (rd l1 x5_1)
              · rw [if_pos c7] at H
                have c7b0 : ((rd l0 x5_1) == (rd l1 x5_1)) = true := beq_iff_eq.mpr c7
                have c7b1 : ((rd l0 x5_1) != (rd l1 x5_1)) = false := bne_eq_false_iff_eq.mpr c7
                clear c7
                have H' := Aside0.mk H
                clear H
                have p101 : 0 ≤ (x5_1 : Int) := of_decide_eq_true (by first | (with_reducible assumption) | assumption)
                have q101 : x5_1 < (l0.length : Int) := of_decide_eq_true (by first | (with_reducible assumption) | assumption)
                obtain ⟨ad101, e101, hx101_0⟩ := Kd.at_int HR0.out x5_1 p101 q101
                cases e101
                replace p101 := eq_true p101
                replace q101 := eq_true q101
                have p102 : 0 ≤ (x5_1 : Int) := of_decide_eq_true (by first | (with_reducible assumption) | assumption)
                have q102 : x5_1 < (l1.length : Int) := of_decide_eq_true (by first | (with_reducible assumption) | assumption)
                obtain ⟨ad102, e102, hx102_0⟩ := Kd.at_int HR1.out x5_1 p102 q102
                cases e102
                replace p102 := eq_true p102
                replace q102 := eq_true q102
                go_wp2
                repeat (go_quiet (fail); try go_wp2)
                go_roundg k1
                case measure => have := HK1.out; omega
                case rel => exact ⟨(wrap64 (x5_1 + 1)), (by first | rfl | (simp; done) | (simp [*]; done)), H', ⟨by have := HK1.out; omega⟩, by repeat (first | exact Drawn0.refl _ | apply Drawn0.step)⟩
              · rw [if_neg c7] at H
                have c7b0 : ((rd l0 x5_1) == (rd l1 x5_1)) = false := beq_eq_false_iff_ne.mpr c7
                have c7b1 : ((rd l0 x5_1) != (rd l1 x5_1)) = true := bne_iff_ne.mpr c7
                obtain rfl := Option.some.inj H
                have p101 : 0 ≤ (x5_1 : Int) := of_decide_eq_true (by first | (with_reducible assumption) | assumption)
                have q101 : x5_1 < (l0.length : Int) := of_decide_eq_true (by first | (with_reducible assumption) | assumption)
                obtain ⟨ad101, e101, hx101_0⟩ := Kd.at_int HR0.out x5_1 p101 q101
                cases e101
                replace p101 := eq_true p101
                replace q101 := eq_true q101
                have p102 : 0 ≤ (x5_1 : Int) := of_decide_eq_true (by first | (with_reducible assumption) | assumption)
                have q102 : x5_1 < (l1.length : Int) := of_decide_eq_true (by first | (with_reducible assumption) | assumption)
                obtain ⟨ad102, e102, hx102_0⟩ := Kd.at_int HR1.out x5_1 p102 q102
                cases e102
                replace p102 := eq_true p102
                replace q102 := eq_true q102
                go_wp2
                repeat (go_quiet (fail); try go_wp2)
                go_ret
                exact ⟨by first | rfl | (simp; done) | (simp [*]; done), by repeat (first | exact Drawn0.refl _ | apply Drawn0.step)⟩
            · rw [if_neg c6] at H
              exact absurd H (by simp)
          · rw [if_neg c5] at H
            exact absurd H (by simp)
        · rw [if_neg c4] at H
          have c4b0 : decide (x5_1 < (l0.length : Int)) = false := decide_eq_false c4
          clear c4
          obtain rfl := Option.some.inj H
          go_wp2
          repeat (go_quiet (fail); try go_wp2)
          go_ret
          exact ⟨by first | rfl | (simp; done) | (simp [*]; done), by repeat (first | exact Drawn0.refl _ | apply Drawn0.step)⟩
  · rw [if_neg c3] at H
    have c3b0 : ((l0.length : Int) == (l1.length : Int)) = false := beq_eq_false_iff_ne.mpr c3
    have c3b1 : ((l0.length : Int) != (l1.length : Int)) = true := bne_iff_ne.mpr c3
    have c3b2 : (l0.length == l1.length) = false := by first | simpa using c3 | (simp at c3 ⊢; omega)
    obtain rfl := Option.some.inj H
    go_enter Try.func24, Try.ntmps24
    go_wp2
    repeat (go_quiet (fail); try go_wp2)
    go_ret
    exact ⟨by first | rfl | (simp; done) | (simp [*]; done), by repeat (first | exact Drawn0.refl _ | apply Drawn0.step)⟩

/-! ### spec_l2Letter: function 71 -/
def spec_l2Letter.f (a0 : Int) : Option (Bool) := if a0 ≥ 97 then (if a0 ≤ 122 then (some true) else (if a0 ≥ 65 then (some (decide (a0 ≤ 90))) else (some false))) else (if a0 ≥ 65 then (some (decide (a0 ≤ 90))) else (some false))
set_option maxHeartbeats 8000000 in
set_option maxRecDepth 100000 in
theorem spec_l2Letter.calls (a0 : Int) (r : Bool) (w : World) (h : spec_l2Letter.f a0 = some r) :
    Calls Try.prog 71 #[.int .u8 a0] w fun e w' => e = .returned (.bool r) ∧ Drawn0 w w' := by
  have H : (if a0 ≥ 97 then (if a0 ≤ 122 then (some true) else (if a0 ≥ 65 then (some (decide (a0 ≤ 90))) else (some false))) else (if a0 ≥ 65 then (some (decide (a0 ≤ 90))) else (some false))) = some r := h
  clear h
  by_cases c2 : a0 ≥ 97
  · rw [if_pos c2] at H
    have c2b0 : decide (97 ≤ a0) = true := decide_eq_true c2
    clear c2
    by_cases c3 : a0 ≤ 122
    · rw [if_pos c3] at H
      have c3b0 : decide (a0 ≤ 122) = true := decide_eq_true c3
      clear c3
      obtain rfl := Option.some.inj H
      go_enter Try.func71, Try.ntmps71
      go_wp2
      go_ret
      exact ⟨by first | rfl | (simp; done) | (simp [*]; done), by repeat (first | exact Drawn0.refl _ | apply Drawn0.step)⟩
    · rw [if_neg c3] at H
      have c3b0 : decide (a0 ≤ 122) = false := decide_eq_false c3
      clear c3
      by_cases c4 : a0 ≥ 65
      · rw [if_pos c4] at H
        have c4b0 : decide (65 ≤ a0) = true := decide_eq_true c4
        clear c4
        obtain rfl := Option.some.inj H
        go_enter Try.func71, Try.ntmps71
        go_wp2
        go_ret
        exact ⟨by first | rfl | (simp; done) | (simp [*]; done), by repeat (first | exact Drawn0.refl _ | apply Drawn0.step)⟩
      · rw [if_neg c4] at H
        have c4b0 : decide (65 ≤ a0) = false := decide_eq_false c4
        clear c4
        obtain rfl := Option.some.inj H
        go_enter Try.func71, Try.ntmps71
        go_wp2
        go_ret
        exact ⟨by first | rfl | (simp; done) | (simp [*]; done), by repeat (first | exact Drawn0.refl _ | apply Drawn0.step)⟩
  · rw [if_neg c2] at H
    have c2b0 : decide (97 ≤ a0) = false := decide_eq_false c2
    clear c2
    by_cases c5 : a0 ≥ 65
    · rw [if_pos c5] at H
      have c5b0 : decide (65 ≤ a0) = true := decide_eq_true c5
      clear c5
      obtain rfl := Option.some.inj H
      go_enter Try.func71, Try.ntmps71
      go_wp2
      go_ret
      exact ⟨by first | rfl | (simp; done) | (simp [*]; done), by repeat (first | exact Drawn0.refl _ | apply Drawn0.step)⟩
    · rw [if_neg c5] at H
      have c5b0 : decide (65 ≤ a0) = false := decide_eq_false c5
      clear c5
      obtain rfl := Option.some.inj H
      go_enter Try.func71, Try.ntmps71
      go_wp2
      go_ret
      exact ⟨by first | rfl | (simp; done) | (simp [*]; done), by repeat (first | exact Drawn0.refl _ | apply Drawn0.step)⟩

/-! ### spec_PlainCats: function 42 -/
def spec_PlainCats.l0 : Nat → List Int → Int → Option (List Int)
  | 0, _, _ => none
  | k + 1, x1, x2 => if x2 < 256 then ((spec_l2Letter.f ((x2) % 256)).bind fun t106 => (if t106 = true then (if x1.length < 17592186044416 then (spec_PlainCats.l0 k (x1 ++ [4]) (wrap64 (x2 + 1))) else (none)) else (if x1.length < 17592186044416 then (spec_PlainCats.l0 k (x1 ++ [5]) (wrap64 (x2 + 1))) else (none)))) else (if 92 < (x1.length : Int) then (if 123 < (x1.length : Int) then (if 125 < (x1.length : Int) then (if 32 < (x1.length : Int) then (if 9 < (x1.length : Int) then (if 10 < (x1.length : Int) then (if 35 < (x1.length : Int) then (if 37 < (x1.length : Int) then (if 0 < (x1.length : Int) then (if 36 < (x1.length : Int) then (if 94 < (x1.length : Int) then (if 95 < (x1.length : Int) then (if 38 < (x1.length : Int) then (if 126 < (x1.length : Int) then (if 127 < (x1.length : Int) then (some (((((((((((((((x1.set (92 : Int).toNat 0).set (123 : Int).toNat 1).set (125 : Int).toNat 2).set (32 : Int).toNat 3).set (9 : Int).toNat 3).set (10 : Int).toNat 6).set (35 : Int).toNat 7).set (37 : Int).toNat 8).set (0 : Int).toNat 9).set (36 : Int).toNat 10).set (94 : Int).toNat 11).set (95 : Int).toNat 12).set (38 : Int).toNat 13).set (126 : Int).toNat 14).set (127 : Int).toNat 15)) else (none)) else (none)) else (none)) else (none)) else (none)) else (none)) else (none)) else (none)) else (none)) else (none)) else (none)) else (none)) else (none)) else (none)) else (none))
def spec_PlainCats.f (k : Nat)  : Option (List Int) := spec_PlainCats.l0 k (([] : List Int)) 0
theorem spec_PlainCats.mono_l : ∀ k, (∀ y0 y1, LeO (spec_PlainCats.l0 k y0 y1) (spec_PlainCats.l0 (k + 1) y0 y1))
  | 0 => fun _ _ r h => by simp [spec_PlainCats.l0] at h
  | k + 1 => by
    have ih0 := spec_PlainCats.mono_l k
    · intro y0 y1
      unfold spec_PlainCats.l0
      repeat' first
      | (with_reducible exact ih0 _ _)
      | (with_reducible exact LeO.refl _)
      | (with_reducible exact LeO.none _)
      | (with_reducible refine LeO.ite ?_ ?_)
      | (with_reducible refine LeO.bind ?_ (fun _ => ?_))
      | exact ih0 _ _
      | exact LeO.none _
      | refine LeO.ite ?_ ?_
      | refine LeO.bind ?_ (fun _ => ?_)
theorem spec_PlainCats.mono : ∀ k, LeO (spec_PlainCats.f k ) (spec_PlainCats.f (k + 1) ) := by
  intro  k
  have ih0 := spec_PlainCats.mono_l k
  unfold spec_PlainCats.f
  repeat' first
      | (with_reducible exact ih0 _ _)
      | (with_reducible exact LeO.refl _)
      | (with_reducible exact LeO.none _)
      | (with_reducible refine LeO.ite ?_ ?_)
      | (with_reducible refine LeO.bind ?_ (fun _ => ?_))
      | exact ih0 _ _
      | exact LeO.none _
      | refine LeO.ite ?_ ?_
      | refine LeO.bind ?_ (fun _ => ?_)
set_option maxHeartbeats 8000000 in
set_option maxRecDepth 100000 in
theorem spec_PlainCats.calls (k : Nat)  (r : List Int) (w : World) (h : spec_PlainCats.f k  = some r) :
    Calls Try.prog 42 #[] w fun e w' => ∃ v0_ : Value, e = .returned (v0_) ∧ Kd.R (Kd.int .i64) 2 w' w.heap.size (fun _ => True) v0_ r ∧ Below w.heap.size w w' := by
  have HB := Aside0.mk (Below.refl w.heap.size w)
  have H : (spec_PlainCats.l0 k (([] : List Int)) 0) = some r := h
  clear h
  obtain ⟨y103, hy103⟩ : ∃ y_ : List Int, y_ = (([] : List Int)) := ⟨_, rfl⟩
  replace H : (spec_PlainCats.l0 k y103 0) = some r := by first | (rw [hy103]; with_reducible exact H) | (have H2_ := (Option.bind_some _ _).symm.trans H; rw [hy103]; with_reducible exact H2_) | (have H2_ := (Option.bind_some _ _).symm.trans H; with_reducible exact H2_) | with_reducible exact H | (rw [hy103]; exact H) | exact H
  have Ny103 := Aside0.mk hy103
  clear hy103
  have H' := Aside0.mk H
  clear H
  go_enter Try.func42, Try.ntmps42
  go_wp2_with (first | ((with_reducible refine gate_dst (N := 4) rfl ?_); refine Kd.R_lit (Kd.int .i64) _ 2 ?hg (N := 4) ?hd (xs := ([] : List Int)) (inner := []) (ok := fun _ => True) (okp := fun _ => True) ?hr ?hp (fun _ hk => hk) trivial (Below.refl _ _) (Nat.le_refl _) (by simp) ?_; (case hd => rfl); (case hg => rfl); (case hr => first | (go_simp; done) | (go_simp; rfl)); (case hp => exact (Reps.none _ _)); intro v104 w1 ho2 hb hg_ hnew_; clear hg_ hnew_; (first | rw [← Ny103.out] at ho2 | (simp only [Int.reduceToNat] at ho2; rw [← Ny103.out] at ho2)); have n0_ := Aside0.mk (Kd.R_lower ho2 (below_size (by repeat (first | (with_reducible first | exact HB.out | apply below_alloc | apply pw_below_drewN | apply below_drew1) | exact HB.out)))); have n1_ := Aside0.mk (below_step (by repeat (first | (with_reducible first | exact HB.out | apply below_alloc | apply pw_below_drewN | apply below_drew1) | exact HB.out)) hb); clear HB; have HO105 := n0_; have HB := n1_; clear n0_ n1_; clear hb ho2))
  go_loopg [1, 2] k (fun kq v1 v2 w' => ∃ (x1_1 : List Int) (x2_1 : Int), v2 = .int .i64 x2_1 ∧ Aside0 (spec_PlainCats.l0 kq x1_1 x2_1 = some r) ∧ Aside0 (kq ≤ k) ∧ Aside0 (Kd.R (Kd.int .i64) 2 w' w.heap.size (fun _ => True) v1 x1_1) ∧ Aside0 (Below w.heap.size w w'))
  case atStart => exact ⟨(y103), (0), (by first | rfl | (simp; done) | (simp [*]; done)), H', ⟨Nat.le_refl _⟩, ⟨by (with_reducible repeat (first | apply Kd.R_alloc | apply Kd.R_drewN | apply Kd.R_drew)); exact HO105.out⟩, ⟨by repeat (first | (with_reducible first | exact HB.out | apply below_alloc | apply pw_below_drewN | apply below_drew1) | exact HB.out)⟩⟩
  case round =>
    clear H'
    try clear p2
    obtain ⟨x1_1, x2_1, rfl, HA, HK1, HO_1, HB⟩ := hrel
    cases gk with
    | zero => exact absurd HA.out (by simp [spec_PlainCats.l0])
    | succ k1 =>
      have H := HA.out
      clear HA
      simp only [spec_PlainCats.l0] at H
      by_cases c3 : x2_1 < 256
      · rw [if_pos c3] at H
        have c3b0 : decide (x2_1 < 256) = true := decide_eq_true c3
        clear c3
        replace H := Option.bind_eq_some_iff.mp H
        obtain ⟨t106, A40, H⟩ := H
        replace H : (if t106 = true then (if x1_1.length < 17592186044416 then (spec_PlainCats.l0 k1 (x1_1 ++ [4]) (wrap64 (x2_1 + 1))) else (none)) else (if x1_1.length < 17592186044416 then (spec_PlainCats.l0 k1 (x1_1 ++ [5]) (wrap64 (x2_1 + 1))) else (none))) = some r := H
        have A4 := Aside0.mk A40
        clear A40
        by_cases c5 : t106 = true
        · subst c5
          have H1 : (if x1_1.length < 17592186044416 then (spec_PlainCats.l0 k1 (x1_1 ++ [4]) (wrap64 (x2_1 + 1))) else (none)) = some r := by rw [if_pos rfl] at H; exact H
          clear H
          have H := H1
          clear H1
          by_cases c6 : x1_1.length < 17592186044416
          · rw [if_pos c6] at H
            have LMc6 := Aside0.mk c6
            clear c6
            obtain ⟨y107, hy107⟩ : ∃ y_ : List Int, y_ = (x1_1 ++ [4]) := ⟨_, rfl⟩
            replace H : (spec_PlainCats.l0 k1 y107 (wrap64 (x2_1 + 1))) = some r := by first | (rw [hy107]; with_reducible exact H) | (have H2_ := (Option.bind_some _ _).symm.trans H; rw [hy107]; with_reducible exact H2_) | (have H2_ := (Option.bind_some _ _).symm.trans H; with_reducible exact H2_) | with_reducible exact H | (rw [hy107]; exact H) | exact H
            have Ny107 := Aside0.mk hy107
            clear hy107
            have H' := Aside0.mk H
            clear H
            go_wp2_with (first | ((with_reducible refine gate_callee (f := 71) rfl ?_); refine goesL_ (some 11) rfl rfl Try.func71 (by kernel_rfl) rfl #[.int .u8 ((x2_1) % 256)] rfl (by (try simp only [List.map_toArray, List.map_cons, List.map_nil]); first | done | rfl | (simp only [List.length_drop, List.length_take]; rfl)) ?_; (with_reducible refine (spec_l2Letter.calls ((x2_1) % 256) true _ A4.out).mono ?_); rintro e w' ⟨rfl, ⟨nd, rfl⟩⟩; refine ⟨_, rfl, ?_⟩) | ((with_reducible refine gate_builtin (b := .append) (xs := #[.tmp 12, .tmp 14]) rfl ?_); at_builtin; refine Kd.R_append (Kd.int .i64) (w0 := w) w.heap.size rfl (.tmp 12) (.tmp 14) 37 2 (.int .i64 0) 8 rfl Try.underlying37 info2 rfl (by decide) (by omega) u1 x1_1 4 [.int .i64 4] (fun _ => True) (fun _ => False) rfl rfl ?aP (fun _ hk => hk.elim) ?aF ?aO ?aB ?aS ?aL ?_; (case aP => exact rfl); (case aB => exact (by repeat (first | (with_reducible first | exact HB.out | apply below_alloc | apply pw_below_drewN | apply below_drew1) | exact HB.out))); (case aF => exact (fun _ _ => trivial)); (case aO => exact (by (with_reducible repeat (first | apply Kd.R_alloc | apply Kd.R_drewN | apply Kd.R_drew)); exact HO_1.out)); (case aS => exact (below_size (by repeat (first | (with_reducible first | exact HB.out | apply below_alloc | apply pw_below_drewN | apply below_drew1) | exact HB.out)))); (case aL => have := LMc6.out; omega); intro v108 w7 ho hb hg hat; rw [← Ny107.out] at ho; have n0_ := Aside0.mk (hb); have n1_ := Aside0.mk (ho); clear HB; clear HO_1; have HB := n0_; have HO109 := n1_; clear n0_ n1_; clear ho hb hg hat))
            go_roundg k1
            case measure => have := HK1.out; omega
            case rel => exact ⟨(y107), (wrap64 (x2_1 + 1)), (by first | rfl | (simp; done) | (simp [*]; done)), H', ⟨by have := HK1.out; omega⟩, ⟨by (with_reducible repeat (first | apply Kd.R_alloc | apply Kd.R_drewN | apply Kd.R_drew)); exact HO109.out⟩, ⟨by repeat (first | (with_reducible first | exact HB.out | apply below_alloc | apply pw_below_drewN | apply below_drew1) | exact HB.out)⟩⟩
          · rw [if_neg c6] at H
            exact absurd H (by simp)
        · replace c5 := Bool.eq_false_iff.mpr c5
          subst c5
          have H1 : (if x1_1.length < 17592186044416 then (spec_PlainCats.l0 k1 (x1_1 ++ [5]) (wrap64 (x2_1 + 1))) else (none)) = some r := by rw [if_neg (show ¬ (false = true) by decide)] at H; exact H
          clear H
          have H := H1
          clear H1
          by_cases c8 : x1_1.length < 17592186044416
          · rw [if_pos c8] at H
            have LMc8 := Aside0.mk c8
            clear c8
            obtain ⟨y110, hy110⟩ : ∃ y_ : List Int, y_ = (x1_1 ++ [5]) := ⟨_, rfl⟩
            replace H : (spec_PlainCats.l0 k1 y110 (wrap64 (x2_1 + 1))) = some r := by first | (rw [hy110]; with_reducible exact H) | (have H2_ := (Option.bind_some _ _).symm.trans H; rw [hy110]; with_reducible exact H2_) | (have H2_ := (Option.bind_some _ _).symm.trans H; with_reducible exact H2_) | with_reducible exact H | (rw [hy110]; exact H) | exact H
            have Ny110 := Aside0.mk hy110
            clear hy110
            have H' := Aside0.mk H
            clear H
            go_wp2_with (first | ((with_reducible refine gate_callee (f := 71) rfl ?_); refine goesL_ (some 11) rfl rfl Try.func71 (by kernel_rfl) rfl #[.int .u8 ((x2_1) % 256)] rfl (by (try simp only [List.map_toArray, List.map_cons, List.map_nil]); first | done | rfl | (simp only [List.length_drop, List.length_take]; rfl)) ?_; (with_reducible refine (spec_l2Letter.calls ((x2_1) % 256) false _ A4.out).mono ?_); rintro e w' ⟨rfl, ⟨nd, rfl⟩⟩; refine ⟨_, rfl, ?_⟩) | ((with_reducible refine gate_builtin (b := .append) (xs := #[.tmp 12, .tmp 14]) rfl ?_); at_builtin; refine Kd.R_append (Kd.int .i64) (w0 := w) w.heap.size rfl (.tmp 12) (.tmp 14) 37 2 (.int .i64 0) 8 rfl Try.underlying37 info2 rfl (by decide) (by omega) u1 x1_1 5 [.int .i64 5] (fun _ => True) (fun _ => False) rfl rfl ?aP (fun _ hk => hk.elim) ?aF ?aO ?aB ?aS ?aL ?_; (case aP => exact rfl); (case aB => exact (by repeat (first | (with_reducible first | exact HB.out | apply below_alloc | apply pw_below_drewN | apply below_drew1) | exact HB.out))); (case aF => exact (fun _ _ => trivial)); (case aO => exact (by (with_reducible repeat (first | apply Kd.R_alloc | apply Kd.R_drewN | apply Kd.R_drew)); exact HO_1.out)); (case aS => exact (below_size (by repeat (first | (with_reducible first | exact HB.out | apply below_alloc | apply pw_below_drewN | apply below_drew1) | exact HB.out)))); (case aL => have := LMc8.out; omega); intro v111 w9 ho hb hg hat; rw [← Ny110.out] at ho; have n0_ := Aside0.mk (hb); have n1_ := Aside0.mk (ho); clear HB; clear HO_1; have HB := n0_; have HO112 := n1_; clear n0_ n1_; clear ho hb hg hat))
            go_roundg k1
            case measure => have := HK1.out; omega
            case rel => exact ⟨(y110), (wrap64 (x2_1 + 1)), (by first | rfl | (simp; done) | (simp [*]; done)), H', ⟨by have := HK1.out; omega⟩, ⟨by (with_reducible repeat (first | apply Kd.R_alloc | apply Kd.R_drewN | apply Kd.R_drew)); exact HO112.out⟩, ⟨by repeat (first | (with_reducible first | exact HB.out | apply below_alloc | apply pw_below_drewN | apply below_drew1) | exact HB.out)⟩⟩
          · rw [if_neg c8] at H
            exact absurd H (by simp)
      · rw [if_neg c3] at H
        have c3b0 : decide (x2_1 < 256) = false := decide_eq_false c3
        clear c3
        by_cases c10 : 92 < (x1_1.length : Int)
        · rw [if_pos c10] at H
          have c10b0 : decide (92 < (x1_1.length : Int)) = true := decide_eq_true c10
          have c10b1 : decide (92 < x1_1.length) = true := decide_eq_true (by omega)
          clear c10
          obtain ⟨y113, hy113⟩ : ∃ y_ : List Int, y_ = (x1_1.set (92 : Int).toNat 0) := ⟨_, rfl⟩
          replace H : (if 123 < (x1_1.length : Int) then (if 125 < (x1_1.length : Int) then (if 32 < (x1_1.length : Int) then (if 9 < (x1_1.length : Int) then (if 10 < (x1_1.length : Int) then (if 35 < (x1_1.length : Int) then (if 37 < (x1_1.length : Int) then (if 0 < (x1_1.length : Int) then (if 36 < (x1_1.length : Int) then (if 94 < (x1_1.length : Int) then (if 95 < (x1_1.length : Int) then (if 38 < (x1_1.length : Int) then (if 126 < (x1_1.length : Int) then (if 127 < (x1_1.length : Int) then (some ((((((((((((((y113.set (123 : Int).toNat 1).set (125 : Int).toNat 2).set (32 : Int).toNat 3).set (9 : Int).toNat 3).set (10 : Int).toNat 6).set (35 : Int).toNat 7).set (37 : Int).toNat 8).set (0 : Int).toNat 9).set (36 : Int).toNat 10).set (94 : Int).toNat 11).set (95 : Int).toNat 12).set (38 : Int).toNat 13).set (126 : Int).toNat 14).set (127 : Int).toNat 15)) else (none)) else (none)) else (none)) else (none)) else (none)) else (none)) else (none)) else (none)) else (none)) else (none)) else (none)) else (none)) else (none)) else (none)) = some r := by first | (rw [hy113]; with_reducible exact H) | (have H2_ := (Option.bind_some _ _).symm.trans H; rw [hy113]; with_reducible exact H2_) | (have H2_ := (Option.bind_some _ _).symm.trans H; with_reducible exact H2_) | with_reducible exact H | (rw [hy113]; exact H) | exact H
          have Ny113 := Aside0.mk hy113
          clear hy113
          by_cases c12 : 123 < (x1_1.length : Int)
          · rw [if_pos c12] at H
            have c12b0 : decide (123 < (x1_1.length : Int)) = true := decide_eq_true c12
            have c12b1 : decide (123 < x1_1.length) = true := decide_eq_true (by omega)
            clear c12
            obtain ⟨y114, hy114⟩ : ∃ y_ : List Int, y_ = (y113.set (123 : Int).toNat 1) := ⟨_, rfl⟩
            replace H : (if 125 < (x1_1.length : Int) then (if 32 < (x1_1.length : Int) then (if 9 < (x1_1.length : Int) then (if 10 < (x1_1.length : Int) then (if 35 < (x1_1.length : Int) then (if 37 < (x1_1.length : Int) then (if 0 < (x1_1.length : Int) then (if 36 < (x1_1.length : Int) then (if 94 < (x1_1.length : Int) then (if 95 < (x1_1.length : Int) then (if 38 < (x1_1.length : Int) then (if 126 < (x1_1.length : Int) then (if 127 < (x1_1.length : Int) then (some (((((((((((((y114.set (125 : Int).toNat 2).set (32 : Int).toNat 3).set (9 : Int).toNat 3).set (10 : Int).toNat 6).set (35 : Int).toNat 7).set (37 : Int).toNat 8).set (0 : Int).toNat 9).set (36 : Int).toNat 10).set (94 : Int).toNat 11).set (95 : Int).toNat 12).set (38 : Int).toNat 13).set (126 : Int).toNat 14).set (127 : Int).toNat 15)) else (none)) else (none)) else (none)) else (none)) else (none)) else (none)) else (none)) else (none)) else (none)) else (none)) else (none)) else (none)) else (none)) = some r := by first | (rw [hy114]; with_reducible exact H) | (have H2_ := (Option.bind_some _ _).symm.trans H; rw [hy114]; with_reducible exact H2_) | (have H2_ := (Option.bind_some _ _).symm.trans H; with_reducible exact H2_) | with_reducible exact H | (rw [hy114]; exact H) | exact H
            have Ny114 := Aside0.mk hy114
            clear hy114
            by_cases c14 : 125 < (x1_1.length : Int)
            · rw [if_pos c14] at H
              have c14b0 : decide (125 < (x1_1.length : Int)) = true := decide_eq_true c14
              have c14b1 : decide (125 < x1_1.length) = true := decide_eq_true (by omega)
              clear c14
              obtain ⟨y115, hy115⟩ : ∃ y_ : List Int, y_ = (y114.set (125 : Int).toNat 2) := ⟨_, rfl⟩
              replace H : (if 32 < (x1_1.length : Int) then (if 9 < (x1_1.length : Int) then (if 10 < (x1_1.length : Int) then (if 35 < (x1_1.length : Int) then (if 37 < (x1_1.length : Int) then (if 0 < (x1_1.length : Int) then (if 36 < (x1_1.length : Int) then (if 94 < (x1_1.length : Int) then (if 95 < (x1_1.length : Int) then (if 38 < (x1_1.length : Int) then (if 126 < (x1_1.length : Int) then (if 127 < (x1_1.length : Int) then (some ((((((((((((y115.set (32 : Int).toNat 3).set (9 : Int).toNat 3).set (10 : Int).toNat 6).set (35 : Int).toNat 7).set (37 : Int).toNat 8).set (0 : Int).toNat 9).set (36 : Int).toNat 10).set (94 : Int).toNat 11).set (95 : Int).toNat 12).set (38 : Int).toNat 13).set (126 : Int).toNat 14).set (127 : Int).toNat 15)) else (none)) else (none)) else (none)) else (none)) else (none)) else (none)) else (none)) else (none)) else (none)) else (none)) else (none)) else (none)) = some r := by first | (rw [hy115]; with_reducible exact H) | (have H2_ := (Option.bind_some _ _).symm.trans H; rw [hy115]; with_reducible exact H2_) | (have H2_ := (Option.bind_some _ _).symm.trans H; with_reducible exact H2_) | with_reducible exact H | (rw [hy115]; exact H) | exact H
              have Ny115 := Aside0.mk hy115
              clear hy115
              by_cases c16 : 32 < (x1_1.length : Int)
              · rw [if_pos c16] at H
                have c16b0 : decide (32 < (x1_1.length : Int)) = true := decide_eq_true c16
                have c16b1 : decide (32 < x1_1.length) = true := decide_eq_true (by omega)
                clear c16
                obtain ⟨y116, hy116⟩ : ∃ y_ : List Int, y_ = (y115.set (32 : Int).toNat 3) := ⟨_, rfl⟩
                replace H : (if 9 < (x1_1.length : Int) then (if 10 < (x1_1.length : Int) then (if 35 < (x1_1.length : Int) then (if 37 < (x1_1.length : Int) then (if 0 < (x1_1.length : Int) then (if 36 < (x1_1.length : Int) then (if 94 < (x1_1.length : Int) then (if 95 < (x1_1.length : Int) then (if 38 < (x1_1.length : Int) then (if 126 < (x1_1.length : Int) then (if 127 < (x1_1.length : Int) then (some (((((((((((y116.set (9 : Int).toNat 3).set (10 : Int).toNat 6).set (35 : Int).toNat 7).set (37 : Int).toNat 8).set (0 : Int).toNat 9).set (36 : Int).toNat 10).set (94 : Int).toNat 11).set (95 : Int).toNat 12).set (38 : Int).toNat 13).set (126 : Int).toNat 14).set (127 : Int).toNat 15)) else (none)) else (none)) else (none)) else (none)) else (none)) else (none)) else (none)) else (none)) else (none)) else (none)) else (none)) = some r := by first | (rw [hy116]; with_reducible exact H) | (have H2_ := (Option.bind_some _ _).symm.trans H; rw [hy116]; with_reducible exact H2_) | (have H2_ := (Option.bind_some _ _).symm.trans H; with_reducible exact H2_) | with_reducible exact H | (rw [hy116]; exact H) | exact H
                have Ny116 := Aside0.mk hy116
                clear hy116
                by_cases c18 : 9 < (x1_1.length : Int)
                · rw [if_pos c18] at H
                  have c18b0 : decide (9 < (x1_1.length : Int)) = true := decide_eq_true c18
                  have c18b1 : decide (9 < x1_1.length) = true := decide_eq_true (by omega)
                  clear c18
                  obtain ⟨y117, hy117⟩ : ∃ y_ : List Int, y_ = (y116.set (9 : Int).toNat 3) := ⟨_, rfl⟩
                  replace H : (if 10 < (x1_1.length : Int) then (if 35 < (x1_1.length : Int) then (if 37 < (x1_1.length : Int) then (if 0 < (x1_1.length : Int) then (if 36 < (x1_1.length : Int) then (if 94 < (x1_1.length : Int) then (if 95 < (x1_1.length : Int) then (if 38 < (x1_1.length : Int) then (if 126 < (x1_1.length : Int) then (if 127 < (x1_1.length : Int) then (some ((((((((((y117.set (10 : Int).toNat 6).set (35 : Int).toNat 7).set (37 : Int).toNat 8).set (0 : Int).toNat 9).set (36 : Int).toNat 10).set (94 : Int).toNat 11).set (95 : Int).toNat 12).set (38 : Int).toNat 13).set (126 : Int).toNat 14).set (127 : Int).toNat 15)) else (none)) else (none)) else (none)) else (none)) else (none)) else (none)) else (none)) else (none)) else (none)) else (none)) = some r := by first | (rw [hy117]; with_reducible exact H) | (have H2_ := (Option.bind_some _ _).symm.trans H; rw [hy117]; with_reducible exact H2_) | (have H2_ := (Option.bind_some _ _).symm.trans H; with_reducible exact H2_) | with_reducible exact H | (rw [hy117]; exact H) | exact H
                  have Ny117 := Aside0.mk hy117
                  clear hy117
                  by_cases c20 : 10 < (x1_1.length : Int)
                  · rw [if_pos c20] at H
                    have c20b0 : decide (10 < (x1_1.length : Int)) = true := decide_eq_true c20
                    have c20b1 : decide (10 < x1_1.length) = true := decide_eq_true (by omega)
                    clear c20
                    obtain ⟨y118, hy118⟩ : ∃ y_ : List Int, y_ = (y117.set (10 : Int).toNat 6) := ⟨_, rfl⟩
                    replace H : (if 35 < (x1_1.length : Int) then (if 37 < (x1_1.length : Int) then (if 0 < (x1_1.length : Int) then (if 36 < (x1_1.length : Int) then (if 94 < (x1_1.length : Int) then (if 95 < (x1_1.length : Int) then (if 38 < (x1_1.length : Int) then (if 126 < (x1_1.length : Int) then (if 127 < (x1_1.length : Int) then (some (((((((((y118.set (35 : Int).toNat 7).set (37 : Int).toNat 8).set (0 : Int).toNat 9).set (36 : Int).toNat 10).set (94 : Int).toNat 11).set (95 : Int).toNat 12).set (38 : Int).toNat 13).set (126 : Int).toNat 14).set (127 : Int).toNat 15)) else (none)) else (none)) else (none)) else (none)) else (none)) else (none)) else (none)) else (none)) else (none)) = some r := by first | (rw [hy118]; with_reducible exact H) | (have H2_ := (Option.bind_some _ _).symm.trans H; rw [hy118]; with_reducible exact H2_) | (have H2_ := (Option.bind_some _ _).symm.trans H; with_reducible exact H2_) | with_reducible exact H | (rw [hy118]; exact H) | exact H
                    have Ny118 := Aside0.mk hy118
                    clear hy118
                    by_cases c22 : 35 < (x1_1.length : Int)
                    · rw [if_pos c22] at H
                      have c22b0 : decide (35 < (x1_1.length : Int)) = true := decide_eq_true c22
                      have c22b1 : decide (35 < x1_1.length) = true := decide_eq_true (by omega)
                      clear c22
                      obtain ⟨y119, hy119⟩ : ∃ y_ : List Int, y_ = (y118.set (35 : Int).toNat 7) := ⟨_, rfl⟩
                      replace H : (if 37 < (x1_1.length : Int) then (if 0 < (x1_1.length : Int) then (if 36 < (x1_1.length : Int) then (if 94 < (x1_1.length : Int) then (if 95 < (x1_1.length : Int) then (if 38 < (x1_1.length : Int) then (if 126 < (x1_1.length : Int) then (if 127 < (x1_1.length : Int) then (some ((((((((y119.set (37 : Int).toNat 8).set (0 : Int).toNat 9).set (36 : Int).toNat 10).set (94 : Int).toNat 11).set (95 : Int).toNat 12).set (38 : Int).toNat 13).set (126 : Int).toNat 14).set (127 : Int).toNat 15)) else (none)) else (none)) else (none)) else (none)) else (none)) else (none)) else (none)) else (none)) = some r := by first | (rw [hy119]; with_reducible exact H) | (have H2_ := (Option.bind_some _ _).symm.trans H; rw [hy119]; with_reducible exact H2_) | (have H2_ := (Option.bind_some _ _).symm.trans H; with_reducible exact H2_) | with_reducible exact H | (rw [hy119]; exact H) | exact H
                      have Ny119 := Aside0.mk hy119
                      clear hy119
                      by_cases c24 : 37 < (x1_1.length : Int)
                      · rw [if_pos c24] at H
                        have c24b0 : decide (37 < (x1_1.length : Int)) = true := decide_eq_true c24
                        have c24b1 : decide (37 < x1_1.length) = true := decide_eq_true (by omega)
                        clear c24
                        obtain ⟨y120, hy120⟩ : ∃ y_ : List Int, y_ = (y119.set (37 : Int).toNat 8) := ⟨_, rfl⟩
                        replace H : (if 0 < (x1_1.length : Int) then (if 36 < (x1_1.length : Int) then (if 94 < (x1_1.length : Int) then (if 95 < (x1_1.length : Int) then (if 38 < (x1_1.length : Int) then (if 126 < (x1_1.length : Int) then (if 127 < (x1_1.length : Int) then (some (((((((y120.set (0 : Int).toNat 9).set (36 : Int).toNat 10).set (94 : Int).toNat 11).set (95 : Int).toNat 12).set (38 : Int).toNat 13).set (126 : Int).toNat 14).set (127 : Int).toNat 15)) else (none)) else (none)) else (none)) else (none)) else (none)) else (none)) else (none)) = some r := by first | (rw [hy120]; with_reducible exact H) | (have H2_ := (Option.bind_some _ _).symm.trans H; rw [hy120]; with_reducible exact H2_) | (have H2_ := (Option.bind_some _ _).symm.trans H; with_reducible exact H2_) | with_reducible exact H | (rw [hy120]; exact H) | exact H
                        have Ny120 := Aside0.mk hy120
                        clear hy120
                        by_cases c26 : 0 < (x1_1.length : Int)
                        · rw [if_pos c26] at H
                          have c26b0 : decide (0 < (x1_1.length : Int)) = true := decide_eq_true c26
                          have c26b1 : decide (0 < x1_1.length) = true := decide_eq_true (by omega)
                          clear c26
                          obtain ⟨y121, hy121⟩ : ∃ y_ : List Int, y_ = (y120.set (0 : Int).toNat 9) := ⟨_, rfl⟩
                          replace H : (if 36 < (x1_1.length : Int) then (if 94 < (x1_1.length : Int) then (if 95 < (x1_1.length : Int) then (if 38 < (x1_1.length : Int) then (if 126 < (x1_1.length : Int) then (if 127 < (x1_1.length : Int) then (some ((((((y121.set (36 : Int).toNat 10).set (94 : Int).toNat 11).set (95 : Int).toNat 12).set (38 : Int).toNat 13).set (126 : Int).toNat 14).set (127 : Int).toNat 15)) else (none)) else (none)) else (none)) else (none)) else (none)) else (none)) = some r := by first | (rw [hy121]; with_reducible exact H) | (have H2_ := (Option.bind_some _ _).symm.trans H; rw [hy121]; with_reducible exact H2_) | (have H2_ := (Option.bind_some _ _).symm.trans H; with_reducible exact H2_) | with_reducible exact H | (rw [hy121]; exact H) | exact H
                          have Ny121 := Aside0.mk hy121
                          clear hy121
                          by_cases c28 : 36 < (x1_1.length : Int)
                          · rw [if_pos c28] at H
                            have c28b0 : decide (36 < (x1_1.length : Int)) = true := decide_eq_true c28
                            have c28b1 : decide (36 < x1_1.length) = true := decide_eq_true (by omega)
                            clear c28
                            obtain ⟨y122, hy122⟩ : ∃ y_ : List Int, y_ = (y121.set (36 : Int).toNat 10) := ⟨_, rfl⟩
                            replace H : (if 94 < (x1_1.length : Int) then (if 95 < (x1_1.length : Int) then (if 38 < (x1_1.length : Int) then (if 126 < (x1_1.length : Int) then (if 127 < (x1_1.length : Int) then (some (((((y122.set (94 : Int).toNat 11).set (95 : Int).toNat 12).set (38 : Int).toNat 13).set (126 : Int).toNat 14).set (127 : Int).toNat 15)) else (none)) else (none)) else (none)) else (none)) else (none)) = some r := by first | (rw [hy122]; with_reducible exact H) | (have H2_ := (Option.bind_some _ _).symm.trans H; rw [hy122]; with_reducible exact H2_) | (have H2_ := (Option.bind_some _ _).symm.trans H; with_reducible exact H2_) | with_reducible exact H | (rw [hy122]; exact H) | exact H
                            have Ny122 := Aside0.mk hy122
                            clear hy122
                            by_cases c30 : 94 < (x1_1.length : Int)
                            · rw [if_pos c30] at H
                              have c30b0 : decide (94 < (x1_1.length : Int)) = true := decide_eq_true c30
                              have c30b1 : decide (94 < x1_1.length) = true := decide_eq_true (by omega)
                              clear c30
                              obtain ⟨y123, hy123⟩ : ∃ y_ : List Int, y_ = (y122.set (94 : Int).toNat 11) := ⟨_, rfl⟩
                              replace H : (if 95 < (x1_1.length : Int) then (if 38 < (x1_1.length : Int) then (if 126 < (x1_1.length : Int) then (if 127 < (x1_1.length : Int) then (some ((((y123.set (95 : Int).toNat 12).set (38 : Int).toNat 13).set (126 : Int).toNat 14).set (127 : Int).toNat 15)) else (none)) else (none)) else (none)) else (none)) = some r := by first | (rw [hy123]; with_reducible exact H) | (have H2_ := (Option.bind_some _ _).symm.trans H; rw [hy123]; with_reducible exact H2_) | (have H2_ := (Option.bind_some _ _).symm.trans H; with_reducible exact H2_) | with_reducible exact H | (rw [hy123]; exact H) | exact H
                              have Ny123 := Aside0.mk hy123
                              clear hy123
                              by_cases c32 : 95 < (x1_1.length : Int)
                              · rw [if_pos c32] at H
                                have c32b0 : decide (95 < (x1_1.length : Int)) = true := decide_eq_true c32
                                have c32b1 : decide (95 < x1_1.length) = true := decide_eq_true (by omega)
                                clear c32
                                obtain ⟨y124, hy124⟩ : ∃ y_ : List Int, y_ = (y123.set (95 : Int).toNat 12) := ⟨_, rfl⟩
                                replace H : (if 38 < (x1_1.length : Int) then (if 126 < (x1_1.length : Int) then (if 127 < (x1_1.length : Int) then (some (((y124.set (38 : Int).toNat 13).set (126 : Int).toNat 14).set (127 : Int).toNat 15)) else (none)) else (none)) else (none)) = some r := by first | (rw [hy124]; with_reducible exact H) | (have H2_ := (Option.bind_some _ _).symm.trans H; rw [hy124]; with_reducible exact H2_) | (have H2_ := (Option.bind_some _ _).symm.trans H; with_reducible exact H2_) | with_reducible exact H | (rw [hy124]; exact H) | exact H
                                have Ny124 := Aside0.mk hy124
                                clear hy124
                                by_cases c34 : 38 < (x1_1.length : Int)
                                · rw [if_pos c34] at H
                                  have c34b0 : decide (38 < (x1_1.length : Int)) = true := decide_eq_true c34
                                  have c34b1 : decide (38 < x1_1.length) = true := decide_eq_true (by omega)
                                  clear c34
                                  obtain ⟨y125, hy125⟩ : ∃ y_ : List Int, y_ = (y124.set (38 : Int).toNat 13) := ⟨_, rfl⟩
                                  replace H : (if 126 < (x1_1.length : Int) then (if 127 < (x1_1.length : Int) then (some ((y125.set (126 : Int).toNat 14).set (127 : Int).toNat 15)) else (none)) else (none)) = some r := by first | (rw [hy125]; with_reducible exact H) | (have H2_ := (Option.bind_some _ _).symm.trans H; rw [hy125]; with_reducible exact H2_) | (have H2_ := (Option.bind_some _ _).symm.trans H; with_reducible exact H2_) | with_reducible exact H | (rw [hy125]; exact H) | exact H
                                  have Ny125 := Aside0.mk hy125
                                  clear hy125
                                  by_cases c36 : 126 < (x1_1.length : Int)
                                  · rw [if_pos c36] at H
                                    have c36b0 : decide (126 < (x1_1.length : Int)) = true := decide_eq_true c36
                                    have c36b1 : decide (126 < x1_1.length) = true := decide_eq_true (by omega)
                                    clear c36
                                    obtain ⟨y126, hy126⟩ : ∃ y_ : List Int, y_ = (y125.set (126 : Int).toNat 14) := ⟨_, rfl⟩
                                    replace H : (if 127 < (x1_1.length : Int) then (some (y126.set (127 : Int).toNat 15)) else (none)) = some r := by first | (rw [hy126]; with_reducible exact H) | (have H2_ := (Option.bind_some _ _).symm.trans H; rw [hy126]; with_reducible exact H2_) | (have H2_ := (Option.bind_some _ _).symm.trans H; with_reducible exact H2_) | with_reducible exact H | (rw [hy126]; exact H) | exact H
                                    have Ny126 := Aside0.mk hy126
                                    clear hy126
                                    by_cases c38 : 127 < (x1_1.length : Int)
                                    · rw [if_pos c38] at H
                                      have c38b0 : decide (127 < (x1_1.length : Int)) = true := decide_eq_true c38
                                      have c38b1 : decide (127 < x1_1.length) = true := decide_eq_true (by omega)
                                      clear c38
                                      obtain ⟨y127, hy127⟩ : ∃ y_ : List Int, y_ = (y126.set (127 : Int).toNat 15) := ⟨_, rfl⟩
                                      replace H : (some y127) = some r := by first | (rw [hy127]; with_reducible exact H) | (have H2_ := (Option.bind_some _ _).symm.trans H; rw [hy127]; with_reducible exact H2_) | (have H2_ := (Option.bind_some _ _).symm.trans H; with_reducible exact H2_) | with_reducible exact H | (rw [hy127]; exact H) | exact H
                                      have Ny127 := Aside0.mk hy127
                                      clear hy127
                                      obtain rfl := Option.some.inj H
                                      have p11 : 0 ≤ (92 : Int) := (by omega)
                                      have q11 : (92 : Int) < ((x1_1.length : Int) : Int) := of_decide_eq_true (by first | (with_reducible assumption) | assumption)
                                      have qi11 : (92 < x1_1.length) = True := eq_true (by omega)
                                      obtain ⟨go11, co11, eo11, gb11, gl11, cl11, HG11⟩ := Kd.R_form HO_1.out (by omega)
                                      (first | cases eo11 | (injection eo11 with ea_ en_ ec_; (first | subst ea_ | (injection ea_ with ea_; subst ea_)); subst ec_; clear en_))
                                      have GB11 := Aside0.mk gb11
                                      have GG11 := Aside0.mk HG11
                                      clear gb11 gl11 HG11
                                      obtain ⟨hx11_0, hf11_0⟩ := Kd.R_celln 0 HO_1.out (92 : Int) p11 q11
                                      (try rw [show ((92 : Int)).toNat = 92 from rfl] at hx11_0)
                                      (try simp only [Nat.reduceMul, Nat.zero_mul, Nat.zero_add, Nat.reduceAdd] at hx11_0)
                                      (try rw [show ((92 : Int)).toNat = 92 from rfl] at hf11_0)
                                      (try simp only [Nat.reduceMul, Nat.zero_mul, Nat.zero_add, Nat.reduceAdd] at hf11_0)
                                      replace p11 := eq_true p11
                                      replace q11 := eq_true q11
                                      have HP40 := Kd.R_putg HO_1.out (92 : Int) 0
                                      go_wp2_with (first | ((with_reducible refine gate_store (t := 2) (p := 17) rfl ?_); refine store_event (t := 2) (p := 17) (v := ?vo_w41) (w1 := (wr.setCell ⟨go11, (92 : Int).toNat, none⟩ (.int .i64 0))) ?hg ?ho ?hn ?hr ?_; (case ho => rfl); (case hg => rfl); (case hn => rfl); (case hr => first | (go_simp; done) | (go_simp; rfl)); intro w41 hw; have hg : wr.grownBy w41 (some go11) := (by rw [hw]; exact HP40.2); have hp_ : Kd.R (Kd.int .i64) 2 w41 w.heap.size (fun _ => True) (.slice (some ⟨go11, 0, none⟩) x1_1.length co11) y113 := (by rw [hw, Ny113.out]; exact HP40.1); clear HP40; have n0_ := Aside0.mk (hp_); have n1_ := Aside0.mk ((by rw [hw]; exact below_set (HB.out) GB11.out : Below w.heap.size w w41)); clear HO_1; clear HB; have HO_1 := n0_; have HB := n1_; clear n0_ n1_; clear hg hw hp_; have p13 : 0 ≤ (123 : Int) := (by omega); have q13 : (123 : Int) < ((x1_1.length : Int) : Int) := of_decide_eq_true (by first | (with_reducible assumption) | assumption); have qi13 : (123 < x1_1.length) = True := eq_true (by omega); obtain ⟨hx13_0, hf13_0⟩ := Kd.R_celln 0 HO_1.out (123 : Int) p13 q13; (try rw [show ((123 : Int)).toNat = 123 from rfl] at hx13_0); (try simp only [Nat.reduceMul, Nat.zero_mul, Nat.zero_add, Nat.reduceAdd] at hx13_0); (try rw [show ((123 : Int)).toNat = 123 from rfl] at hf13_0); (try simp only [Nat.reduceMul, Nat.zero_mul, Nat.zero_add, Nat.reduceAdd] at hf13_0); replace p13 := eq_true p13; replace q13 := eq_true q13; obtain ⟨hy42_, hz42_⟩ := Kd.R_celln 0 HO_1.out (123 : Int) (by omega) (of_decide_eq_true (by first | (with_reducible assumption) | assumption)); (try simp only [Int.reduceToNat, Int.toNat_zero, Int.toNat_ofNat, Nat.reduceMul, Nat.zero_mul, Nat.zero_add] at hy42_ hz42_); (try rw [show ((123 : Int)).toNat = 123 from rfl] at hy42_); (try rw [show ((123 : Int)).toNat = 123 from rfl] at hz42_); have HP42 := Kd.R_putg HO_1.out (123 : Int) 1) | ((with_reducible refine gate_store (t := 2) (p := 19) rfl ?_); refine store_event (t := 2) (p := 19) (v := ?vo_w43) (w1 := (w41.setCell ⟨go11, (123 : Int).toNat, none⟩ (.int .i64 1))) ?hg ?ho ?hn ?hr ?_; (case ho => rfl); (case hg => rfl); (case hn => rfl); (case hr => first | (go_simp; done) | (go_simp; rfl)); intro w43 hw; have hg : w41.grownBy w43 (some go11) := (by rw [hw]; exact HP42.2); have hp_ : Kd.R (Kd.int .i64) 2 w43 w.heap.size (fun _ => True) (.slice (some ⟨go11, 0, none⟩) x1_1.length co11) y114 := (by rw [hw, Ny114.out]; exact HP42.1); clear HP42; have n0_ := Aside0.mk (hp_); have n1_ := Aside0.mk ((by rw [hw]; exact below_set (HB.out) GB11.out : Below w.heap.size w w43)); clear HO_1; clear HB; have HO_1 := n0_; have HB := n1_; clear n0_ n1_; clear hg hw hp_; have p15 : 0 ≤ (125 : Int) := (by omega); have q15 : (125 : Int) < ((x1_1.length : Int) : Int) := of_decide_eq_true (by first | (with_reducible assumption) | assumption); have qi15 : (125 < x1_1.length) = True := eq_true (by omega); obtain ⟨hx15_0, hf15_0⟩ := Kd.R_celln 0 HO_1.out (125 : Int) p15 q15; (try rw [show ((125 : Int)).toNat = 125 from rfl] at hx15_0); (try simp only [Nat.reduceMul, Nat.zero_mul, Nat.zero_add, Nat.reduceAdd] at hx15_0); (try rw [show ((125 : Int)).toNat = 125 from rfl] at hf15_0); (try simp only [Nat.reduceMul, Nat.zero_mul, Nat.zero_add, Nat.reduceAdd] at hf15_0); replace p15 := eq_true p15; replace q15 := eq_true q15; obtain ⟨hy44_, hz44_⟩ := Kd.R_celln 0 HO_1.out (125 : Int) (by omega) (of_decide_eq_true (by first | (with_reducible assumption) | assumption)); (try simp only [Int.reduceToNat, Int.toNat_zero, Int.toNat_ofNat, Nat.reduceMul, Nat.zero_mul, Nat.zero_add] at hy44_ hz44_); (try rw [show ((125 : Int)).toNat = 125 from rfl] at hy44_); (try rw [show ((125 : Int)).toNat = 125 from rfl] at hz44_); have HP44 := Kd.R_putg HO_1.out (125 : Int) 2) | ((with_reducible refine gate_store (t := 2) (p := 21) rfl ?_); refine store_event (t := 2) (p := 21) (v := ?vo_w45) (w1 := (w43.setCell ⟨go11, (125 : Int).toNat, none⟩ (.int .i64 2))) ?hg ?ho ?hn ?hr ?_; (case ho => rfl); (case hg => rfl); (case hn => rfl); (case hr => first | (go_simp; done) | (go_simp; rfl)); intro w45 hw; have hg : w43.grownBy w45 (some go11) := (by rw [hw]; exact HP44.2); have hp_ : Kd.R (Kd.int .i64) 2 w45 w.heap.size (fun _ => True) (.slice (some ⟨go11, 0, none⟩) x1_1.length co11) y115 := (by rw [hw, Ny115.out]; exact HP44.1); clear HP44; have n0_ := Aside0.mk (hp_); have n1_ := Aside0.mk ((by rw [hw]; exact below_set (HB.out) GB11.out : Below w.heap.size w w45)); clear HO_1; clear HB; have HO_1 := n0_; have HB := n1_; clear n0_ n1_; clear hg hw hp_; have p17 : 0 ≤ (32 : Int) := (by omega); have q17 : (32 : Int) < ((x1_1.length : Int) : Int) := of_decide_eq_true (by first | (with_reducible assumption) | assumption); have qi17 : (32 < x1_1.length) = True := eq_true (by omega); obtain ⟨hx17_0, hf17_0⟩ := Kd.R_celln 0 HO_1.out (32 : Int) p17 q17; (try rw [show ((32 : Int)).toNat = 32 from rfl] at hx17_0); (try simp only [Nat.reduceMul, Nat.zero_mul, Nat.zero_add, Nat.reduceAdd] at hx17_0); (try rw [show ((32 : Int)).toNat = 32 from rfl] at hf17_0); (try simp only [Nat.reduceMul, Nat.zero_mul, Nat.zero_add, Nat.reduceAdd] at hf17_0); replace p17 := eq_true p17; replace q17 := eq_true q17; obtain ⟨hy46_, hz46_⟩ := Kd.R_celln 0 HO_1.out (32 : Int) (by omega) (of_decide_eq_true (by first | (with_reducible assumption) | assumption)); (try simp only [Int.reduceToNat, Int.toNat_zero, Int.toNat_ofNat, Nat.reduceMul, Nat.zero_mul, Nat.zero_add] at hy46_ hz46_); (try rw [show ((32 : Int)).toNat = 32 from rfl] at hy46_); (try rw [show ((32 : Int)).toNat = 32 from rfl] at hz46_); have HP46 := Kd.R_putg HO_1.out (32 : Int) 3) | ((with_reducible refine gate_store (t := 2) (p := 23) rfl ?_); refine store_event (t := 2) (p := 23) (v := ?vo_w47) (w1 := (w45.setCell ⟨go11, (32 : Int).toNat, none⟩ (.int .i64 3))) ?hg ?ho ?hn ?hr ?_; (case ho => rfl); (case hg => rfl); (case hn => rfl); (case hr => first | (go_simp; done) | (go_simp; rfl)); intro w47 hw; have hg : w45.grownBy w47 (some go11) := (by rw [hw]; exact HP46.2); have hp_ : Kd.R (Kd.int .i64) 2 w47 w.heap.size (fun _ => True) (.slice (some ⟨go11, 0, none⟩) x1_1.length co11) y116 := (by rw [hw, Ny116.out]; exact HP46.1); clear HP46; have n0_ := Aside0.mk (hp_); have n1_ := Aside0.mk ((by rw [hw]; exact below_set (HB.out) GB11.out : Below w.heap.size w w47)); clear HO_1; clear HB; have HO_1 := n0_; have HB := n1_; clear n0_ n1_; clear hg hw hp_; have p19 : 0 ≤ (9 : Int) := (by omega); have q19 : (9 : Int) < ((x1_1.length : Int) : Int) := of_decide_eq_true (by first | (with_reducible assumption) | assumption); have qi19 : (9 < x1_1.length) = True := eq_true (by omega); obtain ⟨hx19_0, hf19_0⟩ := Kd.R_celln 0 HO_1.out (9 : Int) p19 q19; (try rw [show ((9 : Int)).toNat = 9 from rfl] at hx19_0); (try simp only [Nat.reduceMul, Nat.zero_mul, Nat.zero_add, Nat.reduceAdd] at hx19_0); (try rw [show ((9 : Int)).toNat = 9 from rfl] at hf19_0); (try simp only [Nat.reduceMul, Nat.zero_mul, Nat.zero_add, Nat.reduceAdd] at hf19_0); replace p19 := eq_true p19; replace q19 := eq_true q19; obtain ⟨hy48_, hz48_⟩ := Kd.R_celln 0 HO_1.out (9 : Int) (by omega) (of_decide_eq_true (by first | (with_reducible assumption) | assumption)); (try simp only [Int.reduceToNat, Int.toNat_zero, Int.toNat_ofNat, Nat.reduceMul, Nat.zero_mul, Nat.zero_add] at hy48_ hz48_); (try rw [show ((9 : Int)).toNat = 9 from rfl] at hy48_); (try rw [show ((9 : Int)).toNat = 9 from rfl] at hz48_); have HP48 := Kd.R_putg HO_1.out (9 : Int) 3) | ((with_reducible refine gate_store (t := 2) (p := 25) rfl ?_); refine store_event (t := 2) (p := 25) (v := ?vo_w49) (w1 := (w47.setCell ⟨go11, (9 : Int).toNat, none⟩ (.int .i64 3))) ?hg ?ho ?hn ?hr ?_; (case ho => rfl); (case hg => rfl); (case hn => rfl); (case hr => first | (go_simp; done) | (go_simp; rfl)); intro w49 hw; have hg : w47.grownBy w49 (some go11) := (by rw [hw]; exact HP48.2); have hp_ : Kd.R (Kd.int .i64) 2 w49 w.heap.size (fun _ => True) (.slice (some ⟨go11, 0, none⟩) x1_1.length co11) y117 := (by rw [hw, Ny117.out]; exact HP48.1); clear HP48; have n0_ := Aside0.mk (hp_); have n1_ := Aside0.mk ((by rw [hw]; exact below_set (HB.out) GB11.out : Below w.heap.size w w49)); clear HO_1; clear HB; have HO_1 := n0_; have HB := n1_; clear n0_ n1_; clear hg hw hp_; have p21 : 0 ≤ (10 : Int) := (by omega); have q21 : (10 : Int) < ((x1_1.length : Int) : Int) := of_decide_eq_true (by first | (with_reducible assumption) | assumption); have qi21 : (10 < x1_1.length) = True := eq_true (by omega); obtain ⟨hx21_0, hf21_0⟩ := Kd.R_celln 0 HO_1.out (10 : Int) p21 q21; (try rw [show ((10 : Int)).toNat = 10 from rfl] at hx21_0); (try simp only [Nat.reduceMul, Nat.zero_mul, Nat.zero_add, Nat.reduceAdd] at hx21_0); (try rw [show ((10 : Int)).toNat = 10 from rfl] at hf21_0); (try simp only [Nat.reduceMul, Nat.zero_mul, Nat.zero_add, Nat.reduceAdd] at hf21_0); replace p21 := eq_true p21; replace q21 := eq_true q21; obtain ⟨hy50_, hz50_⟩ := Kd.R_celln 0 HO_1.out (10 : Int) (by omega) (of_decide_eq_true (by first | (with_reducible assumption) | assumption)); (try simp only [Int.reduceToNat, Int.toNat_zero, Int.toNat_ofNat, Nat.reduceMul, Nat.zero_mul, Nat.zero_add] at hy50_ hz50_); (try rw [show ((10 : Int)).toNat = 10 from rfl] at hy50_); (try rw [show ((10 : Int)).toNat = 10 from rfl] at hz50_); have HP50 := Kd.R_putg HO_1.out (10 : Int) 6) | ((with_reducible refine gate_store (t := 2) (p := 27) rfl ?_); refine store_event (t := 2) (p := 27) (v := ?vo_w51) (w1 := (w49.setCell ⟨go11, (10 : Int).toNat, none⟩ (.int .i64 6))) ?hg ?ho ?hn ?hr ?_; (case ho => rfl); (case hg => rfl); (case hn => rfl); (case hr => first | (go_simp; done) | (go_simp; rfl)); intro w51 hw; have hg : w49.grownBy w51 (some go11) := (by rw [hw]; exact HP50.2); have hp_ : Kd.R (Kd.int .i64) 2 w51 w.heap.size (fun _ => True) (.slice (some ⟨go11, 0, none⟩) x1_1.length co11) y118 := (by rw [hw, Ny118.out]; exact HP50.1); clear HP50; have n0_ := Aside0.mk (hp_); have n1_ := Aside0.mk ((by rw [hw]; exact below_set (HB.out) GB11.out : Below w.heap.size w w51)); clear HO_1; clear HB; have HO_1 := n0_; have HB := n1_; clear n0_ n1_; clear hg hw hp_; have p23 : 0 ≤ (35 : Int) := (by omega); have q23 : (35 : Int) < ((x1_1.length : Int) : Int) := of_decide_eq_true (by first | (with_reducible assumption) | assumption); have qi23 : (35 < x1_1.length) = True := eq_true (by omega); obtain ⟨hx23_0, hf23_0⟩ := Kd.R_celln 0 HO_1.out (35 : Int) p23 q23; (try rw [show ((35 : Int)).toNat = 35 from rfl] at hx23_0); (try simp only [Nat.reduceMul, Nat.zero_mul, Nat.zero_add, Nat.reduceAdd] at hx23_0); (try rw [show ((35 : Int)).toNat = 35 from rfl] at hf23_0); (try simp only [Nat.reduceMul, Nat.zero_mul, Nat.zero_add, Nat.reduceAdd] at hf23_0); replace p23 := eq_true p23; replace q23 := eq_true q23; obtain ⟨hy52_, hz52_⟩ := Kd.R_celln 0 HO_1.out (35 : Int) (by omega) (of_decide_eq_true (by first | (with_reducible assumption) | assumption)); (try simp only [Int.reduceToNat, Int.toNat_zero, Int.toNat_ofNat, Nat.reduceMul, Nat.zero_mul, Nat.zero_add] at hy52_ hz52_); (try rw [show ((35 : Int)).toNat = 35 from rfl] at hy52_); (try rw [show ((35 : Int)).toNat = 35 from rfl] at hz52_); have HP52 := Kd.R_putg HO_1.out (35 : Int) 7) | ((with_reducible refine gate_store (t := 2) (p := 29) rfl ?_); refine store_event (t := 2) (p := 29) (v := ?vo_w53) (w1 := (w51.setCell ⟨go11, (35 : Int).toNat, none⟩ (.int .i64 7))) ?hg ?ho ?hn ?hr ?_; (case ho => rfl); (case hg => rfl); (case hn => rfl); (case hr => first | (go_simp; done) | (go_simp; rfl)); intro w53 hw; have hg : w51.grownBy w53 (some go11) := (by rw [hw]; exact HP52.2); have hp_ : Kd.R (Kd.int .i64) 2 w53 w.heap.size (fun _ => True) (.slice (some ⟨go11, 0, none⟩) x1_1.length co11) y119 := (by rw [hw, Ny119.out]; exact HP52.1); clear HP52; have n0_ := Aside0.mk (hp_); have n1_ := Aside0.mk ((by rw [hw]; exact below_set (HB.out) GB11.out : Below w.heap.size w w53)); clear HO_1; clear HB; have HO_1 := n0_; have HB := n1_; clear n0_ n1_; clear hg hw hp_; have p25 : 0 ≤ (37 : Int) := (by omega); have q25 : (37 : Int) < ((x1_1.length : Int) : Int) := of_decide_eq_true (by first | (with_reducible assumption) | assumption); have qi25 : (37 < x1_1.length) = True := eq_true (by omega); obtain ⟨hx25_0, hf25_0⟩ := Kd.R_celln 0 HO_1.out (37 : Int) p25 q25; (try rw [show ((37 : Int)).toNat = 37 from rfl] at hx25_0); (try simp only [Nat.reduceMul, Nat.zero_mul, Nat.zero_add, Nat.reduceAdd] at hx25_0); (try rw [show ((37 : Int)).toNat = 37 from rfl] at hf25_0); (try simp only [Nat.reduceMul, Nat.zero_mul, Nat.zero_add, Nat.reduceAdd] at hf25_0); replace p25 := eq_true p25; replace q25 := eq_true q25; obtain ⟨hy54_, hz54_⟩ := Kd.R_celln 0 HO_1.out (37 : Int) (by omega) (of_decide_eq_true (by first | (with_reducible assumption) | assumption)); (try simp only [Int.reduceToNat, Int.toNat_zero, Int.toNat_ofNat, Nat.reduceMul, Nat.zero_mul, Nat.zero_add] at hy54_ hz54_); (try rw [show ((37 : Int)).toNat = 37 from rfl] at hy54_); (try rw [show ((37 : Int)).toNat = 37 from rfl] at hz54_); have HP54 := Kd.R_putg HO_1.out (37 : Int) 8) | ((with_reducible refine gate_store (t := 2) (p := 31) rfl ?_); refine store_event (t := 2) (p := 31) (v := ?vo_w55) (w1 := (w53.setCell ⟨go11, (37 : Int).toNat, none⟩ (.int .i64 8))) ?hg ?ho ?hn ?hr ?_; (case ho => rfl); (case hg => rfl); (case hn => rfl); (case hr => first | (go_simp; done) | (go_simp; rfl)); intro w55 hw; have hg : w53.grownBy w55 (some go11) := (by rw [hw]; exact HP54.2); have hp_ : Kd.R (Kd.int .i64) 2 w55 w.heap.size (fun _ => True) (.slice (some ⟨go11, 0, none⟩) x1_1.length co11) y120 := (by rw [hw, Ny120.out]; exact HP54.1); clear HP54; have n0_ := Aside0.mk (hp_); have n1_ := Aside0.mk ((by rw [hw]; exact below_set (HB.out) GB11.out : Below w.heap.size w w55)); clear HO_1; clear HB; have HO_1 := n0_; have HB := n1_; clear n0_ n1_; clear hg hw hp_; have p27 : 0 ≤ (0 : Int) := (by omega); have q27 : (0 : Int) < ((x1_1.length : Int) : Int) := of_decide_eq_true (by first | (with_reducible assumption) | assumption); have qi27 : (0 < x1_1.length) = True := eq_true (by omega); obtain ⟨hx27_0, hf27_0⟩ := Kd.R_celln 0 HO_1.out (0 : Int) p27 q27; (try rw [show ((0 : Int)).toNat = 0 from rfl] at hx27_0); (try simp only [Nat.reduceMul, Nat.zero_mul, Nat.zero_add, Nat.reduceAdd] at hx27_0); (try rw [show ((0 : Int)).toNat = 0 from rfl] at hf27_0); (try simp only [Nat.reduceMul, Nat.zero_mul, Nat.zero_add, Nat.reduceAdd] at hf27_0); replace p27 := eq_true p27; replace q27 := eq_true q27; obtain ⟨hy56_, hz56_⟩ := Kd.R_celln 0 HO_1.out (0 : Int) (by omega) (of_decide_eq_true (by first | (with_reducible assumption) | assumption)); (try simp only [Int.reduceToNat, Int.toNat_zero, Int.toNat_ofNat, Nat.reduceMul, Nat.zero_mul, Nat.zero_add] at hy56_ hz56_); (try rw [show ((0 : Int)).toNat = 0 from rfl] at hy56_); (try rw [show ((0 : Int)).toNat = 0 from rfl] at hz56_); have HP56 := Kd.R_putg HO_1.out (0 : Int) 9) | ((with_reducible refine gate_store (t := 2) (p := 33) rfl ?_); refine store_event (t := 2) (p := 33) (v := ?vo_w57) (w1 := (w55.setCell ⟨go11, (0 : Int).toNat, none⟩ (.int .i64 9))) ?hg ?ho ?hn ?hr ?_; (case ho => rfl); (case hg => rfl); (case hn => rfl); (case hr => first | (go_simp; done) | (go_simp; rfl)); intro w57 hw; have hg : w55.grownBy w57 (some go11) := (by rw [hw]; exact HP56.2); have hp_ : Kd.R (Kd.int .i64) 2 w57 w.heap.size (fun _ => True) (.slice (some ⟨go11, 0, none⟩) x1_1.length co11) y121 := (by rw [hw, Ny121.out]; exact HP56.1); clear HP56; have n0_ := Aside0.mk (hp_); have n1_ := Aside0.mk ((by rw [hw]; exact below_set (HB.out) GB11.out : Below w.heap.size w w57)); clear HO_1; clear HB; have HO_1 := n0_; have HB := n1_; clear n0_ n1_; clear hg hw hp_; have p29 : 0 ≤ (36 : Int) := (by omega); have q29 : (36 : Int) < ((x1_1.length : Int) : Int) := of_decide_eq_true (by first | (with_reducible assumption) | assumption); have qi29 : (36 < x1_1.length) = True := eq_true (by omega); obtain ⟨hx29_0, hf29_0⟩ := Kd.R_celln 0 HO_1.out (36 : Int) p29 q29; (try rw [show ((36 : Int)).toNat = 36 from rfl] at hx29_0); (try simp only [Nat.reduceMul, Nat.zero_mul, Nat.zero_add, Nat.reduceAdd] at hx29_0); (try rw [show ((36 : Int)).toNat = 36 from rfl] at hf29_0); (try simp only [Nat.reduceMul, Nat.zero_mul, Nat.zero_add, Nat.reduceAdd] at hf29_0); replace p29 := eq_true p29; replace q29 := eq_true q29; obtain ⟨hy58_, hz58_⟩ := Kd.R_celln 0 HO_1.out (36 : Int) (by omega) (of_decide_eq_true (by first | (with_reducible assumption) | assumption)); (try simp only [Int.reduceToNat, Int.toNat_zero, Int.toNat_ofNat, Nat.reduceMul, Nat.zero_mul, Nat.zero_add] at hy58_ hz58_); (try rw [show ((36 : Int)).toNat = 36 from rfl] at hy58_); (try rw [show ((36 : Int)).toNat = 36 from rfl] at hz58_); have HP58 := Kd.R_putg HO_1.out (36 : Int) 10) | ((with_reducible refine gate_store (t := 2) (p := 35) rfl ?_); refine store_event (t := 2) (p := 35) (v := ?vo_w59) (w1 := (w57.setCell ⟨go11, (36 : Int).toNat, none⟩ (.int .i64 10))) ?hg ?ho ?hn ?hr ?_; (case ho => rfl); (case hg => rfl); (case hn => rfl); (case hr => first | (go_simp; done) | (go_simp; rfl)); intro w59 hw; have hg : w57.grownBy w59 (some go11) := (by rw [hw]; exact HP58.2); have hp_ : Kd.R (Kd.int .i64) 2 w59 w.heap.size (fun _ => True) (.slice (some ⟨go11, 0, none⟩) x1_1.length co11) y122 := (by rw [hw, Ny122.out]; exact HP58.1); clear HP58; have n0_ := Aside0.mk (hp_); have n1_ := Aside0.mk ((by rw [hw]; exact below_set (HB.out) GB11.out : Below w.heap.size w w59)); clear HO_1; clear HB; have HO_1 := n0_; have HB := n1_; clear n0_ n1_; clear hg hw hp_; have p31 : 0 ≤ (94 : Int) := (by omega); have q31 : (94 : Int) < ((x1_1.length : Int) : Int) := of_decide_eq_true (by first | (with_reducible assumption) | assumption); have qi31 : (94 < x1_1.length) = True := eq_true (by omega); obtain ⟨hx31_0, hf31_0⟩ := Kd.R_celln 0 HO_1.out (94 : Int) p31 q31; (try rw [show ((94 : Int)).toNat = 94 from rfl] at hx31_0); (try simp only [Nat.reduceMul, Nat.zero_mul, Nat.zero_add, Nat.reduceAdd] at hx31_0); (try rw [show ((94 : Int)).toNat = 94 from rfl] at hf31_0); (try simp only [Nat.reduceMul, Nat.zero_mul, Nat.zero_add, Nat.reduceAdd] at hf31_0); replace p31 := eq_true p31; replace q31 := eq_true q31; obtain ⟨hy60_, hz60_⟩ := Kd.R_celln 0 HO_1.out (94 : Int) (by omega) (of_decide_eq_true (by first | (with_reducible assumption) | assumption)); (try simp only [Int.reduceToNat, Int.toNat_zero, Int.toNat_ofNat, Nat.reduceMul, Nat.zero_mul, Nat.zero_add] at hy60_ hz60_); (try rw [show ((94 : Int)).toNat = 94 from rfl] at hy60_); (try rw [show ((94 : Int)).toNat = 94 from rfl] at hz60_); have HP60 := Kd.R_putg HO_1.out (94 : Int) 11) | ((with_reducible refine gate_store (t := 2) (p := 37) rfl ?_); refine store_event (t := 2) (p := 37) (v := ?vo_w61) (w1 := (w59.setCell ⟨go11, (94 : Int).toNat, none⟩ (.int .i64 11))) ?hg ?ho ?hn ?hr ?_; (case ho => rfl); (case hg => rfl); (case hn => rfl); (case hr => first | (go_simp; done) | (go_simp; rfl)); intro w61 hw; have hg : w59.grownBy w61 (some go11) := (by rw [hw]; exact HP60.2); have hp_ : Kd.R (Kd.int .i64) 2 w61 w.heap.size (fun _ => True) (.slice (some ⟨go11, 0, none⟩) x1_1.length co11) y123 := (by rw [hw, Ny123.out]; exact HP60.1); clear HP60; have n0_ := Aside0.mk (hp_); have n1_ := Aside0.mk ((by rw [hw]; exact below_set (HB.out) GB11.out : Below w.heap.size w w61)); clear HO_1; clear HB; have HO_1 := n0_; have HB := n1_; clear n0_ n1_; clear hg hw hp_; have p33 : 0 ≤ (95 : Int) := (by omega); have q33 : (95 : Int) < ((x1_1.length : Int) : Int) := of_decide_eq_true (by first | (with_reducible assumption) | assumption); have qi33 : (95 < x1_1.length) = True := eq_true (by omega); obtain ⟨hx33_0, hf33_0⟩ := Kd.R_celln 0 HO_1.out (95 : Int) p33 q33; (try rw [show ((95 : Int)).toNat = 95 from rfl] at hx33_0); (try simp only [Nat.reduceMul, Nat.zero_mul, Nat.zero_add, Nat.reduceAdd] at hx33_0); (try rw [show ((95 : Int)).toNat = 95 from rfl] at hf33_0); (try simp only [Nat.reduceMul, Nat.zero_mul, Nat.zero_add, Nat.reduceAdd] at hf33_0); replace p33 := eq_true p33; replace q33 := eq_true q33; obtain ⟨hy62_, hz62_⟩ := Kd.R_celln 0 HO_1.out (95 : Int) (by omega) (of_decide_eq_true (by first | (with_reducible assumption) | assumption)); (try simp only [Int.reduceToNat, Int.toNat_zero, Int.toNat_ofNat, Nat.reduceMul, Nat.zero_mul, Nat.zero_add] at hy62_ hz62_); (try rw [show ((95 : Int)).toNat = 95 from rfl] at hy62_); (try rw [show ((95 : Int)).toNat = 95 from rfl] at hz62_); have HP62 := Kd.R_putg HO_1.out (95 : Int) 12) | ((with_reducible refine gate_store (t := 2) (p := 39) rfl ?_); refine store_event (t := 2) (p := 39) (v := ?vo_w63) (w1 := (w61.setCell ⟨go11, (95 : Int).toNat, none⟩ (.int .i64 12))) ?hg ?ho ?hn ?hr ?_; (case ho => rfl); (case hg => rfl); (case hn => rfl); (case hr => first | (go_simp; done) | (go_simp; rfl)); intro w63 hw; have hg : w61.grownBy w63 (some go11) := (by rw [hw]; exact HP62.2); have hp_ : Kd.R (Kd.int .i64) 2 w63 w.heap.size (fun _ => True) (.slice (some ⟨go11, 0, none⟩) x1_1.length co11) y124 := (by rw [hw, Ny124.out]; exact HP62.1); clear HP62; have n0_ := Aside0.mk (hp_); have n1_ := Aside0.mk ((by rw [hw]; exact below_set (HB.out) GB11.out : Below w.heap.size w w63)); clear HO_1; clear HB; have HO_1 := n0_; have HB := n1_; clear n0_ n1_; clear hg hw hp_; have p35 : 0 ≤ (38 : Int) := (by omega); have q35 : (38 : Int) < ((x1_1.length : Int) : Int) := of_decide_eq_true (by first | (with_reducible assumption) | assumption); have qi35 : (38 < x1_1.length) = True := eq_true (by omega); obtain ⟨hx35_0, hf35_0⟩ := Kd.R_celln 0 HO_1.out (38 : Int) p35 q35; (try rw [show ((38 : Int)).toNat = 38 from rfl] at hx35_0); (try simp only [Nat.reduceMul, Nat.zero_mul, Nat.zero_add, Nat.reduceAdd] at hx35_0); (try rw [show ((38 : Int)).toNat = 38 from rfl] at hf35_0); (try simp only [Nat.reduceMul, Nat.zero_mul, Nat.zero_add, Nat.reduceAdd] at hf35_0); replace p35 := eq_true p35; replace q35 := eq_true q35; obtain ⟨hy64_, hz64_⟩ := Kd.R_celln 0 HO_1.out (38 : Int) (by omega) (of_decide_eq_true (by first | (with_reducible assumption) | assumption)); (try simp only [Int.reduceToNat, Int.toNat_zero, Int.toNat_ofNat, Nat.reduceMul, Nat.zero_mul, Nat.zero_add] at hy64_ hz64_); (try rw [show ((38 : Int)).toNat = 38 from rfl] at hy64_); (try rw [show ((38 : Int)).toNat = 38 from rfl] at hz64_); have HP64 := Kd.R_putg HO_1.out (38 : Int) 13) | ((with_reducible refine gate_store (t := 2) (p := 41) rfl ?_); refine store_event (t := 2) (p := 41) (v := ?vo_w65) (w1 := (w63.setCell ⟨go11, (38 : Int).toNat, none⟩ (.int .i64 13))) ?hg ?ho ?hn ?hr ?_; (case ho => rfl); (case hg => rfl); (case hn => rfl); (case hr => first | (go_simp; done) | (go_simp; rfl)); intro w65 hw; have hg : w63.grownBy w65 (some go11) := (by rw [hw]; exact HP64.2); have hp_ : Kd.R (Kd.int .i64) 2 w65 w.heap.size (fun _ => True) (.slice (some ⟨go11, 0, none⟩) x1_1.length co11) y125 := (by rw [hw, Ny125.out]; exact HP64.1); clear HP64; have n0_ := Aside0.mk (hp_); have n1_ := Aside0.mk ((by rw [hw]; exact below_set (HB.out) GB11.out : Below w.heap.size w w65)); clear HO_1; clear HB; have HO_1 := n0_; have HB := n1_; clear n0_ n1_; clear hg hw hp_; have p37 : 0 ≤ (126 : Int) := (by omega); have q37 : (126 : Int) < ((x1_1.length : Int) : Int) := of_decide_eq_true (by first | (with_reducible assumption) | assumption); have qi37 : (126 < x1_1.length) = True := eq_true (by omega); obtain ⟨hx37_0, hf37_0⟩ := Kd.R_celln 0 HO_1.out (126 : Int) p37 q37; (try rw [show ((126 : Int)).toNat = 126 from rfl] at hx37_0); (try simp only [Nat.reduceMul, Nat.zero_mul, Nat.zero_add, Nat.reduceAdd] at hx37_0); (try rw [show ((126 : Int)).toNat = 126 from rfl] at hf37_0); (try simp only [Nat.reduceMul, Nat.zero_mul, Nat.zero_add, Nat.reduceAdd] at hf37_0); replace p37 := eq_true p37; replace q37 := eq_true q37; obtain ⟨hy66_, hz66_⟩ := Kd.R_celln 0 HO_1.out (126 : Int) (by omega) (of_decide_eq_true (by first | (with_reducible assumption) | assumption)); (try simp only [Int.reduceToNat, Int.toNat_zero, Int.toNat_ofNat, Nat.reduceMul, Nat.zero_mul, Nat.zero_add] at hy66_ hz66_); (try rw [show ((126 : Int)).toNat = 126 from rfl] at hy66_); (try rw [show ((126 : Int)).toNat = 126 from rfl] at hz66_); have HP66 := Kd.R_putg HO_1.out (126 : Int) 14) | ((with_reducible refine gate_store (t := 2) (p := 43) rfl ?_); refine store_event (t := 2) (p := 43) (v := ?vo_w67) (w1 := (w65.setCell ⟨go11, (126 : Int).toNat, none⟩ (.int .i64 14))) ?hg ?ho ?hn ?hr ?_; (case ho => rfl); (case hg => rfl); (case hn => rfl); (case hr => first | (go_simp; done) | (go_simp; rfl)); intro w67 hw; have hg : w65.grownBy w67 (some go11) := (by rw [hw]; exact HP66.2); have hp_ : Kd.R (Kd.int .i64) 2 w67 w.heap.size (fun _ => True) (.slice (some ⟨go11, 0, none⟩) x1_1.length co11) y126 := (by rw [hw, Ny126.out]; exact HP66.1); clear HP66; have n0_ := Aside0.mk (hp_); have n1_ := Aside0.mk ((by rw [hw]; exact below_set (HB.out) GB11.out : Below w.heap.size w w67)); clear HO_1; clear HB; have HO_1 := n0_; have HB := n1_; clear n0_ n1_; clear hg hw hp_; have p39 : 0 ≤ (127 : Int) := (by omega); have q39 : (127 : Int) < ((x1_1.length : Int) : Int) := of_decide_eq_true (by first | (with_reducible assumption) | assumption); have qi39 : (127 < x1_1.length) = True := eq_true (by omega); obtain ⟨hx39_0, hf39_0⟩ := Kd.R_celln 0 HO_1.out (127 : Int) p39 q39; (try rw [show ((127 : Int)).toNat = 127 from rfl] at hx39_0); (try simp only [Nat.reduceMul, Nat.zero_mul, Nat.zero_add, Nat.reduceAdd] at hx39_0); (try rw [show ((127 : Int)).toNat = 127 from rfl] at hf39_0); (try simp only [Nat.reduceMul, Nat.zero_mul, Nat.zero_add, Nat.reduceAdd] at hf39_0); replace p39 := eq_true p39; replace q39 := eq_true q39; obtain ⟨hy68_, hz68_⟩ := Kd.R_celln 0 HO_1.out (127 : Int) (by omega) (of_decide_eq_true (by first | (with_reducible assumption) | assumption)); (try simp only [Int.reduceToNat, Int.toNat_zero, Int.toNat_ofNat, Nat.reduceMul, Nat.zero_mul, Nat.zero_add] at hy68_ hz68_); (try rw [show ((127 : Int)).toNat = 127 from rfl] at hy68_); (try rw [show ((127 : Int)).toNat = 127 from rfl] at hz68_); have HP68 := Kd.R_putg HO_1.out (127 : Int) 15) | ((with_reducible refine gate_store (t := 2) (p := 45) rfl ?_); refine store_event (t := 2) (p := 45) (v := ?vo_w69) (w1 := (w67.setCell ⟨go11, (127 : Int).toNat, none⟩ (.int .i64 15))) ?hg ?ho ?hn ?hr ?_; (case ho => rfl); (case hg => rfl); (case hn => rfl); (case hr => first | (go_simp; done) | (go_simp; rfl)); intro w69 hw; have hg : w67.grownBy w69 (some go11) := (by rw [hw]; exact HP68.2); have hp_ : Kd.R (Kd.int .i64) 2 w69 w.heap.size (fun _ => True) (.slice (some ⟨go11, 0, none⟩) x1_1.length co11) y127 := (by rw [hw, Ny127.out]; exact HP68.1); clear HP68; have n0_ := Aside0.mk (hp_); have n1_ := Aside0.mk ((by rw [hw]; exact below_set (HB.out) GB11.out : Below w.heap.size w w69)); clear HO_1; clear HB; have HO_1 := n0_; have HB := n1_; clear n0_ n1_; clear hg hw hp_))
                                      go_ret
                                      exact ⟨_, by first | rfl | (simp [errW_none, errW_some] <;> rfl) | (simp [*, errW_none, errW_some] <;> rfl), by (with_reducible repeat (first | apply Kd.R_alloc | apply Kd.R_drewN | apply Kd.R_drew)); exact HO_1.out, by repeat (first | (with_reducible first | exact HB.out | apply below_alloc | apply pw_below_drewN | apply below_drew1) | exact HB.out)⟩
                                    · rw [if_neg c38] at H
                                      exact absurd H (by simp)
                                  · rw [if_neg c36] at H
                                    exact absurd H (by simp)
                                · rw [if_neg c34] at H
                                  exact absurd H (by simp)
                              · rw [if_neg c32] at H
                                exact absurd H (by simp)
                            · rw [if_neg c30] at H
                              exact absurd H (by simp)
                          · rw [if_neg c28] at H
                            exact absurd H (by simp)
                        · rw [if_neg c26] at H
                          exact absurd H (by simp)
                      · rw [if_neg c24] at H
                        exact absurd H (by simp)
                    · rw [if_neg c22] at H
                      exact absurd H (by simp)
                  · rw [if_neg c20] at H
                    exact absurd H (by simp)
                · rw [if_neg c18] at H
                  exact absurd H (by simp)
              · rw [if_neg c16] at H
                exact absurd H (by simp)
            · rw [if_neg c14] at H
              exact absurd H (by simp)
          · rw [if_neg c12] at H
            exact absurd H (by simp)
        · rw [if_neg c10] at H
          exact absurd H (by simp)

/-! ### impl_isLetter: function 72 -/
def impl_isLetter.f (a0 : Int) : Option (Bool) := if a0 ≥ 97 then (if a0 ≤ 122 then (some true) else (if a0 ≥ 65 then (some (decide (a0 ≤ 90))) else (some false))) else (if a0 ≥ 65 then (some (decide (a0 ≤ 90))) else (some false))
set_option maxHeartbeats 8000000 in
set_option maxRecDepth 100000 in
theorem impl_isLetter.calls (a0 : Int) (r : Bool) (w : World) (h : impl_isLetter.f a0 = some r) :
    Calls Try.prog 72 #[.int .u8 a0] w fun e w' => e = .returned (.bool r) ∧ Drawn0 w w' := by
  have H : (if a0 ≥ 97 then (if a0 ≤ 122 then (some true) else (if a0 ≥ 65 then (some (decide (a0 ≤ 90))) else (some false))) else (if a0 ≥ 65 then (some (decide (a0 ≤ 90))) else (some false))) = some r := h
  clear h
  by_cases c2 : a0 ≥ 97
  · rw [if_pos c2] at H
    have c2b0 : decide (97 ≤ a0) = true := decide_eq_true c2
    clear c2
    by_cases c3 : a0 ≤ 122
    · rw [if_pos c3] at H
      have c3b0 : decide (a0 ≤ 122) = true := decide_eq_true c3
      clear c3
      obtain rfl := Option.some.inj H
      go_enter Try.func72, Try.ntmps72
      go_wp2
      go_ret
      exact ⟨by first | rfl | (simp; done) | (simp [*]; done), by repeat (first | exact Drawn0.refl _ | apply Drawn0.step)⟩
    · rw [if_neg c3] at H
      have c3b0 : decide (a0 ≤ 122) = false := decide_eq_false c3
      clear c3
      by_cases c4 : a0 ≥ 65
      · rw [if_pos c4] at H
        have c4b0 : decide (65 ≤ a0) = true := decide_eq_true c4
        clear c4
        obtain rfl := Option.some.inj H
        go_enter Try.func72, Try.ntmps72
        go_wp2
        go_ret
        exact ⟨by first | rfl | (simp; done) | (simp [*]; done), by repeat (first | exact Drawn0.refl _ | apply Drawn0.step)⟩
      · rw [if_neg c4] at H
        have c4b0 : decide (65 ≤ a0) = false := decide_eq_false c4
        clear c4
        obtain rfl := Option.some.inj H
        go_enter Try.func72, Try.ntmps72
        go_wp2
        go_ret
        exact ⟨by first | rfl | (simp; done) | (simp [*]; done), by repeat (first | exact Drawn0.refl _ | apply Drawn0.step)⟩
  · rw [if_neg c2] at H
    have c2b0 : decide (97 ≤ a0) = false := decide_eq_false c2
    clear c2
    by_cases c5 : a0 ≥ 65
    · rw [if_pos c5] at H
      have c5b0 : decide (65 ≤ a0) = true := decide_eq_true c5
      clear c5
      obtain rfl := Option.some.inj H
      go_enter Try.func72, Try.ntmps72
      go_wp2
      go_ret
      exact ⟨by first | rfl | (simp; done) | (simp [*]; done), by repeat (first | exact Drawn0.refl _ | apply Drawn0.step)⟩
    · rw [if_neg c5] at H
      have c5b0 : decide (65 ≤ a0) = false := decide_eq_false c5
      clear c5
      obtain rfl := Option.some.inj H
      go_enter Try.func72, Try.ntmps72
      go_wp2
      go_ret
      exact ⟨by first | rfl | (simp; done) | (simp [*]; done), by repeat (first | exact Drawn0.refl _ | apply Drawn0.step)⟩

/-! ### the map of PlainCats: by hand -/
def pcTab : List (Int × Int) := [(0,9),(9,3),(10,6),(32,3),(35,7),(36,10),(37,8),(38,13),(92,0),(94,11),(95,12),(123,1),(125,2),(126,14),(127,15)]
def pcEs : List (Lit × DataW Unit) := pcTab.map fun p => (.int .u8 p.1, .lit (.int .i64 p.2))
/-- What the row reads as, as a function of the keys that are still to come. -/
def pcF (left : Lit → Bool) : List (Int × Int) → List Int → List Int
  | [], l => l
  | p :: t, l => pcF left t (if left (.int .u8 p.1) then l else l.set p.1.toNat p.2)
def pcFin (x : List Int) : List Int := pcTab.foldl (fun l p => l.set p.1.toNat p.2) x

theorem pcF_length (left : Lit → Bool) : ∀ (t : List (Int × Int)) (l : List Int), (pcF left t l).length = l.length
  | [], _ => rfl
  | p :: t, l => by unfold pcF; rw [pcF_length left t]; split <;> simp
theorem pcF_start (l : List Int) : pcF (Maps.has (.map pcEs)) pcTab l = l := by
  have h : ∀ t : List (Int × Int), (∀ p ∈ t, Maps.has (.map pcEs) (.int .u8 p.1) = true) → ∀ l, pcF (Maps.has (.map pcEs)) t l = l := by
    intro t
    induction t with
    | nil => intro _ l; rfl
    | cons p t ih =>
      intro hk l
      unfold pcF
      rw [if_pos (hk p (List.mem_cons_self ..))]
      exact ih (fun q hq => hk q (List.mem_cons_of_mem _ hq)) l
  exact h pcTab (by decide) l
theorem pcF_end {left : Lit → Bool} (hl : ∀ kl, left kl = false) (l : List Int) : pcF left pcTab l = pcFin l := by
  have h : ∀ (t : List (Int × Int)) (l : List Int), pcF left t l = t.foldl (fun l p => l.set p.1.toNat p.2) l := by
    intro t
    induction t with
    | nil => intro l; rfl
    | cons p t ih => intro l; unfold pcF; rw [if_neg (by rw [hl]; simp)]; exact ih _
  exact h pcTab l
theorem pcF_comm (left : Lit → Bool) {x : Nat} (c : Int) : ∀ (t : List (Int × Int)) (l : List Int), (∀ p ∈ t, p.1.toNat ≠ x) → pcF left t (l.set x c) = (pcF left t l).set x c
  | [], _, _ => rfl
  | p :: t, l, hk => by
    unfold pcF
    have hx := hk p (List.mem_cons_self ..)
    have ih := fun m => pcF_comm left c t m (fun q hq => hk q (List.mem_cons_of_mem _ hq))
    split
    · exact ih _
    · rw [List.set_comm _ _ (fun e => hx e.symm)]; exact ih _
theorem pcF_same (left : Lit → Bool) {x : Int} : ∀ (t : List (Int × Int)) (l : List Int), (∀ p ∈ t, p.1 ≠ x) → pcF (fun z => left z && !z.sameKey (.int .u8 x)) t l = pcF left t l
  | [], _, _ => rfl
  | p :: t, l, hk => by
    unfold pcF
    have hx := hk p (List.mem_cons_self ..)
    have e : (Lit.int .u8 p.1).sameKey (.int .u8 x) = false := by simp [Lit.sameKey, hx]
    rw [e]
    simp only [Bool.not_false, Bool.and_true]
    exact pcF_same left t _ (fun q hq => hk q (List.mem_cons_of_mem _ hq))
theorem pcF_step (left : Lit → Bool) {x c : Int} (hl : left (.int .u8 x) = true) : ∀ (t : List (Int × Int)) (l : List Int), t.Pairwise (fun p q => p.1 ≠ q.1 ∧ p.1.toNat ≠ q.1.toNat) → (x, c) ∈ t →
    pcF (fun z => left z && !z.sameKey (.int .u8 x)) t l = (pcF left t l).set x.toNat c
  | [], _, _, h => by cases h
  | p :: t, l, hp, h => by
    obtain ⟨h1, h2⟩ := List.pairwise_cons.1 hp
    rcases List.mem_cons.1 h with e | h
    · subst e
      unfold pcF
      have e : (Lit.int .u8 x).sameKey (.int .u8 x) = true := by simp [Lit.sameKey]
      simp only [e, hl, Bool.not_true, Bool.and_false, if_true, if_false]
      rw [pcF_same left t _ (fun q hq => (h1 q hq).1.symm)]
      exact pcF_comm left c t l (fun q hq => (h1 q hq).2.symm)
    · have hx : p.1 ≠ x := (h1 _ h).1
      unfold pcF
      have e : (Lit.int .u8 p.1).sameKey (.int .u8 x) = false := by simp [Lit.sameKey, hx]
      rw [e]
      simp only [Bool.not_false, Bool.and_true]
      exact pcF_step left hl t _ h2 h
theorem pcTab_apart : pcTab.Pairwise (fun p q => p.1 ≠ q.1 ∧ p.1.toNat ≠ q.1.toNat) := by decide
theorem pc_came {x c : Int} (hat : ∀ zd, (DataW.map pcEs).atKey (.int .u8 x) zd = .lit (.int .i64 c)) : (x, c) ∈ pcTab := by
  have h0 := hat .nil
  unfold DataW.atKey at h0
  simp only at h0
  cases hf : pcEs.find? (fun p => p.1.sameKey (.int .u8 x)) with
  | none => rw [hf] at h0; cases h0
  | some p =>
    rw [hf] at h0
    have hm := List.mem_of_find?_eq_some hf
    have hs := List.find?_some hf
    have hk := WideAt.sameKey_eq hs
    unfold pcEs at hm
    obtain ⟨q, hq, rfl⟩ := List.mem_map.1 hm
    simp only at h0 hk
    injection hk with _ hk
    injection h0 with h0
    injection h0 with _ h0
    rw [← hk, ← h0]
    exact hq

theorem wpList_insert_own {H : Type} {P : Program} (w : World) {ops : Array Oper} {rest : List Oper} {o : Oper} {a : Act} {Q : Exit → Act → World → Prop}
    (hg : o.guard = none) (m x v : Operand) (t : TypeId) (hop : o.op = Op.insert t m x v)
    (k e : TypeId) (K : Go.Maps.Keyed P k) (ht : P.underlying t = some (.map k e)) (R : Value → Option (DataW H × List MemPlace)) (b n : Nat) (D : DataW H)
    (hm : a.eval m = .map (some b)) (hown : w.ownsMap P k R b n D) (hn : n < maxLen) (key val : Value) (kl : Lit) (hx : a.eval x = key) (hv : a.eval v = val) (hkey : keyOf P k key = some kl)
    (d : DataW H) (ps : List MemPlace) (hval : R val = some (d, ps))
    (hK : ∀ w', w'.ownsMap P k R b (n + 1) (D.put kl d) → w.grownBy w' (some b) → wpList P ops Q rest (a.put o.dst undef) w') :
    wpList P ops Q (o :: rest) a w := by
  refine wpList_plain hg fun K' hK' => ?_
  obtain ⟨w', hrun, r1, r2⟩ := hown.update K ht hn hkey hval
  unfold Oper.wp
  simp [execOp, hop, hm, hx, hv, hrun, Result.andThen]
  exact hK' _ _ (hK w' r1 r2)

theorem pc_law : Go.Maps.Keyed Try.prog 5 := Go.Maps.int_keyed (q := .u8) rfl
/-! ### impl_PlainCats: function 43 -/
def impl_PlainCats.l0 : Nat → List Int → Int → Int → Option (List Int)
  | 0, _, _, _ => none
  | k + 1, x1, x7, x8 => if x8 < x7 then (if 0 ≤ x8 then (if x8 < (x1.length : Int) then ((some (x1.set (x8 : Int).toNat 5 : List Int)).bind fun y131 => ((impl_isLetter.f ((x8) % 256)).bind fun t132 => (if t132 = true then (impl_PlainCats.l0 k (y131.set (x8 : Int).toNat 4) x7 (wrap64 (x8 + 1))) else (impl_PlainCats.l0 k y131 x7 (wrap64 (x8 + 1)))))) else (none)) else (none)) else (some (pcFin x1))
def impl_PlainCats.f (k : Nat)  : Option (List Int) := if 256 ≤ 35184372088832 then ((some (List.replicate 256 0 : List Int)).bind fun y128 => (impl_PlainCats.l0 k y128 (y128.length : Int) 0)) else (none)
theorem impl_PlainCats.mono_l : ∀ k, (∀ y0 y1 y2, LeO (impl_PlainCats.l0 k y0 y1 y2) (impl_PlainCats.l0 (k + 1) y0 y1 y2))
  | 0 => fun _ _ _ r h => by simp [impl_PlainCats.l0] at h
  | k + 1 => by
    have ih0 := impl_PlainCats.mono_l k
    · intro y0 y1 y2
      unfold impl_PlainCats.l0
      repeat' first
      | (with_reducible exact ih0 _ _ _)
      | (with_reducible exact LeO.refl _)
      | (with_reducible exact LeO.none _)
      | (with_reducible refine LeO.ite ?_ ?_)
      | (with_reducible refine LeO.bind ?_ (fun _ => ?_))
      | exact ih0 _ _ _
      | exact LeO.none _
      | refine LeO.ite ?_ ?_
      | refine LeO.bind ?_ (fun _ => ?_)
theorem impl_PlainCats.mono : ∀ k, LeO (impl_PlainCats.f k ) (impl_PlainCats.f (k + 1) ) := by
  intro  k
  have ih0 := impl_PlainCats.mono_l k
  unfold impl_PlainCats.f
  repeat' first
      | (with_reducible exact ih0 _ _ _)
      | (with_reducible exact LeO.refl _)
      | (with_reducible exact LeO.none _)
      | (with_reducible refine LeO.ite ?_ ?_)
      | (with_reducible refine LeO.bind ?_ (fun _ => ?_))
      | exact ih0 _ _ _
      | exact LeO.none _
      | refine LeO.ite ?_ ?_
      | refine LeO.bind ?_ (fun _ => ?_)
set_option maxHeartbeats 8000000 in
set_option maxRecDepth 100000 in
theorem impl_PlainCats.calls (k : Nat)  (r : List Int) (w : World) (h : impl_PlainCats.f k  = some r) :
    Calls Try.prog 43 #[] w fun e w' => ∃ v0_ : Value, e = .returned (v0_) ∧ Kd.R (Kd.int .i64) 2 w' w.heap.size (fun _ => True) v0_ r ∧ Below w.heap.size w w' := by
  have HB := Aside0.mk (Below.refl w.heap.size w)
  have H : (if 256 ≤ 35184372088832 then ((some (List.replicate 256 0 : List Int)).bind fun y128 => (impl_PlainCats.l0 k y128 (y128.length : Int) 0)) else (none)) = some r := h
  clear h
  by_cases c1 : 256 ≤ 35184372088832
  · rw [if_pos c1] at H
    have c1b0 := eq_true c1
    have c1b1 : decide (256 ≤ 35184372088832) = true := decide_eq_true c1
    clear c1
    obtain ⟨y128, hy128⟩ : ∃ y_ : List Int, y_ = (List.replicate 256 0) := ⟨_, rfl⟩
    replace H : (impl_PlainCats.l0 k y128 (y128.length : Int) 0) = some r := by first | (rw [hy128]; with_reducible exact H) | (have H2_ := (Option.bind_some _ _).symm.trans H; rw [hy128]; with_reducible exact H2_) | (have H2_ := (Option.bind_some _ _).symm.trans H; with_reducible exact H2_) | with_reducible exact H | (rw [hy128]; exact H) | exact H
    have Ny128 := Aside0.mk hy128
    clear hy128
    have H' := Aside0.mk H
    clear H
    go_enter Try.func43, Try.ntmps43
    go_wp2_with (first | ((with_reducible refine gate_dst (N := 5) rfl ?_); refine Kd.R_make (Kd.int .i64) _ 2 rfl (N := 5) rfl 37 _ _ rfl 256 rfl rfl Try.underlying37 (.int .i64 0) 8 info2 rfl (by decide) (by omega) 0 (ok := fun _ => True) (okp := fun _ => True) rfl (fun _ hk => hk) trivial (by omega) (by omega) (Below.refl _ _) (Nat.le_refl _) ?_; intro v129 w2 ho3 hb hg_ hnew_; clear hg_ hnew_; (first | rw [← Ny128.out] at ho3 | (simp only [Int.reduceToNat] at ho3; rw [← Ny128.out] at ho3)); have n0_ := Aside0.mk (Kd.R_lower ho3 (below_size (by repeat (first | (with_reducible first | exact HB.out | apply below_alloc | apply pw_below_drewN | apply below_drew1) | exact HB.out)))); have n1_ := Aside0.mk (below_step (by repeat (first | (with_reducible first | exact HB.out | apply below_alloc | apply pw_below_drewN | apply below_drew1) | exact HB.out)) hb); clear HB; have HO130 := n0_; have HB := n1_; clear n0_ n1_; clear hb ho3; obtain ⟨Ao4, co4, eo4⟩ := Kd.R_slice HO130.out; subst eo4))
    go_loopg [8] k (fun kq v8 w' => ∃ (x1_1 : List Int) (x8_1 : Int), v8 = .int .i64 x8_1 ∧ Aside0 (impl_PlainCats.l0 kq x1_1 (y128.length : Int) x8_1 = some r) ∧ Aside0 (kq ≤ k) ∧ Aside0 (Kd.R (Kd.int .i64) 2 w' w.heap.size (fun _ => True) (.slice Ao4 y128.length co4) x1_1) ∧ Aside0 (Below w.heap.size w w'))
    case atStart => exact ⟨(y128), (0), (by first | rfl | (simp; done) | (simp [*]; done)), H', ⟨Nat.le_refl _⟩, ⟨by (with_reducible repeat (first | apply Kd.R_alloc | apply Kd.R_drewN | apply Kd.R_drew)); exact HO130.out⟩, ⟨by repeat (first | (with_reducible first | exact HB.out | apply below_alloc | apply pw_below_drewN | apply below_drew1) | exact HB.out)⟩⟩
    case round =>
      clear H'
      try clear c1
      try clear c1b0
      try clear c1b1
      try clear p2
      try clear c4
      obtain ⟨x1_1, x8_1, rfl, HA, HK1, HO_1, HB⟩ := hrel
      have hl1_1 := (Kd.R_reads' HO_1.out).1
      rw [hl1_1] at HO_1
      (try simp only [hl1_1])
      cases gk with
      | zero => exact absurd HA.out (by simp [impl_PlainCats.l0])
      | succ k1 =>
        have H := HA.out
        clear HA
        simp only [impl_PlainCats.l0] at H
        by_cases c5 : x8_1 < (y128.length : Int)
        · rw [if_pos c5] at H
          have c5b0 : decide (x8_1 < (y128.length : Int)) = true := decide_eq_true c5
          clear c5
          by_cases c6 : 0 ≤ x8_1
          · rw [if_pos c6] at H
            have c6b0 : decide (0 ≤ x8_1) = true := decide_eq_true c6
            clear c6
            by_cases c7 : x8_1 < (x1_1.length : Int)
            · rw [if_pos c7] at H
              have c7b0 : decide (x8_1 < (x1_1.length : Int)) = true := decide_eq_true c7
              clear c7
              obtain ⟨y131, hy131⟩ : ∃ y_ : List Int, y_ = (x1_1.set (x8_1 : Int).toNat 5) := ⟨_, rfl⟩
              replace H : ((impl_isLetter.f ((x8_1) % 256)).bind fun t132 => (if t132 = true then (impl_PlainCats.l0 k1 (y131.set (x8_1 : Int).toNat 4) (y128.length : Int) (wrap64 (x8_1 + 1))) else (impl_PlainCats.l0 k1 y131 (y128.length : Int) (wrap64 (x8_1 + 1))))) = some r := by first | (rw [hy131]; with_reducible exact H) | (have H2_ := (Option.bind_some _ _).symm.trans H; rw [hy131]; with_reducible exact H2_) | (have H2_ := (Option.bind_some _ _).symm.trans H; with_reducible exact H2_) | with_reducible exact H | (rw [hy131]; exact H) | exact H
              have Ny131 := Aside0.mk hy131
              clear hy131
              replace H := Option.bind_eq_some_iff.mp H
              obtain ⟨t132, A90, H⟩ := H
              replace H : (if t132 = true then (impl_PlainCats.l0 k1 (y131.set (x8_1 : Int).toNat 4) (y128.length : Int) (wrap64 (x8_1 + 1))) else (impl_PlainCats.l0 k1 y131 (y128.length : Int) (wrap64 (x8_1 + 1)))) = some r := H
              have A9 := Aside0.mk A90
              clear A90
              by_cases c10 : t132 = true
              · subst c10
                have H1 : (impl_PlainCats.l0 k1 (y131.set (x8_1 : Int).toNat 4) (y128.length : Int) (wrap64 (x8_1 + 1))) = some r := by rw [if_pos rfl] at H; exact H
                clear H
                have H := H1
                clear H1
                obtain ⟨y133, hy133⟩ : ∃ y_ : List Int, y_ = (y131.set (x8_1 : Int).toNat 4) := ⟨_, rfl⟩
                replace H : (impl_PlainCats.l0 k1 y133 (y128.length : Int) (wrap64 (x8_1 + 1))) = some r := by first | (rw [hy133]; with_reducible exact H) | (have H2_ := (Option.bind_some _ _).symm.trans H; rw [hy133]; with_reducible exact H2_) | (have H2_ := (Option.bind_some _ _).symm.trans H; with_reducible exact H2_) | with_reducible exact H | (rw [hy133]; exact H) | exact H
                have Ny133 := Aside0.mk hy133
                clear hy133
                have H' := Aside0.mk H
                clear H
                have p8 : 0 ≤ (x8_1 : Int) := of_decide_eq_true (by first | (with_reducible assumption) | assumption)
                have q8 : (x8_1 : Int) < ((x1_1.length : Int) : Int) := of_decide_eq_true (by first | (with_reducible assumption) | assumption)
                obtain ⟨go8, co8, eo8, gb8, gl8, cl8, HG8⟩ := Kd.R_form HO_1.out (by omega)
                (first | cases eo8 | (injection eo8 with ea_ en_ ec_; (first | subst ea_ | (injection ea_ with ea_; subst ea_)); subst ec_; clear en_))
                have GB8 := Aside0.mk gb8
                have GG8 := Aside0.mk HG8
                clear gb8 gl8 HG8
                obtain ⟨hx8_0, hf8_0⟩ := Kd.R_celln 0 HO_1.out (x8_1 : Int) p8 q8
                replace p8 := eq_true p8
                replace q8 := eq_true q8
                have HP12 := Kd.R_putg HO_1.out (x8_1 : Int) 5
                go_wp2_with (first | ((with_reducible refine gate_store (t := 2) (p := 13) rfl ?_); refine store_event (t := 2) (p := 13) (v := ?vo_w13) (w1 := (wr.setCell ⟨go8, (x8_1 : Int).toNat, none⟩ (.int .i64 5))) ?hg ?ho ?hn ?hr ?_; (case ho => rfl); (case hg => rfl); (case hn => rfl); (case hr => first | (go_simp; done) | (go_simp; rfl)); intro w13 hw; have hg : wr.grownBy w13 (some go8) := (by rw [hw]; exact HP12.2); have hp_ : Kd.R (Kd.int .i64) 2 w13 w.heap.size (fun _ => True) (.slice (some ⟨go8, 0, none⟩) x1_1.length co4) y131 := (by rw [hw, Ny131.out]; exact HP12.1); clear HP12; have n0_ := Aside0.mk (hp_); have n1_ := Aside0.mk ((by rw [hw]; exact below_set (HB.out) GB8.out : Below w.heap.size w w13)); clear HO_1; clear HB; have HO_1 := n0_; have HB := n1_; clear n0_ n1_; clear hg hw hp_) | ((with_reducible refine gate_callee (f := 72) rfl ?_); refine goesL_ (some 16) rfl rfl Try.func72 (by kernel_rfl) rfl #[.int .u8 ((x8_1) % 256)] rfl (by (try simp only [List.map_toArray, List.map_cons, List.map_nil]); first | done | rfl | (simp only [List.length_drop, List.length_take]; rfl)) ?_; (with_reducible refine (impl_isLetter.calls ((x8_1) % 256) true _ A9.out).mono ?_); rintro e w' ⟨rfl, ⟨nd, rfl⟩⟩; refine ⟨_, rfl, ?_⟩; (try (rw [drewN_self w13]; generalize hq_ : World.drewN w13 _ = w13; have n0_ : Aside0 (Kd.R (Kd.int .i64) 2 w13 w.heap.size (fun _ => True) (.slice (some ⟨go8, 0, none⟩) x1_1.length co4) y131) := ⟨by rw [← hq_]; exact (by (with_reducible repeat (first | apply Kd.R_alloc | apply Kd.R_drewN | apply Kd.R_drew)); exact HO_1.out)⟩; have n1_ : Aside0 (Below w.heap.size w w13) := ⟨by rw [← hq_]; exact (by repeat (first | (with_reducible first | exact HB.out | apply below_alloc | apply pw_below_drewN | apply below_drew1) | exact HB.out))⟩; clear HO_1 HB hq_; have HO_1 := n0_; have HB := n1_; clear n0_ n1_)); have p11 : 0 ≤ (x8_1 : Int) := of_decide_eq_true (by first | (with_reducible assumption) | assumption); have q11 : (x8_1 : Int) < ((x1_1.length : Int) : Int) := of_decide_eq_true (by first | (with_reducible assumption) | assumption); obtain ⟨hx11_0, hf11_0⟩ := Kd.R_celln 0 HO_1.out (x8_1 : Int) p11 q11; replace p11 := eq_true p11; replace q11 := eq_true q11; obtain ⟨hy14_, hz14_⟩ := Kd.R_celln 0 HO_1.out (x8_1 : Int) (of_decide_eq_true (by first | (with_reducible assumption) | assumption)) (of_decide_eq_true (by first | (with_reducible assumption) | assumption)); have HP14 := Kd.R_putg HO_1.out (x8_1 : Int) 4) | ((with_reducible refine gate_store (t := 2) (p := 19) rfl ?_); refine store_event (t := 2) (p := 19) (v := ?vo_w15) (w1 := (w13.setCell ⟨go8, (x8_1 : Int).toNat, none⟩ (.int .i64 4))) ?hg ?ho ?hn ?hr ?_; (case ho => rfl); (case hg => rfl); (case hn => rfl); (case hr => first | (go_simp; done) | (go_simp; rfl)); intro w15 hw; have hg : w13.grownBy w15 (some go8) := (by rw [hw]; exact HP14.2); have hp_ : Kd.R (Kd.int .i64) 2 w15 w.heap.size (fun _ => True) (.slice (some ⟨go8, 0, none⟩) x1_1.length co4) y133 := (by rw [hw, Ny133.out]; exact HP14.1); clear HP14; have n0_ := Aside0.mk (hp_); have n1_ := Aside0.mk ((by rw [hw]; exact below_set (HB.out) GB8.out : Below w.heap.size w w15)); clear HO_1; clear HB; have HO_1 := n0_; have HB := n1_; clear n0_ n1_; clear hg hw hp_))
                (try simp only [← hl1_1])
                go_roundg k1
                case measure => have := HK1.out; omega
                case rel => exact ⟨(y133), (wrap64 (x8_1 + 1)), (by first | rfl | (simp; done) | (simp [*]; done)), H', ⟨by have := HK1.out; omega⟩, ⟨by (try simp only [hl1_1]); (with_reducible repeat (first | apply Kd.R_alloc | apply Kd.R_drewN | apply Kd.R_drew)); exact HO_1.out⟩, ⟨by repeat (first | (with_reducible first | exact HB.out | apply below_alloc | apply pw_below_drewN | apply below_drew1) | exact HB.out)⟩⟩
              · replace c10 := Bool.eq_false_iff.mpr c10
                subst c10
                have H1 : (impl_PlainCats.l0 k1 y131 (y128.length : Int) (wrap64 (x8_1 + 1))) = some r := by rw [if_neg (show ¬ (false = true) by decide)] at H; exact H
                clear H
                have H := H1
                clear H1
                have H' := Aside0.mk H
                clear H
                have p8 : 0 ≤ (x8_1 : Int) := of_decide_eq_true (by first | (with_reducible assumption) | assumption)
                have q8 : (x8_1 : Int) < ((x1_1.length : Int) : Int) := of_decide_eq_true (by first | (with_reducible assumption) | assumption)
                obtain ⟨go8, co8, eo8, gb8, gl8, cl8, HG8⟩ := Kd.R_form HO_1.out (by omega)
                (first | cases eo8 | (injection eo8 with ea_ en_ ec_; (first | subst ea_ | (injection ea_ with ea_; subst ea_)); subst ec_; clear en_))
                have GB8 := Aside0.mk gb8
                have GG8 := Aside0.mk HG8
                clear gb8 gl8 HG8
                obtain ⟨hx8_0, hf8_0⟩ := Kd.R_celln 0 HO_1.out (x8_1 : Int) p8 q8
                replace p8 := eq_true p8
                replace q8 := eq_true q8
                have HP16 := Kd.R_putg HO_1.out (x8_1 : Int) 5
                go_wp2_with (first | ((with_reducible refine gate_store (t := 2) (p := 13) rfl ?_); refine store_event (t := 2) (p := 13) (v := ?vo_w17) (w1 := (wr.setCell ⟨go8, (x8_1 : Int).toNat, none⟩ (.int .i64 5))) ?hg ?ho ?hn ?hr ?_; (case ho => rfl); (case hg => rfl); (case hn => rfl); (case hr => first | (go_simp; done) | (go_simp; rfl)); intro w17 hw; have hg : wr.grownBy w17 (some go8) := (by rw [hw]; exact HP16.2); have hp_ : Kd.R (Kd.int .i64) 2 w17 w.heap.size (fun _ => True) (.slice (some ⟨go8, 0, none⟩) x1_1.length co4) y131 := (by rw [hw, Ny131.out]; exact HP16.1); clear HP16; have n0_ := Aside0.mk (hp_); have n1_ := Aside0.mk ((by rw [hw]; exact below_set (HB.out) GB8.out : Below w.heap.size w w17)); clear HO_1; clear HB; have HO_1 := n0_; have HB := n1_; clear n0_ n1_; clear hg hw hp_) | ((with_reducible refine gate_callee (f := 72) rfl ?_); refine goesL_ (some 16) rfl rfl Try.func72 (by kernel_rfl) rfl #[.int .u8 ((x8_1) % 256)] rfl (by (try simp only [List.map_toArray, List.map_cons, List.map_nil]); first | done | rfl | (simp only [List.length_drop, List.length_take]; rfl)) ?_; (with_reducible refine (impl_isLetter.calls ((x8_1) % 256) false _ A9.out).mono ?_); rintro e w' ⟨rfl, ⟨nd, rfl⟩⟩; refine ⟨_, rfl, ?_⟩))
                (try simp only [← hl1_1])
                go_roundg k1
                case measure => have := HK1.out; omega
                case rel => exact ⟨(y131), (wrap64 (x8_1 + 1)), (by first | rfl | (simp; done) | (simp [*]; done)), H', ⟨by have := HK1.out; omega⟩, ⟨by (try simp only [hl1_1]); (with_reducible repeat (first | apply Kd.R_alloc | apply Kd.R_drewN | apply Kd.R_drew)); exact HO_1.out⟩, ⟨by repeat (first | (with_reducible first | exact HB.out | apply below_alloc | apply pw_below_drewN | apply below_drew1) | exact HB.out)⟩⟩
            · rw [if_neg c7] at H
              exact absurd H (by simp)
          · rw [if_neg c6] at H
            exact absurd H (by simp)
        · rw [if_neg c5] at H
          have c5b0 : decide (x8_1 < (y128.length : Int)) = false := decide_eq_false c5
          clear c5
          obtain rfl := Option.some.inj H
          have HR0 := HO_1.out
          have hlen := Aside0.mk (show x1_1.length = 256 by rw [← hl1_1, Ny128.out]; simp)
          obtain ⟨g, cp, eo, gb, gl, cl, HG⟩ := Kd.R_form HR0 (by have := hlen.out; omega)
          (first | cases eo | (injection eo with ea_ en_ ec_; (first | subst ea_ | (injection ea_ with ea_; subst ea_)); subst ec_; clear en_))
          have c5b1 : decide (x8_1 < (x1_1.length : Int)) = false := by rw [← hl1_1]; exact c5b0
          have hu90 : Try.prog.underlying 90 = some (.map 5 2) := by kernel_rfl
          have hu5 : Try.prog.underlying 5 = some (.int .u8) := by kernel_rfl
          have hu2 : Try.prog.underlying 2 = some (.int .i64) := by kernel_rfl
          have hmm := @run_makeMap Try.prog
          go_wp2_with (first
            | (refine wpList_insert_own _ rfl _ _ _ 90 rfl 5 2 pc_law hu90 (plainElem (H := Unit) Try.prog 2) wr.heap.size _ _ rfl (by first | assumption | exact World.ownsMap_made _ _ _ _) (by decide) _ _ _ rfl rfl (Go.Maps.keyOf_int_mk hu5 rfl) _ [] (plainElem_int hu2 rfl) ?_; intro w1 hown1 hg1; have hgw1 : wr.grownBy w1 none := World.grownBy.andThen (by first | assumption | exact World.grownBy_alloc _ _ _) hg1 (fun j hj => by cases hj; exact Or.inl (Nat.le_refl _)); clear hg1)
            | (at_range; refine wpList_range_own _ rfl _ 90 rfl 5 2 pc_law hu90 (plainElem (H := Unit) Try.prog 2) wr.heap.size 15 (.map pcEs) rfl (by assumption) ?_; intro w0 hrg0 hg0 hs0)
            | go_in)
          obtain ⟨b0, hb0⟩ : ∃ b0, b0 = wr.heap.size := ⟨_, rfl⟩
          have hb1 : wr.heap.size < w1.heap.size := World.ownsMap.lt (by assumption)
          have hgw0 : wr.grownBy w0 none := World.grownBy.andThen (by assumption) hg0 (fun j hj => by cases hj)
          have HR1 := Aside0.mk (Kd.R_grown2 HR0 rfl hgw0 (fun k hk => by cases hk))
          have HB1 := Aside0.mk (Below.grown HB.out hgw0 (by have := HB.out.size; omega) (fun k hk => by cases hk))
          have hbe : w.heap.size ≤ wr.heap.size := HB.out.size
          clear hown1 hgw1 hg0 hs0 hgw0
          go_loopw [24] (fun _ W => ∃ (left : Lit → Bool) (cnt : Nat), W.ranges Try.prog 5 (plainElem (H := Unit) Try.prog 2) wr.heap.size w1.heap.size 15 (.map pcEs) left cnt ∧ Aside0 (Kd.R (Kd.int .i64) 2 W w.heap.size (fun _ => True) (.slice (some ⟨g, 0, none⟩) x1_1.length co4) (pcF left pcTab x1_1)) ∧ Aside0 (Below w.heap.size w W))
            (fun _ W => W.rangeLeft wr.heap.size w1.heap.size)
          case atStart => exact ⟨_, _, hrg0, ⟨by rw [pcF_start]; exact HR1.out⟩, HB1⟩
          case round =>
            clear hrg0 HR1 HB1
            obtain ⟨left, cnt, hrg, HR, HBW⟩ := hrel
            go_wp2_with (first
              | (at_next; refine wpList_next_ranges_ii _ rfl _ rfl 5 2 .u8 .i64 pc_law hu5 hu2 _ _ 15 _ _ _ rfl hrg ?_ ?_)
              | go_in)
            · intro _ hl0
              go_wp2
              go_ret
              exact ⟨_, rfl, by rw [← pcF_end hl0]; exact HR.out, HBW.out⟩
            · intro x c W1 cnt1 hwx hwc hlx hat hrg1 hlt hg1 hs1 hen
              have hx0 : 0 ≤ x ∧ x ≤ 255 := by
                have h := hwx
                simp only [Lit.wf, Bool.and_eq_true, decide_eq_true_eq] at h
                exact h
              have hlen' := hlen.out
              have hcame := pc_came hat
              have hHR := Kd.R_grown2 HR.out rfl hg1 (fun k hk => by cases hk; intro e; have e' : w1.heap.size = g := Option.some.inj e; omega)
              have hHB := Below.grown HBW.out hg1 HBW.out.size (fun k hk => by cases hk; omega)
              have HR2 := Aside0.mk hHR
              have HB2 := Aside0.mk hHB
              have hx8 := eq_true hx0.1
              have hx9 : x < (x1_1.length : Int) := by omega
              obtain ⟨hcx_, hcf_⟩ := Kd.R_celln 0 hHR x hx0.1 hx9
              have HP := Aside0.mk (Kd.R_putg hHR x c)
              have hx9' := eq_true hx9
              have hrg' := Aside0.mk hrg1
              have hrgO := Aside0.mk hrg
              have hlt' := Aside0.mk hlt
              have hgn := Aside0.mk (show g ≠ w1.heap.size ∧ g < w1.heap.size by omega)
              have hcm := Aside0.mk hcame
              have hlx' := Aside0.mk hlx
              have hx0' := Aside0.mk hx0
              have hgb := Aside0.mk (show g ≠ b0 by omega)
              clear hHR hHB hrg hrg1 hlt hlx hcame hx0 hlen' hx9 hg1 hs1 HR HBW hwx hwc hat
              go_wp2_with (first
                | ((with_reducible refine gate_store (t := 2) (p := 32) rfl ?_); refine store_event (t := 2) (p := 32) (v := ?vo_) (w1 := (W1.setCell ⟨g, (x : Int).toNat, none⟩ (.int .i64 c))) ?hg ?ho ?hn ?hr ?_; (case ho => rfl); (case hg => rfl); (case hn => rfl); (case hr => first | (go_simp; done) | (go_simp; rfl)); intro w2 hw; have hg2 : W1.grownBy w2 (some g) := (by rw [hw]; exact HP.out.2); have HR3 := Aside0.mk (show Kd.R (Kd.int .i64) 2 w2 w.heap.size (fun _ => True) (.slice (some ⟨g, 0, none⟩) x1_1.length co4) ((pcF left pcTab x1_1).set x.toNat c) by rw [hw]; exact HP.out.1); have HB3 := Aside0.mk (show Below w.heap.size w w2 by rw [hw]; exact below_set HB2.out gb); have hg2' := Aside0.mk hg2; clear hg2 hw)
                | go_in)
              have hrg3 := World.ranges.kept hrg'.out hg2'.out (fun e => hgb.out (by rw [hb0]; exact (Option.some.inj e).symm)) (fun e => hgn.out.1 (Option.some.inj e).symm)
              refine ⟨⟨_, cnt1, hrg3, ⟨by rw [pcF_step left hlx'.out pcTab x1_1 pcTab_apart hcm.out]; exact HR3.out⟩, HB3⟩, ?_⟩
              rw [hrg3.left_eq, hrgO.out.left_eq]
              exact hlt'.out
  · rw [if_neg c1] at H
    exact absurd H (by simp)

/-! ### laws_markInt64S: function 44 -/
def laws_markInt64S.l0 : Nat → List Int → Int → Int → Option (Int × List Int)
  | 0, _, _, _ => none
  | k + 1, x0, x1, x5 => if x5 < (x0.length : Int) then (if 0 ≤ x5 then (laws_markInt64S.l0 k (x0.set (x5 : Int).toNat x1) (wrap64 (x1 + 1)) (wrap64 (x5 + 1))) else (none)) else (some (x1, x0))
def laws_markInt64S.f (k : Nat) (l0 : List Int) (a1 : Int) : Option (Int × List Int) := laws_markInt64S.l0 k l0 a1 0
theorem laws_markInt64S.mono_l : ∀ k, (∀ y0 y1 y2, LeO (laws_markInt64S.l0 k y0 y1 y2) (laws_markInt64S.l0 (k + 1) y0 y1 y2))
  | 0 => fun _ _ _ r h => by simp [laws_markInt64S.l0] at h
  | k + 1 => by
    have ih0 := laws_markInt64S.mono_l k
    · intro y0 y1 y2
      unfold laws_markInt64S.l0
      repeat' first
      | (with_reducible exact ih0 _ _ _)
      | (with_reducible exact LeO.refl _)
      | (with_reducible exact LeO.none _)
      | (with_reducible refine LeO.ite ?_ ?_)
      | (with_reducible refine LeO.bind ?_ (fun _ => ?_))
      | exact ih0 _ _ _
      | exact LeO.none _
      | refine LeO.ite ?_ ?_
      | refine LeO.bind ?_ (fun _ => ?_)
theorem laws_markInt64S.mono : ∀ a0 a1 k, LeO (laws_markInt64S.f k a0 a1) (laws_markInt64S.f (k + 1) a0 a1) := by
  intro a0 a1 k
  have ih0 := laws_markInt64S.mono_l k
  unfold laws_markInt64S.f
  repeat' first
      | (with_reducible exact ih0 _ _ _)
      | (with_reducible exact LeO.refl _)
      | (with_reducible exact LeO.none _)
      | (with_reducible refine LeO.ite ?_ ?_)
      | (with_reducible refine LeO.bind ?_ (fun _ => ?_))
      | exact ih0 _ _ _
      | exact LeO.none _
      | refine LeO.ite ?_ ?_
      | refine LeO.bind ?_ (fun _ => ?_)
set_option maxHeartbeats 8000000 in
set_option maxRecDepth 100000 in
theorem laws_markInt64S.calls (k : Nat) (P0_ : Nat → Prop) (u9000_ : Value) (l0 : List Int) (a1 : Int) (r1 : Int) (r2 : List Int) (w0 w : World) (hB : Below w0.heap.size w0 w) (ho0 : Kd.R (Kd.int .i64) 2 w w0.heap.size P0_ u9000_ l0) (h : laws_markInt64S.f k l0 a1 = some (r1, r2)) :
    Calls Try.prog 44 #[u9000_, .int .i64 a1] w fun e w' => e = .returned (.int .i64 r1) ∧ Kd.R (Kd.int .i64) 2 w' w0.heap.size (fun k_ => (P0_ k_ ∨ w.heap.size ≤ k_)) u9000_ r2 ∧ Below w0.heap.size w0 w' ∧ Kept w w' (fun k_ => P0_ k_) := by
  have HO0 := Aside0.mk (show Kd.R (Kd.int .i64) 2 w w0.heap.size (fun k_ => (P0_ k_ ∨ w.heap.size ≤ k_)) u9000_ l0 from Kd.R_mono ho0 (fun k_ hk => (.inl hk)))
  have HK := Aside0.mk (Kept.refl w (fun k_ => P0_ k_))
  have HW0 := Aside0.mk hB.size
  have HB := Aside0.mk hB
  clear hB
  have H : (laws_markInt64S.l0 k l0 a1 0) = some (r1, r2) := h
  clear h
  have H' := Aside0.mk H
  clear H
  go_enter Try.func44, Try.ntmps44
  go_wp2
  go_loopg [1, 5] k (fun kq v1 v5 w' => ∃ (x0_1 : List Int) (x1_1 : Int) (x5_1 : Int), v1 = .int .i64 x1_1 ∧ v5 = .int .i64 x5_1 ∧ Aside0 (laws_markInt64S.l0 kq x0_1 x1_1 x5_1 = some (r1, r2)) ∧ Aside0 (kq ≤ k) ∧ Aside0 (Kd.R (Kd.int .i64) 2 w' w0.heap.size (fun k_ => (P0_ k_ ∨ w.heap.size ≤ k_)) u9000_ x0_1) ∧ Aside0 (Kept w w' (fun k_ => P0_ k_)) ∧ Aside0 (Below w0.heap.size w0 w'))
  case atStart => exact ⟨(l0), (a1), (0), (by first | rfl | (simp; done) | (simp [*]; done)), (by first | rfl | (simp; done) | (simp [*]; done)), H', ⟨Nat.le_refl _⟩, ⟨by (with_reducible repeat (first | apply Kd.R_alloc | apply Kd.R_drewN | apply Kd.R_drew)); exact HO0.out⟩, ⟨by repeat (first | (with_reducible first | exact HK.out | apply Kept.alloc | apply Kept.drewN | apply Kept.drew) | exact HK.out)⟩, ⟨by repeat (first | (with_reducible first | exact HB.out | apply below_alloc | apply pw_below_drewN | apply below_drew1) | exact HB.out)⟩⟩
  case round =>
    clear H'
    try clear p2
    obtain ⟨x0_1, x1_1, x5_1, rfl, rfl, HA, HK1, HO_0, HK, HB⟩ := hrel
    cases gk with
    | zero => exact absurd HA.out (by simp [laws_markInt64S.l0])
    | succ k1 =>
      have H := HA.out
      clear HA
      simp only [laws_markInt64S.l0] at H
      by_cases c3 : x5_1 < (x0_1.length : Int)
      · rw [if_pos c3] at H
        have c3b0 : decide (x5_1 < (x0_1.length : Int)) = true := decide_eq_true c3
        clear c3
        by_cases c4 : 0 ≤ x5_1
        · rw [if_pos c4] at H
          have c4b0 : decide (0 ≤ x5_1) = true := decide_eq_true c4
          clear c4
          obtain ⟨y134, hy134⟩ : ∃ y_ : List Int, y_ = (x0_1.set (x5_1 : Int).toNat x1_1) := ⟨_, rfl⟩
          replace H : (laws_markInt64S.l0 k1 y134 (wrap64 (x1_1 + 1)) (wrap64 (x5_1 + 1))) = some (r1, r2) := by first | (rw [hy134]; with_reducible exact H) | (have H2_ := (Option.bind_some _ _).symm.trans H; rw [hy134]; with_reducible exact H2_) | (have H2_ := (Option.bind_some _ _).symm.trans H; with_reducible exact H2_) | with_reducible exact H | (rw [hy134]; exact H) | exact H
          have Ny134 := Aside0.mk hy134
          clear hy134
          have H' := Aside0.mk H
          clear H
          obtain ⟨Ao6, co6, eo6⟩ := Kd.R_slice HO_0.out
          subst eo6
          have p5 : 0 ≤ (x5_1 : Int) := of_decide_eq_true (by first | (with_reducible assumption) | assumption)
          have q5 : (x5_1 : Int) < ((x0_1.length : Int) : Int) := of_decide_eq_true (by first | (with_reducible assumption) | assumption)
          obtain ⟨go5, co5, eo5, gb5, gl5, cl5, HG5⟩ := Kd.R_form HO_0.out (by omega)
          (first | cases eo5 | (injection eo5 with ea_ en_ ec_; (first | subst ea_ | (injection ea_ with ea_; subst ea_)); subst ec_; clear en_))
          have GB5 := Aside0.mk gb5
          have GG5 := Aside0.mk HG5
          clear gb5 gl5 HG5
          have HMgo5 := Aside0.mk (show (P0_ go5 ∨ w.heap.size ≤ go5) from (HO_0.out.1 _ rfl))
          obtain ⟨hx5_0, hf5_0⟩ := Kd.R_celln 0 HO_0.out (x5_1 : Int) p5 q5
          replace p5 := eq_true p5
          replace q5 := eq_true q5
          have HP7 := Kd.R_putg HO_0.out (x5_1 : Int) x1_1
          go_wp2_with (first | ((with_reducible refine gate_store (t := 2) (p := 15) rfl ?_); refine store_event (t := 2) (p := 15) (v := ?vo_w8) (w1 := (wr.setCell ⟨go5, (x5_1 : Int).toNat, none⟩ (.int .i64 x1_1))) ?hg ?ho ?hn ?hr ?_; (case ho => rfl); (case hg => rfl); (case hn => rfl); (case hr => first | (go_simp; done) | (go_simp; rfl)); intro w8 hw; have hg : wr.grownBy w8 (some go5) := (by rw [hw]; exact HP7.2); have hp_ : Kd.R (Kd.int .i64) 2 w8 w0.heap.size (fun k_ => (P0_ k_ ∨ w.heap.size ≤ k_)) (.slice (some ⟨go5, 0, none⟩) x0_1.length co6) y134 := (by rw [hw, Ny134.out]; exact HP7.1); clear HP7; have n0_ := Aside0.mk (hp_); have n1_ := Aside0.mk ((by rw [hw]; exact below_set (HB.out) GB5.out : Below w0.heap.size w0 w8)); have n2_ := Aside0.mk (Kept.of_grown (S := (fun k_ => P0_ k_)) hg (by repeat (first | (with_reducible first | exact HK.out | apply Kept.alloc | apply Kept.drewN | apply Kept.drew) | exact HK.out)) (fun k_ e_ => (HO_0.out.1 k_ e_))); clear HO_0; clear HB; clear HK; have HO_0 := n0_; have HB := n1_; have HK := n2_; clear n0_ n1_ n2_; clear hg hw hp_))
          go_roundg k1
          case measure => have := HK1.out; omega
          case rel => exact ⟨(y134), (wrap64 (x1_1 + 1)), (wrap64 (x5_1 + 1)), (by first | rfl | (simp; done) | (simp [*]; done)), (by first | rfl | (simp; done) | (simp [*]; done)), H', ⟨by have := HK1.out; omega⟩, ⟨by (with_reducible repeat (first | apply Kd.R_alloc | apply Kd.R_drewN | apply Kd.R_drew)); exact HO_0.out⟩, ⟨by repeat (first | (with_reducible first | exact HK.out | apply Kept.alloc | apply Kept.drewN | apply Kept.drew) | exact HK.out)⟩, ⟨by repeat (first | (with_reducible first | exact HB.out | apply below_alloc | apply pw_below_drewN | apply below_drew1) | exact HB.out)⟩⟩
        · rw [if_neg c4] at H
          exact absurd H (by simp)
      · rw [if_neg c3] at H
        have c3b0 : decide (x5_1 < (x0_1.length : Int)) = false := decide_eq_false c3
        clear c3
        simp only [Option.some.injEq, Prod.mk.injEq] at H
        obtain ⟨rfl, rfl⟩ := H
        obtain ⟨Ao9, co9, eo9⟩ := Kd.R_slice HO_0.out
        subst eo9
        go_wp2
        go_ret
        exact ⟨by first | rfl | (simp [errW_none, errW_some] <;> rfl) | (simp [*, errW_none, errW_some] <;> rfl), by (with_reducible repeat (first | apply Kd.R_alloc | apply Kd.R_drewN | apply Kd.R_drew)); exact HO_0.out, by repeat (first | (with_reducible first | exact HB.out | apply below_alloc | apply pw_below_drewN | apply below_drew1) | exact HB.out), by repeat (first | (with_reducible first | exact HK.out | apply Kept.alloc | apply Kept.drewN | apply Kept.drew) | exact HK.out)⟩

end Go.Proofs.Yticdpekeaipnaaa.PFnExactPlainCats
