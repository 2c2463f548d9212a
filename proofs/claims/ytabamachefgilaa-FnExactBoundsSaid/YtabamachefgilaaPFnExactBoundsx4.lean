-- Written by this session's program over the kit's printer (wip/gen/gp.py): Lean checks it.
import Derived.Test.YtabamachefgilaaPFnExactBoundsx0
import Derived.Test.YtabamachefgilaaPFnExactBoundsx3
namespace Go.Proofs.Ytabamachefgilaa.PFnExactBounds
open Go.RowKit Go.Proofs.YtabamachefgilaaW.PrintWords Go.Proofs.YtabamachefgilaaW.PrintLast Go.Proofs.YtabamachefgilaaW.PrintMore
attribute [local go_sem] max2_int min2_int max_two min_two max_three min_three max_four min_four   -- for this text's walks alone
set_option linter.unusedVariables false
set_option linter.unusedSimpArgs false

/-! ### impl_Bounds: function 48 -/
mutual
def impl_Bounds.j0 : Nat → List (S57) → Bool → Option (List Int)
  | 0, _, _ => none
  | k + 1, x0, x15 => if x15 = true then (some ([] : List Int)) else (if 0 < (x0.length : Int) then (if 1 ≤ (x0.length : Int) then ((some (x0.drop 1 : List (S57))).bind fun y162 => (impl_Bounds.l0 k (([(rd_T57 x0 0).f0, wrap64 (((rd_T57 x0 0).f1) - ((rd_T57 x0 0).f5)), wrap64 (((rd_T57 x0 0).f0) + ((rd_T57 x0 0).f4)), (rd_T57 x0 0).f1] : List Int)) y162 (y162.length : Int) 0)) else (none)) else (none))
def impl_Bounds.l0 : Nat → List Int → List (S57) → Int → Int → Option (List Int)
  | 0, _, _, _, _ => none
  | k + 1, x4, x35, x36, x37 => if x37 < x36 then (if 0 ≤ x37 then (if x37 < (x35.length : Int) then (if 0 < (x4.length : Int) then ((some (x4.set (0 : Int).toNat (mn (rd x4 0) ((rd_T57 x35 x37).f0)) : List Int)).bind fun y170 => (if 1 < (x4.length : Int) then ((some (y170.set (1 : Int).toNat (mn (rd y170 1) (wrap64 (((rd_T57 x35 x37).f1) - ((rd_T57 x35 x37).f5)))) : List Int)).bind fun y172 => (if 2 < (x4.length : Int) then ((some (y172.set (2 : Int).toNat (mx (rd y172 2) (wrap64 (((rd_T57 x35 x37).f0) + ((rd_T57 x35 x37).f4)))) : List Int)).bind fun y174 => (if 3 < (x4.length : Int) then (impl_Bounds.l0 k (y174.set (3 : Int).toNat (mx (rd y174 3) ((rd_T57 x35 x37).f1))) x35 x36 (wrap64 (x37 + 1))) else (none))) else (none))) else (none))) else (none)) else (none)) else (none)) else (some x4)
end
def impl_Bounds.f (k : Nat) (l0 : List (S57)) : Option (List Int) := if (l0.length : Int) = 0 then (impl_Bounds.j0 k l0 true) else ((impl_DescOk.f k (([l0] : List (List (S57))))).bind fun t156 => (impl_Bounds.j0 k l0 (!t156)))
theorem impl_Bounds.mono_l : ∀ k, (∀ y0 y1, LeO (impl_Bounds.j0 k y0 y1) (impl_Bounds.j0 (k + 1) y0 y1)) ∧ (∀ y0 y1 y2 y3, LeO (impl_Bounds.l0 k y0 y1 y2 y3) (impl_Bounds.l0 (k + 1) y0 y1 y2 y3))
  | 0 => ⟨fun _ _ r h => by simp [impl_Bounds.j0] at h, fun _ _ _ _ r h => by simp [impl_Bounds.l0] at h⟩
  | k + 1 => by
    obtain ⟨ih0, ih1⟩ := impl_Bounds.mono_l k
    refine ⟨?_, ?_⟩
    · intro y0 y1
      unfold impl_Bounds.j0
      repeat' first
      | (with_reducible exact ih0 _ _)
      | (with_reducible exact ih1 _ _ _ _)
      | (with_reducible exact impl_DescOk.mono _ _)
      | (with_reducible exact LeO.refl _)
      | (with_reducible exact LeO.none _)
      | (with_reducible refine LeO.ite ?_ ?_)
      | (with_reducible refine LeO.bind ?_ (fun _ => ?_))
      | exact ih0 _ _
      | exact ih1 _ _ _ _
      | exact impl_DescOk.mono _ _
      | exact LeO.none _
      | refine LeO.ite ?_ ?_
      | refine LeO.bind ?_ (fun _ => ?_)
    · intro y0 y1 y2 y3
      unfold impl_Bounds.l0
      repeat' first
      | (with_reducible exact ih0 _ _)
      | (with_reducible exact ih1 _ _ _ _)
      | (with_reducible exact impl_DescOk.mono _ _)
      | (with_reducible exact LeO.refl _)
      | (with_reducible exact LeO.none _)
      | (with_reducible refine LeO.ite ?_ ?_)
      | (with_reducible refine LeO.bind ?_ (fun _ => ?_))
      | exact ih0 _ _
      | exact ih1 _ _ _ _
      | exact impl_DescOk.mono _ _
      | exact LeO.none _
      | refine LeO.ite ?_ ?_
      | refine LeO.bind ?_ (fun _ => ?_)
theorem impl_Bounds.mono : ∀ a0 k, LeO (impl_Bounds.f k a0) (impl_Bounds.f (k + 1) a0) := by
  intro a0 k
  obtain ⟨ih0, ih1⟩ := impl_Bounds.mono_l k
  unfold impl_Bounds.f
  repeat' first
      | (with_reducible exact ih0 _ _)
      | (with_reducible exact ih1 _ _ _ _)
      | (with_reducible exact impl_DescOk.mono _ _)
      | (with_reducible exact LeO.refl _)
      | (with_reducible exact LeO.none _)
      | (with_reducible refine LeO.ite ?_ ?_)
      | (with_reducible refine LeO.bind ?_ (fun _ => ?_))
      | exact ih0 _ _
      | exact ih1 _ _ _ _
      | exact impl_DescOk.mono _ _
      | exact LeO.none _
      | refine LeO.ite ?_ ?_
      | refine LeO.bind ?_ (fun _ => ?_)
def impl_Bounds.T8 : Bool × List (List Nat × List Nat) := (true, [([], []), ([], []), ([1], [1]), ([2], [2]), ([], []), ([4], [4]), ([3, 5], [3, 5]), ([0, 0, 1, 2, 3, 4, 5, 6], [0]), ([7, 6, 0, 1, 2, 3, 4, 5, 6], [6, 7])])
def impl_Bounds.B8 : List Nat := [0, 0, 2, 6, 0, 16, 62, 127, 255]
theorem impl_Bounds.tab8 : rtab .any (opsOf Try.f48 8) = impl_Bounds.T8 := by kernel_rfl
theorem impl_Bounds.bits8 : waitsOk impl_Bounds.T8.2 impl_Bounds.B8 = true := by kernel_rfl
def impl_Bounds.T9 : Bool × List (List Nat × List Nat) := (true, [([], []), ([], []), ([1], [1]), ([2], [2]), ([], []), ([4], [4]), ([], []), ([6], [6]), ([5, 7], [5, 7]), ([3, 8], [3, 8]), ([0, 0, 1, 2, 3, 4, 5, 6, 7, 8, 9], [0]), ([10, 9, 0, 1, 2, 3, 4, 5, 6, 7, 8, 9], [9, 10])])
def impl_Bounds.B9 : List Nat := [0, 0, 2, 6, 0, 16, 0, 64, 240, 510, 1023, 2047]
theorem impl_Bounds.tab9 : rtab .any (opsOf Try.f48 9) = impl_Bounds.T9 := by kernel_rfl
theorem impl_Bounds.bits9 : waitsOk impl_Bounds.T9.2 impl_Bounds.B9 = true := by kernel_rfl
def impl_Bounds.T10 : Bool × List (List Nat × List Nat) := (true, [([], []), ([], []), ([1], [1]), ([2], [2]), ([], []), ([4], [4]), ([], []), ([6], [6]), ([5, 7], [5, 7]), ([3, 8], [3, 8]), ([0, 0, 1, 2, 3, 4, 5, 6, 7, 8, 9], [0]), ([10, 9, 0, 1, 2, 3, 4, 5, 6, 7, 8, 9], [9, 10])])
def impl_Bounds.B10 : List Nat := [0, 0, 2, 6, 0, 16, 0, 64, 240, 510, 1023, 2047]
theorem impl_Bounds.tab10 : rtab .any (opsOf Try.f48 10) = impl_Bounds.T10 := by kernel_rfl
theorem impl_Bounds.bits10 : waitsOk impl_Bounds.T10.2 impl_Bounds.B10 = true := by kernel_rfl
def impl_Bounds.T11 : Bool × List (List Nat × List Nat) := (true, [([], []), ([], []), ([1], [1]), ([2], [2]), ([], []), ([4], [4]), ([3, 5], [3, 5]), ([0, 0, 1, 2, 3, 4, 5, 6], [0]), ([7, 6, 0, 1, 2, 3, 4, 5, 6], [6, 7])])
def impl_Bounds.B11 : List Nat := [0, 0, 2, 6, 0, 16, 62, 127, 255]
theorem impl_Bounds.tab11 : rtab .any (opsOf Try.f48 11) = impl_Bounds.T11 := by kernel_rfl
theorem impl_Bounds.bits11 : waitsOk impl_Bounds.T11.2 impl_Bounds.B11 = true := by kernel_rfl
set_option maxHeartbeats 8000000 in
set_option maxRecDepth 100000 in
theorem impl_Bounds.calls (k : Nat) (P0_ : Nat → Prop) (A0 : Option Addr) (c0 : Nat) (l0 : List (S57)) (r : List Int) (w : World) (hs0 : Kd.V k57 57 w w.heap.size (fun k_ => P0_ k_) (.slice A0 l0.length c0) l0) (h : impl_Bounds.f k l0 = some r) :
    Calls Try.prog 48 #[.slice A0 l0.length c0] w fun e w' => ∃ v0_ : Value, e = .returned (v0_) ∧ Kd.R (Kd.int .i64) 2 w' w.heap.size (fun k_ => (w.heap.size ≤ k_)) v0_ r ∧ Below w.heap.size w w' := by
  have hu57 := Try.underlying57
  have HO0 := Aside0.mk (show Kd.V k57 57 w w.heap.size (fun k_ => (P0_ k_ ∨ w.heap.size ≤ k_)) (.slice A0 l0.length c0) l0 from Kd.V_mono hs0 (fun k_ hk => .inl hk))
  have HB := Aside0.mk (Below.refl w.heap.size w)
  have H : (if (l0.length : Int) = 0 then (impl_Bounds.j0 k l0 true) else ((impl_DescOk.f k (([l0] : List (List (S57))))).bind fun t156 => (impl_Bounds.j0 k l0 (!t156)))) = some r := h
  clear h
  have HC2 := Aside0.mk H
  clear H
  go_enter Try.func48, Try.ntmps48
  go_upto_region 1 with (fail)
  go_cut [15] (fun v15 wc => ∃ (kq : Nat) (x15_1 : Bool), v15 = .bool x15_1 ∧ Aside0 (impl_Bounds.j0 kq l0 x15_1 = some r) ∧ Aside0 (kq ≤ k) ∧ Aside0 (Kd.V k57 57 wc w.heap.size (fun k_ => (P0_ k_ ∨ w.heap.size ≤ k_)) (.slice A0 l0.length c0) l0) ∧ Aside0 (Below w.heap.size w wc))
  case first =>
    have H := HC2.out
    clear HC2
    by_cases c3 : (l0.length : Int) = 0
    · rw [if_pos c3] at H
      have c3b0 : ((l0.length : Int) == 0) = true := beq_iff_eq.mpr c3
      have c3b1 : ((l0.length : Int) != 0) = false := bne_eq_false_iff_eq.mpr c3
      clear c3
      (first | rw [c3b0] | (simp only [i64_w, i32_w]; rw [c3b0]) | skip)
      have H' := Aside0.mk H
      clear H
      go_wp2
      go_meet
      case rel => exact ⟨_, (true), (by first | rfl | (simp; done) | (simp [*]; done)), H', ⟨by first | omega | exact Nat.le_refl _⟩, ⟨by (with_reducible repeat (first | apply Kd.V_alloc | apply Kd.V_drewN | apply Kd.V_drew)); exact HO0.out⟩, ⟨by repeat (first | (with_reducible first | exact HB.out | apply below_alloc | apply pw_below_drewN | apply below_drew1) | exact HB.out)⟩⟩
    · rw [if_neg c3] at H
      have c3b0 : ((l0.length : Int) == 0) = false := beq_eq_false_iff_ne.mpr c3
      have c3b1 : ((l0.length : Int) != 0) = true := bne_iff_ne.mpr c3
      have c3b2 : ¬ (l0 = []) := fun h_ => c3 (by rw [h_]; rfl)
      (first | rw [c3b0] | (simp only [i64_w, i32_w]; rw [c3b0]) | skip)
      obtain ⟨y153, hy153⟩ : ∃ y_ : List (List (S57)), y_ = (([l0] : List (List (S57)))) := ⟨_, rfl⟩
      replace H : ((impl_DescOk.f k y153).bind fun t156 => (impl_Bounds.j0 k l0 (!t156))) = some r := by first | (rw [hy153]; with_reducible exact H) | (have H2_ := (Option.bind_some _ _).symm.trans H; rw [hy153]; with_reducible exact H2_) | (have H2_ := (Option.bind_some _ _).symm.trans H; with_reducible exact H2_) | with_reducible exact H | (rw [hy153]; exact H) | exact H
      have Ny153 := Aside0.mk hy153
      clear hy153
      replace H := Option.bind_eq_some_iff.mp H
      obtain ⟨t156, A40, H⟩ := H
      replace H : (impl_Bounds.j0 k l0 (!t156)) = some r := H
      have A4 := Aside0.mk A40
      clear A40
      have H' := Aside0.mk H
      clear H
      go_wp2_with (first | ((with_reducible refine gate_dst (N := 12) rfl ?_); (try (refine gate_guard (by rfl) ?_; dsimp only)); refine Kd.N_lit (Kd.slice 57 k57) _ 51 ?hg (N' := 12) ?hd (xs := ([l0] : List (List (S57)))) (inner := [.slice A0 l0.length c0]) (ok := (fun k_ => (P0_ k_ ∨ w.heap.size ≤ k_))) (okp := (fun k_ => (P0_ k_ ∨ w.heap.size ≤ k_))) ?hr ?hp (fun _ hk => hk) ((show ∀ k_, w.heap.size ≤ k_ → (fun k_ => (P0_ k_ ∨ w.heap.size ≤ k_)) k_ from fun k_ hk => (.inr (Nat.le_trans (below_size (by repeat (first | (with_reducible first | exact HB.out | apply below_alloc | apply pw_below_drewN | apply below_drew1) | exact HB.out))) hk))) _ (Nat.le_refl _)) (Below.refl _ _) (Nat.le_refl _) (by simp) ?_; (case hd => rfl); (case hg => rfl); (case hr => first | (go_simp; done) | (go_simp; rfl)); (case hp => exact (Reps.one (show Kd.FK (Kd.slice 57 k57) _ _ l0 [.slice A0 l0.length c0] from (Kd.FK_slice_mk (Kd.V_reads' (Kd.V_mono (ok' := (fun k_ => (P0_ k_ ∨ w.heap.size ≤ k_))) (HO0.out) (fun k_ hk => hk))).2.1 (Kd.V_F (Kd.V_mono (ok' := (fun k_ => (P0_ k_ ∨ w.heap.size ≤ k_))) (HO0.out) (fun k_ hk => hk))))) (Reps.none _ _))); intro v154 w5 ho6 hb hg_ hnew_; clear hg_ hnew_; (first | rw [← Ny153.out] at ho6 | (simp only [Int.reduceToNat] at ho6; rw [← Ny153.out] at ho6)); have n0_ := Aside0.mk (Kd.V_elder' (by (with_reducible repeat (first | apply Kd.V_alloc | apply Kd.V_drewN | apply Kd.V_drew)); exact HO0.out) (Kd.N_base ho6) hb); have n1_ := Aside0.mk (Kd.N_lower ho6 (below_size (by repeat (first | (with_reducible first | exact HB.out | apply below_alloc | apply pw_below_drewN | apply below_drew1) | exact HB.out)))); have n2_ := Aside0.mk (below_step (by repeat (first | (with_reducible first | exact HB.out | apply below_alloc | apply pw_below_drewN | apply below_drew1) | exact HB.out)) hb); clear HO0; clear HB; have HO0 := n0_; have HO155 := n1_; have HB := n2_; clear n0_ n1_ n2_; clear hb ho6; obtain ⟨Ao7, co7, eo7⟩ := Kd.N_slice HO155.out; subst eo7) | (go_at_call 21; (with_reducible refine (impl_DescOk.calls k _ _ y153 t156 _ ?side1 ?side2 A4.out).mono ?_); (case side1 => repeat (first | exact (Kd.N_reads' HO155.out).2.2 | (with_reducible refine Kd.C_alloc ?_ _) | (with_reducible refine Kd.C_drewN ?_ _) | (with_reducible refine Kd.C_drew ?_))); (case side2 => exact (Kd.N_reads' HO155.out).2.1); rintro e w8 ⟨rfl, hb⟩; have n0_ := Aside0.mk (Kd.V_below (by (with_reducible repeat (first | apply Kd.V_alloc | apply Kd.V_drewN | apply Kd.V_drew)); exact HO0.out) hb); have n1_ := Aside0.mk (Kd.N_below (by (with_reducible repeat (first | apply Kd.N_alloc | apply Kd.N_drewN | apply Kd.N_drew)); exact HO155.out) hb); have n2_ := Aside0.mk (below_step (by repeat (first | (with_reducible first | exact HB.out | apply below_alloc | apply pw_below_drewN | apply below_drew1) | exact HB.out)) hb); clear HO0; clear HO155; clear HB; have HO0 := n0_; have HO155 := n1_; have HB := n2_; clear n0_ n1_ n2_; (try clear hb); (try clear hb2); (try clear hk); (try clear hi)))
      go_meet
      case rel => exact ⟨_, (!t156), (by first | rfl | (simp; done) | (simp [*]; done)), H', ⟨by first | omega | exact Nat.le_refl _⟩, ⟨by (with_reducible repeat (first | apply Kd.V_alloc | apply Kd.V_drewN | apply Kd.V_drew)); exact Kd.V_mono HO0.out (fun _ hk => hk.1)⟩, ⟨by repeat (first | (with_reducible first | exact HB.out | apply below_alloc | apply pw_below_drewN | apply below_drew1) | exact HB.out)⟩⟩
  case rest =>
    clear HC2
    try clear p2
    try clear c3
    try clear c3b0
    try clear c3b1
    try clear c3b2
    try clear c4
    obtain ⟨kq, x15_1, rfl, HA, HJ1, HO_0, HB⟩ := hcut
    cases kq with
    | zero => exact absurd HA.out (by simp [impl_Bounds.j0])
    | succ kj1 =>
      have H := HA.out
      clear HA
      simp only [impl_Bounds.j0] at H
      by_cases c9 : x15_1 = true
      · subst c9
        have H1 : (some ([] : List Int)) = some r := by rw [if_pos rfl] at H; exact H
        clear H
        have H := H1
        clear H1
        obtain rfl := Option.some.inj H
        go_wp2
        go_ret
        exact ⟨_, by first | rfl | (simp [errW_none, errW_some] <;> rfl) | (simp [*, errW_none, errW_some] <;> rfl), by first | exact Kd.R_nil _ _ _ _ _ | exact Kd.N_nil _ _ _ _ _ | exact Kd.V_nil _ _ _ _ _ | exact Kd.Q_nil _ _ _ _ _ | exact Kd.S_nil _ _ _ _ _, by repeat (first | (with_reducible first | exact HB.out | apply below_alloc | apply pw_below_drewN | apply below_drew1) | exact HB.out)⟩
      · replace c9 := Bool.eq_false_iff.mpr c9
        subst c9
        have H1 : (if 0 < (l0.length : Int) then (if 1 ≤ (l0.length : Int) then ((some (l0.drop 1 : List (S57))).bind fun y162 => (impl_Bounds.l0 kj1 (([(rd_T57 l0 0).f0, wrap64 (((rd_T57 l0 0).f1) - ((rd_T57 l0 0).f5)), wrap64 (((rd_T57 l0 0).f0) + ((rd_T57 l0 0).f4)), (rd_T57 l0 0).f1] : List Int)) y162 (y162.length : Int) 0)) else (none)) else (none)) = some r := by rw [if_neg (show ¬ (false = true) by decide)] at H; exact H
        clear H
        have H := H1
        clear H1
        by_cases c10 : 0 < (l0.length : Int)
        · rw [if_pos c10] at H
          have c10b0 : decide (0 < (l0.length : Int)) = true := decide_eq_true c10
          have c10b1 : decide (0 < l0.length) = true := decide_eq_true (by omega)
          clear c10
          obtain ⟨y159, hy159⟩ : ∃ y_ : List Int, y_ = (([(rd_T57 l0 0).f0, wrap64 (((rd_T57 l0 0).f1) - ((rd_T57 l0 0).f5)), wrap64 (((rd_T57 l0 0).f0) + ((rd_T57 l0 0).f4)), (rd_T57 l0 0).f1] : List Int)) := ⟨_, rfl⟩
          replace H : (if 1 ≤ (l0.length : Int) then ((some (l0.drop 1 : List (S57))).bind fun y162 => (impl_Bounds.l0 kj1 y159 y162 (y162.length : Int) 0)) else (none)) = some r := by first | (rw [hy159]; with_reducible exact H) | (have H2_ := (Option.bind_some _ _).symm.trans H; rw [hy159]; with_reducible exact H2_) | (have H2_ := (Option.bind_some _ _).symm.trans H; with_reducible exact H2_) | with_reducible exact H | (rw [hy159]; exact H) | exact H
          have Ny159 := Aside0.mk hy159
          clear hy159
          by_cases c11 : 1 ≤ (l0.length : Int)
          · rw [if_pos c11] at H
            have c11b0 := eq_true c11
            have c11b1 : decide (1 ≤ (l0.length : Int)) = true := decide_eq_true c11
            clear c11
            obtain ⟨y162, hy162⟩ : ∃ y_ : List (S57), y_ = (l0.drop 1) := ⟨_, rfl⟩
            replace H : (impl_Bounds.l0 kj1 y159 y162 (y162.length : Int) 0) = some r := by first | (rw [hy162]; with_reducible exact H) | (have H2_ := (Option.bind_some _ _).symm.trans H; rw [hy162]; with_reducible exact H2_) | (have H2_ := (Option.bind_some _ _).symm.trans H; with_reducible exact H2_) | with_reducible exact H | (rw [hy162]; exact H) | exact H
            have Ny162 := Aside0.mk hy162
            clear hy162
            have H' := Aside0.mk H
            clear H
            have p157 : 0 ≤ (0 : Int) := (by omega)
            have q157 : 0 < (l0.length : Int) := of_decide_eq_true (by first | (with_reducible assumption) | assumption)
            obtain ⟨ad157, e157, hx157_0, hx157_1, hx157_2, hx157_3, hx157_4, hx157_5⟩ := at_T57 (Kd.V_reads' HO_0.out).2.2 0 p157 q157
            cases e157
            have qi157 : (0 < l0.length) = True := eq_true (by omega)
            (try rw [show ((0 : Int)).toNat = 0 from rfl] at hx157_0)
            (try rw [show 0 * 6 = 0 from rfl] at hx157_0)
            (try rw [Addr.add_zero'] at hx157_0)
            (try rw [show ((0 : Int)).toNat = 0 from rfl] at hx157_1)
            (try rw [show 0 * 6 = 0 from rfl] at hx157_1)
            (try rw [Addr.add_zero'] at hx157_1)
            (try rw [show ((0 : Int)).toNat = 0 from rfl] at hx157_2)
            (try rw [show 0 * 6 = 0 from rfl] at hx157_2)
            (try rw [Addr.add_zero'] at hx157_2)
            (try rw [show ((0 : Int)).toNat = 0 from rfl] at hx157_3)
            (try rw [show 0 * 6 = 0 from rfl] at hx157_3)
            (try rw [Addr.add_zero'] at hx157_3)
            (try rw [show ((0 : Int)).toNat = 0 from rfl] at hx157_4)
            (try rw [show 0 * 6 = 0 from rfl] at hx157_4)
            (try rw [Addr.add_zero'] at hx157_4)
            (try rw [show ((0 : Int)).toNat = 0 from rfl] at hx157_5)
            (try rw [show 0 * 6 = 0 from rfl] at hx157_5)
            (try rw [Addr.add_zero'] at hx157_5)
            replace p157 := eq_true p157
            replace q157 := eq_true q157
            go_wp2_with (first | ((with_reducible refine gate_dst (N := 3) rfl ?_); (try (refine gate_guard (by rfl) ?_; dsimp only)); refine box_event ?hg (N := 3) ?hd (cs := #[.int .i64 0, .int .i64 0, .int .i64 0, .int .i64 0, .int .i64 0, .int .i64 0]) (t := 57) ?hr ?_; (case hd => rfl); (case hg => rfl); (case hr => first | (go_simp; done) | (go_simp; rfl)); intro gb158 hg w12 hbox hb; have n0_ := Aside0.mk (Kd.V_below (Kd.V_elderB (by (with_reducible repeat (first | apply Kd.V_alloc | apply Kd.V_drewN | apply Kd.V_drew)); exact HO_0.out) gb158 (Nat.le_of_eq hg.symm)) hb); have n1_ := Aside0.mk (below_step (by repeat (first | (with_reducible first | exact HB.out | apply below_alloc | apply pw_below_drewN | apply below_drew1) | exact HB.out)) hb); have n2_ := Aside0.mk (hbox); have n3_ := Aside0.mk ((by rw [hg]; exact (below_size (by repeat (first | (with_reducible first | exact HB.out | apply below_alloc | apply pw_below_drewN | apply below_drew1) | exact HB.out))) : w.heap.size ≤ gb158)); have n4_ := Aside0.mk ((by rw [hg]; exact (below_size (by repeat (first | (with_reducible first | exact HB.out | apply below_alloc | apply pw_below_drewN | apply below_drew1) | exact HB.out))) : w.heap.size ≤ gb158)); clear HO_0; clear HB; have HO_0 := n0_; have HB := n1_; have BK158 := n2_; have GW158 := n3_; have GE158 := n4_; clear n0_ n1_ n2_ n3_ n4_; clear hb hbox hg; have hcz13_0 : w12.cell? ⟨gb158, 0, none⟩ = some (.int .i64 0) := (blk_cell BK158.out 0).trans rfl; have hcz13_1 : w12.cell? ⟨gb158, 1, none⟩ = some (.int .i64 0) := (blk_cell BK158.out 1).trans rfl; have hcz13_2 : w12.cell? ⟨gb158, 2, none⟩ = some (.int .i64 0) := (blk_cell BK158.out 2).trans rfl; have hcz13_3 : w12.cell? ⟨gb158, 3, none⟩ = some (.int .i64 0) := (blk_cell BK158.out 3).trans rfl; have hcz13_4 : w12.cell? ⟨gb158, 4, none⟩ = some (.int .i64 0) := (blk_cell BK158.out 4).trans rfl; have hcz13_5 : w12.cell? ⟨gb158, 5, none⟩ = some (.int .i64 0) := (blk_cell BK158.out 5).trans rfl; have hfz13_0 := blk_frozen BK158.out 0; have hfz13_1 := blk_frozen BK158.out 1; have hfz13_2 := blk_frozen BK158.out 2; have hfz13_3 := blk_frozen BK158.out 3; have hfz13_4 := blk_frozen BK158.out 4; have hfz13_5 := blk_frozen BK158.out 5) | ((with_reducible refine gate_dst (N := 33) rfl ?_); (try (refine gate_guard (by rfl) ?_; dsimp only)); refine Kd.R_lit (Kd.int .i64) _ 2 ?hg (N := 33) ?hd (xs := ([(rd_T57 l0 0).f0, wrap64 (((rd_T57 l0 0).f1) - ((rd_T57 l0 0).f5)), wrap64 (((rd_T57 l0 0).f0) + ((rd_T57 l0 0).f4)), (rd_T57 l0 0).f1] : List Int)) (inner := [.int .i64 ((rd_T57 l0 0).f0), .int .i64 (wrap64 (((rd_T57 l0 0).f1) - ((rd_T57 l0 0).f5))), .int .i64 (wrap64 (((rd_T57 l0 0).f0) + ((rd_T57 l0 0).f4))), .int .i64 ((rd_T57 l0 0).f1)]) (ok := fun _ => True) (okp := fun _ => True) ?hr ?hp (fun _ hk => hk) trivial (Below.refl _ _) (Nat.le_refl _) (by simp) ?_; (case hd => rfl); (case hg => rfl); (case hr => first | (go_simp; done) | (go_simp; rfl)); (case hp => exact (Reps.one (show Kd.M (Kd.int .i64) _ _ _ ((rd_T57 l0 0).f0) [.int .i64 ((rd_T57 l0 0).f0)] from rfl) (Reps.one (show Kd.M (Kd.int .i64) _ _ _ (wrap64 (((rd_T57 l0 0).f1) - ((rd_T57 l0 0).f5))) [.int .i64 (wrap64 (((rd_T57 l0 0).f1) - ((rd_T57 l0 0).f5)))] from rfl) (Reps.one (show Kd.M (Kd.int .i64) _ _ _ (wrap64 (((rd_T57 l0 0).f0) + ((rd_T57 l0 0).f4))) [.int .i64 (wrap64 (((rd_T57 l0 0).f0) + ((rd_T57 l0 0).f4)))] from rfl) (Reps.one (show Kd.M (Kd.int .i64) _ _ _ ((rd_T57 l0 0).f1) [.int .i64 ((rd_T57 l0 0).f1)] from rfl) (Reps.none _ _)))))); intro v160 w14 ho15 hb hg_ hnew_; clear hg_ hnew_; (first | rw [← Ny159.out] at ho15 | (simp only [Int.reduceToNat] at ho15; rw [← Ny159.out] at ho15)); have n0_ := Aside0.mk (Kd.V_elder' (by (with_reducible repeat (first | apply Kd.V_alloc | apply Kd.V_drewN | apply Kd.V_drew)); exact (Kd.V_mono (Kd.V_far (p := ⟨gb158, 5, none⟩) (Kd.V_far (p := ⟨gb158, 4, none⟩) (Kd.V_far (p := ⟨gb158, 3, none⟩) (Kd.V_far (p := ⟨gb158, 2, none⟩) (Kd.V_far (p := ⟨gb158, 1, none⟩) (Kd.V_far (p := ⟨gb158, 0, none⟩) (Kd.V_mono HO_0.out (fun k_ hk => (⟨hk, hk.2⟩ : _ ∧ k_ ≠ gb158))) (fun _ hk => hk.2) (.int .i64 ((rd_T57 l0 0).f0))) (fun _ hk => hk.2) (.int .i64 ((rd_T57 l0 0).f1))) (fun _ hk => hk.2) (.int .i64 ((rd_T57 l0 0).f2))) (fun _ hk => hk.2) (.int .i64 ((rd_T57 l0 0).f3))) (fun _ hk => hk.2) (.int .i64 ((rd_T57 l0 0).f4))) (fun _ hk => hk.2) (.int .i64 ((rd_T57 l0 0).f5))) (fun _ h_ => h_.1))) (Kd.R_base ho15) hb); have n1_ := Aside0.mk (Kd.R_lower (Kd.R_newM (M := fun k_ => (w.heap.size ≤ k_)) ho15 (below_size (by repeat (first | (with_reducible first | exact HB.out | apply below_alloc | apply pw_below_drewN | apply below_drew1 | refine below_set ?_ GE158.out) | exact HB.out))) (fun k_ h_ => h_)) (below_size (by repeat (first | (with_reducible first | exact HB.out | apply below_alloc | apply pw_below_drewN | apply below_drew1 | refine below_set ?_ GE158.out) | exact HB.out)))); have n2_ := Aside0.mk (blk_below (g := gb158) (o := .cells #[.int .i64 ((rd_T57 l0 0).f0), .int .i64 ((rd_T57 l0 0).f1), .int .i64 ((rd_T57 l0 0).f2), .int .i64 ((rd_T57 l0 0).f3), .int .i64 ((rd_T57 l0 0).f4), .int .i64 ((rd_T57 l0 0).f5)] 57 (0, 0)) (by (with_reducible repeat (first | refine blk_drewN ?_ _ | refine blk_drew ?_ | refine blk_alloc ?_ _)); refine blk_put (cs := #[.int .i64 ((rd_T57 l0 0).f0), .int .i64 ((rd_T57 l0 0).f1), .int .i64 ((rd_T57 l0 0).f2), .int .i64 ((rd_T57 l0 0).f3), .int .i64 ((rd_T57 l0 0).f4), .int .i64 0]) ?_ 5 _ rfl; (with_reducible repeat (first | refine blk_drewN ?_ _ | refine blk_drew ?_ | refine blk_alloc ?_ _)); refine blk_put (cs := #[.int .i64 ((rd_T57 l0 0).f0), .int .i64 ((rd_T57 l0 0).f1), .int .i64 ((rd_T57 l0 0).f2), .int .i64 ((rd_T57 l0 0).f3), .int .i64 0, .int .i64 0]) ?_ 4 _ rfl; (with_reducible repeat (first | refine blk_drewN ?_ _ | refine blk_drew ?_ | refine blk_alloc ?_ _)); refine blk_put (cs := #[.int .i64 ((rd_T57 l0 0).f0), .int .i64 ((rd_T57 l0 0).f1), .int .i64 ((rd_T57 l0 0).f2), .int .i64 0, .int .i64 0, .int .i64 0]) ?_ 3 _ rfl; (with_reducible repeat (first | refine blk_drewN ?_ _ | refine blk_drew ?_ | refine blk_alloc ?_ _)); refine blk_put (cs := #[.int .i64 ((rd_T57 l0 0).f0), .int .i64 ((rd_T57 l0 0).f1), .int .i64 0, .int .i64 0, .int .i64 0, .int .i64 0]) ?_ 2 _ rfl; (with_reducible repeat (first | refine blk_drewN ?_ _ | refine blk_drew ?_ | refine blk_alloc ?_ _)); refine blk_put (cs := #[.int .i64 ((rd_T57 l0 0).f0), .int .i64 0, .int .i64 0, .int .i64 0, .int .i64 0, .int .i64 0]) ?_ 1 _ rfl; (with_reducible repeat (first | refine blk_drewN ?_ _ | refine blk_drew ?_ | refine blk_alloc ?_ _)); refine blk_put (cs := #[.int .i64 0, .int .i64 0, .int .i64 0, .int .i64 0, .int .i64 0, .int .i64 0]) ?_ 0 _ rfl; (with_reducible repeat (first | refine blk_drewN ?_ _ | refine blk_drew ?_ | refine blk_alloc ?_ _)); exact BK158.out) hb); have n3_ := Aside0.mk (below_step (by repeat (first | (with_reducible first | exact HB.out | apply below_alloc | apply pw_below_drewN | apply below_drew1 | refine below_set ?_ GE158.out) | exact HB.out)) hb); clear HO_0; clear BK158; clear HB; have HO_0 := n0_; have HO161 := n1_; have BK158 := n2_; have HB := n3_; clear n0_ n1_ n2_ n3_; clear hb ho15; have q16 : (1 : Int) ≤ ((l0.length : Int) : Int) := of_decide_eq_true (by first | (with_reducible assumption) | assumption); obtain ⟨i016, hi016, _, hsz16, _⟩ := info_parts info57; have hroom16 : l0.length ≤ c0 := (Kd.V_reads' HO_0.out).2.1; have hC16 : Kd.F k57 _ _ (some ad157) l0.length l0 := (Kd.V_at (base := w.heap.size) HO_0.out).2.2; have hcut16 := cut_from (P := Try.prog) 51 57 .i64 Try.underlying51 hi016 6 hsz16 (some ad157) l0.length c0 1 (by omega) q16; have hr16 := Kd.F_cut (m := (1 : Int).toNat) (c := c0) hC16 (by omega) hroom16; obtain ⟨A16, hA16⟩ : ∃ A1, A1 = (if c0 = (1 : Int).toNat then (some ad157) else ((some ad157) : Option Addr).map (·.add ((1 : Int).toNat * 6))) := ⟨_, rfl⟩; obtain ⟨c16, hc16⟩ : ∃ c1, c1 = c0 - (1 : Int).toNat := ⟨_, rfl⟩; have hy16 : y162.length = l0.length - (1 : Int).toNat := (by rw [Ny162.out, List.length_drop] <;> omega); rw [show (l0).drop (1 : Int).toNat = y162 from Ny162.out.symm] at hr16; replace hr16 : Kd.F k57 _ _ A16 y162.length y162 := (by rw [hA16]; exact hr16); rw [← hy16, ← hA16, ← hc16] at hcut16; have HO166 := Aside0.mk (show Kd.V k57 57 _ w.heap.size _ (.slice A16 y162.length c16) y162 from Kd.V_mk (by rw [hy16, hc16]; exact Nat.sub_le_sub_right hroom16 _) hr16); have HC166 := Aside0.mk (show y162.length ≤ c16 from by rw [hy16, hc16]; exact Nat.sub_le_sub_right hroom16 _); clear hr16 hC16 hroom16 hi016 hsz16 hc16; have KY16 := Aside0.mk hy16; have KA16 := Aside0.mk hA16; clear hy16 hA16; replace q16 := eq_true q16))
            go_loopg [37] kj1 (fun kq v37 w' => ∃ (x4_2 : List Int) (x37_2 : Int), v37 = .int .i64 x37_2 ∧ Aside0 (impl_Bounds.l0 kq x4_2 y162 (y162.length : Int) x37_2 = some r) ∧ Aside0 (kq ≤ kj1) ∧ Aside0 (Kd.R (Kd.int .i64) 2 w' w.heap.size (fun k_ => (w.heap.size ≤ k_)) v160 x4_2) ∧ Aside0 (Kd.V k57 57 w' w.heap.size (fun k_ => (P0_ k_ ∨ w.heap.size ≤ k_) ∧ some k_ ≠ (v160 : Value).ownBlock ∧ k_ ≠ gb158) (.slice A16 y162.length c16) y162) ∧ Aside0 (w'.heap[gb158]? = some (.cells #[.int .i64 ((rd_T57 l0 0).f0), .int .i64 ((rd_T57 l0 0).f1), .int .i64 ((rd_T57 l0 0).f2), .int .i64 ((rd_T57 l0 0).f3), .int .i64 ((rd_T57 l0 0).f4), .int .i64 ((rd_T57 l0 0).f5)] 57 (0, 0))) ∧ Aside0 (Below w.heap.size w w'))
            case atStart => exact ⟨(y159), (0), (by first | rfl | (simp; done) | (simp [*]; done)), H', ⟨Nat.le_refl _⟩, ⟨by (with_reducible repeat (first | apply Kd.R_alloc | apply Kd.R_drewN | apply Kd.R_drew)); exact Kd.R_mono HO161.out (fun _ hk => hk.1)⟩, ⟨by (with_reducible repeat (first | apply Kd.V_alloc | apply Kd.V_drewN | apply Kd.V_drew)); exact Kd.V_mono HO166.out (fun _ hk => ⟨hk.1.1, ⟨hk.2, hk.1.2⟩⟩)⟩, ⟨by (with_reducible repeat (first | refine blk_drewN ?_ _ | refine blk_drew ?_ | refine blk_alloc ?_ _)); exact BK158.out⟩, ⟨by repeat (first | (with_reducible first | exact HB.out | apply below_alloc | apply pw_below_drewN | apply below_drew1 | refine below_set ?_ GE158.out) | exact HB.out)⟩⟩
            case round =>
              clear H'
              try clear c1
              try clear p1
              try clear q1
              try clear hx1
              try clear qi1
              try clear p2
              try clear c3
              try clear c3b0
              try clear c3b1
              try clear c3b2
              try clear c4
              try clear p6
              try clear c9
              try clear c10
              try clear c10b0
              try clear c10b1
              try clear c11
              try clear c11b0
              try clear c11b1
              try clear p15
              try clear q15
              try clear hx15
              try clear qi15
              try clear c16
              try clear q16
              try clear hcz13_0
              try clear hcz13_1
              try clear hcz13_2
              try clear hcz13_3
              try clear hcz13_4
              try clear hcz13_5
              try clear hfz13_0
              try clear hfz13_1
              try clear hfz13_2
              try clear hfz13_3
              try clear hfz13_4
              try clear hfz13_5
              try clear hx157_0
              try clear hx157_1
              try clear hx157_2
              try clear hx157_3
              try clear hx157_4
              try clear hx157_5
              try clear p157
              try clear p2
              try clear q157
              try clear q16
              obtain ⟨x4_2, x37_2, rfl, HA, HK2, HO_4, HO_35, BK158, HB⟩ := hrel
              cases gk with
              | zero => exact absurd HA.out (by simp [impl_Bounds.l0])
              | succ k2 =>
                have H := HA.out
                clear HA
                simp only [impl_Bounds.l0] at H
                by_cases c17 : x37_2 < (y162.length : Int)
                · rw [if_pos c17] at H
                  have c17b0 : decide (x37_2 < (y162.length : Int)) = true := decide_eq_true c17
                  clear c17
                  by_cases c18 : 0 ≤ x37_2
                  · rw [if_pos c18] at H
                    have c18b0 : decide (0 ≤ x37_2) = true := decide_eq_true c18
                    clear c18
                    by_cases c19 : x37_2 < (y162.length : Int)
                    · rw [if_pos c19] at H
                      have c19b0 : decide (x37_2 < (y162.length : Int)) = true := decide_eq_true c19
                      clear c19
                      by_cases c20 : 0 < (x4_2.length : Int)
                      · rw [if_pos c20] at H
                        have c20b0 : decide (0 < (x4_2.length : Int)) = true := decide_eq_true c20
                        have c20b1 : decide (0 < x4_2.length) = true := decide_eq_true (by omega)
                        clear c20
                        obtain ⟨ji21, hji21⟩ : ∃ j_ : Int, (mn (rd x4_2 0) ((rd_T57 y162 x37_2).f0)) = j_ := ⟨_, rfl⟩
                        replace H : ((some (x4_2.set (0 : Int).toNat (ji21) : List Int)).bind fun y170 => (if 1 < (x4_2.length : Int) then ((some (y170.set (1 : Int).toNat (mn (rd y170 1) (wrap64 (((rd_T57 y162 x37_2).f1) - ((rd_T57 y162 x37_2).f5)))) : List Int)).bind fun y172 => (if 2 < (x4_2.length : Int) then ((some (y172.set (2 : Int).toNat (mx (rd y172 2) (wrap64 (((rd_T57 y162 x37_2).f0) + ((rd_T57 y162 x37_2).f4)))) : List Int)).bind fun y174 => (if 3 < (x4_2.length : Int) then (impl_Bounds.l0 k2 (y174.set (3 : Int).toNat (mx (rd y174 3) ((rd_T57 y162 x37_2).f1))) y162 (y162.length : Int) (wrap64 (x37_2 + 1))) else (none))) else (none))) else (none))) = some r := by first | (rw [hji21] at H; exact H) | (simp only [hji21] at H ⊢; exact H)
                        have hji21_ : (if ((rd_T57 y162 x37_2).f0) < (rd x4_2 0) then ((rd_T57 y162 x37_2).f0) else (rd x4_2 0)) = ji21 := hji21
                        obtain ⟨y170, hy170⟩ : ∃ y_ : List Int, y_ = (x4_2.set (0 : Int).toNat (ji21)) := ⟨_, rfl⟩
                        replace H : (if 1 < (x4_2.length : Int) then ((some (y170.set (1 : Int).toNat (mn (rd y170 1) (wrap64 (((rd_T57 y162 x37_2).f1) - ((rd_T57 y162 x37_2).f5)))) : List Int)).bind fun y172 => (if 2 < (x4_2.length : Int) then ((some (y172.set (2 : Int).toNat (mx (rd y172 2) (wrap64 (((rd_T57 y162 x37_2).f0) + ((rd_T57 y162 x37_2).f4)))) : List Int)).bind fun y174 => (if 3 < (x4_2.length : Int) then (impl_Bounds.l0 k2 (y174.set (3 : Int).toNat (mx (rd y174 3) ((rd_T57 y162 x37_2).f1))) y162 (y162.length : Int) (wrap64 (x37_2 + 1))) else (none))) else (none))) else (none)) = some r := by first | (rw [hy170]; with_reducible exact H) | (have H2_ := (Option.bind_some _ _).symm.trans H; rw [hy170]; with_reducible exact H2_) | (have H2_ := (Option.bind_some _ _).symm.trans H; with_reducible exact H2_) | with_reducible exact H | (rw [hy170]; exact H) | exact H
                        have Ny170 := Aside0.mk hy170
                        clear hy170
                        by_cases c23 : 1 < (x4_2.length : Int)
                        · rw [if_pos c23] at H
                          have c23b0 : decide (1 < (x4_2.length : Int)) = true := decide_eq_true c23
                          have c23b1 : decide (1 < x4_2.length) = true := decide_eq_true (by omega)
                          clear c23
                          obtain ⟨ji24, hji24⟩ : ∃ j_ : Int, (mn (rd y170 1) (wrap64 (((rd_T57 y162 x37_2).f1) - ((rd_T57 y162 x37_2).f5)))) = j_ := ⟨_, rfl⟩
                          replace H : ((some (y170.set (1 : Int).toNat (ji24) : List Int)).bind fun y172 => (if 2 < (x4_2.length : Int) then ((some (y172.set (2 : Int).toNat (mx (rd y172 2) (wrap64 (((rd_T57 y162 x37_2).f0) + ((rd_T57 y162 x37_2).f4)))) : List Int)).bind fun y174 => (if 3 < (x4_2.length : Int) then (impl_Bounds.l0 k2 (y174.set (3 : Int).toNat (mx (rd y174 3) ((rd_T57 y162 x37_2).f1))) y162 (y162.length : Int) (wrap64 (x37_2 + 1))) else (none))) else (none))) = some r := by first | (rw [hji24] at H; exact H) | (simp only [hji24] at H ⊢; exact H)
                          have hji24_ : (if (wrap64 (((rd_T57 y162 x37_2).f1) - ((rd_T57 y162 x37_2).f5))) < (rd y170 1) then (wrap64 (((rd_T57 y162 x37_2).f1) - ((rd_T57 y162 x37_2).f5))) else (rd y170 1)) = ji24 := hji24
                          obtain ⟨y172, hy172⟩ : ∃ y_ : List Int, y_ = (y170.set (1 : Int).toNat (ji24)) := ⟨_, rfl⟩
                          replace H : (if 2 < (x4_2.length : Int) then ((some (y172.set (2 : Int).toNat (mx (rd y172 2) (wrap64 (((rd_T57 y162 x37_2).f0) + ((rd_T57 y162 x37_2).f4)))) : List Int)).bind fun y174 => (if 3 < (x4_2.length : Int) then (impl_Bounds.l0 k2 (y174.set (3 : Int).toNat (mx (rd y174 3) ((rd_T57 y162 x37_2).f1))) y162 (y162.length : Int) (wrap64 (x37_2 + 1))) else (none))) else (none)) = some r := by first | (rw [hy172]; with_reducible exact H) | (have H2_ := (Option.bind_some _ _).symm.trans H; rw [hy172]; with_reducible exact H2_) | (have H2_ := (Option.bind_some _ _).symm.trans H; with_reducible exact H2_) | with_reducible exact H | (rw [hy172]; exact H) | exact H
                          have Ny172 := Aside0.mk hy172
                          clear hy172
                          by_cases c26 : 2 < (x4_2.length : Int)
                          · rw [if_pos c26] at H
                            have c26b0 : decide (2 < (x4_2.length : Int)) = true := decide_eq_true c26
                            have c26b1 : decide (2 < x4_2.length) = true := decide_eq_true (by omega)
                            clear c26
                            obtain ⟨ji27, hji27⟩ : ∃ j_ : Int, (mx (rd y172 2) (wrap64 (((rd_T57 y162 x37_2).f0) + ((rd_T57 y162 x37_2).f4)))) = j_ := ⟨_, rfl⟩
                            replace H : ((some (y172.set (2 : Int).toNat (ji27) : List Int)).bind fun y174 => (if 3 < (x4_2.length : Int) then (impl_Bounds.l0 k2 (y174.set (3 : Int).toNat (mx (rd y174 3) ((rd_T57 y162 x37_2).f1))) y162 (y162.length : Int) (wrap64 (x37_2 + 1))) else (none))) = some r := by first | (rw [hji27] at H; exact H) | (simp only [hji27] at H ⊢; exact H)
                            have hji27_ : (if (rd y172 2) < (wrap64 (((rd_T57 y162 x37_2).f0) + ((rd_T57 y162 x37_2).f4))) then (wrap64 (((rd_T57 y162 x37_2).f0) + ((rd_T57 y162 x37_2).f4))) else (rd y172 2)) = ji27 := hji27
                            obtain ⟨y174, hy174⟩ : ∃ y_ : List Int, y_ = (y172.set (2 : Int).toNat (ji27)) := ⟨_, rfl⟩
                            replace H : (if 3 < (x4_2.length : Int) then (impl_Bounds.l0 k2 (y174.set (3 : Int).toNat (mx (rd y174 3) ((rd_T57 y162 x37_2).f1))) y162 (y162.length : Int) (wrap64 (x37_2 + 1))) else (none)) = some r := by first | (rw [hy174]; with_reducible exact H) | (have H2_ := (Option.bind_some _ _).symm.trans H; rw [hy174]; with_reducible exact H2_) | (have H2_ := (Option.bind_some _ _).symm.trans H; with_reducible exact H2_) | with_reducible exact H | (rw [hy174]; exact H) | exact H
                            have Ny174 := Aside0.mk hy174
                            clear hy174
                            by_cases c29 : 3 < (x4_2.length : Int)
                            · rw [if_pos c29] at H
                              have c29b0 : decide (3 < (x4_2.length : Int)) = true := decide_eq_true c29
                              have c29b1 : decide (3 < x4_2.length) = true := decide_eq_true (by omega)
                              clear c29
                              obtain ⟨ji30, hji30⟩ : ∃ j_ : Int, (mx (rd y174 3) ((rd_T57 y162 x37_2).f1)) = j_ := ⟨_, rfl⟩
                              replace H : (impl_Bounds.l0 k2 (y174.set (3 : Int).toNat (ji30)) y162 (y162.length : Int) (wrap64 (x37_2 + 1))) = some r := by first | (rw [hji30] at H; exact H) | (simp only [hji30] at H ⊢; exact H)
                              have hji30_ : (if (rd y174 3) < ((rd_T57 y162 x37_2).f1) then ((rd_T57 y162 x37_2).f1) else (rd y174 3)) = ji30 := hji30
                              obtain ⟨y176, hy176⟩ : ∃ y_ : List Int, y_ = (y174.set (3 : Int).toNat (ji30)) := ⟨_, rfl⟩
                              replace H : (impl_Bounds.l0 k2 y176 y162 (y162.length : Int) (wrap64 (x37_2 + 1))) = some r := by first | (rw [hy176]; with_reducible exact H) | (have H2_ := (Option.bind_some _ _).symm.trans H; rw [hy176]; with_reducible exact H2_) | (have H2_ := (Option.bind_some _ _).symm.trans H; with_reducible exact H2_) | with_reducible exact H | (rw [hy176]; exact H) | exact H
                              have Ny176 := Aside0.mk hy176
                              clear hy176
                              have H' := Aside0.mk H
                              clear H
                              have p167 : 0 ≤ (x37_2 : Int) := of_decide_eq_true (by first | (with_reducible assumption) | assumption)
                              have q167 : x37_2 < (y162.length : Int) := of_decide_eq_true (by first | (with_reducible assumption) | assumption)
                              obtain ⟨ad167, e167, hx167_0, hx167_1, hx167_2, hx167_3, hx167_4, hx167_5⟩ := at_T57 (Kd.V_reads' HO_35.out).2.2 x37_2 p167 q167
                              cases e167
                              replace p167 := eq_true p167
                              replace q167 := eq_true q167
                              try go_wp2_with (first | ((with_reducible refine gate_dst (N := 6) rfl ?_); (try (refine gate_guard (by rfl) ?_; dsimp only)); refine box_event ?hg (N := 6) ?hd (cs := #[.int .i64 0, .int .i64 0, .int .i64 0, .int .i64 0, .int .i64 0, .int .i64 0]) (t := 57) ?hr ?_; (case hd => rfl); (case hg => rfl); (case hr => first | (go_simp; done) | (go_simp; rfl)); intro gb168 hg w32 hbox hb; have n0_ := Aside0.mk (Kd.R_below (by (with_reducible repeat (first | apply Kd.R_alloc | apply Kd.R_drewN | apply Kd.R_drew)); exact HO_4.out) hb); have n1_ := Aside0.mk (Kd.V_below (Kd.V_elderB (by (with_reducible repeat (first | apply Kd.V_alloc | apply Kd.V_drewN | apply Kd.V_drew)); exact HO_35.out) gb168 (Nat.le_of_eq hg.symm)) hb); have n2_ := Aside0.mk (blk_below (g := gb158) (o := .cells #[.int .i64 ((rd_T57 l0 0).f0), .int .i64 ((rd_T57 l0 0).f1), .int .i64 ((rd_T57 l0 0).f2), .int .i64 ((rd_T57 l0 0).f3), .int .i64 ((rd_T57 l0 0).f4), .int .i64 ((rd_T57 l0 0).f5)] 57 (0, 0)) (by (with_reducible repeat (first | refine blk_drewN ?_ _ | refine blk_drew ?_ | refine blk_alloc ?_ _)); exact BK158.out) hb); have n3_ := Aside0.mk (below_step (by repeat (first | (with_reducible first | exact HB.out | apply below_alloc | apply pw_below_drewN | apply below_drew1 | refine below_set ?_ GE158.out) | exact HB.out)) hb); have n4_ := Aside0.mk (hbox); have n5_ := Aside0.mk ((by rw [hg]; exact (below_size (by repeat (first | (with_reducible first | exact HB.out | apply below_alloc | apply pw_below_drewN | apply below_drew1 | refine below_set ?_ GE158.out) | exact HB.out))) : w.heap.size ≤ gb168)); have n6_ := Aside0.mk ((by rw [hg]; exact (below_size (by repeat (first | (with_reducible first | exact HB.out | apply below_alloc | apply pw_below_drewN | apply below_drew1 | refine below_set ?_ GE158.out) | exact HB.out))) : w.heap.size ≤ gb168)); have n7_ := Aside0.mk ((by rw [hg]; exact Nat.ne_of_lt (blk_lt (g := gb158) (o := .cells #[.int .i64 ((rd_T57 l0 0).f0), .int .i64 ((rd_T57 l0 0).f1), .int .i64 ((rd_T57 l0 0).f2), .int .i64 ((rd_T57 l0 0).f3), .int .i64 ((rd_T57 l0 0).f4), .int .i64 ((rd_T57 l0 0).f5)] 57 (0, 0)) (by (with_reducible repeat (first | refine blk_drewN ?_ _ | refine blk_drew ?_ | refine blk_alloc ?_ _)); exact BK158.out)) : gb158 ≠ gb168)); have n8_ := Aside0.mk ((by rw [hg]; exact Nat.ne_of_gt (blk_lt (g := gb158) (o := .cells #[.int .i64 ((rd_T57 l0 0).f0), .int .i64 ((rd_T57 l0 0).f1), .int .i64 ((rd_T57 l0 0).f2), .int .i64 ((rd_T57 l0 0).f3), .int .i64 ((rd_T57 l0 0).f4), .int .i64 ((rd_T57 l0 0).f5)] 57 (0, 0)) (by (with_reducible repeat (first | refine blk_drewN ?_ _ | refine blk_drew ?_ | refine blk_alloc ?_ _)); exact BK158.out)) : gb168 ≠ gb158)); clear HO_4; clear HO_35; clear BK158; clear HB; have HO_4 := n0_; have HO_35 := n1_; have BK158 := n2_; have HB := n3_; have BK168 := n4_; have GW168 := n5_; have GE168 := n6_; have NB158_168 := n7_; have NB168_158 := n8_; clear n0_ n1_ n2_ n3_ n4_ n5_ n6_ n7_ n8_; clear hb hbox hg; have hnb33 := NB168_158.out; have hnc33 := NB158_168.out; have hcz34_0 : w32.cell? ⟨gb168, 0, none⟩ = some (.int .i64 0) := (blk_cell BK168.out 0).trans rfl; have hcz34_1 : w32.cell? ⟨gb168, 1, none⟩ = some (.int .i64 0) := (blk_cell BK168.out 1).trans rfl; have hcz34_2 : w32.cell? ⟨gb168, 2, none⟩ = some (.int .i64 0) := (blk_cell BK168.out 2).trans rfl; have hcz34_3 : w32.cell? ⟨gb168, 3, none⟩ = some (.int .i64 0) := (blk_cell BK168.out 3).trans rfl; have hcz34_4 : w32.cell? ⟨gb168, 4, none⟩ = some (.int .i64 0) := (blk_cell BK168.out 4).trans rfl; have hcz34_5 : w32.cell? ⟨gb168, 5, none⟩ = some (.int .i64 0) := (blk_cell BK168.out 5).trans rfl; have hfz34_0 := blk_frozen BK168.out 0; have hfz34_1 := blk_frozen BK168.out 1; have hfz34_2 := blk_frozen BK168.out 2; have hfz34_3 := blk_frozen BK168.out 3; have hfz34_4 := blk_frozen BK168.out 4; have hfz34_5 := blk_frozen BK168.out 5))
                              have n0_ : Aside0 (Kd.R (Kd.int .i64) 2 ((((((w32.setCell ⟨gb168, 0, none⟩ (.int .i64 ((rd_T57 y162 x37_2).f0))).setCell ⟨gb168, 1, none⟩ (.int .i64 ((rd_T57 y162 x37_2).f1))).setCell ⟨gb168, 2, none⟩ (.int .i64 ((rd_T57 y162 x37_2).f2))).setCell ⟨gb168, 3, none⟩ (.int .i64 ((rd_T57 y162 x37_2).f3))).setCell ⟨gb168, 4, none⟩ (.int .i64 ((rd_T57 y162 x37_2).f4))).setCell ⟨gb168, 5, none⟩ (.int .i64 ((rd_T57 y162 x37_2).f5))) w.heap.size (fun k_ => (w.heap.size ≤ k_)) v160 x4_2) := ⟨by (with_reducible repeat (first | apply Kd.R_alloc | apply Kd.R_drewN | apply Kd.R_drew)); exact Kd.R_mono (Kd.R_far (p := ⟨gb168, 5, none⟩) (Kd.R_far (p := ⟨gb168, 4, none⟩) (Kd.R_far (p := ⟨gb168, 3, none⟩) (Kd.R_far (p := ⟨gb168, 2, none⟩) (Kd.R_far (p := ⟨gb168, 1, none⟩) (Kd.R_far (p := ⟨gb168, 0, none⟩) (Kd.R_types HO_4.out BK168.out (by decide)) (fun _ hk => hk.2) (.int .i64 ((rd_T57 y162 x37_2).f0))) (fun _ hk => hk.2) (.int .i64 ((rd_T57 y162 x37_2).f1))) (fun _ hk => hk.2) (.int .i64 ((rd_T57 y162 x37_2).f2))) (fun _ hk => hk.2) (.int .i64 ((rd_T57 y162 x37_2).f3))) (fun _ hk => hk.2) (.int .i64 ((rd_T57 y162 x37_2).f4))) (fun _ hk => hk.2) (.int .i64 ((rd_T57 y162 x37_2).f5))) (fun _ hk => hk.1)⟩
                              have n1_ : Aside0 (Kd.V k57 57 ((((((w32.setCell ⟨gb168, 0, none⟩ (.int .i64 ((rd_T57 y162 x37_2).f0))).setCell ⟨gb168, 1, none⟩ (.int .i64 ((rd_T57 y162 x37_2).f1))).setCell ⟨gb168, 2, none⟩ (.int .i64 ((rd_T57 y162 x37_2).f2))).setCell ⟨gb168, 3, none⟩ (.int .i64 ((rd_T57 y162 x37_2).f3))).setCell ⟨gb168, 4, none⟩ (.int .i64 ((rd_T57 y162 x37_2).f4))).setCell ⟨gb168, 5, none⟩ (.int .i64 ((rd_T57 y162 x37_2).f5))) w.heap.size (fun k_ => (P0_ k_ ∨ w.heap.size ≤ k_) ∧ some k_ ≠ (v160 : Value).ownBlock ∧ k_ ≠ gb158 ∧ k_ ≠ gb168) (.slice (some ad167) y162.length c16) y162) := ⟨by (with_reducible repeat (first | apply Kd.V_alloc | apply Kd.V_drewN | apply Kd.V_drew)); exact Kd.V_mono (Kd.V_far (p := ⟨gb168, 5, none⟩) (Kd.V_far (p := ⟨gb168, 4, none⟩) (Kd.V_far (p := ⟨gb168, 3, none⟩) (Kd.V_far (p := ⟨gb168, 2, none⟩) (Kd.V_far (p := ⟨gb168, 1, none⟩) (Kd.V_far (p := ⟨gb168, 0, none⟩) (Kd.V_mono HO_35.out (fun k_ hk => (⟨hk, hk.2⟩ : _ ∧ k_ ≠ gb168))) (fun _ hk => hk.2) (.int .i64 ((rd_T57 y162 x37_2).f0))) (fun _ hk => hk.2) (.int .i64 ((rd_T57 y162 x37_2).f1))) (fun _ hk => hk.2) (.int .i64 ((rd_T57 y162 x37_2).f2))) (fun _ hk => hk.2) (.int .i64 ((rd_T57 y162 x37_2).f3))) (fun _ hk => hk.2) (.int .i64 ((rd_T57 y162 x37_2).f4))) (fun _ hk => hk.2) (.int .i64 ((rd_T57 y162 x37_2).f5))) (fun _ hk => ⟨hk.1.1.1, ⟨hk.1.1.2.1, ⟨hk.1.1.2.2, hk.1.2⟩⟩⟩)⟩
                              have n2_ : Aside0 (((((((w32.setCell ⟨gb168, 0, none⟩ (.int .i64 ((rd_T57 y162 x37_2).f0))).setCell ⟨gb168, 1, none⟩ (.int .i64 ((rd_T57 y162 x37_2).f1))).setCell ⟨gb168, 2, none⟩ (.int .i64 ((rd_T57 y162 x37_2).f2))).setCell ⟨gb168, 3, none⟩ (.int .i64 ((rd_T57 y162 x37_2).f3))).setCell ⟨gb168, 4, none⟩ (.int .i64 ((rd_T57 y162 x37_2).f4))).setCell ⟨gb168, 5, none⟩ (.int .i64 ((rd_T57 y162 x37_2).f5))).heap[gb158]? = some (.cells #[.int .i64 ((rd_T57 l0 0).f0), .int .i64 ((rd_T57 l0 0).f1), .int .i64 ((rd_T57 l0 0).f2), .int .i64 ((rd_T57 l0 0).f3), .int .i64 ((rd_T57 l0 0).f4), .int .i64 ((rd_T57 l0 0).f5)] 57 (0, 0))) := ⟨by (with_reducible repeat (first | refine blk_drewN ?_ _ | refine blk_drew ?_ | refine blk_alloc ?_ _)); refine blk_far ?_ NB158_168.out _; (with_reducible repeat (first | refine blk_drewN ?_ _ | refine blk_drew ?_ | refine blk_alloc ?_ _)); refine blk_far ?_ NB158_168.out _; (with_reducible repeat (first | refine blk_drewN ?_ _ | refine blk_drew ?_ | refine blk_alloc ?_ _)); refine blk_far ?_ NB158_168.out _; (with_reducible repeat (first | refine blk_drewN ?_ _ | refine blk_drew ?_ | refine blk_alloc ?_ _)); refine blk_far ?_ NB158_168.out _; (with_reducible repeat (first | refine blk_drewN ?_ _ | refine blk_drew ?_ | refine blk_alloc ?_ _)); refine blk_far ?_ NB158_168.out _; (with_reducible repeat (first | refine blk_drewN ?_ _ | refine blk_drew ?_ | refine blk_alloc ?_ _)); refine blk_far ?_ NB158_168.out _; (with_reducible repeat (first | refine blk_drewN ?_ _ | refine blk_drew ?_ | refine blk_alloc ?_ _)); exact BK158.out⟩
                              have n3_ : Aside0 (((((((w32.setCell ⟨gb168, 0, none⟩ (.int .i64 ((rd_T57 y162 x37_2).f0))).setCell ⟨gb168, 1, none⟩ (.int .i64 ((rd_T57 y162 x37_2).f1))).setCell ⟨gb168, 2, none⟩ (.int .i64 ((rd_T57 y162 x37_2).f2))).setCell ⟨gb168, 3, none⟩ (.int .i64 ((rd_T57 y162 x37_2).f3))).setCell ⟨gb168, 4, none⟩ (.int .i64 ((rd_T57 y162 x37_2).f4))).setCell ⟨gb168, 5, none⟩ (.int .i64 ((rd_T57 y162 x37_2).f5))).heap[gb168]? = some (.cells #[.int .i64 ((rd_T57 y162 x37_2).f0), .int .i64 ((rd_T57 y162 x37_2).f1), .int .i64 ((rd_T57 y162 x37_2).f2), .int .i64 ((rd_T57 y162 x37_2).f3), .int .i64 ((rd_T57 y162 x37_2).f4), .int .i64 ((rd_T57 y162 x37_2).f5)] 57 (0, 0))) := ⟨by (with_reducible repeat (first | refine blk_drewN ?_ _ | refine blk_drew ?_ | refine blk_alloc ?_ _)); refine blk_put (cs := #[.int .i64 ((rd_T57 y162 x37_2).f0), .int .i64 ((rd_T57 y162 x37_2).f1), .int .i64 ((rd_T57 y162 x37_2).f2), .int .i64 ((rd_T57 y162 x37_2).f3), .int .i64 ((rd_T57 y162 x37_2).f4), .int .i64 0]) ?_ 5 _ rfl; (with_reducible repeat (first | refine blk_drewN ?_ _ | refine blk_drew ?_ | refine blk_alloc ?_ _)); refine blk_put (cs := #[.int .i64 ((rd_T57 y162 x37_2).f0), .int .i64 ((rd_T57 y162 x37_2).f1), .int .i64 ((rd_T57 y162 x37_2).f2), .int .i64 ((rd_T57 y162 x37_2).f3), .int .i64 0, .int .i64 0]) ?_ 4 _ rfl; (with_reducible repeat (first | refine blk_drewN ?_ _ | refine blk_drew ?_ | refine blk_alloc ?_ _)); refine blk_put (cs := #[.int .i64 ((rd_T57 y162 x37_2).f0), .int .i64 ((rd_T57 y162 x37_2).f1), .int .i64 ((rd_T57 y162 x37_2).f2), .int .i64 0, .int .i64 0, .int .i64 0]) ?_ 3 _ rfl; (with_reducible repeat (first | refine blk_drewN ?_ _ | refine blk_drew ?_ | refine blk_alloc ?_ _)); refine blk_put (cs := #[.int .i64 ((rd_T57 y162 x37_2).f0), .int .i64 ((rd_T57 y162 x37_2).f1), .int .i64 0, .int .i64 0, .int .i64 0, .int .i64 0]) ?_ 2 _ rfl; (with_reducible repeat (first | refine blk_drewN ?_ _ | refine blk_drew ?_ | refine blk_alloc ?_ _)); refine blk_put (cs := #[.int .i64 ((rd_T57 y162 x37_2).f0), .int .i64 0, .int .i64 0, .int .i64 0, .int .i64 0, .int .i64 0]) ?_ 1 _ rfl; (with_reducible repeat (first | refine blk_drewN ?_ _ | refine blk_drew ?_ | refine blk_alloc ?_ _)); refine blk_put (cs := #[.int .i64 0, .int .i64 0, .int .i64 0, .int .i64 0, .int .i64 0, .int .i64 0]) ?_ 0 _ rfl; (with_reducible repeat (first | refine blk_drewN ?_ _ | refine blk_drew ?_ | refine blk_alloc ?_ _)); exact BK168.out⟩
                              have n4_ : Aside0 (Below w.heap.size w ((((((w32.setCell ⟨gb168, 0, none⟩ (.int .i64 ((rd_T57 y162 x37_2).f0))).setCell ⟨gb168, 1, none⟩ (.int .i64 ((rd_T57 y162 x37_2).f1))).setCell ⟨gb168, 2, none⟩ (.int .i64 ((rd_T57 y162 x37_2).f2))).setCell ⟨gb168, 3, none⟩ (.int .i64 ((rd_T57 y162 x37_2).f3))).setCell ⟨gb168, 4, none⟩ (.int .i64 ((rd_T57 y162 x37_2).f4))).setCell ⟨gb168, 5, none⟩ (.int .i64 ((rd_T57 y162 x37_2).f5)))) := ⟨by repeat (first | (with_reducible first | exact HB.out | apply below_alloc | apply pw_below_drewN | apply below_drew1 | refine below_set ?_ GE158.out | refine below_set ?_ GE168.out) | exact HB.out)⟩
                              (try clear HO_4)
                              (try clear HO_35)
                              (try clear BK158)
                              (try clear BK168)
                              (try clear HB)
                              generalize ((((((w32.setCell ⟨gb168, 0, none⟩ (.int .i64 ((rd_T57 y162 x37_2).f0))).setCell ⟨gb168, 1, none⟩ (.int .i64 ((rd_T57 y162 x37_2).f1))).setCell ⟨gb168, 2, none⟩ (.int .i64 ((rd_T57 y162 x37_2).f2))).setCell ⟨gb168, 3, none⟩ (.int .i64 ((rd_T57 y162 x37_2).f3))).setCell ⟨gb168, 4, none⟩ (.int .i64 ((rd_T57 y162 x37_2).f4))).setCell ⟨gb168, 5, none⟩ (.int .i64 ((rd_T57 y162 x37_2).f5))) = w35 at n0_ n1_ n2_ n3_ n4_ ⊢
                              have HO_4 := n0_
                              have HO_35 := n1_
                              have BK158 := n2_
                              have BK168 := n3_
                              have HB := n4_
                              clear n0_ n1_ n2_ n3_ n4_
                              have n0_ := Aside0.mk (Kd.R_drew HO_4.out)
                              have n1_ := Aside0.mk (Kd.V_drew HO_35.out)
                              have n2_ := Aside0.mk (blk_drew BK158.out)
                              have n3_ := Aside0.mk (blk_drew BK168.out)
                              have n4_ := Aside0.mk (below_drew1 HB.out)
                              clear HO_4
                              clear HO_35
                              clear BK158
                              clear BK168
                              clear HB
                              have HO_4 := n0_
                              have HO_35 := n1_
                              have BK158 := n2_
                              have BK168 := n3_
                              have HB := n4_
                              clear n0_ n1_ n2_ n3_ n4_
                              obtain ⟨Ao37, co37, eo37⟩ := Kd.R_slice HO_4.out
                              (first | subst eo37 | (injection eo37 with f1_ f2_ f3_; have f4_ := f1_.symm; have f5_ := f3_.symm; clear f1_ f2_ f3_; subst f4_; subst f5_))
                              have p169 : 0 ≤ (0 : Int) := (by omega)
                              have q169 : 0 < (x4_2.length : Int) := of_decide_eq_true (by first | (with_reducible assumption) | assumption)
                              obtain ⟨ad169, e169, hx169_0⟩ := Kd.at_int (Kd.R_reads' HO_4.out).2.2 0 p169 q169
                              cases e169
                              have qi169 : (0 < x4_2.length) = True := eq_true (by omega)
                              (try rw [show ((0 : Int)).toNat = 0 from rfl] at hx169_0)
                              (try rw [Addr.add_zero'] at hx169_0)
                              replace p169 := eq_true p169
                              replace q169 := eq_true q169
                              have p22 : 0 ≤ (0 : Int) := (by omega)
                              have q22 : (0 : Int) < ((x4_2.length : Int) : Int) := of_decide_eq_true (by first | (with_reducible assumption) | assumption)
                              have qi22 : (0 < x4_2.length) = True := eq_true (by omega)
                              obtain ⟨go22, co22, eo22, gb22, gl22, cl22, HG22⟩ := Kd.R_form HO_4.out (by omega)
                              (first | cases eo22 | (injection eo22 with ea_ en_ ec_; (first | subst ea_ | (injection ea_ with ea_; subst ea_)); subst ec_; clear en_))
                              have GB22 := Aside0.mk gb22
                              have GG22 := Aside0.mk HG22
                              clear gb22 gl22 HG22
                              (first | simp only [add_plain] at hx169_0 | skip)
                              obtain ⟨hx22_0, hf22_0⟩ := Kd.R_celln 0 HO_4.out (0 : Int) p22 q22
                              (try rw [show ((0 : Int)).toNat = 0 from rfl] at hx22_0)
                              (try simp only [Nat.reduceMul, Nat.zero_mul, Nat.zero_add, Nat.reduceAdd] at hx22_0)
                              (try rw [show ((0 : Int)).toNat = 0 from rfl] at hf22_0)
                              (try simp only [Nat.reduceMul, Nat.zero_mul, Nat.zero_add, Nat.reduceAdd] at hf22_0)
                              replace p22 := eq_true p22
                              replace q22 := eq_true q22
                              have HP38 := Kd.R_putn HO_4.out (0 : Int) ji21
                              rw [← Ny170.out] at HP38
                              have HQ38 := Aside0.mk HP38
                              clear HP38
                              refine start_ (n := 9) (S := fun w' => w'.cell? ⟨gb168, 0, none⟩ = some (.int .i64 ((rd_T57 y162 x37_2).f0)) ∧ w'.cell? ⟨gb168, 1, none⟩ = some (.int .i64 ((rd_T57 y162 x37_2).f1)) ∧ w'.cell? ⟨gb168, 2, none⟩ = some (.int .i64 ((rd_T57 y162 x37_2).f2)) ∧ w'.cell? ⟨gb168, 3, none⟩ = some (.int .i64 ((rd_T57 y162 x37_2).f3)) ∧ w'.cell? ⟨gb168, 4, none⟩ = some (.int .i64 ((rd_T57 y162 x37_2).f4)) ∧ w'.cell? ⟨gb168, 5, none⟩ = some (.int .i64 ((rd_T57 y162 x37_2).f5)) ∧ w'.cell? ⟨go22, 0, none⟩ = some (.int .i64 (rd x4_2 0))) (ds := [8]) #[false, false, false, false, false, false, false, false, false] (by kernel_rfl) rfl rfl ⟨(blk_cell BK168.out 0).trans rfl, (blk_cell BK168.out 1).trans rfl, (blk_cell BK168.out 2).trans rfl, (blk_cell BK168.out 3).trans rfl, (blk_cell BK168.out 4).trans rfl, (blk_cell BK168.out 5).trans rfl, hx169_0⟩ (fun hHeld => ?_); refine with_tabW impl_Bounds.tab8 impl_Bounds.bits8 (fun HT_ HW_ => ?_)
                              generalize w35.drew = w36 at HO_4 HO_35 BK158 BK168 HB GG22 HQ38 hf22_0 hx169_0 hx22_0 hHeld ⊢
                              refine pure_ (i := 0) (N := some 41) (v := ?_) (a' := ?_) #[true, false, false, false, false, false, false, false, false] rfl rfl (any_of HT_.out (by kernel_rfl)) (fun _ _ _ h => h) (Or.inl ⟨by rfl, ?_⟩) ?_ ?_
                              rotate_left
                              · intro w'
                                go_simp
                                with_reducible rfl
                              rotate_left
                              · simp only [Act.put, List.setIfInBounds_toArray, List.set_cons_zero, List.set_cons_succ, i64_w, i32_w]
                                rfl
                              refine pure_ (i := 1) (N := some 42) (v := ?_) (a' := ?_) #[true, true, false, false, false, false, false, false, false] rfl rfl (any_of HT_.out (by kernel_rfl)) (fun _ _ _ h => h) (Or.inl ⟨by rfl, ?_⟩) ?_ ?_
                              rotate_left
                              · intro w'
                                go_simp
                                with_reducible rfl
                              rotate_left
                              · simp only [Act.put, List.setIfInBounds_toArray, List.set_cons_zero, List.set_cons_succ, i64_w, i32_w]
                                rfl
                              refine pure_ (i := 2) (N := some 43) (v := ?_) (a' := ?_) #[true, true, true, false, false, false, false, false, false] rfl rfl (any_of HT_.out (by kernel_rfl)) (fun _ _ _ h => h) (Or.inl ⟨by rfl, ?_⟩) ?_ ?_
                              rotate_left
                              · intro w'
                                go_simp
                                with_reducible rfl
                              rotate_left
                              · simp only [Act.put, List.setIfInBounds_toArray, List.set_cons_zero, List.set_cons_succ, i64_w, i32_w]
                                rfl
                              refine pure_ (i := 4) (N := some 45) (v := ?_) (a' := ?_) #[true, true, true, false, true, false, false, false, false] rfl rfl (any_of HT_.out (by kernel_rfl)) (fun _ _ _ h => h) (Or.inl ⟨by rfl, ?_⟩) ?_ ?_
                              rotate_left
                              · intro w'
                                go_simp
                                with_reducible rfl
                              rotate_left
                              · simp only [Act.put, List.setIfInBounds_toArray, List.set_cons_zero, List.set_cons_succ, i64_w, i32_w]
                                rfl
                              refine take_ (i := 3) (N := some 44) (v := ?_) (a' := ?_) #[true, true, true, true, true, false, false, false, false] rfl rfl (take_ofW HT_.out HW_.out (by kernel_rfl)) (fun _ _ _ h => h) (Or.inl ⟨by rfl, ?_⟩) hHeld ?_ ?_
                              rotate_left
                              · rintro w' ⟨s0, s1, s2, s3, s4, s5, s6⟩
                                go_simp
                                with_reducible rfl
                              rotate_left
                              · simp only [Act.put, List.setIfInBounds_toArray, List.set_cons_zero, List.set_cons_succ, i64_w, i32_w]
                                rfl
                              refine take_ (i := 5) (N := some 46) (v := ?_) (a' := ?_) #[true, true, true, true, true, true, false, false, false] rfl rfl (take_ofW HT_.out HW_.out (by kernel_rfl)) (fun _ _ _ h => h) (Or.inl ⟨by rfl, ?_⟩) hHeld ?_ ?_
                              rotate_left
                              · rintro w' ⟨s0, s1, s2, s3, s4, s5, s6⟩
                                go_simp
                                with_reducible rfl
                              rotate_left
                              · simp only [Act.put, List.setIfInBounds_toArray, List.set_cons_zero, List.set_cons_succ, i64_w, i32_w]
                                rfl
                              refine pure_ (i := 6) (N := some 47) (v := ?_) (a' := ?_) #[true, true, true, true, true, true, true, false, false] rfl rfl (any_of HT_.out (by kernel_rfl)) (fun _ _ _ h => h) (Or.inl ⟨by rfl, ?_⟩) ?_ ?_
                              rotate_left
                              · intro w'
                                go_simp
                                with_reducible rfl
                              rotate_left
                              · simp only [Act.put, List.setIfInBounds_toArray, List.set_cons_zero, List.set_cons_succ, i64_w, i32_w]
                                rfl
                              refine pure_ (i := 7) (N := some 48) (v := ?_) (a' := ?_) #[true, true, true, true, true, true, true, true, false] rfl rfl (any_of HT_.out (by kernel_rfl)) (fun _ _ _ h => h) (Or.inl ⟨by rfl, ?_⟩) ?_ ?_
                              rotate_left
                              · intro w'
                                go_simp
                                with_reducible rfl
                              rotate_left
                              · simp only [Act.put, List.setIfInBounds_toArray, List.set_cons_zero, List.set_cons_succ, i64_w, i32_w]
                                rfl
                              refine last_ (i := 8) (N := none) #[true, true, true, true, true, true, true, true, true] rfl rfl (one_of HT_.out (by kernel_rfl)) (by decide) (fun K hK => ?_)
                              refine skip_ (w1 := ?_) (by rfl) rfl ?_ ?_
                              rotate_left
                              · go_simp
                                rfl
                              refine hK.out _ _ ?_
                              clear hK K
                              refine done_ (done_of HT_.out (by kernel_rfl)) ?_
                              try go_wp2
                              have n0_ : Aside0 (Kd.R (Kd.int .i64) 2 (w36.setCell ⟨go22, 0, none⟩ (.int .i64 ji21)) w.heap.size (fun k_ => (w.heap.size ≤ k_)) (.slice (some ⟨go22, 0, none⟩) x4_2.length co37) y170) := ⟨by (with_reducible repeat (first | apply Kd.R_alloc | apply Kd.R_drewN | apply Kd.R_drew)); exact HQ38.out⟩
                              have n1_ : Aside0 (Kd.V k57 57 (w36.setCell ⟨go22, 0, none⟩ (.int .i64 ji21)) w.heap.size (fun k_ => (P0_ k_ ∨ w.heap.size ≤ k_) ∧ some k_ ≠ (.slice (some ⟨go22, 0, none⟩) x4_2.length co37 : Value).ownBlock ∧ k_ ≠ gb158 ∧ k_ ≠ gb168) (.slice (some ad167) y162.length c16) y162) := ⟨by (with_reducible repeat (first | apply Kd.V_alloc | apply Kd.V_drewN | apply Kd.V_drew)); exact Kd.V_mono (Kd.V_far (p := ⟨go22, 0, none⟩) (Kd.V_mono HO_35.out (fun k_ hk => (⟨hk, fun e_ => hk.2.1 (by rw [e_]; rfl)⟩ : _ ∧ k_ ≠ go22))) (fun _ hk => hk.2) (.int .i64 ji21)) (fun _ hk => ⟨hk.1.1, ⟨hk.1.2.1, ⟨hk.1.2.2.1, hk.1.2.2.2⟩⟩⟩)⟩
                              have n2_ : Aside0 ((w36.setCell ⟨go22, 0, none⟩ (.int .i64 ji21)).heap[gb158]? = some (.cells #[.int .i64 ((rd_T57 l0 0).f0), .int .i64 ((rd_T57 l0 0).f1), .int .i64 ((rd_T57 l0 0).f2), .int .i64 ((rd_T57 l0 0).f3), .int .i64 ((rd_T57 l0 0).f4), .int .i64 ((rd_T57 l0 0).f5)] 57 (0, 0))) := ⟨by (with_reducible repeat (first | refine blk_drewN ?_ _ | refine blk_drew ?_ | refine blk_alloc ?_ _)); refine blk_far ?_ (by have h_ := Kd.R_ne HO_4.out BK158.out (by decide); intro e_; exact h_ (by rw [e_]; rfl)) _; (with_reducible repeat (first | refine blk_drewN ?_ _ | refine blk_drew ?_ | refine blk_alloc ?_ _)); exact BK158.out⟩
                              have n3_ : Aside0 ((w36.setCell ⟨go22, 0, none⟩ (.int .i64 ji21)).heap[gb168]? = some (.cells #[.int .i64 ((rd_T57 y162 x37_2).f0), .int .i64 ((rd_T57 y162 x37_2).f1), .int .i64 ((rd_T57 y162 x37_2).f2), .int .i64 ((rd_T57 y162 x37_2).f3), .int .i64 ((rd_T57 y162 x37_2).f4), .int .i64 ((rd_T57 y162 x37_2).f5)] 57 (0, 0))) := ⟨by (with_reducible repeat (first | refine blk_drewN ?_ _ | refine blk_drew ?_ | refine blk_alloc ?_ _)); refine blk_far ?_ (by have h_ := Kd.R_ne HO_4.out BK168.out (by decide); intro e_; exact h_ (by rw [e_]; rfl)) _; (with_reducible repeat (first | refine blk_drewN ?_ _ | refine blk_drew ?_ | refine blk_alloc ?_ _)); exact BK168.out⟩
                              have n4_ : Aside0 (Below w.heap.size w (w36.setCell ⟨go22, 0, none⟩ (.int .i64 ji21))) := ⟨by repeat (first | (with_reducible first | exact HB.out | apply below_alloc | apply pw_below_drewN | apply below_drew1 | refine below_set ?_ GB22.out | refine below_set ?_ GE158.out | refine below_set ?_ GE168.out) | exact HB.out)⟩
                              (try clear HO_4)
                              (try clear HO_35)
                              (try clear BK158)
                              (try clear BK168)
                              (try clear HB)
                              generalize (w36.setCell ⟨go22, 0, none⟩ (.int .i64 ji21)) = w39 at n0_ n1_ n2_ n3_ n4_ ⊢
                              have HO_4 := n0_
                              have HO_35 := n1_
                              have BK158 := n2_
                              have BK168 := n3_
                              have HB := n4_
                              clear n0_ n1_ n2_ n3_ n4_
                              have n0_ := Aside0.mk (Kd.R_drew HO_4.out)
                              have n1_ := Aside0.mk (Kd.V_drew HO_35.out)
                              have n2_ := Aside0.mk (blk_drew BK158.out)
                              have n3_ := Aside0.mk (blk_drew BK168.out)
                              have n4_ := Aside0.mk (below_drew1 HB.out)
                              clear HO_4
                              clear HO_35
                              clear BK158
                              clear BK168
                              clear HB
                              have HO_4 := n0_
                              have HO_35 := n1_
                              have BK158 := n2_
                              have BK168 := n3_
                              have HB := n4_
                              clear n0_ n1_ n2_ n3_ n4_
                              have p171 : 0 ≤ (1 : Int) := (by omega)
                              have q171 : 1 < (y170.length : Int) := (by have h_ : (1 : Int) < ((x4_2.length : Int) : Int) := of_decide_eq_true (by first | (with_reducible assumption) | assumption); first | (have e_ := (Kd.R_reads' HO_4.out).1; omega) | simpa only [Ny170.out, List.length_set] using h_)
                              have ql171 : ((1 : Int) < ((x4_2.length : Int) : Int)) = True := eq_true (of_decide_eq_true (by first | (with_reducible assumption) | assumption))
                              (try have qn171 : (1 < x4_2.length) = True := eq_true (by have h_ : (1 : Int) < ((x4_2.length : Int) : Int) := of_decide_eq_true (by first | (with_reducible assumption) | assumption); omega))
                              obtain ⟨ad171, e171, hx171_0⟩ := Kd.at_int (Kd.R_reads' HO_4.out).2.2 1 p171 q171
                              obtain rfl : (⟨go22, 0, none⟩ : Addr) = ad171 := (by injection e171)
                              (first | simp only [add_plain] at hx171_0 | simp only [add_at] at hx171_0 | simp only [Addr.add, Nat.zero_add] at hx171_0 | skip)
                              have qi171 : (1 < y170.length) = True := eq_true (by omega)
                              (try rw [show ((1 : Int)).toNat = 1 from rfl] at hx171_0)
                              replace p171 := eq_true p171
                              replace q171 := eq_true q171
                              have p25 : 0 ≤ (1 : Int) := (by omega)
                              have q25 : (1 : Int) < ((x4_2.length : Int) : Int) := of_decide_eq_true (by first | (with_reducible assumption) | assumption)
                              have qi25 : (1 < x4_2.length) = True := eq_true (by omega)
                              obtain ⟨hx25_0, hf25_0⟩ := Kd.R_celln 0 HO_4.out (1 : Int) p25 q25
                              (try rw [show ((1 : Int)).toNat = 1 from rfl] at hx25_0)
                              (try simp only [Nat.reduceMul, Nat.zero_mul, Nat.zero_add, Nat.reduceAdd] at hx25_0)
                              (try rw [show ((1 : Int)).toNat = 1 from rfl] at hf25_0)
                              (try simp only [Nat.reduceMul, Nat.zero_mul, Nat.zero_add, Nat.reduceAdd] at hf25_0)
                              replace p25 := eq_true p25
                              replace q25 := eq_true q25
                              have HP41 := Kd.R_putn HO_4.out (1 : Int) ji24
                              rw [← Ny172.out] at HP41
                              have HQ41 := Aside0.mk HP41
                              clear HP41
                              refine start_ (n := 12) (S := fun w' => w'.cell? ⟨gb168, 0, none⟩ = some (.int .i64 ((rd_T57 y162 x37_2).f0)) ∧ w'.cell? ⟨gb168, 1, none⟩ = some (.int .i64 ((rd_T57 y162 x37_2).f1)) ∧ w'.cell? ⟨gb168, 2, none⟩ = some (.int .i64 ((rd_T57 y162 x37_2).f2)) ∧ w'.cell? ⟨gb168, 3, none⟩ = some (.int .i64 ((rd_T57 y162 x37_2).f3)) ∧ w'.cell? ⟨gb168, 4, none⟩ = some (.int .i64 ((rd_T57 y162 x37_2).f4)) ∧ w'.cell? ⟨gb168, 5, none⟩ = some (.int .i64 ((rd_T57 y162 x37_2).f5)) ∧ w'.cell? ⟨go22, 1, none⟩ = some (.int .i64 (rd y170 1))) (ds := [11]) #[false, false, false, false, false, false, false, false, false, false, false, false] (by kernel_rfl) rfl rfl ⟨(blk_cell BK168.out 0).trans rfl, (blk_cell BK168.out 1).trans rfl, (blk_cell BK168.out 2).trans rfl, (blk_cell BK168.out 3).trans rfl, (blk_cell BK168.out 4).trans rfl, (blk_cell BK168.out 5).trans rfl, hx171_0⟩ (fun hHeld => ?_); refine with_tabW impl_Bounds.tab9 impl_Bounds.bits9 (fun HT_ HW_ => ?_)
                              generalize w39.drew = w40 at HO_4 HO_35 BK158 BK168 HB HQ38 HQ41 hf25_0 hx171_0 hx25_0 hHeld ⊢
                              refine pure_ (i := 0) (N := some 49) (v := ?_) (a' := ?_) #[true, false, false, false, false, false, false, false, false, false, false, false] rfl rfl (any_of HT_.out (by kernel_rfl)) (fun _ _ _ h => h) (Or.inl ⟨by rfl, ?_⟩) ?_ ?_
                              rotate_left
                              · intro w'
                                go_simp
                                with_reducible rfl
                              rotate_left
                              · simp only [Act.put, List.setIfInBounds_toArray, List.set_cons_zero, List.set_cons_succ, i64_w, i32_w]
                                rfl
                              refine pure_ (i := 1) (N := some 50) (v := ?_) (a' := ?_) #[true, true, false, false, false, false, false, false, false, false, false, false] rfl rfl (any_of HT_.out (by kernel_rfl)) (fun _ _ _ h => h) (Or.inl ⟨by rfl, ?_⟩) ?_ ?_
                              rotate_left
                              · intro w'
                                go_simp
                                with_reducible rfl
                              rotate_left
                              · simp only [Act.put, List.setIfInBounds_toArray, List.set_cons_zero, List.set_cons_succ, i64_w, i32_w]
                                rfl
                              refine pure_ (i := 2) (N := some 51) (v := ?_) (a' := ?_) #[true, true, true, false, false, false, false, false, false, false, false, false] rfl rfl (any_of HT_.out (by kernel_rfl)) (fun _ _ _ h => h) (Or.inl ⟨by rfl, ?_⟩) ?_ ?_
                              rotate_left
                              · intro w'
                                go_simp
                                with_reducible rfl
                              rotate_left
                              · simp only [Act.put, List.setIfInBounds_toArray, List.set_cons_zero, List.set_cons_succ, i64_w, i32_w]
                                rfl
                              refine pure_ (i := 4) (N := some 53) (v := ?_) (a' := ?_) #[true, true, true, false, true, false, false, false, false, false, false, false] rfl rfl (any_of HT_.out (by kernel_rfl)) (fun _ _ _ h => h) (Or.inl ⟨by rfl, ?_⟩) ?_ ?_
                              rotate_left
                              · intro w'
                                go_simp
                                with_reducible rfl
                              rotate_left
                              · simp only [Act.put, List.setIfInBounds_toArray, List.set_cons_zero, List.set_cons_succ, i64_w, i32_w]
                                rfl
                              refine pure_ (i := 6) (N := some 55) (v := ?_) (a' := ?_) #[true, true, true, false, true, false, true, false, false, false, false, false] rfl rfl (any_of HT_.out (by kernel_rfl)) (fun _ _ _ h => h) (Or.inl ⟨by rfl, ?_⟩) ?_ ?_
                              rotate_left
                              · intro w'
                                go_simp
                                with_reducible rfl
                              rotate_left
                              · simp only [Act.put, List.setIfInBounds_toArray, List.set_cons_zero, List.set_cons_succ, i64_w, i32_w]
                                rfl
                              refine take_ (i := 3) (N := some 52) (v := ?_) (a' := ?_) #[true, true, true, true, true, false, true, false, false, false, false, false] rfl rfl (take_ofW HT_.out HW_.out (by kernel_rfl)) (fun _ _ _ h => h) (Or.inl ⟨by rfl, ?_⟩) hHeld ?_ ?_
                              rotate_left
                              · rintro w' ⟨s0, s1, s2, s3, s4, s5, s6⟩
                                go_simp
                                with_reducible rfl
                              rotate_left
                              · simp only [Act.put, List.setIfInBounds_toArray, List.set_cons_zero, List.set_cons_succ, i64_w, i32_w]
                                rfl
                              refine take_ (i := 5) (N := some 54) (v := ?_) (a' := ?_) #[true, true, true, true, true, true, true, false, false, false, false, false] rfl rfl (take_ofW HT_.out HW_.out (by kernel_rfl)) (fun _ _ _ h => h) (Or.inl ⟨by rfl, ?_⟩) hHeld ?_ ?_
                              rotate_left
                              · rintro w' ⟨s0, s1, s2, s3, s4, s5, s6⟩
                                go_simp
                                with_reducible rfl
                              rotate_left
                              · simp only [Act.put, List.setIfInBounds_toArray, List.set_cons_zero, List.set_cons_succ, i64_w, i32_w]
                                rfl
                              refine take_ (i := 7) (N := some 56) (v := ?_) (a' := ?_) #[true, true, true, true, true, true, true, true, false, false, false, false] rfl rfl (take_ofW HT_.out HW_.out (by kernel_rfl)) (fun _ _ _ h => h) (Or.inl ⟨by rfl, ?_⟩) hHeld ?_ ?_
                              rotate_left
                              · rintro w' ⟨s0, s1, s2, s3, s4, s5, s6⟩
                                go_simp
                                with_reducible rfl
                              rotate_left
                              · simp only [Act.put, List.setIfInBounds_toArray, List.set_cons_zero, List.set_cons_succ, i64_w, i32_w]
                                rfl
                              refine pure_ (i := 8) (N := some 57) (v := ?_) (a' := ?_) #[true, true, true, true, true, true, true, true, true, false, false, false] rfl rfl (any_of HT_.out (by kernel_rfl)) (fun _ _ _ h => h) (Or.inl ⟨by rfl, ?_⟩) ?_ ?_
                              rotate_left
                              · intro w'
                                go_simp
                                with_reducible rfl
                              rotate_left
                              · simp only [Act.put, List.setIfInBounds_toArray, List.set_cons_zero, List.set_cons_succ, i64_w, i32_w]
                                rfl
                              refine pure_ (i := 9) (N := some 58) (v := ?_) (a' := ?_) #[true, true, true, true, true, true, true, true, true, true, false, false] rfl rfl (any_of HT_.out (by kernel_rfl)) (fun _ _ _ h => h) (Or.inl ⟨by rfl, ?_⟩) ?_ ?_
                              rotate_left
                              · intro w'
                                go_simp
                                with_reducible rfl
                              rotate_left
                              · simp only [Act.put, List.setIfInBounds_toArray, List.set_cons_zero, List.set_cons_succ, i64_w, i32_w]
                                rfl
                              refine pure_ (i := 10) (N := some 59) (v := ?_) (a' := ?_) #[true, true, true, true, true, true, true, true, true, true, true, false] rfl rfl (any_of HT_.out (by kernel_rfl)) (fun _ _ _ h => h) (Or.inl ⟨by rfl, ?_⟩) ?_ ?_
                              rotate_left
                              · intro w'
                                go_simp
                                with_reducible rfl
                              rotate_left
                              · simp only [Act.put, List.setIfInBounds_toArray, List.set_cons_zero, List.set_cons_succ, i64_w, i32_w]
                                rfl
                              refine last_ (i := 11) (N := none) #[true, true, true, true, true, true, true, true, true, true, true, true] rfl rfl (one_of HT_.out (by kernel_rfl)) (by decide) (fun K hK => ?_)
                              refine skip_ (w1 := ?_) (by rfl) rfl ?_ ?_
                              rotate_left
                              · go_simp
                                rfl
                              refine hK.out _ _ ?_
                              clear hK K
                              refine done_ (done_of HT_.out (by kernel_rfl)) ?_
                              try go_wp2
                              have n0_ : Aside0 (Kd.R (Kd.int .i64) 2 (w40.setCell ⟨go22, 1, none⟩ (.int .i64 ji24)) w.heap.size (fun k_ => (w.heap.size ≤ k_)) (.slice (some ⟨go22, 0, none⟩) x4_2.length co37) y172) := ⟨by (with_reducible repeat (first | apply Kd.R_alloc | apply Kd.R_drewN | apply Kd.R_drew)); exact HQ41.out⟩
                              have n1_ : Aside0 (Kd.V k57 57 (w40.setCell ⟨go22, 1, none⟩ (.int .i64 ji24)) w.heap.size (fun k_ => (P0_ k_ ∨ w.heap.size ≤ k_) ∧ some k_ ≠ (.slice (some ⟨go22, 0, none⟩) x4_2.length co37 : Value).ownBlock ∧ k_ ≠ gb158 ∧ k_ ≠ gb168) (.slice (some ad167) y162.length c16) y162) := ⟨by (with_reducible repeat (first | apply Kd.V_alloc | apply Kd.V_drewN | apply Kd.V_drew)); exact Kd.V_mono (Kd.V_far (p := ⟨go22, 1, none⟩) (Kd.V_mono HO_35.out (fun k_ hk => (⟨hk, fun e_ => hk.2.1 (by rw [e_]; rfl)⟩ : _ ∧ k_ ≠ go22))) (fun _ hk => hk.2) (.int .i64 ji24)) (fun _ hk => ⟨hk.1.1, ⟨hk.1.2.1, ⟨hk.1.2.2.1, hk.1.2.2.2⟩⟩⟩)⟩
                              have n2_ : Aside0 ((w40.setCell ⟨go22, 1, none⟩ (.int .i64 ji24)).heap[gb158]? = some (.cells #[.int .i64 ((rd_T57 l0 0).f0), .int .i64 ((rd_T57 l0 0).f1), .int .i64 ((rd_T57 l0 0).f2), .int .i64 ((rd_T57 l0 0).f3), .int .i64 ((rd_T57 l0 0).f4), .int .i64 ((rd_T57 l0 0).f5)] 57 (0, 0))) := ⟨by (with_reducible repeat (first | refine blk_drewN ?_ _ | refine blk_drew ?_ | refine blk_alloc ?_ _)); refine blk_far ?_ (by have h_ := Kd.R_ne HO_4.out BK158.out (by decide); intro e_; exact h_ (by rw [e_]; rfl)) _; (with_reducible repeat (first | refine blk_drewN ?_ _ | refine blk_drew ?_ | refine blk_alloc ?_ _)); exact BK158.out⟩
                              have n3_ : Aside0 ((w40.setCell ⟨go22, 1, none⟩ (.int .i64 ji24)).heap[gb168]? = some (.cells #[.int .i64 ((rd_T57 y162 x37_2).f0), .int .i64 ((rd_T57 y162 x37_2).f1), .int .i64 ((rd_T57 y162 x37_2).f2), .int .i64 ((rd_T57 y162 x37_2).f3), .int .i64 ((rd_T57 y162 x37_2).f4), .int .i64 ((rd_T57 y162 x37_2).f5)] 57 (0, 0))) := ⟨by (with_reducible repeat (first | refine blk_drewN ?_ _ | refine blk_drew ?_ | refine blk_alloc ?_ _)); refine blk_far ?_ (by have h_ := Kd.R_ne HO_4.out BK168.out (by decide); intro e_; exact h_ (by rw [e_]; rfl)) _; (with_reducible repeat (first | refine blk_drewN ?_ _ | refine blk_drew ?_ | refine blk_alloc ?_ _)); exact BK168.out⟩
                              have n4_ : Aside0 (Below w.heap.size w (w40.setCell ⟨go22, 1, none⟩ (.int .i64 ji24))) := ⟨by repeat (first | (with_reducible first | exact HB.out | apply below_alloc | apply pw_below_drewN | apply below_drew1 | refine below_set ?_ GB22.out | refine below_set ?_ GE158.out | refine below_set ?_ GE168.out) | exact HB.out)⟩
                              (try clear HO_4)
                              (try clear HO_35)
                              (try clear BK158)
                              (try clear BK168)
                              (try clear HB)
                              generalize (w40.setCell ⟨go22, 1, none⟩ (.int .i64 ji24)) = w42 at n0_ n1_ n2_ n3_ n4_ ⊢
                              have HO_4 := n0_
                              have HO_35 := n1_
                              have BK158 := n2_
                              have BK168 := n3_
                              have HB := n4_
                              clear n0_ n1_ n2_ n3_ n4_
                              have n0_ := Aside0.mk (Kd.R_drew HO_4.out)
                              have n1_ := Aside0.mk (Kd.V_drew HO_35.out)
                              have n2_ := Aside0.mk (blk_drew BK158.out)
                              have n3_ := Aside0.mk (blk_drew BK168.out)
                              have n4_ := Aside0.mk (below_drew1 HB.out)
                              clear HO_4
                              clear HO_35
                              clear BK158
                              clear BK168
                              clear HB
                              have HO_4 := n0_
                              have HO_35 := n1_
                              have BK158 := n2_
                              have BK168 := n3_
                              have HB := n4_
                              clear n0_ n1_ n2_ n3_ n4_
                              have p173 : 0 ≤ (2 : Int) := (by omega)
                              have q173 : 2 < (y172.length : Int) := (by have h_ : (2 : Int) < ((x4_2.length : Int) : Int) := of_decide_eq_true (by first | (with_reducible assumption) | assumption); first | (have e_ := (Kd.R_reads' HO_4.out).1; omega) | simpa only [Ny170.out, Ny172.out, List.length_set] using h_)
                              have ql173 : ((2 : Int) < ((x4_2.length : Int) : Int)) = True := eq_true (of_decide_eq_true (by first | (with_reducible assumption) | assumption))
                              (try have qn173 : (2 < x4_2.length) = True := eq_true (by have h_ : (2 : Int) < ((x4_2.length : Int) : Int) := of_decide_eq_true (by first | (with_reducible assumption) | assumption); omega))
                              obtain ⟨ad173, e173, hx173_0⟩ := Kd.at_int (Kd.R_reads' HO_4.out).2.2 2 p173 q173
                              obtain rfl : (⟨go22, 0, none⟩ : Addr) = ad173 := (by injection e173)
                              (first | simp only [add_plain] at hx173_0 | simp only [add_at] at hx173_0 | simp only [Addr.add, Nat.zero_add] at hx173_0 | skip)
                              have qi173 : (2 < y172.length) = True := eq_true (by omega)
                              (try rw [show ((2 : Int)).toNat = 2 from rfl] at hx173_0)
                              replace p173 := eq_true p173
                              replace q173 := eq_true q173
                              have p28 : 0 ≤ (2 : Int) := (by omega)
                              have q28 : (2 : Int) < ((x4_2.length : Int) : Int) := of_decide_eq_true (by first | (with_reducible assumption) | assumption)
                              have qi28 : (2 < x4_2.length) = True := eq_true (by omega)
                              obtain ⟨hx28_0, hf28_0⟩ := Kd.R_celln 0 HO_4.out (2 : Int) p28 q28
                              (try rw [show ((2 : Int)).toNat = 2 from rfl] at hx28_0)
                              (try simp only [Nat.reduceMul, Nat.zero_mul, Nat.zero_add, Nat.reduceAdd] at hx28_0)
                              (try rw [show ((2 : Int)).toNat = 2 from rfl] at hf28_0)
                              (try simp only [Nat.reduceMul, Nat.zero_mul, Nat.zero_add, Nat.reduceAdd] at hf28_0)
                              replace p28 := eq_true p28
                              replace q28 := eq_true q28
                              have HP44 := Kd.R_putn HO_4.out (2 : Int) ji27
                              rw [← Ny174.out] at HP44
                              have HQ44 := Aside0.mk HP44
                              clear HP44
                              refine start_ (n := 12) (S := fun w' => w'.cell? ⟨gb168, 0, none⟩ = some (.int .i64 ((rd_T57 y162 x37_2).f0)) ∧ w'.cell? ⟨gb168, 1, none⟩ = some (.int .i64 ((rd_T57 y162 x37_2).f1)) ∧ w'.cell? ⟨gb168, 2, none⟩ = some (.int .i64 ((rd_T57 y162 x37_2).f2)) ∧ w'.cell? ⟨gb168, 3, none⟩ = some (.int .i64 ((rd_T57 y162 x37_2).f3)) ∧ w'.cell? ⟨gb168, 4, none⟩ = some (.int .i64 ((rd_T57 y162 x37_2).f4)) ∧ w'.cell? ⟨gb168, 5, none⟩ = some (.int .i64 ((rd_T57 y162 x37_2).f5)) ∧ w'.cell? ⟨go22, 2, none⟩ = some (.int .i64 (rd y172 2))) (ds := [11]) #[false, false, false, false, false, false, false, false, false, false, false, false] (by kernel_rfl) rfl rfl ⟨(blk_cell BK168.out 0).trans rfl, (blk_cell BK168.out 1).trans rfl, (blk_cell BK168.out 2).trans rfl, (blk_cell BK168.out 3).trans rfl, (blk_cell BK168.out 4).trans rfl, (blk_cell BK168.out 5).trans rfl, hx173_0⟩ (fun hHeld => ?_); refine with_tabW impl_Bounds.tab10 impl_Bounds.bits10 (fun HT_ HW_ => ?_)
                              generalize w42.drew = w43 at HO_4 HO_35 BK158 BK168 HB HQ41 HQ44 hf28_0 hx173_0 hx28_0 hHeld ⊢
                              refine pure_ (i := 0) (N := some 60) (v := ?_) (a' := ?_) #[true, false, false, false, false, false, false, false, false, false, false, false] rfl rfl (any_of HT_.out (by kernel_rfl)) (fun _ _ _ h => h) (Or.inl ⟨by rfl, ?_⟩) ?_ ?_
                              rotate_left
                              · intro w'
                                go_simp
                                with_reducible rfl
                              rotate_left
                              · simp only [Act.put, List.setIfInBounds_toArray, List.set_cons_zero, List.set_cons_succ, i64_w, i32_w]
                                rfl
                              refine pure_ (i := 1) (N := some 61) (v := ?_) (a' := ?_) #[true, true, false, false, false, false, false, false, false, false, false, false] rfl rfl (any_of HT_.out (by kernel_rfl)) (fun _ _ _ h => h) (Or.inl ⟨by rfl, ?_⟩) ?_ ?_
                              rotate_left
                              · intro w'
                                go_simp
                                with_reducible rfl
                              rotate_left
                              · simp only [Act.put, List.setIfInBounds_toArray, List.set_cons_zero, List.set_cons_succ, i64_w, i32_w]
                                rfl
                              refine pure_ (i := 2) (N := some 62) (v := ?_) (a' := ?_) #[true, true, true, false, false, false, false, false, false, false, false, false] rfl rfl (any_of HT_.out (by kernel_rfl)) (fun _ _ _ h => h) (Or.inl ⟨by rfl, ?_⟩) ?_ ?_
                              rotate_left
                              · intro w'
                                go_simp
                                with_reducible rfl
                              rotate_left
                              · simp only [Act.put, List.setIfInBounds_toArray, List.set_cons_zero, List.set_cons_succ, i64_w, i32_w]
                                rfl
                              refine pure_ (i := 4) (N := some 64) (v := ?_) (a' := ?_) #[true, true, true, false, true, false, false, false, false, false, false, false] rfl rfl (any_of HT_.out (by kernel_rfl)) (fun _ _ _ h => h) (Or.inl ⟨by rfl, ?_⟩) ?_ ?_
                              rotate_left
                              · intro w'
                                go_simp
                                with_reducible rfl
                              rotate_left
                              · simp only [Act.put, List.setIfInBounds_toArray, List.set_cons_zero, List.set_cons_succ, i64_w, i32_w]
                                rfl
                              refine pure_ (i := 6) (N := some 66) (v := ?_) (a' := ?_) #[true, true, true, false, true, false, true, false, false, false, false, false] rfl rfl (any_of HT_.out (by kernel_rfl)) (fun _ _ _ h => h) (Or.inl ⟨by rfl, ?_⟩) ?_ ?_
                              rotate_left
                              · intro w'
                                go_simp
                                with_reducible rfl
                              rotate_left
                              · simp only [Act.put, List.setIfInBounds_toArray, List.set_cons_zero, List.set_cons_succ, i64_w, i32_w]
                                rfl
                              refine take_ (i := 3) (N := some 63) (v := ?_) (a' := ?_) #[true, true, true, true, true, false, true, false, false, false, false, false] rfl rfl (take_ofW HT_.out HW_.out (by kernel_rfl)) (fun _ _ _ h => h) (Or.inl ⟨by rfl, ?_⟩) hHeld ?_ ?_
                              rotate_left
                              · rintro w' ⟨s0, s1, s2, s3, s4, s5, s6⟩
                                go_simp
                                with_reducible rfl
                              rotate_left
                              · simp only [Act.put, List.setIfInBounds_toArray, List.set_cons_zero, List.set_cons_succ, i64_w, i32_w]
                                rfl
                              refine take_ (i := 5) (N := some 65) (v := ?_) (a' := ?_) #[true, true, true, true, true, true, true, false, false, false, false, false] rfl rfl (take_ofW HT_.out HW_.out (by kernel_rfl)) (fun _ _ _ h => h) (Or.inl ⟨by rfl, ?_⟩) hHeld ?_ ?_
                              rotate_left
                              · rintro w' ⟨s0, s1, s2, s3, s4, s5, s6⟩
                                go_simp
                                with_reducible rfl
                              rotate_left
                              · simp only [Act.put, List.setIfInBounds_toArray, List.set_cons_zero, List.set_cons_succ, i64_w, i32_w]
                                rfl
                              refine take_ (i := 7) (N := some 67) (v := ?_) (a' := ?_) #[true, true, true, true, true, true, true, true, false, false, false, false] rfl rfl (take_ofW HT_.out HW_.out (by kernel_rfl)) (fun _ _ _ h => h) (Or.inl ⟨by rfl, ?_⟩) hHeld ?_ ?_
                              rotate_left
                              · rintro w' ⟨s0, s1, s2, s3, s4, s5, s6⟩
                                go_simp
                                with_reducible rfl
                              rotate_left
                              · simp only [Act.put, List.setIfInBounds_toArray, List.set_cons_zero, List.set_cons_succ, i64_w, i32_w]
                                rfl
                              refine pure_ (i := 8) (N := some 68) (v := ?_) (a' := ?_) #[true, true, true, true, true, true, true, true, true, false, false, false] rfl rfl (any_of HT_.out (by kernel_rfl)) (fun _ _ _ h => h) (Or.inl ⟨by rfl, ?_⟩) ?_ ?_
                              rotate_left
                              · intro w'
                                go_simp
                                with_reducible rfl
                              rotate_left
                              · simp only [Act.put, List.setIfInBounds_toArray, List.set_cons_zero, List.set_cons_succ, i64_w, i32_w]
                                rfl
                              refine pure_ (i := 9) (N := some 69) (v := ?_) (a' := ?_) #[true, true, true, true, true, true, true, true, true, true, false, false] rfl rfl (any_of HT_.out (by kernel_rfl)) (fun _ _ _ h => h) (Or.inl ⟨by rfl, ?_⟩) ?_ ?_
                              rotate_left
                              · intro w'
                                go_simp
                                with_reducible rfl
                              rotate_left
                              · simp only [Act.put, List.setIfInBounds_toArray, List.set_cons_zero, List.set_cons_succ, i64_w, i32_w]
                                rfl
                              refine pure_ (i := 10) (N := some 70) (v := ?_) (a' := ?_) #[true, true, true, true, true, true, true, true, true, true, true, false] rfl rfl (any_of HT_.out (by kernel_rfl)) (fun _ _ _ h => h) (Or.inl ⟨by rfl, ?_⟩) ?_ ?_
                              rotate_left
                              · intro w'
                                go_simp
                                with_reducible rfl
                              rotate_left
                              · simp only [Act.put, List.setIfInBounds_toArray, List.set_cons_zero, List.set_cons_succ, i64_w, i32_w]
                                rfl
                              refine last_ (i := 11) (N := none) #[true, true, true, true, true, true, true, true, true, true, true, true] rfl rfl (one_of HT_.out (by kernel_rfl)) (by decide) (fun K hK => ?_)
                              refine skip_ (w1 := ?_) (by rfl) rfl ?_ ?_
                              rotate_left
                              · go_simp
                                rfl
                              refine hK.out _ _ ?_
                              clear hK K
                              refine done_ (done_of HT_.out (by kernel_rfl)) ?_
                              try go_wp2
                              have n0_ : Aside0 (Kd.R (Kd.int .i64) 2 (w43.setCell ⟨go22, 2, none⟩ (.int .i64 ji27)) w.heap.size (fun k_ => (w.heap.size ≤ k_)) (.slice (some ⟨go22, 0, none⟩) x4_2.length co37) y174) := ⟨by (with_reducible repeat (first | apply Kd.R_alloc | apply Kd.R_drewN | apply Kd.R_drew)); exact HQ44.out⟩
                              have n1_ : Aside0 (Kd.V k57 57 (w43.setCell ⟨go22, 2, none⟩ (.int .i64 ji27)) w.heap.size (fun k_ => (P0_ k_ ∨ w.heap.size ≤ k_) ∧ some k_ ≠ (.slice (some ⟨go22, 0, none⟩) x4_2.length co37 : Value).ownBlock ∧ k_ ≠ gb158 ∧ k_ ≠ gb168) (.slice (some ad167) y162.length c16) y162) := ⟨by (with_reducible repeat (first | apply Kd.V_alloc | apply Kd.V_drewN | apply Kd.V_drew)); exact Kd.V_mono (Kd.V_far (p := ⟨go22, 2, none⟩) (Kd.V_mono HO_35.out (fun k_ hk => (⟨hk, fun e_ => hk.2.1 (by rw [e_]; rfl)⟩ : _ ∧ k_ ≠ go22))) (fun _ hk => hk.2) (.int .i64 ji27)) (fun _ hk => ⟨hk.1.1, ⟨hk.1.2.1, ⟨hk.1.2.2.1, hk.1.2.2.2⟩⟩⟩)⟩
                              have n2_ : Aside0 ((w43.setCell ⟨go22, 2, none⟩ (.int .i64 ji27)).heap[gb158]? = some (.cells #[.int .i64 ((rd_T57 l0 0).f0), .int .i64 ((rd_T57 l0 0).f1), .int .i64 ((rd_T57 l0 0).f2), .int .i64 ((rd_T57 l0 0).f3), .int .i64 ((rd_T57 l0 0).f4), .int .i64 ((rd_T57 l0 0).f5)] 57 (0, 0))) := ⟨by (with_reducible repeat (first | refine blk_drewN ?_ _ | refine blk_drew ?_ | refine blk_alloc ?_ _)); refine blk_far ?_ (by have h_ := Kd.R_ne HO_4.out BK158.out (by decide); intro e_; exact h_ (by rw [e_]; rfl)) _; (with_reducible repeat (first | refine blk_drewN ?_ _ | refine blk_drew ?_ | refine blk_alloc ?_ _)); exact BK158.out⟩
                              have n3_ : Aside0 ((w43.setCell ⟨go22, 2, none⟩ (.int .i64 ji27)).heap[gb168]? = some (.cells #[.int .i64 ((rd_T57 y162 x37_2).f0), .int .i64 ((rd_T57 y162 x37_2).f1), .int .i64 ((rd_T57 y162 x37_2).f2), .int .i64 ((rd_T57 y162 x37_2).f3), .int .i64 ((rd_T57 y162 x37_2).f4), .int .i64 ((rd_T57 y162 x37_2).f5)] 57 (0, 0))) := ⟨by (with_reducible repeat (first | refine blk_drewN ?_ _ | refine blk_drew ?_ | refine blk_alloc ?_ _)); refine blk_far ?_ (by have h_ := Kd.R_ne HO_4.out BK168.out (by decide); intro e_; exact h_ (by rw [e_]; rfl)) _; (with_reducible repeat (first | refine blk_drewN ?_ _ | refine blk_drew ?_ | refine blk_alloc ?_ _)); exact BK168.out⟩
                              have n4_ : Aside0 (Below w.heap.size w (w43.setCell ⟨go22, 2, none⟩ (.int .i64 ji27))) := ⟨by repeat (first | (with_reducible first | exact HB.out | apply below_alloc | apply pw_below_drewN | apply below_drew1 | refine below_set ?_ GB22.out | refine below_set ?_ GE158.out | refine below_set ?_ GE168.out) | exact HB.out)⟩
                              (try clear HO_4)
                              (try clear HO_35)
                              (try clear BK158)
                              (try clear BK168)
                              (try clear HB)
                              generalize (w43.setCell ⟨go22, 2, none⟩ (.int .i64 ji27)) = w45 at n0_ n1_ n2_ n3_ n4_ ⊢
                              have HO_4 := n0_
                              have HO_35 := n1_
                              have BK158 := n2_
                              have BK168 := n3_
                              have HB := n4_
                              clear n0_ n1_ n2_ n3_ n4_
                              have n0_ := Aside0.mk (Kd.R_drew HO_4.out)
                              have n1_ := Aside0.mk (Kd.V_drew HO_35.out)
                              have n2_ := Aside0.mk (blk_drew BK158.out)
                              have n3_ := Aside0.mk (blk_drew BK168.out)
                              have n4_ := Aside0.mk (below_drew1 HB.out)
                              clear HO_4
                              clear HO_35
                              clear BK158
                              clear BK168
                              clear HB
                              have HO_4 := n0_
                              have HO_35 := n1_
                              have BK158 := n2_
                              have BK168 := n3_
                              have HB := n4_
                              clear n0_ n1_ n2_ n3_ n4_
                              have p175 : 0 ≤ (3 : Int) := (by omega)
                              have q175 : 3 < (y174.length : Int) := (by have h_ : (3 : Int) < ((x4_2.length : Int) : Int) := of_decide_eq_true (by first | (with_reducible assumption) | assumption); first | (have e_ := (Kd.R_reads' HO_4.out).1; omega) | simpa only [Ny170.out, Ny172.out, Ny174.out, List.length_set] using h_)
                              have ql175 : ((3 : Int) < ((x4_2.length : Int) : Int)) = True := eq_true (of_decide_eq_true (by first | (with_reducible assumption) | assumption))
                              (try have qn175 : (3 < x4_2.length) = True := eq_true (by have h_ : (3 : Int) < ((x4_2.length : Int) : Int) := of_decide_eq_true (by first | (with_reducible assumption) | assumption); omega))
                              obtain ⟨ad175, e175, hx175_0⟩ := Kd.at_int (Kd.R_reads' HO_4.out).2.2 3 p175 q175
                              obtain rfl : (⟨go22, 0, none⟩ : Addr) = ad175 := (by injection e175)
                              (first | simp only [add_plain] at hx175_0 | simp only [add_at] at hx175_0 | simp only [Addr.add, Nat.zero_add] at hx175_0 | skip)
                              have qi175 : (3 < y174.length) = True := eq_true (by omega)
                              (try rw [show ((3 : Int)).toNat = 3 from rfl] at hx175_0)
                              replace p175 := eq_true p175
                              replace q175 := eq_true q175
                              have p31 : 0 ≤ (3 : Int) := (by omega)
                              have q31 : (3 : Int) < ((x4_2.length : Int) : Int) := of_decide_eq_true (by first | (with_reducible assumption) | assumption)
                              have qi31 : (3 < x4_2.length) = True := eq_true (by omega)
                              obtain ⟨hx31_0, hf31_0⟩ := Kd.R_celln 0 HO_4.out (3 : Int) p31 q31
                              (try rw [show ((3 : Int)).toNat = 3 from rfl] at hx31_0)
                              (try simp only [Nat.reduceMul, Nat.zero_mul, Nat.zero_add, Nat.reduceAdd] at hx31_0)
                              (try rw [show ((3 : Int)).toNat = 3 from rfl] at hf31_0)
                              (try simp only [Nat.reduceMul, Nat.zero_mul, Nat.zero_add, Nat.reduceAdd] at hf31_0)
                              replace p31 := eq_true p31
                              replace q31 := eq_true q31
                              have HP47 := Kd.R_putn HO_4.out (3 : Int) ji30
                              rw [← Ny176.out] at HP47
                              have HQ47 := Aside0.mk HP47
                              clear HP47
                              refine start_ (n := 9) (S := fun w' => w'.cell? ⟨gb168, 0, none⟩ = some (.int .i64 ((rd_T57 y162 x37_2).f0)) ∧ w'.cell? ⟨gb168, 1, none⟩ = some (.int .i64 ((rd_T57 y162 x37_2).f1)) ∧ w'.cell? ⟨gb168, 2, none⟩ = some (.int .i64 ((rd_T57 y162 x37_2).f2)) ∧ w'.cell? ⟨gb168, 3, none⟩ = some (.int .i64 ((rd_T57 y162 x37_2).f3)) ∧ w'.cell? ⟨gb168, 4, none⟩ = some (.int .i64 ((rd_T57 y162 x37_2).f4)) ∧ w'.cell? ⟨gb168, 5, none⟩ = some (.int .i64 ((rd_T57 y162 x37_2).f5)) ∧ w'.cell? ⟨go22, 3, none⟩ = some (.int .i64 (rd y174 3))) (ds := [8]) #[false, false, false, false, false, false, false, false, false] (by kernel_rfl) rfl rfl ⟨(blk_cell BK168.out 0).trans rfl, (blk_cell BK168.out 1).trans rfl, (blk_cell BK168.out 2).trans rfl, (blk_cell BK168.out 3).trans rfl, (blk_cell BK168.out 4).trans rfl, (blk_cell BK168.out 5).trans rfl, hx175_0⟩ (fun hHeld => ?_); refine with_tabW impl_Bounds.tab11 impl_Bounds.bits11 (fun HT_ HW_ => ?_)
                              generalize w45.drew = w46 at HO_4 HO_35 BK158 BK168 HB HQ44 HQ47 hf31_0 hx175_0 hx31_0 hHeld ⊢
                              refine pure_ (i := 0) (N := some 71) (v := ?_) (a' := ?_) #[true, false, false, false, false, false, false, false, false] rfl rfl (any_of HT_.out (by kernel_rfl)) (fun _ _ _ h => h) (Or.inl ⟨by rfl, ?_⟩) ?_ ?_
                              rotate_left
                              · intro w'
                                go_simp
                                with_reducible rfl
                              rotate_left
                              · simp only [Act.put, List.setIfInBounds_toArray, List.set_cons_zero, List.set_cons_succ, i64_w, i32_w]
                                rfl
                              refine pure_ (i := 1) (N := some 72) (v := ?_) (a' := ?_) #[true, true, false, false, false, false, false, false, false] rfl rfl (any_of HT_.out (by kernel_rfl)) (fun _ _ _ h => h) (Or.inl ⟨by rfl, ?_⟩) ?_ ?_
                              rotate_left
                              · intro w'
                                go_simp
                                with_reducible rfl
                              rotate_left
                              · simp only [Act.put, List.setIfInBounds_toArray, List.set_cons_zero, List.set_cons_succ, i64_w, i32_w]
                                rfl
                              refine pure_ (i := 2) (N := some 73) (v := ?_) (a' := ?_) #[true, true, true, false, false, false, false, false, false] rfl rfl (any_of HT_.out (by kernel_rfl)) (fun _ _ _ h => h) (Or.inl ⟨by rfl, ?_⟩) ?_ ?_
                              rotate_left
                              · intro w'
                                go_simp
                                with_reducible rfl
                              rotate_left
                              · simp only [Act.put, List.setIfInBounds_toArray, List.set_cons_zero, List.set_cons_succ, i64_w, i32_w]
                                rfl
                              refine pure_ (i := 4) (N := some 75) (v := ?_) (a' := ?_) #[true, true, true, false, true, false, false, false, false] rfl rfl (any_of HT_.out (by kernel_rfl)) (fun _ _ _ h => h) (Or.inl ⟨by rfl, ?_⟩) ?_ ?_
                              rotate_left
                              · intro w'
                                go_simp
                                with_reducible rfl
                              rotate_left
                              · simp only [Act.put, List.setIfInBounds_toArray, List.set_cons_zero, List.set_cons_succ, i64_w, i32_w]
                                rfl
                              refine take_ (i := 3) (N := some 74) (v := ?_) (a' := ?_) #[true, true, true, true, true, false, false, false, false] rfl rfl (take_ofW HT_.out HW_.out (by kernel_rfl)) (fun _ _ _ h => h) (Or.inl ⟨by rfl, ?_⟩) hHeld ?_ ?_
                              rotate_left
                              · rintro w' ⟨s0, s1, s2, s3, s4, s5, s6⟩
                                go_simp
                                with_reducible rfl
                              rotate_left
                              · simp only [Act.put, List.setIfInBounds_toArray, List.set_cons_zero, List.set_cons_succ, i64_w, i32_w]
                                rfl
                              refine take_ (i := 5) (N := some 76) (v := ?_) (a' := ?_) #[true, true, true, true, true, true, false, false, false] rfl rfl (take_ofW HT_.out HW_.out (by kernel_rfl)) (fun _ _ _ h => h) (Or.inl ⟨by rfl, ?_⟩) hHeld ?_ ?_
                              rotate_left
                              · rintro w' ⟨s0, s1, s2, s3, s4, s5, s6⟩
                                go_simp
                                with_reducible rfl
                              rotate_left
                              · simp only [Act.put, List.setIfInBounds_toArray, List.set_cons_zero, List.set_cons_succ, i64_w, i32_w]
                                rfl
                              refine pure_ (i := 6) (N := some 77) (v := ?_) (a' := ?_) #[true, true, true, true, true, true, true, false, false] rfl rfl (any_of HT_.out (by kernel_rfl)) (fun _ _ _ h => h) (Or.inl ⟨by rfl, ?_⟩) ?_ ?_
                              rotate_left
                              · intro w'
                                go_simp
                                with_reducible rfl
                              rotate_left
                              · simp only [Act.put, List.setIfInBounds_toArray, List.set_cons_zero, List.set_cons_succ, i64_w, i32_w]
                                rfl
                              refine pure_ (i := 7) (N := some 78) (v := ?_) (a' := ?_) #[true, true, true, true, true, true, true, true, false] rfl rfl (any_of HT_.out (by kernel_rfl)) (fun _ _ _ h => h) (Or.inl ⟨by rfl, ?_⟩) ?_ ?_
                              rotate_left
                              · intro w'
                                go_simp
                                with_reducible rfl
                              rotate_left
                              · simp only [Act.put, List.setIfInBounds_toArray, List.set_cons_zero, List.set_cons_succ, i64_w, i32_w]
                                rfl
                              refine last_ (i := 8) (N := none) #[true, true, true, true, true, true, true, true, true] rfl rfl (one_of HT_.out (by kernel_rfl)) (by decide) (fun K hK => ?_)
                              refine skip_ (w1 := ?_) (by rfl) rfl ?_ ?_
                              rotate_left
                              · go_simp
                                rfl
                              refine hK.out _ _ ?_
                              clear hK K
                              refine done_ (done_of HT_.out (by kernel_rfl)) ?_
                              try go_wp2
                              go_roundg k2
                              case measure => have := HJ1.out; have := HK2.out; omega
                              case rel => exact ⟨(y176), (wrap64 (x37_2 + 1)), (by first | rfl | (simp; done) | (simp [*]; done)), H', ⟨by have := HJ1.out; have := HK2.out; omega⟩, ⟨by (with_reducible repeat (first | apply Kd.R_alloc | apply Kd.R_drewN | apply Kd.R_drew)); exact HQ47.out⟩, ⟨by (with_reducible repeat (first | apply Kd.V_alloc | apply Kd.V_drewN | apply Kd.V_drew)); exact Kd.V_mono (Kd.V_far (p := ⟨go22, 3, none⟩) (Kd.V_mono HO_35.out (fun k_ hk => (⟨hk, fun e_ => hk.2.1 (by rw [e_]; rfl)⟩ : _ ∧ k_ ≠ go22))) (fun _ hk => hk.2) (.int .i64 ji30)) (fun _ hk => ⟨hk.1.1, ⟨hk.1.2.1, hk.1.2.2.1⟩⟩)⟩, ⟨by (with_reducible repeat (first | refine blk_drewN ?_ _ | refine blk_drew ?_ | refine blk_alloc ?_ _)); refine blk_far ?_ (by have h_ := Kd.R_ne HO_4.out BK158.out (by decide); intro e_; exact h_ (by rw [e_]; rfl)) _; (with_reducible repeat (first | refine blk_drewN ?_ _ | refine blk_drew ?_ | refine blk_alloc ?_ _)); exact BK158.out⟩, ⟨by repeat (first | (with_reducible first | exact HB.out | apply below_alloc | apply pw_below_drewN | apply below_drew1 | refine below_set ?_ GB22.out | refine below_set ?_ GE158.out | refine below_set ?_ GE168.out) | exact HB.out)⟩⟩
                            · rw [if_neg c29] at H
                              exact absurd H (by simp)
                          · rw [if_neg c26] at H
                            exact absurd H (by simp)
                        · rw [if_neg c23] at H
                          exact absurd H (by simp)
                      · rw [if_neg c20] at H
                        exact absurd H (by simp)
                    · rw [if_neg c19] at H
                      exact absurd H (by simp)
                  · rw [if_neg c18] at H
                    exact absurd H (by simp)
                · rw [if_neg c17] at H
                  have c17b0 : decide (x37_2 < (y162.length : Int)) = false := decide_eq_false c17
                  clear c17
                  obtain rfl := Option.some.inj H
                  go_wp2
                  go_ret
                  exact ⟨_, by first | rfl | (simp [errW_none, errW_some] <;> rfl) | (simp [*, errW_none, errW_some] <;> rfl), by (with_reducible repeat (first | apply Kd.R_alloc | apply Kd.R_drewN | apply Kd.R_drew)); exact HO_4.out, by repeat (first | (with_reducible first | exact HB.out | apply below_alloc | apply pw_below_drewN | apply below_drew1 | refine below_set ?_ GE158.out) | exact HB.out)⟩
          · rw [if_neg c11] at H
            exact absurd H (by simp)
        · rw [if_neg c10] at H
          exact absurd H (by simp)

end Go.Proofs.Ytabamachefgilaa.PFnExactBounds
