-- Written by this session's program over the kit's printer (wip/gen/gp.py): Lean checks it.
import Derived.Test.YtabamachefgilaaPFnExactBoundsx0
import Derived.Test.YtabamachefgilaaPFnExactBoundsx1
namespace Go.Proofs.Ytabamachefgilaa.PFnExactBounds
open Go.RowKit Go.Proofs.YtabamachefgilaaW.PrintWords Go.Proofs.YtabamachefgilaaW.PrintLast Go.Proofs.YtabamachefgilaaW.PrintMore
attribute [local go_sem] max2_int min2_int max_two min_two max_three min_three max_four min_four   -- for this text's walks alone
set_option linter.unusedVariables false
set_option linter.unusedSimpArgs false

/-! ### spec_Bounds: function 46 -/
theorem spec_Bounds.setDrewn_ (w : World) (n : Nat) (a : Addr) (v : Value) : (w.drewN n).setCell a v = (w.setCell a v).drewN n := rfl
theorem spec_Bounds.drewnCell_ {W V : World} {n : Nat} {p : Addr} {v : Value} (h : V = W.drewN n) (hx : W.cell? p = some v) : V.cell? p = some v := by
  rw [h]
  exact hx
mutual
def spec_Bounds.j0 : Nat → List (S57) → Bool → Option (List Int)
  | 0, _, _ => none
  | k + 1, x0, x13 => if x13 = true then (some (([] : List Int))) else (if 0 < (x0.length : Int) then (spec_Bounds.l0 k x0 (([(rd_T57 x0 0).f0, wrap64 (((rd_T57 x0 0).f1) - ((rd_T57 x0 0).f5)), wrap64 (((rd_T57 x0 0).f0) + ((rd_T57 x0 0).f4)), (rd_T57 x0 0).f1] : List Int)) 1) else (none))
def spec_Bounds.l0 : Nat → List (S57) → List Int → Int → Option (List Int)
  | 0, _, _, _ => none
  | k + 1, x0, x4, x5 => if x5 < (x0.length : Int) then (if 0 ≤ x5 then (if 0 < (x4.length : Int) then (if ((rd_T57 x0 x5).f0) < (rd x4 0) then (spec_Bounds.j2 k x0 (x4.set (0 : Int).toNat ((rd_T57 x0 x5).f0)) x5 ((rd_T57 x0 x5).f0) ((rd_T57 x0 x5).f1) ((rd_T57 x0 x5).f2) ((rd_T57 x0 x5).f3) ((rd_T57 x0 x5).f4) ((rd_T57 x0 x5).f5)) else (spec_Bounds.j2 k x0 x4 x5 ((rd_T57 x0 x5).f0) ((rd_T57 x0 x5).f1) ((rd_T57 x0 x5).f2) ((rd_T57 x0 x5).f3) ((rd_T57 x0 x5).f4) ((rd_T57 x0 x5).f5))) else (none)) else (none)) else (some x4)
def spec_Bounds.j2 : Nat → List (S57) → List Int → Int → Int → Int → Int → Int → Int → Int → Option (List Int)
  | 0, _, _, _, _, _, _, _, _, _ => none
  | k + 1, x0, x4, x5, x116000, x116001, x116002, x116003, x116004, x116005 => if 1 < (x4.length : Int) then (if (wrap64 (x116001 - x116005)) < (rd x4 1) then (spec_Bounds.j3 k x0 (x4.set (1 : Int).toNat (wrap64 (x116001 - x116005))) x5 x116000 x116001 x116002 x116003 x116004 x116005) else (spec_Bounds.j3 k x0 x4 x5 x116000 x116001 x116002 x116003 x116004 x116005)) else (none)
def spec_Bounds.j3 : Nat → List (S57) → List Int → Int → Int → Int → Int → Int → Int → Int → Option (List Int)
  | 0, _, _, _, _, _, _, _, _, _ => none
  | k + 1, x0, x4, x5, x116000, x116001, x116002, x116003, x116004, x116005 => if 2 < (x4.length : Int) then (if (wrap64 (x116000 + x116004)) > (rd x4 2) then ((some (x4.set (2 : Int).toNat (wrap64 (x116000 + x116004)) : List Int)).bind fun y125 => (if 3 < (x4.length : Int) then (if x116001 > (rd y125 3) then (spec_Bounds.l0 k x0 (y125.set (3 : Int).toNat x116001) (wrap64 (x5 + 1))) else (spec_Bounds.l0 k x0 y125 (wrap64 (x5 + 1)))) else (none))) else (if 3 < (x4.length : Int) then (if x116001 > (rd x4 3) then (spec_Bounds.l0 k x0 (x4.set (3 : Int).toNat x116001) (wrap64 (x5 + 1))) else (spec_Bounds.l0 k x0 x4 (wrap64 (x5 + 1)))) else (none))) else (none)
end
def spec_Bounds.f (k : Nat) (l0 : List (S57)) : Option (List Int) := if (l0.length : Int) = 0 then (spec_Bounds.j0 k l0 true) else ((spec_l15PageOk.f k l0).bind fun t110 => (spec_Bounds.j0 k l0 (!t110)))
theorem spec_Bounds.mono_l : ∀ k, (∀ y0 y1, LeO (spec_Bounds.j0 k y0 y1) (spec_Bounds.j0 (k + 1) y0 y1)) ∧ (∀ y0 y1 y2, LeO (spec_Bounds.l0 k y0 y1 y2) (spec_Bounds.l0 (k + 1) y0 y1 y2)) ∧ (∀ y0 y1 y2 y3 y4 y5 y6 y7 y8, LeO (spec_Bounds.j2 k y0 y1 y2 y3 y4 y5 y6 y7 y8) (spec_Bounds.j2 (k + 1) y0 y1 y2 y3 y4 y5 y6 y7 y8)) ∧ (∀ y0 y1 y2 y3 y4 y5 y6 y7 y8, LeO (spec_Bounds.j3 k y0 y1 y2 y3 y4 y5 y6 y7 y8) (spec_Bounds.j3 (k + 1) y0 y1 y2 y3 y4 y5 y6 y7 y8))
  | 0 => ⟨fun _ _ r h => by simp [spec_Bounds.j0] at h, fun _ _ _ r h => by simp [spec_Bounds.l0] at h, fun _ _ _ _ _ _ _ _ _ r h => by simp [spec_Bounds.j2] at h, fun _ _ _ _ _ _ _ _ _ r h => by simp [spec_Bounds.j3] at h⟩
  | k + 1 => by
    obtain ⟨ih0, ih1, ih2, ih3⟩ := spec_Bounds.mono_l k
    refine ⟨?_, ?_, ?_, ?_⟩
    · intro y0 y1
      unfold spec_Bounds.j0
      repeat' first
      | (with_reducible exact ih0 _ _)
      | (with_reducible exact ih1 _ _ _)
      | (with_reducible exact ih2 _ _ _ _ _ _ _ _ _)
      | (with_reducible exact ih3 _ _ _ _ _ _ _ _ _)
      | (with_reducible exact spec_l15PageOk.mono _ _)
      | (with_reducible exact LeO.refl _)
      | (with_reducible exact LeO.none _)
      | (with_reducible refine LeO.ite ?_ ?_)
      | (with_reducible refine LeO.bind ?_ (fun _ => ?_))
      | exact ih0 _ _
      | exact ih1 _ _ _
      | exact ih2 _ _ _ _ _ _ _ _ _
      | exact ih3 _ _ _ _ _ _ _ _ _
      | exact spec_l15PageOk.mono _ _
      | exact LeO.none _
      | refine LeO.ite ?_ ?_
      | refine LeO.bind ?_ (fun _ => ?_)
    · intro y0 y1 y2
      unfold spec_Bounds.l0
      repeat' first
      | (with_reducible exact ih0 _ _)
      | (with_reducible exact ih1 _ _ _)
      | (with_reducible exact ih2 _ _ _ _ _ _ _ _ _)
      | (with_reducible exact ih3 _ _ _ _ _ _ _ _ _)
      | (with_reducible exact spec_l15PageOk.mono _ _)
      | (with_reducible exact LeO.refl _)
      | (with_reducible exact LeO.none _)
      | (with_reducible refine LeO.ite ?_ ?_)
      | (with_reducible refine LeO.bind ?_ (fun _ => ?_))
      | exact ih0 _ _
      | exact ih1 _ _ _
      | exact ih2 _ _ _ _ _ _ _ _ _
      | exact ih3 _ _ _ _ _ _ _ _ _
      | exact spec_l15PageOk.mono _ _
      | exact LeO.none _
      | refine LeO.ite ?_ ?_
      | refine LeO.bind ?_ (fun _ => ?_)
    · intro y0 y1 y2 y3 y4 y5 y6 y7 y8
      unfold spec_Bounds.j2
      repeat' first
      | (with_reducible exact ih0 _ _)
      | (with_reducible exact ih1 _ _ _)
      | (with_reducible exact ih2 _ _ _ _ _ _ _ _ _)
      | (with_reducible exact ih3 _ _ _ _ _ _ _ _ _)
      | (with_reducible exact spec_l15PageOk.mono _ _)
      | (with_reducible exact LeO.refl _)
      | (with_reducible exact LeO.none _)
      | (with_reducible refine LeO.ite ?_ ?_)
      | (with_reducible refine LeO.bind ?_ (fun _ => ?_))
      | exact ih0 _ _
      | exact ih1 _ _ _
      | exact ih2 _ _ _ _ _ _ _ _ _
      | exact ih3 _ _ _ _ _ _ _ _ _
      | exact spec_l15PageOk.mono _ _
      | exact LeO.none _
      | refine LeO.ite ?_ ?_
      | refine LeO.bind ?_ (fun _ => ?_)
    · intro y0 y1 y2 y3 y4 y5 y6 y7 y8
      unfold spec_Bounds.j3
      repeat' first
      | (with_reducible exact ih0 _ _)
      | (with_reducible exact ih1 _ _ _)
      | (with_reducible exact ih2 _ _ _ _ _ _ _ _ _)
      | (with_reducible exact ih3 _ _ _ _ _ _ _ _ _)
      | (with_reducible exact spec_l15PageOk.mono _ _)
      | (with_reducible exact LeO.refl _)
      | (with_reducible exact LeO.none _)
      | (with_reducible refine LeO.ite ?_ ?_)
      | (with_reducible refine LeO.bind ?_ (fun _ => ?_))
      | exact ih0 _ _
      | exact ih1 _ _ _
      | exact ih2 _ _ _ _ _ _ _ _ _
      | exact ih3 _ _ _ _ _ _ _ _ _
      | exact spec_l15PageOk.mono _ _
      | exact LeO.none _
      | refine LeO.ite ?_ ?_
      | refine LeO.bind ?_ (fun _ => ?_)
theorem spec_Bounds.mono : ∀ a0 k, LeO (spec_Bounds.f k a0) (spec_Bounds.f (k + 1) a0) := by
  intro a0 k
  obtain ⟨ih0, ih1, ih2, ih3⟩ := spec_Bounds.mono_l k
  unfold spec_Bounds.f
  repeat' first
      | (with_reducible exact ih0 _ _)
      | (with_reducible exact ih1 _ _ _)
      | (with_reducible exact ih2 _ _ _ _ _ _ _ _ _)
      | (with_reducible exact ih3 _ _ _ _ _ _ _ _ _)
      | (with_reducible exact spec_l15PageOk.mono _ _)
      | (with_reducible exact LeO.refl _)
      | (with_reducible exact LeO.none _)
      | (with_reducible refine LeO.ite ?_ ?_)
      | (with_reducible refine LeO.bind ?_ (fun _ => ?_))
      | exact ih0 _ _
      | exact ih1 _ _ _
      | exact ih2 _ _ _ _ _ _ _ _ _
      | exact ih3 _ _ _ _ _ _ _ _ _
      | exact spec_l15PageOk.mono _ _
      | exact LeO.none _
      | refine LeO.ite ?_ ?_
      | refine LeO.bind ?_ (fun _ => ?_)
set_option maxHeartbeats 8000000 in
set_option maxRecDepth 100000 in
theorem spec_Bounds.calls (k : Nat) (A0 : Option Addr) (c0 : Nat) (l0 : List (S57)) (r : List Int) (w : World) (hr0 : Kd.C k57 w A0 l0.length l0) (hc0 : l0.length ≤ c0) (h : spec_Bounds.f k l0 = some r) :
    Calls Try.prog 46 #[.slice A0 l0.length c0] w fun e w' => ∃ v0_ : Value, e = .returned (v0_) ∧ Kd.R (Kd.int .i64) 2 w' w.heap.size (fun _ => True) v0_ r ∧ Below w.heap.size w w' := by
  have hu57 := Try.underlying57
  have HR0 := Aside0.mk hr0
  have HC0 := Aside0.mk hc0
  clear hr0 hc0
  have HB := Aside0.mk (Below.refl w.heap.size w)
  have H : (if (l0.length : Int) = 0 then (spec_Bounds.j0 k l0 true) else ((spec_l15PageOk.f k l0).bind fun t110 => (spec_Bounds.j0 k l0 (!t110)))) = some r := h
  clear h
  have HC2 := Aside0.mk H
  clear H
  go_enter Try.func46, Try.ntmps46
  go_upto_region 1 with (fail)
  repeat (go_quiet (fail); go_upto_region 1 with (fail))
  go_cut [13] (fun v13 wc => ∃ (kq : Nat) (x13_1 : Bool), v13 = .bool x13_1 ∧ Aside0 (spec_Bounds.j0 kq l0 x13_1 = some r) ∧ Aside0 (kq ≤ k) ∧ Aside0 (Below w.heap.size w wc))
  case first =>
    have H := HC2.out
    clear HC2
    by_cases c3 : (l0.length : Int) = 0
    · rw [if_pos c3] at H
      have c3b0 : ((l0.length : Int) == 0) = true := beq_iff_eq.mpr c3
      have c3b1 : ((l0.length : Int) != 0) = false := bne_eq_false_iff_eq.mpr c3
      clear c3
      (first | rw [c3b0] | (simp only [i64_w, i32_w]; rw [c3b0]) | skip)
      have H' := Aside0.mk H
      clear H
      go_wp2
      repeat (go_quiet (fail); try go_wp2)
      go_meet
      case rel => exact ⟨_, (true), (by first | rfl | (simp; done) | (simp [*]; done)), H', ⟨by first | omega | exact Nat.le_refl _⟩, ⟨by repeat (first | (with_reducible first | exact HB.out | apply below_alloc | apply pw_below_drewN | apply below_drew1) | exact HB.out)⟩⟩
    · rw [if_neg c3] at H
      have c3b0 : ((l0.length : Int) == 0) = false := beq_eq_false_iff_ne.mpr c3
      have c3b1 : ((l0.length : Int) != 0) = true := bne_iff_ne.mpr c3
      have c3b2 : ¬ (l0 = []) := fun h_ => c3 (by rw [h_]; rfl)
      (first | rw [c3b0] | (simp only [i64_w, i32_w]; rw [c3b0]) | skip)
      replace H := Option.bind_eq_some_iff.mp H
      obtain ⟨t110, A40, H⟩ := H
      replace H : (spec_Bounds.j0 k l0 (!t110)) = some r := H
      have A4 := Aside0.mk A40
      clear A40
      have H' := Aside0.mk H
      clear H
      go_wp2_with (first | (go_at_call 71; (with_reducible refine (spec_l15PageOk.calls k _ _ l0 t110 _ ?side1 ?side2 A4.out).mono ?_); (case side1 => repeat (first | exact (Kd.C_below HR0.out HB.out) | (with_reducible refine Kd.C_alloc ?_ _) | (with_reducible refine Kd.C_drewN ?_ _) | (with_reducible refine Kd.C_drew ?_))); (case side2 => exact HC0.out); rintro e w5 ⟨rfl, hb⟩; have n0_ := Aside0.mk (below_step (by repeat (first | (with_reducible first | exact HB.out | apply below_alloc | apply pw_below_drewN | apply below_drew1) | exact HB.out)) hb); clear HB; have HB := n0_; clear n0_; (try clear hb); (try clear hb2); (try clear hk); (try clear hi)))
      repeat (go_quiet (first | (go_at_call 71; (with_reducible refine (spec_l15PageOk.calls k _ _ l0 t110 _ ?side1 ?side2 A4.out).mono ?_); (case side1 => repeat (first | exact (Kd.C_below HR0.out HB.out) | (with_reducible refine Kd.C_alloc ?_ _) | (with_reducible refine Kd.C_drewN ?_ _) | (with_reducible refine Kd.C_drew ?_))); (case side2 => exact HC0.out); rintro e w5 ⟨rfl, hb⟩; have n0_ := Aside0.mk (below_step (by repeat (first | (with_reducible first | exact HB.out | apply below_alloc | apply pw_below_drewN | apply below_drew1) | exact HB.out)) hb); clear HB; have HB := n0_; clear n0_; (try clear hb); (try clear hb2); (try clear hk); (try clear hi))); try go_wp2_with (first | (go_at_call 71; (with_reducible refine (spec_l15PageOk.calls k _ _ l0 t110 _ ?side1 ?side2 A4.out).mono ?_); (case side1 => repeat (first | exact (Kd.C_below HR0.out HB.out) | (with_reducible refine Kd.C_alloc ?_ _) | (with_reducible refine Kd.C_drewN ?_ _) | (with_reducible refine Kd.C_drew ?_))); (case side2 => exact HC0.out); rintro e w5 ⟨rfl, hb⟩; have n0_ := Aside0.mk (below_step (by repeat (first | (with_reducible first | exact HB.out | apply below_alloc | apply pw_below_drewN | apply below_drew1) | exact HB.out)) hb); clear HB; have HB := n0_; clear n0_; (try clear hb); (try clear hb2); (try clear hk); (try clear hi))))
      go_meet
      case rel => exact ⟨_, (!t110), (by first | rfl | (simp; done) | (simp [*]; done)), H', ⟨by first | omega | exact Nat.le_refl _⟩, ⟨by repeat (first | (with_reducible first | exact HB.out | apply below_alloc | apply pw_below_drewN | apply below_drew1) | exact HB.out)⟩⟩
  case rest =>
    clear HC2
    try clear p2
    try clear c3
    try clear c3b0
    try clear c3b1
    try clear c3b2
    try clear c4
    obtain ⟨kq, x13_1, rfl, HA, HJ1, HB⟩ := hcut
    cases kq with
    | zero => exact absurd HA.out (by simp [spec_Bounds.j0])
    | succ kj1 =>
      have H := HA.out
      clear HA
      simp only [spec_Bounds.j0] at H
      by_cases c6 : x13_1 = true
      · subst c6
        have H1 : (some (([] : List Int))) = some r := by rw [if_pos rfl] at H; exact H
        clear H
        have H := H1
        clear H1
        obtain ⟨y111, hy111⟩ : ∃ y_ : List Int, y_ = (([] : List Int)) := ⟨_, rfl⟩
        replace H : (some y111) = some r := by first | (rw [hy111]; with_reducible exact H) | (have H2_ := (Option.bind_some _ _).symm.trans H; rw [hy111]; with_reducible exact H2_) | (have H2_ := (Option.bind_some _ _).symm.trans H; with_reducible exact H2_) | with_reducible exact H | (rw [hy111]; exact H) | exact H
        have Ny111 := Aside0.mk hy111
        clear hy111
        obtain rfl := Option.some.inj H
        go_wp2_with (first | ((with_reducible refine gate_dst (N := 14) rfl ?_); refine Kd.R_lit (Kd.int .i64) _ 2 ?hg (N := 14) ?hd (xs := ([] : List Int)) (inner := []) (ok := fun _ => True) (okp := fun _ => True) ?hr ?hp (fun _ hk => hk) trivial (Below.refl _ _) (Nat.le_refl _) (by simp) ?_; (case hd => rfl); (case hg => rfl); (case hr => first | (go_simp; done) | (go_simp; rfl)); (case hp => exact (Reps.none _ _)); intro v112 w7 ho8 hb hg_ hnew_; clear hg_ hnew_; (first | rw [← Ny111.out] at ho8 | (simp only [Int.reduceToNat] at ho8; rw [← Ny111.out] at ho8)); have n0_ := Aside0.mk (Kd.R_lower ho8 (below_size (by repeat (first | (with_reducible first | exact HB.out | apply below_alloc | apply pw_below_drewN | apply below_drew1) | exact HB.out)))); have n1_ := Aside0.mk (below_step (by repeat (first | (with_reducible first | exact HB.out | apply below_alloc | apply pw_below_drewN | apply below_drew1) | exact HB.out)) hb); clear HB; have HO113 := n0_; have HB := n1_; clear n0_ n1_; clear hb ho8))
        repeat (go_quiet (first | ((with_reducible refine gate_dst (N := 14) rfl ?_); refine Kd.R_lit (Kd.int .i64) _ 2 ?hg (N := 14) ?hd (xs := ([] : List Int)) (inner := []) (ok := fun _ => True) (okp := fun _ => True) ?hr ?hp (fun _ hk => hk) trivial (Below.refl _ _) (Nat.le_refl _) (by simp) ?_; (case hd => rfl); (case hg => rfl); (case hr => first | (go_simp; done) | (go_simp; rfl)); (case hp => exact (Reps.none _ _)); intro v112 w7 ho8 hb hg_ hnew_; clear hg_ hnew_; (first | rw [← Ny111.out] at ho8 | (simp only [Int.reduceToNat] at ho8; rw [← Ny111.out] at ho8)); have n0_ := Aside0.mk (Kd.R_lower ho8 (below_size (by repeat (first | (with_reducible first | exact HB.out | apply below_alloc | apply pw_below_drewN | apply below_drew1) | exact HB.out)))); have n1_ := Aside0.mk (below_step (by repeat (first | (with_reducible first | exact HB.out | apply below_alloc | apply pw_below_drewN | apply below_drew1) | exact HB.out)) hb); clear HB; have HO113 := n0_; have HB := n1_; clear n0_ n1_; clear hb ho8)); try go_wp2_with (first | ((with_reducible refine gate_dst (N := 14) rfl ?_); refine Kd.R_lit (Kd.int .i64) _ 2 ?hg (N := 14) ?hd (xs := ([] : List Int)) (inner := []) (ok := fun _ => True) (okp := fun _ => True) ?hr ?hp (fun _ hk => hk) trivial (Below.refl _ _) (Nat.le_refl _) (by simp) ?_; (case hd => rfl); (case hg => rfl); (case hr => first | (go_simp; done) | (go_simp; rfl)); (case hp => exact (Reps.none _ _)); intro v112 w7 ho8 hb hg_ hnew_; clear hg_ hnew_; (first | rw [← Ny111.out] at ho8 | (simp only [Int.reduceToNat] at ho8; rw [← Ny111.out] at ho8)); have n0_ := Aside0.mk (Kd.R_lower ho8 (below_size (by repeat (first | (with_reducible first | exact HB.out | apply below_alloc | apply pw_below_drewN | apply below_drew1) | exact HB.out)))); have n1_ := Aside0.mk (below_step (by repeat (first | (with_reducible first | exact HB.out | apply below_alloc | apply pw_below_drewN | apply below_drew1) | exact HB.out)) hb); clear HB; have HO113 := n0_; have HB := n1_; clear n0_ n1_; clear hb ho8)))
        go_ret
        exact ⟨_, by first | rfl | (simp [errW_none, errW_some] <;> rfl) | (simp [*, errW_none, errW_some] <;> rfl), by (with_reducible repeat (first | apply Kd.R_alloc | apply Kd.R_drewN | apply Kd.R_drew)); exact HO113.out, by repeat (first | (with_reducible first | exact HB.out | apply below_alloc | apply pw_below_drewN | apply below_drew1) | exact HB.out)⟩
      · replace c6 := Bool.eq_false_iff.mpr c6
        subst c6
        have H1 : (if 0 < (l0.length : Int) then (spec_Bounds.l0 kj1 l0 (([(rd_T57 l0 0).f0, wrap64 (((rd_T57 l0 0).f1) - ((rd_T57 l0 0).f5)), wrap64 (((rd_T57 l0 0).f0) + ((rd_T57 l0 0).f4)), (rd_T57 l0 0).f1] : List Int)) 1) else (none)) = some r := by rw [if_neg (show ¬ (false = true) by decide)] at H; exact H
        clear H
        have H := H1
        clear H1
        by_cases c9 : 0 < (l0.length : Int)
        · rw [if_pos c9] at H
          have c9b0 : decide (0 < (l0.length : Int)) = true := decide_eq_true c9
          have c9b1 : decide (0 < l0.length) = true := decide_eq_true (by omega)
          clear c9
          obtain ⟨y116, hy116⟩ : ∃ y_ : List Int, y_ = (([(rd_T57 l0 0).f0, wrap64 (((rd_T57 l0 0).f1) - ((rd_T57 l0 0).f5)), wrap64 (((rd_T57 l0 0).f0) + ((rd_T57 l0 0).f4)), (rd_T57 l0 0).f1] : List Int)) := ⟨_, rfl⟩
          replace H : (spec_Bounds.l0 kj1 l0 y116 1) = some r := by first | (rw [hy116]; with_reducible exact H) | (have H2_ := (Option.bind_some _ _).symm.trans H; rw [hy116]; with_reducible exact H2_) | (have H2_ := (Option.bind_some _ _).symm.trans H; with_reducible exact H2_) | with_reducible exact H | (rw [hy116]; exact H) | exact H
          have Ny116 := Aside0.mk hy116
          clear hy116
          have H' := Aside0.mk H
          clear H
          have p114 : 0 ≤ (0 : Int) := (by omega)
          have q114 : 0 < (l0.length : Int) := of_decide_eq_true (by first | (with_reducible assumption) | assumption)
          obtain ⟨ad114, e114, hx114_0, hx114_1, hx114_2, hx114_3, hx114_4, hx114_5⟩ := at_T57 HR0.out 0 p114 q114
          cases e114
          have qi114 : (0 < l0.length) = True := eq_true (by omega)
          (try rw [show ((0 : Int)).toNat = 0 from rfl] at hx114_0)
          (try rw [show 0 * 6 = 0 from rfl] at hx114_0)
          (try rw [Addr.add_zero'] at hx114_0)
          (try rw [show ((0 : Int)).toNat = 0 from rfl] at hx114_1)
          (try rw [show 0 * 6 = 0 from rfl] at hx114_1)
          (try rw [Addr.add_zero'] at hx114_1)
          (try rw [show ((0 : Int)).toNat = 0 from rfl] at hx114_2)
          (try rw [show 0 * 6 = 0 from rfl] at hx114_2)
          (try rw [Addr.add_zero'] at hx114_2)
          (try rw [show ((0 : Int)).toNat = 0 from rfl] at hx114_3)
          (try rw [show 0 * 6 = 0 from rfl] at hx114_3)
          (try rw [Addr.add_zero'] at hx114_3)
          (try rw [show ((0 : Int)).toNat = 0 from rfl] at hx114_4)
          (try rw [show 0 * 6 = 0 from rfl] at hx114_4)
          (try rw [Addr.add_zero'] at hx114_4)
          (try rw [show ((0 : Int)).toNat = 0 from rfl] at hx114_5)
          (try rw [show 0 * 6 = 0 from rfl] at hx114_5)
          (try rw [Addr.add_zero'] at hx114_5)
          replace hx114_0 := (HB.out.cell (World.block_lt_of_cell? w _ hx114_0)).trans hx114_0
          replace hx114_1 := (HB.out.cell (World.block_lt_of_cell? w _ hx114_1)).trans hx114_1
          replace hx114_2 := (HB.out.cell (World.block_lt_of_cell? w _ hx114_2)).trans hx114_2
          replace hx114_3 := (HB.out.cell (World.block_lt_of_cell? w _ hx114_3)).trans hx114_3
          replace hx114_4 := (HB.out.cell (World.block_lt_of_cell? w _ hx114_4)).trans hx114_4
          replace hx114_5 := (HB.out.cell (World.block_lt_of_cell? w _ hx114_5)).trans hx114_5
          replace p114 := eq_true p114
          replace q114 := eq_true q114
          go_wp2_with (first | ((with_reducible refine gate_dst (N := 3) rfl ?_); refine box_event ?hg (N := 3) ?hd (cs := #[.int .i64 0, .int .i64 0, .int .i64 0, .int .i64 0, .int .i64 0, .int .i64 0]) (t := 57) ?hr ?_; (case hd => rfl); (case hg => rfl); (case hr => first | (go_simp; done) | (go_simp; rfl)); intro gb115 hg w10 hbox hb; have n0_ := Aside0.mk (below_step (by repeat (first | (with_reducible first | exact HB.out | apply below_alloc | apply pw_below_drewN | apply below_drew1) | exact HB.out)) hb); have n1_ := Aside0.mk (hbox); have n2_ := Aside0.mk ((by rw [hg]; exact (below_size (by repeat (first | (with_reducible first | exact HB.out | apply below_alloc | apply pw_below_drewN | apply below_drew1) | exact HB.out))) : w.heap.size ≤ gb115)); have n3_ := Aside0.mk ((by rw [hg]; exact (below_size (by repeat (first | (with_reducible first | exact HB.out | apply below_alloc | apply pw_below_drewN | apply below_drew1) | exact HB.out))) : w.heap.size ≤ gb115)); clear HB; have HB := n0_; have BK115 := n1_; have GW115 := n2_; have GE115 := n3_; clear n0_ n1_ n2_ n3_; clear hb hbox hg; have hcz11_0 : w10.cell? ⟨gb115, 0, none⟩ = some (.int .i64 0) := (blk_cell BK115.out 0).trans rfl; have hcz11_1 : w10.cell? ⟨gb115, 1, none⟩ = some (.int .i64 0) := (blk_cell BK115.out 1).trans rfl; have hcz11_2 : w10.cell? ⟨gb115, 2, none⟩ = some (.int .i64 0) := (blk_cell BK115.out 2).trans rfl; have hcz11_3 : w10.cell? ⟨gb115, 3, none⟩ = some (.int .i64 0) := (blk_cell BK115.out 3).trans rfl; have hcz11_4 : w10.cell? ⟨gb115, 4, none⟩ = some (.int .i64 0) := (blk_cell BK115.out 4).trans rfl; have hcz11_5 : w10.cell? ⟨gb115, 5, none⟩ = some (.int .i64 0) := (blk_cell BK115.out 5).trans rfl; have hfz11_0 := blk_frozen BK115.out 0; have hfz11_1 := blk_frozen BK115.out 1; have hfz11_2 := blk_frozen BK115.out 2; have hfz11_3 := blk_frozen BK115.out 3; have hfz11_4 := blk_frozen BK115.out 4; have hfz11_5 := blk_frozen BK115.out 5) | ((with_reducible refine gate_dst (N := 32) rfl ?_); refine Kd.R_lit (Kd.int .i64) _ 2 ?hg (N := 32) ?hd (xs := ([(rd_T57 l0 0).f0, wrap64 (((rd_T57 l0 0).f1) - ((rd_T57 l0 0).f5)), wrap64 (((rd_T57 l0 0).f0) + ((rd_T57 l0 0).f4)), (rd_T57 l0 0).f1] : List Int)) (inner := [.int .i64 ((rd_T57 l0 0).f0), .int .i64 (wrap64 (((rd_T57 l0 0).f1) - ((rd_T57 l0 0).f5))), .int .i64 (wrap64 (((rd_T57 l0 0).f0) + ((rd_T57 l0 0).f4))), .int .i64 ((rd_T57 l0 0).f1)]) (ok := fun _ => True) (okp := fun _ => True) ?hr ?hp (fun _ hk => hk) trivial (Below.refl _ _) (Nat.le_refl _) (by simp) ?_; (case hd => rfl); (case hg => rfl); (case hr => first | (go_simp; done) | (go_simp; rfl)); (case hp => exact (Reps.one (show Kd.M (Kd.int .i64) _ _ _ ((rd_T57 l0 0).f0) [.int .i64 ((rd_T57 l0 0).f0)] from rfl) (Reps.one (show Kd.M (Kd.int .i64) _ _ _ (wrap64 (((rd_T57 l0 0).f1) - ((rd_T57 l0 0).f5))) [.int .i64 (wrap64 (((rd_T57 l0 0).f1) - ((rd_T57 l0 0).f5)))] from rfl) (Reps.one (show Kd.M (Kd.int .i64) _ _ _ (wrap64 (((rd_T57 l0 0).f0) + ((rd_T57 l0 0).f4))) [.int .i64 (wrap64 (((rd_T57 l0 0).f0) + ((rd_T57 l0 0).f4)))] from rfl) (Reps.one (show Kd.M (Kd.int .i64) _ _ _ ((rd_T57 l0 0).f1) [.int .i64 ((rd_T57 l0 0).f1)] from rfl) (Reps.none _ _)))))); intro v117 w12 ho13 hb hg_ hnew_; clear hg_ hnew_; (first | rw [← Ny116.out] at ho13 | (simp only [Int.reduceToNat] at ho13; rw [← Ny116.out] at ho13)); have n0_ := Aside0.mk (Kd.R_lower ho13 (below_size (by repeat (first | (with_reducible first | exact HB.out | apply below_alloc | apply pw_below_drewN | apply below_drew1 | refine below_set ?_ GE115.out) | exact HB.out)))); have n1_ := Aside0.mk (blk_below (g := gb115) (o := .cells #[.int .i64 ((rd_T57 l0 0).f0), .int .i64 ((rd_T57 l0 0).f1), .int .i64 ((rd_T57 l0 0).f2), .int .i64 ((rd_T57 l0 0).f3), .int .i64 ((rd_T57 l0 0).f4), .int .i64 ((rd_T57 l0 0).f5)] 57 (0, 0)) (by (with_reducible repeat (first | refine blk_drewN ?_ _ | refine blk_drew ?_ | refine blk_alloc ?_ _)); refine blk_put (cs := #[.int .i64 ((rd_T57 l0 0).f0), .int .i64 ((rd_T57 l0 0).f1), .int .i64 ((rd_T57 l0 0).f2), .int .i64 ((rd_T57 l0 0).f3), .int .i64 ((rd_T57 l0 0).f4), .int .i64 0]) ?_ 5 _ rfl; (with_reducible repeat (first | refine blk_drewN ?_ _ | refine blk_drew ?_ | refine blk_alloc ?_ _)); refine blk_put (cs := #[.int .i64 ((rd_T57 l0 0).f0), .int .i64 ((rd_T57 l0 0).f1), .int .i64 ((rd_T57 l0 0).f2), .int .i64 ((rd_T57 l0 0).f3), .int .i64 0, .int .i64 0]) ?_ 4 _ rfl; (with_reducible repeat (first | refine blk_drewN ?_ _ | refine blk_drew ?_ | refine blk_alloc ?_ _)); refine blk_put (cs := #[.int .i64 ((rd_T57 l0 0).f0), .int .i64 ((rd_T57 l0 0).f1), .int .i64 ((rd_T57 l0 0).f2), .int .i64 0, .int .i64 0, .int .i64 0]) ?_ 3 _ rfl; (with_reducible repeat (first | refine blk_drewN ?_ _ | refine blk_drew ?_ | refine blk_alloc ?_ _)); refine blk_put (cs := #[.int .i64 ((rd_T57 l0 0).f0), .int .i64 ((rd_T57 l0 0).f1), .int .i64 0, .int .i64 0, .int .i64 0, .int .i64 0]) ?_ 2 _ rfl; (with_reducible repeat (first | refine blk_drewN ?_ _ | refine blk_drew ?_ | refine blk_alloc ?_ _)); refine blk_put (cs := #[.int .i64 ((rd_T57 l0 0).f0), .int .i64 0, .int .i64 0, .int .i64 0, .int .i64 0, .int .i64 0]) ?_ 1 _ rfl; (with_reducible repeat (first | refine blk_drewN ?_ _ | refine blk_drew ?_ | refine blk_alloc ?_ _)); refine blk_put (cs := #[.int .i64 0, .int .i64 0, .int .i64 0, .int .i64 0, .int .i64 0, .int .i64 0]) ?_ 0 _ rfl; (with_reducible repeat (first | refine blk_drewN ?_ _ | refine blk_drew ?_ | refine blk_alloc ?_ _)); exact BK115.out) hb); have n2_ := Aside0.mk (below_step (by repeat (first | (with_reducible first | exact HB.out | apply below_alloc | apply pw_below_drewN | apply below_drew1 | refine below_set ?_ GE115.out) | exact HB.out)) hb); clear BK115; clear HB; have HO118 := n0_; have BK115 := n1_; have HB := n2_; clear n0_ n1_ n2_; clear hb ho13))
          repeat (go_quiet (first | ((with_reducible refine gate_dst (N := 3) rfl ?_); refine box_event ?hg (N := 3) ?hd (cs := #[.int .i64 0, .int .i64 0, .int .i64 0, .int .i64 0, .int .i64 0, .int .i64 0]) (t := 57) ?hr ?_; (case hd => rfl); (case hg => rfl); (case hr => first | (go_simp; done) | (go_simp; rfl)); intro gb115 hg w10 hbox hb; have n0_ := Aside0.mk (below_step (by repeat (first | (with_reducible first | exact HB.out | apply below_alloc | apply pw_below_drewN | apply below_drew1) | exact HB.out)) hb); have n1_ := Aside0.mk (hbox); have n2_ := Aside0.mk ((by rw [hg]; exact (below_size (by repeat (first | (with_reducible first | exact HB.out | apply below_alloc | apply pw_below_drewN | apply below_drew1) | exact HB.out))) : w.heap.size ≤ gb115)); have n3_ := Aside0.mk ((by rw [hg]; exact (below_size (by repeat (first | (with_reducible first | exact HB.out | apply below_alloc | apply pw_below_drewN | apply below_drew1) | exact HB.out))) : w.heap.size ≤ gb115)); clear HB; have HB := n0_; have BK115 := n1_; have GW115 := n2_; have GE115 := n3_; clear n0_ n1_ n2_ n3_; clear hb hbox hg; have hcz11_0 : w10.cell? ⟨gb115, 0, none⟩ = some (.int .i64 0) := (blk_cell BK115.out 0).trans rfl; have hcz11_1 : w10.cell? ⟨gb115, 1, none⟩ = some (.int .i64 0) := (blk_cell BK115.out 1).trans rfl; have hcz11_2 : w10.cell? ⟨gb115, 2, none⟩ = some (.int .i64 0) := (blk_cell BK115.out 2).trans rfl; have hcz11_3 : w10.cell? ⟨gb115, 3, none⟩ = some (.int .i64 0) := (blk_cell BK115.out 3).trans rfl; have hcz11_4 : w10.cell? ⟨gb115, 4, none⟩ = some (.int .i64 0) := (blk_cell BK115.out 4).trans rfl; have hcz11_5 : w10.cell? ⟨gb115, 5, none⟩ = some (.int .i64 0) := (blk_cell BK115.out 5).trans rfl; have hfz11_0 := blk_frozen BK115.out 0; have hfz11_1 := blk_frozen BK115.out 1; have hfz11_2 := blk_frozen BK115.out 2; have hfz11_3 := blk_frozen BK115.out 3; have hfz11_4 := blk_frozen BK115.out 4; have hfz11_5 := blk_frozen BK115.out 5) | ((with_reducible refine gate_dst (N := 32) rfl ?_); refine Kd.R_lit (Kd.int .i64) _ 2 ?hg (N := 32) ?hd (xs := ([(rd_T57 l0 0).f0, wrap64 (((rd_T57 l0 0).f1) - ((rd_T57 l0 0).f5)), wrap64 (((rd_T57 l0 0).f0) + ((rd_T57 l0 0).f4)), (rd_T57 l0 0).f1] : List Int)) (inner := [.int .i64 ((rd_T57 l0 0).f0), .int .i64 (wrap64 (((rd_T57 l0 0).f1) - ((rd_T57 l0 0).f5))), .int .i64 (wrap64 (((rd_T57 l0 0).f0) + ((rd_T57 l0 0).f4))), .int .i64 ((rd_T57 l0 0).f1)]) (ok := fun _ => True) (okp := fun _ => True) ?hr ?hp (fun _ hk => hk) trivial (Below.refl _ _) (Nat.le_refl _) (by simp) ?_; (case hd => rfl); (case hg => rfl); (case hr => first | (go_simp; done) | (go_simp; rfl)); (case hp => exact (Reps.one (show Kd.M (Kd.int .i64) _ _ _ ((rd_T57 l0 0).f0) [.int .i64 ((rd_T57 l0 0).f0)] from rfl) (Reps.one (show Kd.M (Kd.int .i64) _ _ _ (wrap64 (((rd_T57 l0 0).f1) - ((rd_T57 l0 0).f5))) [.int .i64 (wrap64 (((rd_T57 l0 0).f1) - ((rd_T57 l0 0).f5)))] from rfl) (Reps.one (show Kd.M (Kd.int .i64) _ _ _ (wrap64 (((rd_T57 l0 0).f0) + ((rd_T57 l0 0).f4))) [.int .i64 (wrap64 (((rd_T57 l0 0).f0) + ((rd_T57 l0 0).f4)))] from rfl) (Reps.one (show Kd.M (Kd.int .i64) _ _ _ ((rd_T57 l0 0).f1) [.int .i64 ((rd_T57 l0 0).f1)] from rfl) (Reps.none _ _)))))); intro v117 w12 ho13 hb hg_ hnew_; clear hg_ hnew_; (first | rw [← Ny116.out] at ho13 | (simp only [Int.reduceToNat] at ho13; rw [← Ny116.out] at ho13)); have n0_ := Aside0.mk (Kd.R_lower ho13 (below_size (by repeat (first | (with_reducible first | exact HB.out | apply below_alloc | apply pw_below_drewN | apply below_drew1 | refine below_set ?_ GE115.out) | exact HB.out)))); have n1_ := Aside0.mk (blk_below (g := gb115) (o := .cells #[.int .i64 ((rd_T57 l0 0).f0), .int .i64 ((rd_T57 l0 0).f1), .int .i64 ((rd_T57 l0 0).f2), .int .i64 ((rd_T57 l0 0).f3), .int .i64 ((rd_T57 l0 0).f4), .int .i64 ((rd_T57 l0 0).f5)] 57 (0, 0)) (by (with_reducible repeat (first | refine blk_drewN ?_ _ | refine blk_drew ?_ | refine blk_alloc ?_ _)); refine blk_put (cs := #[.int .i64 ((rd_T57 l0 0).f0), .int .i64 ((rd_T57 l0 0).f1), .int .i64 ((rd_T57 l0 0).f2), .int .i64 ((rd_T57 l0 0).f3), .int .i64 ((rd_T57 l0 0).f4), .int .i64 0]) ?_ 5 _ rfl; (with_reducible repeat (first | refine blk_drewN ?_ _ | refine blk_drew ?_ | refine blk_alloc ?_ _)); refine blk_put (cs := #[.int .i64 ((rd_T57 l0 0).f0), .int .i64 ((rd_T57 l0 0).f1), .int .i64 ((rd_T57 l0 0).f2), .int .i64 ((rd_T57 l0 0).f3), .int .i64 0, .int .i64 0]) ?_ 4 _ rfl; (with_reducible repeat (first | refine blk_drewN ?_ _ | refine blk_drew ?_ | refine blk_alloc ?_ _)); refine blk_put (cs := #[.int .i64 ((rd_T57 l0 0).f0), .int .i64 ((rd_T57 l0 0).f1), .int .i64 ((rd_T57 l0 0).f2), .int .i64 0, .int .i64 0, .int .i64 0]) ?_ 3 _ rfl; (with_reducible repeat (first | refine blk_drewN ?_ _ | refine blk_drew ?_ | refine blk_alloc ?_ _)); refine blk_put (cs := #[.int .i64 ((rd_T57 l0 0).f0), .int .i64 ((rd_T57 l0 0).f1), .int .i64 0, .int .i64 0, .int .i64 0, .int .i64 0]) ?_ 2 _ rfl; (with_reducible repeat (first | refine blk_drewN ?_ _ | refine blk_drew ?_ | refine blk_alloc ?_ _)); refine blk_put (cs := #[.int .i64 ((rd_T57 l0 0).f0), .int .i64 0, .int .i64 0, .int .i64 0, .int .i64 0, .int .i64 0]) ?_ 1 _ rfl; (with_reducible repeat (first | refine blk_drewN ?_ _ | refine blk_drew ?_ | refine blk_alloc ?_ _)); refine blk_put (cs := #[.int .i64 0, .int .i64 0, .int .i64 0, .int .i64 0, .int .i64 0, .int .i64 0]) ?_ 0 _ rfl; (with_reducible repeat (first | refine blk_drewN ?_ _ | refine blk_drew ?_ | refine blk_alloc ?_ _)); exact BK115.out) hb); have n2_ := Aside0.mk (below_step (by repeat (first | (with_reducible first | exact HB.out | apply below_alloc | apply pw_below_drewN | apply below_drew1 | refine below_set ?_ GE115.out) | exact HB.out)) hb); clear BK115; clear HB; have HO118 := n0_; have BK115 := n1_; have HB := n2_; clear n0_ n1_ n2_; clear hb ho13)); try go_wp2_with (first | ((with_reducible refine gate_dst (N := 3) rfl ?_); refine box_event ?hg (N := 3) ?hd (cs := #[.int .i64 0, .int .i64 0, .int .i64 0, .int .i64 0, .int .i64 0, .int .i64 0]) (t := 57) ?hr ?_; (case hd => rfl); (case hg => rfl); (case hr => first | (go_simp; done) | (go_simp; rfl)); intro gb115 hg w10 hbox hb; have n0_ := Aside0.mk (below_step (by repeat (first | (with_reducible first | exact HB.out | apply below_alloc | apply pw_below_drewN | apply below_drew1) | exact HB.out)) hb); have n1_ := Aside0.mk (hbox); have n2_ := Aside0.mk ((by rw [hg]; exact (below_size (by repeat (first | (with_reducible first | exact HB.out | apply below_alloc | apply pw_below_drewN | apply below_drew1) | exact HB.out))) : w.heap.size ≤ gb115)); have n3_ := Aside0.mk ((by rw [hg]; exact (below_size (by repeat (first | (with_reducible first | exact HB.out | apply below_alloc | apply pw_below_drewN | apply below_drew1) | exact HB.out))) : w.heap.size ≤ gb115)); clear HB; have HB := n0_; have BK115 := n1_; have GW115 := n2_; have GE115 := n3_; clear n0_ n1_ n2_ n3_; clear hb hbox hg; have hcz11_0 : w10.cell? ⟨gb115, 0, none⟩ = some (.int .i64 0) := (blk_cell BK115.out 0).trans rfl; have hcz11_1 : w10.cell? ⟨gb115, 1, none⟩ = some (.int .i64 0) := (blk_cell BK115.out 1).trans rfl; have hcz11_2 : w10.cell? ⟨gb115, 2, none⟩ = some (.int .i64 0) := (blk_cell BK115.out 2).trans rfl; have hcz11_3 : w10.cell? ⟨gb115, 3, none⟩ = some (.int .i64 0) := (blk_cell BK115.out 3).trans rfl; have hcz11_4 : w10.cell? ⟨gb115, 4, none⟩ = some (.int .i64 0) := (blk_cell BK115.out 4).trans rfl; have hcz11_5 : w10.cell? ⟨gb115, 5, none⟩ = some (.int .i64 0) := (blk_cell BK115.out 5).trans rfl; have hfz11_0 := blk_frozen BK115.out 0; have hfz11_1 := blk_frozen BK115.out 1; have hfz11_2 := blk_frozen BK115.out 2; have hfz11_3 := blk_frozen BK115.out 3; have hfz11_4 := blk_frozen BK115.out 4; have hfz11_5 := blk_frozen BK115.out 5) | ((with_reducible refine gate_dst (N := 32) rfl ?_); refine Kd.R_lit (Kd.int .i64) _ 2 ?hg (N := 32) ?hd (xs := ([(rd_T57 l0 0).f0, wrap64 (((rd_T57 l0 0).f1) - ((rd_T57 l0 0).f5)), wrap64 (((rd_T57 l0 0).f0) + ((rd_T57 l0 0).f4)), (rd_T57 l0 0).f1] : List Int)) (inner := [.int .i64 ((rd_T57 l0 0).f0), .int .i64 (wrap64 (((rd_T57 l0 0).f1) - ((rd_T57 l0 0).f5))), .int .i64 (wrap64 (((rd_T57 l0 0).f0) + ((rd_T57 l0 0).f4))), .int .i64 ((rd_T57 l0 0).f1)]) (ok := fun _ => True) (okp := fun _ => True) ?hr ?hp (fun _ hk => hk) trivial (Below.refl _ _) (Nat.le_refl _) (by simp) ?_; (case hd => rfl); (case hg => rfl); (case hr => first | (go_simp; done) | (go_simp; rfl)); (case hp => exact (Reps.one (show Kd.M (Kd.int .i64) _ _ _ ((rd_T57 l0 0).f0) [.int .i64 ((rd_T57 l0 0).f0)] from rfl) (Reps.one (show Kd.M (Kd.int .i64) _ _ _ (wrap64 (((rd_T57 l0 0).f1) - ((rd_T57 l0 0).f5))) [.int .i64 (wrap64 (((rd_T57 l0 0).f1) - ((rd_T57 l0 0).f5)))] from rfl) (Reps.one (show Kd.M (Kd.int .i64) _ _ _ (wrap64 (((rd_T57 l0 0).f0) + ((rd_T57 l0 0).f4))) [.int .i64 (wrap64 (((rd_T57 l0 0).f0) + ((rd_T57 l0 0).f4)))] from rfl) (Reps.one (show Kd.M (Kd.int .i64) _ _ _ ((rd_T57 l0 0).f1) [.int .i64 ((rd_T57 l0 0).f1)] from rfl) (Reps.none _ _)))))); intro v117 w12 ho13 hb hg_ hnew_; clear hg_ hnew_; (first | rw [← Ny116.out] at ho13 | (simp only [Int.reduceToNat] at ho13; rw [← Ny116.out] at ho13)); have n0_ := Aside0.mk (Kd.R_lower ho13 (below_size (by repeat (first | (with_reducible first | exact HB.out | apply below_alloc | apply pw_below_drewN | apply below_drew1 | refine below_set ?_ GE115.out) | exact HB.out)))); have n1_ := Aside0.mk (blk_below (g := gb115) (o := .cells #[.int .i64 ((rd_T57 l0 0).f0), .int .i64 ((rd_T57 l0 0).f1), .int .i64 ((rd_T57 l0 0).f2), .int .i64 ((rd_T57 l0 0).f3), .int .i64 ((rd_T57 l0 0).f4), .int .i64 ((rd_T57 l0 0).f5)] 57 (0, 0)) (by (with_reducible repeat (first | refine blk_drewN ?_ _ | refine blk_drew ?_ | refine blk_alloc ?_ _)); refine blk_put (cs := #[.int .i64 ((rd_T57 l0 0).f0), .int .i64 ((rd_T57 l0 0).f1), .int .i64 ((rd_T57 l0 0).f2), .int .i64 ((rd_T57 l0 0).f3), .int .i64 ((rd_T57 l0 0).f4), .int .i64 0]) ?_ 5 _ rfl; (with_reducible repeat (first | refine blk_drewN ?_ _ | refine blk_drew ?_ | refine blk_alloc ?_ _)); refine blk_put (cs := #[.int .i64 ((rd_T57 l0 0).f0), .int .i64 ((rd_T57 l0 0).f1), .int .i64 ((rd_T57 l0 0).f2), .int .i64 ((rd_T57 l0 0).f3), .int .i64 0, .int .i64 0]) ?_ 4 _ rfl; (with_reducible repeat (first | refine blk_drewN ?_ _ | refine blk_drew ?_ | refine blk_alloc ?_ _)); refine blk_put (cs := #[.int .i64 ((rd_T57 l0 0).f0), .int .i64 ((rd_T57 l0 0).f1), .int .i64 ((rd_T57 l0 0).f2), .int .i64 0, .int .i64 0, .int .i64 0]) ?_ 3 _ rfl; (with_reducible repeat (first | refine blk_drewN ?_ _ | refine blk_drew ?_ | refine blk_alloc ?_ _)); refine blk_put (cs := #[.int .i64 ((rd_T57 l0 0).f0), .int .i64 ((rd_T57 l0 0).f1), .int .i64 0, .int .i64 0, .int .i64 0, .int .i64 0]) ?_ 2 _ rfl; (with_reducible repeat (first | refine blk_drewN ?_ _ | refine blk_drew ?_ | refine blk_alloc ?_ _)); refine blk_put (cs := #[.int .i64 ((rd_T57 l0 0).f0), .int .i64 0, .int .i64 0, .int .i64 0, .int .i64 0, .int .i64 0]) ?_ 1 _ rfl; (with_reducible repeat (first | refine blk_drewN ?_ _ | refine blk_drew ?_ | refine blk_alloc ?_ _)); refine blk_put (cs := #[.int .i64 0, .int .i64 0, .int .i64 0, .int .i64 0, .int .i64 0, .int .i64 0]) ?_ 0 _ rfl; (with_reducible repeat (first | refine blk_drewN ?_ _ | refine blk_drew ?_ | refine blk_alloc ?_ _)); exact BK115.out) hb); have n2_ := Aside0.mk (below_step (by repeat (first | (with_reducible first | exact HB.out | apply below_alloc | apply pw_below_drewN | apply below_drew1 | refine below_set ?_ GE115.out) | exact HB.out)) hb); clear BK115; clear HB; have HO118 := n0_; have BK115 := n1_; have HB := n2_; clear n0_ n1_ n2_; clear hb ho13)))
          go_loopg [5] kj1 (fun kq v5 w' => ∃ (x4_2 : List Int) (x5_2 : Int) (x116000_2 : Int) (x116001_2 : Int) (x116002_2 : Int) (x116003_2 : Int) (x116004_2 : Int) (x116005_2 : Int), v5 = .int .i64 x5_2 ∧ Aside0 (spec_Bounds.l0 kq l0 x4_2 x5_2 = some r) ∧ Aside0 (kq ≤ kj1) ∧ Aside0 (Kd.R (Kd.int .i64) 2 w' w.heap.size (fun _ => True) v117 x4_2) ∧ Aside0 (w'.heap[gb115]? = some (.cells #[.int .i64 x116000_2, .int .i64 x116001_2, .int .i64 x116002_2, .int .i64 x116003_2, .int .i64 x116004_2, .int .i64 x116005_2] 57 (0, 0))) ∧ Aside0 (Below w.heap.size w w'))
          case atStart => exact ⟨(y116), (1), ((rd_T57 l0 0).f0), ((rd_T57 l0 0).f1), ((rd_T57 l0 0).f2), ((rd_T57 l0 0).f3), ((rd_T57 l0 0).f4), ((rd_T57 l0 0).f5), (by first | rfl | (simp; done) | (simp [*]; done)), H', ⟨Nat.le_refl _⟩, ⟨by (with_reducible repeat (first | apply Kd.R_alloc | apply Kd.R_drewN | apply Kd.R_drew)); exact HO118.out⟩, ⟨by (with_reducible repeat (first | refine blk_drewN ?_ _ | refine blk_drew ?_ | refine blk_alloc ?_ _)); exact BK115.out⟩, ⟨by repeat (first | (with_reducible first | exact HB.out | apply below_alloc | apply pw_below_drewN | apply below_drew1 | refine below_set ?_ GE115.out) | exact HB.out)⟩⟩
          case round =>
            clear H'
            try clear p1
            try clear q1
            try clear hx1
            try clear qi1
            try clear p2
            try clear c3
            try clear c3b0
            try clear c3b1
            try clear c3b2
            try clear c4
            try clear c6
            try clear p6
            try clear c9
            try clear c9b0
            try clear c9b1
            try clear p11
            try clear q11
            try clear hx11
            try clear qi11
            try clear hcz11_0
            try clear hcz11_1
            try clear hcz11_2
            try clear hcz11_3
            try clear hcz11_4
            try clear hcz11_5
            try clear hfz11_0
            try clear hfz11_1
            try clear hfz11_2
            try clear hfz11_3
            try clear hfz11_4
            try clear hfz11_5
            try clear hx114_0
            try clear hx114_1
            try clear hx114_2
            try clear hx114_3
            try clear hx114_4
            try clear hx114_5
            try clear p114
            try clear p2
            try clear q114
            obtain ⟨x4_2, x5_2, x116000_2, x116001_2, x116002_2, x116003_2, x116004_2, x116005_2, rfl, HA, HK2, HO_4, BK115, HB⟩ := hrel
            cases gk with
            | zero => exact absurd HA.out (by simp [spec_Bounds.l0])
            | succ k2 =>
              have H := HA.out
              clear HA
              simp only [spec_Bounds.l0] at H
              by_cases c14 : x5_2 < (l0.length : Int)
              · rw [if_pos c14] at H
                have c14b0 : decide (x5_2 < (l0.length : Int)) = true := decide_eq_true c14
                clear c14
                by_cases c15 : 0 ≤ x5_2
                · rw [if_pos c15] at H
                  have c15b0 : decide (0 ≤ x5_2) = true := decide_eq_true c15
                  clear c15
                  by_cases c16 : 0 < (x4_2.length : Int)
                  · rw [if_pos c16] at H
                    have c16b0 : decide (0 < (x4_2.length : Int)) = true := decide_eq_true c16
                    have c16b1 : decide (0 < x4_2.length) = true := decide_eq_true (by omega)
                    clear c16
                    have HC17 := Aside0.mk H
                    clear H
                    have p119 : 0 ≤ (x5_2 : Int) := of_decide_eq_true (by first | (with_reducible assumption) | assumption)
                    have q119 : x5_2 < (l0.length : Int) := of_decide_eq_true (by first | (with_reducible assumption) | assumption)
                    obtain ⟨ad119, e119, hx119_0, hx119_1, hx119_2, hx119_3, hx119_4, hx119_5⟩ := at_T57 HR0.out x5_2 p119 q119
                    obtain rfl : ad114 = ad119 := (by injection e119)
                    replace hx119_0 := (HB.out.cell (World.block_lt_of_cell? w _ hx119_0)).trans hx119_0
                    replace hx119_1 := (HB.out.cell (World.block_lt_of_cell? w _ hx119_1)).trans hx119_1
                    replace hx119_2 := (HB.out.cell (World.block_lt_of_cell? w _ hx119_2)).trans hx119_2
                    replace hx119_3 := (HB.out.cell (World.block_lt_of_cell? w _ hx119_3)).trans hx119_3
                    replace hx119_4 := (HB.out.cell (World.block_lt_of_cell? w _ hx119_4)).trans hx119_4
                    replace hx119_5 := (HB.out.cell (World.block_lt_of_cell? w _ hx119_5)).trans hx119_5
                    replace p119 := eq_true p119
                    replace q119 := eq_true q119
                    have hcz18_0 : wr.cell? ⟨gb115, 0, none⟩ = some (.int .i64 x116000_2) := (blk_cell BK115.out 0).trans rfl
                    have hcz18_1 : wr.cell? ⟨gb115, 1, none⟩ = some (.int .i64 x116001_2) := (blk_cell BK115.out 1).trans rfl
                    have hcz18_2 : wr.cell? ⟨gb115, 2, none⟩ = some (.int .i64 x116002_2) := (blk_cell BK115.out 2).trans rfl
                    have hcz18_3 : wr.cell? ⟨gb115, 3, none⟩ = some (.int .i64 x116003_2) := (blk_cell BK115.out 3).trans rfl
                    have hcz18_4 : wr.cell? ⟨gb115, 4, none⟩ = some (.int .i64 x116004_2) := (blk_cell BK115.out 4).trans rfl
                    have hcz18_5 : wr.cell? ⟨gb115, 5, none⟩ = some (.int .i64 x116005_2) := (blk_cell BK115.out 5).trans rfl
                    have hfz18_0 := blk_frozen BK115.out 0
                    have hfz18_1 := blk_frozen BK115.out 1
                    have hfz18_2 := blk_frozen BK115.out 2
                    have hfz18_3 := blk_frozen BK115.out 3
                    have hfz18_4 := blk_frozen BK115.out 4
                    have hfz18_5 := blk_frozen BK115.out 5
                    obtain ⟨Ao19, co19, eo19⟩ := Kd.R_slice HO_4.out
                    subst eo19
                    have p120 : 0 ≤ (0 : Int) := (by omega)
                    have q120 : 0 < (x4_2.length : Int) := of_decide_eq_true (by first | (with_reducible assumption) | assumption)
                    obtain ⟨ad120, e120, hx120_0⟩ := Kd.at_int (Kd.R_reads' HO_4.out).2.2 0 p120 q120
                    cases e120
                    have qi120 : (0 < x4_2.length) = True := eq_true (by omega)
                    (try rw [show ((0 : Int)).toNat = 0 from rfl] at hx120_0)
                    (try rw [Addr.add_zero'] at hx120_0)
                    have hn120_0 : ad120.block ≠ gb115 := Kd.own_blk (Kd.R_ne HO_4.out BK115.out (by decide))
                    have hn120_1 : ad120.block ≠ gb115 := Kd.own_blk (Kd.R_ne HO_4.out BK115.out (by decide))
                    have hn120_2 : ad120.block ≠ gb115 := Kd.own_blk (Kd.R_ne HO_4.out BK115.out (by decide))
                    have hn120_3 : ad120.block ≠ gb115 := Kd.own_blk (Kd.R_ne HO_4.out BK115.out (by decide))
                    have hn120_4 : ad120.block ≠ gb115 := Kd.own_blk (Kd.R_ne HO_4.out BK115.out (by decide))
                    have hn120_5 : ad120.block ≠ gb115 := Kd.own_blk (Kd.R_ne HO_4.out BK115.out (by decide))
                    replace hx120_0 := (cell_far (p := ⟨gb115, 0, none⟩) (by first | (rw [add_block]; exact hn120_0) | (show (Addr.add _ _).block ≠ _; rw [add_block]; exact hn120_0) | exact hn120_0) (.int .i64 ((rd_T57 l0 x5_2).f0))).trans hx120_0
                    replace hx120_0 := (cell_far (p := ⟨gb115, 1, none⟩) (by first | (rw [add_block]; exact hn120_1) | (show (Addr.add _ _).block ≠ _; rw [add_block]; exact hn120_1) | exact hn120_1) (.int .i64 ((rd_T57 l0 x5_2).f1))).trans hx120_0
                    replace hx120_0 := (cell_far (p := ⟨gb115, 2, none⟩) (by first | (rw [add_block]; exact hn120_2) | (show (Addr.add _ _).block ≠ _; rw [add_block]; exact hn120_2) | exact hn120_2) (.int .i64 ((rd_T57 l0 x5_2).f2))).trans hx120_0
                    replace hx120_0 := (cell_far (p := ⟨gb115, 3, none⟩) (by first | (rw [add_block]; exact hn120_3) | (show (Addr.add _ _).block ≠ _; rw [add_block]; exact hn120_3) | exact hn120_3) (.int .i64 ((rd_T57 l0 x5_2).f3))).trans hx120_0
                    replace hx120_0 := (cell_far (p := ⟨gb115, 4, none⟩) (by first | (rw [add_block]; exact hn120_4) | (show (Addr.add _ _).block ≠ _; rw [add_block]; exact hn120_4) | exact hn120_4) (.int .i64 ((rd_T57 l0 x5_2).f4))).trans hx120_0
                    replace hx120_0 := (cell_far (p := ⟨gb115, 5, none⟩) (by first | (rw [add_block]; exact hn120_5) | (show (Addr.add _ _).block ≠ _; rw [add_block]; exact hn120_5) | exact hn120_5) (.int .i64 ((rd_T57 l0 x5_2).f5))).trans hx120_0
                    (try have hy120_0 := fun (n_ : Nat) => spec_Bounds.drewnCell_ (V := (((((((wr.drewN n_).setCell ⟨gb115, 0, none⟩ (.int .i64 ((rd_T57 l0 x5_2).f0))).setCell ⟨gb115, 1, none⟩ (.int .i64 ((rd_T57 l0 x5_2).f1))).setCell ⟨gb115, 2, none⟩ (.int .i64 ((rd_T57 l0 x5_2).f2))).setCell ⟨gb115, 3, none⟩ (.int .i64 ((rd_T57 l0 x5_2).f3))).setCell ⟨gb115, 4, none⟩ (.int .i64 ((rd_T57 l0 x5_2).f4))).setCell ⟨gb115, 5, none⟩ (.int .i64 ((rd_T57 l0 x5_2).f5)))) (n := n_) (by simp only [spec_Bounds.setDrewn_]) hx120_0)
                    clear hn120_0
                    clear hn120_1
                    clear hn120_2
                    clear hn120_3
                    clear hn120_4
                    clear hn120_5
                    replace p120 := eq_true p120
                    replace q120 := eq_true q120
                    go_upto_if 48 with (fail)
                    repeat (go_quiet (fail); go_upto_if 48 with (fail))
                    go_cut [] (fun wc => ∃ (kq : Nat) (x4_16 : List Int), Aside0 (spec_Bounds.j2 kq l0 x4_16 x5_2 ((rd_T57 l0 x5_2).f0) ((rd_T57 l0 x5_2).f1) ((rd_T57 l0 x5_2).f2) ((rd_T57 l0 x5_2).f3) ((rd_T57 l0 x5_2).f4) ((rd_T57 l0 x5_2).f5) = some r) ∧ Aside0 (kq ≤ k2) ∧ Aside0 (Kd.R (Kd.int .i64) 2 wc w.heap.size (fun _ => True) (.slice (some ad120) x4_2.length co19) x4_16) ∧ Aside0 (wc.heap[gb115]? = some (.cells #[.int .i64 ((rd_T57 l0 x5_2).f0), .int .i64 ((rd_T57 l0 x5_2).f1), .int .i64 ((rd_T57 l0 x5_2).f2), .int .i64 ((rd_T57 l0 x5_2).f3), .int .i64 ((rd_T57 l0 x5_2).f4), .int .i64 ((rd_T57 l0 x5_2).f5)] 57 (0, 0))) ∧ Aside0 (Below w.heap.size w wc))
                    case first =>
                      have H := HC17.out
                      clear HC17
                      by_cases c20 : ((rd_T57 l0 x5_2).f0) < (rd x4_2 0)
                      · rw [if_pos c20] at H
                        have c20b0 : decide (((rd_T57 l0 x5_2).f0) < (rd x4_2 0)) = true := decide_eq_true c20
                        clear c20
                        (first | rw [c20b0] | (simp only [i64_w, i32_w]; rw [c20b0]) | skip)
                        obtain ⟨y121, hy121⟩ : ∃ y_ : List Int, y_ = (x4_2.set (0 : Int).toNat ((rd_T57 l0 x5_2).f0)) := ⟨_, rfl⟩
                        replace H : (spec_Bounds.j2 k2 l0 y121 x5_2 ((rd_T57 l0 x5_2).f0) ((rd_T57 l0 x5_2).f1) ((rd_T57 l0 x5_2).f2) ((rd_T57 l0 x5_2).f3) ((rd_T57 l0 x5_2).f4) ((rd_T57 l0 x5_2).f5)) = some r := by first | (rw [hy121]; with_reducible exact H) | (have H2_ := (Option.bind_some _ _).symm.trans H; rw [hy121]; with_reducible exact H2_) | (have H2_ := (Option.bind_some _ _).symm.trans H; with_reducible exact H2_) | with_reducible exact H | (rw [hy121]; exact H) | exact H
                        have Ny121 := Aside0.mk hy121
                        clear hy121
                        have H' := Aside0.mk H
                        clear H
                        have n0_ : Aside0 (Kd.R (Kd.int .i64) 2 ((((((wr.setCell ⟨gb115, 0, none⟩ (.int .i64 ((rd_T57 l0 x5_2).f0))).setCell ⟨gb115, 1, none⟩ (.int .i64 ((rd_T57 l0 x5_2).f1))).setCell ⟨gb115, 2, none⟩ (.int .i64 ((rd_T57 l0 x5_2).f2))).setCell ⟨gb115, 3, none⟩ (.int .i64 ((rd_T57 l0 x5_2).f3))).setCell ⟨gb115, 4, none⟩ (.int .i64 ((rd_T57 l0 x5_2).f4))).setCell ⟨gb115, 5, none⟩ (.int .i64 ((rd_T57 l0 x5_2).f5))) w.heap.size (fun _ => True) (.slice (some ad120) x4_2.length co19) x4_2) := ⟨by (with_reducible repeat (first | apply Kd.R_alloc | apply Kd.R_drewN | apply Kd.R_drew)); exact Kd.R_mono (Kd.R_far (p := ⟨gb115, 5, none⟩) (Kd.R_far (p := ⟨gb115, 4, none⟩) (Kd.R_far (p := ⟨gb115, 3, none⟩) (Kd.R_far (p := ⟨gb115, 2, none⟩) (Kd.R_far (p := ⟨gb115, 1, none⟩) (Kd.R_far (p := ⟨gb115, 0, none⟩) (Kd.R_types HO_4.out BK115.out (by decide)) (fun _ hk => hk.2) (.int .i64 ((rd_T57 l0 x5_2).f0))) (fun _ hk => hk.2) (.int .i64 ((rd_T57 l0 x5_2).f1))) (fun _ hk => hk.2) (.int .i64 ((rd_T57 l0 x5_2).f2))) (fun _ hk => hk.2) (.int .i64 ((rd_T57 l0 x5_2).f3))) (fun _ hk => hk.2) (.int .i64 ((rd_T57 l0 x5_2).f4))) (fun _ hk => hk.2) (.int .i64 ((rd_T57 l0 x5_2).f5))) (fun _ hk => trivial)⟩
                        have n1_ : Aside0 (((((((wr.setCell ⟨gb115, 0, none⟩ (.int .i64 ((rd_T57 l0 x5_2).f0))).setCell ⟨gb115, 1, none⟩ (.int .i64 ((rd_T57 l0 x5_2).f1))).setCell ⟨gb115, 2, none⟩ (.int .i64 ((rd_T57 l0 x5_2).f2))).setCell ⟨gb115, 3, none⟩ (.int .i64 ((rd_T57 l0 x5_2).f3))).setCell ⟨gb115, 4, none⟩ (.int .i64 ((rd_T57 l0 x5_2).f4))).setCell ⟨gb115, 5, none⟩ (.int .i64 ((rd_T57 l0 x5_2).f5))).heap[gb115]? = some (.cells #[.int .i64 ((rd_T57 l0 x5_2).f0), .int .i64 ((rd_T57 l0 x5_2).f1), .int .i64 ((rd_T57 l0 x5_2).f2), .int .i64 ((rd_T57 l0 x5_2).f3), .int .i64 ((rd_T57 l0 x5_2).f4), .int .i64 ((rd_T57 l0 x5_2).f5)] 57 (0, 0))) := ⟨by (with_reducible repeat (first | refine blk_drewN ?_ _ | refine blk_drew ?_ | refine blk_alloc ?_ _)); refine blk_put (cs := #[.int .i64 ((rd_T57 l0 x5_2).f0), .int .i64 ((rd_T57 l0 x5_2).f1), .int .i64 ((rd_T57 l0 x5_2).f2), .int .i64 ((rd_T57 l0 x5_2).f3), .int .i64 ((rd_T57 l0 x5_2).f4), .int .i64 x116005_2]) ?_ 5 _ rfl; (with_reducible repeat (first | refine blk_drewN ?_ _ | refine blk_drew ?_ | refine blk_alloc ?_ _)); refine blk_put (cs := #[.int .i64 ((rd_T57 l0 x5_2).f0), .int .i64 ((rd_T57 l0 x5_2).f1), .int .i64 ((rd_T57 l0 x5_2).f2), .int .i64 ((rd_T57 l0 x5_2).f3), .int .i64 x116004_2, .int .i64 x116005_2]) ?_ 4 _ rfl; (with_reducible repeat (first | refine blk_drewN ?_ _ | refine blk_drew ?_ | refine blk_alloc ?_ _)); refine blk_put (cs := #[.int .i64 ((rd_T57 l0 x5_2).f0), .int .i64 ((rd_T57 l0 x5_2).f1), .int .i64 ((rd_T57 l0 x5_2).f2), .int .i64 x116003_2, .int .i64 x116004_2, .int .i64 x116005_2]) ?_ 3 _ rfl; (with_reducible repeat (first | refine blk_drewN ?_ _ | refine blk_drew ?_ | refine blk_alloc ?_ _)); refine blk_put (cs := #[.int .i64 ((rd_T57 l0 x5_2).f0), .int .i64 ((rd_T57 l0 x5_2).f1), .int .i64 x116002_2, .int .i64 x116003_2, .int .i64 x116004_2, .int .i64 x116005_2]) ?_ 2 _ rfl; (with_reducible repeat (first | refine blk_drewN ?_ _ | refine blk_drew ?_ | refine blk_alloc ?_ _)); refine blk_put (cs := #[.int .i64 ((rd_T57 l0 x5_2).f0), .int .i64 x116001_2, .int .i64 x116002_2, .int .i64 x116003_2, .int .i64 x116004_2, .int .i64 x116005_2]) ?_ 1 _ rfl; (with_reducible repeat (first | refine blk_drewN ?_ _ | refine blk_drew ?_ | refine blk_alloc ?_ _)); refine blk_put (cs := #[.int .i64 x116000_2, .int .i64 x116001_2, .int .i64 x116002_2, .int .i64 x116003_2, .int .i64 x116004_2, .int .i64 x116005_2]) ?_ 0 _ rfl; (with_reducible repeat (first | refine blk_drewN ?_ _ | refine blk_drew ?_ | refine blk_alloc ?_ _)); exact BK115.out⟩
                        have n2_ : Aside0 (Below w.heap.size w ((((((wr.setCell ⟨gb115, 0, none⟩ (.int .i64 ((rd_T57 l0 x5_2).f0))).setCell ⟨gb115, 1, none⟩ (.int .i64 ((rd_T57 l0 x5_2).f1))).setCell ⟨gb115, 2, none⟩ (.int .i64 ((rd_T57 l0 x5_2).f2))).setCell ⟨gb115, 3, none⟩ (.int .i64 ((rd_T57 l0 x5_2).f3))).setCell ⟨gb115, 4, none⟩ (.int .i64 ((rd_T57 l0 x5_2).f4))).setCell ⟨gb115, 5, none⟩ (.int .i64 ((rd_T57 l0 x5_2).f5)))) := ⟨by repeat (first | (with_reducible first | exact HB.out | apply below_alloc | apply pw_below_drewN | apply below_drew1 | refine below_set ?_ GE115.out) | exact HB.out)⟩
                        (try clear HO_4)
                        (try clear BK115)
                        (try clear HB)
                        generalize ((((((wr.setCell ⟨gb115, 0, none⟩ (.int .i64 ((rd_T57 l0 x5_2).f0))).setCell ⟨gb115, 1, none⟩ (.int .i64 ((rd_T57 l0 x5_2).f1))).setCell ⟨gb115, 2, none⟩ (.int .i64 ((rd_T57 l0 x5_2).f2))).setCell ⟨gb115, 3, none⟩ (.int .i64 ((rd_T57 l0 x5_2).f3))).setCell ⟨gb115, 4, none⟩ (.int .i64 ((rd_T57 l0 x5_2).f4))).setCell ⟨gb115, 5, none⟩ (.int .i64 ((rd_T57 l0 x5_2).f5))) = w22 at n0_ n1_ n2_ ⊢
                        have HO_4 := n0_
                        have BK115 := n1_
                        have HB := n2_
                        clear n0_ n1_ n2_
                        (try (rw [drewN_self w22]; generalize hq_ : World.drewN w22 _ = w22; have n0_ := Aside0.mk (Kd.R_at hq_ HO_4.out); have n1_ := Aside0.mk (blk_at hq_ BK115.out); have n2_ := Aside0.mk (below_at hq_ HB.out); clear hq_ HO_4 BK115 HB; have HO_4 := n0_; have BK115 := n1_; have HB := n2_; clear n0_ n1_ n2_))
                        have hcz23_0 : w22.cell? ⟨gb115, 0, none⟩ = some (.int .i64 ((rd_T57 l0 x5_2).f0)) := (blk_cell BK115.out 0).trans rfl
                        have hcz23_1 : w22.cell? ⟨gb115, 1, none⟩ = some (.int .i64 ((rd_T57 l0 x5_2).f1)) := (blk_cell BK115.out 1).trans rfl
                        have hcz23_2 : w22.cell? ⟨gb115, 2, none⟩ = some (.int .i64 ((rd_T57 l0 x5_2).f2)) := (blk_cell BK115.out 2).trans rfl
                        have hcz23_3 : w22.cell? ⟨gb115, 3, none⟩ = some (.int .i64 ((rd_T57 l0 x5_2).f3)) := (blk_cell BK115.out 3).trans rfl
                        have hcz23_4 : w22.cell? ⟨gb115, 4, none⟩ = some (.int .i64 ((rd_T57 l0 x5_2).f4)) := (blk_cell BK115.out 4).trans rfl
                        have hcz23_5 : w22.cell? ⟨gb115, 5, none⟩ = some (.int .i64 ((rd_T57 l0 x5_2).f5)) := (blk_cell BK115.out 5).trans rfl
                        have hfz23_0 := blk_frozen BK115.out 0
                        have hfz23_1 := blk_frozen BK115.out 1
                        have hfz23_2 := blk_frozen BK115.out 2
                        have hfz23_3 := blk_frozen BK115.out 3
                        have hfz23_4 := blk_frozen BK115.out 4
                        have hfz23_5 := blk_frozen BK115.out 5
                        have p21 : 0 ≤ (0 : Int) := (by omega)
                        have q21 : (0 : Int) < ((x4_2.length : Int) : Int) := of_decide_eq_true (by first | (with_reducible assumption) | assumption)
                        have qi21 : (0 < x4_2.length) = True := eq_true (by omega)
                        obtain ⟨go21, co21, eo21, gb21, gl21, cl21, HG21⟩ := Kd.R_form HO_4.out (by omega)
                        (first | cases eo21 | (injection eo21 with ea_ en_ ec_; (first | subst ea_ | (injection ea_ with ea_; subst ea_)); subst ec_; clear en_))
                        have GB21 := Aside0.mk gb21
                        have GG21 := Aside0.mk HG21
                        clear gb21 gl21 HG21
                        (first | simp only [add_plain] at hx120_0 | skip)
                        obtain ⟨hx21_0, hf21_0⟩ := Kd.R_celln 0 HO_4.out (0 : Int) p21 q21
                        (try rw [show ((0 : Int)).toNat = 0 from rfl] at hx21_0)
                        (try simp only [Nat.reduceMul, Nat.zero_mul, Nat.zero_add, Nat.reduceAdd] at hx21_0)
                        (try rw [show ((0 : Int)).toNat = 0 from rfl] at hf21_0)
                        (try simp only [Nat.reduceMul, Nat.zero_mul, Nat.zero_add, Nat.reduceAdd] at hf21_0)
                        replace p21 := eq_true p21
                        replace q21 := eq_true q21
                        obtain ⟨hy24_, hz24_⟩ := Kd.R_celln 0 HO_4.out (0 : Int) (by omega) (of_decide_eq_true (by first | (with_reducible assumption) | assumption))
                        (try simp only [Int.reduceToNat, Int.toNat_zero, Int.toNat_ofNat, Nat.reduceMul, Nat.zero_mul, Nat.zero_add] at hy24_ hz24_)
                        (try rw [show ((0 : Int)).toNat = 0 from rfl] at hy24_)
                        (try rw [show ((0 : Int)).toNat = 0 from rfl] at hz24_)
                        have HP24 := Kd.R_putg HO_4.out (0 : Int) ((rd_T57 l0 x5_2).f0)
                        go_wp2_with (first | ((with_reducible refine gate_store (t := 2) (p := 52) rfl ?_); (try (rw [drewN_self w22]; generalize hq_ : World.drewN w22 _ = w22; have n0_ := Aside0.mk (Kd.R_at hq_ HO_4.out); have n1_ := Aside0.mk (blk_at hq_ BK115.out); have n2_ := Aside0.mk (below_at hq_ HB.out); clear hq_ HO_4 BK115 HB; have HO_4 := n0_; have BK115 := n1_; have HB := n2_; clear n0_ n1_ n2_; (try (obtain ⟨hy24_, hz24_⟩ := Kd.R_celln 0 HO_4.out (0 : Int) (by omega) (of_decide_eq_true (by first | (with_reducible assumption) | assumption)))); (try (try simp only [Int.reduceToNat, Int.toNat_zero, Int.toNat_ofNat, Nat.reduceMul, Nat.zero_mul, Nat.zero_add] at hy24_ hz24_)); (try (try rw [show ((0 : Int)).toNat = 0 from rfl] at hy24_)); (try (try rw [show ((0 : Int)).toNat = 0 from rfl] at hz24_)); (try (have HP24 := Kd.R_putg HO_4.out (0 : Int) ((rd_T57 l0 x5_2).f0))))); refine store_event (t := 2) (p := 52) (v := ?vo_w25) (w1 := (w22.setCell ⟨go21, (0 : Int).toNat, none⟩ (.int .i64 ((rd_T57 l0 x5_2).f0)))) ?hg ?ho ?hn ?hr ?_; (case ho => rfl); (case hg => rfl); (case hn => rfl); (case hr => first | (go_simp; done) | (go_simp; rfl)); intro w25 hw; have hg : w22.grownBy w25 (some go21) := (by rw [hw]; exact HP24.2); have hp_ : Kd.R (Kd.int .i64) 2 w25 w.heap.size (fun _ => True) (.slice (some ⟨go21, 0, none⟩) x4_2.length co19) y121 := (by rw [hw, Ny121.out]; exact HP24.1); clear HP24; have n0_ := Aside0.mk (hp_); have n1_ := Aside0.mk (blk_grown (g := gb115) (o := .cells #[.int .i64 ((rd_T57 l0 x5_2).f0), .int .i64 ((rd_T57 l0 x5_2).f1), .int .i64 ((rd_T57 l0 x5_2).f2), .int .i64 ((rd_T57 l0 x5_2).f3), .int .i64 ((rd_T57 l0 x5_2).f4), .int .i64 ((rd_T57 l0 x5_2).f5)] 57 (0, 0)) (by (with_reducible repeat (first | refine blk_drewN ?_ _ | refine blk_drew ?_ | refine blk_alloc ?_ _)); exact BK115.out) hg (Kd.R_ne HO_4.out BK115.out (by decide))); have n2_ := Aside0.mk ((by rw [hw]; exact below_set (HB.out) GB21.out : Below w.heap.size w w25)); clear HO_4; clear BK115; clear HB; have HO_4 := n0_; have BK115 := n1_; have HB := n2_; clear n0_ n1_ n2_; clear hg hw hp_))
                        repeat (go_quiet (first | ((with_reducible refine gate_store (t := 2) (p := 52) rfl ?_); (try (rw [drewN_self w22]; generalize hq_ : World.drewN w22 _ = w22; have n0_ := Aside0.mk (Kd.R_at hq_ HO_4.out); have n1_ := Aside0.mk (blk_at hq_ BK115.out); have n2_ := Aside0.mk (below_at hq_ HB.out); clear hq_ HO_4 BK115 HB; have HO_4 := n0_; have BK115 := n1_; have HB := n2_; clear n0_ n1_ n2_; (try (obtain ⟨hy24_, hz24_⟩ := Kd.R_celln 0 HO_4.out (0 : Int) (by omega) (of_decide_eq_true (by first | (with_reducible assumption) | assumption)))); (try (try simp only [Int.reduceToNat, Int.toNat_zero, Int.toNat_ofNat, Nat.reduceMul, Nat.zero_mul, Nat.zero_add] at hy24_ hz24_)); (try (try rw [show ((0 : Int)).toNat = 0 from rfl] at hy24_)); (try (try rw [show ((0 : Int)).toNat = 0 from rfl] at hz24_)); (try (have HP24 := Kd.R_putg HO_4.out (0 : Int) ((rd_T57 l0 x5_2).f0))))); refine store_event (t := 2) (p := 52) (v := ?vo_w25) (w1 := (w22.setCell ⟨go21, (0 : Int).toNat, none⟩ (.int .i64 ((rd_T57 l0 x5_2).f0)))) ?hg ?ho ?hn ?hr ?_; (case ho => rfl); (case hg => rfl); (case hn => rfl); (case hr => first | (go_simp; done) | (go_simp; rfl)); intro w25 hw; have hg : w22.grownBy w25 (some go21) := (by rw [hw]; exact HP24.2); have hp_ : Kd.R (Kd.int .i64) 2 w25 w.heap.size (fun _ => True) (.slice (some ⟨go21, 0, none⟩) x4_2.length co19) y121 := (by rw [hw, Ny121.out]; exact HP24.1); clear HP24; have n0_ := Aside0.mk (hp_); have n1_ := Aside0.mk (blk_grown (g := gb115) (o := .cells #[.int .i64 ((rd_T57 l0 x5_2).f0), .int .i64 ((rd_T57 l0 x5_2).f1), .int .i64 ((rd_T57 l0 x5_2).f2), .int .i64 ((rd_T57 l0 x5_2).f3), .int .i64 ((rd_T57 l0 x5_2).f4), .int .i64 ((rd_T57 l0 x5_2).f5)] 57 (0, 0)) (by (with_reducible repeat (first | refine blk_drewN ?_ _ | refine blk_drew ?_ | refine blk_alloc ?_ _)); exact BK115.out) hg (Kd.R_ne HO_4.out BK115.out (by decide))); have n2_ := Aside0.mk ((by rw [hw]; exact below_set (HB.out) GB21.out : Below w.heap.size w w25)); clear HO_4; clear BK115; clear HB; have HO_4 := n0_; have BK115 := n1_; have HB := n2_; clear n0_ n1_ n2_; clear hg hw hp_)); try go_wp2_with (first | ((with_reducible refine gate_store (t := 2) (p := 52) rfl ?_); (try (rw [drewN_self w22]; generalize hq_ : World.drewN w22 _ = w22; have n0_ := Aside0.mk (Kd.R_at hq_ HO_4.out); have n1_ := Aside0.mk (blk_at hq_ BK115.out); have n2_ := Aside0.mk (below_at hq_ HB.out); clear hq_ HO_4 BK115 HB; have HO_4 := n0_; have BK115 := n1_; have HB := n2_; clear n0_ n1_ n2_; (try (obtain ⟨hy24_, hz24_⟩ := Kd.R_celln 0 HO_4.out (0 : Int) (by omega) (of_decide_eq_true (by first | (with_reducible assumption) | assumption)))); (try (try simp only [Int.reduceToNat, Int.toNat_zero, Int.toNat_ofNat, Nat.reduceMul, Nat.zero_mul, Nat.zero_add] at hy24_ hz24_)); (try (try rw [show ((0 : Int)).toNat = 0 from rfl] at hy24_)); (try (try rw [show ((0 : Int)).toNat = 0 from rfl] at hz24_)); (try (have HP24 := Kd.R_putg HO_4.out (0 : Int) ((rd_T57 l0 x5_2).f0))))); refine store_event (t := 2) (p := 52) (v := ?vo_w25) (w1 := (w22.setCell ⟨go21, (0 : Int).toNat, none⟩ (.int .i64 ((rd_T57 l0 x5_2).f0)))) ?hg ?ho ?hn ?hr ?_; (case ho => rfl); (case hg => rfl); (case hn => rfl); (case hr => first | (go_simp; done) | (go_simp; rfl)); intro w25 hw; have hg : w22.grownBy w25 (some go21) := (by rw [hw]; exact HP24.2); have hp_ : Kd.R (Kd.int .i64) 2 w25 w.heap.size (fun _ => True) (.slice (some ⟨go21, 0, none⟩) x4_2.length co19) y121 := (by rw [hw, Ny121.out]; exact HP24.1); clear HP24; have n0_ := Aside0.mk (hp_); have n1_ := Aside0.mk (blk_grown (g := gb115) (o := .cells #[.int .i64 ((rd_T57 l0 x5_2).f0), .int .i64 ((rd_T57 l0 x5_2).f1), .int .i64 ((rd_T57 l0 x5_2).f2), .int .i64 ((rd_T57 l0 x5_2).f3), .int .i64 ((rd_T57 l0 x5_2).f4), .int .i64 ((rd_T57 l0 x5_2).f5)] 57 (0, 0)) (by (with_reducible repeat (first | refine blk_drewN ?_ _ | refine blk_drew ?_ | refine blk_alloc ?_ _)); exact BK115.out) hg (Kd.R_ne HO_4.out BK115.out (by decide))); have n2_ := Aside0.mk ((by rw [hw]; exact below_set (HB.out) GB21.out : Below w.heap.size w w25)); clear HO_4; clear BK115; clear HB; have HO_4 := n0_; have BK115 := n1_; have HB := n2_; clear n0_ n1_ n2_; clear hg hw hp_)))
                        go_meet
                        case rel => exact ⟨_, (y121), H', ⟨by have := HJ1.out; have := HK2.out; first | omega | exact Nat.le_refl _⟩, ⟨by (with_reducible repeat (first | apply Kd.R_alloc | apply Kd.R_drewN | apply Kd.R_drew)); exact HO_4.out⟩, ⟨by (with_reducible repeat (first | refine blk_drewN ?_ _ | refine blk_drew ?_ | refine blk_alloc ?_ _)); exact BK115.out⟩, ⟨by repeat (first | (with_reducible first | exact HB.out | apply below_alloc | apply pw_below_drewN | apply below_drew1 | refine below_set ?_ GE115.out) | exact HB.out)⟩⟩
                      · rw [if_neg c20] at H
                        have c20b0 : decide (((rd_T57 l0 x5_2).f0) < (rd x4_2 0)) = false := decide_eq_false c20
                        clear c20
                        (first | rw [c20b0] | (simp only [i64_w, i32_w]; rw [c20b0]) | skip)
                        have H' := Aside0.mk H
                        clear H
                        go_wp2
                        repeat (go_quiet (fail); try go_wp2)
                        go_meet
                        case rel => exact ⟨_, (x4_2), H', ⟨by have := HJ1.out; have := HK2.out; first | omega | exact Nat.le_refl _⟩, ⟨by (with_reducible repeat (first | apply Kd.R_alloc | apply Kd.R_drewN | apply Kd.R_drew)); exact Kd.R_mono (Kd.R_far (p := ⟨gb115, 5, none⟩) (Kd.R_far (p := ⟨gb115, 4, none⟩) (Kd.R_far (p := ⟨gb115, 3, none⟩) (Kd.R_far (p := ⟨gb115, 2, none⟩) (Kd.R_far (p := ⟨gb115, 1, none⟩) (Kd.R_far (p := ⟨gb115, 0, none⟩) (Kd.R_types HO_4.out BK115.out (by decide)) (fun _ hk => hk.2) (.int .i64 ((rd_T57 l0 x5_2).f0))) (fun _ hk => hk.2) (.int .i64 ((rd_T57 l0 x5_2).f1))) (fun _ hk => hk.2) (.int .i64 ((rd_T57 l0 x5_2).f2))) (fun _ hk => hk.2) (.int .i64 ((rd_T57 l0 x5_2).f3))) (fun _ hk => hk.2) (.int .i64 ((rd_T57 l0 x5_2).f4))) (fun _ hk => hk.2) (.int .i64 ((rd_T57 l0 x5_2).f5))) (fun _ hk => trivial)⟩, ⟨by (with_reducible repeat (first | refine blk_drewN ?_ _ | refine blk_drew ?_ | refine blk_alloc ?_ _)); refine blk_put (cs := #[.int .i64 ((rd_T57 l0 x5_2).f0), .int .i64 ((rd_T57 l0 x5_2).f1), .int .i64 ((rd_T57 l0 x5_2).f2), .int .i64 ((rd_T57 l0 x5_2).f3), .int .i64 ((rd_T57 l0 x5_2).f4), .int .i64 x116005_2]) ?_ 5 _ rfl; (with_reducible repeat (first | refine blk_drewN ?_ _ | refine blk_drew ?_ | refine blk_alloc ?_ _)); refine blk_put (cs := #[.int .i64 ((rd_T57 l0 x5_2).f0), .int .i64 ((rd_T57 l0 x5_2).f1), .int .i64 ((rd_T57 l0 x5_2).f2), .int .i64 ((rd_T57 l0 x5_2).f3), .int .i64 x116004_2, .int .i64 x116005_2]) ?_ 4 _ rfl; (with_reducible repeat (first | refine blk_drewN ?_ _ | refine blk_drew ?_ | refine blk_alloc ?_ _)); refine blk_put (cs := #[.int .i64 ((rd_T57 l0 x5_2).f0), .int .i64 ((rd_T57 l0 x5_2).f1), .int .i64 ((rd_T57 l0 x5_2).f2), .int .i64 x116003_2, .int .i64 x116004_2, .int .i64 x116005_2]) ?_ 3 _ rfl; (with_reducible repeat (first | refine blk_drewN ?_ _ | refine blk_drew ?_ | refine blk_alloc ?_ _)); refine blk_put (cs := #[.int .i64 ((rd_T57 l0 x5_2).f0), .int .i64 ((rd_T57 l0 x5_2).f1), .int .i64 x116002_2, .int .i64 x116003_2, .int .i64 x116004_2, .int .i64 x116005_2]) ?_ 2 _ rfl; (with_reducible repeat (first | refine blk_drewN ?_ _ | refine blk_drew ?_ | refine blk_alloc ?_ _)); refine blk_put (cs := #[.int .i64 ((rd_T57 l0 x5_2).f0), .int .i64 x116001_2, .int .i64 x116002_2, .int .i64 x116003_2, .int .i64 x116004_2, .int .i64 x116005_2]) ?_ 1 _ rfl; (with_reducible repeat (first | refine blk_drewN ?_ _ | refine blk_drew ?_ | refine blk_alloc ?_ _)); refine blk_put (cs := #[.int .i64 x116000_2, .int .i64 x116001_2, .int .i64 x116002_2, .int .i64 x116003_2, .int .i64 x116004_2, .int .i64 x116005_2]) ?_ 0 _ rfl; (with_reducible repeat (first | refine blk_drewN ?_ _ | refine blk_drew ?_ | refine blk_alloc ?_ _)); exact BK115.out⟩, ⟨by repeat (first | (with_reducible first | exact HB.out | apply below_alloc | apply pw_below_drewN | apply below_drew1 | refine below_set ?_ GE115.out) | exact HB.out)⟩⟩
                    case rest =>
                      clear HC17
                      try clear c1
                      try clear p1
                      try clear q1
                      try clear hx1
                      try clear qi1
                      try clear c2
                      try clear p2
                      try clear q2
                      try clear hx2
                      try clear qi2
                      try clear hf2
                      try clear c3
                      try clear c3b0
                      try clear c3b1
                      try clear c3b2
                      try clear c4
                      try clear c6
                      try clear p6
                      try clear c9
                      try clear c9b0
                      try clear c9b1
                      try clear p11
                      try clear q11
                      try clear hx11
                      try clear qi11
                      try clear p12
                      try clear q12
                      try clear hx12
                      try clear qi12
                      try clear c14
                      try clear c14b0
                      try clear c15
                      try clear c15b0
                      try clear c16
                      try clear c16b0
                      try clear c16b1
                      try clear c20
                      try clear c20b0
                      try clear p21
                      try clear q21
                      try clear hx21
                      try clear qi21
                      try clear hf21
                      try clear hcz11_0
                      try clear hcz11_1
                      try clear hcz11_2
                      try clear hcz11_3
                      try clear hcz11_4
                      try clear hcz11_5
                      try clear hcz18_0
                      try clear hcz18_1
                      try clear hcz18_2
                      try clear hcz18_3
                      try clear hcz18_4
                      try clear hcz18_5
                      try clear hcz23_0
                      try clear hcz23_1
                      try clear hcz23_2
                      try clear hcz23_3
                      try clear hcz23_4
                      try clear hcz23_5
                      try clear hfz11_0
                      try clear hfz11_1
                      try clear hfz11_2
                      try clear hfz11_3
                      try clear hfz11_4
                      try clear hfz11_5
                      try clear hfz18_0
                      try clear hfz18_1
                      try clear hfz18_2
                      try clear hfz18_3
                      try clear hfz18_4
                      try clear hfz18_5
                      try clear hfz23_0
                      try clear hfz23_1
                      try clear hfz23_2
                      try clear hfz23_3
                      try clear hfz23_4
                      try clear hfz23_5
                      try clear hx114_0
                      try clear hx114_1
                      try clear hx114_2
                      try clear hx114_3
                      try clear hx114_4
                      try clear hx114_5
                      try clear hx119_0
                      try clear hx119_1
                      try clear hx119_2
                      try clear hx119_3
                      try clear hx119_4
                      try clear hx119_5
                      try clear hx120_0
                      try clear hx21_0
                      try clear p1
                      try clear p11
                      try clear p114
                      try clear p119
                      try clear p120
                      try clear p2
                      try clear p21
                      try clear p6
                      try clear q1
                      try clear q11
                      try clear q114
                      try clear q119
                      try clear q120
                      try clear q21
                      obtain ⟨kq, x4_16, HA, HJ16, HO_4, BK115, HB⟩ := hcut
                      have hl4_16 := (Kd.R_reads' HO_4.out).1
                      rw [hl4_16] at HO_4
                      (try simp only [hl4_16])
                      (try simp only [hl4_16] at BK115)
                      cases kq with
                      | zero => exact absurd HA.out (by simp [spec_Bounds.j2])
                      | succ kj16 =>
                        have H := HA.out
                        clear HA
                        simp only [spec_Bounds.j2] at H
                        by_cases c26 : 1 < (x4_16.length : Int)
                        · rw [if_pos c26] at H
                          have c26b0 : decide (1 < (x4_16.length : Int)) = true := decide_eq_true c26
                          have c26b1 : decide (1 < x4_16.length) = true := decide_eq_true (by omega)
                          clear c26
                          have HC27 := Aside0.mk H
                          clear H
                          have hcz28_0 : wc.cell? ⟨gb115, 0, none⟩ = some (.int .i64 ((rd_T57 l0 x5_2).f0)) := (blk_cell BK115.out 0).trans rfl
                          have hcz28_1 : wc.cell? ⟨gb115, 1, none⟩ = some (.int .i64 ((rd_T57 l0 x5_2).f1)) := (blk_cell BK115.out 1).trans rfl
                          have hcz28_2 : wc.cell? ⟨gb115, 2, none⟩ = some (.int .i64 ((rd_T57 l0 x5_2).f2)) := (blk_cell BK115.out 2).trans rfl
                          have hcz28_3 : wc.cell? ⟨gb115, 3, none⟩ = some (.int .i64 ((rd_T57 l0 x5_2).f3)) := (blk_cell BK115.out 3).trans rfl
                          have hcz28_4 : wc.cell? ⟨gb115, 4, none⟩ = some (.int .i64 ((rd_T57 l0 x5_2).f4)) := (blk_cell BK115.out 4).trans rfl
                          have hcz28_5 : wc.cell? ⟨gb115, 5, none⟩ = some (.int .i64 ((rd_T57 l0 x5_2).f5)) := (blk_cell BK115.out 5).trans rfl
                          have hfz28_0 := blk_frozen BK115.out 0
                          have hfz28_1 := blk_frozen BK115.out 1
                          have hfz28_2 := blk_frozen BK115.out 2
                          have hfz28_3 := blk_frozen BK115.out 3
                          have hfz28_4 := blk_frozen BK115.out 4
                          have hfz28_5 := blk_frozen BK115.out 5
                          have p122 : 0 ≤ (1 : Int) := (by omega)
                          have q122 : 1 < (x4_16.length : Int) := of_decide_eq_true (by first | (with_reducible assumption) | assumption)
                          obtain ⟨ad122, e122, hx122_0⟩ := Kd.at_int (Kd.R_reads' HO_4.out).2.2 1 p122 q122
                          obtain rfl : ad120 = ad122 := (by injection e122)
                          (try simp only [show (1 : Int).toNat = 1 from rfl, Nat.reduceMul, Nat.reduceEqDiff, Go.Addr.add, ↓reduceIte] at hx122_0)
                          have qi122 : (1 < x4_16.length) = True := eq_true (by omega)
                          (try rw [show ((1 : Int)).toNat = 1 from rfl] at hx122_0)
                          replace p122 := eq_true p122
                          replace q122 := eq_true q122
                          go_upto_if 61 with (fail)
                          repeat (go_quiet (fail); go_upto_if 61 with (fail))
                          go_cut [] (fun wc => ∃ (kq : Nat) (x4_26 : List Int), Aside0 (spec_Bounds.j3 kq l0 x4_26 x5_2 ((rd_T57 l0 x5_2).f0) ((rd_T57 l0 x5_2).f1) ((rd_T57 l0 x5_2).f2) ((rd_T57 l0 x5_2).f3) ((rd_T57 l0 x5_2).f4) ((rd_T57 l0 x5_2).f5) = some r) ∧ Aside0 (kq ≤ kj16) ∧ Aside0 (Kd.R (Kd.int .i64) 2 wc w.heap.size (fun _ => True) (.slice (some ad120) x4_16.length co19) x4_26) ∧ Aside0 (wc.heap[gb115]? = some (.cells #[.int .i64 ((rd_T57 l0 x5_2).f0), .int .i64 ((rd_T57 l0 x5_2).f1), .int .i64 ((rd_T57 l0 x5_2).f2), .int .i64 ((rd_T57 l0 x5_2).f3), .int .i64 ((rd_T57 l0 x5_2).f4), .int .i64 ((rd_T57 l0 x5_2).f5)] 57 (0, 0))) ∧ Aside0 (Below w.heap.size w wc))
                          case first =>
                            have H := HC27.out
                            clear HC27
                            by_cases c29 : (wrap64 (((rd_T57 l0 x5_2).f1) - ((rd_T57 l0 x5_2).f5))) < (rd x4_16 1)
                            · rw [if_pos c29] at H
                              have c29b0 : decide ((wrap64 (((rd_T57 l0 x5_2).f1) - ((rd_T57 l0 x5_2).f5))) < (rd x4_16 1)) = true := decide_eq_true c29
                              clear c29
                              (first | rw [c29b0] | (simp only [i64_w, i32_w]; rw [c29b0]) | skip)
                              obtain ⟨y123, hy123⟩ : ∃ y_ : List Int, y_ = (x4_16.set (1 : Int).toNat (wrap64 (((rd_T57 l0 x5_2).f1) - ((rd_T57 l0 x5_2).f5)))) := ⟨_, rfl⟩
                              replace H : (spec_Bounds.j3 kj16 l0 y123 x5_2 ((rd_T57 l0 x5_2).f0) ((rd_T57 l0 x5_2).f1) ((rd_T57 l0 x5_2).f2) ((rd_T57 l0 x5_2).f3) ((rd_T57 l0 x5_2).f4) ((rd_T57 l0 x5_2).f5)) = some r := by first | (rw [hy123]; with_reducible exact H) | (have H2_ := (Option.bind_some _ _).symm.trans H; rw [hy123]; with_reducible exact H2_) | (have H2_ := (Option.bind_some _ _).symm.trans H; with_reducible exact H2_) | with_reducible exact H | (rw [hy123]; exact H) | exact H
                              have Ny123 := Aside0.mk hy123
                              clear hy123
                              have H' := Aside0.mk H
                              clear H
                              (try (rw [drewN_self wc]; generalize hq_ : World.drewN wc _ = wc; have n0_ := Aside0.mk (Kd.R_at hq_ HO_4.out); have n1_ := Aside0.mk (blk_at hq_ BK115.out); have n2_ := Aside0.mk (below_at hq_ HB.out); clear hq_ HO_4 BK115 HB; have HO_4 := n0_; have BK115 := n1_; have HB := n2_; clear n0_ n1_ n2_))
                              have hcz31_0 : wc.cell? ⟨gb115, 0, none⟩ = some (.int .i64 ((rd_T57 l0 x5_2).f0)) := (blk_cell BK115.out 0).trans rfl
                              have hcz31_1 : wc.cell? ⟨gb115, 1, none⟩ = some (.int .i64 ((rd_T57 l0 x5_2).f1)) := (blk_cell BK115.out 1).trans rfl
                              have hcz31_2 : wc.cell? ⟨gb115, 2, none⟩ = some (.int .i64 ((rd_T57 l0 x5_2).f2)) := (blk_cell BK115.out 2).trans rfl
                              have hcz31_3 : wc.cell? ⟨gb115, 3, none⟩ = some (.int .i64 ((rd_T57 l0 x5_2).f3)) := (blk_cell BK115.out 3).trans rfl
                              have hcz31_4 : wc.cell? ⟨gb115, 4, none⟩ = some (.int .i64 ((rd_T57 l0 x5_2).f4)) := (blk_cell BK115.out 4).trans rfl
                              have hcz31_5 : wc.cell? ⟨gb115, 5, none⟩ = some (.int .i64 ((rd_T57 l0 x5_2).f5)) := (blk_cell BK115.out 5).trans rfl
                              have hfz31_0 := blk_frozen BK115.out 0
                              have hfz31_1 := blk_frozen BK115.out 1
                              have hfz31_2 := blk_frozen BK115.out 2
                              have hfz31_3 := blk_frozen BK115.out 3
                              have hfz31_4 := blk_frozen BK115.out 4
                              have hfz31_5 := blk_frozen BK115.out 5
                              have p30 : 0 ≤ (1 : Int) := (by omega)
                              have q30 : (1 : Int) < ((x4_16.length : Int) : Int) := of_decide_eq_true (by first | (with_reducible assumption) | assumption)
                              have qi30 : (1 < x4_16.length) = True := eq_true (by omega)
                              obtain ⟨go30, co30, eo30, gb30, gl30, cl30, HG30⟩ := Kd.R_form HO_4.out (by omega)
                              (first | cases eo30 | (injection eo30 with ea_ en_ ec_; (first | subst ea_ | (injection ea_ with ea_; subst ea_)); subst ec_; clear en_))
                              have GB30 := Aside0.mk gb30
                              have GG30 := Aside0.mk HG30
                              clear gb30 gl30 HG30
                              (first | simp only [add_plain] at hx122_0 | skip)
                              obtain ⟨hx30_0, hf30_0⟩ := Kd.R_celln 0 HO_4.out (1 : Int) p30 q30
                              (try rw [show ((1 : Int)).toNat = 1 from rfl] at hx30_0)
                              (try simp only [Nat.reduceMul, Nat.zero_mul, Nat.zero_add, Nat.reduceAdd] at hx30_0)
                              (try rw [show ((1 : Int)).toNat = 1 from rfl] at hf30_0)
                              (try simp only [Nat.reduceMul, Nat.zero_mul, Nat.zero_add, Nat.reduceAdd] at hf30_0)
                              replace p30 := eq_true p30
                              replace q30 := eq_true q30
                              obtain ⟨hy32_, hz32_⟩ := Kd.R_celln 0 HO_4.out (1 : Int) (by omega) (of_decide_eq_true (by first | (with_reducible assumption) | assumption))
                              (try simp only [Int.reduceToNat, Int.toNat_zero, Int.toNat_ofNat, Nat.reduceMul, Nat.zero_mul, Nat.zero_add] at hy32_ hz32_)
                              (try rw [show ((1 : Int)).toNat = 1 from rfl] at hy32_)
                              (try rw [show ((1 : Int)).toNat = 1 from rfl] at hz32_)
                              have HP32 := Kd.R_putg HO_4.out (1 : Int) (wrap64 (((rd_T57 l0 x5_2).f1) - ((rd_T57 l0 x5_2).f5)))
                              go_wp2_with (first | ((with_reducible refine gate_store (t := 2) (p := 68) rfl ?_); (try (rw [drewN_self wc]; generalize hq_ : World.drewN wc _ = wc; have n0_ := Aside0.mk (Kd.R_at hq_ HO_4.out); have n1_ := Aside0.mk (blk_at hq_ BK115.out); have n2_ := Aside0.mk (below_at hq_ HB.out); clear hq_ HO_4 BK115 HB; have HO_4 := n0_; have BK115 := n1_; have HB := n2_; clear n0_ n1_ n2_; (try (obtain ⟨hy32_, hz32_⟩ := Kd.R_celln 0 HO_4.out (1 : Int) (by omega) (of_decide_eq_true (by first | (with_reducible assumption) | assumption)))); (try (try simp only [Int.reduceToNat, Int.toNat_zero, Int.toNat_ofNat, Nat.reduceMul, Nat.zero_mul, Nat.zero_add] at hy32_ hz32_)); (try (try rw [show ((1 : Int)).toNat = 1 from rfl] at hy32_)); (try (try rw [show ((1 : Int)).toNat = 1 from rfl] at hz32_)); (try (have HP32 := Kd.R_putg HO_4.out (1 : Int) (wrap64 (((rd_T57 l0 x5_2).f1) - ((rd_T57 l0 x5_2).f5))))))); refine store_event (t := 2) (p := 68) (v := ?vo_w33) (w1 := (wc.setCell ⟨go30, (1 : Int).toNat, none⟩ (.int .i64 (wrap64 (((rd_T57 l0 x5_2).f1) - ((rd_T57 l0 x5_2).f5)))))) ?hg ?ho ?hn ?hr ?_; (case ho => rfl); (case hg => rfl); (case hn => rfl); (case hr => first | (go_simp; done) | (go_simp; rfl)); intro w33 hw; have hg : wc.grownBy w33 (some go30) := (by rw [hw]; exact HP32.2); have hp_ : Kd.R (Kd.int .i64) 2 w33 w.heap.size (fun _ => True) (.slice (some ⟨go30, 0, none⟩) x4_16.length co19) y123 := (by rw [hw, Ny123.out]; exact HP32.1); clear HP32; have n0_ := Aside0.mk (hp_); have n1_ := Aside0.mk (blk_grown (g := gb115) (o := .cells #[.int .i64 ((rd_T57 l0 x5_2).f0), .int .i64 ((rd_T57 l0 x5_2).f1), .int .i64 ((rd_T57 l0 x5_2).f2), .int .i64 ((rd_T57 l0 x5_2).f3), .int .i64 ((rd_T57 l0 x5_2).f4), .int .i64 ((rd_T57 l0 x5_2).f5)] 57 (0, 0)) (by (with_reducible repeat (first | refine blk_drewN ?_ _ | refine blk_drew ?_ | refine blk_alloc ?_ _)); exact BK115.out) hg (Kd.R_ne HO_4.out BK115.out (by decide))); have n2_ := Aside0.mk ((by rw [hw]; exact below_set (HB.out) GB30.out : Below w.heap.size w w33)); clear HO_4; clear BK115; clear HB; have HO_4 := n0_; have BK115 := n1_; have HB := n2_; clear n0_ n1_ n2_; clear hg hw hp_))
                              repeat (go_quiet (first | ((with_reducible refine gate_store (t := 2) (p := 68) rfl ?_); (try (rw [drewN_self wc]; generalize hq_ : World.drewN wc _ = wc; have n0_ := Aside0.mk (Kd.R_at hq_ HO_4.out); have n1_ := Aside0.mk (blk_at hq_ BK115.out); have n2_ := Aside0.mk (below_at hq_ HB.out); clear hq_ HO_4 BK115 HB; have HO_4 := n0_; have BK115 := n1_; have HB := n2_; clear n0_ n1_ n2_; (try (obtain ⟨hy32_, hz32_⟩ := Kd.R_celln 0 HO_4.out (1 : Int) (by omega) (of_decide_eq_true (by first | (with_reducible assumption) | assumption)))); (try (try simp only [Int.reduceToNat, Int.toNat_zero, Int.toNat_ofNat, Nat.reduceMul, Nat.zero_mul, Nat.zero_add] at hy32_ hz32_)); (try (try rw [show ((1 : Int)).toNat = 1 from rfl] at hy32_)); (try (try rw [show ((1 : Int)).toNat = 1 from rfl] at hz32_)); (try (have HP32 := Kd.R_putg HO_4.out (1 : Int) (wrap64 (((rd_T57 l0 x5_2).f1) - ((rd_T57 l0 x5_2).f5))))))); refine store_event (t := 2) (p := 68) (v := ?vo_w33) (w1 := (wc.setCell ⟨go30, (1 : Int).toNat, none⟩ (.int .i64 (wrap64 (((rd_T57 l0 x5_2).f1) - ((rd_T57 l0 x5_2).f5)))))) ?hg ?ho ?hn ?hr ?_; (case ho => rfl); (case hg => rfl); (case hn => rfl); (case hr => first | (go_simp; done) | (go_simp; rfl)); intro w33 hw; have hg : wc.grownBy w33 (some go30) := (by rw [hw]; exact HP32.2); have hp_ : Kd.R (Kd.int .i64) 2 w33 w.heap.size (fun _ => True) (.slice (some ⟨go30, 0, none⟩) x4_16.length co19) y123 := (by rw [hw, Ny123.out]; exact HP32.1); clear HP32; have n0_ := Aside0.mk (hp_); have n1_ := Aside0.mk (blk_grown (g := gb115) (o := .cells #[.int .i64 ((rd_T57 l0 x5_2).f0), .int .i64 ((rd_T57 l0 x5_2).f1), .int .i64 ((rd_T57 l0 x5_2).f2), .int .i64 ((rd_T57 l0 x5_2).f3), .int .i64 ((rd_T57 l0 x5_2).f4), .int .i64 ((rd_T57 l0 x5_2).f5)] 57 (0, 0)) (by (with_reducible repeat (first | refine blk_drewN ?_ _ | refine blk_drew ?_ | refine blk_alloc ?_ _)); exact BK115.out) hg (Kd.R_ne HO_4.out BK115.out (by decide))); have n2_ := Aside0.mk ((by rw [hw]; exact below_set (HB.out) GB30.out : Below w.heap.size w w33)); clear HO_4; clear BK115; clear HB; have HO_4 := n0_; have BK115 := n1_; have HB := n2_; clear n0_ n1_ n2_; clear hg hw hp_)); try go_wp2_with (first | ((with_reducible refine gate_store (t := 2) (p := 68) rfl ?_); (try (rw [drewN_self wc]; generalize hq_ : World.drewN wc _ = wc; have n0_ := Aside0.mk (Kd.R_at hq_ HO_4.out); have n1_ := Aside0.mk (blk_at hq_ BK115.out); have n2_ := Aside0.mk (below_at hq_ HB.out); clear hq_ HO_4 BK115 HB; have HO_4 := n0_; have BK115 := n1_; have HB := n2_; clear n0_ n1_ n2_; (try (obtain ⟨hy32_, hz32_⟩ := Kd.R_celln 0 HO_4.out (1 : Int) (by omega) (of_decide_eq_true (by first | (with_reducible assumption) | assumption)))); (try (try simp only [Int.reduceToNat, Int.toNat_zero, Int.toNat_ofNat, Nat.reduceMul, Nat.zero_mul, Nat.zero_add] at hy32_ hz32_)); (try (try rw [show ((1 : Int)).toNat = 1 from rfl] at hy32_)); (try (try rw [show ((1 : Int)).toNat = 1 from rfl] at hz32_)); (try (have HP32 := Kd.R_putg HO_4.out (1 : Int) (wrap64 (((rd_T57 l0 x5_2).f1) - ((rd_T57 l0 x5_2).f5))))))); refine store_event (t := 2) (p := 68) (v := ?vo_w33) (w1 := (wc.setCell ⟨go30, (1 : Int).toNat, none⟩ (.int .i64 (wrap64 (((rd_T57 l0 x5_2).f1) - ((rd_T57 l0 x5_2).f5)))))) ?hg ?ho ?hn ?hr ?_; (case ho => rfl); (case hg => rfl); (case hn => rfl); (case hr => first | (go_simp; done) | (go_simp; rfl)); intro w33 hw; have hg : wc.grownBy w33 (some go30) := (by rw [hw]; exact HP32.2); have hp_ : Kd.R (Kd.int .i64) 2 w33 w.heap.size (fun _ => True) (.slice (some ⟨go30, 0, none⟩) x4_16.length co19) y123 := (by rw [hw, Ny123.out]; exact HP32.1); clear HP32; have n0_ := Aside0.mk (hp_); have n1_ := Aside0.mk (blk_grown (g := gb115) (o := .cells #[.int .i64 ((rd_T57 l0 x5_2).f0), .int .i64 ((rd_T57 l0 x5_2).f1), .int .i64 ((rd_T57 l0 x5_2).f2), .int .i64 ((rd_T57 l0 x5_2).f3), .int .i64 ((rd_T57 l0 x5_2).f4), .int .i64 ((rd_T57 l0 x5_2).f5)] 57 (0, 0)) (by (with_reducible repeat (first | refine blk_drewN ?_ _ | refine blk_drew ?_ | refine blk_alloc ?_ _)); exact BK115.out) hg (Kd.R_ne HO_4.out BK115.out (by decide))); have n2_ := Aside0.mk ((by rw [hw]; exact below_set (HB.out) GB30.out : Below w.heap.size w w33)); clear HO_4; clear BK115; clear HB; have HO_4 := n0_; have BK115 := n1_; have HB := n2_; clear n0_ n1_ n2_; clear hg hw hp_)))
                              go_meet
                              case rel => exact ⟨_, (y123), H', ⟨by have := HJ1.out; have := HK2.out; have := HJ16.out; first | omega | exact Nat.le_refl _⟩, ⟨by (try simp only [hl4_16]); (with_reducible repeat (first | apply Kd.R_alloc | apply Kd.R_drewN | apply Kd.R_drew)); exact HO_4.out⟩, ⟨by (try simp only [hl4_16]); (with_reducible repeat (first | refine blk_drewN ?_ _ | refine blk_drew ?_ | refine blk_alloc ?_ _)); exact BK115.out⟩, ⟨by repeat (first | (with_reducible first | exact HB.out | apply below_alloc | apply pw_below_drewN | apply below_drew1 | refine below_set ?_ GE115.out) | exact HB.out)⟩⟩
                            · rw [if_neg c29] at H
                              have c29b0 : decide ((wrap64 (((rd_T57 l0 x5_2).f1) - ((rd_T57 l0 x5_2).f5))) < (rd x4_16 1)) = false := decide_eq_false c29
                              clear c29
                              (first | rw [c29b0] | (simp only [i64_w, i32_w]; rw [c29b0]) | skip)
                              have H' := Aside0.mk H
                              clear H
                              go_wp2
                              repeat (go_quiet (fail); try go_wp2)
                              go_meet
                              case rel => exact ⟨_, (x4_16), H', ⟨by have := HJ1.out; have := HK2.out; have := HJ16.out; first | omega | exact Nat.le_refl _⟩, ⟨by (try simp only [hl4_16]); (with_reducible repeat (first | apply Kd.R_alloc | apply Kd.R_drewN | apply Kd.R_drew)); exact HO_4.out⟩, ⟨by (try simp only [hl4_16]); (with_reducible repeat (first | refine blk_drewN ?_ _ | refine blk_drew ?_ | refine blk_alloc ?_ _)); exact BK115.out⟩, ⟨by repeat (first | (with_reducible first | exact HB.out | apply below_alloc | apply pw_below_drewN | apply below_drew1 | refine below_set ?_ GE115.out) | exact HB.out)⟩⟩
                          case rest =>
                            clear HC27
                            try clear c1
                            try clear p1
                            try clear q1
                            try clear hx1
                            try clear qi1
                            try clear c2
                            try clear p2
                            try clear q2
                            try clear hx2
                            try clear qi2
                            try clear hf2
                            try clear c3
                            try clear c3b0
                            try clear c3b1
                            try clear c3b2
                            try clear p3
                            try clear q3
                            try clear hx3
                            try clear qi3
                            try clear hf3
                            try clear c4
                            try clear c6
                            try clear p6
                            try clear c9
                            try clear c9b0
                            try clear c9b1
                            try clear p11
                            try clear q11
                            try clear hx11
                            try clear qi11
                            try clear p12
                            try clear q12
                            try clear hx12
                            try clear qi12
                            try clear c14
                            try clear c14b0
                            try clear c15
                            try clear c15b0
                            try clear c16
                            try clear c16b0
                            try clear c16b1
                            try clear c20
                            try clear c20b0
                            try clear p21
                            try clear q21
                            try clear hx21
                            try clear qi21
                            try clear hf21
                            try clear c26
                            try clear c26b0
                            try clear c26b1
                            try clear c29
                            try clear c29b0
                            try clear p30
                            try clear q30
                            try clear hx30
                            try clear qi30
                            try clear hf30
                            try clear hcz11_0
                            try clear hcz11_1
                            try clear hcz11_2
                            try clear hcz11_3
                            try clear hcz11_4
                            try clear hcz11_5
                            try clear hcz18_0
                            try clear hcz18_1
                            try clear hcz18_2
                            try clear hcz18_3
                            try clear hcz18_4
                            try clear hcz18_5
                            try clear hcz23_0
                            try clear hcz23_1
                            try clear hcz23_2
                            try clear hcz23_3
                            try clear hcz23_4
                            try clear hcz23_5
                            try clear hcz28_0
                            try clear hcz28_1
                            try clear hcz28_2
                            try clear hcz28_3
                            try clear hcz28_4
                            try clear hcz28_5
                            try clear hcz31_0
                            try clear hcz31_1
                            try clear hcz31_2
                            try clear hcz31_3
                            try clear hcz31_4
                            try clear hcz31_5
                            try clear hfz11_0
                            try clear hfz11_1
                            try clear hfz11_2
                            try clear hfz11_3
                            try clear hfz11_4
                            try clear hfz11_5
                            try clear hfz18_0
                            try clear hfz18_1
                            try clear hfz18_2
                            try clear hfz18_3
                            try clear hfz18_4
                            try clear hfz18_5
                            try clear hfz23_0
                            try clear hfz23_1
                            try clear hfz23_2
                            try clear hfz23_3
                            try clear hfz23_4
                            try clear hfz23_5
                            try clear hfz28_0
                            try clear hfz28_1
                            try clear hfz28_2
                            try clear hfz28_3
                            try clear hfz28_4
                            try clear hfz28_5
                            try clear hfz31_0
                            try clear hfz31_1
                            try clear hfz31_2
                            try clear hfz31_3
                            try clear hfz31_4
                            try clear hfz31_5
                            try clear hx114_0
                            try clear hx114_1
                            try clear hx114_2
                            try clear hx114_3
                            try clear hx114_4
                            try clear hx114_5
                            try clear hx119_0
                            try clear hx119_1
                            try clear hx119_2
                            try clear hx119_3
                            try clear hx119_4
                            try clear hx119_5
                            try clear hx120_0
                            try clear hx122_0
                            try clear hx21_0
                            try clear hx30_0
                            try clear p1
                            try clear p11
                            try clear p114
                            try clear p119
                            try clear p12
                            try clear p120
                            try clear p122
                            try clear p2
                            try clear p21
                            try clear p30
                            try clear p6
                            try clear q1
                            try clear q11
                            try clear q114
                            try clear q119
                            try clear q12
                            try clear q120
                            try clear q122
                            try clear q2
                            try clear q21
                            try clear q30
                            obtain ⟨kq, x4_26, HA, HJ26, HO_4, BK115, HB⟩ := hcut
                            have hl4_26 := (Kd.R_reads' HO_4.out).1
                            rw [hl4_26] at HO_4
                            (try simp only [hl4_26])
                            (try simp only [hl4_26] at BK115)
                            cases kq with
                            | zero => exact absurd HA.out (by simp [spec_Bounds.j3])
                            | succ kj26 =>
                              have H := HA.out
                              clear HA
                              simp only [spec_Bounds.j3] at H
                              by_cases c34 : 2 < (x4_26.length : Int)
                              · rw [if_pos c34] at H
                                have c34b0 : decide (2 < (x4_26.length : Int)) = true := decide_eq_true c34
                                have c34b1 : decide (2 < x4_26.length) = true := decide_eq_true (by omega)
                                clear c34
                                by_cases c35 : (wrap64 (((rd_T57 l0 x5_2).f0) + ((rd_T57 l0 x5_2).f4))) > (rd x4_26 2)
                                · rw [if_pos c35] at H
                                  have c35b0 : decide ((rd x4_26 2) < (wrap64 (((rd_T57 l0 x5_2).f0) + ((rd_T57 l0 x5_2).f4)))) = true := decide_eq_true c35
                                  clear c35
                                  obtain ⟨y125, hy125⟩ : ∃ y_ : List Int, y_ = (x4_26.set (2 : Int).toNat (wrap64 (((rd_T57 l0 x5_2).f0) + ((rd_T57 l0 x5_2).f4)))) := ⟨_, rfl⟩
                                  replace H : (if 3 < (x4_26.length : Int) then (if ((rd_T57 l0 x5_2).f1) > (rd y125 3) then (spec_Bounds.l0 kj26 l0 (y125.set (3 : Int).toNat ((rd_T57 l0 x5_2).f1)) (wrap64 (x5_2 + 1))) else (spec_Bounds.l0 kj26 l0 y125 (wrap64 (x5_2 + 1)))) else (none)) = some r := by first | (rw [hy125]; with_reducible exact H) | (have H2_ := (Option.bind_some _ _).symm.trans H; rw [hy125]; with_reducible exact H2_) | (have H2_ := (Option.bind_some _ _).symm.trans H; with_reducible exact H2_) | with_reducible exact H | (rw [hy125]; exact H) | exact H
                                  have Ny125 := Aside0.mk hy125
                                  clear hy125
                                  by_cases c37 : 3 < (x4_26.length : Int)
                                  · rw [if_pos c37] at H
                                    have c37b0 : decide (3 < (x4_26.length : Int)) = true := decide_eq_true c37
                                    have c37b1 : decide (3 < x4_26.length) = true := decide_eq_true (by omega)
                                    clear c37
                                    by_cases c38 : ((rd_T57 l0 x5_2).f1) > (rd y125 3)
                                    · rw [if_pos c38] at H
                                      have c38b0 : decide ((rd y125 3) < ((rd_T57 l0 x5_2).f1)) = true := decide_eq_true c38
                                      clear c38
                                      obtain ⟨y127, hy127⟩ : ∃ y_ : List Int, y_ = (y125.set (3 : Int).toNat ((rd_T57 l0 x5_2).f1)) := ⟨_, rfl⟩
                                      replace H : (spec_Bounds.l0 kj26 l0 y127 (wrap64 (x5_2 + 1))) = some r := by first | (rw [hy127]; with_reducible exact H) | (have H2_ := (Option.bind_some _ _).symm.trans H; rw [hy127]; with_reducible exact H2_) | (have H2_ := (Option.bind_some _ _).symm.trans H; with_reducible exact H2_) | with_reducible exact H | (rw [hy127]; exact H) | exact H
                                      have Ny127 := Aside0.mk hy127
                                      clear hy127
                                      have H' := Aside0.mk H
                                      clear H
                                      (try (rw [drewN_self wc]; generalize hq_ : World.drewN wc _ = wc; have n0_ := Aside0.mk (Kd.R_at hq_ HO_4.out); have n1_ := Aside0.mk (blk_at hq_ BK115.out); have n2_ := Aside0.mk (below_at hq_ HB.out); clear hq_ HO_4 BK115 HB; have HO_4 := n0_; have BK115 := n1_; have HB := n2_; clear n0_ n1_ n2_))
                                      have hcz40_0 : wc.cell? ⟨gb115, 0, none⟩ = some (.int .i64 ((rd_T57 l0 x5_2).f0)) := (blk_cell BK115.out 0).trans rfl
                                      have hcz40_1 : wc.cell? ⟨gb115, 1, none⟩ = some (.int .i64 ((rd_T57 l0 x5_2).f1)) := (blk_cell BK115.out 1).trans rfl
                                      have hcz40_2 : wc.cell? ⟨gb115, 2, none⟩ = some (.int .i64 ((rd_T57 l0 x5_2).f2)) := (blk_cell BK115.out 2).trans rfl
                                      have hcz40_3 : wc.cell? ⟨gb115, 3, none⟩ = some (.int .i64 ((rd_T57 l0 x5_2).f3)) := (blk_cell BK115.out 3).trans rfl
                                      have hcz40_4 : wc.cell? ⟨gb115, 4, none⟩ = some (.int .i64 ((rd_T57 l0 x5_2).f4)) := (blk_cell BK115.out 4).trans rfl
                                      have hcz40_5 : wc.cell? ⟨gb115, 5, none⟩ = some (.int .i64 ((rd_T57 l0 x5_2).f5)) := (blk_cell BK115.out 5).trans rfl
                                      have hfz40_0 := blk_frozen BK115.out 0
                                      have hfz40_1 := blk_frozen BK115.out 1
                                      have hfz40_2 := blk_frozen BK115.out 2
                                      have hfz40_3 := blk_frozen BK115.out 3
                                      have hfz40_4 := blk_frozen BK115.out 4
                                      have hfz40_5 := blk_frozen BK115.out 5
                                      have p124 : 0 ≤ (2 : Int) := (by omega)
                                      have q124 : 2 < (x4_26.length : Int) := of_decide_eq_true (by first | (with_reducible assumption) | assumption)
                                      obtain ⟨ad124, e124, hx124_0⟩ := Kd.at_int (Kd.R_reads' HO_4.out).2.2 2 p124 q124
                                      obtain rfl : ad120 = ad124 := (by injection e124)
                                      (try simp only [show (2 : Int).toNat = 2 from rfl, Nat.reduceMul, Nat.reduceEqDiff, Go.Addr.add, ↓reduceIte] at hx124_0)
                                      have qi124 : (2 < x4_26.length) = True := eq_true (by omega)
                                      (try rw [show ((2 : Int)).toNat = 2 from rfl] at hx124_0)
                                      replace p124 := eq_true p124
                                      replace q124 := eq_true q124
                                      have p36 : 0 ≤ (2 : Int) := (by omega)
                                      have q36 : (2 : Int) < ((x4_26.length : Int) : Int) := of_decide_eq_true (by first | (with_reducible assumption) | assumption)
                                      have qi36 : (2 < x4_26.length) = True := eq_true (by omega)
                                      obtain ⟨go36, co36, eo36, gb36, gl36, cl36, HG36⟩ := Kd.R_form HO_4.out (by omega)
                                      (first | cases eo36 | (injection eo36 with ea_ en_ ec_; (first | subst ea_ | (injection ea_ with ea_; subst ea_)); subst ec_; clear en_))
                                      have GB36 := Aside0.mk gb36
                                      have GG36 := Aside0.mk HG36
                                      clear gb36 gl36 HG36
                                      (first | simp only [add_plain] at hx124_0 | skip)
                                      obtain ⟨hx36_0, hf36_0⟩ := Kd.R_celln 0 HO_4.out (2 : Int) p36 q36
                                      (try rw [show ((2 : Int)).toNat = 2 from rfl] at hx36_0)
                                      (try simp only [Nat.reduceMul, Nat.zero_mul, Nat.zero_add, Nat.reduceAdd] at hx36_0)
                                      (try rw [show ((2 : Int)).toNat = 2 from rfl] at hf36_0)
                                      (try simp only [Nat.reduceMul, Nat.zero_mul, Nat.zero_add, Nat.reduceAdd] at hf36_0)
                                      replace p36 := eq_true p36
                                      replace q36 := eq_true q36
                                      obtain ⟨hy41_, hz41_⟩ := Kd.R_celln 0 HO_4.out (2 : Int) (by omega) (of_decide_eq_true (by first | (with_reducible assumption) | assumption))
                                      (try simp only [Int.reduceToNat, Int.toNat_zero, Int.toNat_ofNat, Nat.reduceMul, Nat.zero_mul, Nat.zero_add] at hy41_ hz41_)
                                      (try rw [show ((2 : Int)).toNat = 2 from rfl] at hy41_)
                                      (try rw [show ((2 : Int)).toNat = 2 from rfl] at hz41_)
                                      have HP41 := Kd.R_putg HO_4.out (2 : Int) (wrap64 (((rd_T57 l0 x5_2).f0) + ((rd_T57 l0 x5_2).f4)))
                                      go_wp2_with (first | ((with_reducible refine gate_store (t := 2) (p := 84) rfl ?_); (try (rw [drewN_self wc]; generalize hq_ : World.drewN wc _ = wc; have n0_ := Aside0.mk (Kd.R_at hq_ HO_4.out); have n1_ := Aside0.mk (blk_at hq_ BK115.out); have n2_ := Aside0.mk (below_at hq_ HB.out); clear hq_ HO_4 BK115 HB; have HO_4 := n0_; have BK115 := n1_; have HB := n2_; clear n0_ n1_ n2_; (try (obtain ⟨hy41_, hz41_⟩ := Kd.R_celln 0 HO_4.out (2 : Int) (by omega) (of_decide_eq_true (by first | (with_reducible assumption) | assumption)))); (try (try simp only [Int.reduceToNat, Int.toNat_zero, Int.toNat_ofNat, Nat.reduceMul, Nat.zero_mul, Nat.zero_add] at hy41_ hz41_)); (try (try rw [show ((2 : Int)).toNat = 2 from rfl] at hy41_)); (try (try rw [show ((2 : Int)).toNat = 2 from rfl] at hz41_)); (try (have HP41 := Kd.R_putg HO_4.out (2 : Int) (wrap64 (((rd_T57 l0 x5_2).f0) + ((rd_T57 l0 x5_2).f4))))))); refine store_event (t := 2) (p := 84) (v := ?vo_w42) (w1 := (wc.setCell ⟨go36, (2 : Int).toNat, none⟩ (.int .i64 (wrap64 (((rd_T57 l0 x5_2).f0) + ((rd_T57 l0 x5_2).f4)))))) ?hg ?ho ?hn ?hr ?_; (case ho => rfl); (case hg => rfl); (case hn => rfl); (case hr => first | (go_simp; done) | (go_simp; rfl)); intro w42 hw; have hg : wc.grownBy w42 (some go36) := (by rw [hw]; exact HP41.2); have hp_ : Kd.R (Kd.int .i64) 2 w42 w.heap.size (fun _ => True) (.slice (some ⟨go36, 0, none⟩) x4_26.length co19) y125 := (by rw [hw, Ny125.out]; exact HP41.1); clear HP41; have n0_ := Aside0.mk (hp_); have n1_ := Aside0.mk (blk_grown (g := gb115) (o := .cells #[.int .i64 ((rd_T57 l0 x5_2).f0), .int .i64 ((rd_T57 l0 x5_2).f1), .int .i64 ((rd_T57 l0 x5_2).f2), .int .i64 ((rd_T57 l0 x5_2).f3), .int .i64 ((rd_T57 l0 x5_2).f4), .int .i64 ((rd_T57 l0 x5_2).f5)] 57 (0, 0)) (by (with_reducible repeat (first | refine blk_drewN ?_ _ | refine blk_drew ?_ | refine blk_alloc ?_ _)); exact BK115.out) hg (Kd.R_ne HO_4.out BK115.out (by decide))); have n2_ := Aside0.mk ((by rw [hw]; exact below_set (HB.out) GB36.out : Below w.heap.size w w42)); clear HO_4; clear BK115; clear HB; have HO_4 := n0_; have BK115 := n1_; have HB := n2_; clear n0_ n1_ n2_; clear hg hw hp_; have hcz43_0 : w42.cell? ⟨gb115, 0, none⟩ = some (.int .i64 ((rd_T57 l0 x5_2).f0)) := (blk_cell BK115.out 0).trans rfl; have hcz43_1 : w42.cell? ⟨gb115, 1, none⟩ = some (.int .i64 ((rd_T57 l0 x5_2).f1)) := (blk_cell BK115.out 1).trans rfl; have hcz43_2 : w42.cell? ⟨gb115, 2, none⟩ = some (.int .i64 ((rd_T57 l0 x5_2).f2)) := (blk_cell BK115.out 2).trans rfl; have hcz43_3 : w42.cell? ⟨gb115, 3, none⟩ = some (.int .i64 ((rd_T57 l0 x5_2).f3)) := (blk_cell BK115.out 3).trans rfl; have hcz43_4 : w42.cell? ⟨gb115, 4, none⟩ = some (.int .i64 ((rd_T57 l0 x5_2).f4)) := (blk_cell BK115.out 4).trans rfl; have hcz43_5 : w42.cell? ⟨gb115, 5, none⟩ = some (.int .i64 ((rd_T57 l0 x5_2).f5)) := (blk_cell BK115.out 5).trans rfl; have hfz43_0 := blk_frozen BK115.out 0; have hfz43_1 := blk_frozen BK115.out 1; have hfz43_2 := blk_frozen BK115.out 2; have hfz43_3 := blk_frozen BK115.out 3; have hfz43_4 := blk_frozen BK115.out 4; have hfz43_5 := blk_frozen BK115.out 5; have p126 : 0 ≤ (3 : Int) := (by omega); have q126 : 3 < (y125.length : Int) := (by have h_ : (3 : Int) < ((x4_26.length : Int) : Int) := of_decide_eq_true (by first | (with_reducible assumption) | assumption); first | (have e_ := (Kd.R_reads' HO_4.out).1; omega) | simpa only [Ny125.out, List.length_set] using h_); have ql126 : ((3 : Int) < ((x4_26.length : Int) : Int)) = True := eq_true (of_decide_eq_true (by first | (with_reducible assumption) | assumption)); (try have qn126 : (3 < x4_26.length) = True := eq_true (by have h_ : (3 : Int) < ((x4_26.length : Int) : Int) := of_decide_eq_true (by first | (with_reducible assumption) | assumption); omega)); obtain ⟨ad126, e126, hx126_0⟩ := Kd.at_int (Kd.R_reads' HO_4.out).2.2 3 p126 q126; obtain rfl : (⟨go36, 0, none⟩ : Addr) = ad126 := (by injection e126); (first | simp only [add_plain] at hx126_0 | simp only [add_at] at hx126_0 | simp only [Addr.add, Nat.zero_add] at hx126_0 | skip); have qi126 : (3 < y125.length) = True := eq_true (by omega); (try rw [show ((3 : Int)).toNat = 3 from rfl] at hx126_0); replace p126 := eq_true p126; replace q126 := eq_true q126; have p39 : 0 ≤ (3 : Int) := (by omega); have q39 : (3 : Int) < ((x4_26.length : Int) : Int) := of_decide_eq_true (by first | (with_reducible assumption) | assumption); have qi39 : (3 < x4_26.length) = True := eq_true (by omega); obtain ⟨hx39_0, hf39_0⟩ := Kd.R_celln 0 HO_4.out (3 : Int) p39 q39; (try rw [show ((3 : Int)).toNat = 3 from rfl] at hx39_0); (try simp only [Nat.reduceMul, Nat.zero_mul, Nat.zero_add, Nat.reduceAdd] at hx39_0); (try rw [show ((3 : Int)).toNat = 3 from rfl] at hf39_0); (try simp only [Nat.reduceMul, Nat.zero_mul, Nat.zero_add, Nat.reduceAdd] at hf39_0); replace p39 := eq_true p39; replace q39 := eq_true q39; obtain ⟨hy44_, hz44_⟩ := Kd.R_celln 0 HO_4.out (3 : Int) (by omega) (of_decide_eq_true (by first | (with_reducible assumption) | assumption)); (try simp only [Int.reduceToNat, Int.toNat_zero, Int.toNat_ofNat, Nat.reduceMul, Nat.zero_mul, Nat.zero_add] at hy44_ hz44_); (try rw [show ((3 : Int)).toNat = 3 from rfl] at hy44_); (try rw [show ((3 : Int)).toNat = 3 from rfl] at hz44_); have HP44 := Kd.R_putg HO_4.out (3 : Int) ((rd_T57 l0 x5_2).f1)) | ((with_reducible refine gate_store (t := 2) (p := 94) rfl ?_); (try (rw [drewN_self w42]; generalize hq_ : World.drewN w42 _ = w42; have n0_ := Aside0.mk (Kd.R_at hq_ HO_4.out); have n1_ := Aside0.mk (blk_at hq_ BK115.out); have n2_ := Aside0.mk (below_at hq_ HB.out); clear hq_ HO_4 BK115 HB; have HO_4 := n0_; have BK115 := n1_; have HB := n2_; clear n0_ n1_ n2_; (try (obtain ⟨hy44_, hz44_⟩ := Kd.R_celln 0 HO_4.out (3 : Int) (by omega) (of_decide_eq_true (by first | (with_reducible assumption) | assumption)))); (try (try simp only [Int.reduceToNat, Int.toNat_zero, Int.toNat_ofNat, Nat.reduceMul, Nat.zero_mul, Nat.zero_add] at hy44_ hz44_)); (try (try rw [show ((3 : Int)).toNat = 3 from rfl] at hy44_)); (try (try rw [show ((3 : Int)).toNat = 3 from rfl] at hz44_)); (try (have HP44 := Kd.R_putg HO_4.out (3 : Int) ((rd_T57 l0 x5_2).f1))))); refine store_event (t := 2) (p := 94) (v := ?vo_w45) (w1 := (w42.setCell ⟨go36, (3 : Int).toNat, none⟩ (.int .i64 ((rd_T57 l0 x5_2).f1)))) ?hg ?ho ?hn ?hr ?_; (case ho => rfl); (case hg => rfl); (case hn => rfl); (case hr => first | (go_simp; done) | (go_simp; rfl)); intro w45 hw; have hg : w42.grownBy w45 (some go36) := (by rw [hw]; exact HP44.2); have hp_ : Kd.R (Kd.int .i64) 2 w45 w.heap.size (fun _ => True) (.slice (some ⟨go36, 0, none⟩) x4_26.length co19) y127 := (by rw [hw, Ny127.out]; exact HP44.1); clear HP44; have n0_ := Aside0.mk (hp_); have n1_ := Aside0.mk (blk_grown (g := gb115) (o := .cells #[.int .i64 ((rd_T57 l0 x5_2).f0), .int .i64 ((rd_T57 l0 x5_2).f1), .int .i64 ((rd_T57 l0 x5_2).f2), .int .i64 ((rd_T57 l0 x5_2).f3), .int .i64 ((rd_T57 l0 x5_2).f4), .int .i64 ((rd_T57 l0 x5_2).f5)] 57 (0, 0)) (by (with_reducible repeat (first | refine blk_drewN ?_ _ | refine blk_drew ?_ | refine blk_alloc ?_ _)); exact BK115.out) hg (Kd.R_ne HO_4.out BK115.out (by decide))); have n2_ := Aside0.mk ((by rw [hw]; exact below_set (HB.out) GB36.out : Below w.heap.size w w45)); clear HO_4; clear BK115; clear HB; have HO_4 := n0_; have BK115 := n1_; have HB := n2_; clear n0_ n1_ n2_; clear hg hw hp_))
                                      repeat (go_quiet (first | ((with_reducible refine gate_store (t := 2) (p := 84) rfl ?_); (try (rw [drewN_self wc]; generalize hq_ : World.drewN wc _ = wc; have n0_ := Aside0.mk (Kd.R_at hq_ HO_4.out); have n1_ := Aside0.mk (blk_at hq_ BK115.out); have n2_ := Aside0.mk (below_at hq_ HB.out); clear hq_ HO_4 BK115 HB; have HO_4 := n0_; have BK115 := n1_; have HB := n2_; clear n0_ n1_ n2_; (try (obtain ⟨hy41_, hz41_⟩ := Kd.R_celln 0 HO_4.out (2 : Int) (by omega) (of_decide_eq_true (by first | (with_reducible assumption) | assumption)))); (try (try simp only [Int.reduceToNat, Int.toNat_zero, Int.toNat_ofNat, Nat.reduceMul, Nat.zero_mul, Nat.zero_add] at hy41_ hz41_)); (try (try rw [show ((2 : Int)).toNat = 2 from rfl] at hy41_)); (try (try rw [show ((2 : Int)).toNat = 2 from rfl] at hz41_)); (try (have HP41 := Kd.R_putg HO_4.out (2 : Int) (wrap64 (((rd_T57 l0 x5_2).f0) + ((rd_T57 l0 x5_2).f4))))))); refine store_event (t := 2) (p := 84) (v := ?vo_w42) (w1 := (wc.setCell ⟨go36, (2 : Int).toNat, none⟩ (.int .i64 (wrap64 (((rd_T57 l0 x5_2).f0) + ((rd_T57 l0 x5_2).f4)))))) ?hg ?ho ?hn ?hr ?_; (case ho => rfl); (case hg => rfl); (case hn => rfl); (case hr => first | (go_simp; done) | (go_simp; rfl)); intro w42 hw; have hg : wc.grownBy w42 (some go36) := (by rw [hw]; exact HP41.2); have hp_ : Kd.R (Kd.int .i64) 2 w42 w.heap.size (fun _ => True) (.slice (some ⟨go36, 0, none⟩) x4_26.length co19) y125 := (by rw [hw, Ny125.out]; exact HP41.1); clear HP41; have n0_ := Aside0.mk (hp_); have n1_ := Aside0.mk (blk_grown (g := gb115) (o := .cells #[.int .i64 ((rd_T57 l0 x5_2).f0), .int .i64 ((rd_T57 l0 x5_2).f1), .int .i64 ((rd_T57 l0 x5_2).f2), .int .i64 ((rd_T57 l0 x5_2).f3), .int .i64 ((rd_T57 l0 x5_2).f4), .int .i64 ((rd_T57 l0 x5_2).f5)] 57 (0, 0)) (by (with_reducible repeat (first | refine blk_drewN ?_ _ | refine blk_drew ?_ | refine blk_alloc ?_ _)); exact BK115.out) hg (Kd.R_ne HO_4.out BK115.out (by decide))); have n2_ := Aside0.mk ((by rw [hw]; exact below_set (HB.out) GB36.out : Below w.heap.size w w42)); clear HO_4; clear BK115; clear HB; have HO_4 := n0_; have BK115 := n1_; have HB := n2_; clear n0_ n1_ n2_; clear hg hw hp_; have hcz43_0 : w42.cell? ⟨gb115, 0, none⟩ = some (.int .i64 ((rd_T57 l0 x5_2).f0)) := (blk_cell BK115.out 0).trans rfl; have hcz43_1 : w42.cell? ⟨gb115, 1, none⟩ = some (.int .i64 ((rd_T57 l0 x5_2).f1)) := (blk_cell BK115.out 1).trans rfl; have hcz43_2 : w42.cell? ⟨gb115, 2, none⟩ = some (.int .i64 ((rd_T57 l0 x5_2).f2)) := (blk_cell BK115.out 2).trans rfl; have hcz43_3 : w42.cell? ⟨gb115, 3, none⟩ = some (.int .i64 ((rd_T57 l0 x5_2).f3)) := (blk_cell BK115.out 3).trans rfl; have hcz43_4 : w42.cell? ⟨gb115, 4, none⟩ = some (.int .i64 ((rd_T57 l0 x5_2).f4)) := (blk_cell BK115.out 4).trans rfl; have hcz43_5 : w42.cell? ⟨gb115, 5, none⟩ = some (.int .i64 ((rd_T57 l0 x5_2).f5)) := (blk_cell BK115.out 5).trans rfl; have hfz43_0 := blk_frozen BK115.out 0; have hfz43_1 := blk_frozen BK115.out 1; have hfz43_2 := blk_frozen BK115.out 2; have hfz43_3 := blk_frozen BK115.out 3; have hfz43_4 := blk_frozen BK115.out 4; have hfz43_5 := blk_frozen BK115.out 5; have p126 : 0 ≤ (3 : Int) := (by omega); have q126 : 3 < (y125.length : Int) := (by have h_ : (3 : Int) < ((x4_26.length : Int) : Int) := of_decide_eq_true (by first | (with_reducible assumption) | assumption); first | (have e_ := (Kd.R_reads' HO_4.out).1; omega) | simpa only [Ny125.out, List.length_set] using h_); have ql126 : ((3 : Int) < ((x4_26.length : Int) : Int)) = True := eq_true (of_decide_eq_true (by first | (with_reducible assumption) | assumption)); (try have qn126 : (3 < x4_26.length) = True := eq_true (by have h_ : (3 : Int) < ((x4_26.length : Int) : Int) := of_decide_eq_true (by first | (with_reducible assumption) | assumption); omega)); obtain ⟨ad126, e126, hx126_0⟩ := Kd.at_int (Kd.R_reads' HO_4.out).2.2 3 p126 q126; obtain rfl : (⟨go36, 0, none⟩ : Addr) = ad126 := (by injection e126); (first | simp only [add_plain] at hx126_0 | simp only [add_at] at hx126_0 | simp only [Addr.add, Nat.zero_add] at hx126_0 | skip); have qi126 : (3 < y125.length) = True := eq_true (by omega); (try rw [show ((3 : Int)).toNat = 3 from rfl] at hx126_0); replace p126 := eq_true p126; replace q126 := eq_true q126; have p39 : 0 ≤ (3 : Int) := (by omega); have q39 : (3 : Int) < ((x4_26.length : Int) : Int) := of_decide_eq_true (by first | (with_reducible assumption) | assumption); have qi39 : (3 < x4_26.length) = True := eq_true (by omega); obtain ⟨hx39_0, hf39_0⟩ := Kd.R_celln 0 HO_4.out (3 : Int) p39 q39; (try rw [show ((3 : Int)).toNat = 3 from rfl] at hx39_0); (try simp only [Nat.reduceMul, Nat.zero_mul, Nat.zero_add, Nat.reduceAdd] at hx39_0); (try rw [show ((3 : Int)).toNat = 3 from rfl] at hf39_0); (try simp only [Nat.reduceMul, Nat.zero_mul, Nat.zero_add, Nat.reduceAdd] at hf39_0); replace p39 := eq_true p39; replace q39 := eq_true q39; obtain ⟨hy44_, hz44_⟩ := Kd.R_celln 0 HO_4.out (3 : Int) (by omega) (of_decide_eq_true (by first | (with_reducible assumption) | assumption)); (try simp only [Int.reduceToNat, Int.toNat_zero, Int.toNat_ofNat, Nat.reduceMul, Nat.zero_mul, Nat.zero_add] at hy44_ hz44_); (try rw [show ((3 : Int)).toNat = 3 from rfl] at hy44_); (try rw [show ((3 : Int)).toNat = 3 from rfl] at hz44_); have HP44 := Kd.R_putg HO_4.out (3 : Int) ((rd_T57 l0 x5_2).f1)) | ((with_reducible refine gate_store (t := 2) (p := 94) rfl ?_); (try (rw [drewN_self w42]; generalize hq_ : World.drewN w42 _ = w42; have n0_ := Aside0.mk (Kd.R_at hq_ HO_4.out); have n1_ := Aside0.mk (blk_at hq_ BK115.out); have n2_ := Aside0.mk (below_at hq_ HB.out); clear hq_ HO_4 BK115 HB; have HO_4 := n0_; have BK115 := n1_; have HB := n2_; clear n0_ n1_ n2_; (try (obtain ⟨hy44_, hz44_⟩ := Kd.R_celln 0 HO_4.out (3 : Int) (by omega) (of_decide_eq_true (by first | (with_reducible assumption) | assumption)))); (try (try simp only [Int.reduceToNat, Int.toNat_zero, Int.toNat_ofNat, Nat.reduceMul, Nat.zero_mul, Nat.zero_add] at hy44_ hz44_)); (try (try rw [show ((3 : Int)).toNat = 3 from rfl] at hy44_)); (try (try rw [show ((3 : Int)).toNat = 3 from rfl] at hz44_)); (try (have HP44 := Kd.R_putg HO_4.out (3 : Int) ((rd_T57 l0 x5_2).f1))))); refine store_event (t := 2) (p := 94) (v := ?vo_w45) (w1 := (w42.setCell ⟨go36, (3 : Int).toNat, none⟩ (.int .i64 ((rd_T57 l0 x5_2).f1)))) ?hg ?ho ?hn ?hr ?_; (case ho => rfl); (case hg => rfl); (case hn => rfl); (case hr => first | (go_simp; done) | (go_simp; rfl)); intro w45 hw; have hg : w42.grownBy w45 (some go36) := (by rw [hw]; exact HP44.2); have hp_ : Kd.R (Kd.int .i64) 2 w45 w.heap.size (fun _ => True) (.slice (some ⟨go36, 0, none⟩) x4_26.length co19) y127 := (by rw [hw, Ny127.out]; exact HP44.1); clear HP44; have n0_ := Aside0.mk (hp_); have n1_ := Aside0.mk (blk_grown (g := gb115) (o := .cells #[.int .i64 ((rd_T57 l0 x5_2).f0), .int .i64 ((rd_T57 l0 x5_2).f1), .int .i64 ((rd_T57 l0 x5_2).f2), .int .i64 ((rd_T57 l0 x5_2).f3), .int .i64 ((rd_T57 l0 x5_2).f4), .int .i64 ((rd_T57 l0 x5_2).f5)] 57 (0, 0)) (by (with_reducible repeat (first | refine blk_drewN ?_ _ | refine blk_drew ?_ | refine blk_alloc ?_ _)); exact BK115.out) hg (Kd.R_ne HO_4.out BK115.out (by decide))); have n2_ := Aside0.mk ((by rw [hw]; exact below_set (HB.out) GB36.out : Below w.heap.size w w45)); clear HO_4; clear BK115; clear HB; have HO_4 := n0_; have BK115 := n1_; have HB := n2_; clear n0_ n1_ n2_; clear hg hw hp_)); try go_wp2_with (first | ((with_reducible refine gate_store (t := 2) (p := 84) rfl ?_); (try (rw [drewN_self wc]; generalize hq_ : World.drewN wc _ = wc; have n0_ := Aside0.mk (Kd.R_at hq_ HO_4.out); have n1_ := Aside0.mk (blk_at hq_ BK115.out); have n2_ := Aside0.mk (below_at hq_ HB.out); clear hq_ HO_4 BK115 HB; have HO_4 := n0_; have BK115 := n1_; have HB := n2_; clear n0_ n1_ n2_; (try (obtain ⟨hy41_, hz41_⟩ := Kd.R_celln 0 HO_4.out (2 : Int) (by omega) (of_decide_eq_true (by first | (with_reducible assumption) | assumption)))); (try (try simp only [Int.reduceToNat, Int.toNat_zero, Int.toNat_ofNat, Nat.reduceMul, Nat.zero_mul, Nat.zero_add] at hy41_ hz41_)); (try (try rw [show ((2 : Int)).toNat = 2 from rfl] at hy41_)); (try (try rw [show ((2 : Int)).toNat = 2 from rfl] at hz41_)); (try (have HP41 := Kd.R_putg HO_4.out (2 : Int) (wrap64 (((rd_T57 l0 x5_2).f0) + ((rd_T57 l0 x5_2).f4))))))); refine store_event (t := 2) (p := 84) (v := ?vo_w42) (w1 := (wc.setCell ⟨go36, (2 : Int).toNat, none⟩ (.int .i64 (wrap64 (((rd_T57 l0 x5_2).f0) + ((rd_T57 l0 x5_2).f4)))))) ?hg ?ho ?hn ?hr ?_; (case ho => rfl); (case hg => rfl); (case hn => rfl); (case hr => first | (go_simp; done) | (go_simp; rfl)); intro w42 hw; have hg : wc.grownBy w42 (some go36) := (by rw [hw]; exact HP41.2); have hp_ : Kd.R (Kd.int .i64) 2 w42 w.heap.size (fun _ => True) (.slice (some ⟨go36, 0, none⟩) x4_26.length co19) y125 := (by rw [hw, Ny125.out]; exact HP41.1); clear HP41; have n0_ := Aside0.mk (hp_); have n1_ := Aside0.mk (blk_grown (g := gb115) (o := .cells #[.int .i64 ((rd_T57 l0 x5_2).f0), .int .i64 ((rd_T57 l0 x5_2).f1), .int .i64 ((rd_T57 l0 x5_2).f2), .int .i64 ((rd_T57 l0 x5_2).f3), .int .i64 ((rd_T57 l0 x5_2).f4), .int .i64 ((rd_T57 l0 x5_2).f5)] 57 (0, 0)) (by (with_reducible repeat (first | refine blk_drewN ?_ _ | refine blk_drew ?_ | refine blk_alloc ?_ _)); exact BK115.out) hg (Kd.R_ne HO_4.out BK115.out (by decide))); have n2_ := Aside0.mk ((by rw [hw]; exact below_set (HB.out) GB36.out : Below w.heap.size w w42)); clear HO_4; clear BK115; clear HB; have HO_4 := n0_; have BK115 := n1_; have HB := n2_; clear n0_ n1_ n2_; clear hg hw hp_; have hcz43_0 : w42.cell? ⟨gb115, 0, none⟩ = some (.int .i64 ((rd_T57 l0 x5_2).f0)) := (blk_cell BK115.out 0).trans rfl; have hcz43_1 : w42.cell? ⟨gb115, 1, none⟩ = some (.int .i64 ((rd_T57 l0 x5_2).f1)) := (blk_cell BK115.out 1).trans rfl; have hcz43_2 : w42.cell? ⟨gb115, 2, none⟩ = some (.int .i64 ((rd_T57 l0 x5_2).f2)) := (blk_cell BK115.out 2).trans rfl; have hcz43_3 : w42.cell? ⟨gb115, 3, none⟩ = some (.int .i64 ((rd_T57 l0 x5_2).f3)) := (blk_cell BK115.out 3).trans rfl; have hcz43_4 : w42.cell? ⟨gb115, 4, none⟩ = some (.int .i64 ((rd_T57 l0 x5_2).f4)) := (blk_cell BK115.out 4).trans rfl; have hcz43_5 : w42.cell? ⟨gb115, 5, none⟩ = some (.int .i64 ((rd_T57 l0 x5_2).f5)) := (blk_cell BK115.out 5).trans rfl; have hfz43_0 := blk_frozen BK115.out 0; have hfz43_1 := blk_frozen BK115.out 1; have hfz43_2 := blk_frozen BK115.out 2; have hfz43_3 := blk_frozen BK115.out 3; have hfz43_4 := blk_frozen BK115.out 4; have hfz43_5 := blk_frozen BK115.out 5; have p126 : 0 ≤ (3 : Int) := (by omega); have q126 : 3 < (y125.length : Int) := (by have h_ : (3 : Int) < ((x4_26.length : Int) : Int) := of_decide_eq_true (by first | (with_reducible assumption) | assumption); first | (have e_ := (Kd.R_reads' HO_4.out).1; omega) | simpa only [Ny125.out, List.length_set] using h_); have ql126 : ((3 : Int) < ((x4_26.length : Int) : Int)) = True := eq_true (of_decide_eq_true (by first | (with_reducible assumption) | assumption)); (try have qn126 : (3 < x4_26.length) = True := eq_true (by have h_ : (3 : Int) < ((x4_26.length : Int) : Int) := of_decide_eq_true (by first | (with_reducible assumption) | assumption); omega)); obtain ⟨ad126, e126, hx126_0⟩ := Kd.at_int (Kd.R_reads' HO_4.out).2.2 3 p126 q126; obtain rfl : (⟨go36, 0, none⟩ : Addr) = ad126 := (by injection e126); (first | simp only [add_plain] at hx126_0 | simp only [add_at] at hx126_0 | simp only [Addr.add, Nat.zero_add] at hx126_0 | skip); have qi126 : (3 < y125.length) = True := eq_true (by omega); (try rw [show ((3 : Int)).toNat = 3 from rfl] at hx126_0); replace p126 := eq_true p126; replace q126 := eq_true q126; have p39 : 0 ≤ (3 : Int) := (by omega); have q39 : (3 : Int) < ((x4_26.length : Int) : Int) := of_decide_eq_true (by first | (with_reducible assumption) | assumption); have qi39 : (3 < x4_26.length) = True := eq_true (by omega); obtain ⟨hx39_0, hf39_0⟩ := Kd.R_celln 0 HO_4.out (3 : Int) p39 q39; (try rw [show ((3 : Int)).toNat = 3 from rfl] at hx39_0); (try simp only [Nat.reduceMul, Nat.zero_mul, Nat.zero_add, Nat.reduceAdd] at hx39_0); (try rw [show ((3 : Int)).toNat = 3 from rfl] at hf39_0); (try simp only [Nat.reduceMul, Nat.zero_mul, Nat.zero_add, Nat.reduceAdd] at hf39_0); replace p39 := eq_true p39; replace q39 := eq_true q39; obtain ⟨hy44_, hz44_⟩ := Kd.R_celln 0 HO_4.out (3 : Int) (by omega) (of_decide_eq_true (by first | (with_reducible assumption) | assumption)); (try simp only [Int.reduceToNat, Int.toNat_zero, Int.toNat_ofNat, Nat.reduceMul, Nat.zero_mul, Nat.zero_add] at hy44_ hz44_); (try rw [show ((3 : Int)).toNat = 3 from rfl] at hy44_); (try rw [show ((3 : Int)).toNat = 3 from rfl] at hz44_); have HP44 := Kd.R_putg HO_4.out (3 : Int) ((rd_T57 l0 x5_2).f1)) | ((with_reducible refine gate_store (t := 2) (p := 94) rfl ?_); (try (rw [drewN_self w42]; generalize hq_ : World.drewN w42 _ = w42; have n0_ := Aside0.mk (Kd.R_at hq_ HO_4.out); have n1_ := Aside0.mk (blk_at hq_ BK115.out); have n2_ := Aside0.mk (below_at hq_ HB.out); clear hq_ HO_4 BK115 HB; have HO_4 := n0_; have BK115 := n1_; have HB := n2_; clear n0_ n1_ n2_; (try (obtain ⟨hy44_, hz44_⟩ := Kd.R_celln 0 HO_4.out (3 : Int) (by omega) (of_decide_eq_true (by first | (with_reducible assumption) | assumption)))); (try (try simp only [Int.reduceToNat, Int.toNat_zero, Int.toNat_ofNat, Nat.reduceMul, Nat.zero_mul, Nat.zero_add] at hy44_ hz44_)); (try (try rw [show ((3 : Int)).toNat = 3 from rfl] at hy44_)); (try (try rw [show ((3 : Int)).toNat = 3 from rfl] at hz44_)); (try (have HP44 := Kd.R_putg HO_4.out (3 : Int) ((rd_T57 l0 x5_2).f1))))); refine store_event (t := 2) (p := 94) (v := ?vo_w45) (w1 := (w42.setCell ⟨go36, (3 : Int).toNat, none⟩ (.int .i64 ((rd_T57 l0 x5_2).f1)))) ?hg ?ho ?hn ?hr ?_; (case ho => rfl); (case hg => rfl); (case hn => rfl); (case hr => first | (go_simp; done) | (go_simp; rfl)); intro w45 hw; have hg : w42.grownBy w45 (some go36) := (by rw [hw]; exact HP44.2); have hp_ : Kd.R (Kd.int .i64) 2 w45 w.heap.size (fun _ => True) (.slice (some ⟨go36, 0, none⟩) x4_26.length co19) y127 := (by rw [hw, Ny127.out]; exact HP44.1); clear HP44; have n0_ := Aside0.mk (hp_); have n1_ := Aside0.mk (blk_grown (g := gb115) (o := .cells #[.int .i64 ((rd_T57 l0 x5_2).f0), .int .i64 ((rd_T57 l0 x5_2).f1), .int .i64 ((rd_T57 l0 x5_2).f2), .int .i64 ((rd_T57 l0 x5_2).f3), .int .i64 ((rd_T57 l0 x5_2).f4), .int .i64 ((rd_T57 l0 x5_2).f5)] 57 (0, 0)) (by (with_reducible repeat (first | refine blk_drewN ?_ _ | refine blk_drew ?_ | refine blk_alloc ?_ _)); exact BK115.out) hg (Kd.R_ne HO_4.out BK115.out (by decide))); have n2_ := Aside0.mk ((by rw [hw]; exact below_set (HB.out) GB36.out : Below w.heap.size w w45)); clear HO_4; clear BK115; clear HB; have HO_4 := n0_; have BK115 := n1_; have HB := n2_; clear n0_ n1_ n2_; clear hg hw hp_)))
                                      (try simp only [← hl4_16, ← hl4_26])
                                      go_roundg kj26
                                      case measure => have := HJ1.out; have := HK2.out; have := HJ16.out; have := HJ26.out; omega
                                      case rel => exact ⟨(y127), (wrap64 (x5_2 + 1)), (((rd_T57 l0 x5_2).f0)), (((rd_T57 l0 x5_2).f1)), (((rd_T57 l0 x5_2).f2)), (((rd_T57 l0 x5_2).f3)), (((rd_T57 l0 x5_2).f4)), (((rd_T57 l0 x5_2).f5)), (by first | rfl | (simp; done) | (simp [*]; done)), H', ⟨by have := HJ1.out; have := HK2.out; have := HJ16.out; have := HJ26.out; omega⟩, ⟨by (try simp only [hl4_16]); (try simp only [hl4_26]); (with_reducible repeat (first | apply Kd.R_alloc | apply Kd.R_drewN | apply Kd.R_drew)); exact HO_4.out⟩, ⟨by (try simp only [hl4_16]); (try simp only [hl4_26]); (with_reducible repeat (first | refine blk_drewN ?_ _ | refine blk_drew ?_ | refine blk_alloc ?_ _)); exact BK115.out⟩, ⟨by repeat (first | (with_reducible first | exact HB.out | apply below_alloc | apply pw_below_drewN | apply below_drew1 | refine below_set ?_ GE115.out) | exact HB.out)⟩⟩
                                    · rw [if_neg c38] at H
                                      have c38b0 : decide ((rd y125 3) < ((rd_T57 l0 x5_2).f1)) = false := decide_eq_false c38
                                      clear c38
                                      have H' := Aside0.mk H
                                      clear H
                                      (try (rw [drewN_self wc]; generalize hq_ : World.drewN wc _ = wc; have n0_ := Aside0.mk (Kd.R_at hq_ HO_4.out); have n1_ := Aside0.mk (blk_at hq_ BK115.out); have n2_ := Aside0.mk (below_at hq_ HB.out); clear hq_ HO_4 BK115 HB; have HO_4 := n0_; have BK115 := n1_; have HB := n2_; clear n0_ n1_ n2_))
                                      have hcz46_0 : wc.cell? ⟨gb115, 0, none⟩ = some (.int .i64 ((rd_T57 l0 x5_2).f0)) := (blk_cell BK115.out 0).trans rfl
                                      have hcz46_1 : wc.cell? ⟨gb115, 1, none⟩ = some (.int .i64 ((rd_T57 l0 x5_2).f1)) := (blk_cell BK115.out 1).trans rfl
                                      have hcz46_2 : wc.cell? ⟨gb115, 2, none⟩ = some (.int .i64 ((rd_T57 l0 x5_2).f2)) := (blk_cell BK115.out 2).trans rfl
                                      have hcz46_3 : wc.cell? ⟨gb115, 3, none⟩ = some (.int .i64 ((rd_T57 l0 x5_2).f3)) := (blk_cell BK115.out 3).trans rfl
                                      have hcz46_4 : wc.cell? ⟨gb115, 4, none⟩ = some (.int .i64 ((rd_T57 l0 x5_2).f4)) := (blk_cell BK115.out 4).trans rfl
                                      have hcz46_5 : wc.cell? ⟨gb115, 5, none⟩ = some (.int .i64 ((rd_T57 l0 x5_2).f5)) := (blk_cell BK115.out 5).trans rfl
                                      have hfz46_0 := blk_frozen BK115.out 0
                                      have hfz46_1 := blk_frozen BK115.out 1
                                      have hfz46_2 := blk_frozen BK115.out 2
                                      have hfz46_3 := blk_frozen BK115.out 3
                                      have hfz46_4 := blk_frozen BK115.out 4
                                      have hfz46_5 := blk_frozen BK115.out 5
                                      have p124 : 0 ≤ (2 : Int) := (by omega)
                                      have q124 : 2 < (x4_26.length : Int) := of_decide_eq_true (by first | (with_reducible assumption) | assumption)
                                      obtain ⟨ad124, e124, hx124_0⟩ := Kd.at_int (Kd.R_reads' HO_4.out).2.2 2 p124 q124
                                      obtain rfl : ad120 = ad124 := (by injection e124)
                                      (try simp only [show (2 : Int).toNat = 2 from rfl, Nat.reduceMul, Nat.reduceEqDiff, Go.Addr.add, ↓reduceIte] at hx124_0)
                                      have qi124 : (2 < x4_26.length) = True := eq_true (by omega)
                                      (try rw [show ((2 : Int)).toNat = 2 from rfl] at hx124_0)
                                      replace p124 := eq_true p124
                                      replace q124 := eq_true q124
                                      have p36 : 0 ≤ (2 : Int) := (by omega)
                                      have q36 : (2 : Int) < ((x4_26.length : Int) : Int) := of_decide_eq_true (by first | (with_reducible assumption) | assumption)
                                      have qi36 : (2 < x4_26.length) = True := eq_true (by omega)
                                      obtain ⟨go36, co36, eo36, gb36, gl36, cl36, HG36⟩ := Kd.R_form HO_4.out (by omega)
                                      (first | cases eo36 | (injection eo36 with ea_ en_ ec_; (first | subst ea_ | (injection ea_ with ea_; subst ea_)); subst ec_; clear en_))
                                      have GB36 := Aside0.mk gb36
                                      have GG36 := Aside0.mk HG36
                                      clear gb36 gl36 HG36
                                      (first | simp only [add_plain] at hx124_0 | skip)
                                      obtain ⟨hx36_0, hf36_0⟩ := Kd.R_celln 0 HO_4.out (2 : Int) p36 q36
                                      (try rw [show ((2 : Int)).toNat = 2 from rfl] at hx36_0)
                                      (try simp only [Nat.reduceMul, Nat.zero_mul, Nat.zero_add, Nat.reduceAdd] at hx36_0)
                                      (try rw [show ((2 : Int)).toNat = 2 from rfl] at hf36_0)
                                      (try simp only [Nat.reduceMul, Nat.zero_mul, Nat.zero_add, Nat.reduceAdd] at hf36_0)
                                      replace p36 := eq_true p36
                                      replace q36 := eq_true q36
                                      obtain ⟨hy47_, hz47_⟩ := Kd.R_celln 0 HO_4.out (2 : Int) (by omega) (of_decide_eq_true (by first | (with_reducible assumption) | assumption))
                                      (try simp only [Int.reduceToNat, Int.toNat_zero, Int.toNat_ofNat, Nat.reduceMul, Nat.zero_mul, Nat.zero_add] at hy47_ hz47_)
                                      (try rw [show ((2 : Int)).toNat = 2 from rfl] at hy47_)
                                      (try rw [show ((2 : Int)).toNat = 2 from rfl] at hz47_)
                                      have HP47 := Kd.R_putg HO_4.out (2 : Int) (wrap64 (((rd_T57 l0 x5_2).f0) + ((rd_T57 l0 x5_2).f4)))
                                      go_wp2_with (first | ((with_reducible refine gate_store (t := 2) (p := 84) rfl ?_); (try (rw [drewN_self wc]; generalize hq_ : World.drewN wc _ = wc; have n0_ := Aside0.mk (Kd.R_at hq_ HO_4.out); have n1_ := Aside0.mk (blk_at hq_ BK115.out); have n2_ := Aside0.mk (below_at hq_ HB.out); clear hq_ HO_4 BK115 HB; have HO_4 := n0_; have BK115 := n1_; have HB := n2_; clear n0_ n1_ n2_; (try (obtain ⟨hy47_, hz47_⟩ := Kd.R_celln 0 HO_4.out (2 : Int) (by omega) (of_decide_eq_true (by first | (with_reducible assumption) | assumption)))); (try (try simp only [Int.reduceToNat, Int.toNat_zero, Int.toNat_ofNat, Nat.reduceMul, Nat.zero_mul, Nat.zero_add] at hy47_ hz47_)); (try (try rw [show ((2 : Int)).toNat = 2 from rfl] at hy47_)); (try (try rw [show ((2 : Int)).toNat = 2 from rfl] at hz47_)); (try (have HP47 := Kd.R_putg HO_4.out (2 : Int) (wrap64 (((rd_T57 l0 x5_2).f0) + ((rd_T57 l0 x5_2).f4))))))); refine store_event (t := 2) (p := 84) (v := ?vo_w48) (w1 := (wc.setCell ⟨go36, (2 : Int).toNat, none⟩ (.int .i64 (wrap64 (((rd_T57 l0 x5_2).f0) + ((rd_T57 l0 x5_2).f4)))))) ?hg ?ho ?hn ?hr ?_; (case ho => rfl); (case hg => rfl); (case hn => rfl); (case hr => first | (go_simp; done) | (go_simp; rfl)); intro w48 hw; have hg : wc.grownBy w48 (some go36) := (by rw [hw]; exact HP47.2); have hp_ : Kd.R (Kd.int .i64) 2 w48 w.heap.size (fun _ => True) (.slice (some ⟨go36, 0, none⟩) x4_26.length co19) y125 := (by rw [hw, Ny125.out]; exact HP47.1); clear HP47; have n0_ := Aside0.mk (hp_); have n1_ := Aside0.mk (blk_grown (g := gb115) (o := .cells #[.int .i64 ((rd_T57 l0 x5_2).f0), .int .i64 ((rd_T57 l0 x5_2).f1), .int .i64 ((rd_T57 l0 x5_2).f2), .int .i64 ((rd_T57 l0 x5_2).f3), .int .i64 ((rd_T57 l0 x5_2).f4), .int .i64 ((rd_T57 l0 x5_2).f5)] 57 (0, 0)) (by (with_reducible repeat (first | refine blk_drewN ?_ _ | refine blk_drew ?_ | refine blk_alloc ?_ _)); exact BK115.out) hg (Kd.R_ne HO_4.out BK115.out (by decide))); have n2_ := Aside0.mk ((by rw [hw]; exact below_set (HB.out) GB36.out : Below w.heap.size w w48)); clear HO_4; clear BK115; clear HB; have HO_4 := n0_; have BK115 := n1_; have HB := n2_; clear n0_ n1_ n2_; clear hg hw hp_; have hcz49_0 : w48.cell? ⟨gb115, 0, none⟩ = some (.int .i64 ((rd_T57 l0 x5_2).f0)) := (blk_cell BK115.out 0).trans rfl; have hcz49_1 : w48.cell? ⟨gb115, 1, none⟩ = some (.int .i64 ((rd_T57 l0 x5_2).f1)) := (blk_cell BK115.out 1).trans rfl; have hcz49_2 : w48.cell? ⟨gb115, 2, none⟩ = some (.int .i64 ((rd_T57 l0 x5_2).f2)) := (blk_cell BK115.out 2).trans rfl; have hcz49_3 : w48.cell? ⟨gb115, 3, none⟩ = some (.int .i64 ((rd_T57 l0 x5_2).f3)) := (blk_cell BK115.out 3).trans rfl; have hcz49_4 : w48.cell? ⟨gb115, 4, none⟩ = some (.int .i64 ((rd_T57 l0 x5_2).f4)) := (blk_cell BK115.out 4).trans rfl; have hcz49_5 : w48.cell? ⟨gb115, 5, none⟩ = some (.int .i64 ((rd_T57 l0 x5_2).f5)) := (blk_cell BK115.out 5).trans rfl; have hfz49_0 := blk_frozen BK115.out 0; have hfz49_1 := blk_frozen BK115.out 1; have hfz49_2 := blk_frozen BK115.out 2; have hfz49_3 := blk_frozen BK115.out 3; have hfz49_4 := blk_frozen BK115.out 4; have hfz49_5 := blk_frozen BK115.out 5; have p126 : 0 ≤ (3 : Int) := (by omega); have q126 : 3 < (y125.length : Int) := (by have h_ : (3 : Int) < ((x4_26.length : Int) : Int) := of_decide_eq_true (by first | (with_reducible assumption) | assumption); first | (have e_ := (Kd.R_reads' HO_4.out).1; omega) | simpa only [Ny125.out, List.length_set] using h_); have ql126 : ((3 : Int) < ((x4_26.length : Int) : Int)) = True := eq_true (of_decide_eq_true (by first | (with_reducible assumption) | assumption)); (try have qn126 : (3 < x4_26.length) = True := eq_true (by have h_ : (3 : Int) < ((x4_26.length : Int) : Int) := of_decide_eq_true (by first | (with_reducible assumption) | assumption); omega)); obtain ⟨ad126, e126, hx126_0⟩ := Kd.at_int (Kd.R_reads' HO_4.out).2.2 3 p126 q126; obtain rfl : (⟨go36, 0, none⟩ : Addr) = ad126 := (by injection e126); (first | simp only [add_plain] at hx126_0 | simp only [add_at] at hx126_0 | simp only [Addr.add, Nat.zero_add] at hx126_0 | skip); have qi126 : (3 < y125.length) = True := eq_true (by omega); (try rw [show ((3 : Int)).toNat = 3 from rfl] at hx126_0); replace p126 := eq_true p126; replace q126 := eq_true q126))
                                      repeat (go_quiet (first | ((with_reducible refine gate_store (t := 2) (p := 84) rfl ?_); (try (rw [drewN_self wc]; generalize hq_ : World.drewN wc _ = wc; have n0_ := Aside0.mk (Kd.R_at hq_ HO_4.out); have n1_ := Aside0.mk (blk_at hq_ BK115.out); have n2_ := Aside0.mk (below_at hq_ HB.out); clear hq_ HO_4 BK115 HB; have HO_4 := n0_; have BK115 := n1_; have HB := n2_; clear n0_ n1_ n2_; (try (obtain ⟨hy47_, hz47_⟩ := Kd.R_celln 0 HO_4.out (2 : Int) (by omega) (of_decide_eq_true (by first | (with_reducible assumption) | assumption)))); (try (try simp only [Int.reduceToNat, Int.toNat_zero, Int.toNat_ofNat, Nat.reduceMul, Nat.zero_mul, Nat.zero_add] at hy47_ hz47_)); (try (try rw [show ((2 : Int)).toNat = 2 from rfl] at hy47_)); (try (try rw [show ((2 : Int)).toNat = 2 from rfl] at hz47_)); (try (have HP47 := Kd.R_putg HO_4.out (2 : Int) (wrap64 (((rd_T57 l0 x5_2).f0) + ((rd_T57 l0 x5_2).f4))))))); refine store_event (t := 2) (p := 84) (v := ?vo_w48) (w1 := (wc.setCell ⟨go36, (2 : Int).toNat, none⟩ (.int .i64 (wrap64 (((rd_T57 l0 x5_2).f0) + ((rd_T57 l0 x5_2).f4)))))) ?hg ?ho ?hn ?hr ?_; (case ho => rfl); (case hg => rfl); (case hn => rfl); (case hr => first | (go_simp; done) | (go_simp; rfl)); intro w48 hw; have hg : wc.grownBy w48 (some go36) := (by rw [hw]; exact HP47.2); have hp_ : Kd.R (Kd.int .i64) 2 w48 w.heap.size (fun _ => True) (.slice (some ⟨go36, 0, none⟩) x4_26.length co19) y125 := (by rw [hw, Ny125.out]; exact HP47.1); clear HP47; have n0_ := Aside0.mk (hp_); have n1_ := Aside0.mk (blk_grown (g := gb115) (o := .cells #[.int .i64 ((rd_T57 l0 x5_2).f0), .int .i64 ((rd_T57 l0 x5_2).f1), .int .i64 ((rd_T57 l0 x5_2).f2), .int .i64 ((rd_T57 l0 x5_2).f3), .int .i64 ((rd_T57 l0 x5_2).f4), .int .i64 ((rd_T57 l0 x5_2).f5)] 57 (0, 0)) (by (with_reducible repeat (first | refine blk_drewN ?_ _ | refine blk_drew ?_ | refine blk_alloc ?_ _)); exact BK115.out) hg (Kd.R_ne HO_4.out BK115.out (by decide))); have n2_ := Aside0.mk ((by rw [hw]; exact below_set (HB.out) GB36.out : Below w.heap.size w w48)); clear HO_4; clear BK115; clear HB; have HO_4 := n0_; have BK115 := n1_; have HB := n2_; clear n0_ n1_ n2_; clear hg hw hp_; have hcz49_0 : w48.cell? ⟨gb115, 0, none⟩ = some (.int .i64 ((rd_T57 l0 x5_2).f0)) := (blk_cell BK115.out 0).trans rfl; have hcz49_1 : w48.cell? ⟨gb115, 1, none⟩ = some (.int .i64 ((rd_T57 l0 x5_2).f1)) := (blk_cell BK115.out 1).trans rfl; have hcz49_2 : w48.cell? ⟨gb115, 2, none⟩ = some (.int .i64 ((rd_T57 l0 x5_2).f2)) := (blk_cell BK115.out 2).trans rfl; have hcz49_3 : w48.cell? ⟨gb115, 3, none⟩ = some (.int .i64 ((rd_T57 l0 x5_2).f3)) := (blk_cell BK115.out 3).trans rfl; have hcz49_4 : w48.cell? ⟨gb115, 4, none⟩ = some (.int .i64 ((rd_T57 l0 x5_2).f4)) := (blk_cell BK115.out 4).trans rfl; have hcz49_5 : w48.cell? ⟨gb115, 5, none⟩ = some (.int .i64 ((rd_T57 l0 x5_2).f5)) := (blk_cell BK115.out 5).trans rfl; have hfz49_0 := blk_frozen BK115.out 0; have hfz49_1 := blk_frozen BK115.out 1; have hfz49_2 := blk_frozen BK115.out 2; have hfz49_3 := blk_frozen BK115.out 3; have hfz49_4 := blk_frozen BK115.out 4; have hfz49_5 := blk_frozen BK115.out 5; have p126 : 0 ≤ (3 : Int) := (by omega); have q126 : 3 < (y125.length : Int) := (by have h_ : (3 : Int) < ((x4_26.length : Int) : Int) := of_decide_eq_true (by first | (with_reducible assumption) | assumption); first | (have e_ := (Kd.R_reads' HO_4.out).1; omega) | simpa only [Ny125.out, List.length_set] using h_); have ql126 : ((3 : Int) < ((x4_26.length : Int) : Int)) = True := eq_true (of_decide_eq_true (by first | (with_reducible assumption) | assumption)); (try have qn126 : (3 < x4_26.length) = True := eq_true (by have h_ : (3 : Int) < ((x4_26.length : Int) : Int) := of_decide_eq_true (by first | (with_reducible assumption) | assumption); omega)); obtain ⟨ad126, e126, hx126_0⟩ := Kd.at_int (Kd.R_reads' HO_4.out).2.2 3 p126 q126; obtain rfl : (⟨go36, 0, none⟩ : Addr) = ad126 := (by injection e126); (first | simp only [add_plain] at hx126_0 | simp only [add_at] at hx126_0 | simp only [Addr.add, Nat.zero_add] at hx126_0 | skip); have qi126 : (3 < y125.length) = True := eq_true (by omega); (try rw [show ((3 : Int)).toNat = 3 from rfl] at hx126_0); replace p126 := eq_true p126; replace q126 := eq_true q126)); try go_wp2_with (first | ((with_reducible refine gate_store (t := 2) (p := 84) rfl ?_); (try (rw [drewN_self wc]; generalize hq_ : World.drewN wc _ = wc; have n0_ := Aside0.mk (Kd.R_at hq_ HO_4.out); have n1_ := Aside0.mk (blk_at hq_ BK115.out); have n2_ := Aside0.mk (below_at hq_ HB.out); clear hq_ HO_4 BK115 HB; have HO_4 := n0_; have BK115 := n1_; have HB := n2_; clear n0_ n1_ n2_; (try (obtain ⟨hy47_, hz47_⟩ := Kd.R_celln 0 HO_4.out (2 : Int) (by omega) (of_decide_eq_true (by first | (with_reducible assumption) | assumption)))); (try (try simp only [Int.reduceToNat, Int.toNat_zero, Int.toNat_ofNat, Nat.reduceMul, Nat.zero_mul, Nat.zero_add] at hy47_ hz47_)); (try (try rw [show ((2 : Int)).toNat = 2 from rfl] at hy47_)); (try (try rw [show ((2 : Int)).toNat = 2 from rfl] at hz47_)); (try (have HP47 := Kd.R_putg HO_4.out (2 : Int) (wrap64 (((rd_T57 l0 x5_2).f0) + ((rd_T57 l0 x5_2).f4))))))); refine store_event (t := 2) (p := 84) (v := ?vo_w48) (w1 := (wc.setCell ⟨go36, (2 : Int).toNat, none⟩ (.int .i64 (wrap64 (((rd_T57 l0 x5_2).f0) + ((rd_T57 l0 x5_2).f4)))))) ?hg ?ho ?hn ?hr ?_; (case ho => rfl); (case hg => rfl); (case hn => rfl); (case hr => first | (go_simp; done) | (go_simp; rfl)); intro w48 hw; have hg : wc.grownBy w48 (some go36) := (by rw [hw]; exact HP47.2); have hp_ : Kd.R (Kd.int .i64) 2 w48 w.heap.size (fun _ => True) (.slice (some ⟨go36, 0, none⟩) x4_26.length co19) y125 := (by rw [hw, Ny125.out]; exact HP47.1); clear HP47; have n0_ := Aside0.mk (hp_); have n1_ := Aside0.mk (blk_grown (g := gb115) (o := .cells #[.int .i64 ((rd_T57 l0 x5_2).f0), .int .i64 ((rd_T57 l0 x5_2).f1), .int .i64 ((rd_T57 l0 x5_2).f2), .int .i64 ((rd_T57 l0 x5_2).f3), .int .i64 ((rd_T57 l0 x5_2).f4), .int .i64 ((rd_T57 l0 x5_2).f5)] 57 (0, 0)) (by (with_reducible repeat (first | refine blk_drewN ?_ _ | refine blk_drew ?_ | refine blk_alloc ?_ _)); exact BK115.out) hg (Kd.R_ne HO_4.out BK115.out (by decide))); have n2_ := Aside0.mk ((by rw [hw]; exact below_set (HB.out) GB36.out : Below w.heap.size w w48)); clear HO_4; clear BK115; clear HB; have HO_4 := n0_; have BK115 := n1_; have HB := n2_; clear n0_ n1_ n2_; clear hg hw hp_; have hcz49_0 : w48.cell? ⟨gb115, 0, none⟩ = some (.int .i64 ((rd_T57 l0 x5_2).f0)) := (blk_cell BK115.out 0).trans rfl; have hcz49_1 : w48.cell? ⟨gb115, 1, none⟩ = some (.int .i64 ((rd_T57 l0 x5_2).f1)) := (blk_cell BK115.out 1).trans rfl; have hcz49_2 : w48.cell? ⟨gb115, 2, none⟩ = some (.int .i64 ((rd_T57 l0 x5_2).f2)) := (blk_cell BK115.out 2).trans rfl; have hcz49_3 : w48.cell? ⟨gb115, 3, none⟩ = some (.int .i64 ((rd_T57 l0 x5_2).f3)) := (blk_cell BK115.out 3).trans rfl; have hcz49_4 : w48.cell? ⟨gb115, 4, none⟩ = some (.int .i64 ((rd_T57 l0 x5_2).f4)) := (blk_cell BK115.out 4).trans rfl; have hcz49_5 : w48.cell? ⟨gb115, 5, none⟩ = some (.int .i64 ((rd_T57 l0 x5_2).f5)) := (blk_cell BK115.out 5).trans rfl; have hfz49_0 := blk_frozen BK115.out 0; have hfz49_1 := blk_frozen BK115.out 1; have hfz49_2 := blk_frozen BK115.out 2; have hfz49_3 := blk_frozen BK115.out 3; have hfz49_4 := blk_frozen BK115.out 4; have hfz49_5 := blk_frozen BK115.out 5; have p126 : 0 ≤ (3 : Int) := (by omega); have q126 : 3 < (y125.length : Int) := (by have h_ : (3 : Int) < ((x4_26.length : Int) : Int) := of_decide_eq_true (by first | (with_reducible assumption) | assumption); first | (have e_ := (Kd.R_reads' HO_4.out).1; omega) | simpa only [Ny125.out, List.length_set] using h_); have ql126 : ((3 : Int) < ((x4_26.length : Int) : Int)) = True := eq_true (of_decide_eq_true (by first | (with_reducible assumption) | assumption)); (try have qn126 : (3 < x4_26.length) = True := eq_true (by have h_ : (3 : Int) < ((x4_26.length : Int) : Int) := of_decide_eq_true (by first | (with_reducible assumption) | assumption); omega)); obtain ⟨ad126, e126, hx126_0⟩ := Kd.at_int (Kd.R_reads' HO_4.out).2.2 3 p126 q126; obtain rfl : (⟨go36, 0, none⟩ : Addr) = ad126 := (by injection e126); (first | simp only [add_plain] at hx126_0 | simp only [add_at] at hx126_0 | simp only [Addr.add, Nat.zero_add] at hx126_0 | skip); have qi126 : (3 < y125.length) = True := eq_true (by omega); (try rw [show ((3 : Int)).toNat = 3 from rfl] at hx126_0); replace p126 := eq_true p126; replace q126 := eq_true q126)))
                                      (try simp only [← hl4_16, ← hl4_26])
                                      go_roundg kj26
                                      case measure => have := HJ1.out; have := HK2.out; have := HJ16.out; have := HJ26.out; omega
                                      case rel => exact ⟨(y125), (wrap64 (x5_2 + 1)), (((rd_T57 l0 x5_2).f0)), (((rd_T57 l0 x5_2).f1)), (((rd_T57 l0 x5_2).f2)), (((rd_T57 l0 x5_2).f3)), (((rd_T57 l0 x5_2).f4)), (((rd_T57 l0 x5_2).f5)), (by first | rfl | (simp; done) | (simp [*]; done)), H', ⟨by have := HJ1.out; have := HK2.out; have := HJ16.out; have := HJ26.out; omega⟩, ⟨by (try simp only [hl4_16]); (try simp only [hl4_26]); (with_reducible repeat (first | apply Kd.R_alloc | apply Kd.R_drewN | apply Kd.R_drew)); exact HO_4.out⟩, ⟨by (try simp only [hl4_16]); (try simp only [hl4_26]); (with_reducible repeat (first | refine blk_drewN ?_ _ | refine blk_drew ?_ | refine blk_alloc ?_ _)); exact BK115.out⟩, ⟨by repeat (first | (with_reducible first | exact HB.out | apply below_alloc | apply pw_below_drewN | apply below_drew1 | refine below_set ?_ GE115.out) | exact HB.out)⟩⟩
                                  · rw [if_neg c37] at H
                                    exact absurd H (by simp)
                                · rw [if_neg c35] at H
                                  have c35b0 : decide ((rd x4_26 2) < (wrap64 (((rd_T57 l0 x5_2).f0) + ((rd_T57 l0 x5_2).f4)))) = false := decide_eq_false c35
                                  clear c35
                                  by_cases c50 : 3 < (x4_26.length : Int)
                                  · rw [if_pos c50] at H
                                    have c50b0 : decide (3 < (x4_26.length : Int)) = true := decide_eq_true c50
                                    have c50b1 : decide (3 < x4_26.length) = true := decide_eq_true (by omega)
                                    clear c50
                                    by_cases c51 : ((rd_T57 l0 x5_2).f1) > (rd x4_26 3)
                                    · rw [if_pos c51] at H
                                      have c51b0 : decide ((rd x4_26 3) < ((rd_T57 l0 x5_2).f1)) = true := decide_eq_true c51
                                      clear c51
                                      obtain ⟨y129, hy129⟩ : ∃ y_ : List Int, y_ = (x4_26.set (3 : Int).toNat ((rd_T57 l0 x5_2).f1)) := ⟨_, rfl⟩
                                      replace H : (spec_Bounds.l0 kj26 l0 y129 (wrap64 (x5_2 + 1))) = some r := by first | (rw [hy129]; with_reducible exact H) | (have H2_ := (Option.bind_some _ _).symm.trans H; rw [hy129]; with_reducible exact H2_) | (have H2_ := (Option.bind_some _ _).symm.trans H; with_reducible exact H2_) | with_reducible exact H | (rw [hy129]; exact H) | exact H
                                      have Ny129 := Aside0.mk hy129
                                      clear hy129
                                      have H' := Aside0.mk H
                                      clear H
                                      (try (rw [drewN_self wc]; generalize hq_ : World.drewN wc _ = wc; have n0_ := Aside0.mk (Kd.R_at hq_ HO_4.out); have n1_ := Aside0.mk (blk_at hq_ BK115.out); have n2_ := Aside0.mk (below_at hq_ HB.out); clear hq_ HO_4 BK115 HB; have HO_4 := n0_; have BK115 := n1_; have HB := n2_; clear n0_ n1_ n2_))
                                      have hcz53_0 : wc.cell? ⟨gb115, 0, none⟩ = some (.int .i64 ((rd_T57 l0 x5_2).f0)) := (blk_cell BK115.out 0).trans rfl
                                      have hcz53_1 : wc.cell? ⟨gb115, 1, none⟩ = some (.int .i64 ((rd_T57 l0 x5_2).f1)) := (blk_cell BK115.out 1).trans rfl
                                      have hcz53_2 : wc.cell? ⟨gb115, 2, none⟩ = some (.int .i64 ((rd_T57 l0 x5_2).f2)) := (blk_cell BK115.out 2).trans rfl
                                      have hcz53_3 : wc.cell? ⟨gb115, 3, none⟩ = some (.int .i64 ((rd_T57 l0 x5_2).f3)) := (blk_cell BK115.out 3).trans rfl
                                      have hcz53_4 : wc.cell? ⟨gb115, 4, none⟩ = some (.int .i64 ((rd_T57 l0 x5_2).f4)) := (blk_cell BK115.out 4).trans rfl
                                      have hcz53_5 : wc.cell? ⟨gb115, 5, none⟩ = some (.int .i64 ((rd_T57 l0 x5_2).f5)) := (blk_cell BK115.out 5).trans rfl
                                      have hfz53_0 := blk_frozen BK115.out 0
                                      have hfz53_1 := blk_frozen BK115.out 1
                                      have hfz53_2 := blk_frozen BK115.out 2
                                      have hfz53_3 := blk_frozen BK115.out 3
                                      have hfz53_4 := blk_frozen BK115.out 4
                                      have hfz53_5 := blk_frozen BK115.out 5
                                      have p124 : 0 ≤ (2 : Int) := (by omega)
                                      have q124 : 2 < (x4_26.length : Int) := of_decide_eq_true (by first | (with_reducible assumption) | assumption)
                                      obtain ⟨ad124, e124, hx124_0⟩ := Kd.at_int (Kd.R_reads' HO_4.out).2.2 2 p124 q124
                                      obtain rfl : ad120 = ad124 := (by injection e124)
                                      (try simp only [show (2 : Int).toNat = 2 from rfl, Nat.reduceMul, Nat.reduceEqDiff, Go.Addr.add, ↓reduceIte] at hx124_0)
                                      have qi124 : (2 < x4_26.length) = True := eq_true (by omega)
                                      (try rw [show ((2 : Int)).toNat = 2 from rfl] at hx124_0)
                                      replace p124 := eq_true p124
                                      replace q124 := eq_true q124
                                      have p128 : 0 ≤ (3 : Int) := (by omega)
                                      have q128 : 3 < (x4_26.length : Int) := of_decide_eq_true (by first | (with_reducible assumption) | assumption)
                                      obtain ⟨ad128, e128, hx128_0⟩ := Kd.at_int (Kd.R_reads' HO_4.out).2.2 3 p128 q128
                                      obtain rfl : ad120 = ad128 := (by injection e128)
                                      (try simp only [show (3 : Int).toNat = 3 from rfl, Nat.reduceMul, Nat.reduceEqDiff, Go.Addr.add, ↓reduceIte] at hx128_0)
                                      have qi128 : (3 < x4_26.length) = True := eq_true (by omega)
                                      (try rw [show ((3 : Int)).toNat = 3 from rfl] at hx128_0)
                                      replace p128 := eq_true p128
                                      replace q128 := eq_true q128
                                      have p52 : 0 ≤ (3 : Int) := (by omega)
                                      have q52 : (3 : Int) < ((x4_26.length : Int) : Int) := of_decide_eq_true (by first | (with_reducible assumption) | assumption)
                                      have qi52 : (3 < x4_26.length) = True := eq_true (by omega)
                                      obtain ⟨go52, co52, eo52, gb52, gl52, cl52, HG52⟩ := Kd.R_form HO_4.out (by omega)
                                      (first | cases eo52 | (injection eo52 with ea_ en_ ec_; (first | subst ea_ | (injection ea_ with ea_; subst ea_)); subst ec_; clear en_))
                                      have GB52 := Aside0.mk gb52
                                      have GG52 := Aside0.mk HG52
                                      clear gb52 gl52 HG52
                                      (first | simp only [add_plain] at hx124_0 | skip)
                                      (first | simp only [add_plain] at hx128_0 | skip)
                                      obtain ⟨hx52_0, hf52_0⟩ := Kd.R_celln 0 HO_4.out (3 : Int) p52 q52
                                      (try rw [show ((3 : Int)).toNat = 3 from rfl] at hx52_0)
                                      (try simp only [Nat.reduceMul, Nat.zero_mul, Nat.zero_add, Nat.reduceAdd] at hx52_0)
                                      (try rw [show ((3 : Int)).toNat = 3 from rfl] at hf52_0)
                                      (try simp only [Nat.reduceMul, Nat.zero_mul, Nat.zero_add, Nat.reduceAdd] at hf52_0)
                                      replace p52 := eq_true p52
                                      replace q52 := eq_true q52
                                      obtain ⟨hy54_, hz54_⟩ := Kd.R_celln 0 HO_4.out (3 : Int) (by omega) (of_decide_eq_true (by first | (with_reducible assumption) | assumption))
                                      (try simp only [Int.reduceToNat, Int.toNat_zero, Int.toNat_ofNat, Nat.reduceMul, Nat.zero_mul, Nat.zero_add] at hy54_ hz54_)
                                      (try rw [show ((3 : Int)).toNat = 3 from rfl] at hy54_)
                                      (try rw [show ((3 : Int)).toNat = 3 from rfl] at hz54_)
                                      have HP54 := Kd.R_putg HO_4.out (3 : Int) ((rd_T57 l0 x5_2).f1)
                                      go_wp2_with (first | ((with_reducible refine gate_store (t := 2) (p := 94) rfl ?_); (try (rw [drewN_self wc]; generalize hq_ : World.drewN wc _ = wc; have n0_ := Aside0.mk (Kd.R_at hq_ HO_4.out); have n1_ := Aside0.mk (blk_at hq_ BK115.out); have n2_ := Aside0.mk (below_at hq_ HB.out); clear hq_ HO_4 BK115 HB; have HO_4 := n0_; have BK115 := n1_; have HB := n2_; clear n0_ n1_ n2_; (try (obtain ⟨hy54_, hz54_⟩ := Kd.R_celln 0 HO_4.out (3 : Int) (by omega) (of_decide_eq_true (by first | (with_reducible assumption) | assumption)))); (try (try simp only [Int.reduceToNat, Int.toNat_zero, Int.toNat_ofNat, Nat.reduceMul, Nat.zero_mul, Nat.zero_add] at hy54_ hz54_)); (try (try rw [show ((3 : Int)).toNat = 3 from rfl] at hy54_)); (try (try rw [show ((3 : Int)).toNat = 3 from rfl] at hz54_)); (try (have HP54 := Kd.R_putg HO_4.out (3 : Int) ((rd_T57 l0 x5_2).f1))))); refine store_event (t := 2) (p := 94) (v := ?vo_w55) (w1 := (wc.setCell ⟨go52, (3 : Int).toNat, none⟩ (.int .i64 ((rd_T57 l0 x5_2).f1)))) ?hg ?ho ?hn ?hr ?_; (case ho => rfl); (case hg => rfl); (case hn => rfl); (case hr => first | (go_simp; done) | (go_simp; rfl)); intro w55 hw; have hg : wc.grownBy w55 (some go52) := (by rw [hw]; exact HP54.2); have hp_ : Kd.R (Kd.int .i64) 2 w55 w.heap.size (fun _ => True) (.slice (some ⟨go52, 0, none⟩) x4_26.length co19) y129 := (by rw [hw, Ny129.out]; exact HP54.1); clear HP54; have n0_ := Aside0.mk (hp_); have n1_ := Aside0.mk (blk_grown (g := gb115) (o := .cells #[.int .i64 ((rd_T57 l0 x5_2).f0), .int .i64 ((rd_T57 l0 x5_2).f1), .int .i64 ((rd_T57 l0 x5_2).f2), .int .i64 ((rd_T57 l0 x5_2).f3), .int .i64 ((rd_T57 l0 x5_2).f4), .int .i64 ((rd_T57 l0 x5_2).f5)] 57 (0, 0)) (by (with_reducible repeat (first | refine blk_drewN ?_ _ | refine blk_drew ?_ | refine blk_alloc ?_ _)); exact BK115.out) hg (Kd.R_ne HO_4.out BK115.out (by decide))); have n2_ := Aside0.mk ((by rw [hw]; exact below_set (HB.out) GB52.out : Below w.heap.size w w55)); clear HO_4; clear BK115; clear HB; have HO_4 := n0_; have BK115 := n1_; have HB := n2_; clear n0_ n1_ n2_; clear hg hw hp_))
                                      repeat (go_quiet (first | ((with_reducible refine gate_store (t := 2) (p := 94) rfl ?_); (try (rw [drewN_self wc]; generalize hq_ : World.drewN wc _ = wc; have n0_ := Aside0.mk (Kd.R_at hq_ HO_4.out); have n1_ := Aside0.mk (blk_at hq_ BK115.out); have n2_ := Aside0.mk (below_at hq_ HB.out); clear hq_ HO_4 BK115 HB; have HO_4 := n0_; have BK115 := n1_; have HB := n2_; clear n0_ n1_ n2_; (try (obtain ⟨hy54_, hz54_⟩ := Kd.R_celln 0 HO_4.out (3 : Int) (by omega) (of_decide_eq_true (by first | (with_reducible assumption) | assumption)))); (try (try simp only [Int.reduceToNat, Int.toNat_zero, Int.toNat_ofNat, Nat.reduceMul, Nat.zero_mul, Nat.zero_add] at hy54_ hz54_)); (try (try rw [show ((3 : Int)).toNat = 3 from rfl] at hy54_)); (try (try rw [show ((3 : Int)).toNat = 3 from rfl] at hz54_)); (try (have HP54 := Kd.R_putg HO_4.out (3 : Int) ((rd_T57 l0 x5_2).f1))))); refine store_event (t := 2) (p := 94) (v := ?vo_w55) (w1 := (wc.setCell ⟨go52, (3 : Int).toNat, none⟩ (.int .i64 ((rd_T57 l0 x5_2).f1)))) ?hg ?ho ?hn ?hr ?_; (case ho => rfl); (case hg => rfl); (case hn => rfl); (case hr => first | (go_simp; done) | (go_simp; rfl)); intro w55 hw; have hg : wc.grownBy w55 (some go52) := (by rw [hw]; exact HP54.2); have hp_ : Kd.R (Kd.int .i64) 2 w55 w.heap.size (fun _ => True) (.slice (some ⟨go52, 0, none⟩) x4_26.length co19) y129 := (by rw [hw, Ny129.out]; exact HP54.1); clear HP54; have n0_ := Aside0.mk (hp_); have n1_ := Aside0.mk (blk_grown (g := gb115) (o := .cells #[.int .i64 ((rd_T57 l0 x5_2).f0), .int .i64 ((rd_T57 l0 x5_2).f1), .int .i64 ((rd_T57 l0 x5_2).f2), .int .i64 ((rd_T57 l0 x5_2).f3), .int .i64 ((rd_T57 l0 x5_2).f4), .int .i64 ((rd_T57 l0 x5_2).f5)] 57 (0, 0)) (by (with_reducible repeat (first | refine blk_drewN ?_ _ | refine blk_drew ?_ | refine blk_alloc ?_ _)); exact BK115.out) hg (Kd.R_ne HO_4.out BK115.out (by decide))); have n2_ := Aside0.mk ((by rw [hw]; exact below_set (HB.out) GB52.out : Below w.heap.size w w55)); clear HO_4; clear BK115; clear HB; have HO_4 := n0_; have BK115 := n1_; have HB := n2_; clear n0_ n1_ n2_; clear hg hw hp_)); try go_wp2_with (first | ((with_reducible refine gate_store (t := 2) (p := 94) rfl ?_); (try (rw [drewN_self wc]; generalize hq_ : World.drewN wc _ = wc; have n0_ := Aside0.mk (Kd.R_at hq_ HO_4.out); have n1_ := Aside0.mk (blk_at hq_ BK115.out); have n2_ := Aside0.mk (below_at hq_ HB.out); clear hq_ HO_4 BK115 HB; have HO_4 := n0_; have BK115 := n1_; have HB := n2_; clear n0_ n1_ n2_; (try (obtain ⟨hy54_, hz54_⟩ := Kd.R_celln 0 HO_4.out (3 : Int) (by omega) (of_decide_eq_true (by first | (with_reducible assumption) | assumption)))); (try (try simp only [Int.reduceToNat, Int.toNat_zero, Int.toNat_ofNat, Nat.reduceMul, Nat.zero_mul, Nat.zero_add] at hy54_ hz54_)); (try (try rw [show ((3 : Int)).toNat = 3 from rfl] at hy54_)); (try (try rw [show ((3 : Int)).toNat = 3 from rfl] at hz54_)); (try (have HP54 := Kd.R_putg HO_4.out (3 : Int) ((rd_T57 l0 x5_2).f1))))); refine store_event (t := 2) (p := 94) (v := ?vo_w55) (w1 := (wc.setCell ⟨go52, (3 : Int).toNat, none⟩ (.int .i64 ((rd_T57 l0 x5_2).f1)))) ?hg ?ho ?hn ?hr ?_; (case ho => rfl); (case hg => rfl); (case hn => rfl); (case hr => first | (go_simp; done) | (go_simp; rfl)); intro w55 hw; have hg : wc.grownBy w55 (some go52) := (by rw [hw]; exact HP54.2); have hp_ : Kd.R (Kd.int .i64) 2 w55 w.heap.size (fun _ => True) (.slice (some ⟨go52, 0, none⟩) x4_26.length co19) y129 := (by rw [hw, Ny129.out]; exact HP54.1); clear HP54; have n0_ := Aside0.mk (hp_); have n1_ := Aside0.mk (blk_grown (g := gb115) (o := .cells #[.int .i64 ((rd_T57 l0 x5_2).f0), .int .i64 ((rd_T57 l0 x5_2).f1), .int .i64 ((rd_T57 l0 x5_2).f2), .int .i64 ((rd_T57 l0 x5_2).f3), .int .i64 ((rd_T57 l0 x5_2).f4), .int .i64 ((rd_T57 l0 x5_2).f5)] 57 (0, 0)) (by (with_reducible repeat (first | refine blk_drewN ?_ _ | refine blk_drew ?_ | refine blk_alloc ?_ _)); exact BK115.out) hg (Kd.R_ne HO_4.out BK115.out (by decide))); have n2_ := Aside0.mk ((by rw [hw]; exact below_set (HB.out) GB52.out : Below w.heap.size w w55)); clear HO_4; clear BK115; clear HB; have HO_4 := n0_; have BK115 := n1_; have HB := n2_; clear n0_ n1_ n2_; clear hg hw hp_)))
                                      (try simp only [← hl4_16, ← hl4_26])
                                      go_roundg kj26
                                      case measure => have := HJ1.out; have := HK2.out; have := HJ16.out; have := HJ26.out; omega
                                      case rel => exact ⟨(y129), (wrap64 (x5_2 + 1)), (((rd_T57 l0 x5_2).f0)), (((rd_T57 l0 x5_2).f1)), (((rd_T57 l0 x5_2).f2)), (((rd_T57 l0 x5_2).f3)), (((rd_T57 l0 x5_2).f4)), (((rd_T57 l0 x5_2).f5)), (by first | rfl | (simp; done) | (simp [*]; done)), H', ⟨by have := HJ1.out; have := HK2.out; have := HJ16.out; have := HJ26.out; omega⟩, ⟨by (try simp only [hl4_16]); (try simp only [hl4_26]); (with_reducible repeat (first | apply Kd.R_alloc | apply Kd.R_drewN | apply Kd.R_drew)); exact HO_4.out⟩, ⟨by (try simp only [hl4_16]); (try simp only [hl4_26]); (with_reducible repeat (first | refine blk_drewN ?_ _ | refine blk_drew ?_ | refine blk_alloc ?_ _)); exact BK115.out⟩, ⟨by repeat (first | (with_reducible first | exact HB.out | apply below_alloc | apply pw_below_drewN | apply below_drew1 | refine below_set ?_ GE115.out) | exact HB.out)⟩⟩
                                    · rw [if_neg c51] at H
                                      have c51b0 : decide ((rd x4_26 3) < ((rd_T57 l0 x5_2).f1)) = false := decide_eq_false c51
                                      clear c51
                                      have H' := Aside0.mk H
                                      clear H
                                      have hcz56_0 : wc.cell? ⟨gb115, 0, none⟩ = some (.int .i64 ((rd_T57 l0 x5_2).f0)) := (blk_cell BK115.out 0).trans rfl
                                      have hcz56_1 : wc.cell? ⟨gb115, 1, none⟩ = some (.int .i64 ((rd_T57 l0 x5_2).f1)) := (blk_cell BK115.out 1).trans rfl
                                      have hcz56_2 : wc.cell? ⟨gb115, 2, none⟩ = some (.int .i64 ((rd_T57 l0 x5_2).f2)) := (blk_cell BK115.out 2).trans rfl
                                      have hcz56_3 : wc.cell? ⟨gb115, 3, none⟩ = some (.int .i64 ((rd_T57 l0 x5_2).f3)) := (blk_cell BK115.out 3).trans rfl
                                      have hcz56_4 : wc.cell? ⟨gb115, 4, none⟩ = some (.int .i64 ((rd_T57 l0 x5_2).f4)) := (blk_cell BK115.out 4).trans rfl
                                      have hcz56_5 : wc.cell? ⟨gb115, 5, none⟩ = some (.int .i64 ((rd_T57 l0 x5_2).f5)) := (blk_cell BK115.out 5).trans rfl
                                      have hfz56_0 := blk_frozen BK115.out 0
                                      have hfz56_1 := blk_frozen BK115.out 1
                                      have hfz56_2 := blk_frozen BK115.out 2
                                      have hfz56_3 := blk_frozen BK115.out 3
                                      have hfz56_4 := blk_frozen BK115.out 4
                                      have hfz56_5 := blk_frozen BK115.out 5
                                      have p124 : 0 ≤ (2 : Int) := (by omega)
                                      have q124 : 2 < (x4_26.length : Int) := of_decide_eq_true (by first | (with_reducible assumption) | assumption)
                                      obtain ⟨ad124, e124, hx124_0⟩ := Kd.at_int (Kd.R_reads' HO_4.out).2.2 2 p124 q124
                                      obtain rfl : ad120 = ad124 := (by injection e124)
                                      (try simp only [show (2 : Int).toNat = 2 from rfl, Nat.reduceMul, Nat.reduceEqDiff, Go.Addr.add, ↓reduceIte] at hx124_0)
                                      have qi124 : (2 < x4_26.length) = True := eq_true (by omega)
                                      (try rw [show ((2 : Int)).toNat = 2 from rfl] at hx124_0)
                                      replace p124 := eq_true p124
                                      replace q124 := eq_true q124
                                      have p128 : 0 ≤ (3 : Int) := (by omega)
                                      have q128 : 3 < (x4_26.length : Int) := of_decide_eq_true (by first | (with_reducible assumption) | assumption)
                                      obtain ⟨ad128, e128, hx128_0⟩ := Kd.at_int (Kd.R_reads' HO_4.out).2.2 3 p128 q128
                                      obtain rfl : ad120 = ad128 := (by injection e128)
                                      (try simp only [show (3 : Int).toNat = 3 from rfl, Nat.reduceMul, Nat.reduceEqDiff, Go.Addr.add, ↓reduceIte] at hx128_0)
                                      have qi128 : (3 < x4_26.length) = True := eq_true (by omega)
                                      (try rw [show ((3 : Int)).toNat = 3 from rfl] at hx128_0)
                                      replace p128 := eq_true p128
                                      replace q128 := eq_true q128
                                      go_wp2
                                      repeat (go_quiet (fail); try go_wp2)
                                      (try simp only [← hl4_16, ← hl4_26])
                                      go_roundg kj26
                                      case measure => have := HJ1.out; have := HK2.out; have := HJ16.out; have := HJ26.out; omega
                                      case rel => exact ⟨(x4_26), (wrap64 (x5_2 + 1)), (((rd_T57 l0 x5_2).f0)), (((rd_T57 l0 x5_2).f1)), (((rd_T57 l0 x5_2).f2)), (((rd_T57 l0 x5_2).f3)), (((rd_T57 l0 x5_2).f4)), (((rd_T57 l0 x5_2).f5)), (by first | rfl | (simp; done) | (simp [*]; done)), H', ⟨by have := HJ1.out; have := HK2.out; have := HJ16.out; have := HJ26.out; omega⟩, ⟨by (try simp only [hl4_16]); (try simp only [hl4_26]); (with_reducible repeat (first | apply Kd.R_alloc | apply Kd.R_drewN | apply Kd.R_drew)); exact HO_4.out⟩, ⟨by (try simp only [hl4_16]); (try simp only [hl4_26]); (with_reducible repeat (first | refine blk_drewN ?_ _ | refine blk_drew ?_ | refine blk_alloc ?_ _)); exact BK115.out⟩, ⟨by repeat (first | (with_reducible first | exact HB.out | apply below_alloc | apply pw_below_drewN | apply below_drew1 | refine below_set ?_ GE115.out) | exact HB.out)⟩⟩
                                  · rw [if_neg c50] at H
                                    exact absurd H (by simp)
                              · rw [if_neg c34] at H
                                exact absurd H (by simp)
                        · rw [if_neg c26] at H
                          exact absurd H (by simp)
                  · rw [if_neg c16] at H
                    exact absurd H (by simp)
                · rw [if_neg c15] at H
                  exact absurd H (by simp)
              · rw [if_neg c14] at H
                have c14b0 : decide (x5_2 < (l0.length : Int)) = false := decide_eq_false c14
                clear c14
                obtain rfl := Option.some.inj H
                go_wp2
                repeat (go_quiet (fail); try go_wp2)
                go_ret
                exact ⟨_, by first | rfl | (simp [errW_none, errW_some] <;> rfl) | (simp [*, errW_none, errW_some] <;> rfl), by (with_reducible repeat (first | apply Kd.R_alloc | apply Kd.R_drewN | apply Kd.R_drew)); exact HO_4.out, by repeat (first | (with_reducible first | exact HB.out | apply below_alloc | apply pw_below_drewN | apply below_drew1 | refine below_set ?_ GE115.out) | exact HB.out)⟩
        · rw [if_neg c9] at H
          exact absurd H (by simp)

end Go.Proofs.Ytabamachefgilaa.PFnExactBounds
