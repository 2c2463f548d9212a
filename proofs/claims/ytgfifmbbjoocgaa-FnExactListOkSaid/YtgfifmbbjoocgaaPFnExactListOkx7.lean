-- Written by this session's program over the kit's printer (wip/gen/gp.py): Lean checks it.
import Derived.Test.YtgfifmbbjoocgaaBox
import Derived.Test.YtgfifmbbjoocgaaPFnExactListOkx0
import Derived.Test.YtgfifmbbjoocgaaPFnExactListOkx5
import Derived.Test.YtgfifmbbjoocgaaPFnExactListOkx6
namespace Go.Proofs.Ytgfifmbbjoocgaa.PFnExactListOk
open Go.RowKit Go.Proofs.YtgfifmbbjoocgaaW.PrintWords Go.Proofs.YtgfifmbbjoocgaaW.PrintLast Go.Proofs.YtgfifmbbjoocgaaW.PrintMore
attribute [local go_sem] max2_int min2_int max_two min_two max_three min_three max_four min_four   -- for this text's walks alone
set_option linter.unusedVariables false
open Go.Proofs.Ytgfifmbbjoocgaa
set_option linter.unusedSimpArgs false

/-! ### spec_l8Nest: function 83 -/
mutual
def spec_l8Nest.l0 : Nat → List (S132) → List Int → Int → Int → Option (Int)
 | 0, _, _, _, _ => none
 | k + 1, x0, x3, x4, x5 => if x5 < (x0.length : Int) then (spec_l8Nest.l1 k x0 x3 x4 x5) else (some x4)
def spec_l8Nest.j2 : Nat → List (S132) → List Int → Int → Int → Option (Int)
 | 0, _, _, _, _ => none
 | k + 1, x0, x3, x4, x5 => if 0 ≤ x5 then (if x5 < (x0.length : Int) then (if (x3.length : Int) > 0 then (if 0 ≤ (wrap64 ((x3.length : Int) - 1)) then (if (wrap64 ((x3.length : Int) - 1)) < (x3.length : Int) then (spec_l8Nest.j3 k x0 x3 x4 x5 (rd x3 (wrap64 ((x3.length : Int) - 1))) ((rd_T132 x0 x5).f0) ((rd_T132 x0 x5).f1) ((rd_T132 x0 x5).f2) ((rd_T132 x0 x5).f3) ((rd_T132 x0 x5).f4) ((rd_T132 x0 x5).f5) ((rd_T132 x0 x5).f6) ((rd_T132 x0 x5).f7) ((rd_T132 x0 x5).f8.f0) ((rd_T132 x0 x5).f8.f1) ((rd_T132 x0 x5).f8.f2) ((rd_T132 x0 x5).f8.f3) ((rd_T132 x0 x5).f8.f4) ((rd_T132 x0 x5).f9) ((rd_T132 x0 x5).f10)) else (none)) else (none)) else (spec_l8Nest.j3 k x0 x3 x4 x5 (x0.length : Int) ((rd_T132 x0 x5).f0) ((rd_T132 x0 x5).f1) ((rd_T132 x0 x5).f2) ((rd_T132 x0 x5).f3) ((rd_T132 x0 x5).f4) ((rd_T132 x0 x5).f5) ((rd_T132 x0 x5).f6) ((rd_T132 x0 x5).f7) ((rd_T132 x0 x5).f8.f0) ((rd_T132 x0 x5).f8.f1) ((rd_T132 x0 x5).f8.f2) ((rd_T132 x0 x5).f8.f3) ((rd_T132 x0 x5).f8.f4) ((rd_T132 x0 x5).f9) ((rd_T132 x0 x5).f10))) else (none)) else (none)
def spec_l8Nest.j3 : Nat → List (S132) → List Int → Int → Int → Int → Int → Int → Int → Int → Int → Int → Int → Int → Int → Int → Int → Int → Int → ByteArray → Int → Option (Int)
 | 0, _, _, _, _, _, _, _, _, _, _, _, _, _, _, _, _, _, _, _, _ => none
 | k + 1, x0, x3, x4, x5, x7, x149000, x149001, x149002, x149003, x149004, x149005, x149006, x149007, x149008, x149009, x149010, x149011, x149012, x149013, x149014 => (spec_l8NodeOk.f k x149000 x149001 x149002 x149003 x149004 x149005 x149006 x149007 x149008 x149009 x149010 x149011 x149012 x149013 x149014).bind fun t150 => (if t150 = true then (if x149014 < 0 then (spec_l8Nest.j4 k x0 x3 x4 x5 true x149000 x149001 x149002 x149003 x149004 x149005 x149006 x149007 x149008 x149009 x149010 x149011 x149012 x149013 x149014) else (spec_l8Nest.j4 k x0 x3 x4 x5 (decide (x149014 > (wrap64 ((wrap64 (x7 - x5)) - 1)))) x149000 x149001 x149002 x149003 x149004 x149005 x149006 x149007 x149008 x149009 x149010 x149011 x149012 x149013 x149014)) else (spec_l8Nest.j4 k x0 x3 x4 x5 true x149000 x149001 x149002 x149003 x149004 x149005 x149006 x149007 x149008 x149009 x149010 x149011 x149012 x149013 x149014))
def spec_l8Nest.j4 : Nat → List (S132) → List Int → Int → Int → Bool → Int → Int → Int → Int → Int → Int → Int → Int → Int → Int → Int → Int → Int → ByteArray → Int → Option (Int)
 | 0, _, _, _, _, _, _, _, _, _, _, _, _, _, _, _, _, _, _, _, _ => none
 | k + 1, x0, x3, x4, x5, x67, x149000, x149001, x149002, x149003, x149004, x149005, x149006, x149007, x149008, x149009, x149010, x149011, x149012, x149013, x149014 => if x67 = true then (some (-1)) else ((spec_l8Deep.f x149000 x149001 x149002 x149003 x149004 x149005 x149006 x149007 x149008 x149009 x149010 x149011 x149012 x149013 x149014).bind fun t151 => (if t151 = true then (if (wrap64 ((x3.length : Int) + 1)) > x4 then (if x149014 > 0 then (if x3.length < 17592186044416 then (spec_l8Nest.l0 k x0 (x3 ++ [wrap64 ((wrap64 (x5 + 1)) + x149014)]) (wrap64 ((x3.length : Int) + 1)) (wrap64 (x5 + 1))) else (none)) else (spec_l8Nest.l0 k x0 x3 (wrap64 ((x3.length : Int) + 1)) (wrap64 (x5 + 1)))) else (if x149014 > 0 then (if x3.length < 17592186044416 then (spec_l8Nest.l0 k x0 (x3 ++ [wrap64 ((wrap64 (x5 + 1)) + x149014)]) x4 (wrap64 (x5 + 1))) else (none)) else (spec_l8Nest.l0 k x0 x3 x4 (wrap64 (x5 + 1))))) else (spec_l8Nest.l0 k x0 x3 x4 (wrap64 (x5 + 1)))))
def spec_l8Nest.l1 : Nat → List (S132) → List Int → Int → Int → Option (Int)
 | 0, _, _, _, _ => none
 | k + 1, x0, x3, x4, x5 => if (x3.length : Int) > 0 then (if 0 ≤ (wrap64 ((x3.length : Int) - 1)) then (if (wrap64 ((x3.length : Int) - 1)) < (x3.length : Int) then (if (rd x3 (wrap64 ((x3.length : Int) - 1))) = x5 then (if (wrap64 ((x3.length : Int) - 1)) ≤ (x3.length : Int) then (spec_l8Nest.l1 k x0 (x3.take ((wrap64 ((x3.length : Int) - 1)) : Int).toNat) x4 x5) else (none)) else (spec_l8Nest.j2 k x0 x3 x4 x5)) else (none)) else (none)) else (spec_l8Nest.j2 k x0 x3 x4 x5)
end
def spec_l8Nest.f (k : Nat) (l0 : List (S132)) : Option (Int) := if (l0.length : Int) > 20000 then (some (-1)) else (spec_l8Nest.l0 k l0 (([] : List Int)) 0 0)
theorem spec_l8Nest.mono_l : ∀ k, (∀ y0 y1 y2 y3, LeO (spec_l8Nest.l0 k y0 y1 y2 y3) (spec_l8Nest.l0 (k + 1) y0 y1 y2 y3)) ∧ (∀ y0 y1 y2 y3, LeO (spec_l8Nest.j2 k y0 y1 y2 y3) (spec_l8Nest.j2 (k + 1) y0 y1 y2 y3)) ∧ (∀ y0 y1 y2 y3 y4 y5 y6 y7 y8 y9 y10 y11 y12 y13 y14 y15 y16 y17 y18 y19, LeO (spec_l8Nest.j3 k y0 y1 y2 y3 y4 y5 y6 y7 y8 y9 y10 y11 y12 y13 y14 y15 y16 y17 y18 y19) (spec_l8Nest.j3 (k + 1) y0 y1 y2 y3 y4 y5 y6 y7 y8 y9 y10 y11 y12 y13 y14 y15 y16 y17 y18 y19)) ∧ (∀ y0 y1 y2 y3 y4 y5 y6 y7 y8 y9 y10 y11 y12 y13 y14 y15 y16 y17 y18 y19, LeO (spec_l8Nest.j4 k y0 y1 y2 y3 y4 y5 y6 y7 y8 y9 y10 y11 y12 y13 y14 y15 y16 y17 y18 y19) (spec_l8Nest.j4 (k + 1) y0 y1 y2 y3 y4 y5 y6 y7 y8 y9 y10 y11 y12 y13 y14 y15 y16 y17 y18 y19)) ∧ (∀ y0 y1 y2 y3, LeO (spec_l8Nest.l1 k y0 y1 y2 y3) (spec_l8Nest.l1 (k + 1) y0 y1 y2 y3))
 | 0 => ⟨fun _ _ _ _ r h => by simp [spec_l8Nest.l0] at h, fun _ _ _ _ r h => by simp [spec_l8Nest.j2] at h, fun _ _ _ _ _ _ _ _ _ _ _ _ _ _ _ _ _ _ _ _ r h => by simp [spec_l8Nest.j3] at h, fun _ _ _ _ _ _ _ _ _ _ _ _ _ _ _ _ _ _ _ _ r h => by simp [spec_l8Nest.j4] at h, fun _ _ _ _ r h => by simp [spec_l8Nest.l1] at h⟩
 | k + 1 => by
  obtain ⟨ih0, ih1, ih2, ih3, ih4⟩ := spec_l8Nest.mono_l k
  refine ⟨?_, ?_, ?_, ?_, ?_⟩
  ·intro y0 y1 y2 y3
   unfold spec_l8Nest.l0
   repeat' first
   | (with_reducible exact ih0 _ _ _ _)
   | (with_reducible exact ih1 _ _ _ _)
   | (with_reducible exact ih2 _ _ _ _ _ _ _ _ _ _ _ _ _ _ _ _ _ _ _ _)
   | (with_reducible exact ih3 _ _ _ _ _ _ _ _ _ _ _ _ _ _ _ _ _ _ _ _)
   | (with_reducible exact ih4 _ _ _ _)
   | (with_reducible exact spec_l8NodeOk.mono _ _ _ _ _ _ _ _ _ _ _ _ _ _ _ _)
   | (with_reducible exact LeO.refl _)
   | (with_reducible exact LeO.none _)
   | (with_reducible refine LeO.ite ?_ ?_)
   | (with_reducible refine LeO.bind ?_ (fun _ => ?_))
   | exact ih0 _ _ _ _
   | exact ih1 _ _ _ _
   | exact ih2 _ _ _ _ _ _ _ _ _ _ _ _ _ _ _ _ _ _ _ _
   | exact ih3 _ _ _ _ _ _ _ _ _ _ _ _ _ _ _ _ _ _ _ _
   | exact ih4 _ _ _ _
   | exact spec_l8NodeOk.mono _ _ _ _ _ _ _ _ _ _ _ _ _ _ _ _
   | exact LeO.none _
   | refine LeO.ite ?_ ?_
   | refine LeO.bind ?_ (fun _ => ?_)
  ·intro y0 y1 y2 y3
   unfold spec_l8Nest.j2
   repeat' first
   | (with_reducible exact ih0 _ _ _ _)
   | (with_reducible exact ih1 _ _ _ _)
   | (with_reducible exact ih2 _ _ _ _ _ _ _ _ _ _ _ _ _ _ _ _ _ _ _ _)
   | (with_reducible exact ih3 _ _ _ _ _ _ _ _ _ _ _ _ _ _ _ _ _ _ _ _)
   | (with_reducible exact ih4 _ _ _ _)
   | (with_reducible exact spec_l8NodeOk.mono _ _ _ _ _ _ _ _ _ _ _ _ _ _ _ _)
   | (with_reducible exact LeO.refl _)
   | (with_reducible exact LeO.none _)
   | (with_reducible refine LeO.ite ?_ ?_)
   | (with_reducible refine LeO.bind ?_ (fun _ => ?_))
   | exact ih0 _ _ _ _
   | exact ih1 _ _ _ _
   | exact ih2 _ _ _ _ _ _ _ _ _ _ _ _ _ _ _ _ _ _ _ _
   | exact ih3 _ _ _ _ _ _ _ _ _ _ _ _ _ _ _ _ _ _ _ _
   | exact ih4 _ _ _ _
   | exact spec_l8NodeOk.mono _ _ _ _ _ _ _ _ _ _ _ _ _ _ _ _
   | exact LeO.none _
   | refine LeO.ite ?_ ?_
   | refine LeO.bind ?_ (fun _ => ?_)
  ·intro y0 y1 y2 y3 y4 y5 y6 y7 y8 y9 y10 y11 y12 y13 y14 y15 y16 y17 y18 y19
   unfold spec_l8Nest.j3
   repeat' first
   | (with_reducible exact ih0 _ _ _ _)
   | (with_reducible exact ih1 _ _ _ _)
   | (with_reducible exact ih2 _ _ _ _ _ _ _ _ _ _ _ _ _ _ _ _ _ _ _ _)
   | (with_reducible exact ih3 _ _ _ _ _ _ _ _ _ _ _ _ _ _ _ _ _ _ _ _)
   | (with_reducible exact ih4 _ _ _ _)
   | (with_reducible exact spec_l8NodeOk.mono _ _ _ _ _ _ _ _ _ _ _ _ _ _ _ _)
   | (with_reducible exact LeO.refl _)
   | (with_reducible exact LeO.none _)
   | (with_reducible refine LeO.ite ?_ ?_)
   | (with_reducible refine LeO.bind ?_ (fun _ => ?_))
   | exact ih0 _ _ _ _
   | exact ih1 _ _ _ _
   | exact ih2 _ _ _ _ _ _ _ _ _ _ _ _ _ _ _ _ _ _ _ _
   | exact ih3 _ _ _ _ _ _ _ _ _ _ _ _ _ _ _ _ _ _ _ _
   | exact ih4 _ _ _ _
   | exact spec_l8NodeOk.mono _ _ _ _ _ _ _ _ _ _ _ _ _ _ _ _
   | exact LeO.none _
   | refine LeO.ite ?_ ?_
   | refine LeO.bind ?_ (fun _ => ?_)
  ·intro y0 y1 y2 y3 y4 y5 y6 y7 y8 y9 y10 y11 y12 y13 y14 y15 y16 y17 y18 y19
   unfold spec_l8Nest.j4
   repeat' first
   | (with_reducible exact ih0 _ _ _ _)
   | (with_reducible exact ih1 _ _ _ _)
   | (with_reducible exact ih2 _ _ _ _ _ _ _ _ _ _ _ _ _ _ _ _ _ _ _ _)
   | (with_reducible exact ih3 _ _ _ _ _ _ _ _ _ _ _ _ _ _ _ _ _ _ _ _)
   | (with_reducible exact ih4 _ _ _ _)
   | (with_reducible exact spec_l8NodeOk.mono _ _ _ _ _ _ _ _ _ _ _ _ _ _ _ _)
   | (with_reducible exact LeO.refl _)
   | (with_reducible exact LeO.none _)
   | (with_reducible refine LeO.ite ?_ ?_)
   | (with_reducible refine LeO.bind ?_ (fun _ => ?_))
   | exact ih0 _ _ _ _
   | exact ih1 _ _ _ _
   | exact ih2 _ _ _ _ _ _ _ _ _ _ _ _ _ _ _ _ _ _ _ _
   | exact ih3 _ _ _ _ _ _ _ _ _ _ _ _ _ _ _ _ _ _ _ _
   | exact ih4 _ _ _ _
   | exact spec_l8NodeOk.mono _ _ _ _ _ _ _ _ _ _ _ _ _ _ _ _
   | exact LeO.none _
   | refine LeO.ite ?_ ?_
   | refine LeO.bind ?_ (fun _ => ?_)
  ·intro y0 y1 y2 y3
   unfold spec_l8Nest.l1
   repeat' first
   | (with_reducible exact ih0 _ _ _ _)
   | (with_reducible exact ih1 _ _ _ _)
   | (with_reducible exact ih2 _ _ _ _ _ _ _ _ _ _ _ _ _ _ _ _ _ _ _ _)
   | (with_reducible exact ih3 _ _ _ _ _ _ _ _ _ _ _ _ _ _ _ _ _ _ _ _)
   | (with_reducible exact ih4 _ _ _ _)
   | (with_reducible exact spec_l8NodeOk.mono _ _ _ _ _ _ _ _ _ _ _ _ _ _ _ _)
   | (with_reducible exact LeO.refl _)
   | (with_reducible exact LeO.none _)
   | (with_reducible refine LeO.ite ?_ ?_)
   | (with_reducible refine LeO.bind ?_ (fun _ => ?_))
   | exact ih0 _ _ _ _
   | exact ih1 _ _ _ _
   | exact ih2 _ _ _ _ _ _ _ _ _ _ _ _ _ _ _ _ _ _ _ _
   | exact ih3 _ _ _ _ _ _ _ _ _ _ _ _ _ _ _ _ _ _ _ _
   | exact ih4 _ _ _ _
   | exact spec_l8NodeOk.mono _ _ _ _ _ _ _ _ _ _ _ _ _ _ _ _
   | exact LeO.none _
   | refine LeO.ite ?_ ?_
   | refine LeO.bind ?_ (fun _ => ?_)
theorem spec_l8Nest.mono : ∀ a0 k, LeO (spec_l8Nest.f k a0) (spec_l8Nest.f (k + 1) a0) := by
 intro a0 k
 obtain ⟨ih0, ih1, ih2, ih3, ih4⟩ := spec_l8Nest.mono_l k
 unfold spec_l8Nest.f
 repeat' first
   | (with_reducible exact ih0 _ _ _ _)
   | (with_reducible exact ih1 _ _ _ _)
   | (with_reducible exact ih2 _ _ _ _ _ _ _ _ _ _ _ _ _ _ _ _ _ _ _ _)
   | (with_reducible exact ih3 _ _ _ _ _ _ _ _ _ _ _ _ _ _ _ _ _ _ _ _)
   | (with_reducible exact ih4 _ _ _ _)
   | (with_reducible exact spec_l8NodeOk.mono _ _ _ _ _ _ _ _ _ _ _ _ _ _ _ _)
   | (with_reducible exact LeO.refl _)
   | (with_reducible exact LeO.none _)
   | (with_reducible refine LeO.ite ?_ ?_)
   | (with_reducible refine LeO.bind ?_ (fun _ => ?_))
   | exact ih0 _ _ _ _
   | exact ih1 _ _ _ _
   | exact ih2 _ _ _ _ _ _ _ _ _ _ _ _ _ _ _ _ _ _ _ _
   | exact ih3 _ _ _ _ _ _ _ _ _ _ _ _ _ _ _ _ _ _ _ _
   | exact ih4 _ _ _ _
   | exact spec_l8NodeOk.mono _ _ _ _ _ _ _ _ _ _ _ _ _ _ _ _
   | exact LeO.none _
   | refine LeO.ite ?_ ?_
   | refine LeO.bind ?_ (fun _ => ?_)
set_option maxHeartbeats 800000000 in
set_option maxRecDepth 100000 in
theorem spec_l8Nest.calls (k : Nat) (A0 : Option Addr) (c0 : Nat) (l0 : List (S132)) (r : Int) (w : World) (hr0 : Kd.C k132 w A0 l0.length l0) (hc0 : l0.length ≤ c0) (h : spec_l8Nest.f k l0 = some r) :
  Calls Try.prog 83 #[.slice A0 l0.length c0] w fun e w' => e = .returned (.int .i64 r) ∧ Below w.heap.size w w' := by
 have hu132 := Try.underlying132
 have hi132 : (Try.prog.info? 132).map (·.size) = some 15 := by kernel_rfl
 have HR0 := Aside0.mk hr0
 have HC0 := Aside0.mk hc0
 clear hr0 hc0
 have HB := Aside0.mk (Below.refl w.heap.size w)
 have H : (if (l0.length : Int) > 20000 then (some (-1)) else (spec_l8Nest.l0 k l0 (([] : List Int)) 0 0)) = some r := h
 clear h
 by_cases c2 : (l0.length : Int) > 20000
 ·rw [if_pos c2] at H
  have c2b0 : decide (20000 < (l0.length : Int)) = true := decide_eq_true c2
  have c2b1 : decide (20000 < l0.length) = true := decide_eq_true (by omega)
  clear c2
  as_aux_lemma =>
   obtain rfl := Option.some.inj H
   go_enter Try.func83, Try.ntmps83
   go_wp2
   go_ret
   exact ⟨by first | rfl | (simp [errW_none, errW_some] <;> rfl) | (simp [*, errW_none, errW_some] <;> rfl), by repeat (first | (with_reducible first | exact HB.out | apply below_alloc | apply pw_below_drewN | apply below_drew1) | exact HB.out)⟩
 ·rw [if_neg c2] at H
  have c2b0 : decide (20000 < (l0.length : Int)) = false := decide_eq_false c2
  have c2b1 : decide (20000 < l0.length) = false := decide_eq_false (by omega)
  clear c2
  obtain ⟨y140, hy140⟩ : ∃ y_ : List Int, y_ = (([] : List Int)) := ⟨_, rfl⟩
  replace H : (spec_l8Nest.l0 k l0 y140 0 0) = some r := by first | (rw [hy140]; with_reducible exact H) | (have H2_ := (Option.bind_some _ _).symm.trans H; rw [hy140]; with_reducible exact H2_) | (have H2_ := (Option.bind_some _ _).symm.trans H; with_reducible exact H2_) | with_reducible exact H | (rw [hy140]; exact H) | exact H
  have Ny140 := Aside0.mk hy140
  clear hy140
  have H' := Aside0.mk H
  clear H
  go_enter Try.func83, Try.ntmps83
  go_wp2_with (first | ((with_reducible refine gate_dst (N := 11) rfl ?_); (try (refine gate_guard (by rfl) ?_; dsimp only)); refine Kd.R_lit (Kd.int .i64) _ 3 ?hg (N := 11) ?hd (xs := ([] : List Int)) (inner := []) (ok := fun _ => True) (okp := fun _ => True) ?hr ?hp (fun _ hk => hk) trivial (Below.refl _ _) (Nat.le_refl _) (by simp) ?_; (case hd => rfl); (case hg => rfl); (case hr => first | (go_simp; done) | (go_simp; rfl)); (case hp => exact (Reps.none _ _)); intro v141 w3 ho4 hb hg_ hnew_; clear hg_ hnew_; (first | rw [← Ny140.out] at ho4 | (simp only [Int.reduceToNat] at ho4; rw [← Ny140.out] at ho4)); have n0_ := Aside0.mk (Kd.R_lower ho4 (below_size (by repeat (first | (with_reducible first | exact HB.out | apply below_alloc | apply pw_below_drewN | apply below_drew1) | exact HB.out)))); have n1_ := Aside0.mk (below_step (by repeat (first | (with_reducible first | exact HB.out | apply below_alloc | apply pw_below_drewN | apply below_drew1) | exact HB.out)) hb); clear HB; have HO142 := n0_; have HB := n1_; clear n0_ n1_; clear hb ho4))
  go_loopg [3, 4, 5] k (fun kq v3 v4 v5 w' => ∃ (x3_1 : List Int) (x4_1 : Int) (x5_1 : Int), v4 = .int .i64 x4_1 ∧ v5 = .int .i64 x5_1 ∧ Aside0 (spec_l8Nest.l0 kq l0 x3_1 x4_1 x5_1 = some r) ∧ Aside0 (kq ≤ k) ∧ Aside0 (Kd.R (Kd.int .i64) 3 w' w.heap.size (fun _ => True) v3 x3_1) ∧ Aside0 (Below w.heap.size w w'))
  case atStart => exact ⟨(y140), (0), (0), (by first | rfl | (simp; done) | (simp [*]; done)), (by first | rfl | (simp; done) | (simp [*]; done)), H', ⟨Nat.le_refl _⟩, ⟨by (with_reducible repeat (first | apply Kd.R_alloc | apply Kd.R_drewN | apply Kd.R_drew)); exact HO142.out⟩, ⟨by repeat (first | (with_reducible first | exact HB.out | apply below_alloc | apply pw_below_drewN | apply below_drew1) | exact HB.out)⟩⟩
  case round =>
   clear H'
   try clear c2
   try clear c2b0
   try clear c2b1
   obtain ⟨x3_1, x4_1, x5_1, rfl, rfl, HA, HK1, HO_3, HB⟩ := hrel
   cases gk with
   | zero => exact absurd HA.out (by simp [spec_l8Nest.l0])
   | succ k1 =>
    have H := HA.out
    clear HA
    simp only [spec_l8Nest.l0] at H
    by_cases c5 : x5_1 < (l0.length : Int)
    ·rw [if_pos c5] at H
     have c5b0 : decide (x5_1 < (l0.length : Int)) = true := decide_eq_true c5
     clear c5
     have HC6 := Aside0.mk H
     clear H
     go_upto_block 2 with (fail)
     go_cut [3] (fun v3 wc => ∃ (kq : Nat) (x3_5 : List Int), Aside0 (spec_l8Nest.j2 kq l0 x3_5 x4_1 x5_1 = some r) ∧ Aside0 (kq ≤ k1) ∧ Aside0 (Kd.R (Kd.int .i64) 3 wc w.heap.size (fun _ => True) v3 x3_5) ∧ Aside0 (Below w.heap.size w wc))
     case first =>
      have H := HC6.out
      clear HC6
      have H' := Aside0.mk H
      clear H
      go_wp2
      go_loopg [3] k1 (fun kq v3 w' => ∃ (x3_2 : List Int), Aside0 (spec_l8Nest.l1 kq l0 x3_2 x4_1 x5_1 = some r) ∧ Aside0 (kq ≤ k1) ∧ Aside0 (Kd.R (Kd.int .i64) 3 w' w.heap.size (fun _ => True) v3 x3_2) ∧ Aside0 (Below w.heap.size w w'))
      case atStart => exact ⟨(x3_1), H', ⟨Nat.le_refl _⟩, ⟨by (with_reducible repeat (first | apply Kd.R_alloc | apply Kd.R_drewN | apply Kd.R_drew)); exact HO_3.out⟩, ⟨by repeat (first | (with_reducible first | exact HB.out | apply below_alloc | apply pw_below_drewN | apply below_drew1) | exact HB.out)⟩⟩
      case round =>
       clear H'
       try clear c2
       try clear c2b0
       try clear c2b1
       try clear c5
       try clear c5b0
       obtain ⟨x3_2, HA, HK2, HO_3, HB⟩ := hrel
       cases gk with
       | zero => exact absurd HA.out (by simp [spec_l8Nest.l1])
       | succ k2 =>
        have H := HA.out
        clear HA
        simp only [spec_l8Nest.l1] at H
        by_cases c7 : (x3_2.length : Int) > 0
        ·rw [if_pos c7] at H
         have c7b0 : decide (0 < (x3_2.length : Int)) = true := decide_eq_true c7
         have c7b1 : decide (0 < x3_2.length) = true := decide_eq_true (by omega)
         clear c7
         (first | rw [c7b0] | (simp only [i64_w, i32_w]; rw [c7b0]) | skip)
         obtain ⟨ji8, hji8⟩ : ∃ j_ : Int, (wrap64 ((x3_2.length : Int) - 1)) = j_ := ⟨_, rfl⟩
         replace H : (if 0 ≤ (ji8) then (if (ji8) < (x3_2.length : Int) then (if (rd x3_2 (ji8)) = x5_1 then (if (ji8) ≤ (x3_2.length : Int) then (spec_l8Nest.l1 k2 l0 (x3_2.take ((ji8) : Int).toNat) x4_1 x5_1) else (none)) else (spec_l8Nest.j2 k2 l0 x3_2 x4_1 x5_1)) else (none)) else (none)) = some r := by first | (rw [hji8] at H; exact H) | (simp only [hji8] at H ⊢; exact H)
         have hji8w : (IntKind.i64.wrap ((x3_2.length : Int) - 1)) = ji8 := (i64_w _).trans hji8
         by_cases c9 : 0 ≤ (ji8)
         ·rw [if_pos c9] at H
          have c9b0 : decide (0 ≤ (ji8)) = true := decide_eq_true c9
          clear c9
          by_cases c10 : (ji8) < (x3_2.length : Int)
          ·rw [if_pos c10] at H
           have c10b0 : decide ((ji8) < (x3_2.length : Int)) = true := decide_eq_true c10
           clear c10
           by_cases c11 : (rd x3_2 (ji8)) = x5_1
           ·rw [if_pos c11] at H
            have c11b0 : ((rd x3_2 (ji8)) == x5_1) = true := beq_iff_eq.mpr c11
            have c11b1 : ((rd x3_2 (ji8)) != x5_1) = false := bne_eq_false_iff_eq.mpr c11
            clear c11
            by_cases c12 : (ji8) ≤ (x3_2.length : Int)
            ·rw [if_pos c12] at H
             have c12b0 := eq_true c12
             have c12b1 : decide ((ji8) ≤ (x3_2.length : Int)) = true := decide_eq_true c12
             clear c12
             obtain ⟨y144, hy144⟩ : ∃ y_ : List Int, y_ = (x3_2.take ((ji8) : Int).toNat) := ⟨_, rfl⟩
             replace H : (spec_l8Nest.l1 k2 l0 y144 x4_1 x5_1) = some r := by first | (rw [hy144]; with_reducible exact H) | (have H2_ := (Option.bind_some _ _).symm.trans H; rw [hy144]; with_reducible exact H2_) | (have H2_ := (Option.bind_some _ _).symm.trans H; with_reducible exact H2_) | with_reducible exact H | (rw [hy144]; exact H) | exact H
             have Ny144 := Aside0.mk hy144
             clear hy144
             as_aux_lemma =>
              have H' := Aside0.mk H
              clear H
              obtain ⟨Ao13, co13, eo13⟩ := Kd.R_slice HO_3.out
              subst eo13
              have p143 : 0 ≤ ((ji8) : Int) := of_decide_eq_true (by first | (with_reducible assumption) | assumption)
              have q143 : (ji8) < (x3_2.length : Int) := of_decide_eq_true (by first | (with_reducible assumption) | assumption)
              obtain ⟨ad143, e143, hx143_0⟩ := Kd.at_int (Kd.R_reads' HO_3.out).2.2 (ji8) p143 q143
              cases e143
              replace p143 := eq_true p143
              replace q143 := eq_true q143
              have q14 : ((ji8) : Int) ≤ ((x3_2.length : Int) : Int) := of_decide_eq_true (by first | (with_reducible assumption) | assumption)
              obtain ⟨i014, hi014, _, hsz14, _⟩ := info_parts info3
              have hcut14 := cut_to (P := Try.prog) 182 3 .i64 Try.underlying182 hi014 (some ad143) x3_2.length co13 (ji8) (of_decide_eq_true (by first | (with_reducible assumption) | assumption)) q14 (Kd.R_reads' HO_3.out).2.1
              have hr14 := Kd.R_take (m := ((ji8) : Int).toNat) HO_3.out (by first | omega | (have e_ := (Kd.R_reads' HO_3.out).1; omega))
              have hy14 : y144.length = ((ji8) : Int).toNat := (by rw [Ny144.out, List.length_take]; first | omega | (have e_ := (Kd.R_reads' HO_3.out).1; omega))
              rw [← Ny144.out] at hr14
              rw [← hy14] at hr14 hcut14
              clear hy14 hi014 hsz14 HO_3
              have HO146 := Aside0.mk hr14
              clear hr14
              replace q14 := eq_true q14
              go_wp2
              go_roundg k2
              case measure => have := HK1.out; have := HK2.out; omega
              case rel => exact ⟨(y144), H', ⟨by have := HK1.out; have := HK2.out; omega⟩, ⟨by (with_reducible repeat (first | apply Kd.R_alloc | apply Kd.R_drewN | apply Kd.R_drew)); exact HO146.out⟩, ⟨by repeat (first | (with_reducible first | exact HB.out | apply below_alloc | apply pw_below_drewN | apply below_drew1) | exact HB.out)⟩⟩
            ·rw [if_neg c12] at H
             exact absurd H (by simp)
           ·rw [if_neg c11] at H
            have c11b0 : ((rd x3_2 (ji8)) == x5_1) = false := beq_eq_false_iff_ne.mpr c11
            have c11b1 : ((rd x3_2 (ji8)) != x5_1) = true := bne_iff_ne.mpr c11
            as_aux_lemma =>
             have H' := Aside0.mk H
             clear H
             obtain ⟨Ao15, co15, eo15⟩ := Kd.R_slice HO_3.out
             subst eo15
             have p143 : 0 ≤ ((ji8) : Int) := of_decide_eq_true (by first | (with_reducible assumption) | assumption)
             have q143 : (ji8) < (x3_2.length : Int) := of_decide_eq_true (by first | (with_reducible assumption) | assumption)
             obtain ⟨ad143, e143, hx143_0⟩ := Kd.at_int (Kd.R_reads' HO_3.out).2.2 (ji8) p143 q143
             cases e143
             replace p143 := eq_true p143
             replace q143 := eq_true q143
             go_wp2
             go_meet
             case rel => exact ⟨_, (x3_2), H', ⟨by have := HK1.out; have := HK2.out; first | omega | exact Nat.le_refl _⟩, ⟨by (with_reducible repeat (first | apply Kd.R_alloc | apply Kd.R_drewN | apply Kd.R_drew)); exact HO_3.out⟩, ⟨by repeat (first | (with_reducible first | exact HB.out | apply below_alloc | apply pw_below_drewN | apply below_drew1) | exact HB.out)⟩⟩
          ·rw [if_neg c10] at H
           exact absurd H (by simp)
         ·rw [if_neg c9] at H
          exact absurd H (by simp)
        ·rw [if_neg c7] at H
         have c7b0 : decide (0 < (x3_2.length : Int)) = false := decide_eq_false c7
         have c7b1 : decide (0 < x3_2.length) = false := decide_eq_false (by omega)
         clear c7
         (first | rw [c7b0] | (simp only [i64_w, i32_w]; rw [c7b0]) | skip)
         as_aux_lemma =>
          have H' := Aside0.mk H
          clear H
          obtain ⟨Ao16, co16, eo16⟩ := Kd.R_slice HO_3.out
          subst eo16
          go_wp2
          go_meet
          case rel => exact ⟨_, (x3_2), H', ⟨by have := HK1.out; have := HK2.out; first | omega | exact Nat.le_refl _⟩, ⟨by (with_reducible repeat (first | apply Kd.R_alloc | apply Kd.R_drewN | apply Kd.R_drew)); exact HO_3.out⟩, ⟨by repeat (first | (with_reducible first | exact HB.out | apply below_alloc | apply pw_below_drewN | apply below_drew1) | exact HB.out)⟩⟩
     case rest =>
      clear HC6
      try clear c2
      try clear c2b0
      try clear c2b1
      try clear c5
      try clear c5b0
      try clear c7
      try clear c7b0
      try clear c7b1
      try clear c9
      try clear c9b0
      try clear c10
      try clear c10b0
      try clear c11
      try clear c11b0
      try clear c11b1
      try clear c12
      try clear c12b0
      try clear c12b1
      try clear q14
      try clear hx143_0
      try clear p143
      try clear q14
      try clear q143
      obtain ⟨kq, x3_5, HA, HJ5, HO_3, HB⟩ := hcut
      cases kq with
      | zero => exact absurd HA.out (by simp [spec_l8Nest.j2])
      | succ kj5 =>
       have H := HA.out
       clear HA
       simp only [spec_l8Nest.j2] at H
       by_cases c17 : 0 ≤ x5_1
       ·rw [if_pos c17] at H
        have c17b0 : decide (0 ≤ x5_1) = true := decide_eq_true c17
        clear c17
        by_cases c18 : x5_1 < (l0.length : Int)
        ·rw [if_pos c18] at H
         have c18b0 : decide (x5_1 < (l0.length : Int)) = true := decide_eq_true c18
         clear c18
         have HC19 := Aside0.mk H
         clear H
         have p147 : 0 ≤ (x5_1 : Int) := of_decide_eq_true (by first | (with_reducible assumption) | assumption)
         have q147 : x5_1 < (l0.length : Int) := of_decide_eq_true (by first | (with_reducible assumption) | assumption)
         obtain ⟨ad147, e147, hx147_0, hx147_1, hx147_2, hx147_3, hx147_4, hx147_5, hx147_6, hx147_7, hx147_8, hx147_9, hx147_10, hx147_11, hx147_12, hx147_13, hx147_14⟩ := at_T132 HR0.out x5_1 p147 q147
         cases e147
         replace hx147_0 := (HB.out.cell (World.block_lt_of_cell? w _ hx147_0)).trans hx147_0
         replace hx147_1 := (HB.out.cell (World.block_lt_of_cell? w _ hx147_1)).trans hx147_1
         replace hx147_2 := (HB.out.cell (World.block_lt_of_cell? w _ hx147_2)).trans hx147_2
         replace hx147_3 := (HB.out.cell (World.block_lt_of_cell? w _ hx147_3)).trans hx147_3
         replace hx147_4 := (HB.out.cell (World.block_lt_of_cell? w _ hx147_4)).trans hx147_4
         replace hx147_5 := (HB.out.cell (World.block_lt_of_cell? w _ hx147_5)).trans hx147_5
         replace hx147_6 := (HB.out.cell (World.block_lt_of_cell? w _ hx147_6)).trans hx147_6
         replace hx147_7 := (HB.out.cell (World.block_lt_of_cell? w _ hx147_7)).trans hx147_7
         replace hx147_8 := (HB.out.cell (World.block_lt_of_cell? w _ hx147_8)).trans hx147_8
         replace hx147_9 := (HB.out.cell (World.block_lt_of_cell? w _ hx147_9)).trans hx147_9
         replace hx147_10 := (HB.out.cell (World.block_lt_of_cell? w _ hx147_10)).trans hx147_10
         replace hx147_11 := (HB.out.cell (World.block_lt_of_cell? w _ hx147_11)).trans hx147_11
         replace hx147_12 := (HB.out.cell (World.block_lt_of_cell? w _ hx147_12)).trans hx147_12
         replace hx147_13 := (HB.out.cell (World.block_lt_of_cell? w _ hx147_13)).trans hx147_13
         replace hx147_14 := (HB.out.cell (World.block_lt_of_cell? w _ hx147_14)).trans hx147_14
         replace p147 := eq_true p147
         replace q147 := eq_true q147
         go_upto_if 44 with (first | ((with_reducible refine gate_dst (N := 6) rfl ?_); (try (refine gate_guard (by rfl) ?_; dsimp only)); refine box_event ?hg (N := 6) ?hd (cs := #[.int .i64 0, .int .i64 0, .int .i64 0, .int .i64 0, .int .i64 0, .int .i64 0, .int .i64 0, .int .i64 0, .int .i64 0, .int .i64 0, .int .i64 0, .int .i64 0, .int .i64 0, .string (⟨#[]⟩ : ByteArray), .int .i64 0]) (t := 132) ?hr ?_; (case hd => rfl); (case hg => rfl); (case hr => first | (go_simp; done) | (go_simp; rfl)); intro gb148 hg w20 hbox hb; have n0_ := Aside0.mk (Kd.R_below (by (with_reducible repeat (first | apply Kd.R_alloc | apply Kd.R_drewN | apply Kd.R_drew)); exact HO_3.out) hb); have n1_ := Aside0.mk (below_step (by repeat (first | (with_reducible first | exact HB.out | apply below_alloc | apply pw_below_drewN | apply below_drew1) | exact HB.out)) hb); have n2_ := Aside0.mk (hbox); have n3_ := Aside0.mk ((by rw [hg]; exact (below_size (by repeat (first | (with_reducible first | exact HB.out | apply below_alloc | apply pw_below_drewN | apply below_drew1) | exact HB.out))) : w.heap.size ≤ gb148)); have n4_ := Aside0.mk ((by rw [hg]; exact (below_size (by repeat (first | (with_reducible first | exact HB.out | apply below_alloc | apply pw_below_drewN | apply below_drew1) | exact HB.out))) : w.heap.size ≤ gb148)); clear HO_3; clear HB; have HO_3 := n0_; have HB := n1_; have BK148 := n2_; have GW148 := n3_; have GE148 := n4_; clear n0_ n1_ n2_ n3_ n4_; clear hb hbox hg; clear hx147_0 hx147_1 hx147_2 hx147_3 hx147_4 hx147_5 hx147_6 hx147_7 hx147_8 hx147_9 hx147_10 hx147_11 hx147_12 hx147_13 hx147_14; obtain ⟨Ao22, co22, eo22⟩ := Kd.R_slice HO_3.out; subst eo22) | ((with_reducible refine gate_store (t := 132) (p := 6) rfl ?_); refine Box.part_store rfl 132 132 6 _ rfl rfl gb148 0 (.agg #[.int .i64 ((rd_T132 l0 x5_1).f0), .int .i64 ((rd_T132 l0 x5_1).f1), .int .i64 ((rd_T132 l0 x5_1).f2), .int .i64 ((rd_T132 l0 x5_1).f3), .int .i64 ((rd_T132 l0 x5_1).f4), .int .i64 ((rd_T132 l0 x5_1).f5), .int .i64 ((rd_T132 l0 x5_1).f6), .int .i64 ((rd_T132 l0 x5_1).f7), .int .i64 ((rd_T132 l0 x5_1).f8.f0), .int .i64 ((rd_T132 l0 x5_1).f8.f1), .int .i64 ((rd_T132 l0 x5_1).f8.f2), .int .i64 ((rd_T132 l0 x5_1).f8.f3), .int .i64 ((rd_T132 l0 x5_1).f8.f4), .string ((rd_T132 l0 x5_1).f9), .int .i64 ((rd_T132 l0 x5_1).f10)]) [.int .i64 ((rd_T132 l0 x5_1).f0), .int .i64 ((rd_T132 l0 x5_1).f1), .int .i64 ((rd_T132 l0 x5_1).f2), .int .i64 ((rd_T132 l0 x5_1).f3), .int .i64 ((rd_T132 l0 x5_1).f4), .int .i64 ((rd_T132 l0 x5_1).f5), .int .i64 ((rd_T132 l0 x5_1).f6), .int .i64 ((rd_T132 l0 x5_1).f7), .int .i64 ((rd_T132 l0 x5_1).f8.f0), .int .i64 ((rd_T132 l0 x5_1).f8.f1), .int .i64 ((rd_T132 l0 x5_1).f8.f2), .int .i64 ((rd_T132 l0 x5_1).f8.f3), .int .i64 ((rd_T132 l0 x5_1).f8.f4), .string ((rd_T132 l0 x5_1).f9), .int .i64 ((rd_T132 l0 x5_1).f10)] #[.int .i64 0, .int .i64 0, .int .i64 0, .int .i64 0, .int .i64 0, .int .i64 0, .int .i64 0, .int .i64 0, .int .i64 0, .int .i64 0, .int .i64 0, .int .i64 0, .int .i64 0, .string (⟨#[]⟩ : ByteArray), .int .i64 0] #[.int .i64 ((rd_T132 l0 x5_1).f0), .int .i64 ((rd_T132 l0 x5_1).f1), .int .i64 ((rd_T132 l0 x5_1).f2), .int .i64 ((rd_T132 l0 x5_1).f3), .int .i64 ((rd_T132 l0 x5_1).f4), .int .i64 ((rd_T132 l0 x5_1).f5), .int .i64 ((rd_T132 l0 x5_1).f6), .int .i64 ((rd_T132 l0 x5_1).f7), .int .i64 ((rd_T132 l0 x5_1).f8.f0), .int .i64 ((rd_T132 l0 x5_1).f8.f1), .int .i64 ((rd_T132 l0 x5_1).f8.f2), .int .i64 ((rd_T132 l0 x5_1).f8.f3), .int .i64 ((rd_T132 l0 x5_1).f8.f4), .string ((rd_T132 l0 x5_1).f9), .int .i64 ((rd_T132 l0 x5_1).f10)] rfl rfl rfl (by (with_reducible repeat (first | refine blk_drewN ?_ _ | refine blk_drew ?_ | refine blk_alloc ?_ _)); exact BK148.out) hi132 (Nat.le_of_ble_eq_true rfl) rfl rfl ?_; intro wst hb hk hl; have n0_ := Aside0.mk (hl w.heap.size w GE148.out (by repeat (first | (with_reducible first | exact HB.out | apply below_alloc | apply pw_below_drewN | apply below_drew1) | exact HB.out))); have n1_ := Aside0.mk (Kd.R_mono (Kd.R_step (Kd.R_types (by (with_reducible repeat (first | apply Kd.R_alloc | apply Kd.R_drewN | apply Kd.R_drew)); exact HO_3.out) (by (with_reducible repeat (first | refine blk_drewN ?_ _ | refine blk_drew ?_ | refine blk_alloc ?_ _)); exact BK148.out) (by decide)) (fun k_ hk_ _ => hk k_ hk_.2)) (fun _ hk_ => hk_.1)); clear HB HO_3 BK148; have HB := n0_; have HO_3 := n1_; have BK148 := Aside0.mk hb; clear n0_ n1_ hb hk hl))
         (try simp only [Act.put, List.setIfInBounds_toArray, List.set_cons_zero, List.set_cons_succ])
         go_cut [7] (fun v7 wc => ∃ (kq : Nat) (x7_18 : Int), v7 = .int .i64 x7_18 ∧ Aside0 (spec_l8Nest.j3 kq l0 x3_5 x4_1 x5_1 x7_18 ((rd_T132 l0 x5_1).f0) ((rd_T132 l0 x5_1).f1) ((rd_T132 l0 x5_1).f2) ((rd_T132 l0 x5_1).f3) ((rd_T132 l0 x5_1).f4) ((rd_T132 l0 x5_1).f5) ((rd_T132 l0 x5_1).f6) ((rd_T132 l0 x5_1).f7) ((rd_T132 l0 x5_1).f8.f0) ((rd_T132 l0 x5_1).f8.f1) ((rd_T132 l0 x5_1).f8.f2) ((rd_T132 l0 x5_1).f8.f3) ((rd_T132 l0 x5_1).f8.f4) ((rd_T132 l0 x5_1).f9) ((rd_T132 l0 x5_1).f10) = some r) ∧ Aside0 (kq ≤ kj5) ∧ Aside0 (Kd.R (Kd.int .i64) 3 wc w.heap.size (fun _ => True) (.slice Ao22 x3_5.length co22) x3_5) ∧ Aside0 (wc.heap[gb148]? = some (.cells #[.int .i64 ((rd_T132 l0 x5_1).f0), .int .i64 ((rd_T132 l0 x5_1).f1), .int .i64 ((rd_T132 l0 x5_1).f2), .int .i64 ((rd_T132 l0 x5_1).f3), .int .i64 ((rd_T132 l0 x5_1).f4), .int .i64 ((rd_T132 l0 x5_1).f5), .int .i64 ((rd_T132 l0 x5_1).f6), .int .i64 ((rd_T132 l0 x5_1).f7), .int .i64 ((rd_T132 l0 x5_1).f8.f0), .int .i64 ((rd_T132 l0 x5_1).f8.f1), .int .i64 ((rd_T132 l0 x5_1).f8.f2), .int .i64 ((rd_T132 l0 x5_1).f8.f3), .int .i64 ((rd_T132 l0 x5_1).f8.f4), .string ((rd_T132 l0 x5_1).f9), .int .i64 ((rd_T132 l0 x5_1).f10)] 132 (0, 0))) ∧ Aside0 (Below w.heap.size w wc))
         case first =>
          have H := HC19.out
          clear HC19
          by_cases c23 : (x3_5.length : Int) > 0
          ·rw [if_pos c23] at H
           have c23b0 : decide (0 < (x3_5.length : Int)) = true := decide_eq_true c23
           have c23b1 : decide (0 < x3_5.length) = true := decide_eq_true (by omega)
           clear c23
           (first | rw [c23b0] | (simp only [i64_w, i32_w]; rw [c23b0]) | skip)
           (try rw [c23b1])
           obtain ⟨ji24, hji24⟩ : ∃ j_ : Int, (wrap64 ((x3_5.length : Int) - 1)) = j_ := ⟨_, rfl⟩
           replace H : (if 0 ≤ (ji24) then (if (ji24) < (x3_5.length : Int) then (spec_l8Nest.j3 kj5 l0 x3_5 x4_1 x5_1 (rd x3_5 (ji24)) ((rd_T132 l0 x5_1).f0) ((rd_T132 l0 x5_1).f1) ((rd_T132 l0 x5_1).f2) ((rd_T132 l0 x5_1).f3) ((rd_T132 l0 x5_1).f4) ((rd_T132 l0 x5_1).f5) ((rd_T132 l0 x5_1).f6) ((rd_T132 l0 x5_1).f7) ((rd_T132 l0 x5_1).f8.f0) ((rd_T132 l0 x5_1).f8.f1) ((rd_T132 l0 x5_1).f8.f2) ((rd_T132 l0 x5_1).f8.f3) ((rd_T132 l0 x5_1).f8.f4) ((rd_T132 l0 x5_1).f9) ((rd_T132 l0 x5_1).f10)) else (none)) else (none)) = some r := by first | (rw [hji24] at H; exact H) | (simp only [hji24] at H ⊢; exact H)
           have hji24w : (IntKind.i64.wrap ((x3_5.length : Int) - 1)) = ji24 := (i64_w _).trans hji24
           by_cases c25 : 0 ≤ (ji24)
           ·rw [if_pos c25] at H
            have c25b0 : decide (0 ≤ (ji24)) = true := decide_eq_true c25
            clear c25
            by_cases c26 : (ji24) < (x3_5.length : Int)
            ·rw [if_pos c26] at H
             have c26b0 : decide ((ji24) < (x3_5.length : Int)) = true := decide_eq_true c26
             clear c26
             as_aux_lemma =>
              have H' := Aside0.mk H
              clear H
              have p149 : 0 ≤ ((ji24) : Int) := of_decide_eq_true (by first | (with_reducible assumption) | assumption)
              have q149 : (ji24) < (x3_5.length : Int) := of_decide_eq_true (by first | (with_reducible assumption) | assumption)
              obtain ⟨ad149, e149, hx149_0⟩ := Kd.at_int (Kd.R_reads' HO_3.out).2.2 (ji24) p149 q149
              cases e149
              replace p149 := eq_true p149
              replace q149 := eq_true q149
              go_wp2
              go_meet
              case rel => exact ⟨_, (rd x3_5 (ji24)), (by first | rfl | (simp; done) | (simp only [← hji24] <;> (first | rfl | simp)) | (simp [*]; done)), H', ⟨by have := HK1.out; have := HJ5.out; first | omega | exact Nat.le_refl _⟩, ⟨by (with_reducible repeat (first | apply Kd.R_alloc | apply Kd.R_drewN | apply Kd.R_drew)); exact HO_3.out⟩, ⟨by (with_reducible repeat (first | refine blk_drewN ?_ _ | refine blk_drew ?_ | refine blk_alloc ?_ _)); exact BK148.out⟩, ⟨by repeat (first | (with_reducible first | exact HB.out | apply below_alloc | apply pw_below_drewN | apply below_drew1 | refine below_set ?_ GE148.out) | exact HB.out)⟩⟩
            ·rw [if_neg c26] at H
             exact absurd H (by simp)
           ·rw [if_neg c25] at H
            exact absurd H (by simp)
          ·rw [if_neg c23] at H
           have c23b0 : decide (0 < (x3_5.length : Int)) = false := decide_eq_false c23
           have c23b1 : decide (0 < x3_5.length) = false := decide_eq_false (by omega)
           clear c23
           (first | rw [c23b0] | (simp only [i64_w, i32_w]; rw [c23b0]) | skip)
           (try rw [c23b1])
           as_aux_lemma =>
            have H' := Aside0.mk H
            clear H
            go_wp2
            go_meet
            case rel => exact ⟨_, ((l0.length : Int)), (by first | rfl | (simp; done) | (simp [*]; done)), H', ⟨by have := HK1.out; have := HJ5.out; first | omega | exact Nat.le_refl _⟩, ⟨by (with_reducible repeat (first | apply Kd.R_alloc | apply Kd.R_drewN | apply Kd.R_drew)); exact HO_3.out⟩, ⟨by (with_reducible repeat (first | refine blk_drewN ?_ _ | refine blk_drew ?_ | refine blk_alloc ?_ _)); exact BK148.out⟩, ⟨by repeat (first | (with_reducible first | exact HB.out | apply below_alloc | apply pw_below_drewN | apply below_drew1 | refine below_set ?_ GE148.out) | exact HB.out)⟩⟩
         case rest =>
          clear HC19
          try clear c2
          try clear c2b0
          try clear c2b1
          try clear c5
          try clear c5b0
          try clear c7
          try clear c7b0
          try clear c7b1
          try clear c9
          try clear c9b0
          try clear c10
          try clear c10b0
          try clear c11
          try clear c11b0
          try clear c11b1
          try clear c12
          try clear c12b0
          try clear c12b1
          try clear q14
          try clear c17
          try clear c17b0
          try clear c18
          try clear c18b0
          try clear c23
          try clear c23b0
          try clear c23b1
          try clear c25
          try clear c25b0
          try clear c26
          try clear c26b0
          try clear hx143_0
          try clear hx147_0
          try clear hx147_1
          try clear hx147_10
          try clear hx147_11
          try clear hx147_12
          try clear hx147_13
          try clear hx147_14
          try clear hx147_2
          try clear hx147_3
          try clear hx147_4
          try clear hx147_5
          try clear hx147_6
          try clear hx147_7
          try clear hx147_8
          try clear hx147_9
          try clear hx149_0
          try clear p143
          try clear p147
          try clear p149
          try clear q14
          try clear q143
          try clear q147
          try clear q149
          obtain ⟨kq, x7_18, rfl, HA, HJ18, HO_3, BK148, HB⟩ := hcut
          cases kq with
          | zero => exact absurd HA.out (by simp [spec_l8Nest.j3])
          | succ kj18 =>
           have H := HA.out
           clear HA
           simp only [spec_l8Nest.j3] at H
           have HC27 := Aside0.mk H
           clear H
           go_upto_region 14 with (fail)
           go_cut [67] (fun v67 wc => ∃ (kq : Nat) (x67_26 : Bool), v67 = .bool x67_26 ∧ Aside0 (spec_l8Nest.j4 kq l0 x3_5 x4_1 x5_1 x67_26 ((rd_T132 l0 x5_1).f0) ((rd_T132 l0 x5_1).f1) ((rd_T132 l0 x5_1).f2) ((rd_T132 l0 x5_1).f3) ((rd_T132 l0 x5_1).f4) ((rd_T132 l0 x5_1).f5) ((rd_T132 l0 x5_1).f6) ((rd_T132 l0 x5_1).f7) ((rd_T132 l0 x5_1).f8.f0) ((rd_T132 l0 x5_1).f8.f1) ((rd_T132 l0 x5_1).f8.f2) ((rd_T132 l0 x5_1).f8.f3) ((rd_T132 l0 x5_1).f8.f4) ((rd_T132 l0 x5_1).f9) ((rd_T132 l0 x5_1).f10) = some r) ∧ Aside0 (kq ≤ kj18) ∧ Aside0 (Kd.R (Kd.int .i64) 3 wc w.heap.size (fun _ => True) (.slice Ao22 x3_5.length co22) x3_5) ∧ Aside0 (wc.heap[gb148]? = some (.cells #[.int .i64 ((rd_T132 l0 x5_1).f0), .int .i64 ((rd_T132 l0 x5_1).f1), .int .i64 ((rd_T132 l0 x5_1).f2), .int .i64 ((rd_T132 l0 x5_1).f3), .int .i64 ((rd_T132 l0 x5_1).f4), .int .i64 ((rd_T132 l0 x5_1).f5), .int .i64 ((rd_T132 l0 x5_1).f6), .int .i64 ((rd_T132 l0 x5_1).f7), .int .i64 ((rd_T132 l0 x5_1).f8.f0), .int .i64 ((rd_T132 l0 x5_1).f8.f1), .int .i64 ((rd_T132 l0 x5_1).f8.f2), .int .i64 ((rd_T132 l0 x5_1).f8.f3), .int .i64 ((rd_T132 l0 x5_1).f8.f4), .string ((rd_T132 l0 x5_1).f9), .int .i64 ((rd_T132 l0 x5_1).f10)] 132 (0, 0))) ∧ Aside0 (Below w.heap.size w wc))
           case first =>
            have H := HC27.out
            clear HC27
            replace H := Option.bind_eq_some_iff.mp H
            obtain ⟨t150, A280, H⟩ := H
            replace H : (if t150 = true then (if ((rd_T132 l0 x5_1).f10) < 0 then (spec_l8Nest.j4 kj18 l0 x3_5 x4_1 x5_1 true ((rd_T132 l0 x5_1).f0) ((rd_T132 l0 x5_1).f1) ((rd_T132 l0 x5_1).f2) ((rd_T132 l0 x5_1).f3) ((rd_T132 l0 x5_1).f4) ((rd_T132 l0 x5_1).f5) ((rd_T132 l0 x5_1).f6) ((rd_T132 l0 x5_1).f7) ((rd_T132 l0 x5_1).f8.f0) ((rd_T132 l0 x5_1).f8.f1) ((rd_T132 l0 x5_1).f8.f2) ((rd_T132 l0 x5_1).f8.f3) ((rd_T132 l0 x5_1).f8.f4) ((rd_T132 l0 x5_1).f9) ((rd_T132 l0 x5_1).f10)) else (spec_l8Nest.j4 kj18 l0 x3_5 x4_1 x5_1 (decide (((rd_T132 l0 x5_1).f10) > (wrap64 ((wrap64 (x7_18 - x5_1)) - 1)))) ((rd_T132 l0 x5_1).f0) ((rd_T132 l0 x5_1).f1) ((rd_T132 l0 x5_1).f2) ((rd_T132 l0 x5_1).f3) ((rd_T132 l0 x5_1).f4) ((rd_T132 l0 x5_1).f5) ((rd_T132 l0 x5_1).f6) ((rd_T132 l0 x5_1).f7) ((rd_T132 l0 x5_1).f8.f0) ((rd_T132 l0 x5_1).f8.f1) ((rd_T132 l0 x5_1).f8.f2) ((rd_T132 l0 x5_1).f8.f3) ((rd_T132 l0 x5_1).f8.f4) ((rd_T132 l0 x5_1).f9) ((rd_T132 l0 x5_1).f10))) else (spec_l8Nest.j4 kj18 l0 x3_5 x4_1 x5_1 true ((rd_T132 l0 x5_1).f0) ((rd_T132 l0 x5_1).f1) ((rd_T132 l0 x5_1).f2) ((rd_T132 l0 x5_1).f3) ((rd_T132 l0 x5_1).f4) ((rd_T132 l0 x5_1).f5) ((rd_T132 l0 x5_1).f6) ((rd_T132 l0 x5_1).f7) ((rd_T132 l0 x5_1).f8.f0) ((rd_T132 l0 x5_1).f8.f1) ((rd_T132 l0 x5_1).f8.f2) ((rd_T132 l0 x5_1).f8.f3) ((rd_T132 l0 x5_1).f8.f4) ((rd_T132 l0 x5_1).f9) ((rd_T132 l0 x5_1).f10))) = some r := H
            have A28 := Aside0.mk A280
            clear A280
            by_cases c29 : t150 = true
            ·subst c29
             have H1 : (if ((rd_T132 l0 x5_1).f10) < 0 then (spec_l8Nest.j4 kj18 l0 x3_5 x4_1 x5_1 true ((rd_T132 l0 x5_1).f0) ((rd_T132 l0 x5_1).f1) ((rd_T132 l0 x5_1).f2) ((rd_T132 l0 x5_1).f3) ((rd_T132 l0 x5_1).f4) ((rd_T132 l0 x5_1).f5) ((rd_T132 l0 x5_1).f6) ((rd_T132 l0 x5_1).f7) ((rd_T132 l0 x5_1).f8.f0) ((rd_T132 l0 x5_1).f8.f1) ((rd_T132 l0 x5_1).f8.f2) ((rd_T132 l0 x5_1).f8.f3) ((rd_T132 l0 x5_1).f8.f4) ((rd_T132 l0 x5_1).f9) ((rd_T132 l0 x5_1).f10)) else (spec_l8Nest.j4 kj18 l0 x3_5 x4_1 x5_1 (decide (((rd_T132 l0 x5_1).f10) > (wrap64 ((wrap64 (x7_18 - x5_1)) - 1)))) ((rd_T132 l0 x5_1).f0) ((rd_T132 l0 x5_1).f1) ((rd_T132 l0 x5_1).f2) ((rd_T132 l0 x5_1).f3) ((rd_T132 l0 x5_1).f4) ((rd_T132 l0 x5_1).f5) ((rd_T132 l0 x5_1).f6) ((rd_T132 l0 x5_1).f7) ((rd_T132 l0 x5_1).f8.f0) ((rd_T132 l0 x5_1).f8.f1) ((rd_T132 l0 x5_1).f8.f2) ((rd_T132 l0 x5_1).f8.f3) ((rd_T132 l0 x5_1).f8.f4) ((rd_T132 l0 x5_1).f9) ((rd_T132 l0 x5_1).f10))) = some r := by rw [if_pos rfl] at H; exact H
             clear H
             have H := H1
             clear H1
             by_cases c30 : ((rd_T132 l0 x5_1).f10) < 0
             ·rw [if_pos c30] at H
              have c30b0 : decide (((rd_T132 l0 x5_1).f10) < 0) = true := decide_eq_true c30
              clear c30
              (first | rw [c30b0] | (simp only [i64_w, i32_w]; rw [c30b0]) | skip)
              as_aux_lemma =>
               have H' := Aside0.mk H
               clear H
               have hcz31_14 : wc.cell? ⟨gb148, 14, none⟩ = some (.int .i64 ((rd_T132 l0 x5_1).f10)) := (blk_cell BK148.out 14).trans rfl
               go_wp2_with (first | ((with_reducible refine gate_callee (f := 133) rfl ?_); refine goesL_ (some 52) rfl rfl Try.func133 (by kernel_rfl) rfl #[.agg #[.int .i64 ((rd_T132 l0 x5_1).f0), .int .i64 ((rd_T132 l0 x5_1).f1), .int .i64 ((rd_T132 l0 x5_1).f2), .int .i64 ((rd_T132 l0 x5_1).f3), .int .i64 ((rd_T132 l0 x5_1).f4), .int .i64 ((rd_T132 l0 x5_1).f5), .int .i64 ((rd_T132 l0 x5_1).f6), .int .i64 ((rd_T132 l0 x5_1).f7), .int .i64 ((rd_T132 l0 x5_1).f8.f0), .int .i64 ((rd_T132 l0 x5_1).f8.f1), .int .i64 ((rd_T132 l0 x5_1).f8.f2), .int .i64 ((rd_T132 l0 x5_1).f8.f3), .int .i64 ((rd_T132 l0 x5_1).f8.f4), .string ((rd_T132 l0 x5_1).f9), .int .i64 ((rd_T132 l0 x5_1).f10)]] rfl (by (try simp only [List.map_toArray, List.map_cons, List.map_nil]); first | done | rfl | (simp only [List.length_drop, List.length_take]; rfl)) ?_; (with_reducible refine (spec_l8NodeOk.calls kj18 ((rd_T132 l0 x5_1).f0) ((rd_T132 l0 x5_1).f1) ((rd_T132 l0 x5_1).f2) ((rd_T132 l0 x5_1).f3) ((rd_T132 l0 x5_1).f4) ((rd_T132 l0 x5_1).f5) ((rd_T132 l0 x5_1).f6) ((rd_T132 l0 x5_1).f7) ((rd_T132 l0 x5_1).f8.f0) ((rd_T132 l0 x5_1).f8.f1) ((rd_T132 l0 x5_1).f8.f2) ((rd_T132 l0 x5_1).f8.f3) ((rd_T132 l0 x5_1).f8.f4) ((rd_T132 l0 x5_1).f9) ((rd_T132 l0 x5_1).f10) true _ A28.out).mono ?_); rintro e w32 ⟨rfl, hb⟩; refine ⟨_, rfl, ?_⟩; have n0_ := Aside0.mk (Kd.R_below (by (with_reducible repeat (first | apply Kd.R_alloc | apply Kd.R_drewN | apply Kd.R_drew)); exact HO_3.out) hb); have n1_ := Aside0.mk (blk_below (g := gb148) (o := .cells #[.int .i64 ((rd_T132 l0 x5_1).f0), .int .i64 ((rd_T132 l0 x5_1).f1), .int .i64 ((rd_T132 l0 x5_1).f2), .int .i64 ((rd_T132 l0 x5_1).f3), .int .i64 ((rd_T132 l0 x5_1).f4), .int .i64 ((rd_T132 l0 x5_1).f5), .int .i64 ((rd_T132 l0 x5_1).f6), .int .i64 ((rd_T132 l0 x5_1).f7), .int .i64 ((rd_T132 l0 x5_1).f8.f0), .int .i64 ((rd_T132 l0 x5_1).f8.f1), .int .i64 ((rd_T132 l0 x5_1).f8.f2), .int .i64 ((rd_T132 l0 x5_1).f8.f3), .int .i64 ((rd_T132 l0 x5_1).f8.f4), .string ((rd_T132 l0 x5_1).f9), .int .i64 ((rd_T132 l0 x5_1).f10)] 132 (0, 0)) (by (with_reducible repeat (first | refine blk_drewN ?_ _ | refine blk_drew ?_ | refine blk_alloc ?_ _)); exact BK148.out) hb); have n2_ := Aside0.mk (below_step (by repeat (first | (with_reducible first | exact HB.out | apply below_alloc | apply pw_below_drewN | apply below_drew1 | refine below_set ?_ GE148.out) | exact HB.out)) hb); clear HO_3; clear BK148; clear HB; have HO_3 := n0_; have BK148 := n1_; have HB := n2_; clear n0_ n1_ n2_; (try clear hb); (try clear hb2); (try clear hk); (try clear hi); have hcz33_14 : w32.cell? ⟨gb148, 14, none⟩ = some (.int .i64 ((rd_T132 l0 x5_1).f10)) := (blk_cell BK148.out 14).trans rfl) | ((with_reducible refine gate_dst (N := 51) rfl ?_); refine Box.all_load rfl 132 132 _ rfl gb148 #[.int .i64 ((rd_T132 l0 x5_1).f0), .int .i64 ((rd_T132 l0 x5_1).f1), .int .i64 ((rd_T132 l0 x5_1).f2), .int .i64 ((rd_T132 l0 x5_1).f3), .int .i64 ((rd_T132 l0 x5_1).f4), .int .i64 ((rd_T132 l0 x5_1).f5), .int .i64 ((rd_T132 l0 x5_1).f6), .int .i64 ((rd_T132 l0 x5_1).f7), .int .i64 ((rd_T132 l0 x5_1).f8.f0), .int .i64 ((rd_T132 l0 x5_1).f8.f1), .int .i64 ((rd_T132 l0 x5_1).f8.f2), .int .i64 ((rd_T132 l0 x5_1).f8.f3), .int .i64 ((rd_T132 l0 x5_1).f8.f4), .string ((rd_T132 l0 x5_1).f9), .int .i64 ((rd_T132 l0 x5_1).f10)] _ rfl (by (with_reducible repeat (first | refine blk_drewN ?_ _ | refine blk_drew ?_ | refine blk_alloc ?_ _)); exact BK148.out) Try.underlying132 hi132 ?_) | ((with_reducible refine gate_dst (N := 68) rfl ?_); refine Box.all_load rfl 132 132 _ rfl gb148 #[.int .i64 ((rd_T132 l0 x5_1).f0), .int .i64 ((rd_T132 l0 x5_1).f1), .int .i64 ((rd_T132 l0 x5_1).f2), .int .i64 ((rd_T132 l0 x5_1).f3), .int .i64 ((rd_T132 l0 x5_1).f4), .int .i64 ((rd_T132 l0 x5_1).f5), .int .i64 ((rd_T132 l0 x5_1).f6), .int .i64 ((rd_T132 l0 x5_1).f7), .int .i64 ((rd_T132 l0 x5_1).f8.f0), .int .i64 ((rd_T132 l0 x5_1).f8.f1), .int .i64 ((rd_T132 l0 x5_1).f8.f2), .int .i64 ((rd_T132 l0 x5_1).f8.f3), .int .i64 ((rd_T132 l0 x5_1).f8.f4), .string ((rd_T132 l0 x5_1).f9), .int .i64 ((rd_T132 l0 x5_1).f10)] _ rfl (by (with_reducible repeat (first | refine blk_drewN ?_ _ | refine blk_drew ?_ | refine blk_alloc ?_ _)); exact BK148.out) Try.underlying132 hi132 ?_))
               go_meet
               case rel => exact ⟨_, (true), (by first | rfl | (simp; done) | (simp [*]; done)), H', ⟨by have := HK1.out; have := HJ5.out; have := HJ18.out; first | omega | exact Nat.le_refl _⟩, ⟨by (with_reducible repeat (first | apply Kd.R_alloc | apply Kd.R_drewN | apply Kd.R_drew)); exact HO_3.out⟩, ⟨by (with_reducible repeat (first | refine blk_drewN ?_ _ | refine blk_drew ?_ | refine blk_alloc ?_ _)); exact BK148.out⟩, ⟨by repeat (first | (with_reducible first | exact HB.out | apply below_alloc | apply pw_below_drewN | apply below_drew1 | refine below_set ?_ GE148.out) | exact HB.out)⟩⟩
             ·rw [if_neg c30] at H
              have c30b0 : decide (((rd_T132 l0 x5_1).f10) < 0) = false := decide_eq_false c30
              clear c30
              (first | rw [c30b0] | (simp only [i64_w, i32_w]; rw [c30b0]) | skip)
              as_aux_lemma =>
               have H' := Aside0.mk H
               clear H
               have hcz34_14 : wc.cell? ⟨gb148, 14, none⟩ = some (.int .i64 ((rd_T132 l0 x5_1).f10)) := (blk_cell BK148.out 14).trans rfl
               go_wp2_with (first | ((with_reducible refine gate_callee (f := 133) rfl ?_); refine goesL_ (some 52) rfl rfl Try.func133 (by kernel_rfl) rfl #[.agg #[.int .i64 ((rd_T132 l0 x5_1).f0), .int .i64 ((rd_T132 l0 x5_1).f1), .int .i64 ((rd_T132 l0 x5_1).f2), .int .i64 ((rd_T132 l0 x5_1).f3), .int .i64 ((rd_T132 l0 x5_1).f4), .int .i64 ((rd_T132 l0 x5_1).f5), .int .i64 ((rd_T132 l0 x5_1).f6), .int .i64 ((rd_T132 l0 x5_1).f7), .int .i64 ((rd_T132 l0 x5_1).f8.f0), .int .i64 ((rd_T132 l0 x5_1).f8.f1), .int .i64 ((rd_T132 l0 x5_1).f8.f2), .int .i64 ((rd_T132 l0 x5_1).f8.f3), .int .i64 ((rd_T132 l0 x5_1).f8.f4), .string ((rd_T132 l0 x5_1).f9), .int .i64 ((rd_T132 l0 x5_1).f10)]] rfl (by (try simp only [List.map_toArray, List.map_cons, List.map_nil]); first | done | rfl | (simp only [List.length_drop, List.length_take]; rfl)) ?_; (with_reducible refine (spec_l8NodeOk.calls kj18 ((rd_T132 l0 x5_1).f0) ((rd_T132 l0 x5_1).f1) ((rd_T132 l0 x5_1).f2) ((rd_T132 l0 x5_1).f3) ((rd_T132 l0 x5_1).f4) ((rd_T132 l0 x5_1).f5) ((rd_T132 l0 x5_1).f6) ((rd_T132 l0 x5_1).f7) ((rd_T132 l0 x5_1).f8.f0) ((rd_T132 l0 x5_1).f8.f1) ((rd_T132 l0 x5_1).f8.f2) ((rd_T132 l0 x5_1).f8.f3) ((rd_T132 l0 x5_1).f8.f4) ((rd_T132 l0 x5_1).f9) ((rd_T132 l0 x5_1).f10) true _ A28.out).mono ?_); rintro e w35 ⟨rfl, hb⟩; refine ⟨_, rfl, ?_⟩; have n0_ := Aside0.mk (Kd.R_below (by (with_reducible repeat (first | apply Kd.R_alloc | apply Kd.R_drewN | apply Kd.R_drew)); exact HO_3.out) hb); have n1_ := Aside0.mk (blk_below (g := gb148) (o := .cells #[.int .i64 ((rd_T132 l0 x5_1).f0), .int .i64 ((rd_T132 l0 x5_1).f1), .int .i64 ((rd_T132 l0 x5_1).f2), .int .i64 ((rd_T132 l0 x5_1).f3), .int .i64 ((rd_T132 l0 x5_1).f4), .int .i64 ((rd_T132 l0 x5_1).f5), .int .i64 ((rd_T132 l0 x5_1).f6), .int .i64 ((rd_T132 l0 x5_1).f7), .int .i64 ((rd_T132 l0 x5_1).f8.f0), .int .i64 ((rd_T132 l0 x5_1).f8.f1), .int .i64 ((rd_T132 l0 x5_1).f8.f2), .int .i64 ((rd_T132 l0 x5_1).f8.f3), .int .i64 ((rd_T132 l0 x5_1).f8.f4), .string ((rd_T132 l0 x5_1).f9), .int .i64 ((rd_T132 l0 x5_1).f10)] 132 (0, 0)) (by (with_reducible repeat (first | refine blk_drewN ?_ _ | refine blk_drew ?_ | refine blk_alloc ?_ _)); exact BK148.out) hb); have n2_ := Aside0.mk (below_step (by repeat (first | (with_reducible first | exact HB.out | apply below_alloc | apply pw_below_drewN | apply below_drew1 | refine below_set ?_ GE148.out) | exact HB.out)) hb); clear HO_3; clear BK148; clear HB; have HO_3 := n0_; have BK148 := n1_; have HB := n2_; clear n0_ n1_ n2_; (try clear hb); (try clear hb2); (try clear hk); (try clear hi); have hcz36_14 : w35.cell? ⟨gb148, 14, none⟩ = some (.int .i64 ((rd_T132 l0 x5_1).f10)) := (blk_cell BK148.out 14).trans rfl) | ((with_reducible refine gate_dst (N := 51) rfl ?_); refine Box.all_load rfl 132 132 _ rfl gb148 #[.int .i64 ((rd_T132 l0 x5_1).f0), .int .i64 ((rd_T132 l0 x5_1).f1), .int .i64 ((rd_T132 l0 x5_1).f2), .int .i64 ((rd_T132 l0 x5_1).f3), .int .i64 ((rd_T132 l0 x5_1).f4), .int .i64 ((rd_T132 l0 x5_1).f5), .int .i64 ((rd_T132 l0 x5_1).f6), .int .i64 ((rd_T132 l0 x5_1).f7), .int .i64 ((rd_T132 l0 x5_1).f8.f0), .int .i64 ((rd_T132 l0 x5_1).f8.f1), .int .i64 ((rd_T132 l0 x5_1).f8.f2), .int .i64 ((rd_T132 l0 x5_1).f8.f3), .int .i64 ((rd_T132 l0 x5_1).f8.f4), .string ((rd_T132 l0 x5_1).f9), .int .i64 ((rd_T132 l0 x5_1).f10)] _ rfl (by (with_reducible repeat (first | refine blk_drewN ?_ _ | refine blk_drew ?_ | refine blk_alloc ?_ _)); exact BK148.out) Try.underlying132 hi132 ?_) | ((with_reducible refine gate_dst (N := 68) rfl ?_); refine Box.all_load rfl 132 132 _ rfl gb148 #[.int .i64 ((rd_T132 l0 x5_1).f0), .int .i64 ((rd_T132 l0 x5_1).f1), .int .i64 ((rd_T132 l0 x5_1).f2), .int .i64 ((rd_T132 l0 x5_1).f3), .int .i64 ((rd_T132 l0 x5_1).f4), .int .i64 ((rd_T132 l0 x5_1).f5), .int .i64 ((rd_T132 l0 x5_1).f6), .int .i64 ((rd_T132 l0 x5_1).f7), .int .i64 ((rd_T132 l0 x5_1).f8.f0), .int .i64 ((rd_T132 l0 x5_1).f8.f1), .int .i64 ((rd_T132 l0 x5_1).f8.f2), .int .i64 ((rd_T132 l0 x5_1).f8.f3), .int .i64 ((rd_T132 l0 x5_1).f8.f4), .string ((rd_T132 l0 x5_1).f9), .int .i64 ((rd_T132 l0 x5_1).f10)] _ rfl (by (with_reducible repeat (first | refine blk_drewN ?_ _ | refine blk_drew ?_ | refine blk_alloc ?_ _)); exact BK148.out) Try.underlying132 hi132 ?_))
               go_meet
               case rel => exact ⟨_, (decide (((rd_T132 l0 x5_1).f10) > (wrap64 ((wrap64 (x7_18 - x5_1)) - 1)))), (by first | rfl | (simp; done) | (simp [*]; done)), H', ⟨by have := HK1.out; have := HJ5.out; have := HJ18.out; first | omega | exact Nat.le_refl _⟩, ⟨by (with_reducible repeat (first | apply Kd.R_alloc | apply Kd.R_drewN | apply Kd.R_drew)); exact HO_3.out⟩, ⟨by (with_reducible repeat (first | refine blk_drewN ?_ _ | refine blk_drew ?_ | refine blk_alloc ?_ _)); exact BK148.out⟩, ⟨by repeat (first | (with_reducible first | exact HB.out | apply below_alloc | apply pw_below_drewN | apply below_drew1 | refine below_set ?_ GE148.out) | exact HB.out)⟩⟩
            ·replace c29 := Bool.eq_false_iff.mpr c29
             subst c29
             have H1 : (spec_l8Nest.j4 kj18 l0 x3_5 x4_1 x5_1 true ((rd_T132 l0 x5_1).f0) ((rd_T132 l0 x5_1).f1) ((rd_T132 l0 x5_1).f2) ((rd_T132 l0 x5_1).f3) ((rd_T132 l0 x5_1).f4) ((rd_T132 l0 x5_1).f5) ((rd_T132 l0 x5_1).f6) ((rd_T132 l0 x5_1).f7) ((rd_T132 l0 x5_1).f8.f0) ((rd_T132 l0 x5_1).f8.f1) ((rd_T132 l0 x5_1).f8.f2) ((rd_T132 l0 x5_1).f8.f3) ((rd_T132 l0 x5_1).f8.f4) ((rd_T132 l0 x5_1).f9) ((rd_T132 l0 x5_1).f10)) = some r := by rw [if_neg (show ¬ (false = true) by decide)] at H; exact H
             clear H
             have H := H1
             clear H1
             as_aux_lemma =>
              have H' := Aside0.mk H
              clear H
              have hcz37_14 : wc.cell? ⟨gb148, 14, none⟩ = some (.int .i64 ((rd_T132 l0 x5_1).f10)) := (blk_cell BK148.out 14).trans rfl
              go_wp2_with (first | ((with_reducible refine gate_callee (f := 133) rfl ?_); refine goesL_ (some 52) rfl rfl Try.func133 (by kernel_rfl) rfl #[.agg #[.int .i64 ((rd_T132 l0 x5_1).f0), .int .i64 ((rd_T132 l0 x5_1).f1), .int .i64 ((rd_T132 l0 x5_1).f2), .int .i64 ((rd_T132 l0 x5_1).f3), .int .i64 ((rd_T132 l0 x5_1).f4), .int .i64 ((rd_T132 l0 x5_1).f5), .int .i64 ((rd_T132 l0 x5_1).f6), .int .i64 ((rd_T132 l0 x5_1).f7), .int .i64 ((rd_T132 l0 x5_1).f8.f0), .int .i64 ((rd_T132 l0 x5_1).f8.f1), .int .i64 ((rd_T132 l0 x5_1).f8.f2), .int .i64 ((rd_T132 l0 x5_1).f8.f3), .int .i64 ((rd_T132 l0 x5_1).f8.f4), .string ((rd_T132 l0 x5_1).f9), .int .i64 ((rd_T132 l0 x5_1).f10)]] rfl (by (try simp only [List.map_toArray, List.map_cons, List.map_nil]); first | done | rfl | (simp only [List.length_drop, List.length_take]; rfl)) ?_; (with_reducible refine (spec_l8NodeOk.calls kj18 ((rd_T132 l0 x5_1).f0) ((rd_T132 l0 x5_1).f1) ((rd_T132 l0 x5_1).f2) ((rd_T132 l0 x5_1).f3) ((rd_T132 l0 x5_1).f4) ((rd_T132 l0 x5_1).f5) ((rd_T132 l0 x5_1).f6) ((rd_T132 l0 x5_1).f7) ((rd_T132 l0 x5_1).f8.f0) ((rd_T132 l0 x5_1).f8.f1) ((rd_T132 l0 x5_1).f8.f2) ((rd_T132 l0 x5_1).f8.f3) ((rd_T132 l0 x5_1).f8.f4) ((rd_T132 l0 x5_1).f9) ((rd_T132 l0 x5_1).f10) false _ A28.out).mono ?_); rintro e w38 ⟨rfl, hb⟩; refine ⟨_, rfl, ?_⟩; have n0_ := Aside0.mk (Kd.R_below (by (with_reducible repeat (first | apply Kd.R_alloc | apply Kd.R_drewN | apply Kd.R_drew)); exact HO_3.out) hb); have n1_ := Aside0.mk (blk_below (g := gb148) (o := .cells #[.int .i64 ((rd_T132 l0 x5_1).f0), .int .i64 ((rd_T132 l0 x5_1).f1), .int .i64 ((rd_T132 l0 x5_1).f2), .int .i64 ((rd_T132 l0 x5_1).f3), .int .i64 ((rd_T132 l0 x5_1).f4), .int .i64 ((rd_T132 l0 x5_1).f5), .int .i64 ((rd_T132 l0 x5_1).f6), .int .i64 ((rd_T132 l0 x5_1).f7), .int .i64 ((rd_T132 l0 x5_1).f8.f0), .int .i64 ((rd_T132 l0 x5_1).f8.f1), .int .i64 ((rd_T132 l0 x5_1).f8.f2), .int .i64 ((rd_T132 l0 x5_1).f8.f3), .int .i64 ((rd_T132 l0 x5_1).f8.f4), .string ((rd_T132 l0 x5_1).f9), .int .i64 ((rd_T132 l0 x5_1).f10)] 132 (0, 0)) (by (with_reducible repeat (first | refine blk_drewN ?_ _ | refine blk_drew ?_ | refine blk_alloc ?_ _)); exact BK148.out) hb); have n2_ := Aside0.mk (below_step (by repeat (first | (with_reducible first | exact HB.out | apply below_alloc | apply pw_below_drewN | apply below_drew1 | refine below_set ?_ GE148.out) | exact HB.out)) hb); clear HO_3; clear BK148; clear HB; have HO_3 := n0_; have BK148 := n1_; have HB := n2_; clear n0_ n1_ n2_; (try clear hb); (try clear hb2); (try clear hk); (try clear hi)) | ((with_reducible refine gate_dst (N := 51) rfl ?_); refine Box.all_load rfl 132 132 _ rfl gb148 #[.int .i64 ((rd_T132 l0 x5_1).f0), .int .i64 ((rd_T132 l0 x5_1).f1), .int .i64 ((rd_T132 l0 x5_1).f2), .int .i64 ((rd_T132 l0 x5_1).f3), .int .i64 ((rd_T132 l0 x5_1).f4), .int .i64 ((rd_T132 l0 x5_1).f5), .int .i64 ((rd_T132 l0 x5_1).f6), .int .i64 ((rd_T132 l0 x5_1).f7), .int .i64 ((rd_T132 l0 x5_1).f8.f0), .int .i64 ((rd_T132 l0 x5_1).f8.f1), .int .i64 ((rd_T132 l0 x5_1).f8.f2), .int .i64 ((rd_T132 l0 x5_1).f8.f3), .int .i64 ((rd_T132 l0 x5_1).f8.f4), .string ((rd_T132 l0 x5_1).f9), .int .i64 ((rd_T132 l0 x5_1).f10)] _ rfl (by (with_reducible repeat (first | refine blk_drewN ?_ _ | refine blk_drew ?_ | refine blk_alloc ?_ _)); exact BK148.out) Try.underlying132 hi132 ?_) | ((with_reducible refine gate_dst (N := 68) rfl ?_); refine Box.all_load rfl 132 132 _ rfl gb148 #[.int .i64 ((rd_T132 l0 x5_1).f0), .int .i64 ((rd_T132 l0 x5_1).f1), .int .i64 ((rd_T132 l0 x5_1).f2), .int .i64 ((rd_T132 l0 x5_1).f3), .int .i64 ((rd_T132 l0 x5_1).f4), .int .i64 ((rd_T132 l0 x5_1).f5), .int .i64 ((rd_T132 l0 x5_1).f6), .int .i64 ((rd_T132 l0 x5_1).f7), .int .i64 ((rd_T132 l0 x5_1).f8.f0), .int .i64 ((rd_T132 l0 x5_1).f8.f1), .int .i64 ((rd_T132 l0 x5_1).f8.f2), .int .i64 ((rd_T132 l0 x5_1).f8.f3), .int .i64 ((rd_T132 l0 x5_1).f8.f4), .string ((rd_T132 l0 x5_1).f9), .int .i64 ((rd_T132 l0 x5_1).f10)] _ rfl (by (with_reducible repeat (first | refine blk_drewN ?_ _ | refine blk_drew ?_ | refine blk_alloc ?_ _)); exact BK148.out) Try.underlying132 hi132 ?_))
              go_meet
              case rel => exact ⟨_, (true), (by first | rfl | (simp; done) | (simp [*]; done)), H', ⟨by have := HK1.out; have := HJ5.out; have := HJ18.out; first | omega | exact Nat.le_refl _⟩, ⟨by (with_reducible repeat (first | apply Kd.R_alloc | apply Kd.R_drewN | apply Kd.R_drew)); exact HO_3.out⟩, ⟨by (with_reducible repeat (first | refine blk_drewN ?_ _ | refine blk_drew ?_ | refine blk_alloc ?_ _)); exact BK148.out⟩, ⟨by repeat (first | (with_reducible first | exact HB.out | apply below_alloc | apply pw_below_drewN | apply below_drew1 | refine below_set ?_ GE148.out) | exact HB.out)⟩⟩
           case rest =>
            clear HC27
            try clear c2
            try clear c2b0
            try clear c2b1
            try clear c5
            try clear c5b0
            try clear c7
            try clear c7b0
            try clear c7b1
            try clear c9
            try clear c9b0
            try clear c10
            try clear c10b0
            try clear c11
            try clear c11b0
            try clear c11b1
            try clear c12
            try clear c12b0
            try clear c12b1
            try clear q14
            try clear c17
            try clear c17b0
            try clear c18
            try clear c18b0
            try clear c23
            try clear c23b0
            try clear c23b1
            try clear c25
            try clear c25b0
            try clear c26
            try clear c26b0
            try clear c29
            try clear c30
            try clear c30b0
            try clear hcz31_14
            try clear hcz33_14
            try clear hcz34_14
            try clear hcz36_14
            try clear hcz37_14
            try clear hx143_0
            try clear hx147_0
            try clear hx147_1
            try clear hx147_10
            try clear hx147_11
            try clear hx147_12
            try clear hx147_13
            try clear hx147_14
            try clear hx147_2
            try clear hx147_3
            try clear hx147_4
            try clear hx147_5
            try clear hx147_6
            try clear hx147_7
            try clear hx147_8
            try clear hx147_9
            try clear hx149_0
            try clear p143
            try clear p147
            try clear p149
            try clear q14
            try clear q143
            try clear q147
            try clear q149
            obtain ⟨kq, x67_26, rfl, HA, HJ26, HO_3, BK148, HB⟩ := hcut
            cases kq with
            | zero => exact absurd HA.out (by simp [spec_l8Nest.j4])
            | succ kj26 =>
             have H := HA.out
             clear HA
             simp only [spec_l8Nest.j4] at H
             by_cases c39 : x67_26 = true
             ·subst c39
              have H1 : (some (-1)) = some r := by rw [if_pos rfl] at H; exact H
              clear H
              have H := H1
              clear H1
              as_aux_lemma =>
               obtain rfl := Option.some.inj H
               go_wp2
               go_ret
               exact ⟨by first | rfl | (simp [errW_none, errW_some] <;> rfl) | (simp [*, errW_none, errW_some] <;> rfl), by repeat (first | (with_reducible first | exact HB.out | apply below_alloc | apply pw_below_drewN | apply below_drew1 | refine below_set ?_ GE148.out) | exact HB.out)⟩
             ·replace c39 := Bool.eq_false_iff.mpr c39
              subst c39
              have H1 : ((spec_l8Deep.f ((rd_T132 l0 x5_1).f0) ((rd_T132 l0 x5_1).f1) ((rd_T132 l0 x5_1).f2) ((rd_T132 l0 x5_1).f3) ((rd_T132 l0 x5_1).f4) ((rd_T132 l0 x5_1).f5) ((rd_T132 l0 x5_1).f6) ((rd_T132 l0 x5_1).f7) ((rd_T132 l0 x5_1).f8.f0) ((rd_T132 l0 x5_1).f8.f1) ((rd_T132 l0 x5_1).f8.f2) ((rd_T132 l0 x5_1).f8.f3) ((rd_T132 l0 x5_1).f8.f4) ((rd_T132 l0 x5_1).f9) ((rd_T132 l0 x5_1).f10)).bind fun t151 => (if t151 = true then (if (wrap64 ((x3_5.length : Int) + 1)) > x4_1 then (if ((rd_T132 l0 x5_1).f10) > 0 then (if x3_5.length < 17592186044416 then (spec_l8Nest.l0 kj26 l0 (x3_5 ++ [wrap64 ((wrap64 (x5_1 + 1)) + ((rd_T132 l0 x5_1).f10))]) (wrap64 ((x3_5.length : Int) + 1)) (wrap64 (x5_1 + 1))) else (none)) else (spec_l8Nest.l0 kj26 l0 x3_5 (wrap64 ((x3_5.length : Int) + 1)) (wrap64 (x5_1 + 1)))) else (if ((rd_T132 l0 x5_1).f10) > 0 then (if x3_5.length < 17592186044416 then (spec_l8Nest.l0 kj26 l0 (x3_5 ++ [wrap64 ((wrap64 (x5_1 + 1)) + ((rd_T132 l0 x5_1).f10))]) x4_1 (wrap64 (x5_1 + 1))) else (none)) else (spec_l8Nest.l0 kj26 l0 x3_5 x4_1 (wrap64 (x5_1 + 1))))) else (spec_l8Nest.l0 kj26 l0 x3_5 x4_1 (wrap64 (x5_1 + 1))))) = some r := by rw [if_neg (show ¬ (false = true) by decide)] at H; exact H
              clear H
              have H := H1
              clear H1
              replace H := Option.bind_eq_some_iff.mp H
              obtain ⟨t151, A400, H⟩ := H
              replace H : (if t151 = true then (if (wrap64 ((x3_5.length : Int) + 1)) > x4_1 then (if ((rd_T132 l0 x5_1).f10) > 0 then (if x3_5.length < 17592186044416 then (spec_l8Nest.l0 kj26 l0 (x3_5 ++ [wrap64 ((wrap64 (x5_1 + 1)) + ((rd_T132 l0 x5_1).f10))]) (wrap64 ((x3_5.length : Int) + 1)) (wrap64 (x5_1 + 1))) else (none)) else (spec_l8Nest.l0 kj26 l0 x3_5 (wrap64 ((x3_5.length : Int) + 1)) (wrap64 (x5_1 + 1)))) else (if ((rd_T132 l0 x5_1).f10) > 0 then (if x3_5.length < 17592186044416 then (spec_l8Nest.l0 kj26 l0 (x3_5 ++ [wrap64 ((wrap64 (x5_1 + 1)) + ((rd_T132 l0 x5_1).f10))]) x4_1 (wrap64 (x5_1 + 1))) else (none)) else (spec_l8Nest.l0 kj26 l0 x3_5 x4_1 (wrap64 (x5_1 + 1))))) else (spec_l8Nest.l0 kj26 l0 x3_5 x4_1 (wrap64 (x5_1 + 1)))) = some r := H
              have A40 := Aside0.mk A400
              clear A400
              by_cases c41 : t151 = true
              ·subst c41
               have H1 : (if (wrap64 ((x3_5.length : Int) + 1)) > x4_1 then (if ((rd_T132 l0 x5_1).f10) > 0 then (if x3_5.length < 17592186044416 then (spec_l8Nest.l0 kj26 l0 (x3_5 ++ [wrap64 ((wrap64 (x5_1 + 1)) + ((rd_T132 l0 x5_1).f10))]) (wrap64 ((x3_5.length : Int) + 1)) (wrap64 (x5_1 + 1))) else (none)) else (spec_l8Nest.l0 kj26 l0 x3_5 (wrap64 ((x3_5.length : Int) + 1)) (wrap64 (x5_1 + 1)))) else (if ((rd_T132 l0 x5_1).f10) > 0 then (if x3_5.length < 17592186044416 then (spec_l8Nest.l0 kj26 l0 (x3_5 ++ [wrap64 ((wrap64 (x5_1 + 1)) + ((rd_T132 l0 x5_1).f10))]) x4_1 (wrap64 (x5_1 + 1))) else (none)) else (spec_l8Nest.l0 kj26 l0 x3_5 x4_1 (wrap64 (x5_1 + 1))))) = some r := by rw [if_pos rfl] at H; exact H
               clear H
               have H := H1
               clear H1
               by_cases c42 : (wrap64 ((x3_5.length : Int) + 1)) > x4_1
               ·rw [if_pos c42] at H
                have c42b0 : decide (x4_1 < (wrap64 ((x3_5.length : Int) + 1))) = true := decide_eq_true c42
                clear c42
                by_cases c43 : ((rd_T132 l0 x5_1).f10) > 0
                ·rw [if_pos c43] at H
                 have c43b0 : decide (0 < ((rd_T132 l0 x5_1).f10)) = true := decide_eq_true c43
                 clear c43
                 by_cases c44 : x3_5.length < 17592186044416
                 ·rw [if_pos c44] at H
                  have LMc44 := Aside0.mk c44
                  clear c44
                  obtain ⟨y152, hy152⟩ : ∃ y_ : List Int, y_ = (x3_5 ++ [wrap64 ((wrap64 (x5_1 + 1)) + ((rd_T132 l0 x5_1).f10))]) := ⟨_, rfl⟩
                  replace H : (spec_l8Nest.l0 kj26 l0 y152 (wrap64 ((x3_5.length : Int) + 1)) (wrap64 (x5_1 + 1))) = some r := by first | (rw [hy152]; with_reducible exact H) | (have H2_ := (Option.bind_some _ _).symm.trans H; rw [hy152]; with_reducible exact H2_) | (have H2_ := (Option.bind_some _ _).symm.trans H; with_reducible exact H2_) | with_reducible exact H | (rw [hy152]; exact H) | exact H
                  have Ny152 := Aside0.mk hy152
                  clear hy152
                  as_aux_lemma =>
                   have H' := Aside0.mk H
                   clear H
                   have hcz45_14 : wc.cell? ⟨gb148, 14, none⟩ = some (.int .i64 ((rd_T132 l0 x5_1).f10)) := (blk_cell BK148.out 14).trans rfl
                   go_wp2_with (first | ((with_reducible refine gate_callee (f := 134) rfl ?_); refine goesL_ (some 69) rfl rfl Try.func134 (by kernel_rfl) rfl #[.agg #[.int .i64 ((rd_T132 l0 x5_1).f0), .int .i64 ((rd_T132 l0 x5_1).f1), .int .i64 ((rd_T132 l0 x5_1).f2), .int .i64 ((rd_T132 l0 x5_1).f3), .int .i64 ((rd_T132 l0 x5_1).f4), .int .i64 ((rd_T132 l0 x5_1).f5), .int .i64 ((rd_T132 l0 x5_1).f6), .int .i64 ((rd_T132 l0 x5_1).f7), .int .i64 ((rd_T132 l0 x5_1).f8.f0), .int .i64 ((rd_T132 l0 x5_1).f8.f1), .int .i64 ((rd_T132 l0 x5_1).f8.f2), .int .i64 ((rd_T132 l0 x5_1).f8.f3), .int .i64 ((rd_T132 l0 x5_1).f8.f4), .string ((rd_T132 l0 x5_1).f9), .int .i64 ((rd_T132 l0 x5_1).f10)]] rfl (by (try simp only [List.map_toArray, List.map_cons, List.map_nil]); first | done | rfl | (simp only [List.length_drop, List.length_take]; rfl)) ?_; (with_reducible refine (spec_l8Deep.calls ((rd_T132 l0 x5_1).f0) ((rd_T132 l0 x5_1).f1) ((rd_T132 l0 x5_1).f2) ((rd_T132 l0 x5_1).f3) ((rd_T132 l0 x5_1).f4) ((rd_T132 l0 x5_1).f5) ((rd_T132 l0 x5_1).f6) ((rd_T132 l0 x5_1).f7) ((rd_T132 l0 x5_1).f8.f0) ((rd_T132 l0 x5_1).f8.f1) ((rd_T132 l0 x5_1).f8.f2) ((rd_T132 l0 x5_1).f8.f3) ((rd_T132 l0 x5_1).f8.f4) ((rd_T132 l0 x5_1).f9) ((rd_T132 l0 x5_1).f10) true _ A40.out).mono ?_); rintro e w46 ⟨rfl, hb⟩; refine ⟨_, rfl, ?_⟩; have n0_ := Aside0.mk (Kd.R_below (by (with_reducible repeat (first | apply Kd.R_alloc | apply Kd.R_drewN | apply Kd.R_drew)); exact HO_3.out) hb); have n1_ := Aside0.mk (blk_below (g := gb148) (o := .cells #[.int .i64 ((rd_T132 l0 x5_1).f0), .int .i64 ((rd_T132 l0 x5_1).f1), .int .i64 ((rd_T132 l0 x5_1).f2), .int .i64 ((rd_T132 l0 x5_1).f3), .int .i64 ((rd_T132 l0 x5_1).f4), .int .i64 ((rd_T132 l0 x5_1).f5), .int .i64 ((rd_T132 l0 x5_1).f6), .int .i64 ((rd_T132 l0 x5_1).f7), .int .i64 ((rd_T132 l0 x5_1).f8.f0), .int .i64 ((rd_T132 l0 x5_1).f8.f1), .int .i64 ((rd_T132 l0 x5_1).f8.f2), .int .i64 ((rd_T132 l0 x5_1).f8.f3), .int .i64 ((rd_T132 l0 x5_1).f8.f4), .string ((rd_T132 l0 x5_1).f9), .int .i64 ((rd_T132 l0 x5_1).f10)] 132 (0, 0)) (by (with_reducible repeat (first | refine blk_drewN ?_ _ | refine blk_drew ?_ | refine blk_alloc ?_ _)); exact BK148.out) hb); have n2_ := Aside0.mk (below_step (by repeat (first | (with_reducible first | exact HB.out | apply below_alloc | apply pw_below_drewN | apply below_drew1 | refine below_set ?_ GE148.out) | exact HB.out)) hb); clear HO_3; clear BK148; clear HB; have HO_3 := n0_; have BK148 := n1_; have HB := n2_; clear n0_ n1_ n2_; (try clear hb); (try clear hb2); (try clear hk); (try clear hi); have hcz47_14 : w46.cell? ⟨gb148, 14, none⟩ = some (.int .i64 ((rd_T132 l0 x5_1).f10)) := (blk_cell BK148.out 14).trans rfl) | ((with_reducible refine gate_builtin (b := .append) (xs := #[.tmp 81, .tmp 87]) rfl ?_); (try (refine gate_guard (by rfl) ?_; dsimp only)); at_builtin; refine Kd.R_append (Kd.int .i64) (w0 := w) w.heap.size rfl (.tmp 81) (.tmp 87) 182 3 (.int .i64 0) 8 rfl Try.underlying182 info3 rfl (by decide) (by omega) (.slice Ao22 x3_5.length co22) x3_5 (wrap64 ((wrap64 (x5_1 + 1)) + ((rd_T132 l0 x5_1).f10))) [.int .i64 (wrap64 ((wrap64 (x5_1 + 1)) + ((rd_T132 l0 x5_1).f10)))] (fun _ => True) (fun _ => False) rfl rfl ?aP (fun _ hk => hk.elim) ?aF ?aO ?aB ?aS ?aL ?_; (case aP => exact rfl); (case aB => exact (by repeat (first | (with_reducible first | exact HB.out | apply below_alloc | apply pw_below_drewN | apply below_drew1 | refine below_set ?_ GE148.out) | exact HB.out))); (case aF => exact (fun _ _ => trivial)); (case aO => exact (by (with_reducible repeat (first | apply Kd.R_alloc | apply Kd.R_drewN | apply Kd.R_drew)); exact HO_3.out)); (case aS => exact (below_size (by repeat (first | (with_reducible first | exact HB.out | apply below_alloc | apply pw_below_drewN | apply below_drew1 | refine below_set ?_ GE148.out) | exact HB.out)))); (case aL => have := LMc44.out; omega); intro v153 w48 ho hb hg hat; rw [← Ny152.out] at ho; have n0_ := Aside0.mk (blk_grown (g := gb148) (o := .cells #[.int .i64 ((rd_T132 l0 x5_1).f0), .int .i64 ((rd_T132 l0 x5_1).f1), .int .i64 ((rd_T132 l0 x5_1).f2), .int .i64 ((rd_T132 l0 x5_1).f3), .int .i64 ((rd_T132 l0 x5_1).f4), .int .i64 ((rd_T132 l0 x5_1).f5), .int .i64 ((rd_T132 l0 x5_1).f6), .int .i64 ((rd_T132 l0 x5_1).f7), .int .i64 ((rd_T132 l0 x5_1).f8.f0), .int .i64 ((rd_T132 l0 x5_1).f8.f1), .int .i64 ((rd_T132 l0 x5_1).f8.f2), .int .i64 ((rd_T132 l0 x5_1).f8.f3), .int .i64 ((rd_T132 l0 x5_1).f8.f4), .string ((rd_T132 l0 x5_1).f9), .int .i64 ((rd_T132 l0 x5_1).f10)] 132 (0, 0)) (by (with_reducible repeat (first | refine blk_drewN ?_ _ | refine blk_drew ?_ | refine blk_alloc ?_ _)); exact BK148.out) hg (Kd.R_ne HO_3.out BK148.out (by decide))); have n1_ := Aside0.mk (hb); have n2_ := Aside0.mk (ho); clear BK148; clear HB; clear HO_3; have BK148 := n0_; have HB := n1_; have HO154 := n2_; clear n0_ n1_ n2_; clear ho hb hg hat) | ((with_reducible refine gate_dst (N := 51) rfl ?_); refine Box.all_load rfl 132 132 _ rfl gb148 #[.int .i64 ((rd_T132 l0 x5_1).f0), .int .i64 ((rd_T132 l0 x5_1).f1), .int .i64 ((rd_T132 l0 x5_1).f2), .int .i64 ((rd_T132 l0 x5_1).f3), .int .i64 ((rd_T132 l0 x5_1).f4), .int .i64 ((rd_T132 l0 x5_1).f5), .int .i64 ((rd_T132 l0 x5_1).f6), .int .i64 ((rd_T132 l0 x5_1).f7), .int .i64 ((rd_T132 l0 x5_1).f8.f0), .int .i64 ((rd_T132 l0 x5_1).f8.f1), .int .i64 ((rd_T132 l0 x5_1).f8.f2), .int .i64 ((rd_T132 l0 x5_1).f8.f3), .int .i64 ((rd_T132 l0 x5_1).f8.f4), .string ((rd_T132 l0 x5_1).f9), .int .i64 ((rd_T132 l0 x5_1).f10)] _ rfl (by (with_reducible repeat (first | refine blk_drewN ?_ _ | refine blk_drew ?_ | refine blk_alloc ?_ _)); exact BK148.out) Try.underlying132 hi132 ?_) | ((with_reducible refine gate_dst (N := 68) rfl ?_); refine Box.all_load rfl 132 132 _ rfl gb148 #[.int .i64 ((rd_T132 l0 x5_1).f0), .int .i64 ((rd_T132 l0 x5_1).f1), .int .i64 ((rd_T132 l0 x5_1).f2), .int .i64 ((rd_T132 l0 x5_1).f3), .int .i64 ((rd_T132 l0 x5_1).f4), .int .i64 ((rd_T132 l0 x5_1).f5), .int .i64 ((rd_T132 l0 x5_1).f6), .int .i64 ((rd_T132 l0 x5_1).f7), .int .i64 ((rd_T132 l0 x5_1).f8.f0), .int .i64 ((rd_T132 l0 x5_1).f8.f1), .int .i64 ((rd_T132 l0 x5_1).f8.f2), .int .i64 ((rd_T132 l0 x5_1).f8.f3), .int .i64 ((rd_T132 l0 x5_1).f8.f4), .string ((rd_T132 l0 x5_1).f9), .int .i64 ((rd_T132 l0 x5_1).f10)] _ rfl (by (with_reducible repeat (first | refine blk_drewN ?_ _ | refine blk_drew ?_ | refine blk_alloc ?_ _)); exact BK148.out) Try.underlying132 hi132 ?_))
                   go_roundg kj26
                   case measure => have := HK1.out; have := HJ5.out; have := HJ18.out; have := HJ26.out; omega
                   case rel => exact ⟨(y152), (wrap64 ((x3_5.length : Int) + 1)), (wrap64 (x5_1 + 1)), (by first | rfl | (simp; done) | (simp [*]; done)), (by first | rfl | (simp; done) | (simp [*]; done)), H', ⟨by have := HK1.out; have := HJ5.out; have := HJ18.out; have := HJ26.out; omega⟩, ⟨by (with_reducible repeat (first | apply Kd.R_alloc | apply Kd.R_drewN | apply Kd.R_drew)); exact HO154.out⟩, ⟨by repeat (first | (with_reducible first | exact HB.out | apply below_alloc | apply pw_below_drewN | apply below_drew1 | refine below_set ?_ GE148.out) | exact HB.out)⟩⟩
                 ·rw [if_neg c44] at H
                  exact absurd H (by simp)
                ·rw [if_neg c43] at H
                 have c43b0 : decide (0 < ((rd_T132 l0 x5_1).f10)) = false := decide_eq_false c43
                 clear c43
                 as_aux_lemma =>
                  have H' := Aside0.mk H
                  clear H
                  have hcz49_14 : wc.cell? ⟨gb148, 14, none⟩ = some (.int .i64 ((rd_T132 l0 x5_1).f10)) := (blk_cell BK148.out 14).trans rfl
                  go_wp2_with (first | ((with_reducible refine gate_callee (f := 134) rfl ?_); refine goesL_ (some 69) rfl rfl Try.func134 (by kernel_rfl) rfl #[.agg #[.int .i64 ((rd_T132 l0 x5_1).f0), .int .i64 ((rd_T132 l0 x5_1).f1), .int .i64 ((rd_T132 l0 x5_1).f2), .int .i64 ((rd_T132 l0 x5_1).f3), .int .i64 ((rd_T132 l0 x5_1).f4), .int .i64 ((rd_T132 l0 x5_1).f5), .int .i64 ((rd_T132 l0 x5_1).f6), .int .i64 ((rd_T132 l0 x5_1).f7), .int .i64 ((rd_T132 l0 x5_1).f8.f0), .int .i64 ((rd_T132 l0 x5_1).f8.f1), .int .i64 ((rd_T132 l0 x5_1).f8.f2), .int .i64 ((rd_T132 l0 x5_1).f8.f3), .int .i64 ((rd_T132 l0 x5_1).f8.f4), .string ((rd_T132 l0 x5_1).f9), .int .i64 ((rd_T132 l0 x5_1).f10)]] rfl (by (try simp only [List.map_toArray, List.map_cons, List.map_nil]); first | done | rfl | (simp only [List.length_drop, List.length_take]; rfl)) ?_; (with_reducible refine (spec_l8Deep.calls ((rd_T132 l0 x5_1).f0) ((rd_T132 l0 x5_1).f1) ((rd_T132 l0 x5_1).f2) ((rd_T132 l0 x5_1).f3) ((rd_T132 l0 x5_1).f4) ((rd_T132 l0 x5_1).f5) ((rd_T132 l0 x5_1).f6) ((rd_T132 l0 x5_1).f7) ((rd_T132 l0 x5_1).f8.f0) ((rd_T132 l0 x5_1).f8.f1) ((rd_T132 l0 x5_1).f8.f2) ((rd_T132 l0 x5_1).f8.f3) ((rd_T132 l0 x5_1).f8.f4) ((rd_T132 l0 x5_1).f9) ((rd_T132 l0 x5_1).f10) true _ A40.out).mono ?_); rintro e w50 ⟨rfl, hb⟩; refine ⟨_, rfl, ?_⟩; have n0_ := Aside0.mk (Kd.R_below (by (with_reducible repeat (first | apply Kd.R_alloc | apply Kd.R_drewN | apply Kd.R_drew)); exact HO_3.out) hb); have n1_ := Aside0.mk (blk_below (g := gb148) (o := .cells #[.int .i64 ((rd_T132 l0 x5_1).f0), .int .i64 ((rd_T132 l0 x5_1).f1), .int .i64 ((rd_T132 l0 x5_1).f2), .int .i64 ((rd_T132 l0 x5_1).f3), .int .i64 ((rd_T132 l0 x5_1).f4), .int .i64 ((rd_T132 l0 x5_1).f5), .int .i64 ((rd_T132 l0 x5_1).f6), .int .i64 ((rd_T132 l0 x5_1).f7), .int .i64 ((rd_T132 l0 x5_1).f8.f0), .int .i64 ((rd_T132 l0 x5_1).f8.f1), .int .i64 ((rd_T132 l0 x5_1).f8.f2), .int .i64 ((rd_T132 l0 x5_1).f8.f3), .int .i64 ((rd_T132 l0 x5_1).f8.f4), .string ((rd_T132 l0 x5_1).f9), .int .i64 ((rd_T132 l0 x5_1).f10)] 132 (0, 0)) (by (with_reducible repeat (first | refine blk_drewN ?_ _ | refine blk_drew ?_ | refine blk_alloc ?_ _)); exact BK148.out) hb); have n2_ := Aside0.mk (below_step (by repeat (first | (with_reducible first | exact HB.out | apply below_alloc | apply pw_below_drewN | apply below_drew1 | refine below_set ?_ GE148.out) | exact HB.out)) hb); clear HO_3; clear BK148; clear HB; have HO_3 := n0_; have BK148 := n1_; have HB := n2_; clear n0_ n1_ n2_; (try clear hb); (try clear hb2); (try clear hk); (try clear hi); have hcz51_14 : w50.cell? ⟨gb148, 14, none⟩ = some (.int .i64 ((rd_T132 l0 x5_1).f10)) := (blk_cell BK148.out 14).trans rfl) | ((with_reducible refine gate_dst (N := 51) rfl ?_); refine Box.all_load rfl 132 132 _ rfl gb148 #[.int .i64 ((rd_T132 l0 x5_1).f0), .int .i64 ((rd_T132 l0 x5_1).f1), .int .i64 ((rd_T132 l0 x5_1).f2), .int .i64 ((rd_T132 l0 x5_1).f3), .int .i64 ((rd_T132 l0 x5_1).f4), .int .i64 ((rd_T132 l0 x5_1).f5), .int .i64 ((rd_T132 l0 x5_1).f6), .int .i64 ((rd_T132 l0 x5_1).f7), .int .i64 ((rd_T132 l0 x5_1).f8.f0), .int .i64 ((rd_T132 l0 x5_1).f8.f1), .int .i64 ((rd_T132 l0 x5_1).f8.f2), .int .i64 ((rd_T132 l0 x5_1).f8.f3), .int .i64 ((rd_T132 l0 x5_1).f8.f4), .string ((rd_T132 l0 x5_1).f9), .int .i64 ((rd_T132 l0 x5_1).f10)] _ rfl (by (with_reducible repeat (first | refine blk_drewN ?_ _ | refine blk_drew ?_ | refine blk_alloc ?_ _)); exact BK148.out) Try.underlying132 hi132 ?_) | ((with_reducible refine gate_dst (N := 68) rfl ?_); refine Box.all_load rfl 132 132 _ rfl gb148 #[.int .i64 ((rd_T132 l0 x5_1).f0), .int .i64 ((rd_T132 l0 x5_1).f1), .int .i64 ((rd_T132 l0 x5_1).f2), .int .i64 ((rd_T132 l0 x5_1).f3), .int .i64 ((rd_T132 l0 x5_1).f4), .int .i64 ((rd_T132 l0 x5_1).f5), .int .i64 ((rd_T132 l0 x5_1).f6), .int .i64 ((rd_T132 l0 x5_1).f7), .int .i64 ((rd_T132 l0 x5_1).f8.f0), .int .i64 ((rd_T132 l0 x5_1).f8.f1), .int .i64 ((rd_T132 l0 x5_1).f8.f2), .int .i64 ((rd_T132 l0 x5_1).f8.f3), .int .i64 ((rd_T132 l0 x5_1).f8.f4), .string ((rd_T132 l0 x5_1).f9), .int .i64 ((rd_T132 l0 x5_1).f10)] _ rfl (by (with_reducible repeat (first | refine blk_drewN ?_ _ | refine blk_drew ?_ | refine blk_alloc ?_ _)); exact BK148.out) Try.underlying132 hi132 ?_))
                  go_roundg kj26
                  case measure => have := HK1.out; have := HJ5.out; have := HJ18.out; have := HJ26.out; omega
                  case rel => exact ⟨(x3_5), (wrap64 ((x3_5.length : Int) + 1)), (wrap64 (x5_1 + 1)), (by first | rfl | (simp; done) | (simp [*]; done)), (by first | rfl | (simp; done) | (simp [*]; done)), H', ⟨by have := HK1.out; have := HJ5.out; have := HJ18.out; have := HJ26.out; omega⟩, ⟨by (with_reducible repeat (first | apply Kd.R_alloc | apply Kd.R_drewN | apply Kd.R_drew)); exact HO_3.out⟩, ⟨by repeat (first | (with_reducible first | exact HB.out | apply below_alloc | apply pw_below_drewN | apply below_drew1 | refine below_set ?_ GE148.out) | exact HB.out)⟩⟩
               ·rw [if_neg c42] at H
                have c42b0 : decide (x4_1 < (wrap64 ((x3_5.length : Int) + 1))) = false := decide_eq_false c42
                clear c42
                by_cases c52 : ((rd_T132 l0 x5_1).f10) > 0
                ·rw [if_pos c52] at H
                 have c52b0 : decide (0 < ((rd_T132 l0 x5_1).f10)) = true := decide_eq_true c52
                 clear c52
                 by_cases c53 : x3_5.length < 17592186044416
                 ·rw [if_pos c53] at H
                  have LMc53 := Aside0.mk c53
                  clear c53
                  obtain ⟨y155, hy155⟩ : ∃ y_ : List Int, y_ = (x3_5 ++ [wrap64 ((wrap64 (x5_1 + 1)) + ((rd_T132 l0 x5_1).f10))]) := ⟨_, rfl⟩
                  replace H : (spec_l8Nest.l0 kj26 l0 y155 x4_1 (wrap64 (x5_1 + 1))) = some r := by first | (rw [hy155]; with_reducible exact H) | (have H2_ := (Option.bind_some _ _).symm.trans H; rw [hy155]; with_reducible exact H2_) | (have H2_ := (Option.bind_some _ _).symm.trans H; with_reducible exact H2_) | with_reducible exact H | (rw [hy155]; exact H) | exact H
                  have Ny155 := Aside0.mk hy155
                  clear hy155
                  as_aux_lemma =>
                   have H' := Aside0.mk H
                   clear H
                   have hcz54_14 : wc.cell? ⟨gb148, 14, none⟩ = some (.int .i64 ((rd_T132 l0 x5_1).f10)) := (blk_cell BK148.out 14).trans rfl
                   go_wp2_with (first | ((with_reducible refine gate_callee (f := 134) rfl ?_); refine goesL_ (some 69) rfl rfl Try.func134 (by kernel_rfl) rfl #[.agg #[.int .i64 ((rd_T132 l0 x5_1).f0), .int .i64 ((rd_T132 l0 x5_1).f1), .int .i64 ((rd_T132 l0 x5_1).f2), .int .i64 ((rd_T132 l0 x5_1).f3), .int .i64 ((rd_T132 l0 x5_1).f4), .int .i64 ((rd_T132 l0 x5_1).f5), .int .i64 ((rd_T132 l0 x5_1).f6), .int .i64 ((rd_T132 l0 x5_1).f7), .int .i64 ((rd_T132 l0 x5_1).f8.f0), .int .i64 ((rd_T132 l0 x5_1).f8.f1), .int .i64 ((rd_T132 l0 x5_1).f8.f2), .int .i64 ((rd_T132 l0 x5_1).f8.f3), .int .i64 ((rd_T132 l0 x5_1).f8.f4), .string ((rd_T132 l0 x5_1).f9), .int .i64 ((rd_T132 l0 x5_1).f10)]] rfl (by (try simp only [List.map_toArray, List.map_cons, List.map_nil]); first | done | rfl | (simp only [List.length_drop, List.length_take]; rfl)) ?_; (with_reducible refine (spec_l8Deep.calls ((rd_T132 l0 x5_1).f0) ((rd_T132 l0 x5_1).f1) ((rd_T132 l0 x5_1).f2) ((rd_T132 l0 x5_1).f3) ((rd_T132 l0 x5_1).f4) ((rd_T132 l0 x5_1).f5) ((rd_T132 l0 x5_1).f6) ((rd_T132 l0 x5_1).f7) ((rd_T132 l0 x5_1).f8.f0) ((rd_T132 l0 x5_1).f8.f1) ((rd_T132 l0 x5_1).f8.f2) ((rd_T132 l0 x5_1).f8.f3) ((rd_T132 l0 x5_1).f8.f4) ((rd_T132 l0 x5_1).f9) ((rd_T132 l0 x5_1).f10) true _ A40.out).mono ?_); rintro e w55 ⟨rfl, hb⟩; refine ⟨_, rfl, ?_⟩; have n0_ := Aside0.mk (Kd.R_below (by (with_reducible repeat (first | apply Kd.R_alloc | apply Kd.R_drewN | apply Kd.R_drew)); exact HO_3.out) hb); have n1_ := Aside0.mk (blk_below (g := gb148) (o := .cells #[.int .i64 ((rd_T132 l0 x5_1).f0), .int .i64 ((rd_T132 l0 x5_1).f1), .int .i64 ((rd_T132 l0 x5_1).f2), .int .i64 ((rd_T132 l0 x5_1).f3), .int .i64 ((rd_T132 l0 x5_1).f4), .int .i64 ((rd_T132 l0 x5_1).f5), .int .i64 ((rd_T132 l0 x5_1).f6), .int .i64 ((rd_T132 l0 x5_1).f7), .int .i64 ((rd_T132 l0 x5_1).f8.f0), .int .i64 ((rd_T132 l0 x5_1).f8.f1), .int .i64 ((rd_T132 l0 x5_1).f8.f2), .int .i64 ((rd_T132 l0 x5_1).f8.f3), .int .i64 ((rd_T132 l0 x5_1).f8.f4), .string ((rd_T132 l0 x5_1).f9), .int .i64 ((rd_T132 l0 x5_1).f10)] 132 (0, 0)) (by (with_reducible repeat (first | refine blk_drewN ?_ _ | refine blk_drew ?_ | refine blk_alloc ?_ _)); exact BK148.out) hb); have n2_ := Aside0.mk (below_step (by repeat (first | (with_reducible first | exact HB.out | apply below_alloc | apply pw_below_drewN | apply below_drew1 | refine below_set ?_ GE148.out) | exact HB.out)) hb); clear HO_3; clear BK148; clear HB; have HO_3 := n0_; have BK148 := n1_; have HB := n2_; clear n0_ n1_ n2_; (try clear hb); (try clear hb2); (try clear hk); (try clear hi); have hcz56_14 : w55.cell? ⟨gb148, 14, none⟩ = some (.int .i64 ((rd_T132 l0 x5_1).f10)) := (blk_cell BK148.out 14).trans rfl) | ((with_reducible refine gate_builtin (b := .append) (xs := #[.tmp 81, .tmp 87]) rfl ?_); (try (refine gate_guard (by rfl) ?_; dsimp only)); at_builtin; refine Kd.R_append (Kd.int .i64) (w0 := w) w.heap.size rfl (.tmp 81) (.tmp 87) 182 3 (.int .i64 0) 8 rfl Try.underlying182 info3 rfl (by decide) (by omega) (.slice Ao22 x3_5.length co22) x3_5 (wrap64 ((wrap64 (x5_1 + 1)) + ((rd_T132 l0 x5_1).f10))) [.int .i64 (wrap64 ((wrap64 (x5_1 + 1)) + ((rd_T132 l0 x5_1).f10)))] (fun _ => True) (fun _ => False) rfl rfl ?aP (fun _ hk => hk.elim) ?aF ?aO ?aB ?aS ?aL ?_; (case aP => exact rfl); (case aB => exact (by repeat (first | (with_reducible first | exact HB.out | apply below_alloc | apply pw_below_drewN | apply below_drew1 | refine below_set ?_ GE148.out) | exact HB.out))); (case aF => exact (fun _ _ => trivial)); (case aO => exact (by (with_reducible repeat (first | apply Kd.R_alloc | apply Kd.R_drewN | apply Kd.R_drew)); exact HO_3.out)); (case aS => exact (below_size (by repeat (first | (with_reducible first | exact HB.out | apply below_alloc | apply pw_below_drewN | apply below_drew1 | refine below_set ?_ GE148.out) | exact HB.out)))); (case aL => have := LMc53.out; omega); intro v156 w57 ho hb hg hat; rw [← Ny155.out] at ho; have n0_ := Aside0.mk (blk_grown (g := gb148) (o := .cells #[.int .i64 ((rd_T132 l0 x5_1).f0), .int .i64 ((rd_T132 l0 x5_1).f1), .int .i64 ((rd_T132 l0 x5_1).f2), .int .i64 ((rd_T132 l0 x5_1).f3), .int .i64 ((rd_T132 l0 x5_1).f4), .int .i64 ((rd_T132 l0 x5_1).f5), .int .i64 ((rd_T132 l0 x5_1).f6), .int .i64 ((rd_T132 l0 x5_1).f7), .int .i64 ((rd_T132 l0 x5_1).f8.f0), .int .i64 ((rd_T132 l0 x5_1).f8.f1), .int .i64 ((rd_T132 l0 x5_1).f8.f2), .int .i64 ((rd_T132 l0 x5_1).f8.f3), .int .i64 ((rd_T132 l0 x5_1).f8.f4), .string ((rd_T132 l0 x5_1).f9), .int .i64 ((rd_T132 l0 x5_1).f10)] 132 (0, 0)) (by (with_reducible repeat (first | refine blk_drewN ?_ _ | refine blk_drew ?_ | refine blk_alloc ?_ _)); exact BK148.out) hg (Kd.R_ne HO_3.out BK148.out (by decide))); have n1_ := Aside0.mk (hb); have n2_ := Aside0.mk (ho); clear BK148; clear HB; clear HO_3; have BK148 := n0_; have HB := n1_; have HO157 := n2_; clear n0_ n1_ n2_; clear ho hb hg hat) | ((with_reducible refine gate_dst (N := 51) rfl ?_); refine Box.all_load rfl 132 132 _ rfl gb148 #[.int .i64 ((rd_T132 l0 x5_1).f0), .int .i64 ((rd_T132 l0 x5_1).f1), .int .i64 ((rd_T132 l0 x5_1).f2), .int .i64 ((rd_T132 l0 x5_1).f3), .int .i64 ((rd_T132 l0 x5_1).f4), .int .i64 ((rd_T132 l0 x5_1).f5), .int .i64 ((rd_T132 l0 x5_1).f6), .int .i64 ((rd_T132 l0 x5_1).f7), .int .i64 ((rd_T132 l0 x5_1).f8.f0), .int .i64 ((rd_T132 l0 x5_1).f8.f1), .int .i64 ((rd_T132 l0 x5_1).f8.f2), .int .i64 ((rd_T132 l0 x5_1).f8.f3), .int .i64 ((rd_T132 l0 x5_1).f8.f4), .string ((rd_T132 l0 x5_1).f9), .int .i64 ((rd_T132 l0 x5_1).f10)] _ rfl (by (with_reducible repeat (first | refine blk_drewN ?_ _ | refine blk_drew ?_ | refine blk_alloc ?_ _)); exact BK148.out) Try.underlying132 hi132 ?_) | ((with_reducible refine gate_dst (N := 68) rfl ?_); refine Box.all_load rfl 132 132 _ rfl gb148 #[.int .i64 ((rd_T132 l0 x5_1).f0), .int .i64 ((rd_T132 l0 x5_1).f1), .int .i64 ((rd_T132 l0 x5_1).f2), .int .i64 ((rd_T132 l0 x5_1).f3), .int .i64 ((rd_T132 l0 x5_1).f4), .int .i64 ((rd_T132 l0 x5_1).f5), .int .i64 ((rd_T132 l0 x5_1).f6), .int .i64 ((rd_T132 l0 x5_1).f7), .int .i64 ((rd_T132 l0 x5_1).f8.f0), .int .i64 ((rd_T132 l0 x5_1).f8.f1), .int .i64 ((rd_T132 l0 x5_1).f8.f2), .int .i64 ((rd_T132 l0 x5_1).f8.f3), .int .i64 ((rd_T132 l0 x5_1).f8.f4), .string ((rd_T132 l0 x5_1).f9), .int .i64 ((rd_T132 l0 x5_1).f10)] _ rfl (by (with_reducible repeat (first | refine blk_drewN ?_ _ | refine blk_drew ?_ | refine blk_alloc ?_ _)); exact BK148.out) Try.underlying132 hi132 ?_))
                   go_roundg kj26
                   case measure => have := HK1.out; have := HJ5.out; have := HJ18.out; have := HJ26.out; omega
                   case rel => exact ⟨(y155), (x4_1), (wrap64 (x5_1 + 1)), (by first | rfl | (simp; done) | (simp [*]; done)), (by first | rfl | (simp; done) | (simp [*]; done)), H', ⟨by have := HK1.out; have := HJ5.out; have := HJ18.out; have := HJ26.out; omega⟩, ⟨by (with_reducible repeat (first | apply Kd.R_alloc | apply Kd.R_drewN | apply Kd.R_drew)); exact HO157.out⟩, ⟨by repeat (first | (with_reducible first | exact HB.out | apply below_alloc | apply pw_below_drewN | apply below_drew1 | refine below_set ?_ GE148.out) | exact HB.out)⟩⟩
                 ·rw [if_neg c53] at H
                  exact absurd H (by simp)
                ·rw [if_neg c52] at H
                 have c52b0 : decide (0 < ((rd_T132 l0 x5_1).f10)) = false := decide_eq_false c52
                 clear c52
                 as_aux_lemma =>
                  have H' := Aside0.mk H
                  clear H
                  have hcz58_14 : wc.cell? ⟨gb148, 14, none⟩ = some (.int .i64 ((rd_T132 l0 x5_1).f10)) := (blk_cell BK148.out 14).trans rfl
                  go_wp2_with (first | ((with_reducible refine gate_callee (f := 134) rfl ?_); refine goesL_ (some 69) rfl rfl Try.func134 (by kernel_rfl) rfl #[.agg #[.int .i64 ((rd_T132 l0 x5_1).f0), .int .i64 ((rd_T132 l0 x5_1).f1), .int .i64 ((rd_T132 l0 x5_1).f2), .int .i64 ((rd_T132 l0 x5_1).f3), .int .i64 ((rd_T132 l0 x5_1).f4), .int .i64 ((rd_T132 l0 x5_1).f5), .int .i64 ((rd_T132 l0 x5_1).f6), .int .i64 ((rd_T132 l0 x5_1).f7), .int .i64 ((rd_T132 l0 x5_1).f8.f0), .int .i64 ((rd_T132 l0 x5_1).f8.f1), .int .i64 ((rd_T132 l0 x5_1).f8.f2), .int .i64 ((rd_T132 l0 x5_1).f8.f3), .int .i64 ((rd_T132 l0 x5_1).f8.f4), .string ((rd_T132 l0 x5_1).f9), .int .i64 ((rd_T132 l0 x5_1).f10)]] rfl (by (try simp only [List.map_toArray, List.map_cons, List.map_nil]); first | done | rfl | (simp only [List.length_drop, List.length_take]; rfl)) ?_; (with_reducible refine (spec_l8Deep.calls ((rd_T132 l0 x5_1).f0) ((rd_T132 l0 x5_1).f1) ((rd_T132 l0 x5_1).f2) ((rd_T132 l0 x5_1).f3) ((rd_T132 l0 x5_1).f4) ((rd_T132 l0 x5_1).f5) ((rd_T132 l0 x5_1).f6) ((rd_T132 l0 x5_1).f7) ((rd_T132 l0 x5_1).f8.f0) ((rd_T132 l0 x5_1).f8.f1) ((rd_T132 l0 x5_1).f8.f2) ((rd_T132 l0 x5_1).f8.f3) ((rd_T132 l0 x5_1).f8.f4) ((rd_T132 l0 x5_1).f9) ((rd_T132 l0 x5_1).f10) true _ A40.out).mono ?_); rintro e w59 ⟨rfl, hb⟩; refine ⟨_, rfl, ?_⟩; have n0_ := Aside0.mk (Kd.R_below (by (with_reducible repeat (first | apply Kd.R_alloc | apply Kd.R_drewN | apply Kd.R_drew)); exact HO_3.out) hb); have n1_ := Aside0.mk (blk_below (g := gb148) (o := .cells #[.int .i64 ((rd_T132 l0 x5_1).f0), .int .i64 ((rd_T132 l0 x5_1).f1), .int .i64 ((rd_T132 l0 x5_1).f2), .int .i64 ((rd_T132 l0 x5_1).f3), .int .i64 ((rd_T132 l0 x5_1).f4), .int .i64 ((rd_T132 l0 x5_1).f5), .int .i64 ((rd_T132 l0 x5_1).f6), .int .i64 ((rd_T132 l0 x5_1).f7), .int .i64 ((rd_T132 l0 x5_1).f8.f0), .int .i64 ((rd_T132 l0 x5_1).f8.f1), .int .i64 ((rd_T132 l0 x5_1).f8.f2), .int .i64 ((rd_T132 l0 x5_1).f8.f3), .int .i64 ((rd_T132 l0 x5_1).f8.f4), .string ((rd_T132 l0 x5_1).f9), .int .i64 ((rd_T132 l0 x5_1).f10)] 132 (0, 0)) (by (with_reducible repeat (first | refine blk_drewN ?_ _ | refine blk_drew ?_ | refine blk_alloc ?_ _)); exact BK148.out) hb); have n2_ := Aside0.mk (below_step (by repeat (first | (with_reducible first | exact HB.out | apply below_alloc | apply pw_below_drewN | apply below_drew1 | refine below_set ?_ GE148.out) | exact HB.out)) hb); clear HO_3; clear BK148; clear HB; have HO_3 := n0_; have BK148 := n1_; have HB := n2_; clear n0_ n1_ n2_; (try clear hb); (try clear hb2); (try clear hk); (try clear hi); have hcz60_14 : w59.cell? ⟨gb148, 14, none⟩ = some (.int .i64 ((rd_T132 l0 x5_1).f10)) := (blk_cell BK148.out 14).trans rfl) | ((with_reducible refine gate_dst (N := 51) rfl ?_); refine Box.all_load rfl 132 132 _ rfl gb148 #[.int .i64 ((rd_T132 l0 x5_1).f0), .int .i64 ((rd_T132 l0 x5_1).f1), .int .i64 ((rd_T132 l0 x5_1).f2), .int .i64 ((rd_T132 l0 x5_1).f3), .int .i64 ((rd_T132 l0 x5_1).f4), .int .i64 ((rd_T132 l0 x5_1).f5), .int .i64 ((rd_T132 l0 x5_1).f6), .int .i64 ((rd_T132 l0 x5_1).f7), .int .i64 ((rd_T132 l0 x5_1).f8.f0), .int .i64 ((rd_T132 l0 x5_1).f8.f1), .int .i64 ((rd_T132 l0 x5_1).f8.f2), .int .i64 ((rd_T132 l0 x5_1).f8.f3), .int .i64 ((rd_T132 l0 x5_1).f8.f4), .string ((rd_T132 l0 x5_1).f9), .int .i64 ((rd_T132 l0 x5_1).f10)] _ rfl (by (with_reducible repeat (first | refine blk_drewN ?_ _ | refine blk_drew ?_ | refine blk_alloc ?_ _)); exact BK148.out) Try.underlying132 hi132 ?_) | ((with_reducible refine gate_dst (N := 68) rfl ?_); refine Box.all_load rfl 132 132 _ rfl gb148 #[.int .i64 ((rd_T132 l0 x5_1).f0), .int .i64 ((rd_T132 l0 x5_1).f1), .int .i64 ((rd_T132 l0 x5_1).f2), .int .i64 ((rd_T132 l0 x5_1).f3), .int .i64 ((rd_T132 l0 x5_1).f4), .int .i64 ((rd_T132 l0 x5_1).f5), .int .i64 ((rd_T132 l0 x5_1).f6), .int .i64 ((rd_T132 l0 x5_1).f7), .int .i64 ((rd_T132 l0 x5_1).f8.f0), .int .i64 ((rd_T132 l0 x5_1).f8.f1), .int .i64 ((rd_T132 l0 x5_1).f8.f2), .int .i64 ((rd_T132 l0 x5_1).f8.f3), .int .i64 ((rd_T132 l0 x5_1).f8.f4), .string ((rd_T132 l0 x5_1).f9), .int .i64 ((rd_T132 l0 x5_1).f10)] _ rfl (by (with_reducible repeat (first | refine blk_drewN ?_ _ | refine blk_drew ?_ | refine blk_alloc ?_ _)); exact BK148.out) Try.underlying132 hi132 ?_))
                  go_roundg kj26
                  case measure => have := HK1.out; have := HJ5.out; have := HJ18.out; have := HJ26.out; omega
                  case rel => exact ⟨(x3_5), (x4_1), (wrap64 (x5_1 + 1)), (by first | rfl | (simp; done) | (simp [*]; done)), (by first | rfl | (simp; done) | (simp [*]; done)), H', ⟨by have := HK1.out; have := HJ5.out; have := HJ18.out; have := HJ26.out; omega⟩, ⟨by (with_reducible repeat (first | apply Kd.R_alloc | apply Kd.R_drewN | apply Kd.R_drew)); exact HO_3.out⟩, ⟨by repeat (first | (with_reducible first | exact HB.out | apply below_alloc | apply pw_below_drewN | apply below_drew1 | refine below_set ?_ GE148.out) | exact HB.out)⟩⟩
              ·replace c41 := Bool.eq_false_iff.mpr c41
               subst c41
               have H1 : (spec_l8Nest.l0 kj26 l0 x3_5 x4_1 (wrap64 (x5_1 + 1))) = some r := by rw [if_neg (show ¬ (false = true) by decide)] at H; exact H
               clear H
               have H := H1
               clear H1
               as_aux_lemma =>
                have H' := Aside0.mk H
                clear H
                have hcz61_14 : wc.cell? ⟨gb148, 14, none⟩ = some (.int .i64 ((rd_T132 l0 x5_1).f10)) := (blk_cell BK148.out 14).trans rfl
                go_wp2_with (first | ((with_reducible refine gate_callee (f := 134) rfl ?_); refine goesL_ (some 69) rfl rfl Try.func134 (by kernel_rfl) rfl #[.agg #[.int .i64 ((rd_T132 l0 x5_1).f0), .int .i64 ((rd_T132 l0 x5_1).f1), .int .i64 ((rd_T132 l0 x5_1).f2), .int .i64 ((rd_T132 l0 x5_1).f3), .int .i64 ((rd_T132 l0 x5_1).f4), .int .i64 ((rd_T132 l0 x5_1).f5), .int .i64 ((rd_T132 l0 x5_1).f6), .int .i64 ((rd_T132 l0 x5_1).f7), .int .i64 ((rd_T132 l0 x5_1).f8.f0), .int .i64 ((rd_T132 l0 x5_1).f8.f1), .int .i64 ((rd_T132 l0 x5_1).f8.f2), .int .i64 ((rd_T132 l0 x5_1).f8.f3), .int .i64 ((rd_T132 l0 x5_1).f8.f4), .string ((rd_T132 l0 x5_1).f9), .int .i64 ((rd_T132 l0 x5_1).f10)]] rfl (by (try simp only [List.map_toArray, List.map_cons, List.map_nil]); first | done | rfl | (simp only [List.length_drop, List.length_take]; rfl)) ?_; (with_reducible refine (spec_l8Deep.calls ((rd_T132 l0 x5_1).f0) ((rd_T132 l0 x5_1).f1) ((rd_T132 l0 x5_1).f2) ((rd_T132 l0 x5_1).f3) ((rd_T132 l0 x5_1).f4) ((rd_T132 l0 x5_1).f5) ((rd_T132 l0 x5_1).f6) ((rd_T132 l0 x5_1).f7) ((rd_T132 l0 x5_1).f8.f0) ((rd_T132 l0 x5_1).f8.f1) ((rd_T132 l0 x5_1).f8.f2) ((rd_T132 l0 x5_1).f8.f3) ((rd_T132 l0 x5_1).f8.f4) ((rd_T132 l0 x5_1).f9) ((rd_T132 l0 x5_1).f10) false _ A40.out).mono ?_); rintro e w62 ⟨rfl, hb⟩; refine ⟨_, rfl, ?_⟩; have n0_ := Aside0.mk (Kd.R_below (by (with_reducible repeat (first | apply Kd.R_alloc | apply Kd.R_drewN | apply Kd.R_drew)); exact HO_3.out) hb); have n1_ := Aside0.mk (blk_below (g := gb148) (o := .cells #[.int .i64 ((rd_T132 l0 x5_1).f0), .int .i64 ((rd_T132 l0 x5_1).f1), .int .i64 ((rd_T132 l0 x5_1).f2), .int .i64 ((rd_T132 l0 x5_1).f3), .int .i64 ((rd_T132 l0 x5_1).f4), .int .i64 ((rd_T132 l0 x5_1).f5), .int .i64 ((rd_T132 l0 x5_1).f6), .int .i64 ((rd_T132 l0 x5_1).f7), .int .i64 ((rd_T132 l0 x5_1).f8.f0), .int .i64 ((rd_T132 l0 x5_1).f8.f1), .int .i64 ((rd_T132 l0 x5_1).f8.f2), .int .i64 ((rd_T132 l0 x5_1).f8.f3), .int .i64 ((rd_T132 l0 x5_1).f8.f4), .string ((rd_T132 l0 x5_1).f9), .int .i64 ((rd_T132 l0 x5_1).f10)] 132 (0, 0)) (by (with_reducible repeat (first | refine blk_drewN ?_ _ | refine blk_drew ?_ | refine blk_alloc ?_ _)); exact BK148.out) hb); have n2_ := Aside0.mk (below_step (by repeat (first | (with_reducible first | exact HB.out | apply below_alloc | apply pw_below_drewN | apply below_drew1 | refine below_set ?_ GE148.out) | exact HB.out)) hb); clear HO_3; clear BK148; clear HB; have HO_3 := n0_; have BK148 := n1_; have HB := n2_; clear n0_ n1_ n2_; (try clear hb); (try clear hb2); (try clear hk); (try clear hi)) | ((with_reducible refine gate_dst (N := 51) rfl ?_); refine Box.all_load rfl 132 132 _ rfl gb148 #[.int .i64 ((rd_T132 l0 x5_1).f0), .int .i64 ((rd_T132 l0 x5_1).f1), .int .i64 ((rd_T132 l0 x5_1).f2), .int .i64 ((rd_T132 l0 x5_1).f3), .int .i64 ((rd_T132 l0 x5_1).f4), .int .i64 ((rd_T132 l0 x5_1).f5), .int .i64 ((rd_T132 l0 x5_1).f6), .int .i64 ((rd_T132 l0 x5_1).f7), .int .i64 ((rd_T132 l0 x5_1).f8.f0), .int .i64 ((rd_T132 l0 x5_1).f8.f1), .int .i64 ((rd_T132 l0 x5_1).f8.f2), .int .i64 ((rd_T132 l0 x5_1).f8.f3), .int .i64 ((rd_T132 l0 x5_1).f8.f4), .string ((rd_T132 l0 x5_1).f9), .int .i64 ((rd_T132 l0 x5_1).f10)] _ rfl (by (with_reducible repeat (first | refine blk_drewN ?_ _ | refine blk_drew ?_ | refine blk_alloc ?_ _)); exact BK148.out) Try.underlying132 hi132 ?_) | ((with_reducible refine gate_dst (N := 68) rfl ?_); refine Box.all_load rfl 132 132 _ rfl gb148 #[.int .i64 ((rd_T132 l0 x5_1).f0), .int .i64 ((rd_T132 l0 x5_1).f1), .int .i64 ((rd_T132 l0 x5_1).f2), .int .i64 ((rd_T132 l0 x5_1).f3), .int .i64 ((rd_T132 l0 x5_1).f4), .int .i64 ((rd_T132 l0 x5_1).f5), .int .i64 ((rd_T132 l0 x5_1).f6), .int .i64 ((rd_T132 l0 x5_1).f7), .int .i64 ((rd_T132 l0 x5_1).f8.f0), .int .i64 ((rd_T132 l0 x5_1).f8.f1), .int .i64 ((rd_T132 l0 x5_1).f8.f2), .int .i64 ((rd_T132 l0 x5_1).f8.f3), .int .i64 ((rd_T132 l0 x5_1).f8.f4), .string ((rd_T132 l0 x5_1).f9), .int .i64 ((rd_T132 l0 x5_1).f10)] _ rfl (by (with_reducible repeat (first | refine blk_drewN ?_ _ | refine blk_drew ?_ | refine blk_alloc ?_ _)); exact BK148.out) Try.underlying132 hi132 ?_))
                go_roundg kj26
                case measure => have := HK1.out; have := HJ5.out; have := HJ18.out; have := HJ26.out; omega
                case rel => exact ⟨(x3_5), (x4_1), (wrap64 (x5_1 + 1)), (by first | rfl | (simp; done) | (simp [*]; done)), (by first | rfl | (simp; done) | (simp [*]; done)), H', ⟨by have := HK1.out; have := HJ5.out; have := HJ18.out; have := HJ26.out; omega⟩, ⟨by (with_reducible repeat (first | apply Kd.R_alloc | apply Kd.R_drewN | apply Kd.R_drew)); exact HO_3.out⟩, ⟨by repeat (first | (with_reducible first | exact HB.out | apply below_alloc | apply pw_below_drewN | apply below_drew1 | refine below_set ?_ GE148.out) | exact HB.out)⟩⟩
        ·rw [if_neg c18] at H
         exact absurd H (by simp)
       ·rw [if_neg c17] at H
        exact absurd H (by simp)
    ·rw [if_neg c5] at H
     have c5b0 : decide (x5_1 < (l0.length : Int)) = false := decide_eq_false c5
     clear c5
     as_aux_lemma =>
      obtain rfl := Option.some.inj H
      go_wp2
      go_ret
      exact ⟨by first | rfl | (simp [errW_none, errW_some] <;> rfl) | (simp [*, errW_none, errW_some] <;> rfl), by repeat (first | (with_reducible first | exact HB.out | apply below_alloc | apply pw_below_drewN | apply below_drew1) | exact HB.out)⟩

end Go.Proofs.Ytgfifmbbjoocgaa.PFnExactListOk
