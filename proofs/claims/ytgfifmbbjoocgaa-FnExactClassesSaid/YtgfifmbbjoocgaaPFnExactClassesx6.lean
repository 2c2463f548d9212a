-- Written by this session's program over the kit's printer (wip/gen/gp.py): Lean checks it.
import Derived.Test.YtgfifmbbjoocgaaPFnExactClassesx0
import Derived.Test.YtgfifmbbjoocgaaPFnExactClassesx5
namespace Go.Proofs.Ytgfifmbbjoocgaa.PFnExactClasses
open Go.RowKit Go.Proofs.YtgfifmbbjoocgaaW.PrintWords Go.Proofs.YtgfifmbbjoocgaaW.PrintLast Go.Proofs.YtgfifmbbjoocgaaW.PrintMore
attribute [local go_sem] max2_int min2_int max_two min_two max_three min_three max_four min_four   -- for this text's walks alone
set_option linter.unusedVariables false
set_option linter.unusedSimpArgs false

/-! ### impl_FormulaOk: function 69 -/
def impl_FormulaOk.f (k : Nat) (l0 : List (S115)) : Option (Bool) := if (l0.length : Int) ≤ 2000 then ((impl_oFormula.f k l0 0).bind fun t273 => (some t273)) else (some false)
theorem impl_FormulaOk.mono : ∀ a0 k, LeO (impl_FormulaOk.f k a0) (impl_FormulaOk.f (k + 1) a0) := by
 intro a0 k
 unfold impl_FormulaOk.f
 repeat' first
   | (with_reducible exact impl_oFormula.mono _ _ _)
   | (with_reducible exact LeO.refl _)
   | (with_reducible exact LeO.none _)
   | (with_reducible refine LeO.ite ?_ ?_)
   | (with_reducible refine LeO.bind ?_ (fun _ => ?_))
   | exact impl_oFormula.mono _ _ _
   | exact LeO.none _
   | refine LeO.ite ?_ ?_
   | refine LeO.bind ?_ (fun _ => ?_)
set_option maxHeartbeats 8000000 in
set_option maxRecDepth 100000 in
theorem impl_FormulaOk.calls (k : Nat) (A0 : Option Addr) (c0 : Nat) (l0 : List (S115)) (r : Bool) (w : World) (hr0 : Kd.C k115 w A0 l0.length l0) (hc0 : l0.length ≤ c0) (h : impl_FormulaOk.f k l0 = some r) :
  Calls Try.prog 69 #[.slice A0 l0.length c0] w fun e w' => e = .returned (.bool r) ∧ Below w.heap.size w w' := by
 have HR0 := Aside0.mk hr0
 have HC0 := Aside0.mk hc0
 clear hr0 hc0
 have HB := Aside0.mk (Below.refl w.heap.size w)
 have H : (if (l0.length : Int) ≤ 2000 then ((impl_oFormula.f k l0 0).bind fun t273 => (some t273)) else (some false)) = some r := h
 clear h
 by_cases c2 : (l0.length : Int) ≤ 2000
 ·rw [if_pos c2] at H
  have c2b0 : decide ((l0.length : Int) ≤ 2000) = true := decide_eq_true c2
  have c2b1 : decide (l0.length ≤ 2000) = true := decide_eq_true (by omega)
  clear c2
  replace H := Option.bind_eq_some_iff.mp H
  obtain ⟨t273, A30, H⟩ := H
  replace H : (some t273) = some r := H
  have A3 := Aside0.mk A30
  clear A30
  obtain rfl := Option.some.inj H
  go_enter Try.func69, Try.ntmps69
  go_wp2_with (first | (go_at_call 130; (with_reducible refine (impl_oFormula.calls k _ _ l0 0 t273 _ ?side1 ?side2 A3.out).mono ?_); (case side1 => repeat (first | exact HR0.out | (with_reducible refine Kd.C_alloc ?_ _) | (with_reducible refine Kd.C_drewN ?_ _) | (with_reducible refine Kd.C_drew ?_))); (case side2 => exact HC0.out); rintro e w4 ⟨rfl, hb⟩; have n0_ := Aside0.mk (below_step (by repeat (first | (with_reducible first | exact HB.out | apply below_alloc | apply pw_below_drewN | apply below_drew1) | exact HB.out)) hb); clear HB; have HB := n0_; clear n0_; (try clear hb); (try clear hb2); (try clear hk); (try clear hi)))
  go_ret
  exact ⟨by first | rfl | (simp [errW_none, errW_some] <;> rfl) | (simp [*, errW_none, errW_some] <;> rfl), by repeat (first | (with_reducible first | exact HB.out | apply below_alloc | apply pw_below_drewN | apply below_drew1) | exact HB.out)⟩
 ·rw [if_neg c2] at H
  have c2b0 : decide ((l0.length : Int) ≤ 2000) = false := decide_eq_false c2
  have c2b1 : decide (l0.length ≤ 2000) = false := decide_eq_false (by omega)
  clear c2
  obtain rfl := Option.some.inj H
  go_enter Try.func69, Try.ntmps69
  go_wp2
  go_ret
  exact ⟨by first | rfl | (simp [errW_none, errW_some] <;> rfl) | (simp [*, errW_none, errW_some] <;> rfl), by repeat (first | (with_reducible first | exact HB.out | apply below_alloc | apply pw_below_drewN | apply below_drew1) | exact HB.out)⟩

/-! ### impl_oClasses: function 70 -/
mutual
def impl_oClasses.l0 : Nat → List (List (S115)) → List Int → List (List (S115)) → Int → Int → Option (List Int)
 | 0, _, _, _, _, _ => none
 | k + 1, x0, x3, x7, x8, x9 => if x9 < x8 then (if 0 ≤ x9 then (if x9 < (x7.length : Int) then (if 0 < ((rd_L3 x7 x9).length : Int) then (if ((rd_T115 (rd_L3 x7 x9) 0).f1) = 2 then (if x9 = 0 then (impl_oClasses.j1 k x0 x3 x9 ((rd_T115 (rd_L3 x7 x9) 0).f1) x7 x8 x9 true) else (impl_oClasses.j1 k x0 x3 x9 ((rd_T115 (rd_L3 x7 x9) 0).f1) x7 x8 x9 (x9 == (wrap64 ((x0.length : Int) - 1))))) else (if x3.length < 17592186044416 then (impl_oClasses.l0 k x0 (x3 ++ [(rd_T115 (rd_L3 x7 x9) 0).f1]) x7 x8 (wrap64 (x9 + 1))) else (none))) else (none)) else (none)) else (none)) else (some x3)
def impl_oClasses.j1 : Nat → List (List (S115)) → List Int → Int → Int → List (List (S115)) → Int → Int → Bool → Option (List Int)
 | 0, _, _, _, _, _, _, _, _ => none
 | k + 1, x0, x3, x4, x6, x7, x8, x9, x28 => if x28 = true then (if x3.length < 17592186044416 then (impl_oClasses.l0 k x0 (x3 ++ [0]) x7 x8 (wrap64 (x9 + 1))) else (none)) else (if 0 ≤ (wrap64 (x4 - 1)) then (if (wrap64 (x4 - 1)) < (x3.length : Int) then (if (rd x3 (wrap64 (x4 - 1))) = 2 then (impl_oClasses.j2 k x0 x3 x4 0 x7 x8 x9) else (if (rd x3 (wrap64 (x4 - 1))) = 1 then (impl_oClasses.j2 k x0 x3 x4 0 x7 x8 x9) else (if (rd x3 (wrap64 (x4 - 1))) = 3 then (impl_oClasses.j2 k x0 x3 x4 0 x7 x8 x9) else (if (rd x3 (wrap64 (x4 - 1))) = 4 then (impl_oClasses.j2 k x0 x3 x4 0 x7 x8 x9) else (if (rd x3 (wrap64 (x4 - 1))) = 6 then (impl_oClasses.j2 k x0 x3 x4 0 x7 x8 x9) else (impl_oClasses.j2 k x0 x3 x4 x6 x7 x8 x9)))))) else (none)) else (none))
def impl_oClasses.j2 : Nat → List (List (S115)) → List Int → Int → Int → List (List (S115)) → Int → Int → Option (List Int)
 | 0, _, _, _, _, _, _, _ => none
 | k + 1, x0, x3, x4, x6, x7, x8, x9 => if 0 ≤ (wrap64 (x4 + 1)) then (if (wrap64 (x4 + 1)) < (x0.length : Int) then (if 0 < ((rd_L3 x0 (wrap64 (x4 + 1))).length : Int) then (if ((rd_T115 (rd_L3 x0 (wrap64 (x4 + 1))) 0).f1) = 3 then (if x3.length < 17592186044416 then (impl_oClasses.l0 k x0 (x3 ++ [0]) x7 x8 (wrap64 (x9 + 1))) else (none)) else (if ((rd_T115 (rd_L3 x0 (wrap64 (x4 + 1))) 0).f1) = 5 then (if x3.length < 17592186044416 then (impl_oClasses.l0 k x0 (x3 ++ [0]) x7 x8 (wrap64 (x9 + 1))) else (none)) else (if ((rd_T115 (rd_L3 x0 (wrap64 (x4 + 1))) 0).f1) = 6 then (if x3.length < 17592186044416 then (impl_oClasses.l0 k x0 (x3 ++ [0]) x7 x8 (wrap64 (x9 + 1))) else (none)) else (if x3.length < 17592186044416 then (impl_oClasses.l0 k x0 (x3 ++ [x6]) x7 x8 (wrap64 (x9 + 1))) else (none))))) else (none)) else (none)) else (none)
end
def impl_oClasses.f (k : Nat) (l0 : List (List (S115))) : Option (List Int) := impl_oClasses.l0 k l0 ([] : List Int) l0 (l0.length : Int) 0
theorem impl_oClasses.mono_l : ∀ k, (∀ y0 y1 y2 y3 y4, LeO (impl_oClasses.l0 k y0 y1 y2 y3 y4) (impl_oClasses.l0 (k + 1) y0 y1 y2 y3 y4)) ∧ (∀ y0 y1 y2 y3 y4 y5 y6 y7, LeO (impl_oClasses.j1 k y0 y1 y2 y3 y4 y5 y6 y7) (impl_oClasses.j1 (k + 1) y0 y1 y2 y3 y4 y5 y6 y7)) ∧ (∀ y0 y1 y2 y3 y4 y5 y6, LeO (impl_oClasses.j2 k y0 y1 y2 y3 y4 y5 y6) (impl_oClasses.j2 (k + 1) y0 y1 y2 y3 y4 y5 y6))
 | 0 => ⟨fun _ _ _ _ _ r h => by simp [impl_oClasses.l0] at h, fun _ _ _ _ _ _ _ _ r h => by simp [impl_oClasses.j1] at h, fun _ _ _ _ _ _ _ r h => by simp [impl_oClasses.j2] at h⟩
 | k + 1 => by
  obtain ⟨ih0, ih1, ih2⟩ := impl_oClasses.mono_l k
  refine ⟨?_, ?_, ?_⟩
  ·intro y0 y1 y2 y3 y4
   unfold impl_oClasses.l0
   repeat' first
   | (with_reducible exact ih0 _ _ _ _ _)
   | (with_reducible exact ih1 _ _ _ _ _ _ _ _)
   | (with_reducible exact ih2 _ _ _ _ _ _ _)
   | (with_reducible exact LeO.refl _)
   | (with_reducible exact LeO.none _)
   | (with_reducible refine LeO.ite ?_ ?_)
   | (with_reducible refine LeO.bind ?_ (fun _ => ?_))
   | exact ih0 _ _ _ _ _
   | exact ih1 _ _ _ _ _ _ _ _
   | exact ih2 _ _ _ _ _ _ _
   | exact LeO.none _
   | refine LeO.ite ?_ ?_
   | refine LeO.bind ?_ (fun _ => ?_)
  ·intro y0 y1 y2 y3 y4 y5 y6 y7
   unfold impl_oClasses.j1
   repeat' first
   | (with_reducible exact ih0 _ _ _ _ _)
   | (with_reducible exact ih1 _ _ _ _ _ _ _ _)
   | (with_reducible exact ih2 _ _ _ _ _ _ _)
   | (with_reducible exact LeO.refl _)
   | (with_reducible exact LeO.none _)
   | (with_reducible refine LeO.ite ?_ ?_)
   | (with_reducible refine LeO.bind ?_ (fun _ => ?_))
   | exact ih0 _ _ _ _ _
   | exact ih1 _ _ _ _ _ _ _ _
   | exact ih2 _ _ _ _ _ _ _
   | exact LeO.none _
   | refine LeO.ite ?_ ?_
   | refine LeO.bind ?_ (fun _ => ?_)
  ·intro y0 y1 y2 y3 y4 y5 y6
   unfold impl_oClasses.j2
   repeat' first
   | (with_reducible exact ih0 _ _ _ _ _)
   | (with_reducible exact ih1 _ _ _ _ _ _ _ _)
   | (with_reducible exact ih2 _ _ _ _ _ _ _)
   | (with_reducible exact LeO.refl _)
   | (with_reducible exact LeO.none _)
   | (with_reducible refine LeO.ite ?_ ?_)
   | (with_reducible refine LeO.bind ?_ (fun _ => ?_))
   | exact ih0 _ _ _ _ _
   | exact ih1 _ _ _ _ _ _ _ _
   | exact ih2 _ _ _ _ _ _ _
   | exact LeO.none _
   | refine LeO.ite ?_ ?_
   | refine LeO.bind ?_ (fun _ => ?_)
theorem impl_oClasses.mono : ∀ a0 k, LeO (impl_oClasses.f k a0) (impl_oClasses.f (k + 1) a0) := by
 intro a0 k
 obtain ⟨ih0, ih1, ih2⟩ := impl_oClasses.mono_l k
 unfold impl_oClasses.f
 repeat' first
   | (with_reducible exact ih0 _ _ _ _ _)
   | (with_reducible exact ih1 _ _ _ _ _ _ _ _)
   | (with_reducible exact ih2 _ _ _ _ _ _ _)
   | (with_reducible exact LeO.refl _)
   | (with_reducible exact LeO.none _)
   | (with_reducible refine LeO.ite ?_ ?_)
   | (with_reducible refine LeO.bind ?_ (fun _ => ?_))
   | exact ih0 _ _ _ _ _
   | exact ih1 _ _ _ _ _ _ _ _
   | exact ih2 _ _ _ _ _ _ _
   | exact LeO.none _
   | refine LeO.ite ?_ ?_
   | refine LeO.bind ?_ (fun _ => ?_)
set_option maxHeartbeats 8000000 in
set_option maxRecDepth 100000 in
theorem impl_oClasses.calls (k : Nat) (A0 : Option Addr) (c0 : Nat) (l0 : List (List (S115))) (r : List Int) (w : World) (hr0 : Kd.C (Kd.slice 115 k115) w A0 l0.length l0) (hc0 : l0.length ≤ c0) (h : impl_oClasses.f k l0 = some r) :
  Calls Try.prog 70 #[.slice A0 l0.length c0] w fun e w' => ∃ v0_ : Value, e = .returned (v0_) ∧ Kd.R (Kd.int .i64) 2 w' w.heap.size (fun _ => True) v0_ r ∧ Below w.heap.size w w' := by
 have HR0 := Aside0.mk hr0
 have HC0 := Aside0.mk hc0
 clear hr0 hc0
 have HB := Aside0.mk (Below.refl w.heap.size w)
 have H : (impl_oClasses.l0 k l0 ([] : List Int) l0 (l0.length : Int) 0) = some r := h
 clear h
 have H' := Aside0.mk H
 clear H
 go_enter Try.func70, Try.ntmps70
 go_wp2
 go_loopg [3, 9] k (fun kq v3 v9 w' => ∃ (x3_1 : List Int) (x9_1 : Int), v9 = .int .i64 x9_1 ∧ Aside0 (impl_oClasses.l0 kq l0 x3_1 l0 (l0.length : Int) x9_1 = some r) ∧ Aside0 (kq ≤ k) ∧ Aside0 (Kd.R (Kd.int .i64) 2 w' w.heap.size (fun _ => True) v3 x3_1) ∧ Aside0 (Below w.heap.size w w'))
 case atStart => exact ⟨(([] : List Int)), (0), (by first | rfl | (simp; done) | (simp [*]; done)), H', ⟨Nat.le_refl _⟩, ⟨by first | exact Kd.R_nil _ _ _ _ _ | exact Kd.N_nil _ _ _ _ _ | exact Kd.V_nil _ _ _ _ _ | exact Kd.Q_nil _ _ _ _ _ | exact Kd.S_nil _ _ _ _ _⟩, ⟨by repeat (first | (with_reducible first | exact HB.out | apply below_alloc | apply pw_below_drewN | apply below_drew1) | exact HB.out)⟩⟩
 case round =>
  clear H'
  obtain ⟨x3_1, x9_1, rfl, HA, HK1, HO_3, HB⟩ := hrel
  cases gk with
  | zero => exact absurd HA.out (by simp [impl_oClasses.l0])
  | succ k1 =>
   have H := HA.out
   clear HA
   simp only [impl_oClasses.l0] at H
   by_cases c2 : x9_1 < (l0.length : Int)
   ·rw [if_pos c2] at H
    have c2b0 : decide (x9_1 < (l0.length : Int)) = true := decide_eq_true c2
    clear c2
    by_cases c3 : 0 ≤ x9_1
    ·rw [if_pos c3] at H
     have c3b0 : decide (0 ≤ x9_1) = true := decide_eq_true c3
     clear c3
     by_cases c4 : x9_1 < (l0.length : Int)
     ·rw [if_pos c4] at H
      have c4b0 : decide (x9_1 < (l0.length : Int)) = true := decide_eq_true c4
      clear c4
      by_cases c5 : 0 < ((rd_L3 l0 x9_1).length : Int)
      ·rw [if_pos c5] at H
       have c5b0 : decide (0 < ((rd_L3 l0 x9_1).length : Int)) = true := decide_eq_true c5
       have c5b1 : decide (0 < (rd_L3 l0 x9_1).length) = true := decide_eq_true (by omega)
       clear c5
       by_cases c6 : ((rd_T115 (rd_L3 l0 x9_1) 0).f1) = 2
       ·rw [if_pos c6] at H
        have c6b0 : (((rd_T115 (rd_L3 l0 x9_1) 0).f1) == 2) = true := beq_iff_eq.mpr c6
        have c6b1 : (((rd_T115 (rd_L3 l0 x9_1) 0).f1) != 2) = false := bne_eq_false_iff_eq.mpr c6
        clear c6
        have HC7 := Aside0.mk H
        clear H
        have p274 : 0 ≤ (x9_1 : Int) := of_decide_eq_true (by first | (with_reducible assumption) | assumption)
        have q274 : x9_1 < (l0.length : Int) := of_decide_eq_true (by first | (with_reducible assumption) | assumption)
        obtain ⟨ad274, A274_0, c274_0, e274, hx274_0, hl274_0, hi274_0⟩ := at_L3 HR0.out x9_1 p274 q274
        cases e274
        replace hx274_0 := (HB.out.cell (World.block_lt_of_cell? w _ hx274_0)).trans hx274_0
        have HR274_0 := Aside0.mk hi274_0
        have HC274_0 := Aside0.mk hl274_0
        clear hi274_0 hl274_0
        replace p274 := eq_true p274
        replace q274 := eq_true q274
        have p275 : 0 ≤ (0 : Int) := (by omega)
        have q275 : 0 < ((rd_L3 l0 x9_1).length : Int) := of_decide_eq_true (by first | (with_reducible assumption) | assumption)
        obtain ⟨ad275, e275, hx275_0, hx275_1, hx275_2, hx275_3, hx275_4, hx275_5⟩ := at_T115 HR274_0.out 0 p275 q275
        cases e275
        have qi275 : (0 < (rd_L3 l0 x9_1).length) = True := eq_true (by omega)
        (try rw [show ((0 : Int)).toNat = 0 from rfl] at hx275_0)
        (try rw [show 0 * 6 = 0 from rfl] at hx275_0)
        (try rw [Addr.add_zero'] at hx275_0)
        (try rw [show ((0 : Int)).toNat = 0 from rfl] at hx275_1)
        (try rw [show 0 * 6 = 0 from rfl] at hx275_1)
        (try rw [Addr.add_zero'] at hx275_1)
        (try rw [show ((0 : Int)).toNat = 0 from rfl] at hx275_2)
        (try rw [show 0 * 6 = 0 from rfl] at hx275_2)
        (try rw [Addr.add_zero'] at hx275_2)
        (try rw [show ((0 : Int)).toNat = 0 from rfl] at hx275_3)
        (try rw [show 0 * 6 = 0 from rfl] at hx275_3)
        (try rw [Addr.add_zero'] at hx275_3)
        (try rw [show ((0 : Int)).toNat = 0 from rfl] at hx275_4)
        (try rw [show 0 * 6 = 0 from rfl] at hx275_4)
        (try rw [Addr.add_zero'] at hx275_4)
        (try rw [show ((0 : Int)).toNat = 0 from rfl] at hx275_5)
        (try rw [show 0 * 6 = 0 from rfl] at hx275_5)
        (try rw [Addr.add_zero'] at hx275_5)
        replace hx275_0 := (HB.out.cell (World.block_lt_of_cell? w _ hx275_0)).trans hx275_0
        replace hx275_1 := (HB.out.cell (World.block_lt_of_cell? w _ hx275_1)).trans hx275_1
        replace hx275_2 := (HB.out.cell (World.block_lt_of_cell? w _ hx275_2)).trans hx275_2
        replace hx275_3 := (HB.out.cell (World.block_lt_of_cell? w _ hx275_3)).trans hx275_3
        replace hx275_4 := (HB.out.cell (World.block_lt_of_cell? w _ hx275_4)).trans hx275_4
        replace hx275_5 := (HB.out.cell (World.block_lt_of_cell? w _ hx275_5)).trans hx275_5
        replace p275 := eq_true p275
        replace q275 := eq_true q275
        go_upto_region 7 with (fail)
        go_cut [28] (fun v28 wc => ∃ (kq : Nat) (x28_6 : Bool), v28 = .bool x28_6 ∧ Aside0 (impl_oClasses.j1 kq l0 x3_1 x9_1 ((rd_T115 (rd_L3 l0 x9_1) 0).f1) l0 (l0.length : Int) x9_1 x28_6 = some r) ∧ Aside0 (kq ≤ k1) ∧ Aside0 (Kd.R (Kd.int .i64) 2 wc w.heap.size (fun _ => True) u3 x3_1) ∧ Aside0 (Below w.heap.size w wc))
        case first =>
         have H := HC7.out
         clear HC7
         by_cases c8 : x9_1 = 0
         ·rw [if_pos c8] at H
          have c8b0 : (x9_1 == 0) = true := beq_iff_eq.mpr c8
          have c8b1 : (x9_1 != 0) = false := bne_eq_false_iff_eq.mpr c8
          clear c8
          (first | rw [c8b0] | (simp only [i64_w, i32_w]; rw [c8b0]) | skip)
          have H' := Aside0.mk H
          clear H
          go_wp2
          go_meet
          case rel => exact ⟨_, (true), (by first | rfl | (simp; done) | (simp [*]; done)), H', ⟨by have := HK1.out; first | omega | exact Nat.le_refl _⟩, ⟨by (with_reducible repeat (first | apply Kd.R_alloc | apply Kd.R_drewN | apply Kd.R_drew)); exact HO_3.out⟩, ⟨by repeat (first | (with_reducible first | exact HB.out | apply below_alloc | apply pw_below_drewN | apply below_drew1) | exact HB.out)⟩⟩
         ·rw [if_neg c8] at H
          have c8b0 : (x9_1 == 0) = false := beq_eq_false_iff_ne.mpr c8
          have c8b1 : (x9_1 != 0) = true := bne_iff_ne.mpr c8
          (first | rw [c8b0] | (simp only [i64_w, i32_w]; rw [c8b0]) | skip)
          have H' := Aside0.mk H
          clear H
          go_wp2
          go_meet
          case rel => exact ⟨_, ((x9_1 == (wrap64 ((l0.length : Int) - 1)))), (by first | rfl | (simp; done) | (simp [*]; done)), H', ⟨by have := HK1.out; first | omega | exact Nat.le_refl _⟩, ⟨by (with_reducible repeat (first | apply Kd.R_alloc | apply Kd.R_drewN | apply Kd.R_drew)); exact HO_3.out⟩, ⟨by repeat (first | (with_reducible first | exact HB.out | apply below_alloc | apply pw_below_drewN | apply below_drew1) | exact HB.out)⟩⟩
        case rest =>
         clear HC7
         try clear c2
         try clear c2b0
         try clear p2
         try clear q2
         try clear hx2
         try clear qi2
         try clear c3
         try clear c3b0
         try clear c4
         try clear c4b0
         try clear c5
         try clear c5b0
         try clear c5b1
         try clear c6
         try clear c6b0
         try clear c6b1
         try clear p6
         try clear c7
         try clear c8
         try clear c8b0
         try clear c8b1
         try clear hx274_0
         try clear hx275_0
         try clear hx275_1
         try clear hx275_2
         try clear hx275_3
         try clear hx275_4
         try clear hx275_5
         try clear p274
         try clear p275
         try clear q274
         try clear q275
         obtain ⟨kq, x28_6, rfl, HA, HJ6, HO_3, HB⟩ := hcut
         cases kq with
         | zero => exact absurd HA.out (by simp [impl_oClasses.j1])
         | succ kj6 =>
          have H := HA.out
          clear HA
          simp only [impl_oClasses.j1] at H
          by_cases c9 : x28_6 = true
          ·subst c9
           have H1 : (if x3_1.length < 17592186044416 then (impl_oClasses.l0 kj6 l0 (x3_1 ++ [0]) l0 (l0.length : Int) (wrap64 (x9_1 + 1))) else (none)) = some r := by rw [if_pos rfl] at H; exact H
           clear H
           have H := H1
           clear H1
           by_cases c10 : x3_1.length < 17592186044416
           ·rw [if_pos c10] at H
            have LMc10 := Aside0.mk c10
            clear c10
            obtain ⟨y276, hy276⟩ : ∃ y_ : List Int, y_ = (x3_1 ++ [0]) := ⟨_, rfl⟩
            replace H : (impl_oClasses.l0 kj6 l0 y276 l0 (l0.length : Int) (wrap64 (x9_1 + 1))) = some r := by first | (rw [hy276]; with_reducible exact H) | (have H2_ := (Option.bind_some _ _).symm.trans H; rw [hy276]; with_reducible exact H2_) | (have H2_ := (Option.bind_some _ _).symm.trans H; with_reducible exact H2_) | with_reducible exact H | (rw [hy276]; exact H) | exact H
            have Ny276 := Aside0.mk hy276
            clear hy276
            have H' := Aside0.mk H
            clear H
            go_wp2_with (first | ((with_reducible refine gate_builtin (b := .append) (xs := #[.tmp 52, .tmp 54]) rfl ?_); (try (refine gate_guard (by rfl) ?_; dsimp only)); at_builtin; refine Kd.R_append (Kd.int .i64) (w0 := w) w.heap.size rfl (.tmp 52) (.tmp 54) 24 2 (.int .i64 0) 8 rfl Try.underlying24 info2 rfl (by decide) (by omega) u3 x3_1 0 [.int .i64 0] (fun _ => True) (fun _ => False) rfl rfl ?aP (fun _ hk => hk.elim) ?aF ?aO ?aB ?aS ?aL ?_; (case aP => exact rfl); (case aB => exact (by repeat (first | (with_reducible first | exact HB.out | apply below_alloc | apply pw_below_drewN | apply below_drew1) | exact HB.out))); (case aF => exact (fun _ _ => trivial)); (case aO => exact (by (with_reducible repeat (first | apply Kd.R_alloc | apply Kd.R_drewN | apply Kd.R_drew)); exact HO_3.out)); (case aS => exact (below_size (by repeat (first | (with_reducible first | exact HB.out | apply below_alloc | apply pw_below_drewN | apply below_drew1) | exact HB.out)))); (case aL => have := LMc10.out; omega); intro v277 w11 ho hb hg hat; rw [← Ny276.out] at ho; have n0_ := Aside0.mk (hb); have n1_ := Aside0.mk (ho); clear HB; clear HO_3; have HB := n0_; have HO278 := n1_; clear n0_ n1_; clear ho hb hg hat))
            go_roundg kj6
            case measure => have := HK1.out; have := HJ6.out; omega
            case rel => exact ⟨(y276), (wrap64 (x9_1 + 1)), (by first | rfl | (simp; done) | (simp [*]; done)), H', ⟨by have := HK1.out; have := HJ6.out; omega⟩, ⟨by (with_reducible repeat (first | apply Kd.R_alloc | apply Kd.R_drewN | apply Kd.R_drew)); exact HO278.out⟩, ⟨by repeat (first | (with_reducible first | exact HB.out | apply below_alloc | apply pw_below_drewN | apply below_drew1) | exact HB.out)⟩⟩
           ·rw [if_neg c10] at H
            exact absurd H (by simp)
          ·replace c9 := Bool.eq_false_iff.mpr c9
           subst c9
           have H1 : (if 0 ≤ (wrap64 (x9_1 - 1)) then (if (wrap64 (x9_1 - 1)) < (x3_1.length : Int) then (if (rd x3_1 (wrap64 (x9_1 - 1))) = 2 then (impl_oClasses.j2 kj6 l0 x3_1 x9_1 0 l0 (l0.length : Int) x9_1) else (if (rd x3_1 (wrap64 (x9_1 - 1))) = 1 then (impl_oClasses.j2 kj6 l0 x3_1 x9_1 0 l0 (l0.length : Int) x9_1) else (if (rd x3_1 (wrap64 (x9_1 - 1))) = 3 then (impl_oClasses.j2 kj6 l0 x3_1 x9_1 0 l0 (l0.length : Int) x9_1) else (if (rd x3_1 (wrap64 (x9_1 - 1))) = 4 then (impl_oClasses.j2 kj6 l0 x3_1 x9_1 0 l0 (l0.length : Int) x9_1) else (if (rd x3_1 (wrap64 (x9_1 - 1))) = 6 then (impl_oClasses.j2 kj6 l0 x3_1 x9_1 0 l0 (l0.length : Int) x9_1) else (impl_oClasses.j2 kj6 l0 x3_1 x9_1 ((rd_T115 (rd_L3 l0 x9_1) 0).f1) l0 (l0.length : Int) x9_1)))))) else (none)) else (none)) = some r := by rw [if_neg (show ¬ (false = true) by decide)] at H; exact H
           clear H
           have H := H1
           clear H1
           obtain ⟨ji12, hji12⟩ : ∃ j_ : Int, (wrap64 (x9_1 - 1)) = j_ := ⟨_, rfl⟩
           replace H : (if 0 ≤ (ji12) then (if (ji12) < (x3_1.length : Int) then (if (rd x3_1 (ji12)) = 2 then (impl_oClasses.j2 kj6 l0 x3_1 x9_1 0 l0 (l0.length : Int) x9_1) else (if (rd x3_1 (ji12)) = 1 then (impl_oClasses.j2 kj6 l0 x3_1 x9_1 0 l0 (l0.length : Int) x9_1) else (if (rd x3_1 (ji12)) = 3 then (impl_oClasses.j2 kj6 l0 x3_1 x9_1 0 l0 (l0.length : Int) x9_1) else (if (rd x3_1 (ji12)) = 4 then (impl_oClasses.j2 kj6 l0 x3_1 x9_1 0 l0 (l0.length : Int) x9_1) else (if (rd x3_1 (ji12)) = 6 then (impl_oClasses.j2 kj6 l0 x3_1 x9_1 0 l0 (l0.length : Int) x9_1) else (impl_oClasses.j2 kj6 l0 x3_1 x9_1 ((rd_T115 (rd_L3 l0 x9_1) 0).f1) l0 (l0.length : Int) x9_1)))))) else (none)) else (none)) = some r := by first | (rw [hji12] at H; exact H) | (simp only [hji12] at H ⊢; exact H)
           have hji12w : (IntKind.i64.wrap (x9_1 - 1)) = ji12 := (i64_w _).trans hji12
           by_cases c13 : 0 ≤ (ji12)
           ·rw [if_pos c13] at H
            have c13b0 : decide (0 ≤ (ji12)) = true := decide_eq_true c13
            clear c13
            by_cases c14 : (ji12) < (x3_1.length : Int)
            ·rw [if_pos c14] at H
             have c14b0 : decide ((ji12) < (x3_1.length : Int)) = true := decide_eq_true c14
             clear c14
             have HC15 := Aside0.mk H
             clear H
             obtain ⟨Ao16, co16, eo16⟩ := Kd.R_slice HO_3.out
             subst eo16
             have p279 : 0 ≤ ((ji12) : Int) := of_decide_eq_true (by first | (with_reducible assumption) | assumption)
             have q279 : (ji12) < (x3_1.length : Int) := of_decide_eq_true (by first | (with_reducible assumption) | assumption)
             obtain ⟨ad279, e279, hx279_0⟩ := Kd.at_int (Kd.R_reads' HO_3.out).2.2 (ji12) p279 q279
             cases e279
             replace p279 := eq_true p279
             replace q279 := eq_true q279
             go_upto_block 2 with (fail)
             go_cut [6] (fun v6 wc => ∃ (kq : Nat) (x6_14 : Int), v6 = .int .i64 x6_14 ∧ Aside0 (impl_oClasses.j2 kq l0 x3_1 x9_1 x6_14 l0 (l0.length : Int) x9_1 = some r) ∧ Aside0 (kq ≤ kj6) ∧ Aside0 (Kd.R (Kd.int .i64) 2 wc w.heap.size (fun _ => True) (.slice (some ad279) x3_1.length co16) x3_1) ∧ Aside0 (Below w.heap.size w wc))
             case first =>
              have H := HC15.out
              clear HC15
              by_cases c17 : (rd x3_1 (ji12)) = 2
              ·rw [if_pos c17] at H
               have c17b0 : ((rd x3_1 (ji12)) == 2) = true := beq_iff_eq.mpr c17
               have c17b1 : ((rd x3_1 (ji12)) != 2) = false := bne_eq_false_iff_eq.mpr c17
               clear c17
               (first | rw [c17b0] | (simp only [i64_w, i32_w]; rw [c17b0]) | skip)
               have H' := Aside0.mk H
               clear H
               go_wp2
               go_meet
               case rel => exact ⟨_, (0), (by first | rfl | (simp; done) | (simp [*]; done)), H', ⟨by have := HK1.out; have := HJ6.out; first | omega | exact Nat.le_refl _⟩, ⟨by (with_reducible repeat (first | apply Kd.R_alloc | apply Kd.R_drewN | apply Kd.R_drew)); exact HO_3.out⟩, ⟨by repeat (first | (with_reducible first | exact HB.out | apply below_alloc | apply pw_below_drewN | apply below_drew1) | exact HB.out)⟩⟩
              ·rw [if_neg c17] at H
               have c17b0 : ((rd x3_1 (ji12)) == 2) = false := beq_eq_false_iff_ne.mpr c17
               have c17b1 : ((rd x3_1 (ji12)) != 2) = true := bne_iff_ne.mpr c17
               (first | rw [c17b0] | (simp only [i64_w, i32_w]; rw [c17b0]) | skip)
               by_cases c18 : (rd x3_1 (ji12)) = 1
               ·rw [if_pos c18] at H
                have c18b0 : ((rd x3_1 (ji12)) == 1) = true := beq_iff_eq.mpr c18
                have c18b1 : ((rd x3_1 (ji12)) != 1) = false := bne_eq_false_iff_eq.mpr c18
                clear c18
                have H' := Aside0.mk H
                clear H
                go_wp2
                go_meet
                case rel => exact ⟨_, (0), (by first | rfl | (simp; done) | (simp [*]; done)), H', ⟨by have := HK1.out; have := HJ6.out; first | omega | exact Nat.le_refl _⟩, ⟨by (with_reducible repeat (first | apply Kd.R_alloc | apply Kd.R_drewN | apply Kd.R_drew)); exact HO_3.out⟩, ⟨by repeat (first | (with_reducible first | exact HB.out | apply below_alloc | apply pw_below_drewN | apply below_drew1) | exact HB.out)⟩⟩
               ·rw [if_neg c18] at H
                have c18b0 : ((rd x3_1 (ji12)) == 1) = false := beq_eq_false_iff_ne.mpr c18
                have c18b1 : ((rd x3_1 (ji12)) != 1) = true := bne_iff_ne.mpr c18
                by_cases c19 : (rd x3_1 (ji12)) = 3
                ·rw [if_pos c19] at H
                 have c19b0 : ((rd x3_1 (ji12)) == 3) = true := beq_iff_eq.mpr c19
                 have c19b1 : ((rd x3_1 (ji12)) != 3) = false := bne_eq_false_iff_eq.mpr c19
                 clear c19
                 have H' := Aside0.mk H
                 clear H
                 go_wp2
                 go_meet
                 case rel => exact ⟨_, (0), (by first | rfl | (simp; done) | (simp [*]; done)), H', ⟨by have := HK1.out; have := HJ6.out; first | omega | exact Nat.le_refl _⟩, ⟨by (with_reducible repeat (first | apply Kd.R_alloc | apply Kd.R_drewN | apply Kd.R_drew)); exact HO_3.out⟩, ⟨by repeat (first | (with_reducible first | exact HB.out | apply below_alloc | apply pw_below_drewN | apply below_drew1) | exact HB.out)⟩⟩
                ·rw [if_neg c19] at H
                 have c19b0 : ((rd x3_1 (ji12)) == 3) = false := beq_eq_false_iff_ne.mpr c19
                 have c19b1 : ((rd x3_1 (ji12)) != 3) = true := bne_iff_ne.mpr c19
                 by_cases c20 : (rd x3_1 (ji12)) = 4
                 ·rw [if_pos c20] at H
                  have c20b0 : ((rd x3_1 (ji12)) == 4) = true := beq_iff_eq.mpr c20
                  have c20b1 : ((rd x3_1 (ji12)) != 4) = false := bne_eq_false_iff_eq.mpr c20
                  clear c20
                  have H' := Aside0.mk H
                  clear H
                  go_wp2
                  go_meet
                  case rel => exact ⟨_, (0), (by first | rfl | (simp; done) | (simp [*]; done)), H', ⟨by have := HK1.out; have := HJ6.out; first | omega | exact Nat.le_refl _⟩, ⟨by (with_reducible repeat (first | apply Kd.R_alloc | apply Kd.R_drewN | apply Kd.R_drew)); exact HO_3.out⟩, ⟨by repeat (first | (with_reducible first | exact HB.out | apply below_alloc | apply pw_below_drewN | apply below_drew1) | exact HB.out)⟩⟩
                 ·rw [if_neg c20] at H
                  have c20b0 : ((rd x3_1 (ji12)) == 4) = false := beq_eq_false_iff_ne.mpr c20
                  have c20b1 : ((rd x3_1 (ji12)) != 4) = true := bne_iff_ne.mpr c20
                  by_cases c21 : (rd x3_1 (ji12)) = 6
                  ·rw [if_pos c21] at H
                   have c21b0 : ((rd x3_1 (ji12)) == 6) = true := beq_iff_eq.mpr c21
                   have c21b1 : ((rd x3_1 (ji12)) != 6) = false := bne_eq_false_iff_eq.mpr c21
                   clear c21
                   have H' := Aside0.mk H
                   clear H
                   go_wp2
                   go_meet
                   case rel => exact ⟨_, (0), (by first | rfl | (simp; done) | (simp [*]; done)), H', ⟨by have := HK1.out; have := HJ6.out; first | omega | exact Nat.le_refl _⟩, ⟨by (with_reducible repeat (first | apply Kd.R_alloc | apply Kd.R_drewN | apply Kd.R_drew)); exact HO_3.out⟩, ⟨by repeat (first | (with_reducible first | exact HB.out | apply below_alloc | apply pw_below_drewN | apply below_drew1) | exact HB.out)⟩⟩
                  ·rw [if_neg c21] at H
                   have c21b0 : ((rd x3_1 (ji12)) == 6) = false := beq_eq_false_iff_ne.mpr c21
                   have c21b1 : ((rd x3_1 (ji12)) != 6) = true := bne_iff_ne.mpr c21
                   have H' := Aside0.mk H
                   clear H
                   go_wp2
                   go_meet
                   case rel => exact ⟨_, (((rd_T115 (rd_L3 l0 x9_1) 0).f1)), (by first | rfl | (simp; done) | (simp [*]; done)), H', ⟨by have := HK1.out; have := HJ6.out; first | omega | exact Nat.le_refl _⟩, ⟨by (with_reducible repeat (first | apply Kd.R_alloc | apply Kd.R_drewN | apply Kd.R_drew)); exact HO_3.out⟩, ⟨by repeat (first | (with_reducible first | exact HB.out | apply below_alloc | apply pw_below_drewN | apply below_drew1) | exact HB.out)⟩⟩
             case rest =>
              clear HC15
              try clear c1
              try clear c2
              try clear c2b0
              try clear p2
              try clear q2
              try clear hx2
              try clear qi2
              try clear c3
              try clear c3b0
              try clear c4
              try clear c4b0
              try clear c5
              try clear c5b0
              try clear c5b1
              try clear c6
              try clear c6b0
              try clear c6b1
              try clear p6
              try clear c7
              try clear c8
              try clear c8b0
              try clear c8b1
              try clear c9
              try clear c10
              try clear c13
              try clear c13b0
              try clear c14
              try clear c14b0
              try clear c17
              try clear c17b0
              try clear c17b1
              try clear c18
              try clear c18b0
              try clear c18b1
              try clear c19
              try clear c19b0
              try clear c19b1
              try clear c20
              try clear c20b0
              try clear c20b1
              try clear c21
              try clear c21b0
              try clear c21b1
              try clear hx274_0
              try clear hx275_0
              try clear hx275_1
              try clear hx275_2
              try clear hx275_3
              try clear hx275_4
              try clear hx275_5
              try clear hx279_0
              try clear p2
              try clear p274
              try clear p275
              try clear p279
              try clear p6
              try clear q2
              try clear q274
              try clear q275
              try clear q279
              obtain ⟨kq, x6_14, rfl, HA, HJ14, HO_3, HB⟩ := hcut
              cases kq with
              | zero => exact absurd HA.out (by simp [impl_oClasses.j2])
              | succ kj14 =>
               have H := HA.out
               clear HA
               simp only [impl_oClasses.j2] at H
               obtain ⟨ji22, hji22⟩ : ∃ j_ : Int, (wrap64 (x9_1 + 1)) = j_ := ⟨_, rfl⟩
               replace H : (if 0 ≤ (ji22) then (if (ji22) < (l0.length : Int) then (if 0 < ((rd_L3 l0 (ji22)).length : Int) then (if ((rd_T115 (rd_L3 l0 (ji22)) 0).f1) = 3 then (if x3_1.length < 17592186044416 then (impl_oClasses.l0 kj14 l0 (x3_1 ++ [0]) l0 (l0.length : Int) ji22) else (none)) else (if ((rd_T115 (rd_L3 l0 (ji22)) 0).f1) = 5 then (if x3_1.length < 17592186044416 then (impl_oClasses.l0 kj14 l0 (x3_1 ++ [0]) l0 (l0.length : Int) ji22) else (none)) else (if ((rd_T115 (rd_L3 l0 (ji22)) 0).f1) = 6 then (if x3_1.length < 17592186044416 then (impl_oClasses.l0 kj14 l0 (x3_1 ++ [0]) l0 (l0.length : Int) ji22) else (none)) else (if x3_1.length < 17592186044416 then (impl_oClasses.l0 kj14 l0 (x3_1 ++ [x6_14]) l0 (l0.length : Int) ji22) else (none))))) else (none)) else (none)) else (none)) = some r := by first | (rw [hji22] at H; exact H) | (simp only [hji22] at H ⊢; exact H)
               have hji22w : (IntKind.i64.wrap (x9_1 + 1)) = ji22 := (i64_w _).trans hji22
               by_cases c23 : 0 ≤ (ji22)
               ·rw [if_pos c23] at H
                have c23b0 : decide (0 ≤ (ji22)) = true := decide_eq_true c23
                clear c23
                by_cases c24 : (ji22) < (l0.length : Int)
                ·rw [if_pos c24] at H
                 have c24b0 : decide ((ji22) < (l0.length : Int)) = true := decide_eq_true c24
                 clear c24
                 by_cases c25 : 0 < ((rd_L3 l0 (ji22)).length : Int)
                 ·rw [if_pos c25] at H
                  have c25b0 : decide (0 < ((rd_L3 l0 (ji22)).length : Int)) = true := decide_eq_true c25
                  have c25b1 : decide (0 < (rd_L3 l0 (ji22)).length) = true := decide_eq_true (by omega)
                  clear c25
                  by_cases c26 : ((rd_T115 (rd_L3 l0 (ji22)) 0).f1) = 3
                  ·rw [if_pos c26] at H
                   have c26b0 : (((rd_T115 (rd_L3 l0 (ji22)) 0).f1) == 3) = true := beq_iff_eq.mpr c26
                   have c26b1 : (((rd_T115 (rd_L3 l0 (ji22)) 0).f1) != 3) = false := bne_eq_false_iff_eq.mpr c26
                   clear c26
                   by_cases c27 : x3_1.length < 17592186044416
                   ·rw [if_pos c27] at H
                    have LMc27 := Aside0.mk c27
                    clear c27
                    obtain ⟨y282, hy282⟩ : ∃ y_ : List Int, y_ = (x3_1 ++ [0]) := ⟨_, rfl⟩
                    replace H : (impl_oClasses.l0 kj14 l0 y282 l0 (l0.length : Int) ji22) = some r := by first | (rw [hy282]; with_reducible exact H) | (have H2_ := (Option.bind_some _ _).symm.trans H; rw [hy282]; with_reducible exact H2_) | (have H2_ := (Option.bind_some _ _).symm.trans H; with_reducible exact H2_) | with_reducible exact H | (rw [hy282]; exact H) | exact H
                    have Ny282 := Aside0.mk hy282
                    clear hy282
                    have H' := Aside0.mk H
                    clear H
                    have p280 : 0 ≤ ((ji22) : Int) := of_decide_eq_true (by first | (with_reducible assumption) | assumption)
                    have q280 : (ji22) < (l0.length : Int) := of_decide_eq_true (by first | (with_reducible assumption) | assumption)
                    obtain ⟨ad280, A280_0, c280_0, e280, hx280_0, hl280_0, hi280_0⟩ := at_L3 HR0.out (ji22) p280 q280
                    obtain rfl : ad274 = ad280 := (by injection e280)
                    replace hx280_0 := (HB.out.cell (World.block_lt_of_cell? w _ hx280_0)).trans hx280_0
                    have HR280_0 := Aside0.mk hi280_0
                    have HC280_0 := Aside0.mk hl280_0
                    clear hi280_0 hl280_0
                    replace p280 := eq_true p280
                    replace q280 := eq_true q280
                    have p281 : 0 ≤ (0 : Int) := (by omega)
                    have q281 : 0 < ((rd_L3 l0 (ji22)).length : Int) := of_decide_eq_true (by first | (with_reducible assumption) | assumption)
                    obtain ⟨ad281, e281, hx281_0, hx281_1, hx281_2, hx281_3, hx281_4, hx281_5⟩ := at_T115 HR280_0.out 0 p281 q281
                    cases e281
                    have qi281 : (0 < (rd_L3 l0 (ji22)).length) = True := eq_true (by omega)
                    (try rw [show ((0 : Int)).toNat = 0 from rfl] at hx281_0)
                    (try rw [show 0 * 6 = 0 from rfl] at hx281_0)
                    (try rw [Addr.add_zero'] at hx281_0)
                    (try rw [show ((0 : Int)).toNat = 0 from rfl] at hx281_1)
                    (try rw [show 0 * 6 = 0 from rfl] at hx281_1)
                    (try rw [Addr.add_zero'] at hx281_1)
                    (try rw [show ((0 : Int)).toNat = 0 from rfl] at hx281_2)
                    (try rw [show 0 * 6 = 0 from rfl] at hx281_2)
                    (try rw [Addr.add_zero'] at hx281_2)
                    (try rw [show ((0 : Int)).toNat = 0 from rfl] at hx281_3)
                    (try rw [show 0 * 6 = 0 from rfl] at hx281_3)
                    (try rw [Addr.add_zero'] at hx281_3)
                    (try rw [show ((0 : Int)).toNat = 0 from rfl] at hx281_4)
                    (try rw [show 0 * 6 = 0 from rfl] at hx281_4)
                    (try rw [Addr.add_zero'] at hx281_4)
                    (try rw [show ((0 : Int)).toNat = 0 from rfl] at hx281_5)
                    (try rw [show 0 * 6 = 0 from rfl] at hx281_5)
                    (try rw [Addr.add_zero'] at hx281_5)
                    replace hx281_0 := (HB.out.cell (World.block_lt_of_cell? w _ hx281_0)).trans hx281_0
                    replace hx281_1 := (HB.out.cell (World.block_lt_of_cell? w _ hx281_1)).trans hx281_1
                    replace hx281_2 := (HB.out.cell (World.block_lt_of_cell? w _ hx281_2)).trans hx281_2
                    replace hx281_3 := (HB.out.cell (World.block_lt_of_cell? w _ hx281_3)).trans hx281_3
                    replace hx281_4 := (HB.out.cell (World.block_lt_of_cell? w _ hx281_4)).trans hx281_4
                    replace hx281_5 := (HB.out.cell (World.block_lt_of_cell? w _ hx281_5)).trans hx281_5
                    replace p281 := eq_true p281
                    replace q281 := eq_true q281
                    go_wp2_with (first | ((with_reducible refine gate_builtin (b := .append) (xs := #[.tmp 52, .tmp 54]) rfl ?_); (try (refine gate_guard (by rfl) ?_; dsimp only)); at_builtin; refine Kd.R_append (Kd.int .i64) (w0 := w) w.heap.size rfl (.tmp 52) (.tmp 54) 24 2 (.int .i64 0) 8 rfl Try.underlying24 info2 rfl (by decide) (by omega) (.slice (some ad279) x3_1.length co16) x3_1 0 [.int .i64 0] (fun _ => True) (fun _ => False) rfl rfl ?aP (fun _ hk => hk.elim) ?aF ?aO ?aB ?aS ?aL ?_; (case aP => exact rfl); (case aB => exact (by repeat (first | (with_reducible first | exact HB.out | apply below_alloc | apply pw_below_drewN | apply below_drew1) | exact HB.out))); (case aF => exact (fun _ _ => trivial)); (case aO => exact (by (with_reducible repeat (first | apply Kd.R_alloc | apply Kd.R_drewN | apply Kd.R_drew)); exact HO_3.out)); (case aS => exact (below_size (by repeat (first | (with_reducible first | exact HB.out | apply below_alloc | apply pw_below_drewN | apply below_drew1) | exact HB.out)))); (case aL => have := LMc27.out; omega); intro v283 w28 ho hb hg hat; rw [← Ny282.out] at ho; have n0_ := Aside0.mk (hb); have n1_ := Aside0.mk (ho); clear HB; clear HO_3; have HB := n0_; have HO284 := n1_; clear n0_ n1_; clear ho hb hg hat))
                    go_roundg kj14
                    case measure => have := HK1.out; have := HJ6.out; have := HJ14.out; omega
                    case rel => exact ⟨(y282), (ji22), (by first | rfl | (simp; done) | (simp only [← hji22] <;> (first | rfl | simp)) | (simp [*]; done)), H', ⟨by have := HK1.out; have := HJ6.out; have := HJ14.out; omega⟩, ⟨by (with_reducible repeat (first | apply Kd.R_alloc | apply Kd.R_drewN | apply Kd.R_drew)); exact HO284.out⟩, ⟨by repeat (first | (with_reducible first | exact HB.out | apply below_alloc | apply pw_below_drewN | apply below_drew1) | exact HB.out)⟩⟩
                   ·rw [if_neg c27] at H
                    exact absurd H (by simp)
                  ·rw [if_neg c26] at H
                   have c26b0 : (((rd_T115 (rd_L3 l0 (ji22)) 0).f1) == 3) = false := beq_eq_false_iff_ne.mpr c26
                   have c26b1 : (((rd_T115 (rd_L3 l0 (ji22)) 0).f1) != 3) = true := bne_iff_ne.mpr c26
                   by_cases c29 : ((rd_T115 (rd_L3 l0 (ji22)) 0).f1) = 5
                   ·rw [if_pos c29] at H
                    have c29b0 : (((rd_T115 (rd_L3 l0 (ji22)) 0).f1) == 5) = true := beq_iff_eq.mpr c29
                    have c29b1 : (((rd_T115 (rd_L3 l0 (ji22)) 0).f1) != 5) = false := bne_eq_false_iff_eq.mpr c29
                    clear c29
                    by_cases c30 : x3_1.length < 17592186044416
                    ·rw [if_pos c30] at H
                     have LMc30 := Aside0.mk c30
                     clear c30
                     obtain ⟨y285, hy285⟩ : ∃ y_ : List Int, y_ = (x3_1 ++ [0]) := ⟨_, rfl⟩
                     replace H : (impl_oClasses.l0 kj14 l0 y285 l0 (l0.length : Int) ji22) = some r := by first | (rw [hy285]; with_reducible exact H) | (have H2_ := (Option.bind_some _ _).symm.trans H; rw [hy285]; with_reducible exact H2_) | (have H2_ := (Option.bind_some _ _).symm.trans H; with_reducible exact H2_) | with_reducible exact H | (rw [hy285]; exact H) | exact H
                     have Ny285 := Aside0.mk hy285
                     clear hy285
                     have H' := Aside0.mk H
                     clear H
                     have p280 : 0 ≤ ((ji22) : Int) := of_decide_eq_true (by first | (with_reducible assumption) | assumption)
                     have q280 : (ji22) < (l0.length : Int) := of_decide_eq_true (by first | (with_reducible assumption) | assumption)
                     obtain ⟨ad280, A280_0, c280_0, e280, hx280_0, hl280_0, hi280_0⟩ := at_L3 HR0.out (ji22) p280 q280
                     obtain rfl : ad274 = ad280 := (by injection e280)
                     replace hx280_0 := (HB.out.cell (World.block_lt_of_cell? w _ hx280_0)).trans hx280_0
                     have HR280_0 := Aside0.mk hi280_0
                     have HC280_0 := Aside0.mk hl280_0
                     clear hi280_0 hl280_0
                     replace p280 := eq_true p280
                     replace q280 := eq_true q280
                     have p281 : 0 ≤ (0 : Int) := (by omega)
                     have q281 : 0 < ((rd_L3 l0 (ji22)).length : Int) := of_decide_eq_true (by first | (with_reducible assumption) | assumption)
                     obtain ⟨ad281, e281, hx281_0, hx281_1, hx281_2, hx281_3, hx281_4, hx281_5⟩ := at_T115 HR280_0.out 0 p281 q281
                     cases e281
                     have qi281 : (0 < (rd_L3 l0 (ji22)).length) = True := eq_true (by omega)
                     (try rw [show ((0 : Int)).toNat = 0 from rfl] at hx281_0)
                     (try rw [show 0 * 6 = 0 from rfl] at hx281_0)
                     (try rw [Addr.add_zero'] at hx281_0)
                     (try rw [show ((0 : Int)).toNat = 0 from rfl] at hx281_1)
                     (try rw [show 0 * 6 = 0 from rfl] at hx281_1)
                     (try rw [Addr.add_zero'] at hx281_1)
                     (try rw [show ((0 : Int)).toNat = 0 from rfl] at hx281_2)
                     (try rw [show 0 * 6 = 0 from rfl] at hx281_2)
                     (try rw [Addr.add_zero'] at hx281_2)
                     (try rw [show ((0 : Int)).toNat = 0 from rfl] at hx281_3)
                     (try rw [show 0 * 6 = 0 from rfl] at hx281_3)
                     (try rw [Addr.add_zero'] at hx281_3)
                     (try rw [show ((0 : Int)).toNat = 0 from rfl] at hx281_4)
                     (try rw [show 0 * 6 = 0 from rfl] at hx281_4)
                     (try rw [Addr.add_zero'] at hx281_4)
                     (try rw [show ((0 : Int)).toNat = 0 from rfl] at hx281_5)
                     (try rw [show 0 * 6 = 0 from rfl] at hx281_5)
                     (try rw [Addr.add_zero'] at hx281_5)
                     replace hx281_0 := (HB.out.cell (World.block_lt_of_cell? w _ hx281_0)).trans hx281_0
                     replace hx281_1 := (HB.out.cell (World.block_lt_of_cell? w _ hx281_1)).trans hx281_1
                     replace hx281_2 := (HB.out.cell (World.block_lt_of_cell? w _ hx281_2)).trans hx281_2
                     replace hx281_3 := (HB.out.cell (World.block_lt_of_cell? w _ hx281_3)).trans hx281_3
                     replace hx281_4 := (HB.out.cell (World.block_lt_of_cell? w _ hx281_4)).trans hx281_4
                     replace hx281_5 := (HB.out.cell (World.block_lt_of_cell? w _ hx281_5)).trans hx281_5
                     replace p281 := eq_true p281
                     replace q281 := eq_true q281
                     go_wp2_with (first | ((with_reducible refine gate_builtin (b := .append) (xs := #[.tmp 52, .tmp 54]) rfl ?_); (try (refine gate_guard (by rfl) ?_; dsimp only)); at_builtin; refine Kd.R_append (Kd.int .i64) (w0 := w) w.heap.size rfl (.tmp 52) (.tmp 54) 24 2 (.int .i64 0) 8 rfl Try.underlying24 info2 rfl (by decide) (by omega) (.slice (some ad279) x3_1.length co16) x3_1 0 [.int .i64 0] (fun _ => True) (fun _ => False) rfl rfl ?aP (fun _ hk => hk.elim) ?aF ?aO ?aB ?aS ?aL ?_; (case aP => exact rfl); (case aB => exact (by repeat (first | (with_reducible first | exact HB.out | apply below_alloc | apply pw_below_drewN | apply below_drew1) | exact HB.out))); (case aF => exact (fun _ _ => trivial)); (case aO => exact (by (with_reducible repeat (first | apply Kd.R_alloc | apply Kd.R_drewN | apply Kd.R_drew)); exact HO_3.out)); (case aS => exact (below_size (by repeat (first | (with_reducible first | exact HB.out | apply below_alloc | apply pw_below_drewN | apply below_drew1) | exact HB.out)))); (case aL => have := LMc30.out; omega); intro v286 w31 ho hb hg hat; rw [← Ny285.out] at ho; have n0_ := Aside0.mk (hb); have n1_ := Aside0.mk (ho); clear HB; clear HO_3; have HB := n0_; have HO287 := n1_; clear n0_ n1_; clear ho hb hg hat))
                     go_roundg kj14
                     case measure => have := HK1.out; have := HJ6.out; have := HJ14.out; omega
                     case rel => exact ⟨(y285), (ji22), (by first | rfl | (simp; done) | (simp only [← hji22] <;> (first | rfl | simp)) | (simp [*]; done)), H', ⟨by have := HK1.out; have := HJ6.out; have := HJ14.out; omega⟩, ⟨by (with_reducible repeat (first | apply Kd.R_alloc | apply Kd.R_drewN | apply Kd.R_drew)); exact HO287.out⟩, ⟨by repeat (first | (with_reducible first | exact HB.out | apply below_alloc | apply pw_below_drewN | apply below_drew1) | exact HB.out)⟩⟩
                    ·rw [if_neg c30] at H
                     exact absurd H (by simp)
                   ·rw [if_neg c29] at H
                    have c29b0 : (((rd_T115 (rd_L3 l0 (ji22)) 0).f1) == 5) = false := beq_eq_false_iff_ne.mpr c29
                    have c29b1 : (((rd_T115 (rd_L3 l0 (ji22)) 0).f1) != 5) = true := bne_iff_ne.mpr c29
                    by_cases c32 : ((rd_T115 (rd_L3 l0 (ji22)) 0).f1) = 6
                    ·rw [if_pos c32] at H
                     have c32b0 : (((rd_T115 (rd_L3 l0 (ji22)) 0).f1) == 6) = true := beq_iff_eq.mpr c32
                     have c32b1 : (((rd_T115 (rd_L3 l0 (ji22)) 0).f1) != 6) = false := bne_eq_false_iff_eq.mpr c32
                     clear c32
                     by_cases c33 : x3_1.length < 17592186044416
                     ·rw [if_pos c33] at H
                      have LMc33 := Aside0.mk c33
                      clear c33
                      obtain ⟨y288, hy288⟩ : ∃ y_ : List Int, y_ = (x3_1 ++ [0]) := ⟨_, rfl⟩
                      replace H : (impl_oClasses.l0 kj14 l0 y288 l0 (l0.length : Int) ji22) = some r := by first | (rw [hy288]; with_reducible exact H) | (have H2_ := (Option.bind_some _ _).symm.trans H; rw [hy288]; with_reducible exact H2_) | (have H2_ := (Option.bind_some _ _).symm.trans H; with_reducible exact H2_) | with_reducible exact H | (rw [hy288]; exact H) | exact H
                      have Ny288 := Aside0.mk hy288
                      clear hy288
                      have H' := Aside0.mk H
                      clear H
                      have p280 : 0 ≤ ((ji22) : Int) := of_decide_eq_true (by first | (with_reducible assumption) | assumption)
                      have q280 : (ji22) < (l0.length : Int) := of_decide_eq_true (by first | (with_reducible assumption) | assumption)
                      obtain ⟨ad280, A280_0, c280_0, e280, hx280_0, hl280_0, hi280_0⟩ := at_L3 HR0.out (ji22) p280 q280
                      obtain rfl : ad274 = ad280 := (by injection e280)
                      replace hx280_0 := (HB.out.cell (World.block_lt_of_cell? w _ hx280_0)).trans hx280_0
                      have HR280_0 := Aside0.mk hi280_0
                      have HC280_0 := Aside0.mk hl280_0
                      clear hi280_0 hl280_0
                      replace p280 := eq_true p280
                      replace q280 := eq_true q280
                      have p281 : 0 ≤ (0 : Int) := (by omega)
                      have q281 : 0 < ((rd_L3 l0 (ji22)).length : Int) := of_decide_eq_true (by first | (with_reducible assumption) | assumption)
                      obtain ⟨ad281, e281, hx281_0, hx281_1, hx281_2, hx281_3, hx281_4, hx281_5⟩ := at_T115 HR280_0.out 0 p281 q281
                      cases e281
                      have qi281 : (0 < (rd_L3 l0 (ji22)).length) = True := eq_true (by omega)
                      (try rw [show ((0 : Int)).toNat = 0 from rfl] at hx281_0)
                      (try rw [show 0 * 6 = 0 from rfl] at hx281_0)
                      (try rw [Addr.add_zero'] at hx281_0)
                      (try rw [show ((0 : Int)).toNat = 0 from rfl] at hx281_1)
                      (try rw [show 0 * 6 = 0 from rfl] at hx281_1)
                      (try rw [Addr.add_zero'] at hx281_1)
                      (try rw [show ((0 : Int)).toNat = 0 from rfl] at hx281_2)
                      (try rw [show 0 * 6 = 0 from rfl] at hx281_2)
                      (try rw [Addr.add_zero'] at hx281_2)
                      (try rw [show ((0 : Int)).toNat = 0 from rfl] at hx281_3)
                      (try rw [show 0 * 6 = 0 from rfl] at hx281_3)
                      (try rw [Addr.add_zero'] at hx281_3)
                      (try rw [show ((0 : Int)).toNat = 0 from rfl] at hx281_4)
                      (try rw [show 0 * 6 = 0 from rfl] at hx281_4)
                      (try rw [Addr.add_zero'] at hx281_4)
                      (try rw [show ((0 : Int)).toNat = 0 from rfl] at hx281_5)
                      (try rw [show 0 * 6 = 0 from rfl] at hx281_5)
                      (try rw [Addr.add_zero'] at hx281_5)
                      replace hx281_0 := (HB.out.cell (World.block_lt_of_cell? w _ hx281_0)).trans hx281_0
                      replace hx281_1 := (HB.out.cell (World.block_lt_of_cell? w _ hx281_1)).trans hx281_1
                      replace hx281_2 := (HB.out.cell (World.block_lt_of_cell? w _ hx281_2)).trans hx281_2
                      replace hx281_3 := (HB.out.cell (World.block_lt_of_cell? w _ hx281_3)).trans hx281_3
                      replace hx281_4 := (HB.out.cell (World.block_lt_of_cell? w _ hx281_4)).trans hx281_4
                      replace hx281_5 := (HB.out.cell (World.block_lt_of_cell? w _ hx281_5)).trans hx281_5
                      replace p281 := eq_true p281
                      replace q281 := eq_true q281
                      go_wp2_with (first | ((with_reducible refine gate_builtin (b := .append) (xs := #[.tmp 52, .tmp 54]) rfl ?_); (try (refine gate_guard (by rfl) ?_; dsimp only)); at_builtin; refine Kd.R_append (Kd.int .i64) (w0 := w) w.heap.size rfl (.tmp 52) (.tmp 54) 24 2 (.int .i64 0) 8 rfl Try.underlying24 info2 rfl (by decide) (by omega) (.slice (some ad279) x3_1.length co16) x3_1 0 [.int .i64 0] (fun _ => True) (fun _ => False) rfl rfl ?aP (fun _ hk => hk.elim) ?aF ?aO ?aB ?aS ?aL ?_; (case aP => exact rfl); (case aB => exact (by repeat (first | (with_reducible first | exact HB.out | apply below_alloc | apply pw_below_drewN | apply below_drew1) | exact HB.out))); (case aF => exact (fun _ _ => trivial)); (case aO => exact (by (with_reducible repeat (first | apply Kd.R_alloc | apply Kd.R_drewN | apply Kd.R_drew)); exact HO_3.out)); (case aS => exact (below_size (by repeat (first | (with_reducible first | exact HB.out | apply below_alloc | apply pw_below_drewN | apply below_drew1) | exact HB.out)))); (case aL => have := LMc33.out; omega); intro v289 w34 ho hb hg hat; rw [← Ny288.out] at ho; have n0_ := Aside0.mk (hb); have n1_ := Aside0.mk (ho); clear HB; clear HO_3; have HB := n0_; have HO290 := n1_; clear n0_ n1_; clear ho hb hg hat))
                      go_roundg kj14
                      case measure => have := HK1.out; have := HJ6.out; have := HJ14.out; omega
                      case rel => exact ⟨(y288), (ji22), (by first | rfl | (simp; done) | (simp only [← hji22] <;> (first | rfl | simp)) | (simp [*]; done)), H', ⟨by have := HK1.out; have := HJ6.out; have := HJ14.out; omega⟩, ⟨by (with_reducible repeat (first | apply Kd.R_alloc | apply Kd.R_drewN | apply Kd.R_drew)); exact HO290.out⟩, ⟨by repeat (first | (with_reducible first | exact HB.out | apply below_alloc | apply pw_below_drewN | apply below_drew1) | exact HB.out)⟩⟩
                     ·rw [if_neg c33] at H
                      exact absurd H (by simp)
                    ·rw [if_neg c32] at H
                     have c32b0 : (((rd_T115 (rd_L3 l0 (ji22)) 0).f1) == 6) = false := beq_eq_false_iff_ne.mpr c32
                     have c32b1 : (((rd_T115 (rd_L3 l0 (ji22)) 0).f1) != 6) = true := bne_iff_ne.mpr c32
                     by_cases c35 : x3_1.length < 17592186044416
                     ·rw [if_pos c35] at H
                      have LMc35 := Aside0.mk c35
                      clear c35
                      obtain ⟨y291, hy291⟩ : ∃ y_ : List Int, y_ = (x3_1 ++ [x6_14]) := ⟨_, rfl⟩
                      replace H : (impl_oClasses.l0 kj14 l0 y291 l0 (l0.length : Int) ji22) = some r := by first | (rw [hy291]; with_reducible exact H) | (have H2_ := (Option.bind_some _ _).symm.trans H; rw [hy291]; with_reducible exact H2_) | (have H2_ := (Option.bind_some _ _).symm.trans H; with_reducible exact H2_) | with_reducible exact H | (rw [hy291]; exact H) | exact H
                      have Ny291 := Aside0.mk hy291
                      clear hy291
                      have H' := Aside0.mk H
                      clear H
                      have p280 : 0 ≤ ((ji22) : Int) := of_decide_eq_true (by first | (with_reducible assumption) | assumption)
                      have q280 : (ji22) < (l0.length : Int) := of_decide_eq_true (by first | (with_reducible assumption) | assumption)
                      obtain ⟨ad280, A280_0, c280_0, e280, hx280_0, hl280_0, hi280_0⟩ := at_L3 HR0.out (ji22) p280 q280
                      obtain rfl : ad274 = ad280 := (by injection e280)
                      replace hx280_0 := (HB.out.cell (World.block_lt_of_cell? w _ hx280_0)).trans hx280_0
                      have HR280_0 := Aside0.mk hi280_0
                      have HC280_0 := Aside0.mk hl280_0
                      clear hi280_0 hl280_0
                      replace p280 := eq_true p280
                      replace q280 := eq_true q280
                      have p281 : 0 ≤ (0 : Int) := (by omega)
                      have q281 : 0 < ((rd_L3 l0 (ji22)).length : Int) := of_decide_eq_true (by first | (with_reducible assumption) | assumption)
                      obtain ⟨ad281, e281, hx281_0, hx281_1, hx281_2, hx281_3, hx281_4, hx281_5⟩ := at_T115 HR280_0.out 0 p281 q281
                      cases e281
                      have qi281 : (0 < (rd_L3 l0 (ji22)).length) = True := eq_true (by omega)
                      (try rw [show ((0 : Int)).toNat = 0 from rfl] at hx281_0)
                      (try rw [show 0 * 6 = 0 from rfl] at hx281_0)
                      (try rw [Addr.add_zero'] at hx281_0)
                      (try rw [show ((0 : Int)).toNat = 0 from rfl] at hx281_1)
                      (try rw [show 0 * 6 = 0 from rfl] at hx281_1)
                      (try rw [Addr.add_zero'] at hx281_1)
                      (try rw [show ((0 : Int)).toNat = 0 from rfl] at hx281_2)
                      (try rw [show 0 * 6 = 0 from rfl] at hx281_2)
                      (try rw [Addr.add_zero'] at hx281_2)
                      (try rw [show ((0 : Int)).toNat = 0 from rfl] at hx281_3)
                      (try rw [show 0 * 6 = 0 from rfl] at hx281_3)
                      (try rw [Addr.add_zero'] at hx281_3)
                      (try rw [show ((0 : Int)).toNat = 0 from rfl] at hx281_4)
                      (try rw [show 0 * 6 = 0 from rfl] at hx281_4)
                      (try rw [Addr.add_zero'] at hx281_4)
                      (try rw [show ((0 : Int)).toNat = 0 from rfl] at hx281_5)
                      (try rw [show 0 * 6 = 0 from rfl] at hx281_5)
                      (try rw [Addr.add_zero'] at hx281_5)
                      replace hx281_0 := (HB.out.cell (World.block_lt_of_cell? w _ hx281_0)).trans hx281_0
                      replace hx281_1 := (HB.out.cell (World.block_lt_of_cell? w _ hx281_1)).trans hx281_1
                      replace hx281_2 := (HB.out.cell (World.block_lt_of_cell? w _ hx281_2)).trans hx281_2
                      replace hx281_3 := (HB.out.cell (World.block_lt_of_cell? w _ hx281_3)).trans hx281_3
                      replace hx281_4 := (HB.out.cell (World.block_lt_of_cell? w _ hx281_4)).trans hx281_4
                      replace hx281_5 := (HB.out.cell (World.block_lt_of_cell? w _ hx281_5)).trans hx281_5
                      replace p281 := eq_true p281
                      replace q281 := eq_true q281
                      go_wp2_with (first | ((with_reducible refine gate_builtin (b := .append) (xs := #[.tmp 52, .tmp 54]) rfl ?_); (try (refine gate_guard (by rfl) ?_; dsimp only)); at_builtin; refine Kd.R_append (Kd.int .i64) (w0 := w) w.heap.size rfl (.tmp 52) (.tmp 54) 24 2 (.int .i64 0) 8 rfl Try.underlying24 info2 rfl (by decide) (by omega) (.slice (some ad279) x3_1.length co16) x3_1 x6_14 [.int .i64 x6_14] (fun _ => True) (fun _ => False) rfl rfl ?aP (fun _ hk => hk.elim) ?aF ?aO ?aB ?aS ?aL ?_; (case aP => exact rfl); (case aB => exact (by repeat (first | (with_reducible first | exact HB.out | apply below_alloc | apply pw_below_drewN | apply below_drew1) | exact HB.out))); (case aF => exact (fun _ _ => trivial)); (case aO => exact (by (with_reducible repeat (first | apply Kd.R_alloc | apply Kd.R_drewN | apply Kd.R_drew)); exact HO_3.out)); (case aS => exact (below_size (by repeat (first | (with_reducible first | exact HB.out | apply below_alloc | apply pw_below_drewN | apply below_drew1) | exact HB.out)))); (case aL => have := LMc35.out; omega); intro v292 w36 ho hb hg hat; rw [← Ny291.out] at ho; have n0_ := Aside0.mk (hb); have n1_ := Aside0.mk (ho); clear HB; clear HO_3; have HB := n0_; have HO293 := n1_; clear n0_ n1_; clear ho hb hg hat))
                      go_roundg kj14
                      case measure => have := HK1.out; have := HJ6.out; have := HJ14.out; omega
                      case rel => exact ⟨(y291), (ji22), (by first | rfl | (simp; done) | (simp only [← hji22] <;> (first | rfl | simp)) | (simp [*]; done)), H', ⟨by have := HK1.out; have := HJ6.out; have := HJ14.out; omega⟩, ⟨by (with_reducible repeat (first | apply Kd.R_alloc | apply Kd.R_drewN | apply Kd.R_drew)); exact HO293.out⟩, ⟨by repeat (first | (with_reducible first | exact HB.out | apply below_alloc | apply pw_below_drewN | apply below_drew1) | exact HB.out)⟩⟩
                     ·rw [if_neg c35] at H
                      exact absurd H (by simp)
                 ·rw [if_neg c25] at H
                  exact absurd H (by simp)
                ·rw [if_neg c24] at H
                 exact absurd H (by simp)
               ·rw [if_neg c23] at H
                exact absurd H (by simp)
            ·rw [if_neg c14] at H
             exact absurd H (by simp)
           ·rw [if_neg c13] at H
            exact absurd H (by simp)
       ·rw [if_neg c6] at H
        have c6b0 : (((rd_T115 (rd_L3 l0 x9_1) 0).f1) == 2) = false := beq_eq_false_iff_ne.mpr c6
        have c6b1 : (((rd_T115 (rd_L3 l0 x9_1) 0).f1) != 2) = true := bne_iff_ne.mpr c6
        by_cases c37 : x3_1.length < 17592186044416
        ·rw [if_pos c37] at H
         have LMc37 := Aside0.mk c37
         clear c37
         obtain ⟨y294, hy294⟩ : ∃ y_ : List Int, y_ = (x3_1 ++ [(rd_T115 (rd_L3 l0 x9_1) 0).f1]) := ⟨_, rfl⟩
         replace H : (impl_oClasses.l0 k1 l0 y294 l0 (l0.length : Int) (wrap64 (x9_1 + 1))) = some r := by first | (rw [hy294]; with_reducible exact H) | (have H2_ := (Option.bind_some _ _).symm.trans H; rw [hy294]; with_reducible exact H2_) | (have H2_ := (Option.bind_some _ _).symm.trans H; with_reducible exact H2_) | with_reducible exact H | (rw [hy294]; exact H) | exact H
         have Ny294 := Aside0.mk hy294
         clear hy294
         have H' := Aside0.mk H
         clear H
         have p274 : 0 ≤ (x9_1 : Int) := of_decide_eq_true (by first | (with_reducible assumption) | assumption)
         have q274 : x9_1 < (l0.length : Int) := of_decide_eq_true (by first | (with_reducible assumption) | assumption)
         obtain ⟨ad274, A274_0, c274_0, e274, hx274_0, hl274_0, hi274_0⟩ := at_L3 HR0.out x9_1 p274 q274
         cases e274
         replace hx274_0 := (HB.out.cell (World.block_lt_of_cell? w _ hx274_0)).trans hx274_0
         have HR274_0 := Aside0.mk hi274_0
         have HC274_0 := Aside0.mk hl274_0
         clear hi274_0 hl274_0
         replace p274 := eq_true p274
         replace q274 := eq_true q274
         have p275 : 0 ≤ (0 : Int) := (by omega)
         have q275 : 0 < ((rd_L3 l0 x9_1).length : Int) := of_decide_eq_true (by first | (with_reducible assumption) | assumption)
         obtain ⟨ad275, e275, hx275_0, hx275_1, hx275_2, hx275_3, hx275_4, hx275_5⟩ := at_T115 HR274_0.out 0 p275 q275
         cases e275
         have qi275 : (0 < (rd_L3 l0 x9_1).length) = True := eq_true (by omega)
         (try rw [show ((0 : Int)).toNat = 0 from rfl] at hx275_0)
         (try rw [show 0 * 6 = 0 from rfl] at hx275_0)
         (try rw [Addr.add_zero'] at hx275_0)
         (try rw [show ((0 : Int)).toNat = 0 from rfl] at hx275_1)
         (try rw [show 0 * 6 = 0 from rfl] at hx275_1)
         (try rw [Addr.add_zero'] at hx275_1)
         (try rw [show ((0 : Int)).toNat = 0 from rfl] at hx275_2)
         (try rw [show 0 * 6 = 0 from rfl] at hx275_2)
         (try rw [Addr.add_zero'] at hx275_2)
         (try rw [show ((0 : Int)).toNat = 0 from rfl] at hx275_3)
         (try rw [show 0 * 6 = 0 from rfl] at hx275_3)
         (try rw [Addr.add_zero'] at hx275_3)
         (try rw [show ((0 : Int)).toNat = 0 from rfl] at hx275_4)
         (try rw [show 0 * 6 = 0 from rfl] at hx275_4)
         (try rw [Addr.add_zero'] at hx275_4)
         (try rw [show ((0 : Int)).toNat = 0 from rfl] at hx275_5)
         (try rw [show 0 * 6 = 0 from rfl] at hx275_5)
         (try rw [Addr.add_zero'] at hx275_5)
         replace hx275_0 := (HB.out.cell (World.block_lt_of_cell? w _ hx275_0)).trans hx275_0
         replace hx275_1 := (HB.out.cell (World.block_lt_of_cell? w _ hx275_1)).trans hx275_1
         replace hx275_2 := (HB.out.cell (World.block_lt_of_cell? w _ hx275_2)).trans hx275_2
         replace hx275_3 := (HB.out.cell (World.block_lt_of_cell? w _ hx275_3)).trans hx275_3
         replace hx275_4 := (HB.out.cell (World.block_lt_of_cell? w _ hx275_4)).trans hx275_4
         replace hx275_5 := (HB.out.cell (World.block_lt_of_cell? w _ hx275_5)).trans hx275_5
         replace p275 := eq_true p275
         replace q275 := eq_true q275
         go_wp2_with (first | ((with_reducible refine gate_builtin (b := .append) (xs := #[.tmp 52, .tmp 54]) rfl ?_); (try (refine gate_guard (by rfl) ?_; dsimp only)); at_builtin; refine Kd.R_append (Kd.int .i64) (w0 := w) w.heap.size rfl (.tmp 52) (.tmp 54) 24 2 (.int .i64 0) 8 rfl Try.underlying24 info2 rfl (by decide) (by omega) u3 x3_1 ((rd_T115 (rd_L3 l0 x9_1) 0).f1) [.int .i64 ((rd_T115 (rd_L3 l0 x9_1) 0).f1)] (fun _ => True) (fun _ => False) rfl rfl ?aP (fun _ hk => hk.elim) ?aF ?aO ?aB ?aS ?aL ?_; (case aP => exact rfl); (case aB => exact (by repeat (first | (with_reducible first | exact HB.out | apply below_alloc | apply pw_below_drewN | apply below_drew1) | exact HB.out))); (case aF => exact (fun _ _ => trivial)); (case aO => exact (by (with_reducible repeat (first | apply Kd.R_alloc | apply Kd.R_drewN | apply Kd.R_drew)); exact HO_3.out)); (case aS => exact (below_size (by repeat (first | (with_reducible first | exact HB.out | apply below_alloc | apply pw_below_drewN | apply below_drew1) | exact HB.out)))); (case aL => have := LMc37.out; omega); intro v295 w38 ho hb hg hat; rw [← Ny294.out] at ho; have n0_ := Aside0.mk (hb); have n1_ := Aside0.mk (ho); clear HB; clear HO_3; have HB := n0_; have HO296 := n1_; clear n0_ n1_; clear ho hb hg hat))
         go_roundg k1
         case measure => have := HK1.out; omega
         case rel => exact ⟨(y294), (wrap64 (x9_1 + 1)), (by first | rfl | (simp; done) | (simp [*]; done)), H', ⟨by have := HK1.out; omega⟩, ⟨by (with_reducible repeat (first | apply Kd.R_alloc | apply Kd.R_drewN | apply Kd.R_drew)); exact HO296.out⟩, ⟨by repeat (first | (with_reducible first | exact HB.out | apply below_alloc | apply pw_below_drewN | apply below_drew1) | exact HB.out)⟩⟩
        ·rw [if_neg c37] at H
         exact absurd H (by simp)
      ·rw [if_neg c5] at H
       exact absurd H (by simp)
     ·rw [if_neg c4] at H
      exact absurd H (by simp)
    ·rw [if_neg c3] at H
     exact absurd H (by simp)
   ·rw [if_neg c2] at H
    have c2b0 : decide (x9_1 < (l0.length : Int)) = false := decide_eq_false c2
    clear c2
    obtain rfl := Option.some.inj H
    go_wp2
    go_ret
    exact ⟨_, by first | rfl | (simp [errW_none, errW_some] <;> rfl) | (simp [*, errW_none, errW_some] <;> rfl), by (with_reducible repeat (first | apply Kd.R_alloc | apply Kd.R_drewN | apply Kd.R_drew)); exact HO_3.out, by repeat (first | (with_reducible first | exact HB.out | apply below_alloc | apply pw_below_drewN | apply below_drew1) | exact HB.out)⟩

end Go.Proofs.Ytgfifmbbjoocgaa.PFnExactClasses
