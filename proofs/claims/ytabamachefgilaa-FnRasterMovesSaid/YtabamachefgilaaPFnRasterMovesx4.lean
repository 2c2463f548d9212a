-- Written by this session's program over the kit's printer (wip/gen/gp.py): Lean checks it.
import Derived.Test.YtabamachefgilaaPFnRasterMovesx0
import Derived.Test.YtabamachefgilaaPFnRasterMovesx3
namespace Go.Proofs.Ytabamachefgilaa.PFnRasterMoves
open Go.RowKit Go.Proofs.YtabamachefgilaaW.PrintWords Go.Proofs.YtabamachefgilaaW.PrintLast Go.Proofs.YtabamachefgilaaW.PrintMore
attribute [local go_sem] max2_int min2_int max_two min_two max_three min_three max_four min_four   -- for this text's walks alone
set_option linter.unusedVariables false
set_option linter.unusedSimpArgs false

/-! ### impl_Raster: function 34 -/
mutual
def impl_Raster.j0 : Nat → List (S57) → Int → Int → Int → Bool → Option (List ByteArray)
  | 0, _, _, _, _, _ => none
  | k + 1, x0, x1, x2, x3, x44 => if x44 = true then (some ([] : List ByteArray)) else (impl_Raster.l0 k x0 x1 x2 ([] : List ByteArray) x3 0)
def impl_Raster.l0 : Nat → List (S57) → Int → Int → List ByteArray → Int → Int → Option (List ByteArray)
  | 0, _, _, _, _, _, _ => none
  | k + 1, x0, x1, x2, x9, x45, x46 => if x46 < x45 then (if 0 ≤ x2 then (if (x2 : Int).toNat ≤ 281474976710656 then (impl_Raster.l1 k x0 x1 x2 x9 x46 (List.replicate (x2 : Int).toNat 0) x45 x46 x2 0) else (none)) else (none)) else (some x9)
def impl_Raster.l1 : Nat → List (S57) → Int → Int → List ByteArray → Int → List Int → Int → Int → Int → Int → Option (List ByteArray)
  | 0, _, _, _, _, _, _, _, _, _, _ => none
  | k + 1, x0, x1, x2, x9, x10, x11, x45, x46, x51, x52 => if x52 < x51 then (if 0 ≤ x52 then (if x52 < (x11.length : Int) then (impl_Raster.l2 k x0 x1 x2 x9 x10 (x11.set (x52 : Int).toNat 32) x52 (wrap64 ((wrap64 (x52 * x1)) + (wrap64 (Int.tdiv x1 2)))) (wrap64 ((wrap64 (x10 * x1)) + (wrap64 (Int.tdiv x1 2)))) (wrap64 ((x0.length : Int) - 1)) x45 x46 x51 x52) else (none)) else (none)) else (if x9.length < 8796093022208 then (impl_Raster.l0 k x0 x1 x2 (x9 ++ [strOfNums x11]) x45 (wrap64 (x46 + 1))) else (none))
def impl_Raster.l2 : Nat → List (S57) → Int → Int → List ByteArray → Int → List Int → Int → Int → Int → Int → Int → Int → Int → Int → Option (List ByteArray)
  | 0, _, _, _, _, _, _, _, _, _, _, _, _, _, _ => none
  | k + 1, x0, x1, x2, x9, x10, x11, x12, x13, x14, x15, x45, x46, x51, x52 => if x15 ≥ 0 then (if 0 ≤ x15 then (if x15 < (x0.length : Int) then (if x13 < ((rd_T57 x0 x15).f0) then (impl_Raster.j4 k x0 x1 x2 x9 x10 x11 x12 x13 x14 x15 x45 x46 x51 x52 true ((rd_T57 x0 x15).f0) ((rd_T57 x0 x15).f1) ((rd_T57 x0 x15).f2) ((rd_T57 x0 x15).f3) ((rd_T57 x0 x15).f4) ((rd_T57 x0 x15).f5)) else (if x13 ≥ (wrap64 (((rd_T57 x0 x15).f0) + ((rd_T57 x0 x15).f4))) then (impl_Raster.j4 k x0 x1 x2 x9 x10 x11 x12 x13 x14 x15 x45 x46 x51 x52 true ((rd_T57 x0 x15).f0) ((rd_T57 x0 x15).f1) ((rd_T57 x0 x15).f2) ((rd_T57 x0 x15).f3) ((rd_T57 x0 x15).f4) ((rd_T57 x0 x15).f5)) else (if x14 < (wrap64 (((rd_T57 x0 x15).f1) - ((rd_T57 x0 x15).f5))) then (impl_Raster.j4 k x0 x1 x2 x9 x10 x11 x12 x13 x14 x15 x45 x46 x51 x52 true ((rd_T57 x0 x15).f0) ((rd_T57 x0 x15).f1) ((rd_T57 x0 x15).f2) ((rd_T57 x0 x15).f3) ((rd_T57 x0 x15).f4) ((rd_T57 x0 x15).f5)) else (impl_Raster.j4 k x0 x1 x2 x9 x10 x11 x12 x13 x14 x15 x45 x46 x51 x52 (decide (x14 ≥ ((rd_T57 x0 x15).f1))) ((rd_T57 x0 x15).f0) ((rd_T57 x0 x15).f1) ((rd_T57 x0 x15).f2) ((rd_T57 x0 x15).f3) ((rd_T57 x0 x15).f4) ((rd_T57 x0 x15).f5))))) else (none)) else (none)) else (impl_Raster.l1 k x0 x1 x2 x9 x10 x11 x45 x46 x51 (wrap64 (x52 + 1)))
def impl_Raster.j4 : Nat → List (S57) → Int → Int → List ByteArray → Int → List Int → Int → Int → Int → Int → Int → Int → Int → Int → Bool → Int → Int → Int → Int → Int → Int → Option (List ByteArray)
  | 0, _, _, _, _, _, _, _, _, _, _, _, _, _, _, _, _, _, _, _, _, _ => none
  | k + 1, x0, x1, x2, x9, x10, x11, x12, x13, x14, x15, x45, x46, x51, x52, x108, x298000, x298001, x298002, x298003, x298004, x298005 => if x108 = true then (impl_Raster.l2 k x0 x1 x2 x9 x10 x11 x12 x13 x14 (wrap64 (x15 - 1)) x45 x46 x51 x52) else (if x298003 < 0 then (if 0 ≤ x12 then (if x12 < (x11.length : Int) then (impl_Raster.l1 k x0 x1 x2 x9 x10 (x11.set (x12 : Int).toNat 35) x45 x46 x51 (wrap64 (x52 + 1))) else (none)) else (none)) else (if x298003 ≥ 33 then (if x298003 ≤ 126 then (if 0 ≤ x12 then (if x12 < (x11.length : Int) then (impl_Raster.l1 k x0 x1 x2 x9 x10 (x11.set (x12 : Int).toNat ((x298003) % 256)) x45 x46 x51 (wrap64 (x52 + 1))) else (none)) else (none)) else (if 0 ≤ x12 then (if x12 < (x11.length : Int) then (impl_Raster.l1 k x0 x1 x2 x9 x10 (x11.set (x12 : Int).toNat 63) x45 x46 x51 (wrap64 (x52 + 1))) else (none)) else (none))) else (if 0 ≤ x12 then (if x12 < (x11.length : Int) then (impl_Raster.l1 k x0 x1 x2 x9 x10 (x11.set (x12 : Int).toNat 63) x45 x46 x51 (wrap64 (x52 + 1))) else (none)) else (none))))
end
def impl_Raster.f (k : Nat) (l0 : List (S57)) (a1 : Int) (a2 : Int) (a3 : Int) : Option (List ByteArray) := if a1 < 1 then (impl_Raster.j0 k l0 a1 a2 a3 true) else (if a1 > 1073741823 then (impl_Raster.j0 k l0 a1 a2 a3 true) else (if a2 < 1 then (impl_Raster.j0 k l0 a1 a2 a3 true) else (if a2 > 400 then (impl_Raster.j0 k l0 a1 a2 a3 true) else (if a3 < 1 then (impl_Raster.j0 k l0 a1 a2 a3 true) else (if a3 > 400 then (impl_Raster.j0 k l0 a1 a2 a3 true) else ((impl_DescOk.f k (([l0] : List (List (S57))))).bind fun t288 => (impl_Raster.j0 k l0 a1 a2 a3 (!t288))))))))
theorem impl_Raster.mono_l : ∀ k, (∀ y0 y1 y2 y3 y4, LeO (impl_Raster.j0 k y0 y1 y2 y3 y4) (impl_Raster.j0 (k + 1) y0 y1 y2 y3 y4)) ∧ (∀ y0 y1 y2 y3 y4 y5, LeO (impl_Raster.l0 k y0 y1 y2 y3 y4 y5) (impl_Raster.l0 (k + 1) y0 y1 y2 y3 y4 y5)) ∧ (∀ y0 y1 y2 y3 y4 y5 y6 y7 y8 y9, LeO (impl_Raster.l1 k y0 y1 y2 y3 y4 y5 y6 y7 y8 y9) (impl_Raster.l1 (k + 1) y0 y1 y2 y3 y4 y5 y6 y7 y8 y9)) ∧ (∀ y0 y1 y2 y3 y4 y5 y6 y7 y8 y9 y10 y11 y12 y13, LeO (impl_Raster.l2 k y0 y1 y2 y3 y4 y5 y6 y7 y8 y9 y10 y11 y12 y13) (impl_Raster.l2 (k + 1) y0 y1 y2 y3 y4 y5 y6 y7 y8 y9 y10 y11 y12 y13)) ∧ (∀ y0 y1 y2 y3 y4 y5 y6 y7 y8 y9 y10 y11 y12 y13 y14 y15 y16 y17 y18 y19 y20, LeO (impl_Raster.j4 k y0 y1 y2 y3 y4 y5 y6 y7 y8 y9 y10 y11 y12 y13 y14 y15 y16 y17 y18 y19 y20) (impl_Raster.j4 (k + 1) y0 y1 y2 y3 y4 y5 y6 y7 y8 y9 y10 y11 y12 y13 y14 y15 y16 y17 y18 y19 y20))
  | 0 => ⟨fun _ _ _ _ _ r h => by simp [impl_Raster.j0] at h, fun _ _ _ _ _ _ r h => by simp [impl_Raster.l0] at h, fun _ _ _ _ _ _ _ _ _ _ r h => by simp [impl_Raster.l1] at h, fun _ _ _ _ _ _ _ _ _ _ _ _ _ _ r h => by simp [impl_Raster.l2] at h, fun _ _ _ _ _ _ _ _ _ _ _ _ _ _ _ _ _ _ _ _ _ r h => by simp [impl_Raster.j4] at h⟩
  | k + 1 => by
    obtain ⟨ih0, ih1, ih2, ih3, ih4⟩ := impl_Raster.mono_l k
    refine ⟨?_, ?_, ?_, ?_, ?_⟩
    · intro y0 y1 y2 y3 y4
      unfold impl_Raster.j0
      repeat' first
      | (with_reducible exact ih0 _ _ _ _ _)
      | (with_reducible exact ih1 _ _ _ _ _ _)
      | (with_reducible exact ih2 _ _ _ _ _ _ _ _ _ _)
      | (with_reducible exact ih3 _ _ _ _ _ _ _ _ _ _ _ _ _ _)
      | (with_reducible exact ih4 _ _ _ _ _ _ _ _ _ _ _ _ _ _ _ _ _ _ _ _ _)
      | (with_reducible exact impl_DescOk.mono _ _)
      | (with_reducible exact LeO.refl _)
      | (with_reducible exact LeO.none _)
      | (with_reducible refine LeO.ite ?_ ?_)
      | (with_reducible refine LeO.bind ?_ (fun _ => ?_))
      | exact ih0 _ _ _ _ _
      | exact ih1 _ _ _ _ _ _
      | exact ih2 _ _ _ _ _ _ _ _ _ _
      | exact ih3 _ _ _ _ _ _ _ _ _ _ _ _ _ _
      | exact ih4 _ _ _ _ _ _ _ _ _ _ _ _ _ _ _ _ _ _ _ _ _
      | exact impl_DescOk.mono _ _
      | exact LeO.none _
      | refine LeO.ite ?_ ?_
      | refine LeO.bind ?_ (fun _ => ?_)
    · intro y0 y1 y2 y3 y4 y5
      unfold impl_Raster.l0
      repeat' first
      | (with_reducible exact ih0 _ _ _ _ _)
      | (with_reducible exact ih1 _ _ _ _ _ _)
      | (with_reducible exact ih2 _ _ _ _ _ _ _ _ _ _)
      | (with_reducible exact ih3 _ _ _ _ _ _ _ _ _ _ _ _ _ _)
      | (with_reducible exact ih4 _ _ _ _ _ _ _ _ _ _ _ _ _ _ _ _ _ _ _ _ _)
      | (with_reducible exact impl_DescOk.mono _ _)
      | (with_reducible exact LeO.refl _)
      | (with_reducible exact LeO.none _)
      | (with_reducible refine LeO.ite ?_ ?_)
      | (with_reducible refine LeO.bind ?_ (fun _ => ?_))
      | exact ih0 _ _ _ _ _
      | exact ih1 _ _ _ _ _ _
      | exact ih2 _ _ _ _ _ _ _ _ _ _
      | exact ih3 _ _ _ _ _ _ _ _ _ _ _ _ _ _
      | exact ih4 _ _ _ _ _ _ _ _ _ _ _ _ _ _ _ _ _ _ _ _ _
      | exact impl_DescOk.mono _ _
      | exact LeO.none _
      | refine LeO.ite ?_ ?_
      | refine LeO.bind ?_ (fun _ => ?_)
    · intro y0 y1 y2 y3 y4 y5 y6 y7 y8 y9
      unfold impl_Raster.l1
      repeat' first
      | (with_reducible exact ih0 _ _ _ _ _)
      | (with_reducible exact ih1 _ _ _ _ _ _)
      | (with_reducible exact ih2 _ _ _ _ _ _ _ _ _ _)
      | (with_reducible exact ih3 _ _ _ _ _ _ _ _ _ _ _ _ _ _)
      | (with_reducible exact ih4 _ _ _ _ _ _ _ _ _ _ _ _ _ _ _ _ _ _ _ _ _)
      | (with_reducible exact impl_DescOk.mono _ _)
      | (with_reducible exact LeO.refl _)
      | (with_reducible exact LeO.none _)
      | (with_reducible refine LeO.ite ?_ ?_)
      | (with_reducible refine LeO.bind ?_ (fun _ => ?_))
      | exact ih0 _ _ _ _ _
      | exact ih1 _ _ _ _ _ _
      | exact ih2 _ _ _ _ _ _ _ _ _ _
      | exact ih3 _ _ _ _ _ _ _ _ _ _ _ _ _ _
      | exact ih4 _ _ _ _ _ _ _ _ _ _ _ _ _ _ _ _ _ _ _ _ _
      | exact impl_DescOk.mono _ _
      | exact LeO.none _
      | refine LeO.ite ?_ ?_
      | refine LeO.bind ?_ (fun _ => ?_)
    · intro y0 y1 y2 y3 y4 y5 y6 y7 y8 y9 y10 y11 y12 y13
      unfold impl_Raster.l2
      repeat' first
      | (with_reducible exact ih0 _ _ _ _ _)
      | (with_reducible exact ih1 _ _ _ _ _ _)
      | (with_reducible exact ih2 _ _ _ _ _ _ _ _ _ _)
      | (with_reducible exact ih3 _ _ _ _ _ _ _ _ _ _ _ _ _ _)
      | (with_reducible exact ih4 _ _ _ _ _ _ _ _ _ _ _ _ _ _ _ _ _ _ _ _ _)
      | (with_reducible exact impl_DescOk.mono _ _)
      | (with_reducible exact LeO.refl _)
      | (with_reducible exact LeO.none _)
      | (with_reducible refine LeO.ite ?_ ?_)
      | (with_reducible refine LeO.bind ?_ (fun _ => ?_))
      | exact ih0 _ _ _ _ _
      | exact ih1 _ _ _ _ _ _
      | exact ih2 _ _ _ _ _ _ _ _ _ _
      | exact ih3 _ _ _ _ _ _ _ _ _ _ _ _ _ _
      | exact ih4 _ _ _ _ _ _ _ _ _ _ _ _ _ _ _ _ _ _ _ _ _
      | exact impl_DescOk.mono _ _
      | exact LeO.none _
      | refine LeO.ite ?_ ?_
      | refine LeO.bind ?_ (fun _ => ?_)
    · intro y0 y1 y2 y3 y4 y5 y6 y7 y8 y9 y10 y11 y12 y13 y14 y15 y16 y17 y18 y19 y20
      unfold impl_Raster.j4
      repeat' first
      | (with_reducible exact ih0 _ _ _ _ _)
      | (with_reducible exact ih1 _ _ _ _ _ _)
      | (with_reducible exact ih2 _ _ _ _ _ _ _ _ _ _)
      | (with_reducible exact ih3 _ _ _ _ _ _ _ _ _ _ _ _ _ _)
      | (with_reducible exact ih4 _ _ _ _ _ _ _ _ _ _ _ _ _ _ _ _ _ _ _ _ _)
      | (with_reducible exact impl_DescOk.mono _ _)
      | (with_reducible exact LeO.refl _)
      | (with_reducible exact LeO.none _)
      | (with_reducible refine LeO.ite ?_ ?_)
      | (with_reducible refine LeO.bind ?_ (fun _ => ?_))
      | exact ih0 _ _ _ _ _
      | exact ih1 _ _ _ _ _ _
      | exact ih2 _ _ _ _ _ _ _ _ _ _
      | exact ih3 _ _ _ _ _ _ _ _ _ _ _ _ _ _
      | exact ih4 _ _ _ _ _ _ _ _ _ _ _ _ _ _ _ _ _ _ _ _ _
      | exact impl_DescOk.mono _ _
      | exact LeO.none _
      | refine LeO.ite ?_ ?_
      | refine LeO.bind ?_ (fun _ => ?_)
theorem impl_Raster.mono : ∀ a0 a1 a2 a3 k, LeO (impl_Raster.f k a0 a1 a2 a3) (impl_Raster.f (k + 1) a0 a1 a2 a3) := by
  intro a0 a1 a2 a3 k
  obtain ⟨ih0, ih1, ih2, ih3, ih4⟩ := impl_Raster.mono_l k
  unfold impl_Raster.f
  repeat' first
      | (with_reducible exact ih0 _ _ _ _ _)
      | (with_reducible exact ih1 _ _ _ _ _ _)
      | (with_reducible exact ih2 _ _ _ _ _ _ _ _ _ _)
      | (with_reducible exact ih3 _ _ _ _ _ _ _ _ _ _ _ _ _ _)
      | (with_reducible exact ih4 _ _ _ _ _ _ _ _ _ _ _ _ _ _ _ _ _ _ _ _ _)
      | (with_reducible exact impl_DescOk.mono _ _)
      | (with_reducible exact LeO.refl _)
      | (with_reducible exact LeO.none _)
      | (with_reducible refine LeO.ite ?_ ?_)
      | (with_reducible refine LeO.bind ?_ (fun _ => ?_))
      | exact ih0 _ _ _ _ _
      | exact ih1 _ _ _ _ _ _
      | exact ih2 _ _ _ _ _ _ _ _ _ _
      | exact ih3 _ _ _ _ _ _ _ _ _ _ _ _ _ _
      | exact ih4 _ _ _ _ _ _ _ _ _ _ _ _ _ _ _ _ _ _ _ _ _
      | exact impl_DescOk.mono _ _
      | exact LeO.none _
      | refine LeO.ite ?_ ?_
      | refine LeO.bind ?_ (fun _ => ?_)
set_option maxHeartbeats 8000000 in
set_option maxRecDepth 100000 in
theorem impl_Raster.calls (k : Nat) (P0_ : Nat → Prop) (A0 : Option Addr) (c0 : Nat) (l0 : List (S57)) (a1 : Int) (a2 : Int) (a3 : Int) (r : List ByteArray) (w : World) (hs0 : Kd.V k57 57 w w.heap.size (fun k_ => P0_ k_) (.slice A0 l0.length c0) l0) (h : impl_Raster.f k l0 a1 a2 a3 = some r) :
    Calls Try.prog 34 #[.slice A0 l0.length c0, .int .i64 a1, .int .i64 a2, .int .i64 a3] w fun e w' => ∃ v0_ : Value, e = .returned (v0_) ∧ Kd.R Kd.string 9 w' w.heap.size (fun k_ => (w.heap.size ≤ k_)) v0_ r ∧ Below w.heap.size w w' := by
  have hu57 := Try.underlying57
  have HO0 := Aside0.mk (show Kd.V k57 57 w w.heap.size (fun k_ => (P0_ k_ ∨ w.heap.size ≤ k_)) (.slice A0 l0.length c0) l0 from Kd.V_mono hs0 (fun k_ hk => .inl hk))
  have HB := Aside0.mk (Below.refl w.heap.size w)
  have H : (if a1 < 1 then (impl_Raster.j0 k l0 a1 a2 a3 true) else (if a1 > 1073741823 then (impl_Raster.j0 k l0 a1 a2 a3 true) else (if a2 < 1 then (impl_Raster.j0 k l0 a1 a2 a3 true) else (if a2 > 400 then (impl_Raster.j0 k l0 a1 a2 a3 true) else (if a3 < 1 then (impl_Raster.j0 k l0 a1 a2 a3 true) else (if a3 > 400 then (impl_Raster.j0 k l0 a1 a2 a3 true) else ((impl_DescOk.f k (([l0] : List (List (S57))))).bind fun t288 => (impl_Raster.j0 k l0 a1 a2 a3 (!t288))))))))) = some r := h
  clear h
  have HC5 := Aside0.mk H
  clear H
  go_enter Try.func34, Try.ntmps34
  go_upto_region 1 with (fail)
  go_cut [44] (fun v44 wc => ∃ (kq : Nat) (x44_4 : Bool), v44 = .bool x44_4 ∧ Aside0 (impl_Raster.j0 kq l0 a1 a2 a3 x44_4 = some r) ∧ Aside0 (kq ≤ k) ∧ Aside0 (Kd.V k57 57 wc w.heap.size (fun k_ => (P0_ k_ ∨ w.heap.size ≤ k_)) (.slice A0 l0.length c0) l0) ∧ Aside0 (Below w.heap.size w wc))
  case first =>
    have H := HC5.out
    clear HC5
    by_cases c6 : a1 < 1
    · rw [if_pos c6] at H
      have c6b0 : decide (a1 < 1) = true := decide_eq_true c6
      clear c6
      (first | rw [c6b0] | (simp only [i64_w, i32_w]; rw [c6b0]) | skip)
      have H' := Aside0.mk H
      clear H
      go_wp2
      go_meet
      case rel => exact ⟨_, (true), (by first | rfl | (simp; done) | (simp [*]; done)), H', ⟨by first | omega | exact Nat.le_refl _⟩, ⟨by (with_reducible repeat (first | apply Kd.V_alloc | apply Kd.V_drewN | apply Kd.V_drew)); exact HO0.out⟩, ⟨by repeat (first | (with_reducible first | exact HB.out | apply below_alloc | apply pw_below_drewN | apply below_drew1) | exact HB.out)⟩⟩
    · rw [if_neg c6] at H
      have c6b0 : decide (a1 < 1) = false := decide_eq_false c6
      clear c6
      (first | rw [c6b0] | (simp only [i64_w, i32_w]; rw [c6b0]) | skip)
      by_cases c7 : a1 > 1073741823
      · rw [if_pos c7] at H
        have c7b0 : decide (1073741823 < a1) = true := decide_eq_true c7
        clear c7
        have H' := Aside0.mk H
        clear H
        go_wp2
        go_meet
        case rel => exact ⟨_, (true), (by first | rfl | (simp; done) | (simp [*]; done)), H', ⟨by first | omega | exact Nat.le_refl _⟩, ⟨by (with_reducible repeat (first | apply Kd.V_alloc | apply Kd.V_drewN | apply Kd.V_drew)); exact HO0.out⟩, ⟨by repeat (first | (with_reducible first | exact HB.out | apply below_alloc | apply pw_below_drewN | apply below_drew1) | exact HB.out)⟩⟩
      · rw [if_neg c7] at H
        have c7b0 : decide (1073741823 < a1) = false := decide_eq_false c7
        clear c7
        by_cases c8 : a2 < 1
        · rw [if_pos c8] at H
          have c8b0 : decide (a2 < 1) = true := decide_eq_true c8
          clear c8
          have H' := Aside0.mk H
          clear H
          go_wp2
          go_meet
          case rel => exact ⟨_, (true), (by first | rfl | (simp; done) | (simp [*]; done)), H', ⟨by first | omega | exact Nat.le_refl _⟩, ⟨by (with_reducible repeat (first | apply Kd.V_alloc | apply Kd.V_drewN | apply Kd.V_drew)); exact HO0.out⟩, ⟨by repeat (first | (with_reducible first | exact HB.out | apply below_alloc | apply pw_below_drewN | apply below_drew1) | exact HB.out)⟩⟩
        · rw [if_neg c8] at H
          have c8b0 : decide (a2 < 1) = false := decide_eq_false c8
          clear c8
          by_cases c9 : a2 > 400
          · rw [if_pos c9] at H
            have c9b0 : decide (400 < a2) = true := decide_eq_true c9
            clear c9
            have H' := Aside0.mk H
            clear H
            go_wp2
            go_meet
            case rel => exact ⟨_, (true), (by first | rfl | (simp; done) | (simp [*]; done)), H', ⟨by first | omega | exact Nat.le_refl _⟩, ⟨by (with_reducible repeat (first | apply Kd.V_alloc | apply Kd.V_drewN | apply Kd.V_drew)); exact HO0.out⟩, ⟨by repeat (first | (with_reducible first | exact HB.out | apply below_alloc | apply pw_below_drewN | apply below_drew1) | exact HB.out)⟩⟩
          · rw [if_neg c9] at H
            have c9b0 : decide (400 < a2) = false := decide_eq_false c9
            clear c9
            by_cases c10 : a3 < 1
            · rw [if_pos c10] at H
              have c10b0 : decide (a3 < 1) = true := decide_eq_true c10
              clear c10
              have H' := Aside0.mk H
              clear H
              go_wp2
              go_meet
              case rel => exact ⟨_, (true), (by first | rfl | (simp; done) | (simp [*]; done)), H', ⟨by first | omega | exact Nat.le_refl _⟩, ⟨by (with_reducible repeat (first | apply Kd.V_alloc | apply Kd.V_drewN | apply Kd.V_drew)); exact HO0.out⟩, ⟨by repeat (first | (with_reducible first | exact HB.out | apply below_alloc | apply pw_below_drewN | apply below_drew1) | exact HB.out)⟩⟩
            · rw [if_neg c10] at H
              have c10b0 : decide (a3 < 1) = false := decide_eq_false c10
              clear c10
              by_cases c11 : a3 > 400
              · rw [if_pos c11] at H
                have c11b0 : decide (400 < a3) = true := decide_eq_true c11
                clear c11
                have H' := Aside0.mk H
                clear H
                go_wp2
                go_meet
                case rel => exact ⟨_, (true), (by first | rfl | (simp; done) | (simp [*]; done)), H', ⟨by first | omega | exact Nat.le_refl _⟩, ⟨by (with_reducible repeat (first | apply Kd.V_alloc | apply Kd.V_drewN | apply Kd.V_drew)); exact HO0.out⟩, ⟨by repeat (first | (with_reducible first | exact HB.out | apply below_alloc | apply pw_below_drewN | apply below_drew1) | exact HB.out)⟩⟩
              · rw [if_neg c11] at H
                have c11b0 : decide (400 < a3) = false := decide_eq_false c11
                clear c11
                obtain ⟨y285, hy285⟩ : ∃ y_ : List (List (S57)), y_ = (([l0] : List (List (S57)))) := ⟨_, rfl⟩
                replace H : ((impl_DescOk.f k y285).bind fun t288 => (impl_Raster.j0 k l0 a1 a2 a3 (!t288))) = some r := by first | (rw [hy285]; with_reducible exact H) | (have H2_ := (Option.bind_some _ _).symm.trans H; rw [hy285]; with_reducible exact H2_) | (have H2_ := (Option.bind_some _ _).symm.trans H; with_reducible exact H2_) | with_reducible exact H | (rw [hy285]; exact H) | exact H
                have Ny285 := Aside0.mk hy285
                clear hy285
                replace H := Option.bind_eq_some_iff.mp H
                obtain ⟨t288, A120, H⟩ := H
                replace H : (impl_Raster.j0 k l0 a1 a2 a3 (!t288)) = some r := H
                have A12 := Aside0.mk A120
                clear A120
                have H' := Aside0.mk H
                clear H
                go_wp2_with (first | ((with_reducible refine gate_dst (N := 41) rfl ?_); (try (refine gate_guard (by rfl) ?_; dsimp only)); refine Kd.N_lit (Kd.slice 57 k57) _ 51 ?hg (N' := 41) ?hd (xs := ([l0] : List (List (S57)))) (inner := [.slice A0 l0.length c0]) (ok := (fun k_ => (P0_ k_ ∨ w.heap.size ≤ k_))) (okp := (fun k_ => (P0_ k_ ∨ w.heap.size ≤ k_))) ?hr ?hp (fun _ hk => hk) ((show ∀ k_, w.heap.size ≤ k_ → (fun k_ => (P0_ k_ ∨ w.heap.size ≤ k_)) k_ from fun k_ hk => (.inr (Nat.le_trans (below_size (by repeat (first | (with_reducible first | exact HB.out | apply below_alloc | apply pw_below_drewN | apply below_drew1) | exact HB.out))) hk))) _ (Nat.le_refl _)) (Below.refl _ _) (Nat.le_refl _) (by simp) ?_; (case hd => rfl); (case hg => rfl); (case hr => first | (go_simp; done) | (go_simp; rfl)); (case hp => exact (Reps.one (show Kd.FK (Kd.slice 57 k57) _ _ l0 [.slice A0 l0.length c0] from (Kd.FK_slice_mk (Kd.V_reads' (Kd.V_mono (ok' := (fun k_ => (P0_ k_ ∨ w.heap.size ≤ k_))) (HO0.out) (fun k_ hk => hk))).2.1 (Kd.V_F (Kd.V_mono (ok' := (fun k_ => (P0_ k_ ∨ w.heap.size ≤ k_))) (HO0.out) (fun k_ hk => hk))))) (Reps.none _ _))); intro v286 w13 ho14 hb hg_ hnew_; clear hg_ hnew_; (first | rw [← Ny285.out] at ho14 | (simp only [Int.reduceToNat] at ho14; rw [← Ny285.out] at ho14)); have n0_ := Aside0.mk (Kd.V_elder' (by (with_reducible repeat (first | apply Kd.V_alloc | apply Kd.V_drewN | apply Kd.V_drew)); exact HO0.out) (Kd.N_base ho14) hb); have n1_ := Aside0.mk (Kd.N_lower ho14 (below_size (by repeat (first | (with_reducible first | exact HB.out | apply below_alloc | apply pw_below_drewN | apply below_drew1) | exact HB.out)))); have n2_ := Aside0.mk (below_step (by repeat (first | (with_reducible first | exact HB.out | apply below_alloc | apply pw_below_drewN | apply below_drew1) | exact HB.out)) hb); clear HO0; clear HB; have HO0 := n0_; have HO287 := n1_; have HB := n2_; clear n0_ n1_ n2_; clear hb ho14; obtain ⟨Ao15, co15, eo15⟩ := Kd.N_slice HO287.out; subst eo15) | (go_at_call 21; (with_reducible refine (impl_DescOk.calls k _ _ y285 t288 _ ?side1 ?side2 A12.out).mono ?_); (case side1 => repeat (first | exact (Kd.N_reads' HO287.out).2.2 | (with_reducible refine Kd.C_alloc ?_ _) | (with_reducible refine Kd.C_drewN ?_ _) | (with_reducible refine Kd.C_drew ?_))); (case side2 => exact (Kd.N_reads' HO287.out).2.1); rintro e w16 ⟨rfl, hb⟩; have n0_ := Aside0.mk (Kd.V_below (by (with_reducible repeat (first | apply Kd.V_alloc | apply Kd.V_drewN | apply Kd.V_drew)); exact HO0.out) hb); have n1_ := Aside0.mk (Kd.N_below (by (with_reducible repeat (first | apply Kd.N_alloc | apply Kd.N_drewN | apply Kd.N_drew)); exact HO287.out) hb); have n2_ := Aside0.mk (below_step (by repeat (first | (with_reducible first | exact HB.out | apply below_alloc | apply pw_below_drewN | apply below_drew1) | exact HB.out)) hb); clear HO0; clear HO287; clear HB; have HO0 := n0_; have HO287 := n1_; have HB := n2_; clear n0_ n1_ n2_; (try clear hb); (try clear hb2); (try clear hk); (try clear hi)))
                go_meet
                case rel => exact ⟨_, (!t288), (by first | rfl | (simp; done) | (simp [*]; done)), H', ⟨by first | omega | exact Nat.le_refl _⟩, ⟨by (with_reducible repeat (first | apply Kd.V_alloc | apply Kd.V_drewN | apply Kd.V_drew)); exact Kd.V_mono HO0.out (fun _ hk => hk.1)⟩, ⟨by repeat (first | (with_reducible first | exact HB.out | apply below_alloc | apply pw_below_drewN | apply below_drew1) | exact HB.out)⟩⟩
  case rest =>
    clear HC5
    try clear c1
    try clear p2
    try clear c3
    try clear c6
    try clear c6b0
    try clear c7
    try clear c7b0
    try clear c8
    try clear c8b0
    try clear c9
    try clear c9b0
    try clear c10
    try clear c10b0
    try clear c11
    try clear c11b0
    obtain ⟨kq, x44_4, rfl, HA, HJ4, HO_0, HB⟩ := hcut
    cases kq with
    | zero => exact absurd HA.out (by simp [impl_Raster.j0])
    | succ kj4 =>
      have H := HA.out
      clear HA
      simp only [impl_Raster.j0] at H
      by_cases c17 : x44_4 = true
      · subst c17
        have H1 : (some ([] : List ByteArray)) = some r := by rw [if_pos rfl] at H; exact H
        clear H
        have H := H1
        clear H1
        obtain rfl := Option.some.inj H
        go_wp2
        go_ret
        exact ⟨_, by first | rfl | (simp [errW_none, errW_some] <;> rfl) | (simp [*, errW_none, errW_some] <;> rfl), by first | exact Kd.R_nil _ _ _ _ _ | exact Kd.N_nil _ _ _ _ _ | exact Kd.V_nil _ _ _ _ _ | exact Kd.Q_nil _ _ _ _ _ | exact Kd.S_nil _ _ _ _ _, by repeat (first | (with_reducible first | exact HB.out | apply below_alloc | apply pw_below_drewN | apply below_drew1) | exact HB.out)⟩
      · replace c17 := Bool.eq_false_iff.mpr c17
        subst c17
        have H1 : (impl_Raster.l0 kj4 l0 a1 a2 ([] : List ByteArray) a3 0) = some r := by rw [if_neg (show ¬ (false = true) by decide)] at H; exact H
        clear H
        have H := H1
        clear H1
        have H' := Aside0.mk H
        clear H
        go_wp2
        go_loopg [9, 46] kj4 (fun kq v9 v46 w' => ∃ (x9_2 : List ByteArray) (x46_2 : Int), v46 = .int .i64 x46_2 ∧ Aside0 (impl_Raster.l0 kq l0 a1 a2 x9_2 a3 x46_2 = some r) ∧ Aside0 (kq ≤ kj4) ∧ Aside0 (Kd.V k57 57 w' w.heap.size (fun k_ => (P0_ k_ ∨ w.heap.size ≤ k_) ∧ some k_ ≠ (v9 : Value).ownBlock) (.slice A0 l0.length c0) l0) ∧ Aside0 (Kd.R Kd.string 9 w' w.heap.size (fun k_ => (w.heap.size ≤ k_)) v9 x9_2) ∧ Aside0 (Below w.heap.size w w'))
        case atStart => exact ⟨(([] : List ByteArray)), (0), (by first | rfl | (simp; done) | (simp [*]; done)), H', ⟨Nat.le_refl _⟩, ⟨by (with_reducible repeat (first | apply Kd.V_alloc | apply Kd.V_drewN | apply Kd.V_drew)); exact Kd.V_mono HO_0.out (fun _ hk => ⟨hk, (by simp [Value.ownBlock])⟩)⟩, ⟨by first | exact Kd.R_nil _ _ _ _ _ | exact Kd.N_nil _ _ _ _ _ | exact Kd.V_nil _ _ _ _ _ | exact Kd.Q_nil _ _ _ _ _ | exact Kd.S_nil _ _ _ _ _⟩, ⟨by repeat (first | (with_reducible first | exact HB.out | apply below_alloc | apply pw_below_drewN | apply below_drew1) | exact HB.out)⟩⟩
        case round =>
          clear H'
          try clear c1
          try clear p2
          try clear c3
          try clear c6
          try clear c6b0
          try clear c7
          try clear c7b0
          try clear c8
          try clear c8b0
          try clear c9
          try clear c9b0
          try clear c10
          try clear c10b0
          try clear c11
          try clear c11b0
          try clear c17
          try clear p2
          obtain ⟨x9_2, x46_2, rfl, HA, HK2, HO_0, HO_9, HB⟩ := hrel
          cases gk with
          | zero => exact absurd HA.out (by simp [impl_Raster.l0])
          | succ k2 =>
            have H := HA.out
            clear HA
            simp only [impl_Raster.l0] at H
            by_cases c18 : x46_2 < a3
            · rw [if_pos c18] at H
              have c18b0 : decide (x46_2 < a3) = true := decide_eq_true c18
              clear c18
              by_cases c19 : 0 ≤ a2
              · rw [if_pos c19] at H
                have c19b0 := eq_true c19
                have c19b1 : decide (0 ≤ a2) = true := decide_eq_true c19
                clear c19
                by_cases c20 : (a2 : Int).toNat ≤ 281474976710656
                · rw [if_pos c20] at H
                  have c20b0 := eq_true c20
                  have c20b1 : decide ((a2 : Int).toNat ≤ 281474976710656) = true := decide_eq_true c20
                  clear c20
                  obtain ⟨y289, hy289⟩ : ∃ y_ : List Int, y_ = (List.replicate (a2 : Int).toNat 0) := ⟨_, rfl⟩
                  replace H : (impl_Raster.l1 k2 l0 a1 a2 x9_2 x46_2 y289 a3 x46_2 a2 0) = some r := by first | (rw [hy289]; with_reducible exact H) | (have H2_ := (Option.bind_some _ _).symm.trans H; rw [hy289]; with_reducible exact H2_) | (have H2_ := (Option.bind_some _ _).symm.trans H; with_reducible exact H2_) | with_reducible exact H | (rw [hy289]; exact H) | exact H
                  have Ny289 := Aside0.mk hy289
                  clear hy289
                  have H' := Aside0.mk H
                  clear H
                  go_wp2_with (first | ((with_reducible refine gate_dst (N := 50) rfl ?_); (try (refine gate_guard (by rfl) ?_; dsimp only)); refine Kd.R_make (Kd.int .u8) _ 5 rfl (N := 50) rfl 49 _ _ rfl a2 rfl rfl Try.underlying49 (.int .u8 0) 1 info5 rfl (by decide) (by omega) 0 (ok := fun _ => True) (okp := fun _ => True) rfl (fun _ hk => hk) trivial (of_decide_eq_true (by first | (with_reducible assumption) | assumption)) (Nat.le_trans (Nat.mul_le_mul_right _ (of_decide_eq_true (by first | (with_reducible assumption) | assumption) : a2.toNat ≤ 281474976710656)) (by omega)) (Below.refl _ _) (Nat.le_refl _) ?_; intro v290 w21 ho22 hb hg_ hnew_; clear hg_ hnew_; (first | rw [← Ny289.out] at ho22 | (simp only [Int.reduceToNat] at ho22; rw [← Ny289.out] at ho22)); have n0_ := Aside0.mk (Kd.V_elder' (by (with_reducible repeat (first | apply Kd.V_alloc | apply Kd.V_drewN | apply Kd.V_drew)); exact HO_0.out) (Kd.R_base ho22) hb); have n1_ := Aside0.mk (Kd.R_below (by (with_reducible repeat (first | apply Kd.R_alloc | apply Kd.R_drewN | apply Kd.R_drew)); exact HO_9.out) hb); have n2_ := Aside0.mk (Kd.R_lower (Kd.R_newM (M := fun k_ => (w.heap.size ≤ k_)) ho22 (below_size (by repeat (first | (with_reducible first | exact HB.out | apply below_alloc | apply pw_below_drewN | apply below_drew1) | exact HB.out))) (fun k_ h_ => h_)) (below_size (by repeat (first | (with_reducible first | exact HB.out | apply below_alloc | apply pw_below_drewN | apply below_drew1) | exact HB.out)))); have n3_ := Aside0.mk (below_step (by repeat (first | (with_reducible first | exact HB.out | apply below_alloc | apply pw_below_drewN | apply below_drew1) | exact HB.out)) hb); clear HO_0; clear HO_9; clear HB; have HO_0 := n0_; have HO_9 := n1_; have HO291 := n2_; have HB := n3_; clear n0_ n1_ n2_ n3_; clear hb ho22))
                  go_loopg [52] k2 (fun kq v52 w' => ∃ (x11_3 : List Int) (x52_3 : Int), v52 = .int .i64 x52_3 ∧ Aside0 (impl_Raster.l1 kq l0 a1 a2 x9_2 x46_2 x11_3 a3 x46_2 a2 x52_3 = some r) ∧ Aside0 (kq ≤ k2) ∧ Aside0 (Kd.V k57 57 w' w.heap.size (fun k_ => (P0_ k_ ∨ w.heap.size ≤ k_) ∧ some k_ ≠ (u9 : Value).ownBlock ∧ some k_ ≠ (v290 : Value).ownBlock) (.slice A0 l0.length c0) l0) ∧ Aside0 (Kd.R Kd.string 9 w' w.heap.size (fun k_ => (w.heap.size ≤ k_)) u9 x9_2) ∧ Aside0 (Kd.R (Kd.int .u8) 5 w' w.heap.size (fun k_ => (w.heap.size ≤ k_)) v290 x11_3) ∧ Aside0 (Below w.heap.size w w'))
                  case atStart => exact ⟨(y289), (0), (by first | rfl | (simp; done) | (simp [*]; done)), H', ⟨Nat.le_refl _⟩, ⟨by (with_reducible repeat (first | apply Kd.V_alloc | apply Kd.V_drewN | apply Kd.V_drew)); exact Kd.V_mono HO_0.out (fun _ hk => ⟨hk.1.1, ⟨hk.1.2, hk.2⟩⟩)⟩, ⟨by (with_reducible repeat (first | apply Kd.R_alloc | apply Kd.R_drewN | apply Kd.R_drew)); exact HO_9.out⟩, ⟨by (with_reducible repeat (first | apply Kd.R_alloc | apply Kd.R_drewN | apply Kd.R_drew)); exact Kd.R_mono HO291.out (fun _ hk => hk.1)⟩, ⟨by repeat (first | (with_reducible first | exact HB.out | apply below_alloc | apply pw_below_drewN | apply below_drew1) | exact HB.out)⟩⟩
                  case round =>
                    clear H'
                    try clear c1
                    try clear c2
                    try clear p2
                    try clear c3
                    try clear c6
                    try clear c6b0
                    try clear c7
                    try clear c7b0
                    try clear c8
                    try clear c8b0
                    try clear c9
                    try clear c9b0
                    try clear c10
                    try clear c10b0
                    try clear c11
                    try clear c11b0
                    try clear c17
                    try clear c18
                    try clear c18b0
                    try clear c19
                    try clear c19b0
                    try clear c19b1
                    try clear c20
                    try clear c20b0
                    try clear c20b1
                    try clear p2
                    obtain ⟨x11_3, x52_3, rfl, HA, HK3, HO_0, HO_9, HO_11, HB⟩ := hrel
                    cases gk with
                    | zero => exact absurd HA.out (by simp [impl_Raster.l1])
                    | succ k3 =>
                      have H := HA.out
                      clear HA
                      simp only [impl_Raster.l1] at H
                      by_cases c23 : x52_3 < a2
                      · rw [if_pos c23] at H
                        have c23b0 : decide (x52_3 < a2) = true := decide_eq_true c23
                        clear c23
                        by_cases c24 : 0 ≤ x52_3
                        · rw [if_pos c24] at H
                          have c24b0 : decide (0 ≤ x52_3) = true := decide_eq_true c24
                          clear c24
                          by_cases c25 : x52_3 < (x11_3.length : Int)
                          · rw [if_pos c25] at H
                            have c25b0 : decide (x52_3 < (x11_3.length : Int)) = true := decide_eq_true c25
                            clear c25
                            obtain ⟨y295, hy295⟩ : ∃ y_ : List Int, y_ = (x11_3.set (x52_3 : Int).toNat 32) := ⟨_, rfl⟩
                            replace H : (impl_Raster.l2 k3 l0 a1 a2 x9_2 x46_2 y295 x52_3 (wrap64 ((wrap64 (x52_3 * a1)) + (wrap64 (Int.tdiv a1 2)))) (wrap64 ((wrap64 (x46_2 * a1)) + (wrap64 (Int.tdiv a1 2)))) (wrap64 ((l0.length : Int) - 1)) a3 x46_2 a2 x52_3) = some r := by first | (rw [hy295]; with_reducible exact H) | (have H2_ := (Option.bind_some _ _).symm.trans H; rw [hy295]; with_reducible exact H2_) | (have H2_ := (Option.bind_some _ _).symm.trans H; with_reducible exact H2_) | with_reducible exact H | (rw [hy295]; exact H) | exact H
                            have Ny295 := Aside0.mk hy295
                            clear hy295
                            have H' := Aside0.mk H
                            clear H
                            have p26 : 0 ≤ (x52_3 : Int) := of_decide_eq_true (by first | (with_reducible assumption) | assumption)
                            have q26 : (x52_3 : Int) < ((x11_3.length : Int) : Int) := of_decide_eq_true (by first | (with_reducible assumption) | assumption)
                            obtain ⟨go26, co26, eo26, gb26, gl26, cl26, HG26⟩ := Kd.R_form HO_11.out (by omega)
                            (first | cases eo26 | (injection eo26 with ea_ en_ ec_; (first | subst ea_ | (injection ea_ with ea_; subst ea_)); subst ec_; clear en_))
                            have GB26 := Aside0.mk gb26
                            have GG26 := Aside0.mk HG26
                            clear gb26 gl26 HG26
                            obtain ⟨hx26_0, hf26_0⟩ := Kd.R_celln 0 HO_11.out (x52_3 : Int) p26 q26
                            replace p26 := eq_true p26
                            replace q26 := eq_true q26
                            have HP27 := Kd.R_putg HO_11.out (x52_3 : Int) 32
                            go_wp2_with (first | ((with_reducible refine gate_store (t := 5) (p := 57) rfl ?_); refine store_event (t := 5) (p := 57) (v := ?vo_w28) (w1 := (wr.setCell ⟨go26, (x52_3 : Int).toNat, none⟩ (.int .u8 32))) ?hg ?ho ?hn ?hr ?_; (case ho => rfl); (case hg => rfl); (case hn => rfl); (case hr => first | (go_simp; done) | (go_simp; rfl)); intro w28 hw; have hg : wr.grownBy w28 (some go26) := (by rw [hw]; exact HP27.2); have hp_ : Kd.R (Kd.int .u8) 5 w28 w.heap.size (fun k_ => (w.heap.size ≤ k_)) (.slice (some ⟨go26, 0, none⟩) x11_3.length co26) y295 := (by rw [hw, Ny295.out]; exact HP27.1); clear HP27; have n0_ := Aside0.mk (Kd.V_afterv (v := (.slice (some ⟨go26, 0, none⟩) x11_3.length co26)) (v1 := (.slice (some ⟨go26, 0, none⟩) x11_3.length co26)) (ok := (fun k_ => (P0_ k_ ∨ w.heap.size ≤ k_) ∧ some k_ ≠ (u9 : Value).ownBlock)) (by (with_reducible repeat (first | apply Kd.V_alloc | apply Kd.V_drewN | apply Kd.V_drew)); exact Kd.V_mono HO_0.out (fun _ hk => ⟨⟨hk.1, hk.2.1⟩, hk.2.2⟩)) hg (.inl rfl)); have n1_ := Aside0.mk (Kd.R_over' (v := (.slice (some ⟨go26, 0, none⟩) x11_3.length co26)) (by (with_reducible repeat (first | apply Kd.R_alloc | apply Kd.R_drewN | apply Kd.R_drew)); exact HO_9.out) (Kd.R_typed HO_11.out) (by decide) hg); have n2_ := Aside0.mk (hp_); have n3_ := Aside0.mk ((by rw [hw]; exact below_set (HB.out) GB26.out : Below w.heap.size w w28)); clear HO_0; clear HO_9; clear HO_11; clear HB; have HO_0 := n0_; have HO_9 := n1_; have HO_11 := n2_; have HB := n3_; clear n0_ n1_ n2_ n3_; clear hg hw hp_))
                            go_loopg [15] k3 (fun kq v15 w' => ∃ (x11_4 : List Int) (x15_4 : Int), v15 = .int .i64 x15_4 ∧ Aside0 (impl_Raster.l2 kq l0 a1 a2 x9_2 x46_2 x11_4 x52_3 (wrap64 ((wrap64 (x52_3 * a1)) + (wrap64 (Int.tdiv a1 2)))) (wrap64 ((wrap64 (x46_2 * a1)) + (wrap64 (Int.tdiv a1 2)))) x15_4 a3 x46_2 a2 x52_3 = some r) ∧ Aside0 (kq ≤ k3) ∧ Aside0 (Kd.V k57 57 w' w.heap.size (fun k_ => (P0_ k_ ∨ w.heap.size ≤ k_) ∧ some k_ ≠ (u9 : Value).ownBlock ∧ some k_ ≠ ((.slice (some ⟨go26, 0, none⟩) x11_3.length co26) : Value).ownBlock) (.slice A0 l0.length c0) l0) ∧ Aside0 (Kd.R Kd.string 9 w' w.heap.size (fun k_ => (w.heap.size ≤ k_)) u9 x9_2) ∧ Aside0 (Kd.R (Kd.int .u8) 5 w' w.heap.size (fun k_ => (w.heap.size ≤ k_)) (.slice (some ⟨go26, 0, none⟩) x11_3.length co26) x11_4) ∧ Aside0 (Below w.heap.size w w'))
                            case atStart => exact ⟨(y295), (wrap64 ((l0.length : Int) - 1)), (by first | rfl | (simp; done) | (simp [*]; done)), H', ⟨Nat.le_refl _⟩, ⟨by (with_reducible repeat (first | apply Kd.V_alloc | apply Kd.V_drewN | apply Kd.V_drew)); exact Kd.V_mono HO_0.out (fun _ hk => ⟨hk.1.1, ⟨hk.1.2, hk.2⟩⟩)⟩, ⟨by (with_reducible repeat (first | apply Kd.R_alloc | apply Kd.R_drewN | apply Kd.R_drew)); exact HO_9.out⟩, ⟨by (with_reducible repeat (first | apply Kd.R_alloc | apply Kd.R_drewN | apply Kd.R_drew)); exact HO_11.out⟩, ⟨by repeat (first | (with_reducible first | exact HB.out | apply below_alloc | apply pw_below_drewN | apply below_drew1) | exact HB.out)⟩⟩
                            case round =>
                              clear H'
                              try clear c1
                              try clear c2
                              try clear p2
                              try clear q2
                              try clear hx2
                              try clear c3
                              try clear c6
                              try clear c6b0
                              try clear p6
                              try clear c7
                              try clear c7b0
                              try clear c8
                              try clear c8b0
                              try clear c9
                              try clear c9b0
                              try clear c10
                              try clear c10b0
                              try clear c11
                              try clear c11b0
                              try clear c17
                              try clear c18
                              try clear c18b0
                              try clear c19
                              try clear c19b0
                              try clear c19b1
                              try clear c20
                              try clear c20b0
                              try clear c20b1
                              try clear c23
                              try clear c23b0
                              try clear c24
                              try clear c24b0
                              try clear c25
                              try clear c25b0
                              try clear p26
                              try clear q26
                              try clear hx26
                              try clear hf26
                              try clear hx26_0
                              try clear p2
                              try clear p26
                              try clear q26
                              obtain ⟨x11_4, x15_4, rfl, HA, HK4, HO_0, HO_9, HO_11, HB⟩ := hrel
                              have hl11_4 := (Kd.R_reads' HO_11.out).1
                              rw [hl11_4] at HO_11
                              (try simp only [hl11_4])
                              (try simp only [hl11_4] at HO_0)
                              (try simp only [hl11_4] at HO_9)
                              cases gk with
                              | zero => exact absurd HA.out (by simp [impl_Raster.l2])
                              | succ k4 =>
                                have H := HA.out
                                clear HA
                                simp only [impl_Raster.l2] at H
                                by_cases c29 : x15_4 ≥ 0
                                · rw [if_pos c29] at H
                                  have c29b0 : decide (0 ≤ x15_4) = true := decide_eq_true c29
                                  clear c29
                                  by_cases c30 : 0 ≤ x15_4
                                  · rw [if_pos c30] at H
                                    have c30b0 : decide (0 ≤ x15_4) = true := decide_eq_true c30
                                    clear c30
                                    by_cases c31 : x15_4 < (l0.length : Int)
                                    · rw [if_pos c31] at H
                                      have c31b0 : decide (x15_4 < (l0.length : Int)) = true := decide_eq_true c31
                                      clear c31
                                      have HC32 := Aside0.mk H
                                      clear H
                                      have p296 : 0 ≤ (x15_4 : Int) := of_decide_eq_true (by first | (with_reducible assumption) | assumption)
                                      have q296 : x15_4 < (l0.length : Int) := of_decide_eq_true (by first | (with_reducible assumption) | assumption)
                                      obtain ⟨ad296, e296, hx296_0, hx296_1, hx296_2, hx296_3, hx296_4, hx296_5⟩ := at_T57 (Kd.V_reads' HO_0.out).2.2 x15_4 p296 q296
                                      cases e296
                                      replace p296 := eq_true p296
                                      replace q296 := eq_true q296
                                      go_upto_region 17 with (first | ((with_reducible refine gate_dst (N := 16) rfl ?_); (try (refine gate_guard (by rfl) ?_; dsimp only)); refine box_event ?hg (N := 16) ?hd (cs := #[.int .i64 0, .int .i64 0, .int .i64 0, .int .i64 0, .int .i64 0, .int .i64 0]) (t := 57) ?hr ?_; (case hd => rfl); (case hg => rfl); (case hr => first | (go_simp; done) | (go_simp; rfl)); intro gb297 hg w33 hbox hb; have n0_ := Aside0.mk (Kd.V_below (Kd.V_elderB (by (with_reducible repeat (first | apply Kd.V_alloc | apply Kd.V_drewN | apply Kd.V_drew)); exact HO_0.out) gb297 (Nat.le_of_eq hg.symm)) hb); have n1_ := Aside0.mk (Kd.R_below (by (with_reducible repeat (first | apply Kd.R_alloc | apply Kd.R_drewN | apply Kd.R_drew)); exact HO_9.out) hb); have n2_ := Aside0.mk (Kd.R_below (by (with_reducible repeat (first | apply Kd.R_alloc | apply Kd.R_drewN | apply Kd.R_drew)); exact HO_11.out) hb); have n3_ := Aside0.mk (below_step (by repeat (first | (with_reducible first | exact HB.out | apply below_alloc | apply pw_below_drewN | apply below_drew1) | exact HB.out)) hb); have n4_ := Aside0.mk (hbox); have n5_ := Aside0.mk ((by rw [hg]; exact (below_size (by repeat (first | (with_reducible first | exact HB.out | apply below_alloc | apply pw_below_drewN | apply below_drew1) | exact HB.out))) : w.heap.size ≤ gb297)); have n6_ := Aside0.mk ((by rw [hg]; exact (below_size (by repeat (first | (with_reducible first | exact HB.out | apply below_alloc | apply pw_below_drewN | apply below_drew1) | exact HB.out))) : w.heap.size ≤ gb297)); clear HO_0; clear HO_9; clear HO_11; clear HB; have HO_0 := n0_; have HO_9 := n1_; have HO_11 := n2_; have HB := n3_; have BK297 := n4_; have GW297 := n5_; have GE297 := n6_; clear n0_ n1_ n2_ n3_ n4_ n5_ n6_; clear hb hbox hg; have hcz34_0 : w33.cell? ⟨gb297, 0, none⟩ = some (.int .i64 0) := (blk_cell BK297.out 0).trans rfl; have hcz34_1 : w33.cell? ⟨gb297, 1, none⟩ = some (.int .i64 0) := (blk_cell BK297.out 1).trans rfl; have hcz34_2 : w33.cell? ⟨gb297, 2, none⟩ = some (.int .i64 0) := (blk_cell BK297.out 2).trans rfl; have hcz34_3 : w33.cell? ⟨gb297, 3, none⟩ = some (.int .i64 0) := (blk_cell BK297.out 3).trans rfl; have hcz34_4 : w33.cell? ⟨gb297, 4, none⟩ = some (.int .i64 0) := (blk_cell BK297.out 4).trans rfl; have hcz34_5 : w33.cell? ⟨gb297, 5, none⟩ = some (.int .i64 0) := (blk_cell BK297.out 5).trans rfl; have hfz34_0 := blk_frozen BK297.out 0; have hfz34_1 := blk_frozen BK297.out 1; have hfz34_2 := blk_frozen BK297.out 2; have hfz34_3 := blk_frozen BK297.out 3; have hfz34_4 := blk_frozen BK297.out 4; have hfz34_5 := blk_frozen BK297.out 5))
                                      (try simp only [Act.put, List.setIfInBounds_toArray, List.set_cons_zero, List.set_cons_succ])
                                      go_cut [108] (fun v108 wc => ∃ (kq : Nat) (x108_31 : Bool), v108 = .bool x108_31 ∧ Aside0 (impl_Raster.j4 kq l0 a1 a2 x9_2 x46_2 x11_4 x52_3 (wrap64 ((wrap64 (x52_3 * a1)) + (wrap64 (Int.tdiv a1 2)))) (wrap64 ((wrap64 (x46_2 * a1)) + (wrap64 (Int.tdiv a1 2)))) x15_4 a3 x46_2 a2 x52_3 x108_31 ((rd_T57 l0 x15_4).f0) ((rd_T57 l0 x15_4).f1) ((rd_T57 l0 x15_4).f2) ((rd_T57 l0 x15_4).f3) ((rd_T57 l0 x15_4).f4) ((rd_T57 l0 x15_4).f5) = some r) ∧ Aside0 (kq ≤ k4) ∧ Aside0 (Kd.V k57 57 wc w.heap.size (fun k_ => (P0_ k_ ∨ w.heap.size ≤ k_) ∧ some k_ ≠ (u9 : Value).ownBlock ∧ some k_ ≠ ((.slice (some ⟨go26, 0, none⟩) x11_4.length co26) : Value).ownBlock ∧ k_ ≠ gb297) (.slice (some ad296) l0.length c0) l0) ∧ Aside0 (Kd.R Kd.string 9 wc w.heap.size (fun k_ => (w.heap.size ≤ k_)) u9 x9_2) ∧ Aside0 (Kd.R (Kd.int .u8) 5 wc w.heap.size (fun k_ => (w.heap.size ≤ k_)) (.slice (some ⟨go26, 0, none⟩) x11_4.length co26) x11_4) ∧ Aside0 (wc.heap[gb297]? = some (.cells #[.int .i64 ((rd_T57 l0 x15_4).f0), .int .i64 ((rd_T57 l0 x15_4).f1), .int .i64 ((rd_T57 l0 x15_4).f2), .int .i64 ((rd_T57 l0 x15_4).f3), .int .i64 ((rd_T57 l0 x15_4).f4), .int .i64 ((rd_T57 l0 x15_4).f5)] 57 (0, 0))) ∧ Aside0 (Below w.heap.size w wc))
                                      case first =>
                                        have H := HC32.out
                                        clear HC32
                                        by_cases c35 : (wrap64 ((wrap64 (x52_3 * a1)) + (wrap64 (Int.tdiv a1 2)))) < ((rd_T57 l0 x15_4).f0)
                                        · rw [if_pos c35] at H
                                          have c35b0 : decide ((wrap64 ((wrap64 (x52_3 * a1)) + (wrap64 (Int.tdiv a1 2)))) < ((rd_T57 l0 x15_4).f0)) = true := decide_eq_true c35
                                          clear c35
                                          (first | rw [c35b0] | (simp only [i64_w, i32_w]; rw [c35b0]) | skip)
                                          have H' := Aside0.mk H
                                          clear H
                                          have hcz36_0 : w33.cell? ⟨gb297, 0, none⟩ = some (.int .i64 0) := (blk_cell BK297.out 0).trans rfl
                                          have hcz36_1 : w33.cell? ⟨gb297, 1, none⟩ = some (.int .i64 0) := (blk_cell BK297.out 1).trans rfl
                                          have hcz36_2 : w33.cell? ⟨gb297, 2, none⟩ = some (.int .i64 0) := (blk_cell BK297.out 2).trans rfl
                                          have hcz36_3 : w33.cell? ⟨gb297, 3, none⟩ = some (.int .i64 0) := (blk_cell BK297.out 3).trans rfl
                                          have hcz36_4 : w33.cell? ⟨gb297, 4, none⟩ = some (.int .i64 0) := (blk_cell BK297.out 4).trans rfl
                                          have hcz36_5 : w33.cell? ⟨gb297, 5, none⟩ = some (.int .i64 0) := (blk_cell BK297.out 5).trans rfl
                                          have hfz36_0 := blk_frozen BK297.out 0
                                          have hfz36_1 := blk_frozen BK297.out 1
                                          have hfz36_2 := blk_frozen BK297.out 2
                                          have hfz36_3 := blk_frozen BK297.out 3
                                          have hfz36_4 := blk_frozen BK297.out 4
                                          have hfz36_5 := blk_frozen BK297.out 5
                                          go_wp2
                                          go_meet
                                          case rel => exact ⟨_, (true), (by first | rfl | (simp; done) | (simp [*]; done)), H', ⟨by have := HJ4.out; have := HK2.out; have := HK3.out; have := HK4.out; first | omega | exact Nat.le_refl _⟩, ⟨by (try simp only [hl11_4]); (with_reducible repeat (first | apply Kd.V_alloc | apply Kd.V_drewN | apply Kd.V_drew)); exact Kd.V_mono (Kd.V_far (p := ⟨gb297, 5, none⟩) (Kd.V_far (p := ⟨gb297, 4, none⟩) (Kd.V_far (p := ⟨gb297, 3, none⟩) (Kd.V_far (p := ⟨gb297, 2, none⟩) (Kd.V_far (p := ⟨gb297, 1, none⟩) (Kd.V_far (p := ⟨gb297, 0, none⟩) (Kd.V_mono HO_0.out (fun k_ hk => (⟨hk, hk.2⟩ : _ ∧ k_ ≠ gb297))) (fun _ hk => hk.2) (.int .i64 ((rd_T57 l0 x15_4).f0))) (fun _ hk => hk.2) (.int .i64 ((rd_T57 l0 x15_4).f1))) (fun _ hk => hk.2) (.int .i64 ((rd_T57 l0 x15_4).f2))) (fun _ hk => hk.2) (.int .i64 ((rd_T57 l0 x15_4).f3))) (fun _ hk => hk.2) (.int .i64 ((rd_T57 l0 x15_4).f4))) (fun _ hk => hk.2) (.int .i64 ((rd_T57 l0 x15_4).f5))) (fun _ hk => ⟨hk.1.1.1, ⟨hk.1.1.2.1, ⟨hk.1.1.2.2, hk.1.2⟩⟩⟩)⟩, ⟨by (try simp only [hl11_4]); (with_reducible repeat (first | apply Kd.R_alloc | apply Kd.R_drewN | apply Kd.R_drew)); exact Kd.R_mono (Kd.R_far (p := ⟨gb297, 5, none⟩) (Kd.R_far (p := ⟨gb297, 4, none⟩) (Kd.R_far (p := ⟨gb297, 3, none⟩) (Kd.R_far (p := ⟨gb297, 2, none⟩) (Kd.R_far (p := ⟨gb297, 1, none⟩) (Kd.R_far (p := ⟨gb297, 0, none⟩) (Kd.R_types HO_9.out BK297.out (by decide)) (fun _ hk => hk.2) (.int .i64 ((rd_T57 l0 x15_4).f0))) (fun _ hk => hk.2) (.int .i64 ((rd_T57 l0 x15_4).f1))) (fun _ hk => hk.2) (.int .i64 ((rd_T57 l0 x15_4).f2))) (fun _ hk => hk.2) (.int .i64 ((rd_T57 l0 x15_4).f3))) (fun _ hk => hk.2) (.int .i64 ((rd_T57 l0 x15_4).f4))) (fun _ hk => hk.2) (.int .i64 ((rd_T57 l0 x15_4).f5))) (fun _ hk => hk.1)⟩, ⟨by (try simp only [hl11_4]); (with_reducible repeat (first | apply Kd.R_alloc | apply Kd.R_drewN | apply Kd.R_drew)); exact Kd.R_mono (Kd.R_far (p := ⟨gb297, 5, none⟩) (Kd.R_far (p := ⟨gb297, 4, none⟩) (Kd.R_far (p := ⟨gb297, 3, none⟩) (Kd.R_far (p := ⟨gb297, 2, none⟩) (Kd.R_far (p := ⟨gb297, 1, none⟩) (Kd.R_far (p := ⟨gb297, 0, none⟩) (Kd.R_types HO_11.out BK297.out (by decide)) (fun _ hk => hk.2) (.int .i64 ((rd_T57 l0 x15_4).f0))) (fun _ hk => hk.2) (.int .i64 ((rd_T57 l0 x15_4).f1))) (fun _ hk => hk.2) (.int .i64 ((rd_T57 l0 x15_4).f2))) (fun _ hk => hk.2) (.int .i64 ((rd_T57 l0 x15_4).f3))) (fun _ hk => hk.2) (.int .i64 ((rd_T57 l0 x15_4).f4))) (fun _ hk => hk.2) (.int .i64 ((rd_T57 l0 x15_4).f5))) (fun _ hk => hk.1)⟩, ⟨by (try simp only [hl11_4]); (with_reducible repeat (first | refine blk_drewN ?_ _ | refine blk_drew ?_ | refine blk_alloc ?_ _)); refine blk_put (cs := #[.int .i64 ((rd_T57 l0 x15_4).f0), .int .i64 ((rd_T57 l0 x15_4).f1), .int .i64 ((rd_T57 l0 x15_4).f2), .int .i64 ((rd_T57 l0 x15_4).f3), .int .i64 ((rd_T57 l0 x15_4).f4), .int .i64 0]) ?_ 5 _ rfl; (with_reducible repeat (first | refine blk_drewN ?_ _ | refine blk_drew ?_ | refine blk_alloc ?_ _)); refine blk_put (cs := #[.int .i64 ((rd_T57 l0 x15_4).f0), .int .i64 ((rd_T57 l0 x15_4).f1), .int .i64 ((rd_T57 l0 x15_4).f2), .int .i64 ((rd_T57 l0 x15_4).f3), .int .i64 0, .int .i64 0]) ?_ 4 _ rfl; (with_reducible repeat (first | refine blk_drewN ?_ _ | refine blk_drew ?_ | refine blk_alloc ?_ _)); refine blk_put (cs := #[.int .i64 ((rd_T57 l0 x15_4).f0), .int .i64 ((rd_T57 l0 x15_4).f1), .int .i64 ((rd_T57 l0 x15_4).f2), .int .i64 0, .int .i64 0, .int .i64 0]) ?_ 3 _ rfl; (with_reducible repeat (first | refine blk_drewN ?_ _ | refine blk_drew ?_ | refine blk_alloc ?_ _)); refine blk_put (cs := #[.int .i64 ((rd_T57 l0 x15_4).f0), .int .i64 ((rd_T57 l0 x15_4).f1), .int .i64 0, .int .i64 0, .int .i64 0, .int .i64 0]) ?_ 2 _ rfl; (with_reducible repeat (first | refine blk_drewN ?_ _ | refine blk_drew ?_ | refine blk_alloc ?_ _)); refine blk_put (cs := #[.int .i64 ((rd_T57 l0 x15_4).f0), .int .i64 0, .int .i64 0, .int .i64 0, .int .i64 0, .int .i64 0]) ?_ 1 _ rfl; (with_reducible repeat (first | refine blk_drewN ?_ _ | refine blk_drew ?_ | refine blk_alloc ?_ _)); refine blk_put (cs := #[.int .i64 0, .int .i64 0, .int .i64 0, .int .i64 0, .int .i64 0, .int .i64 0]) ?_ 0 _ rfl; (with_reducible repeat (first | refine blk_drewN ?_ _ | refine blk_drew ?_ | refine blk_alloc ?_ _)); exact BK297.out⟩, ⟨by repeat (first | (with_reducible first | exact HB.out | apply below_alloc | apply pw_below_drewN | apply below_drew1 | refine below_set ?_ GE297.out) | exact HB.out)⟩⟩
                                        · rw [if_neg c35] at H
                                          have c35b0 : decide ((wrap64 ((wrap64 (x52_3 * a1)) + (wrap64 (Int.tdiv a1 2)))) < ((rd_T57 l0 x15_4).f0)) = false := decide_eq_false c35
                                          clear c35
                                          (first | rw [c35b0] | (simp only [i64_w, i32_w]; rw [c35b0]) | skip)
                                          by_cases c37 : (wrap64 ((wrap64 (x52_3 * a1)) + (wrap64 (Int.tdiv a1 2)))) ≥ (wrap64 (((rd_T57 l0 x15_4).f0) + ((rd_T57 l0 x15_4).f4)))
                                          · rw [if_pos c37] at H
                                            have c37b0 : decide ((wrap64 (((rd_T57 l0 x15_4).f0) + ((rd_T57 l0 x15_4).f4))) ≤ (wrap64 ((wrap64 (x52_3 * a1)) + (wrap64 (Int.tdiv a1 2))))) = true := decide_eq_true c37
                                            clear c37
                                            have H' := Aside0.mk H
                                            clear H
                                            have hcz38_0 : w33.cell? ⟨gb297, 0, none⟩ = some (.int .i64 0) := (blk_cell BK297.out 0).trans rfl
                                            have hcz38_1 : w33.cell? ⟨gb297, 1, none⟩ = some (.int .i64 0) := (blk_cell BK297.out 1).trans rfl
                                            have hcz38_2 : w33.cell? ⟨gb297, 2, none⟩ = some (.int .i64 0) := (blk_cell BK297.out 2).trans rfl
                                            have hcz38_3 : w33.cell? ⟨gb297, 3, none⟩ = some (.int .i64 0) := (blk_cell BK297.out 3).trans rfl
                                            have hcz38_4 : w33.cell? ⟨gb297, 4, none⟩ = some (.int .i64 0) := (blk_cell BK297.out 4).trans rfl
                                            have hcz38_5 : w33.cell? ⟨gb297, 5, none⟩ = some (.int .i64 0) := (blk_cell BK297.out 5).trans rfl
                                            have hfz38_0 := blk_frozen BK297.out 0
                                            have hfz38_1 := blk_frozen BK297.out 1
                                            have hfz38_2 := blk_frozen BK297.out 2
                                            have hfz38_3 := blk_frozen BK297.out 3
                                            have hfz38_4 := blk_frozen BK297.out 4
                                            have hfz38_5 := blk_frozen BK297.out 5
                                            go_wp2
                                            go_meet
                                            case rel => exact ⟨_, (true), (by first | rfl | (simp; done) | (simp [*]; done)), H', ⟨by have := HJ4.out; have := HK2.out; have := HK3.out; have := HK4.out; first | omega | exact Nat.le_refl _⟩, ⟨by (try simp only [hl11_4]); (with_reducible repeat (first | apply Kd.V_alloc | apply Kd.V_drewN | apply Kd.V_drew)); exact Kd.V_mono (Kd.V_far (p := ⟨gb297, 5, none⟩) (Kd.V_far (p := ⟨gb297, 4, none⟩) (Kd.V_far (p := ⟨gb297, 3, none⟩) (Kd.V_far (p := ⟨gb297, 2, none⟩) (Kd.V_far (p := ⟨gb297, 1, none⟩) (Kd.V_far (p := ⟨gb297, 0, none⟩) (Kd.V_mono HO_0.out (fun k_ hk => (⟨hk, hk.2⟩ : _ ∧ k_ ≠ gb297))) (fun _ hk => hk.2) (.int .i64 ((rd_T57 l0 x15_4).f0))) (fun _ hk => hk.2) (.int .i64 ((rd_T57 l0 x15_4).f1))) (fun _ hk => hk.2) (.int .i64 ((rd_T57 l0 x15_4).f2))) (fun _ hk => hk.2) (.int .i64 ((rd_T57 l0 x15_4).f3))) (fun _ hk => hk.2) (.int .i64 ((rd_T57 l0 x15_4).f4))) (fun _ hk => hk.2) (.int .i64 ((rd_T57 l0 x15_4).f5))) (fun _ hk => ⟨hk.1.1.1, ⟨hk.1.1.2.1, ⟨hk.1.1.2.2, hk.1.2⟩⟩⟩)⟩, ⟨by (try simp only [hl11_4]); (with_reducible repeat (first | apply Kd.R_alloc | apply Kd.R_drewN | apply Kd.R_drew)); exact Kd.R_mono (Kd.R_far (p := ⟨gb297, 5, none⟩) (Kd.R_far (p := ⟨gb297, 4, none⟩) (Kd.R_far (p := ⟨gb297, 3, none⟩) (Kd.R_far (p := ⟨gb297, 2, none⟩) (Kd.R_far (p := ⟨gb297, 1, none⟩) (Kd.R_far (p := ⟨gb297, 0, none⟩) (Kd.R_types HO_9.out BK297.out (by decide)) (fun _ hk => hk.2) (.int .i64 ((rd_T57 l0 x15_4).f0))) (fun _ hk => hk.2) (.int .i64 ((rd_T57 l0 x15_4).f1))) (fun _ hk => hk.2) (.int .i64 ((rd_T57 l0 x15_4).f2))) (fun _ hk => hk.2) (.int .i64 ((rd_T57 l0 x15_4).f3))) (fun _ hk => hk.2) (.int .i64 ((rd_T57 l0 x15_4).f4))) (fun _ hk => hk.2) (.int .i64 ((rd_T57 l0 x15_4).f5))) (fun _ hk => hk.1)⟩, ⟨by (try simp only [hl11_4]); (with_reducible repeat (first | apply Kd.R_alloc | apply Kd.R_drewN | apply Kd.R_drew)); exact Kd.R_mono (Kd.R_far (p := ⟨gb297, 5, none⟩) (Kd.R_far (p := ⟨gb297, 4, none⟩) (Kd.R_far (p := ⟨gb297, 3, none⟩) (Kd.R_far (p := ⟨gb297, 2, none⟩) (Kd.R_far (p := ⟨gb297, 1, none⟩) (Kd.R_far (p := ⟨gb297, 0, none⟩) (Kd.R_types HO_11.out BK297.out (by decide)) (fun _ hk => hk.2) (.int .i64 ((rd_T57 l0 x15_4).f0))) (fun _ hk => hk.2) (.int .i64 ((rd_T57 l0 x15_4).f1))) (fun _ hk => hk.2) (.int .i64 ((rd_T57 l0 x15_4).f2))) (fun _ hk => hk.2) (.int .i64 ((rd_T57 l0 x15_4).f3))) (fun _ hk => hk.2) (.int .i64 ((rd_T57 l0 x15_4).f4))) (fun _ hk => hk.2) (.int .i64 ((rd_T57 l0 x15_4).f5))) (fun _ hk => hk.1)⟩, ⟨by (try simp only [hl11_4]); (with_reducible repeat (first | refine blk_drewN ?_ _ | refine blk_drew ?_ | refine blk_alloc ?_ _)); refine blk_put (cs := #[.int .i64 ((rd_T57 l0 x15_4).f0), .int .i64 ((rd_T57 l0 x15_4).f1), .int .i64 ((rd_T57 l0 x15_4).f2), .int .i64 ((rd_T57 l0 x15_4).f3), .int .i64 ((rd_T57 l0 x15_4).f4), .int .i64 0]) ?_ 5 _ rfl; (with_reducible repeat (first | refine blk_drewN ?_ _ | refine blk_drew ?_ | refine blk_alloc ?_ _)); refine blk_put (cs := #[.int .i64 ((rd_T57 l0 x15_4).f0), .int .i64 ((rd_T57 l0 x15_4).f1), .int .i64 ((rd_T57 l0 x15_4).f2), .int .i64 ((rd_T57 l0 x15_4).f3), .int .i64 0, .int .i64 0]) ?_ 4 _ rfl; (with_reducible repeat (first | refine blk_drewN ?_ _ | refine blk_drew ?_ | refine blk_alloc ?_ _)); refine blk_put (cs := #[.int .i64 ((rd_T57 l0 x15_4).f0), .int .i64 ((rd_T57 l0 x15_4).f1), .int .i64 ((rd_T57 l0 x15_4).f2), .int .i64 0, .int .i64 0, .int .i64 0]) ?_ 3 _ rfl; (with_reducible repeat (first | refine blk_drewN ?_ _ | refine blk_drew ?_ | refine blk_alloc ?_ _)); refine blk_put (cs := #[.int .i64 ((rd_T57 l0 x15_4).f0), .int .i64 ((rd_T57 l0 x15_4).f1), .int .i64 0, .int .i64 0, .int .i64 0, .int .i64 0]) ?_ 2 _ rfl; (with_reducible repeat (first | refine blk_drewN ?_ _ | refine blk_drew ?_ | refine blk_alloc ?_ _)); refine blk_put (cs := #[.int .i64 ((rd_T57 l0 x15_4).f0), .int .i64 0, .int .i64 0, .int .i64 0, .int .i64 0, .int .i64 0]) ?_ 1 _ rfl; (with_reducible repeat (first | refine blk_drewN ?_ _ | refine blk_drew ?_ | refine blk_alloc ?_ _)); refine blk_put (cs := #[.int .i64 0, .int .i64 0, .int .i64 0, .int .i64 0, .int .i64 0, .int .i64 0]) ?_ 0 _ rfl; (with_reducible repeat (first | refine blk_drewN ?_ _ | refine blk_drew ?_ | refine blk_alloc ?_ _)); exact BK297.out⟩, ⟨by repeat (first | (with_reducible first | exact HB.out | apply below_alloc | apply pw_below_drewN | apply below_drew1 | refine below_set ?_ GE297.out) | exact HB.out)⟩⟩
                                          · rw [if_neg c37] at H
                                            have c37b0 : decide ((wrap64 (((rd_T57 l0 x15_4).f0) + ((rd_T57 l0 x15_4).f4))) ≤ (wrap64 ((wrap64 (x52_3 * a1)) + (wrap64 (Int.tdiv a1 2))))) = false := decide_eq_false c37
                                            clear c37
                                            by_cases c39 : (wrap64 ((wrap64 (x46_2 * a1)) + (wrap64 (Int.tdiv a1 2)))) < (wrap64 (((rd_T57 l0 x15_4).f1) - ((rd_T57 l0 x15_4).f5)))
                                            · rw [if_pos c39] at H
                                              have c39b0 : decide ((wrap64 ((wrap64 (x46_2 * a1)) + (wrap64 (Int.tdiv a1 2)))) < (wrap64 (((rd_T57 l0 x15_4).f1) - ((rd_T57 l0 x15_4).f5)))) = true := decide_eq_true c39
                                              clear c39
                                              have H' := Aside0.mk H
                                              clear H
                                              have hcz40_0 : w33.cell? ⟨gb297, 0, none⟩ = some (.int .i64 0) := (blk_cell BK297.out 0).trans rfl
                                              have hcz40_1 : w33.cell? ⟨gb297, 1, none⟩ = some (.int .i64 0) := (blk_cell BK297.out 1).trans rfl
                                              have hcz40_2 : w33.cell? ⟨gb297, 2, none⟩ = some (.int .i64 0) := (blk_cell BK297.out 2).trans rfl
                                              have hcz40_3 : w33.cell? ⟨gb297, 3, none⟩ = some (.int .i64 0) := (blk_cell BK297.out 3).trans rfl
                                              have hcz40_4 : w33.cell? ⟨gb297, 4, none⟩ = some (.int .i64 0) := (blk_cell BK297.out 4).trans rfl
                                              have hcz40_5 : w33.cell? ⟨gb297, 5, none⟩ = some (.int .i64 0) := (blk_cell BK297.out 5).trans rfl
                                              have hfz40_0 := blk_frozen BK297.out 0
                                              have hfz40_1 := blk_frozen BK297.out 1
                                              have hfz40_2 := blk_frozen BK297.out 2
                                              have hfz40_3 := blk_frozen BK297.out 3
                                              have hfz40_4 := blk_frozen BK297.out 4
                                              have hfz40_5 := blk_frozen BK297.out 5
                                              go_wp2
                                              go_meet
                                              case rel => exact ⟨_, (true), (by first | rfl | (simp; done) | (simp [*]; done)), H', ⟨by have := HJ4.out; have := HK2.out; have := HK3.out; have := HK4.out; first | omega | exact Nat.le_refl _⟩, ⟨by (try simp only [hl11_4]); (with_reducible repeat (first | apply Kd.V_alloc | apply Kd.V_drewN | apply Kd.V_drew)); exact Kd.V_mono (Kd.V_far (p := ⟨gb297, 5, none⟩) (Kd.V_far (p := ⟨gb297, 4, none⟩) (Kd.V_far (p := ⟨gb297, 3, none⟩) (Kd.V_far (p := ⟨gb297, 2, none⟩) (Kd.V_far (p := ⟨gb297, 1, none⟩) (Kd.V_far (p := ⟨gb297, 0, none⟩) (Kd.V_mono HO_0.out (fun k_ hk => (⟨hk, hk.2⟩ : _ ∧ k_ ≠ gb297))) (fun _ hk => hk.2) (.int .i64 ((rd_T57 l0 x15_4).f0))) (fun _ hk => hk.2) (.int .i64 ((rd_T57 l0 x15_4).f1))) (fun _ hk => hk.2) (.int .i64 ((rd_T57 l0 x15_4).f2))) (fun _ hk => hk.2) (.int .i64 ((rd_T57 l0 x15_4).f3))) (fun _ hk => hk.2) (.int .i64 ((rd_T57 l0 x15_4).f4))) (fun _ hk => hk.2) (.int .i64 ((rd_T57 l0 x15_4).f5))) (fun _ hk => ⟨hk.1.1.1, ⟨hk.1.1.2.1, ⟨hk.1.1.2.2, hk.1.2⟩⟩⟩)⟩, ⟨by (try simp only [hl11_4]); (with_reducible repeat (first | apply Kd.R_alloc | apply Kd.R_drewN | apply Kd.R_drew)); exact Kd.R_mono (Kd.R_far (p := ⟨gb297, 5, none⟩) (Kd.R_far (p := ⟨gb297, 4, none⟩) (Kd.R_far (p := ⟨gb297, 3, none⟩) (Kd.R_far (p := ⟨gb297, 2, none⟩) (Kd.R_far (p := ⟨gb297, 1, none⟩) (Kd.R_far (p := ⟨gb297, 0, none⟩) (Kd.R_types HO_9.out BK297.out (by decide)) (fun _ hk => hk.2) (.int .i64 ((rd_T57 l0 x15_4).f0))) (fun _ hk => hk.2) (.int .i64 ((rd_T57 l0 x15_4).f1))) (fun _ hk => hk.2) (.int .i64 ((rd_T57 l0 x15_4).f2))) (fun _ hk => hk.2) (.int .i64 ((rd_T57 l0 x15_4).f3))) (fun _ hk => hk.2) (.int .i64 ((rd_T57 l0 x15_4).f4))) (fun _ hk => hk.2) (.int .i64 ((rd_T57 l0 x15_4).f5))) (fun _ hk => hk.1)⟩, ⟨by (try simp only [hl11_4]); (with_reducible repeat (first | apply Kd.R_alloc | apply Kd.R_drewN | apply Kd.R_drew)); exact Kd.R_mono (Kd.R_far (p := ⟨gb297, 5, none⟩) (Kd.R_far (p := ⟨gb297, 4, none⟩) (Kd.R_far (p := ⟨gb297, 3, none⟩) (Kd.R_far (p := ⟨gb297, 2, none⟩) (Kd.R_far (p := ⟨gb297, 1, none⟩) (Kd.R_far (p := ⟨gb297, 0, none⟩) (Kd.R_types HO_11.out BK297.out (by decide)) (fun _ hk => hk.2) (.int .i64 ((rd_T57 l0 x15_4).f0))) (fun _ hk => hk.2) (.int .i64 ((rd_T57 l0 x15_4).f1))) (fun _ hk => hk.2) (.int .i64 ((rd_T57 l0 x15_4).f2))) (fun _ hk => hk.2) (.int .i64 ((rd_T57 l0 x15_4).f3))) (fun _ hk => hk.2) (.int .i64 ((rd_T57 l0 x15_4).f4))) (fun _ hk => hk.2) (.int .i64 ((rd_T57 l0 x15_4).f5))) (fun _ hk => hk.1)⟩, ⟨by (try simp only [hl11_4]); (with_reducible repeat (first | refine blk_drewN ?_ _ | refine blk_drew ?_ | refine blk_alloc ?_ _)); refine blk_put (cs := #[.int .i64 ((rd_T57 l0 x15_4).f0), .int .i64 ((rd_T57 l0 x15_4).f1), .int .i64 ((rd_T57 l0 x15_4).f2), .int .i64 ((rd_T57 l0 x15_4).f3), .int .i64 ((rd_T57 l0 x15_4).f4), .int .i64 0]) ?_ 5 _ rfl; (with_reducible repeat (first | refine blk_drewN ?_ _ | refine blk_drew ?_ | refine blk_alloc ?_ _)); refine blk_put (cs := #[.int .i64 ((rd_T57 l0 x15_4).f0), .int .i64 ((rd_T57 l0 x15_4).f1), .int .i64 ((rd_T57 l0 x15_4).f2), .int .i64 ((rd_T57 l0 x15_4).f3), .int .i64 0, .int .i64 0]) ?_ 4 _ rfl; (with_reducible repeat (first | refine blk_drewN ?_ _ | refine blk_drew ?_ | refine blk_alloc ?_ _)); refine blk_put (cs := #[.int .i64 ((rd_T57 l0 x15_4).f0), .int .i64 ((rd_T57 l0 x15_4).f1), .int .i64 ((rd_T57 l0 x15_4).f2), .int .i64 0, .int .i64 0, .int .i64 0]) ?_ 3 _ rfl; (with_reducible repeat (first | refine blk_drewN ?_ _ | refine blk_drew ?_ | refine blk_alloc ?_ _)); refine blk_put (cs := #[.int .i64 ((rd_T57 l0 x15_4).f0), .int .i64 ((rd_T57 l0 x15_4).f1), .int .i64 0, .int .i64 0, .int .i64 0, .int .i64 0]) ?_ 2 _ rfl; (with_reducible repeat (first | refine blk_drewN ?_ _ | refine blk_drew ?_ | refine blk_alloc ?_ _)); refine blk_put (cs := #[.int .i64 ((rd_T57 l0 x15_4).f0), .int .i64 0, .int .i64 0, .int .i64 0, .int .i64 0, .int .i64 0]) ?_ 1 _ rfl; (with_reducible repeat (first | refine blk_drewN ?_ _ | refine blk_drew ?_ | refine blk_alloc ?_ _)); refine blk_put (cs := #[.int .i64 0, .int .i64 0, .int .i64 0, .int .i64 0, .int .i64 0, .int .i64 0]) ?_ 0 _ rfl; (with_reducible repeat (first | refine blk_drewN ?_ _ | refine blk_drew ?_ | refine blk_alloc ?_ _)); exact BK297.out⟩, ⟨by repeat (first | (with_reducible first | exact HB.out | apply below_alloc | apply pw_below_drewN | apply below_drew1 | refine below_set ?_ GE297.out) | exact HB.out)⟩⟩
                                            · rw [if_neg c39] at H
                                              have c39b0 : decide ((wrap64 ((wrap64 (x46_2 * a1)) + (wrap64 (Int.tdiv a1 2)))) < (wrap64 (((rd_T57 l0 x15_4).f1) - ((rd_T57 l0 x15_4).f5)))) = false := decide_eq_false c39
                                              clear c39
                                              have H' := Aside0.mk H
                                              clear H
                                              have hcz41_0 : w33.cell? ⟨gb297, 0, none⟩ = some (.int .i64 0) := (blk_cell BK297.out 0).trans rfl
                                              have hcz41_1 : w33.cell? ⟨gb297, 1, none⟩ = some (.int .i64 0) := (blk_cell BK297.out 1).trans rfl
                                              have hcz41_2 : w33.cell? ⟨gb297, 2, none⟩ = some (.int .i64 0) := (blk_cell BK297.out 2).trans rfl
                                              have hcz41_3 : w33.cell? ⟨gb297, 3, none⟩ = some (.int .i64 0) := (blk_cell BK297.out 3).trans rfl
                                              have hcz41_4 : w33.cell? ⟨gb297, 4, none⟩ = some (.int .i64 0) := (blk_cell BK297.out 4).trans rfl
                                              have hcz41_5 : w33.cell? ⟨gb297, 5, none⟩ = some (.int .i64 0) := (blk_cell BK297.out 5).trans rfl
                                              have hfz41_0 := blk_frozen BK297.out 0
                                              have hfz41_1 := blk_frozen BK297.out 1
                                              have hfz41_2 := blk_frozen BK297.out 2
                                              have hfz41_3 := blk_frozen BK297.out 3
                                              have hfz41_4 := blk_frozen BK297.out 4
                                              have hfz41_5 := blk_frozen BK297.out 5
                                              go_wp2
                                              go_meet
                                              case rel => exact ⟨_, (decide ((wrap64 ((wrap64 (x46_2 * a1)) + (wrap64 (Int.tdiv a1 2)))) ≥ ((rd_T57 l0 x15_4).f1))), (by first | rfl | (simp; done) | (simp [*]; done)), H', ⟨by have := HJ4.out; have := HK2.out; have := HK3.out; have := HK4.out; first | omega | exact Nat.le_refl _⟩, ⟨by (try simp only [hl11_4]); (with_reducible repeat (first | apply Kd.V_alloc | apply Kd.V_drewN | apply Kd.V_drew)); exact Kd.V_mono (Kd.V_far (p := ⟨gb297, 5, none⟩) (Kd.V_far (p := ⟨gb297, 4, none⟩) (Kd.V_far (p := ⟨gb297, 3, none⟩) (Kd.V_far (p := ⟨gb297, 2, none⟩) (Kd.V_far (p := ⟨gb297, 1, none⟩) (Kd.V_far (p := ⟨gb297, 0, none⟩) (Kd.V_mono HO_0.out (fun k_ hk => (⟨hk, hk.2⟩ : _ ∧ k_ ≠ gb297))) (fun _ hk => hk.2) (.int .i64 ((rd_T57 l0 x15_4).f0))) (fun _ hk => hk.2) (.int .i64 ((rd_T57 l0 x15_4).f1))) (fun _ hk => hk.2) (.int .i64 ((rd_T57 l0 x15_4).f2))) (fun _ hk => hk.2) (.int .i64 ((rd_T57 l0 x15_4).f3))) (fun _ hk => hk.2) (.int .i64 ((rd_T57 l0 x15_4).f4))) (fun _ hk => hk.2) (.int .i64 ((rd_T57 l0 x15_4).f5))) (fun _ hk => ⟨hk.1.1.1, ⟨hk.1.1.2.1, ⟨hk.1.1.2.2, hk.1.2⟩⟩⟩)⟩, ⟨by (try simp only [hl11_4]); (with_reducible repeat (first | apply Kd.R_alloc | apply Kd.R_drewN | apply Kd.R_drew)); exact Kd.R_mono (Kd.R_far (p := ⟨gb297, 5, none⟩) (Kd.R_far (p := ⟨gb297, 4, none⟩) (Kd.R_far (p := ⟨gb297, 3, none⟩) (Kd.R_far (p := ⟨gb297, 2, none⟩) (Kd.R_far (p := ⟨gb297, 1, none⟩) (Kd.R_far (p := ⟨gb297, 0, none⟩) (Kd.R_types HO_9.out BK297.out (by decide)) (fun _ hk => hk.2) (.int .i64 ((rd_T57 l0 x15_4).f0))) (fun _ hk => hk.2) (.int .i64 ((rd_T57 l0 x15_4).f1))) (fun _ hk => hk.2) (.int .i64 ((rd_T57 l0 x15_4).f2))) (fun _ hk => hk.2) (.int .i64 ((rd_T57 l0 x15_4).f3))) (fun _ hk => hk.2) (.int .i64 ((rd_T57 l0 x15_4).f4))) (fun _ hk => hk.2) (.int .i64 ((rd_T57 l0 x15_4).f5))) (fun _ hk => hk.1)⟩, ⟨by (try simp only [hl11_4]); (with_reducible repeat (first | apply Kd.R_alloc | apply Kd.R_drewN | apply Kd.R_drew)); exact Kd.R_mono (Kd.R_far (p := ⟨gb297, 5, none⟩) (Kd.R_far (p := ⟨gb297, 4, none⟩) (Kd.R_far (p := ⟨gb297, 3, none⟩) (Kd.R_far (p := ⟨gb297, 2, none⟩) (Kd.R_far (p := ⟨gb297, 1, none⟩) (Kd.R_far (p := ⟨gb297, 0, none⟩) (Kd.R_types HO_11.out BK297.out (by decide)) (fun _ hk => hk.2) (.int .i64 ((rd_T57 l0 x15_4).f0))) (fun _ hk => hk.2) (.int .i64 ((rd_T57 l0 x15_4).f1))) (fun _ hk => hk.2) (.int .i64 ((rd_T57 l0 x15_4).f2))) (fun _ hk => hk.2) (.int .i64 ((rd_T57 l0 x15_4).f3))) (fun _ hk => hk.2) (.int .i64 ((rd_T57 l0 x15_4).f4))) (fun _ hk => hk.2) (.int .i64 ((rd_T57 l0 x15_4).f5))) (fun _ hk => hk.1)⟩, ⟨by (try simp only [hl11_4]); (with_reducible repeat (first | refine blk_drewN ?_ _ | refine blk_drew ?_ | refine blk_alloc ?_ _)); refine blk_put (cs := #[.int .i64 ((rd_T57 l0 x15_4).f0), .int .i64 ((rd_T57 l0 x15_4).f1), .int .i64 ((rd_T57 l0 x15_4).f2), .int .i64 ((rd_T57 l0 x15_4).f3), .int .i64 ((rd_T57 l0 x15_4).f4), .int .i64 0]) ?_ 5 _ rfl; (with_reducible repeat (first | refine blk_drewN ?_ _ | refine blk_drew ?_ | refine blk_alloc ?_ _)); refine blk_put (cs := #[.int .i64 ((rd_T57 l0 x15_4).f0), .int .i64 ((rd_T57 l0 x15_4).f1), .int .i64 ((rd_T57 l0 x15_4).f2), .int .i64 ((rd_T57 l0 x15_4).f3), .int .i64 0, .int .i64 0]) ?_ 4 _ rfl; (with_reducible repeat (first | refine blk_drewN ?_ _ | refine blk_drew ?_ | refine blk_alloc ?_ _)); refine blk_put (cs := #[.int .i64 ((rd_T57 l0 x15_4).f0), .int .i64 ((rd_T57 l0 x15_4).f1), .int .i64 ((rd_T57 l0 x15_4).f2), .int .i64 0, .int .i64 0, .int .i64 0]) ?_ 3 _ rfl; (with_reducible repeat (first | refine blk_drewN ?_ _ | refine blk_drew ?_ | refine blk_alloc ?_ _)); refine blk_put (cs := #[.int .i64 ((rd_T57 l0 x15_4).f0), .int .i64 ((rd_T57 l0 x15_4).f1), .int .i64 0, .int .i64 0, .int .i64 0, .int .i64 0]) ?_ 2 _ rfl; (with_reducible repeat (first | refine blk_drewN ?_ _ | refine blk_drew ?_ | refine blk_alloc ?_ _)); refine blk_put (cs := #[.int .i64 ((rd_T57 l0 x15_4).f0), .int .i64 0, .int .i64 0, .int .i64 0, .int .i64 0, .int .i64 0]) ?_ 1 _ rfl; (with_reducible repeat (first | refine blk_drewN ?_ _ | refine blk_drew ?_ | refine blk_alloc ?_ _)); refine blk_put (cs := #[.int .i64 0, .int .i64 0, .int .i64 0, .int .i64 0, .int .i64 0, .int .i64 0]) ?_ 0 _ rfl; (with_reducible repeat (first | refine blk_drewN ?_ _ | refine blk_drew ?_ | refine blk_alloc ?_ _)); exact BK297.out⟩, ⟨by repeat (first | (with_reducible first | exact HB.out | apply below_alloc | apply pw_below_drewN | apply below_drew1 | refine below_set ?_ GE297.out) | exact HB.out)⟩⟩
                                      case rest =>
                                        clear HC32
                                        try clear c1
                                        try clear c2
                                        try clear p2
                                        try clear q2
                                        try clear hx2
                                        try clear c3
                                        try clear c6
                                        try clear c6b0
                                        try clear p6
                                        try clear c7
                                        try clear c7b0
                                        try clear c8
                                        try clear c8b0
                                        try clear c9
                                        try clear c9b0
                                        try clear c10
                                        try clear c10b0
                                        try clear c11
                                        try clear c11b0
                                        try clear c17
                                        try clear c18
                                        try clear c18b0
                                        try clear c19
                                        try clear c19b0
                                        try clear c19b1
                                        try clear c20
                                        try clear c20b0
                                        try clear c20b1
                                        try clear c23
                                        try clear c23b0
                                        try clear c24
                                        try clear c24b0
                                        try clear c25
                                        try clear c25b0
                                        try clear p26
                                        try clear q26
                                        try clear hx26
                                        try clear hf26
                                        try clear c29
                                        try clear c29b0
                                        try clear p29
                                        try clear q29
                                        try clear hx29
                                        try clear c30
                                        try clear c30b0
                                        try clear c31
                                        try clear c31b0
                                        try clear c34
                                        try clear c35
                                        try clear c35b0
                                        try clear c37
                                        try clear c37b0
                                        try clear c39
                                        try clear c39b0
                                        try clear hcz34_0
                                        try clear hcz34_1
                                        try clear hcz34_2
                                        try clear hcz34_3
                                        try clear hcz34_4
                                        try clear hcz34_5
                                        try clear hcz36_0
                                        try clear hcz36_1
                                        try clear hcz36_2
                                        try clear hcz36_3
                                        try clear hcz36_4
                                        try clear hcz36_5
                                        try clear hcz38_0
                                        try clear hcz38_1
                                        try clear hcz38_2
                                        try clear hcz38_3
                                        try clear hcz38_4
                                        try clear hcz38_5
                                        try clear hcz40_0
                                        try clear hcz40_1
                                        try clear hcz40_2
                                        try clear hcz40_3
                                        try clear hcz40_4
                                        try clear hcz40_5
                                        try clear hcz41_0
                                        try clear hcz41_1
                                        try clear hcz41_2
                                        try clear hcz41_3
                                        try clear hcz41_4
                                        try clear hcz41_5
                                        try clear hfz34_0
                                        try clear hfz34_1
                                        try clear hfz34_2
                                        try clear hfz34_3
                                        try clear hfz34_4
                                        try clear hfz34_5
                                        try clear hfz36_0
                                        try clear hfz36_1
                                        try clear hfz36_2
                                        try clear hfz36_3
                                        try clear hfz36_4
                                        try clear hfz36_5
                                        try clear hfz38_0
                                        try clear hfz38_1
                                        try clear hfz38_2
                                        try clear hfz38_3
                                        try clear hfz38_4
                                        try clear hfz38_5
                                        try clear hfz40_0
                                        try clear hfz40_1
                                        try clear hfz40_2
                                        try clear hfz40_3
                                        try clear hfz40_4
                                        try clear hfz40_5
                                        try clear hfz41_0
                                        try clear hfz41_1
                                        try clear hfz41_2
                                        try clear hfz41_3
                                        try clear hfz41_4
                                        try clear hfz41_5
                                        try clear hx26_0
                                        try clear hx296_0
                                        try clear hx296_1
                                        try clear hx296_2
                                        try clear hx296_3
                                        try clear hx296_4
                                        try clear hx296_5
                                        try clear p2
                                        try clear p26
                                        try clear p296
                                        try clear p6
                                        try clear q2
                                        try clear q26
                                        try clear q296
                                        obtain ⟨kq, x108_31, rfl, HA, HJ31, HO_0, HO_9, HO_11, BK297, HB⟩ := hcut
                                        cases kq with
                                        | zero => exact absurd HA.out (by simp [impl_Raster.j4])
                                        | succ kj31 =>
                                          have H := HA.out
                                          clear HA
                                          simp only [impl_Raster.j4] at H
                                          by_cases c42 : x108_31 = true
                                          · subst c42
                                            have H1 : (impl_Raster.l2 kj31 l0 a1 a2 x9_2 x46_2 x11_4 x52_3 (wrap64 ((wrap64 (x52_3 * a1)) + (wrap64 (Int.tdiv a1 2)))) (wrap64 ((wrap64 (x46_2 * a1)) + (wrap64 (Int.tdiv a1 2)))) (wrap64 (x15_4 - 1)) a3 x46_2 a2 x52_3) = some r := by rw [if_pos rfl] at H; exact H
                                            clear H
                                            have H := H1
                                            clear H1
                                            have H' := Aside0.mk H
                                            clear H
                                            go_wp2
                                            (try simp only [← hl11_4])
                                            go_roundg kj31
                                            case measure => have := HJ4.out; have := HK2.out; have := HK3.out; have := HK4.out; have := HJ31.out; omega
                                            case rel => exact ⟨(x11_4), (wrap64 (x15_4 - 1)), (by first | rfl | (simp; done) | (simp [*]; done)), H', ⟨by have := HJ4.out; have := HK2.out; have := HK3.out; have := HK4.out; have := HJ31.out; omega⟩, ⟨by (try simp only [hl11_4]); (with_reducible repeat (first | apply Kd.V_alloc | apply Kd.V_drewN | apply Kd.V_drew)); exact Kd.V_mono HO_0.out (fun _ hk => ⟨hk.1, ⟨hk.2.1, hk.2.2.1⟩⟩)⟩, ⟨by (try simp only [hl11_4]); (with_reducible repeat (first | apply Kd.R_alloc | apply Kd.R_drewN | apply Kd.R_drew)); exact HO_9.out⟩, ⟨by (try simp only [hl11_4]); (with_reducible repeat (first | apply Kd.R_alloc | apply Kd.R_drewN | apply Kd.R_drew)); exact HO_11.out⟩, ⟨by repeat (first | (with_reducible first | exact HB.out | apply below_alloc | apply pw_below_drewN | apply below_drew1 | refine below_set ?_ GE297.out) | exact HB.out)⟩⟩
                                          · replace c42 := Bool.eq_false_iff.mpr c42
                                            subst c42
                                            have H1 : (if ((rd_T57 l0 x15_4).f3) < 0 then (if 0 ≤ x52_3 then (if x52_3 < (x11_4.length : Int) then (impl_Raster.l1 kj31 l0 a1 a2 x9_2 x46_2 (x11_4.set (x52_3 : Int).toNat 35) a3 x46_2 a2 (wrap64 (x52_3 + 1))) else (none)) else (none)) else (if ((rd_T57 l0 x15_4).f3) ≥ 33 then (if ((rd_T57 l0 x15_4).f3) ≤ 126 then (if 0 ≤ x52_3 then (if x52_3 < (x11_4.length : Int) then (impl_Raster.l1 kj31 l0 a1 a2 x9_2 x46_2 (x11_4.set (x52_3 : Int).toNat ((((rd_T57 l0 x15_4).f3)) % 256)) a3 x46_2 a2 (wrap64 (x52_3 + 1))) else (none)) else (none)) else (if 0 ≤ x52_3 then (if x52_3 < (x11_4.length : Int) then (impl_Raster.l1 kj31 l0 a1 a2 x9_2 x46_2 (x11_4.set (x52_3 : Int).toNat 63) a3 x46_2 a2 (wrap64 (x52_3 + 1))) else (none)) else (none))) else (if 0 ≤ x52_3 then (if x52_3 < (x11_4.length : Int) then (impl_Raster.l1 kj31 l0 a1 a2 x9_2 x46_2 (x11_4.set (x52_3 : Int).toNat 63) a3 x46_2 a2 (wrap64 (x52_3 + 1))) else (none)) else (none)))) = some r := by rw [if_neg (show ¬ (false = true) by decide)] at H; exact H
                                            clear H
                                            have H := H1
                                            clear H1
                                            by_cases c43 : ((rd_T57 l0 x15_4).f3) < 0
                                            · rw [if_pos c43] at H
                                              have c43b0 : decide (((rd_T57 l0 x15_4).f3) < 0) = true := decide_eq_true c43
                                              clear c43
                                              by_cases c44 : 0 ≤ x52_3
                                              · rw [if_pos c44] at H
                                                have c44b0 : decide (0 ≤ x52_3) = true := decide_eq_true c44
                                                clear c44
                                                by_cases c45 : x52_3 < (x11_4.length : Int)
                                                · rw [if_pos c45] at H
                                                  have c45b0 : decide (x52_3 < (x11_4.length : Int)) = true := decide_eq_true c45
                                                  clear c45
                                                  obtain ⟨y298, hy298⟩ : ∃ y_ : List Int, y_ = (x11_4.set (x52_3 : Int).toNat 35) := ⟨_, rfl⟩
                                                  replace H : (impl_Raster.l1 kj31 l0 a1 a2 x9_2 x46_2 y298 a3 x46_2 a2 (wrap64 (x52_3 + 1))) = some r := by first | (rw [hy298]; with_reducible exact H) | (have H2_ := (Option.bind_some _ _).symm.trans H; rw [hy298]; with_reducible exact H2_) | (have H2_ := (Option.bind_some _ _).symm.trans H; with_reducible exact H2_) | with_reducible exact H | (rw [hy298]; exact H) | exact H
                                                  have Ny298 := Aside0.mk hy298
                                                  clear hy298
                                                  have H' := Aside0.mk H
                                                  clear H
                                                  have hcz47_0 : wc.cell? ⟨gb297, 0, none⟩ = some (.int .i64 ((rd_T57 l0 x15_4).f0)) := (blk_cell BK297.out 0).trans rfl
                                                  have hcz47_1 : wc.cell? ⟨gb297, 1, none⟩ = some (.int .i64 ((rd_T57 l0 x15_4).f1)) := (blk_cell BK297.out 1).trans rfl
                                                  have hcz47_2 : wc.cell? ⟨gb297, 2, none⟩ = some (.int .i64 ((rd_T57 l0 x15_4).f2)) := (blk_cell BK297.out 2).trans rfl
                                                  have hcz47_3 : wc.cell? ⟨gb297, 3, none⟩ = some (.int .i64 ((rd_T57 l0 x15_4).f3)) := (blk_cell BK297.out 3).trans rfl
                                                  have hcz47_4 : wc.cell? ⟨gb297, 4, none⟩ = some (.int .i64 ((rd_T57 l0 x15_4).f4)) := (blk_cell BK297.out 4).trans rfl
                                                  have hcz47_5 : wc.cell? ⟨gb297, 5, none⟩ = some (.int .i64 ((rd_T57 l0 x15_4).f5)) := (blk_cell BK297.out 5).trans rfl
                                                  have hfz47_0 := blk_frozen BK297.out 0
                                                  have hfz47_1 := blk_frozen BK297.out 1
                                                  have hfz47_2 := blk_frozen BK297.out 2
                                                  have hfz47_3 := blk_frozen BK297.out 3
                                                  have hfz47_4 := blk_frozen BK297.out 4
                                                  have hfz47_5 := blk_frozen BK297.out 5
                                                  have p46 : 0 ≤ (x52_3 : Int) := of_decide_eq_true (by first | (with_reducible assumption) | assumption)
                                                  have q46 : (x52_3 : Int) < ((x11_4.length : Int) : Int) := of_decide_eq_true (by first | (with_reducible assumption) | assumption)
                                                  obtain ⟨hx46_0, hf46_0⟩ := Kd.R_celln 0 HO_11.out (x52_3 : Int) p46 q46
                                                  replace p46 := eq_true p46
                                                  replace q46 := eq_true q46
                                                  have HP48 := Kd.R_putg HO_11.out (x52_3 : Int) 35
                                                  go_wp2_with (first | ((with_reducible refine gate_store (t := 5) (p := 118) rfl ?_); refine store_event (t := 5) (p := 118) (v := ?vo_w49) (w1 := (wc.setCell ⟨go26, (x52_3 : Int).toNat, none⟩ (.int .u8 35))) ?hg ?ho ?hn ?hr ?_; (case ho => rfl); (case hg => rfl); (case hn => rfl); (case hr => first | (go_simp; done) | (go_simp; rfl)); intro w49 hw; have hg : wc.grownBy w49 (some go26) := (by rw [hw]; exact HP48.2); have hp_ : Kd.R (Kd.int .u8) 5 w49 w.heap.size (fun k_ => (w.heap.size ≤ k_)) (.slice (some ⟨go26, 0, none⟩) x11_4.length co26) y298 := (by rw [hw, Ny298.out]; exact HP48.1); clear HP48; have n0_ := Aside0.mk (Kd.V_afterv (v := (.slice (some ⟨go26, 0, none⟩) x11_4.length co26)) (v1 := (.slice (some ⟨go26, 0, none⟩) x11_4.length co26)) (ok := (fun k_ => (P0_ k_ ∨ w.heap.size ≤ k_) ∧ some k_ ≠ (u9 : Value).ownBlock ∧ k_ ≠ gb297)) (by (with_reducible repeat (first | apply Kd.V_alloc | apply Kd.V_drewN | apply Kd.V_drew)); exact Kd.V_mono HO_0.out (fun _ hk => ⟨⟨hk.1, ⟨hk.2.1, hk.2.2.2⟩⟩, hk.2.2.1⟩)) hg (.inl rfl)); have n1_ := Aside0.mk (Kd.R_over' (v := (.slice (some ⟨go26, 0, none⟩) x11_4.length co26)) (by (with_reducible repeat (first | apply Kd.R_alloc | apply Kd.R_drewN | apply Kd.R_drew)); exact HO_9.out) (Kd.R_typed HO_11.out) (by decide) hg); have n2_ := Aside0.mk (hp_); have n3_ := Aside0.mk (blk_grown (g := gb297) (o := .cells #[.int .i64 ((rd_T57 l0 x15_4).f0), .int .i64 ((rd_T57 l0 x15_4).f1), .int .i64 ((rd_T57 l0 x15_4).f2), .int .i64 ((rd_T57 l0 x15_4).f3), .int .i64 ((rd_T57 l0 x15_4).f4), .int .i64 ((rd_T57 l0 x15_4).f5)] 57 (0, 0)) (by (with_reducible repeat (first | refine blk_drewN ?_ _ | refine blk_drew ?_ | refine blk_alloc ?_ _)); exact BK297.out) hg (Kd.R_ne HO_11.out BK297.out (by decide))); have n4_ := Aside0.mk ((by rw [hw]; exact below_set (HB.out) GB26.out : Below w.heap.size w w49)); clear HO_0; clear HO_9; clear HO_11; clear BK297; clear HB; have HO_0 := n0_; have HO_9 := n1_; have HO_11 := n2_; have BK297 := n3_; have HB := n4_; clear n0_ n1_ n2_ n3_ n4_; clear hg hw hp_))
                                                  (try simp only [← hl11_4])
                                                  go_roundg kj31
                                                  case measure => have := HJ4.out; have := HK2.out; have := HK3.out; have := HK4.out; have := HJ31.out; omega
                                                  case rel => exact ⟨(y298), (wrap64 (x52_3 + 1)), (by first | rfl | (simp; done) | (simp [*]; done)), H', ⟨by have := HJ4.out; have := HK2.out; have := HK3.out; have := HK4.out; have := HJ31.out; omega⟩, ⟨by (try simp only [hl11_4]); (with_reducible repeat (first | apply Kd.V_alloc | apply Kd.V_drewN | apply Kd.V_drew)); exact Kd.V_mono HO_0.out (fun _ hk => ⟨hk.1.1, ⟨hk.1.2.1, hk.2⟩⟩)⟩, ⟨by (try simp only [hl11_4]); (with_reducible repeat (first | apply Kd.R_alloc | apply Kd.R_drewN | apply Kd.R_drew)); exact HO_9.out⟩, ⟨by (try simp only [hl11_4]); (with_reducible repeat (first | apply Kd.R_alloc | apply Kd.R_drewN | apply Kd.R_drew)); exact HO_11.out⟩, ⟨by repeat (first | (with_reducible first | exact HB.out | apply below_alloc | apply pw_below_drewN | apply below_drew1 | refine below_set ?_ GE297.out) | exact HB.out)⟩⟩
                                                · rw [if_neg c45] at H
                                                  exact absurd H (by simp)
                                              · rw [if_neg c44] at H
                                                exact absurd H (by simp)
                                            · rw [if_neg c43] at H
                                              have c43b0 : decide (((rd_T57 l0 x15_4).f3) < 0) = false := decide_eq_false c43
                                              clear c43
                                              by_cases c50 : ((rd_T57 l0 x15_4).f3) ≥ 33
                                              · rw [if_pos c50] at H
                                                have c50b0 : decide (33 ≤ ((rd_T57 l0 x15_4).f3)) = true := decide_eq_true c50
                                                clear c50
                                                by_cases c51 : ((rd_T57 l0 x15_4).f3) ≤ 126
                                                · rw [if_pos c51] at H
                                                  have c51b0 : decide (((rd_T57 l0 x15_4).f3) ≤ 126) = true := decide_eq_true c51
                                                  clear c51
                                                  by_cases c52 : 0 ≤ x52_3
                                                  · rw [if_pos c52] at H
                                                    have c52b0 : decide (0 ≤ x52_3) = true := decide_eq_true c52
                                                    clear c52
                                                    by_cases c53 : x52_3 < (x11_4.length : Int)
                                                    · rw [if_pos c53] at H
                                                      have c53b0 : decide (x52_3 < (x11_4.length : Int)) = true := decide_eq_true c53
                                                      clear c53
                                                      obtain ⟨y299, hy299⟩ : ∃ y_ : List Int, y_ = (x11_4.set (x52_3 : Int).toNat ((((rd_T57 l0 x15_4).f3)) % 256)) := ⟨_, rfl⟩
                                                      replace H : (impl_Raster.l1 kj31 l0 a1 a2 x9_2 x46_2 y299 a3 x46_2 a2 (wrap64 (x52_3 + 1))) = some r := by first | (rw [hy299]; with_reducible exact H) | (have H2_ := (Option.bind_some _ _).symm.trans H; rw [hy299]; with_reducible exact H2_) | (have H2_ := (Option.bind_some _ _).symm.trans H; with_reducible exact H2_) | with_reducible exact H | (rw [hy299]; exact H) | exact H
                                                      have Ny299 := Aside0.mk hy299
                                                      clear hy299
                                                      have H' := Aside0.mk H
                                                      clear H
                                                      have hcz55_0 : wc.cell? ⟨gb297, 0, none⟩ = some (.int .i64 ((rd_T57 l0 x15_4).f0)) := (blk_cell BK297.out 0).trans rfl
                                                      have hcz55_1 : wc.cell? ⟨gb297, 1, none⟩ = some (.int .i64 ((rd_T57 l0 x15_4).f1)) := (blk_cell BK297.out 1).trans rfl
                                                      have hcz55_2 : wc.cell? ⟨gb297, 2, none⟩ = some (.int .i64 ((rd_T57 l0 x15_4).f2)) := (blk_cell BK297.out 2).trans rfl
                                                      have hcz55_3 : wc.cell? ⟨gb297, 3, none⟩ = some (.int .i64 ((rd_T57 l0 x15_4).f3)) := (blk_cell BK297.out 3).trans rfl
                                                      have hcz55_4 : wc.cell? ⟨gb297, 4, none⟩ = some (.int .i64 ((rd_T57 l0 x15_4).f4)) := (blk_cell BK297.out 4).trans rfl
                                                      have hcz55_5 : wc.cell? ⟨gb297, 5, none⟩ = some (.int .i64 ((rd_T57 l0 x15_4).f5)) := (blk_cell BK297.out 5).trans rfl
                                                      have hfz55_0 := blk_frozen BK297.out 0
                                                      have hfz55_1 := blk_frozen BK297.out 1
                                                      have hfz55_2 := blk_frozen BK297.out 2
                                                      have hfz55_3 := blk_frozen BK297.out 3
                                                      have hfz55_4 := blk_frozen BK297.out 4
                                                      have hfz55_5 := blk_frozen BK297.out 5
                                                      have p54 : 0 ≤ (x52_3 : Int) := of_decide_eq_true (by first | (with_reducible assumption) | assumption)
                                                      have q54 : (x52_3 : Int) < ((x11_4.length : Int) : Int) := of_decide_eq_true (by first | (with_reducible assumption) | assumption)
                                                      obtain ⟨hx54_0, hf54_0⟩ := Kd.R_celln 0 HO_11.out (x52_3 : Int) p54 q54
                                                      replace p54 := eq_true p54
                                                      replace q54 := eq_true q54
                                                      have HP56 := Kd.R_putg HO_11.out (x52_3 : Int) ((((rd_T57 l0 x15_4).f3)) % 256)
                                                      go_wp2_with (first | ((with_reducible refine gate_store (t := 5) (p := 133) rfl ?_); refine store_event (t := 5) (p := 133) (v := ?vo_w57) (w1 := (wc.setCell ⟨go26, (x52_3 : Int).toNat, none⟩ (.int .u8 ((((rd_T57 l0 x15_4).f3)) % 256)))) ?hg ?ho ?hn ?hr ?_; (case ho => rfl); (case hg => rfl); (case hn => rfl); (case hr => first | (go_simp; done) | (go_simp; rfl)); intro w57 hw; have hg : wc.grownBy w57 (some go26) := (by rw [hw]; exact HP56.2); have hp_ : Kd.R (Kd.int .u8) 5 w57 w.heap.size (fun k_ => (w.heap.size ≤ k_)) (.slice (some ⟨go26, 0, none⟩) x11_4.length co26) y299 := (by rw [hw, Ny299.out]; exact HP56.1); clear HP56; have n0_ := Aside0.mk (Kd.V_afterv (v := (.slice (some ⟨go26, 0, none⟩) x11_4.length co26)) (v1 := (.slice (some ⟨go26, 0, none⟩) x11_4.length co26)) (ok := (fun k_ => (P0_ k_ ∨ w.heap.size ≤ k_) ∧ some k_ ≠ (u9 : Value).ownBlock ∧ k_ ≠ gb297)) (by (with_reducible repeat (first | apply Kd.V_alloc | apply Kd.V_drewN | apply Kd.V_drew)); exact Kd.V_mono HO_0.out (fun _ hk => ⟨⟨hk.1, ⟨hk.2.1, hk.2.2.2⟩⟩, hk.2.2.1⟩)) hg (.inl rfl)); have n1_ := Aside0.mk (Kd.R_over' (v := (.slice (some ⟨go26, 0, none⟩) x11_4.length co26)) (by (with_reducible repeat (first | apply Kd.R_alloc | apply Kd.R_drewN | apply Kd.R_drew)); exact HO_9.out) (Kd.R_typed HO_11.out) (by decide) hg); have n2_ := Aside0.mk (hp_); have n3_ := Aside0.mk (blk_grown (g := gb297) (o := .cells #[.int .i64 ((rd_T57 l0 x15_4).f0), .int .i64 ((rd_T57 l0 x15_4).f1), .int .i64 ((rd_T57 l0 x15_4).f2), .int .i64 ((rd_T57 l0 x15_4).f3), .int .i64 ((rd_T57 l0 x15_4).f4), .int .i64 ((rd_T57 l0 x15_4).f5)] 57 (0, 0)) (by (with_reducible repeat (first | refine blk_drewN ?_ _ | refine blk_drew ?_ | refine blk_alloc ?_ _)); exact BK297.out) hg (Kd.R_ne HO_11.out BK297.out (by decide))); have n4_ := Aside0.mk ((by rw [hw]; exact below_set (HB.out) GB26.out : Below w.heap.size w w57)); clear HO_0; clear HO_9; clear HO_11; clear BK297; clear HB; have HO_0 := n0_; have HO_9 := n1_; have HO_11 := n2_; have BK297 := n3_; have HB := n4_; clear n0_ n1_ n2_ n3_ n4_; clear hg hw hp_))
                                                      (try simp only [← hl11_4])
                                                      go_roundg kj31
                                                      case measure => have := HJ4.out; have := HK2.out; have := HK3.out; have := HK4.out; have := HJ31.out; omega
                                                      case rel => exact ⟨(y299), (wrap64 (x52_3 + 1)), (by first | rfl | (simp; done) | (simp [*]; done)), H', ⟨by have := HJ4.out; have := HK2.out; have := HK3.out; have := HK4.out; have := HJ31.out; omega⟩, ⟨by (try simp only [hl11_4]); (with_reducible repeat (first | apply Kd.V_alloc | apply Kd.V_drewN | apply Kd.V_drew)); exact Kd.V_mono HO_0.out (fun _ hk => ⟨hk.1.1, ⟨hk.1.2.1, hk.2⟩⟩)⟩, ⟨by (try simp only [hl11_4]); (with_reducible repeat (first | apply Kd.R_alloc | apply Kd.R_drewN | apply Kd.R_drew)); exact HO_9.out⟩, ⟨by (try simp only [hl11_4]); (with_reducible repeat (first | apply Kd.R_alloc | apply Kd.R_drewN | apply Kd.R_drew)); exact HO_11.out⟩, ⟨by repeat (first | (with_reducible first | exact HB.out | apply below_alloc | apply pw_below_drewN | apply below_drew1 | refine below_set ?_ GE297.out) | exact HB.out)⟩⟩
                                                    · rw [if_neg c53] at H
                                                      exact absurd H (by simp)
                                                  · rw [if_neg c52] at H
                                                    exact absurd H (by simp)
                                                · rw [if_neg c51] at H
                                                  have c51b0 : decide (((rd_T57 l0 x15_4).f3) ≤ 126) = false := decide_eq_false c51
                                                  clear c51
                                                  by_cases c58 : 0 ≤ x52_3
                                                  · rw [if_pos c58] at H
                                                    have c58b0 : decide (0 ≤ x52_3) = true := decide_eq_true c58
                                                    clear c58
                                                    by_cases c59 : x52_3 < (x11_4.length : Int)
                                                    · rw [if_pos c59] at H
                                                      have c59b0 : decide (x52_3 < (x11_4.length : Int)) = true := decide_eq_true c59
                                                      clear c59
                                                      obtain ⟨y300, hy300⟩ : ∃ y_ : List Int, y_ = (x11_4.set (x52_3 : Int).toNat 63) := ⟨_, rfl⟩
                                                      replace H : (impl_Raster.l1 kj31 l0 a1 a2 x9_2 x46_2 y300 a3 x46_2 a2 (wrap64 (x52_3 + 1))) = some r := by first | (rw [hy300]; with_reducible exact H) | (have H2_ := (Option.bind_some _ _).symm.trans H; rw [hy300]; with_reducible exact H2_) | (have H2_ := (Option.bind_some _ _).symm.trans H; with_reducible exact H2_) | with_reducible exact H | (rw [hy300]; exact H) | exact H
                                                      have Ny300 := Aside0.mk hy300
                                                      clear hy300
                                                      have H' := Aside0.mk H
                                                      clear H
                                                      have hcz61_0 : wc.cell? ⟨gb297, 0, none⟩ = some (.int .i64 ((rd_T57 l0 x15_4).f0)) := (blk_cell BK297.out 0).trans rfl
                                                      have hcz61_1 : wc.cell? ⟨gb297, 1, none⟩ = some (.int .i64 ((rd_T57 l0 x15_4).f1)) := (blk_cell BK297.out 1).trans rfl
                                                      have hcz61_2 : wc.cell? ⟨gb297, 2, none⟩ = some (.int .i64 ((rd_T57 l0 x15_4).f2)) := (blk_cell BK297.out 2).trans rfl
                                                      have hcz61_3 : wc.cell? ⟨gb297, 3, none⟩ = some (.int .i64 ((rd_T57 l0 x15_4).f3)) := (blk_cell BK297.out 3).trans rfl
                                                      have hcz61_4 : wc.cell? ⟨gb297, 4, none⟩ = some (.int .i64 ((rd_T57 l0 x15_4).f4)) := (blk_cell BK297.out 4).trans rfl
                                                      have hcz61_5 : wc.cell? ⟨gb297, 5, none⟩ = some (.int .i64 ((rd_T57 l0 x15_4).f5)) := (blk_cell BK297.out 5).trans rfl
                                                      have hfz61_0 := blk_frozen BK297.out 0
                                                      have hfz61_1 := blk_frozen BK297.out 1
                                                      have hfz61_2 := blk_frozen BK297.out 2
                                                      have hfz61_3 := blk_frozen BK297.out 3
                                                      have hfz61_4 := blk_frozen BK297.out 4
                                                      have hfz61_5 := blk_frozen BK297.out 5
                                                      have p60 : 0 ≤ (x52_3 : Int) := of_decide_eq_true (by first | (with_reducible assumption) | assumption)
                                                      have q60 : (x52_3 : Int) < ((x11_4.length : Int) : Int) := of_decide_eq_true (by first | (with_reducible assumption) | assumption)
                                                      obtain ⟨hx60_0, hf60_0⟩ := Kd.R_celln 0 HO_11.out (x52_3 : Int) p60 q60
                                                      replace p60 := eq_true p60
                                                      replace q60 := eq_true q60
                                                      have HP62 := Kd.R_putg HO_11.out (x52_3 : Int) 63
                                                      go_wp2_with (first | ((with_reducible refine gate_store (t := 5) (p := 111) rfl ?_); refine store_event (t := 5) (p := 111) (v := ?vo_w63) (w1 := (wc.setCell ⟨go26, (x52_3 : Int).toNat, none⟩ (.int .u8 63))) ?hg ?ho ?hn ?hr ?_; (case ho => rfl); (case hg => rfl); (case hn => rfl); (case hr => first | (go_simp; done) | (go_simp; rfl)); intro w63 hw; have hg : wc.grownBy w63 (some go26) := (by rw [hw]; exact HP62.2); have hp_ : Kd.R (Kd.int .u8) 5 w63 w.heap.size (fun k_ => (w.heap.size ≤ k_)) (.slice (some ⟨go26, 0, none⟩) x11_4.length co26) y300 := (by rw [hw, Ny300.out]; exact HP62.1); clear HP62; have n0_ := Aside0.mk (Kd.V_afterv (v := (.slice (some ⟨go26, 0, none⟩) x11_4.length co26)) (v1 := (.slice (some ⟨go26, 0, none⟩) x11_4.length co26)) (ok := (fun k_ => (P0_ k_ ∨ w.heap.size ≤ k_) ∧ some k_ ≠ (u9 : Value).ownBlock ∧ k_ ≠ gb297)) (by (with_reducible repeat (first | apply Kd.V_alloc | apply Kd.V_drewN | apply Kd.V_drew)); exact Kd.V_mono HO_0.out (fun _ hk => ⟨⟨hk.1, ⟨hk.2.1, hk.2.2.2⟩⟩, hk.2.2.1⟩)) hg (.inl rfl)); have n1_ := Aside0.mk (Kd.R_over' (v := (.slice (some ⟨go26, 0, none⟩) x11_4.length co26)) (by (with_reducible repeat (first | apply Kd.R_alloc | apply Kd.R_drewN | apply Kd.R_drew)); exact HO_9.out) (Kd.R_typed HO_11.out) (by decide) hg); have n2_ := Aside0.mk (hp_); have n3_ := Aside0.mk (blk_grown (g := gb297) (o := .cells #[.int .i64 ((rd_T57 l0 x15_4).f0), .int .i64 ((rd_T57 l0 x15_4).f1), .int .i64 ((rd_T57 l0 x15_4).f2), .int .i64 ((rd_T57 l0 x15_4).f3), .int .i64 ((rd_T57 l0 x15_4).f4), .int .i64 ((rd_T57 l0 x15_4).f5)] 57 (0, 0)) (by (with_reducible repeat (first | refine blk_drewN ?_ _ | refine blk_drew ?_ | refine blk_alloc ?_ _)); exact BK297.out) hg (Kd.R_ne HO_11.out BK297.out (by decide))); have n4_ := Aside0.mk ((by rw [hw]; exact below_set (HB.out) GB26.out : Below w.heap.size w w63)); clear HO_0; clear HO_9; clear HO_11; clear BK297; clear HB; have HO_0 := n0_; have HO_9 := n1_; have HO_11 := n2_; have BK297 := n3_; have HB := n4_; clear n0_ n1_ n2_ n3_ n4_; clear hg hw hp_))
                                                      (try simp only [← hl11_4])
                                                      go_roundg kj31
                                                      case measure => have := HJ4.out; have := HK2.out; have := HK3.out; have := HK4.out; have := HJ31.out; omega
                                                      case rel => exact ⟨(y300), (wrap64 (x52_3 + 1)), (by first | rfl | (simp; done) | (simp [*]; done)), H', ⟨by have := HJ4.out; have := HK2.out; have := HK3.out; have := HK4.out; have := HJ31.out; omega⟩, ⟨by (try simp only [hl11_4]); (with_reducible repeat (first | apply Kd.V_alloc | apply Kd.V_drewN | apply Kd.V_drew)); exact Kd.V_mono HO_0.out (fun _ hk => ⟨hk.1.1, ⟨hk.1.2.1, hk.2⟩⟩)⟩, ⟨by (try simp only [hl11_4]); (with_reducible repeat (first | apply Kd.R_alloc | apply Kd.R_drewN | apply Kd.R_drew)); exact HO_9.out⟩, ⟨by (try simp only [hl11_4]); (with_reducible repeat (first | apply Kd.R_alloc | apply Kd.R_drewN | apply Kd.R_drew)); exact HO_11.out⟩, ⟨by repeat (first | (with_reducible first | exact HB.out | apply below_alloc | apply pw_below_drewN | apply below_drew1 | refine below_set ?_ GE297.out) | exact HB.out)⟩⟩
                                                    · rw [if_neg c59] at H
                                                      exact absurd H (by simp)
                                                  · rw [if_neg c58] at H
                                                    exact absurd H (by simp)
                                              · rw [if_neg c50] at H
                                                have c50b0 : decide (33 ≤ ((rd_T57 l0 x15_4).f3)) = false := decide_eq_false c50
                                                clear c50
                                                by_cases c64 : 0 ≤ x52_3
                                                · rw [if_pos c64] at H
                                                  have c64b0 : decide (0 ≤ x52_3) = true := decide_eq_true c64
                                                  clear c64
                                                  by_cases c65 : x52_3 < (x11_4.length : Int)
                                                  · rw [if_pos c65] at H
                                                    have c65b0 : decide (x52_3 < (x11_4.length : Int)) = true := decide_eq_true c65
                                                    clear c65
                                                    obtain ⟨y301, hy301⟩ : ∃ y_ : List Int, y_ = (x11_4.set (x52_3 : Int).toNat 63) := ⟨_, rfl⟩
                                                    replace H : (impl_Raster.l1 kj31 l0 a1 a2 x9_2 x46_2 y301 a3 x46_2 a2 (wrap64 (x52_3 + 1))) = some r := by first | (rw [hy301]; with_reducible exact H) | (have H2_ := (Option.bind_some _ _).symm.trans H; rw [hy301]; with_reducible exact H2_) | (have H2_ := (Option.bind_some _ _).symm.trans H; with_reducible exact H2_) | with_reducible exact H | (rw [hy301]; exact H) | exact H
                                                    have Ny301 := Aside0.mk hy301
                                                    clear hy301
                                                    have H' := Aside0.mk H
                                                    clear H
                                                    have hcz67_0 : wc.cell? ⟨gb297, 0, none⟩ = some (.int .i64 ((rd_T57 l0 x15_4).f0)) := (blk_cell BK297.out 0).trans rfl
                                                    have hcz67_1 : wc.cell? ⟨gb297, 1, none⟩ = some (.int .i64 ((rd_T57 l0 x15_4).f1)) := (blk_cell BK297.out 1).trans rfl
                                                    have hcz67_2 : wc.cell? ⟨gb297, 2, none⟩ = some (.int .i64 ((rd_T57 l0 x15_4).f2)) := (blk_cell BK297.out 2).trans rfl
                                                    have hcz67_3 : wc.cell? ⟨gb297, 3, none⟩ = some (.int .i64 ((rd_T57 l0 x15_4).f3)) := (blk_cell BK297.out 3).trans rfl
                                                    have hcz67_4 : wc.cell? ⟨gb297, 4, none⟩ = some (.int .i64 ((rd_T57 l0 x15_4).f4)) := (blk_cell BK297.out 4).trans rfl
                                                    have hcz67_5 : wc.cell? ⟨gb297, 5, none⟩ = some (.int .i64 ((rd_T57 l0 x15_4).f5)) := (blk_cell BK297.out 5).trans rfl
                                                    have hfz67_0 := blk_frozen BK297.out 0
                                                    have hfz67_1 := blk_frozen BK297.out 1
                                                    have hfz67_2 := blk_frozen BK297.out 2
                                                    have hfz67_3 := blk_frozen BK297.out 3
                                                    have hfz67_4 := blk_frozen BK297.out 4
                                                    have hfz67_5 := blk_frozen BK297.out 5
                                                    have p66 : 0 ≤ (x52_3 : Int) := of_decide_eq_true (by first | (with_reducible assumption) | assumption)
                                                    have q66 : (x52_3 : Int) < ((x11_4.length : Int) : Int) := of_decide_eq_true (by first | (with_reducible assumption) | assumption)
                                                    obtain ⟨hx66_0, hf66_0⟩ := Kd.R_celln 0 HO_11.out (x52_3 : Int) p66 q66
                                                    replace p66 := eq_true p66
                                                    replace q66 := eq_true q66
                                                    have HP68 := Kd.R_putg HO_11.out (x52_3 : Int) 63
                                                    go_wp2_with (first | ((with_reducible refine gate_store (t := 5) (p := 111) rfl ?_); refine store_event (t := 5) (p := 111) (v := ?vo_w69) (w1 := (wc.setCell ⟨go26, (x52_3 : Int).toNat, none⟩ (.int .u8 63))) ?hg ?ho ?hn ?hr ?_; (case ho => rfl); (case hg => rfl); (case hn => rfl); (case hr => first | (go_simp; done) | (go_simp; rfl)); intro w69 hw; have hg : wc.grownBy w69 (some go26) := (by rw [hw]; exact HP68.2); have hp_ : Kd.R (Kd.int .u8) 5 w69 w.heap.size (fun k_ => (w.heap.size ≤ k_)) (.slice (some ⟨go26, 0, none⟩) x11_4.length co26) y301 := (by rw [hw, Ny301.out]; exact HP68.1); clear HP68; have n0_ := Aside0.mk (Kd.V_afterv (v := (.slice (some ⟨go26, 0, none⟩) x11_4.length co26)) (v1 := (.slice (some ⟨go26, 0, none⟩) x11_4.length co26)) (ok := (fun k_ => (P0_ k_ ∨ w.heap.size ≤ k_) ∧ some k_ ≠ (u9 : Value).ownBlock ∧ k_ ≠ gb297)) (by (with_reducible repeat (first | apply Kd.V_alloc | apply Kd.V_drewN | apply Kd.V_drew)); exact Kd.V_mono HO_0.out (fun _ hk => ⟨⟨hk.1, ⟨hk.2.1, hk.2.2.2⟩⟩, hk.2.2.1⟩)) hg (.inl rfl)); have n1_ := Aside0.mk (Kd.R_over' (v := (.slice (some ⟨go26, 0, none⟩) x11_4.length co26)) (by (with_reducible repeat (first | apply Kd.R_alloc | apply Kd.R_drewN | apply Kd.R_drew)); exact HO_9.out) (Kd.R_typed HO_11.out) (by decide) hg); have n2_ := Aside0.mk (hp_); have n3_ := Aside0.mk (blk_grown (g := gb297) (o := .cells #[.int .i64 ((rd_T57 l0 x15_4).f0), .int .i64 ((rd_T57 l0 x15_4).f1), .int .i64 ((rd_T57 l0 x15_4).f2), .int .i64 ((rd_T57 l0 x15_4).f3), .int .i64 ((rd_T57 l0 x15_4).f4), .int .i64 ((rd_T57 l0 x15_4).f5)] 57 (0, 0)) (by (with_reducible repeat (first | refine blk_drewN ?_ _ | refine blk_drew ?_ | refine blk_alloc ?_ _)); exact BK297.out) hg (Kd.R_ne HO_11.out BK297.out (by decide))); have n4_ := Aside0.mk ((by rw [hw]; exact below_set (HB.out) GB26.out : Below w.heap.size w w69)); clear HO_0; clear HO_9; clear HO_11; clear BK297; clear HB; have HO_0 := n0_; have HO_9 := n1_; have HO_11 := n2_; have BK297 := n3_; have HB := n4_; clear n0_ n1_ n2_ n3_ n4_; clear hg hw hp_))
                                                    (try simp only [← hl11_4])
                                                    go_roundg kj31
                                                    case measure => have := HJ4.out; have := HK2.out; have := HK3.out; have := HK4.out; have := HJ31.out; omega
                                                    case rel => exact ⟨(y301), (wrap64 (x52_3 + 1)), (by first | rfl | (simp; done) | (simp [*]; done)), H', ⟨by have := HJ4.out; have := HK2.out; have := HK3.out; have := HK4.out; have := HJ31.out; omega⟩, ⟨by (try simp only [hl11_4]); (with_reducible repeat (first | apply Kd.V_alloc | apply Kd.V_drewN | apply Kd.V_drew)); exact Kd.V_mono HO_0.out (fun _ hk => ⟨hk.1.1, ⟨hk.1.2.1, hk.2⟩⟩)⟩, ⟨by (try simp only [hl11_4]); (with_reducible repeat (first | apply Kd.R_alloc | apply Kd.R_drewN | apply Kd.R_drew)); exact HO_9.out⟩, ⟨by (try simp only [hl11_4]); (with_reducible repeat (first | apply Kd.R_alloc | apply Kd.R_drewN | apply Kd.R_drew)); exact HO_11.out⟩, ⟨by repeat (first | (with_reducible first | exact HB.out | apply below_alloc | apply pw_below_drewN | apply below_drew1 | refine below_set ?_ GE297.out) | exact HB.out)⟩⟩
                                                  · rw [if_neg c65] at H
                                                    exact absurd H (by simp)
                                                · rw [if_neg c64] at H
                                                  exact absurd H (by simp)
                                    · rw [if_neg c31] at H
                                      exact absurd H (by simp)
                                  · rw [if_neg c30] at H
                                    exact absurd H (by simp)
                                · rw [if_neg c29] at H
                                  have c29b0 : decide (0 ≤ x15_4) = false := decide_eq_false c29
                                  clear c29
                                  have H' := Aside0.mk H
                                  clear H
                                  go_wp2
                                  (try simp only [← hl11_4])
                                  go_roundg k4
                                  case measure => have := HJ4.out; have := HK2.out; have := HK3.out; have := HK4.out; omega
                                  case rel => exact ⟨(x11_4), (wrap64 (x52_3 + 1)), (by first | rfl | (simp; done) | (simp [*]; done)), H', ⟨by have := HJ4.out; have := HK2.out; have := HK3.out; have := HK4.out; omega⟩, ⟨by (try simp only [hl11_4]); (with_reducible repeat (first | apply Kd.V_alloc | apply Kd.V_drewN | apply Kd.V_drew)); exact HO_0.out⟩, ⟨by (try simp only [hl11_4]); (with_reducible repeat (first | apply Kd.R_alloc | apply Kd.R_drewN | apply Kd.R_drew)); exact HO_9.out⟩, ⟨by (try simp only [hl11_4]); (with_reducible repeat (first | apply Kd.R_alloc | apply Kd.R_drewN | apply Kd.R_drew)); exact HO_11.out⟩, ⟨by repeat (first | (with_reducible first | exact HB.out | apply below_alloc | apply pw_below_drewN | apply below_drew1) | exact HB.out)⟩⟩
                          · rw [if_neg c25] at H
                            exact absurd H (by simp)
                        · rw [if_neg c24] at H
                          exact absurd H (by simp)
                      · rw [if_neg c23] at H
                        have c23b0 : decide (x52_3 < a2) = false := decide_eq_false c23
                        clear c23
                        by_cases c70 : x9_2.length < 8796093022208
                        · rw [if_pos c70] at H
                          have LMc70 := Aside0.mk c70
                          clear c70
                          obtain ⟨y292, hy292⟩ : ∃ y_ : List ByteArray, y_ = (x9_2 ++ [strOfNums x11_3]) := ⟨_, rfl⟩
                          replace H : (impl_Raster.l0 k3 l0 a1 a2 y292 a3 (wrap64 (x46_2 + 1))) = some r := by first | (rw [hy292]; with_reducible exact H) | (have H2_ := (Option.bind_some _ _).symm.trans H; rw [hy292]; with_reducible exact H2_) | (have H2_ := (Option.bind_some _ _).symm.trans H; with_reducible exact H2_) | with_reducible exact H | (rw [hy292]; exact H) | exact H
                          have Ny292 := Aside0.mk hy292
                          clear hy292
                          have H' := Aside0.mk H
                          clear H
                          have hcv71 := own_string (P := Try.prog) Try.underlying49 Try.underlying5 Try.underlying9 (Kd.own_of_R HO_11.out)
                          go_wp2_with (first | ((with_reducible refine gate_builtin (b := .append) (xs := #[.tmp 135, .tmp 138]) rfl ?_); (try (refine gate_guard (by rfl) ?_; dsimp only)); at_builtin; refine Kd.R_append Kd.string (w0 := w) w.heap.size rfl (.tmp 135) (.tmp 138) 54 9 (.string ⟨#[]⟩) 16 rfl Try.underlying54 info9 rfl (by decide) (by omega) u9 x9_2 (strOfNums x11_3) [.string (strOfNums x11_3)] (fun k_ => (w.heap.size ≤ k_)) (fun _ => False) rfl rfl ?aP (fun _ hk => hk.elim) ?aF ?aO ?aB ?aS ?aL ?_; (case aP => exact rfl); (case aB => exact (by repeat (first | (with_reducible first | exact HB.out | apply below_alloc | apply pw_below_drewN | apply below_drew1) | exact HB.out))); (case aF => exact (fun k_ hk => (Nat.le_trans (below_size (by repeat (first | (with_reducible first | exact HB.out | apply below_alloc | apply pw_below_drewN | apply below_drew1) | exact HB.out))) hk))); (case aO => exact (by (with_reducible repeat (first | apply Kd.R_alloc | apply Kd.R_drewN | apply Kd.R_drew)); exact HO_9.out)); (case aS => exact (below_size (by repeat (first | (with_reducible first | exact HB.out | apply below_alloc | apply pw_below_drewN | apply below_drew1) | exact HB.out)))); (case aL => have := LMc70.out; omega); intro v293 w72 ho hb hg hat; rw [← Ny292.out] at ho; have n0_ := Aside0.mk (Kd.V_afterv (ok := (fun k_ => (P0_ k_ ∨ w.heap.size ≤ k_) ∧ some k_ ≠ (v290 : Value).ownBlock)) (by (with_reducible repeat (first | apply Kd.V_alloc | apply Kd.V_drewN | apply Kd.V_drew)); exact Kd.V_mono HO_0.out (fun _ hk => ⟨⟨hk.1, hk.2.2⟩, hk.2.1⟩)) hg hat); have n1_ := Aside0.mk (Kd.R_over' (by (with_reducible repeat (first | apply Kd.R_alloc | apply Kd.R_drewN | apply Kd.R_drew)); exact HO_11.out) (Kd.R_typed (by (with_reducible repeat (first | apply Kd.R_alloc | apply Kd.R_drewN | apply Kd.R_drew)); exact HO_9.out)) (by decide) hg); have n2_ := Aside0.mk (hb); have n3_ := Aside0.mk (ho); clear HO_0; clear HO_11; clear HB; clear HO_9; have HO_0 := n0_; have HO_11 := n1_; have HB := n2_; have HO294 := n3_; clear n0_ n1_ n2_ n3_; clear ho hb hg hat))
                          go_roundg k3
                          case measure => have := HJ4.out; have := HK2.out; have := HK3.out; omega
                          case rel => exact ⟨(y292), (wrap64 (x46_2 + 1)), (by first | rfl | (simp; done) | (simp [*]; done)), H', ⟨by have := HJ4.out; have := HK2.out; have := HK3.out; omega⟩, ⟨by (with_reducible repeat (first | apply Kd.V_alloc | apply Kd.V_drewN | apply Kd.V_drew)); exact Kd.V_mono HO_0.out (fun _ hk => ⟨hk.1.1, hk.2⟩)⟩, ⟨by (with_reducible repeat (first | apply Kd.R_alloc | apply Kd.R_drewN | apply Kd.R_drew)); exact HO294.out⟩, ⟨by repeat (first | (with_reducible first | exact HB.out | apply below_alloc | apply pw_below_drewN | apply below_drew1) | exact HB.out)⟩⟩
                        · rw [if_neg c70] at H
                          exact absurd H (by simp)
                · rw [if_neg c20] at H
                  exact absurd H (by simp)
              · rw [if_neg c19] at H
                exact absurd H (by simp)
            · rw [if_neg c18] at H
              have c18b0 : decide (x46_2 < a3) = false := decide_eq_false c18
              clear c18
              obtain rfl := Option.some.inj H
              go_wp2
              go_ret
              exact ⟨_, by first | rfl | (simp [errW_none, errW_some] <;> rfl) | (simp [*, errW_none, errW_some] <;> rfl), by (with_reducible repeat (first | apply Kd.R_alloc | apply Kd.R_drewN | apply Kd.R_drew)); exact HO_9.out, by repeat (first | (with_reducible first | exact HB.out | apply below_alloc | apply pw_below_drewN | apply below_drew1) | exact HB.out)⟩

end Go.Proofs.Ytabamachefgilaa.PFnRasterMoves
