-- Written by this session's program over the kit's printer (wip/gen/gp.py): Lean checks it.
import Derived.Test.YtgfifmbbjoocgaaPFnTokensBackx0
import Derived.Test.YtgfifmbbjoocgaaPFnTokensBackx2
namespace Go.Proofs.Ytgfifmbbjoocgaa.PFnTokensBack
open Go.RowKit Go.Proofs.YtgfifmbbjoocgaaW.PrintWords Go.Proofs.YtgfifmbbjoocgaaW.PrintLast Go.Proofs.YtgfifmbbjoocgaaW.PrintMore
attribute [local go_sem] max2_int min2_int max_two min_two max_three min_three max_four min_four   -- for this text's walks alone
set_option linter.unusedVariables false
set_option linter.unusedSimpArgs false

/-! ### impl_Next: function 89 -/
mutual
def impl_Next.j0 : Nat → List Int → ByteArray → Int → Int → Bool → Option (Int × Int × Int × ByteArray × Int × Int)
  | 0, _, _, _, _, _ => none
  | k + 1, x0, x1, x2, x3, x41 => if x41 = true then (some (3, 0, 0, (⟨#[]⟩ : ByteArray), 0, 0)) else (impl_Next.l0 k x0 x1 x2 x3 (x1.size : Int))
def impl_Next.l0 : Nat → List Int → ByteArray → Int → Int → Int → Option (Int × Int × Int × ByteArray × Int × Int)
  | 0, _, _, _, _, _ => none
  | k + 1, x0, x1, x2, x3, x9 => if x2 < x9 then (if 0 ≤ x2 then (if x2 < (x1.size : Int) then (if 0 ≤ (bt x1 x2) then (if (bt x1 x2) < (x0.length : Int) then (if (rd x0 (bt x1 x2)) = 0 then (impl_Next.l1 k x0 x1 (wrap64 (x2 + 1)) x9 (wrap64 (x2 + 1))) else (if (rd x0 (bt x1 x2)) = 6 then (if x3 = 0 then (some (1, 0, 0, (⟨#[112, 97, 114]⟩ : ByteArray), wrap64 (x2 + 1), 0)) else (if x3 = 1 then ((impl_Next_1.f 3 32).bind fun bt112 => (some (1, bt112.1, bt112.2.1, bt112.2.2, wrap64 (x2 + 1), 0))) else (impl_Next.l0 k x0 x1 (wrap64 (x2 + 1)) 0 x9))) else (if (rd x0 (bt x1 x2)) = 3 then (if x3 = 1 then ((impl_Next_1.f 3 32).bind fun bt115 => (some (1, bt115.1, bt115.2.1, bt115.2.2, wrap64 (x2 + 1), 2))) else (impl_Next.l0 k x0 x1 (wrap64 (x2 + 1)) x3 x9)) else (if (rd x0 (bt x1 x2)) = 8 then (impl_Next.l2 k x0 x1 (wrap64 (x2 + 1)) x9) else (if (rd x0 (bt x1 x2)) = 9 then (impl_Next.l0 k x0 x1 (wrap64 (x2 + 1)) x3 x9) else (if (rd x0 (bt x1 x2)) = 15 then (some (2, 0, 0, (⟨#[]⟩ : ByteArray), wrap64 (x2 + 1), x3)) else ((impl_Next_1.f (rd x0 (bt x1 x2)) (bt x1 x2)).bind fun bt119 => (some (1, bt119.1, bt119.2.1, bt119.2.2, wrap64 (x2 + 1), 1))))))))) else (none)) else (none)) else (none)) else (none)) else (some (0, 0, 0, (⟨#[]⟩ : ByteArray), x2, x3))
def impl_Next.j3 : Nat → List Int → ByteArray → Int → Int → Int → Option (Int × Int × Int × ByteArray × Int × Int)
  | 0, _, _, _, _, _ => none
  | k + 1, x0, x1, x2, x9, x13 => if 0 ≤ x2 then (if x2 ≤ x13 then (if x13 ≤ (x1.size : Int) then ((strings_Clone.f (x1.extract (x2 : Int).toNat (x13 : Int).toNat)).bind fun t108 => (if x13 > x2 then (some (1, 0, 0, t108, x13, 2)) else (if x2 < x9 then (if x2 ≤ (wrap64 (x2 + 1)) then (if (wrap64 (x2 + 1)) ≤ (x1.size : Int) then ((strings_Clone.f (x1.extract (x2 : Int).toNat ((wrap64 (x2 + 1)) : Int).toNat)).bind fun t110 => (if x2 < (x1.size : Int) then (if 0 ≤ (bt x1 x2) then (if (bt x1 x2) < (x0.length : Int) then (if (rd x0 (bt x1 x2)) = 3 then (some (1, 0, 0, t110, wrap64 (x2 + 1), 2)) else (some (1, 0, 0, t110, wrap64 (x2 + 1), 1))) else (none)) else (none)) else (none))) else (none)) else (none)) else (some (1, 0, 0, t108, x13, 1))))) else (none)) else (none)) else (none)
def impl_Next.l1 : Nat → List Int → ByteArray → Int → Int → Int → Option (Int × Int × Int × ByteArray × Int × Int)
  | 0, _, _, _, _, _ => none
  | k + 1, x0, x1, x2, x9, x13 => if x13 < x9 then (if x13 < (wrap64 (x2 + 40)) then (if 0 ≤ x13 then (if x13 < (x1.size : Int) then (if 0 ≤ (bt x1 x13) then (if (bt x1 x13) < (x0.length : Int) then (if (rd x0 (bt x1 x13)) = 4 then (impl_Next.l1 k x0 x1 x2 x9 (wrap64 (x13 + 1))) else (impl_Next.j3 k x0 x1 x2 x9 x13)) else (none)) else (none)) else (none)) else (none)) else (impl_Next.j3 k x0 x1 x2 x9 x13)) else (impl_Next.j3 k x0 x1 x2 x9 x13)
def impl_Next.l2 : Nat → List Int → ByteArray → Int → Int → Option (Int × Int × Int × ByteArray × Int × Int)
  | 0, _, _, _, _ => none
  | k + 1, x0, x1, x2, x9 => if x2 < x9 then (if 0 ≤ x2 then (if x2 < (x1.size : Int) then (if 0 ≤ (bt x1 x2) then (if (bt x1 x2) < (x0.length : Int) then (if (rd x0 (bt x1 x2)) = 6 then (impl_Next.l0 k x0 x1 (wrap64 (x2 + 1)) 0 x9) else (impl_Next.l2 k x0 x1 (wrap64 (x2 + 1)) x9)) else (none)) else (none)) else (none)) else (none)) else (impl_Next.l0 k x0 x1 x2 0 x9)
end
def impl_Next.f (k : Nat) (l0 : List Int) (a1 : ByteArray) (a2 : Int) (a3 : Int) : Option (Int × Int × Int × ByteArray × Int × Int) := (impl_CatsOk.f k l0).bind fun t105 => (if t105 = true then (if (a1.size : Int) > 65536 then (impl_Next.j0 k l0 a1 a2 a3 true) else (if a2 < 0 then (impl_Next.j0 k l0 a1 a2 a3 true) else (if a2 > (a1.size : Int) then (impl_Next.j0 k l0 a1 a2 a3 true) else (if a3 < 0 then (impl_Next.j0 k l0 a1 a2 a3 true) else (impl_Next.j0 k l0 a1 a2 a3 (decide (a3 > 2))))))) else (impl_Next.j0 k l0 a1 a2 a3 true))
theorem impl_Next.mono_l : ∀ k, (∀ y0 y1 y2 y3 y4, LeO (impl_Next.j0 k y0 y1 y2 y3 y4) (impl_Next.j0 (k + 1) y0 y1 y2 y3 y4)) ∧ (∀ y0 y1 y2 y3 y4, LeO (impl_Next.l0 k y0 y1 y2 y3 y4) (impl_Next.l0 (k + 1) y0 y1 y2 y3 y4)) ∧ (∀ y0 y1 y2 y3 y4, LeO (impl_Next.j3 k y0 y1 y2 y3 y4) (impl_Next.j3 (k + 1) y0 y1 y2 y3 y4)) ∧ (∀ y0 y1 y2 y3 y4, LeO (impl_Next.l1 k y0 y1 y2 y3 y4) (impl_Next.l1 (k + 1) y0 y1 y2 y3 y4)) ∧ (∀ y0 y1 y2 y3, LeO (impl_Next.l2 k y0 y1 y2 y3) (impl_Next.l2 (k + 1) y0 y1 y2 y3))
  | 0 => ⟨fun _ _ _ _ _ r h => by simp [impl_Next.j0] at h, fun _ _ _ _ _ r h => by simp [impl_Next.l0] at h, fun _ _ _ _ _ r h => by simp [impl_Next.j3] at h, fun _ _ _ _ _ r h => by simp [impl_Next.l1] at h, fun _ _ _ _ r h => by simp [impl_Next.l2] at h⟩
  | k + 1 => by
    obtain ⟨ih0, ih1, ih2, ih3, ih4⟩ := impl_Next.mono_l k
    refine ⟨?_, ?_, ?_, ?_, ?_⟩
    · intro y0 y1 y2 y3 y4
      unfold impl_Next.j0
      repeat' first
      | (with_reducible exact ih0 _ _ _ _ _)
      | (with_reducible exact ih1 _ _ _ _ _)
      | (with_reducible exact ih2 _ _ _ _ _)
      | (with_reducible exact ih3 _ _ _ _ _)
      | (with_reducible exact ih4 _ _ _ _)
      | (with_reducible exact impl_CatsOk.mono _ _)
      | (with_reducible exact LeO.refl _)
      | (with_reducible exact LeO.none _)
      | (with_reducible refine LeO.ite ?_ ?_)
      | (with_reducible refine LeO.bind ?_ (fun _ => ?_))
      | exact ih0 _ _ _ _ _
      | exact ih1 _ _ _ _ _
      | exact ih2 _ _ _ _ _
      | exact ih3 _ _ _ _ _
      | exact ih4 _ _ _ _
      | exact impl_CatsOk.mono _ _
      | exact LeO.none _
      | refine LeO.ite ?_ ?_
      | refine LeO.bind ?_ (fun _ => ?_)
    · intro y0 y1 y2 y3 y4
      unfold impl_Next.l0
      repeat' first
      | (with_reducible exact ih0 _ _ _ _ _)
      | (with_reducible exact ih1 _ _ _ _ _)
      | (with_reducible exact ih2 _ _ _ _ _)
      | (with_reducible exact ih3 _ _ _ _ _)
      | (with_reducible exact ih4 _ _ _ _)
      | (with_reducible exact impl_CatsOk.mono _ _)
      | (with_reducible exact LeO.refl _)
      | (with_reducible exact LeO.none _)
      | (with_reducible refine LeO.ite ?_ ?_)
      | (with_reducible refine LeO.bind ?_ (fun _ => ?_))
      | exact ih0 _ _ _ _ _
      | exact ih1 _ _ _ _ _
      | exact ih2 _ _ _ _ _
      | exact ih3 _ _ _ _ _
      | exact ih4 _ _ _ _
      | exact impl_CatsOk.mono _ _
      | exact LeO.none _
      | refine LeO.ite ?_ ?_
      | refine LeO.bind ?_ (fun _ => ?_)
    · intro y0 y1 y2 y3 y4
      unfold impl_Next.j3
      repeat' first
      | (with_reducible exact ih0 _ _ _ _ _)
      | (with_reducible exact ih1 _ _ _ _ _)
      | (with_reducible exact ih2 _ _ _ _ _)
      | (with_reducible exact ih3 _ _ _ _ _)
      | (with_reducible exact ih4 _ _ _ _)
      | (with_reducible exact impl_CatsOk.mono _ _)
      | (with_reducible exact LeO.refl _)
      | (with_reducible exact LeO.none _)
      | (with_reducible refine LeO.ite ?_ ?_)
      | (with_reducible refine LeO.bind ?_ (fun _ => ?_))
      | exact ih0 _ _ _ _ _
      | exact ih1 _ _ _ _ _
      | exact ih2 _ _ _ _ _
      | exact ih3 _ _ _ _ _
      | exact ih4 _ _ _ _
      | exact impl_CatsOk.mono _ _
      | exact LeO.none _
      | refine LeO.ite ?_ ?_
      | refine LeO.bind ?_ (fun _ => ?_)
    · intro y0 y1 y2 y3 y4
      unfold impl_Next.l1
      repeat' first
      | (with_reducible exact ih0 _ _ _ _ _)
      | (with_reducible exact ih1 _ _ _ _ _)
      | (with_reducible exact ih2 _ _ _ _ _)
      | (with_reducible exact ih3 _ _ _ _ _)
      | (with_reducible exact ih4 _ _ _ _)
      | (with_reducible exact impl_CatsOk.mono _ _)
      | (with_reducible exact LeO.refl _)
      | (with_reducible exact LeO.none _)
      | (with_reducible refine LeO.ite ?_ ?_)
      | (with_reducible refine LeO.bind ?_ (fun _ => ?_))
      | exact ih0 _ _ _ _ _
      | exact ih1 _ _ _ _ _
      | exact ih2 _ _ _ _ _
      | exact ih3 _ _ _ _ _
      | exact ih4 _ _ _ _
      | exact impl_CatsOk.mono _ _
      | exact LeO.none _
      | refine LeO.ite ?_ ?_
      | refine LeO.bind ?_ (fun _ => ?_)
    · intro y0 y1 y2 y3
      unfold impl_Next.l2
      repeat' first
      | (with_reducible exact ih0 _ _ _ _ _)
      | (with_reducible exact ih1 _ _ _ _ _)
      | (with_reducible exact ih2 _ _ _ _ _)
      | (with_reducible exact ih3 _ _ _ _ _)
      | (with_reducible exact ih4 _ _ _ _)
      | (with_reducible exact impl_CatsOk.mono _ _)
      | (with_reducible exact LeO.refl _)
      | (with_reducible exact LeO.none _)
      | (with_reducible refine LeO.ite ?_ ?_)
      | (with_reducible refine LeO.bind ?_ (fun _ => ?_))
      | exact ih0 _ _ _ _ _
      | exact ih1 _ _ _ _ _
      | exact ih2 _ _ _ _ _
      | exact ih3 _ _ _ _ _
      | exact ih4 _ _ _ _
      | exact impl_CatsOk.mono _ _
      | exact LeO.none _
      | refine LeO.ite ?_ ?_
      | refine LeO.bind ?_ (fun _ => ?_)
theorem impl_Next.mono : ∀ a0 a1 a2 a3 k, LeO (impl_Next.f k a0 a1 a2 a3) (impl_Next.f (k + 1) a0 a1 a2 a3) := by
  intro a0 a1 a2 a3 k
  obtain ⟨ih0, ih1, ih2, ih3, ih4⟩ := impl_Next.mono_l k
  unfold impl_Next.f
  repeat' first
      | (with_reducible exact ih0 _ _ _ _ _)
      | (with_reducible exact ih1 _ _ _ _ _)
      | (with_reducible exact ih2 _ _ _ _ _)
      | (with_reducible exact ih3 _ _ _ _ _)
      | (with_reducible exact ih4 _ _ _ _)
      | (with_reducible exact impl_CatsOk.mono _ _)
      | (with_reducible exact LeO.refl _)
      | (with_reducible exact LeO.none _)
      | (with_reducible refine LeO.ite ?_ ?_)
      | (with_reducible refine LeO.bind ?_ (fun _ => ?_))
      | exact ih0 _ _ _ _ _
      | exact ih1 _ _ _ _ _
      | exact ih2 _ _ _ _ _
      | exact ih3 _ _ _ _ _
      | exact ih4 _ _ _ _
      | exact impl_CatsOk.mono _ _
      | exact LeO.none _
      | refine LeO.ite ?_ ?_
      | refine LeO.bind ?_ (fun _ => ?_)
set_option maxHeartbeats 8000000 in
set_option maxRecDepth 100000 in
theorem impl_Next.calls (k : Nat) (A0 : Option Addr) (c0 : Nat) (l0 : List Int) (a1 : ByteArray) (a2 : Int) (a3 : Int) (r1 : Int) (r2 : Int) (r3 : Int) (r4 : ByteArray) (r5 : Int) (r6 : Int) (w : World) (hr0 : Kd.C (Kd.int .i64) w A0 l0.length l0) (hc0 : l0.length ≤ c0) (h : impl_Next.f k l0 a1 a2 a3 = some (r1, r2, r3, r4, r5, r6)) :
    Calls Try.prog 89 #[.slice A0 l0.length c0, .string a1, .int .i64 a2, .int .i64 a3] w fun e w' => e = .returned (.agg #[.int .i64 r1, .int .i64 r2, .int .i64 r3, .string r4, .int .i64 r5, .int .i64 r6]) ∧ Below w.heap.size w w' := by
  have hu139 := Try.underlying139
  have hu42 := Try.underlying42
  have HR0 := Aside0.mk hr0
  have HC0 := Aside0.mk hc0
  clear hr0 hc0
  have HB := Aside0.mk (Below.refl w.heap.size w)
  have H : ((impl_CatsOk.f k l0).bind fun t105 => (if t105 = true then (if (a1.size : Int) > 65536 then (impl_Next.j0 k l0 a1 a2 a3 true) else (if a2 < 0 then (impl_Next.j0 k l0 a1 a2 a3 true) else (if a2 > (a1.size : Int) then (impl_Next.j0 k l0 a1 a2 a3 true) else (if a3 < 0 then (impl_Next.j0 k l0 a1 a2 a3 true) else (impl_Next.j0 k l0 a1 a2 a3 (decide (a3 > 2))))))) else (impl_Next.j0 k l0 a1 a2 a3 true))) = some (r1, r2, r3, r4, r5, r6) := h
  clear h
  have HC5 := Aside0.mk H
  clear H
  go_enter Try.func89, Try.ntmps89
  go_upto_region 1 with (first | ((with_reducible refine gate_dst (N := 8) rfl ?_); (try (refine gate_guard (by rfl) ?_; dsimp only)); refine box_event ?hg (N := 8) ?hd (cs := #[.int .i64 0, .int .i64 0, .int .i64 0, .string (⟨#[]⟩ : ByteArray), .int .i64 0, .int .i64 0]) (t := 139) ?hr ?_; (case hd => rfl); (case hg => rfl); (case hr => first | (go_simp; done) | (go_simp; rfl)); intro gb104 hg w6 hbox hb; have n0_ := Aside0.mk (below_step (by repeat (first | (with_reducible first | exact HB.out | apply below_alloc | apply pw_below_drewN | apply below_drew1) | exact HB.out)) hb); have n1_ := Aside0.mk (hbox); have n2_ := Aside0.mk ((by rw [hg]; exact (below_size (by repeat (first | (with_reducible first | exact HB.out | apply below_alloc | apply pw_below_drewN | apply below_drew1) | exact HB.out))) : w.heap.size ≤ gb104)); have n3_ := Aside0.mk ((by rw [hg]; exact (below_size (by repeat (first | (with_reducible first | exact HB.out | apply below_alloc | apply pw_below_drewN | apply below_drew1) | exact HB.out))) : w.heap.size ≤ gb104)); clear HB; have HB := n0_; have BK104 := n1_; have GW104 := n2_; have GE104 := n3_; clear n0_ n1_ n2_ n3_; clear hb hbox hg))
  (try simp only [Act.put, List.setIfInBounds_toArray, List.set_cons_zero, List.set_cons_succ])
  go_cut [41] (fun v41 wc => ∃ (kq : Nat) (x41_4 : Bool), v41 = .bool x41_4 ∧ Aside0 (impl_Next.j0 kq l0 a1 a2 a3 x41_4 = some (r1, r2, r3, r4, r5, r6)) ∧ Aside0 (kq ≤ k) ∧ Aside0 (wc.heap[gb104]? = some (.cells #[.int .i64 0, .int .i64 0, .int .i64 0, .string (⟨#[]⟩ : ByteArray), .int .i64 0, .int .i64 0] 139 (0, 0))) ∧ Aside0 (Below w.heap.size w wc))
  case first =>
    have H := HC5.out
    clear HC5
    replace H := Option.bind_eq_some_iff.mp H
    obtain ⟨t105, A70, H⟩ := H
    replace H : (if t105 = true then (if (a1.size : Int) > 65536 then (impl_Next.j0 k l0 a1 a2 a3 true) else (if a2 < 0 then (impl_Next.j0 k l0 a1 a2 a3 true) else (if a2 > (a1.size : Int) then (impl_Next.j0 k l0 a1 a2 a3 true) else (if a3 < 0 then (impl_Next.j0 k l0 a1 a2 a3 true) else (impl_Next.j0 k l0 a1 a2 a3 (decide (a3 > 2))))))) else (impl_Next.j0 k l0 a1 a2 a3 true)) = some (r1, r2, r3, r4, r5, r6) := H
    have A7 := Aside0.mk A70
    clear A70
    by_cases c8 : t105 = true
    · subst c8
      have H1 : (if (a1.size : Int) > 65536 then (impl_Next.j0 k l0 a1 a2 a3 true) else (if a2 < 0 then (impl_Next.j0 k l0 a1 a2 a3 true) else (if a2 > (a1.size : Int) then (impl_Next.j0 k l0 a1 a2 a3 true) else (if a3 < 0 then (impl_Next.j0 k l0 a1 a2 a3 true) else (impl_Next.j0 k l0 a1 a2 a3 (decide (a3 > 2))))))) = some (r1, r2, r3, r4, r5, r6) := by rw [if_pos rfl] at H; exact H
      clear H
      have H := H1
      clear H1
      by_cases c9 : (a1.size : Int) > 65536
      · rw [if_pos c9] at H
        have c9b0 : decide (65536 < (a1.size : Int)) = true := decide_eq_true c9
        have c9b1 : decide (65536 < a1.size) = true := decide_eq_true (by omega)
        clear c9
        (first | rw [c9b0] | (simp only [i64_w, i32_w]; rw [c9b0]) | skip)
        have H' := Aside0.mk H
        clear H
        go_wp2_with (first | ((with_reducible refine gate_callee (f := 139) rfl ?_); refine goesL_ (some 17) rfl rfl Try.func139 (by kernel_rfl) rfl #[.slice A0 l0.length c0] rfl (by (try simp only [List.map_toArray, List.map_cons, List.map_nil]); first | done | rfl | (simp only [List.length_drop, List.length_take]; rfl)) ?_; (with_reducible refine (impl_CatsOk.calls k _ _ l0 true _ ?side1 ?side2 A7.out).mono ?_); (case side1 => repeat (first | exact (Kd.C_below HR0.out HB.out) | (with_reducible refine Kd.C_alloc ?_ _) | (with_reducible refine Kd.C_drewN ?_ _) | (with_reducible refine Kd.C_drew ?_))); (case side2 => exact HC0.out); rintro e w' ⟨rfl, ⟨nd, rfl⟩⟩; refine ⟨_, rfl, ?_⟩))
        go_meet
        case rel => exact ⟨_, (true), (by first | rfl | (simp; done) | (simp [*]; done)), H', ⟨by first | omega | exact Nat.le_refl _⟩, ⟨by (with_reducible repeat (first | refine blk_drewN ?_ _ | refine blk_drew ?_ | refine blk_alloc ?_ _)); exact BK104.out⟩, ⟨by repeat (first | (with_reducible first | exact HB.out | apply below_alloc | apply pw_below_drewN | apply below_drew1 | refine below_set ?_ GE104.out) | exact HB.out)⟩⟩
      · rw [if_neg c9] at H
        have c9b0 : decide (65536 < (a1.size : Int)) = false := decide_eq_false c9
        have c9b1 : decide (65536 < a1.size) = false := decide_eq_false (by omega)
        clear c9
        (first | rw [c9b0] | (simp only [i64_w, i32_w]; rw [c9b0]) | skip)
        by_cases c10 : a2 < 0
        · rw [if_pos c10] at H
          have c10b0 : decide (a2 < 0) = true := decide_eq_true c10
          clear c10
          have H' := Aside0.mk H
          clear H
          go_wp2_with (first | ((with_reducible refine gate_callee (f := 139) rfl ?_); refine goesL_ (some 17) rfl rfl Try.func139 (by kernel_rfl) rfl #[.slice A0 l0.length c0] rfl (by (try simp only [List.map_toArray, List.map_cons, List.map_nil]); first | done | rfl | (simp only [List.length_drop, List.length_take]; rfl)) ?_; (with_reducible refine (impl_CatsOk.calls k _ _ l0 true _ ?side1 ?side2 A7.out).mono ?_); (case side1 => repeat (first | exact (Kd.C_below HR0.out HB.out) | (with_reducible refine Kd.C_alloc ?_ _) | (with_reducible refine Kd.C_drewN ?_ _) | (with_reducible refine Kd.C_drew ?_))); (case side2 => exact HC0.out); rintro e w' ⟨rfl, ⟨nd, rfl⟩⟩; refine ⟨_, rfl, ?_⟩))
          go_meet
          case rel => exact ⟨_, (true), (by first | rfl | (simp; done) | (simp [*]; done)), H', ⟨by first | omega | exact Nat.le_refl _⟩, ⟨by (with_reducible repeat (first | refine blk_drewN ?_ _ | refine blk_drew ?_ | refine blk_alloc ?_ _)); exact BK104.out⟩, ⟨by repeat (first | (with_reducible first | exact HB.out | apply below_alloc | apply pw_below_drewN | apply below_drew1 | refine below_set ?_ GE104.out) | exact HB.out)⟩⟩
        · rw [if_neg c10] at H
          have c10b0 : decide (a2 < 0) = false := decide_eq_false c10
          clear c10
          by_cases c11 : a2 > (a1.size : Int)
          · rw [if_pos c11] at H
            have c11b0 : decide ((a1.size : Int) < a2) = true := decide_eq_true c11
            clear c11
            have H' := Aside0.mk H
            clear H
            go_wp2_with (first | ((with_reducible refine gate_callee (f := 139) rfl ?_); refine goesL_ (some 17) rfl rfl Try.func139 (by kernel_rfl) rfl #[.slice A0 l0.length c0] rfl (by (try simp only [List.map_toArray, List.map_cons, List.map_nil]); first | done | rfl | (simp only [List.length_drop, List.length_take]; rfl)) ?_; (with_reducible refine (impl_CatsOk.calls k _ _ l0 true _ ?side1 ?side2 A7.out).mono ?_); (case side1 => repeat (first | exact (Kd.C_below HR0.out HB.out) | (with_reducible refine Kd.C_alloc ?_ _) | (with_reducible refine Kd.C_drewN ?_ _) | (with_reducible refine Kd.C_drew ?_))); (case side2 => exact HC0.out); rintro e w' ⟨rfl, ⟨nd, rfl⟩⟩; refine ⟨_, rfl, ?_⟩))
            go_meet
            case rel => exact ⟨_, (true), (by first | rfl | (simp; done) | (simp [*]; done)), H', ⟨by first | omega | exact Nat.le_refl _⟩, ⟨by (with_reducible repeat (first | refine blk_drewN ?_ _ | refine blk_drew ?_ | refine blk_alloc ?_ _)); exact BK104.out⟩, ⟨by repeat (first | (with_reducible first | exact HB.out | apply below_alloc | apply pw_below_drewN | apply below_drew1 | refine below_set ?_ GE104.out) | exact HB.out)⟩⟩
          · rw [if_neg c11] at H
            have c11b0 : decide ((a1.size : Int) < a2) = false := decide_eq_false c11
            clear c11
            by_cases c12 : a3 < 0
            · rw [if_pos c12] at H
              have c12b0 : decide (a3 < 0) = true := decide_eq_true c12
              clear c12
              have H' := Aside0.mk H
              clear H
              go_wp2_with (first | ((with_reducible refine gate_callee (f := 139) rfl ?_); refine goesL_ (some 17) rfl rfl Try.func139 (by kernel_rfl) rfl #[.slice A0 l0.length c0] rfl (by (try simp only [List.map_toArray, List.map_cons, List.map_nil]); first | done | rfl | (simp only [List.length_drop, List.length_take]; rfl)) ?_; (with_reducible refine (impl_CatsOk.calls k _ _ l0 true _ ?side1 ?side2 A7.out).mono ?_); (case side1 => repeat (first | exact (Kd.C_below HR0.out HB.out) | (with_reducible refine Kd.C_alloc ?_ _) | (with_reducible refine Kd.C_drewN ?_ _) | (with_reducible refine Kd.C_drew ?_))); (case side2 => exact HC0.out); rintro e w' ⟨rfl, ⟨nd, rfl⟩⟩; refine ⟨_, rfl, ?_⟩))
              go_meet
              case rel => exact ⟨_, (true), (by first | rfl | (simp; done) | (simp [*]; done)), H', ⟨by first | omega | exact Nat.le_refl _⟩, ⟨by (with_reducible repeat (first | refine blk_drewN ?_ _ | refine blk_drew ?_ | refine blk_alloc ?_ _)); exact BK104.out⟩, ⟨by repeat (first | (with_reducible first | exact HB.out | apply below_alloc | apply pw_below_drewN | apply below_drew1 | refine below_set ?_ GE104.out) | exact HB.out)⟩⟩
            · rw [if_neg c12] at H
              have c12b0 : decide (a3 < 0) = false := decide_eq_false c12
              clear c12
              have H' := Aside0.mk H
              clear H
              go_wp2_with (first | ((with_reducible refine gate_callee (f := 139) rfl ?_); refine goesL_ (some 17) rfl rfl Try.func139 (by kernel_rfl) rfl #[.slice A0 l0.length c0] rfl (by (try simp only [List.map_toArray, List.map_cons, List.map_nil]); first | done | rfl | (simp only [List.length_drop, List.length_take]; rfl)) ?_; (with_reducible refine (impl_CatsOk.calls k _ _ l0 true _ ?side1 ?side2 A7.out).mono ?_); (case side1 => repeat (first | exact (Kd.C_below HR0.out HB.out) | (with_reducible refine Kd.C_alloc ?_ _) | (with_reducible refine Kd.C_drewN ?_ _) | (with_reducible refine Kd.C_drew ?_))); (case side2 => exact HC0.out); rintro e w' ⟨rfl, ⟨nd, rfl⟩⟩; refine ⟨_, rfl, ?_⟩))
              go_meet
              case rel => exact ⟨_, (decide (a3 > 2)), (by first | rfl | (simp; done) | (simp [*]; done)), H', ⟨by first | omega | exact Nat.le_refl _⟩, ⟨by (with_reducible repeat (first | refine blk_drewN ?_ _ | refine blk_drew ?_ | refine blk_alloc ?_ _)); exact BK104.out⟩, ⟨by repeat (first | (with_reducible first | exact HB.out | apply below_alloc | apply pw_below_drewN | apply below_drew1 | refine below_set ?_ GE104.out) | exact HB.out)⟩⟩
    · replace c8 := Bool.eq_false_iff.mpr c8
      subst c8
      have H1 : (impl_Next.j0 k l0 a1 a2 a3 true) = some (r1, r2, r3, r4, r5, r6) := by rw [if_neg (show ¬ (false = true) by decide)] at H; exact H
      clear H
      have H := H1
      clear H1
      have H' := Aside0.mk H
      clear H
      go_wp2_with (first | ((with_reducible refine gate_callee (f := 139) rfl ?_); refine goesL_ (some 17) rfl rfl Try.func139 (by kernel_rfl) rfl #[.slice A0 l0.length c0] rfl (by (try simp only [List.map_toArray, List.map_cons, List.map_nil]); first | done | rfl | (simp only [List.length_drop, List.length_take]; rfl)) ?_; (with_reducible refine (impl_CatsOk.calls k _ _ l0 false _ ?side1 ?side2 A7.out).mono ?_); (case side1 => repeat (first | exact (Kd.C_below HR0.out HB.out) | (with_reducible refine Kd.C_alloc ?_ _) | (with_reducible refine Kd.C_drewN ?_ _) | (with_reducible refine Kd.C_drew ?_))); (case side2 => exact HC0.out); rintro e w' ⟨rfl, ⟨nd, rfl⟩⟩; refine ⟨_, rfl, ?_⟩))
      go_meet
      case rel => exact ⟨_, (true), (by first | rfl | (simp; done) | (simp [*]; done)), H', ⟨by first | omega | exact Nat.le_refl _⟩, ⟨by (with_reducible repeat (first | refine blk_drewN ?_ _ | refine blk_drew ?_ | refine blk_alloc ?_ _)); exact BK104.out⟩, ⟨by repeat (first | (with_reducible first | exact HB.out | apply below_alloc | apply pw_below_drewN | apply below_drew1 | refine below_set ?_ GE104.out) | exact HB.out)⟩⟩
  case rest =>
    clear HC5
    try clear c1
    try clear p2
    try clear c8
    try clear c9
    try clear c9b0
    try clear c9b1
    try clear c10
    try clear c10b0
    try clear c11
    try clear c11b0
    try clear c12
    try clear c12b0
    obtain ⟨kq, x41_4, rfl, HA, HJ4, BK104, HB⟩ := hcut
    cases kq with
    | zero => exact absurd HA.out (by simp [impl_Next.j0])
    | succ kj4 =>
      have H := HA.out
      clear HA
      simp only [impl_Next.j0] at H
      by_cases c13 : x41_4 = true
      · subst c13
        have H1 : (some (3, 0, 0, (⟨#[]⟩ : ByteArray), 0, 0)) = some (r1, r2, r3, r4, r5, r6) := by rw [if_pos rfl] at H; exact H
        clear H
        have H := H1
        clear H1
        simp only [Option.some.injEq, Prod.mk.injEq] at H
        obtain ⟨rfl, rfl, rfl, rfl, rfl, rfl⟩ := H
        have hcz14_0 : wc.cell? ⟨gb104, 0, none⟩ = some (.int .i64 0) := (blk_cell BK104.out 0).trans rfl
        have hcz14_1 : wc.cell? ⟨gb104, 1, none⟩ = some (.int .i64 0) := (blk_cell BK104.out 1).trans rfl
        have hcz14_2 : wc.cell? ⟨gb104, 2, none⟩ = some (.int .i64 0) := (blk_cell BK104.out 2).trans rfl
        have hcz14_3 : wc.cell? ⟨gb104, 3, none⟩ = some (.string (⟨#[]⟩ : ByteArray)) := (blk_cell BK104.out 3).trans rfl
        have hcz14_4 : wc.cell? ⟨gb104, 4, none⟩ = some (.int .i64 0) := (blk_cell BK104.out 4).trans rfl
        have hcz14_5 : wc.cell? ⟨gb104, 5, none⟩ = some (.int .i64 0) := (blk_cell BK104.out 5).trans rfl
        have hfz14_0 := blk_frozen BK104.out 0
        have hfz14_1 := blk_frozen BK104.out 1
        have hfz14_2 := blk_frozen BK104.out 2
        have hfz14_3 := blk_frozen BK104.out 3
        have hfz14_4 := blk_frozen BK104.out 4
        have hfz14_5 := blk_frozen BK104.out 5
        go_wp2
        refine bodyPost_ret (results_cell_row rfl _ _ gb104 139 #[.int .i64 3, .int .i64 0, .int .i64 0, .string (⟨#[]⟩ : ByteArray), .int .i64 0, .int .i64 0] (0, 0) _ rfl (by (with_reducible repeat (first | refine blk_drewN ?_ _ | refine blk_drew ?_ | refine blk_alloc ?_ _)); refine blk_put (cs := #[.int .i64 3, .int .i64 0, .int .i64 0, .string (⟨#[]⟩ : ByteArray), .int .i64 0, .int .i64 0]) ?_ 5 _ rfl; (with_reducible repeat (first | refine blk_drewN ?_ _ | refine blk_drew ?_ | refine blk_alloc ?_ _)); refine blk_put (cs := #[.int .i64 3, .int .i64 0, .int .i64 0, .string (⟨#[]⟩ : ByteArray), .int .i64 0, .int .i64 0]) ?_ 4 _ rfl; (with_reducible repeat (first | refine blk_drewN ?_ _ | refine blk_drew ?_ | refine blk_alloc ?_ _)); refine blk_put (cs := #[.int .i64 3, .int .i64 0, .int .i64 0, .string (⟨#[]⟩ : ByteArray), .int .i64 0, .int .i64 0]) ?_ 3 _ rfl; (with_reducible repeat (first | refine blk_drewN ?_ _ | refine blk_drew ?_ | refine blk_alloc ?_ _)); refine blk_put (cs := #[.int .i64 3, .int .i64 0, .int .i64 0, .string (⟨#[]⟩ : ByteArray), .int .i64 0, .int .i64 0]) ?_ 2 _ rfl; (with_reducible repeat (first | refine blk_drewN ?_ _ | refine blk_drew ?_ | refine blk_alloc ?_ _)); refine blk_put (cs := #[.int .i64 3, .int .i64 0, .int .i64 0, .string (⟨#[]⟩ : ByteArray), .int .i64 0, .int .i64 0]) ?_ 1 _ rfl; (with_reducible repeat (first | refine blk_drewN ?_ _ | refine blk_drew ?_ | refine blk_alloc ?_ _)); refine blk_put (cs := #[.int .i64 0, .int .i64 0, .int .i64 0, .string (⟨#[]⟩ : ByteArray), .int .i64 0, .int .i64 0]) ?_ 0 _ rfl; (with_reducible repeat (first | refine blk_drewN ?_ _ | refine blk_drew ?_ | refine blk_alloc ?_ _)); exact BK104.out) Try.underlying139 rfl (by kernel_rfl)) rfl ?_
        exact ⟨by first | rfl | (simp [errW_none, errW_some] <;> rfl) | (simp [*, errW_none, errW_some] <;> rfl), by repeat (first | (with_reducible first | exact HB.out | apply below_alloc | apply pw_below_drewN | apply below_drew1 | refine below_set ?_ GE104.out) | exact HB.out)⟩
      · replace c13 := Bool.eq_false_iff.mpr c13
        subst c13
        have H1 : (impl_Next.l0 kj4 l0 a1 a2 a3 (a1.size : Int)) = some (r1, r2, r3, r4, r5, r6) := by rw [if_neg (show ¬ (false = true) by decide)] at H; exact H
        clear H
        have H := H1
        clear H1
        have H' := Aside0.mk H
        clear H
        go_wp2
        go_loopg [2, 3] kj4 (fun kq v2 v3 w' => ∃ (x2_2 : Int) (x3_2 : Int) (x105000_2 : Int) (x105001_2 : Int) (x105002_2 : Int) (x105003_2 : ByteArray) (x105004_2 : Int) (x105005_2 : Int), v2 = .int .i64 x2_2 ∧ v3 = .int .i64 x3_2 ∧ Aside0 (impl_Next.l0 kq l0 a1 x2_2 x3_2 (a1.size : Int) = some (r1, r2, r3, r4, r5, r6)) ∧ Aside0 (kq ≤ kj4) ∧ Aside0 (w'.heap[gb104]? = some (.cells #[.int .i64 x105000_2, .int .i64 x105001_2, .int .i64 x105002_2, .string x105003_2, .int .i64 x105004_2, .int .i64 x105005_2] 139 (0, 0))) ∧ Aside0 (Below w.heap.size w w'))
        case atStart => exact ⟨(a2), (a3), (0), (0), (0), ((⟨#[]⟩ : ByteArray)), (0), (0), (by first | rfl | (simp; done) | (simp [*]; done)), (by first | rfl | (simp; done) | (simp [*]; done)), H', ⟨Nat.le_refl _⟩, ⟨by (with_reducible repeat (first | refine blk_drewN ?_ _ | refine blk_drew ?_ | refine blk_alloc ?_ _)); exact BK104.out⟩, ⟨by repeat (first | (with_reducible first | exact HB.out | apply below_alloc | apply pw_below_drewN | apply below_drew1 | refine below_set ?_ GE104.out) | exact HB.out)⟩⟩
        case round =>
          clear H'
          try clear c1
          try clear p2
          try clear c8
          try clear c9
          try clear c9b0
          try clear c9b1
          try clear c10
          try clear c10b0
          try clear c11
          try clear c11b0
          try clear c12
          try clear c12b0
          try clear c13
          try clear hcz14_0
          try clear hcz14_1
          try clear hcz14_2
          try clear hcz14_3
          try clear hcz14_4
          try clear hcz14_5
          try clear hfz14_0
          try clear hfz14_1
          try clear hfz14_2
          try clear hfz14_3
          try clear hfz14_4
          try clear hfz14_5
          try clear p2
          obtain ⟨x2_2, x3_2, x105000_2, x105001_2, x105002_2, x105003_2, x105004_2, x105005_2, rfl, rfl, HA, HK2, BK104, HB⟩ := hrel
          cases gk with
          | zero => exact absurd HA.out (by simp [impl_Next.l0])
          | succ k2 =>
            have H := HA.out
            clear HA
            simp only [impl_Next.l0] at H
            by_cases c15 : x2_2 < (a1.size : Int)
            · rw [if_pos c15] at H
              have c15b0 : decide (x2_2 < (a1.size : Int)) = true := decide_eq_true c15
              clear c15
              by_cases c16 : 0 ≤ x2_2
              · rw [if_pos c16] at H
                have c16b0 : decide (0 ≤ x2_2) = true := decide_eq_true c16
                clear c16
                by_cases c17 : x2_2 < (a1.size : Int)
                · rw [if_pos c17] at H
                  have c17b0 : decide (x2_2 < (a1.size : Int)) = true := decide_eq_true c17
                  clear c17
                  by_cases c19 : 0 ≤ (bt a1 x2_2)
                  · rw [if_pos c19] at H
                    have c19b0 : decide (0 ≤ (bt a1 x2_2)) = true := decide_eq_true c19
                    clear c19
                    by_cases c20 : (bt a1 x2_2) < (l0.length : Int)
                    · rw [if_pos c20] at H
                      have c20b0 : decide ((bt a1 x2_2) < (l0.length : Int)) = true := decide_eq_true c20
                      clear c20
                      by_cases c21 : (rd l0 (bt a1 x2_2)) = 0
                      · rw [if_pos c21] at H
                        have c21b0 : ((rd l0 (bt a1 x2_2)) == 0) = true := beq_iff_eq.mpr c21
                        have c21b1 : ((rd l0 (bt a1 x2_2)) != 0) = false := bne_eq_false_iff_eq.mpr c21
                        clear c21
                        have HC22 := Aside0.mk H
                        clear H
                        have p18 : 0 ≤ (x2_2 : Int) := of_decide_eq_true (by first | (with_reducible assumption) | assumption)
                        have q18 : x2_2 < (a1.size : Int) := of_decide_eq_true (by first | (with_reducible assumption) | assumption)
                        have hx18 := bt_at a1 x2_2
                        replace p18 := eq_true p18
                        replace q18 := eq_true q18
                        have p106 : 0 ≤ ((bt a1 x2_2) : Int) := of_decide_eq_true (by first | (with_reducible assumption) | assumption)
                        have q106 : (bt a1 x2_2) < (l0.length : Int) := of_decide_eq_true (by first | (with_reducible assumption) | assumption)
                        obtain ⟨ad106, e106, hx106_0⟩ := Kd.at_int HR0.out (bt a1 x2_2) p106 q106
                        cases e106
                        replace hx106_0 := (HB.out.cell (World.block_lt_of_cell? w _ hx106_0)).trans hx106_0
                        replace p106 := eq_true p106
                        replace q106 := eq_true q106
                        go_upto_block 3 with (fail)
                        go_cut [13] (fun v13 wc => ∃ (kq : Nat) (x13_21 : Int), v13 = .int .i64 x13_21 ∧ Aside0 (impl_Next.j3 kq l0 a1 (wrap64 (x2_2 + 1)) (a1.size : Int) x13_21 = some (r1, r2, r3, r4, r5, r6)) ∧ Aside0 (kq ≤ k2) ∧ Aside0 (wc.heap[gb104]? = some (.cells #[.int .i64 x105000_2, .int .i64 x105001_2, .int .i64 x105002_2, .string x105003_2, .int .i64 x105004_2, .int .i64 x105005_2] 139 (0, 0))) ∧ Aside0 (Below w.heap.size w wc))
                        case first =>
                          have H := HC22.out
                          clear HC22
                          have H' := Aside0.mk H
                          clear H
                          go_wp2
                          go_loopg [13] k2 (fun kq v13 w' => ∃ (x13_3 : Int), v13 = .int .i64 x13_3 ∧ Aside0 (impl_Next.l1 kq l0 a1 (wrap64 (x2_2 + 1)) (a1.size : Int) x13_3 = some (r1, r2, r3, r4, r5, r6)) ∧ Aside0 (kq ≤ k2) ∧ Aside0 (w'.heap[gb104]? = some (.cells #[.int .i64 x105000_2, .int .i64 x105001_2, .int .i64 x105002_2, .string x105003_2, .int .i64 x105004_2, .int .i64 x105005_2] 139 (0, 0))) ∧ Aside0 (Below w.heap.size w w'))
                          case atStart => exact ⟨(wrap64 (x2_2 + 1)), (by first | rfl | (simp; done) | (simp [*]; done)), H', ⟨Nat.le_refl _⟩, ⟨by (with_reducible repeat (first | refine blk_drewN ?_ _ | refine blk_drew ?_ | refine blk_alloc ?_ _)); exact BK104.out⟩, ⟨by repeat (first | (with_reducible first | exact HB.out | apply below_alloc | apply pw_below_drewN | apply below_drew1 | refine below_set ?_ GE104.out) | exact HB.out)⟩⟩
                          case round =>
                            clear H'
                            try clear c1
                            try clear p1
                            try clear q1
                            try clear hx1
                            try clear c2
                            try clear p2
                            try clear p6
                            try clear c8
                            try clear c9
                            try clear c9b0
                            try clear c9b1
                            try clear c10
                            try clear c10b0
                            try clear p10
                            try clear q10
                            try clear hx10
                            try clear c11
                            try clear c11b0
                            try clear c12
                            try clear c12b0
                            try clear c13
                            try clear c15
                            try clear c15b0
                            try clear c16
                            try clear c16b0
                            try clear c17
                            try clear c17b0
                            try clear p18
                            try clear q18
                            try clear hx18
                            try clear c19
                            try clear c19b0
                            try clear c20
                            try clear c20b0
                            try clear c21
                            try clear c21b0
                            try clear c21b1
                            try clear hcz14_0
                            try clear hcz14_1
                            try clear hcz14_2
                            try clear hcz14_3
                            try clear hcz14_4
                            try clear hcz14_5
                            try clear hfz14_0
                            try clear hfz14_1
                            try clear hfz14_2
                            try clear hfz14_3
                            try clear hfz14_4
                            try clear hfz14_5
                            try clear hx106_0
                            try clear p106
                            try clear p18
                            try clear p2
                            try clear q106
                            try clear q18
                            obtain ⟨x13_3, rfl, HA, HK3, BK104, HB⟩ := hrel
                            cases gk with
                            | zero => exact absurd HA.out (by simp [impl_Next.l1])
                            | succ k3 =>
                              have H := HA.out
                              clear HA
                              simp only [impl_Next.l1] at H
                              by_cases c23 : x13_3 < (a1.size : Int)
                              · rw [if_pos c23] at H
                                have c23b0 : decide (x13_3 < (a1.size : Int)) = true := decide_eq_true c23
                                clear c23
                                (first | rw [c23b0] | (simp only [i64_w, i32_w]; rw [c23b0]) | skip)
                                by_cases c24 : x13_3 < (wrap64 ((wrap64 (x2_2 + 1)) + 40))
                                · rw [if_pos c24] at H
                                  have c24b0 : decide (x13_3 < (wrap64 ((wrap64 (x2_2 + 1)) + 40))) = true := decide_eq_true c24
                                  clear c24
                                  by_cases c25 : 0 ≤ x13_3
                                  · rw [if_pos c25] at H
                                    have c25b0 : decide (0 ≤ x13_3) = true := decide_eq_true c25
                                    clear c25
                                    by_cases c26 : x13_3 < (a1.size : Int)
                                    · rw [if_pos c26] at H
                                      have c26b0 : decide (x13_3 < (a1.size : Int)) = true := decide_eq_true c26
                                      clear c26
                                      by_cases c28 : 0 ≤ (bt a1 x13_3)
                                      · rw [if_pos c28] at H
                                        have c28b0 : decide (0 ≤ (bt a1 x13_3)) = true := decide_eq_true c28
                                        clear c28
                                        by_cases c29 : (bt a1 x13_3) < (l0.length : Int)
                                        · rw [if_pos c29] at H
                                          have c29b0 : decide ((bt a1 x13_3) < (l0.length : Int)) = true := decide_eq_true c29
                                          clear c29
                                          by_cases c30 : (rd l0 (bt a1 x13_3)) = 4
                                          · rw [if_pos c30] at H
                                            have c30b0 : ((rd l0 (bt a1 x13_3)) == 4) = true := beq_iff_eq.mpr c30
                                            have c30b1 : ((rd l0 (bt a1 x13_3)) != 4) = false := bne_eq_false_iff_eq.mpr c30
                                            clear c30
                                            have H' := Aside0.mk H
                                            clear H
                                            have p27 : 0 ≤ (x13_3 : Int) := of_decide_eq_true (by first | (with_reducible assumption) | assumption)
                                            have q27 : x13_3 < (a1.size : Int) := of_decide_eq_true (by first | (with_reducible assumption) | assumption)
                                            have hx27 := bt_at a1 x13_3
                                            replace p27 := eq_true p27
                                            replace q27 := eq_true q27
                                            have p107 : 0 ≤ ((bt a1 x13_3) : Int) := of_decide_eq_true (by first | (with_reducible assumption) | assumption)
                                            have q107 : (bt a1 x13_3) < (l0.length : Int) := of_decide_eq_true (by first | (with_reducible assumption) | assumption)
                                            obtain ⟨ad107, e107, hx107_0⟩ := Kd.at_int HR0.out (bt a1 x13_3) p107 q107
                                            obtain rfl : ad106 = ad107 := (by injection e107)
                                            replace hx107_0 := (HB.out.cell (World.block_lt_of_cell? w _ hx107_0)).trans hx107_0
                                            replace p107 := eq_true p107
                                            replace q107 := eq_true q107
                                            go_wp2
                                            go_roundg k3
                                            case measure => have := HJ4.out; have := HK2.out; have := HK3.out; omega
                                            case rel => exact ⟨(wrap64 (x13_3 + 1)), (by first | rfl | (simp; done) | (simp [*]; done)), H', ⟨by have := HJ4.out; have := HK2.out; have := HK3.out; omega⟩, ⟨by (with_reducible repeat (first | refine blk_drewN ?_ _ | refine blk_drew ?_ | refine blk_alloc ?_ _)); exact BK104.out⟩, ⟨by repeat (first | (with_reducible first | exact HB.out | apply below_alloc | apply pw_below_drewN | apply below_drew1 | refine below_set ?_ GE104.out) | exact HB.out)⟩⟩
                                          · rw [if_neg c30] at H
                                            have c30b0 : ((rd l0 (bt a1 x13_3)) == 4) = false := beq_eq_false_iff_ne.mpr c30
                                            have c30b1 : ((rd l0 (bt a1 x13_3)) != 4) = true := bne_iff_ne.mpr c30
                                            have H' := Aside0.mk H
                                            clear H
                                            have p27 : 0 ≤ (x13_3 : Int) := of_decide_eq_true (by first | (with_reducible assumption) | assumption)
                                            have q27 : x13_3 < (a1.size : Int) := of_decide_eq_true (by first | (with_reducible assumption) | assumption)
                                            have hx27 := bt_at a1 x13_3
                                            replace p27 := eq_true p27
                                            replace q27 := eq_true q27
                                            have p107 : 0 ≤ ((bt a1 x13_3) : Int) := of_decide_eq_true (by first | (with_reducible assumption) | assumption)
                                            have q107 : (bt a1 x13_3) < (l0.length : Int) := of_decide_eq_true (by first | (with_reducible assumption) | assumption)
                                            obtain ⟨ad107, e107, hx107_0⟩ := Kd.at_int HR0.out (bt a1 x13_3) p107 q107
                                            obtain rfl : ad106 = ad107 := (by injection e107)
                                            replace hx107_0 := (HB.out.cell (World.block_lt_of_cell? w _ hx107_0)).trans hx107_0
                                            replace p107 := eq_true p107
                                            replace q107 := eq_true q107
                                            go_wp2
                                            go_meet
                                            case rel => exact ⟨_, (x13_3), (by first | rfl | (simp; done) | (simp [*]; done)), H', ⟨by have := HJ4.out; have := HK2.out; have := HK3.out; first | omega | exact Nat.le_refl _⟩, ⟨by (with_reducible repeat (first | refine blk_drewN ?_ _ | refine blk_drew ?_ | refine blk_alloc ?_ _)); exact BK104.out⟩, ⟨by repeat (first | (with_reducible first | exact HB.out | apply below_alloc | apply pw_below_drewN | apply below_drew1 | refine below_set ?_ GE104.out) | exact HB.out)⟩⟩
                                        · rw [if_neg c29] at H
                                          exact absurd H (by simp)
                                      · rw [if_neg c28] at H
                                        exact absurd H (by simp)
                                    · rw [if_neg c26] at H
                                      exact absurd H (by simp)
                                  · rw [if_neg c25] at H
                                    exact absurd H (by simp)
                                · rw [if_neg c24] at H
                                  have c24b0 : decide (x13_3 < (wrap64 ((wrap64 (x2_2 + 1)) + 40))) = false := decide_eq_false c24
                                  clear c24
                                  have H' := Aside0.mk H
                                  clear H
                                  go_wp2
                                  go_meet
                                  case rel => exact ⟨_, (x13_3), (by first | rfl | (simp; done) | (simp [*]; done)), H', ⟨by have := HJ4.out; have := HK2.out; have := HK3.out; first | omega | exact Nat.le_refl _⟩, ⟨by (with_reducible repeat (first | refine blk_drewN ?_ _ | refine blk_drew ?_ | refine blk_alloc ?_ _)); exact BK104.out⟩, ⟨by repeat (first | (with_reducible first | exact HB.out | apply below_alloc | apply pw_below_drewN | apply below_drew1 | refine below_set ?_ GE104.out) | exact HB.out)⟩⟩
                              · rw [if_neg c23] at H
                                have c23b0 : decide (x13_3 < (a1.size : Int)) = false := decide_eq_false c23
                                clear c23
                                (first | rw [c23b0] | (simp only [i64_w, i32_w]; rw [c23b0]) | skip)
                                have H' := Aside0.mk H
                                clear H
                                go_wp2
                                go_meet
                                case rel => exact ⟨_, (x13_3), (by first | rfl | (simp; done) | (simp [*]; done)), H', ⟨by have := HJ4.out; have := HK2.out; have := HK3.out; first | omega | exact Nat.le_refl _⟩, ⟨by (with_reducible repeat (first | refine blk_drewN ?_ _ | refine blk_drew ?_ | refine blk_alloc ?_ _)); exact BK104.out⟩, ⟨by repeat (first | (with_reducible first | exact HB.out | apply below_alloc | apply pw_below_drewN | apply below_drew1 | refine below_set ?_ GE104.out) | exact HB.out)⟩⟩
                        case rest =>
                          clear HC22
                          try clear c1
                          try clear p1
                          try clear q1
                          try clear hx1
                          try clear c2
                          try clear p2
                          try clear q2
                          try clear hx2
                          try clear c3
                          try clear p6
                          try clear c8
                          try clear c9
                          try clear c9b0
                          try clear c9b1
                          try clear c10
                          try clear c10b0
                          try clear p10
                          try clear q10
                          try clear hx10
                          try clear c11
                          try clear c11b0
                          try clear c12
                          try clear c12b0
                          try clear c13
                          try clear c15
                          try clear c15b0
                          try clear c16
                          try clear c16b0
                          try clear c17
                          try clear c17b0
                          try clear p18
                          try clear q18
                          try clear hx18
                          try clear c19
                          try clear c19b0
                          try clear c20
                          try clear c20b0
                          try clear c21
                          try clear c21b0
                          try clear c21b1
                          try clear c23
                          try clear c23b0
                          try clear c24
                          try clear c24b0
                          try clear c25
                          try clear c25b0
                          try clear c26
                          try clear c26b0
                          try clear p27
                          try clear q27
                          try clear hx27
                          try clear c28
                          try clear c28b0
                          try clear c29
                          try clear c29b0
                          try clear c30
                          try clear c30b0
                          try clear c30b1
                          try clear hcz14_0
                          try clear hcz14_1
                          try clear hcz14_2
                          try clear hcz14_3
                          try clear hcz14_4
                          try clear hcz14_5
                          try clear hfz14_0
                          try clear hfz14_1
                          try clear hfz14_2
                          try clear hfz14_3
                          try clear hfz14_4
                          try clear hfz14_5
                          try clear hx106_0
                          try clear hx107_0
                          try clear p1
                          try clear p10
                          try clear p106
                          try clear p107
                          try clear p18
                          try clear p2
                          try clear p27
                          try clear p6
                          try clear q1
                          try clear q10
                          try clear q106
                          try clear q107
                          try clear q18
                          try clear q27
                          obtain ⟨kq, x13_21, rfl, HA, HJ21, BK104, HB⟩ := hcut
                          cases kq with
                          | zero => exact absurd HA.out (by simp [impl_Next.j3])
                          | succ kj21 =>
                            have H := HA.out
                            clear HA
                            simp only [impl_Next.j3] at H
                            obtain ⟨ji31, hji31⟩ : ∃ j_ : Int, (wrap64 (x2_2 + 1)) = j_ := ⟨_, rfl⟩
                            replace H : (if 0 ≤ (ji31) then (if (ji31) ≤ x13_21 then (if x13_21 ≤ (a1.size : Int) then ((strings_Clone.f (a1.extract ((ji31) : Int).toNat (x13_21 : Int).toNat)).bind fun t108 => (if x13_21 > (ji31) then (some (1, 0, 0, t108, x13_21, 2)) else (if (ji31) < (a1.size : Int) then (if (ji31) ≤ (wrap64 ((ji31) + 1)) then (if (wrap64 ((ji31) + 1)) ≤ (a1.size : Int) then ((strings_Clone.f (a1.extract ((ji31) : Int).toNat ((wrap64 ((ji31) + 1)) : Int).toNat)).bind fun t110 => (if (ji31) < (a1.size : Int) then (if 0 ≤ (bt a1 (ji31)) then (if (bt a1 (ji31)) < (l0.length : Int) then (if (rd l0 (bt a1 (ji31))) = 3 then (some (1, 0, 0, t110, wrap64 ((ji31) + 1), 2)) else (some (1, 0, 0, t110, wrap64 ((ji31) + 1), 1))) else (none)) else (none)) else (none))) else (none)) else (none)) else (some (1, 0, 0, t108, x13_21, 1))))) else (none)) else (none)) else (none)) = some (r1, r2, r3, r4, r5, r6) := by first | (rw [hji31] at H; exact H) | (simp only [hji31] at H ⊢; exact H)
                            have hji31w : (IntKind.i64.wrap (x2_2 + 1)) = ji31 := (i64_w _).trans hji31
                            by_cases c32 : 0 ≤ (ji31)
                            · rw [if_pos c32] at H
                              have c32b0 := eq_true c32
                              have c32b1 : decide (0 ≤ (ji31)) = true := decide_eq_true c32
                              clear c32
                              by_cases c33 : (ji31) ≤ x13_21
                              · rw [if_pos c33] at H
                                have c33b0 := eq_true c33
                                have c33b1 : decide ((ji31) ≤ x13_21) = true := decide_eq_true c33
                                clear c33
                                by_cases c34 : x13_21 ≤ (a1.size : Int)
                                · rw [if_pos c34] at H
                                  have c34b0 := eq_true c34
                                  have c34b1 : decide (x13_21 ≤ (a1.size : Int)) = true := decide_eq_true c34
                                  clear c34
                                  replace H := Option.bind_eq_some_iff.mp H
                                  obtain ⟨t108, A350, H⟩ := H
                                  replace H : (if x13_21 > (ji31) then (some (1, 0, 0, t108, x13_21, 2)) else (if (ji31) < (a1.size : Int) then (if (ji31) ≤ (wrap64 ((ji31) + 1)) then (if (wrap64 ((ji31) + 1)) ≤ (a1.size : Int) then ((strings_Clone.f (a1.extract ((ji31) : Int).toNat ((wrap64 ((ji31) + 1)) : Int).toNat)).bind fun t110 => (if (ji31) < (a1.size : Int) then (if 0 ≤ (bt a1 (ji31)) then (if (bt a1 (ji31)) < (l0.length : Int) then (if (rd l0 (bt a1 (ji31))) = 3 then (some (1, 0, 0, t110, wrap64 ((ji31) + 1), 2)) else (some (1, 0, 0, t110, wrap64 ((ji31) + 1), 1))) else (none)) else (none)) else (none))) else (none)) else (none)) else (some (1, 0, 0, t108, x13_21, 1)))) = some (r1, r2, r3, r4, r5, r6) := H
                                  have A35 := Aside0.mk A350
                                  clear A350
                                  by_cases c36 : x13_21 > (ji31)
                                  · rw [if_pos c36] at H
                                    have c36b0 : decide ((ji31) < x13_21) = true := decide_eq_true c36
                                    clear c36
                                    simp only [Option.some.injEq, Prod.mk.injEq] at H
                                    obtain ⟨rfl, rfl, rfl, rfl, rfl, rfl⟩ := H
                                    go_wp2_with (first | ((with_reducible refine gate_callee (f := 141) rfl ?_); refine goesL_ (some 91) rfl rfl Try.func141 (by kernel_rfl) rfl #[.string (a1.extract ((ji31) : Int).toNat (x13_21 : Int).toNat)] rfl (by (try simp only [List.map_toArray, List.map_cons, List.map_nil]); first | done | (simp only [hji31]; rfl) | rfl | (simp only [List.length_drop, List.length_take]; rfl)) ?_; (with_reducible refine (strings_Clone.calls (a1.extract ((ji31) : Int).toNat (x13_21 : Int).toNat) t108 _ A35.out).mono ?_); rintro e w37 ⟨rfl, hb⟩; refine ⟨_, rfl, ?_⟩; have n0_ := Aside0.mk (blk_below (g := gb104) (o := .cells #[.int .i64 x105000_2, .int .i64 x105001_2, .int .i64 x105002_2, .string x105003_2, .int .i64 x105004_2, .int .i64 x105005_2] 139 (0, 0)) (by (with_reducible repeat (first | refine blk_drewN ?_ _ | refine blk_drew ?_ | refine blk_alloc ?_ _)); exact BK104.out) hb); have n1_ := Aside0.mk (below_step (by repeat (first | (with_reducible first | exact HB.out | apply below_alloc | apply pw_below_drewN | apply below_drew1 | refine below_set ?_ GE104.out) | exact HB.out)) hb); clear BK104; clear HB; have BK104 := n0_; have HB := n1_; clear n0_ n1_; (try clear hb); (try clear hb2); (try clear hk); (try clear hi)) | ((with_reducible refine gate_dst (N := 14) rfl ?_); (try (refine gate_guard (by rfl) ?_; dsimp only)); refine box_event ?hg (N := 14) ?hd (cs := #[.int .i64 0, .int .i64 0, .string (⟨#[]⟩ : ByteArray)]) (t := 42) ?hr ?_; (case hd => rfl); (case hg => rfl); (case hr => first | (go_simp; done) | (go_simp; rfl)); intro gb109 hg w38 hbox hb; have n0_ := Aside0.mk (blk_below (g := gb104) (o := .cells #[.int .i64 x105000_2, .int .i64 x105001_2, .int .i64 x105002_2, .string x105003_2, .int .i64 x105004_2, .int .i64 x105005_2] 139 (0, 0)) (by (with_reducible repeat (first | refine blk_drewN ?_ _ | refine blk_drew ?_ | refine blk_alloc ?_ _)); exact BK104.out) hb); have n1_ := Aside0.mk (below_step (by repeat (first | (with_reducible first | exact HB.out | apply below_alloc | apply pw_below_drewN | apply below_drew1 | refine below_set ?_ GE104.out) | exact HB.out)) hb); have n2_ := Aside0.mk (hbox); have n3_ := Aside0.mk ((by rw [hg]; exact (below_size (by repeat (first | (with_reducible first | exact HB.out | apply below_alloc | apply pw_below_drewN | apply below_drew1 | refine below_set ?_ GE104.out) | exact HB.out))) : w.heap.size ≤ gb109)); have n4_ := Aside0.mk ((by rw [hg]; exact (below_size (by repeat (first | (with_reducible first | exact HB.out | apply below_alloc | apply pw_below_drewN | apply below_drew1 | refine below_set ?_ GE104.out) | exact HB.out))) : w.heap.size ≤ gb109)); have n5_ := Aside0.mk ((by rw [hg]; exact Nat.ne_of_lt (blk_lt (g := gb104) (o := .cells #[.int .i64 x105000_2, .int .i64 x105001_2, .int .i64 x105002_2, .string x105003_2, .int .i64 x105004_2, .int .i64 x105005_2] 139 (0, 0)) (by (with_reducible repeat (first | refine blk_drewN ?_ _ | refine blk_drew ?_ | refine blk_alloc ?_ _)); exact BK104.out)) : gb104 ≠ gb109)); have n6_ := Aside0.mk ((by rw [hg]; exact Nat.ne_of_gt (blk_lt (g := gb104) (o := .cells #[.int .i64 x105000_2, .int .i64 x105001_2, .int .i64 x105002_2, .string x105003_2, .int .i64 x105004_2, .int .i64 x105005_2] 139 (0, 0)) (by (with_reducible repeat (first | refine blk_drewN ?_ _ | refine blk_drew ?_ | refine blk_alloc ?_ _)); exact BK104.out)) : gb109 ≠ gb104)); clear BK104; clear HB; have BK104 := n0_; have HB := n1_; have BK109 := n2_; have GW109 := n3_; have GE109 := n4_; have NB104_109 := n5_; have NB109_104 := n6_; clear n0_ n1_ n2_ n3_ n4_ n5_ n6_; clear hb hbox hg; have hnb39 := NB109_104.out; have hnc39 := NB104_109.out; have hcz40_0 : w38.cell? ⟨gb109, 0, none⟩ = some (.int .i64 0) := (blk_cell BK109.out 0).trans rfl; have hcz40_1 : w38.cell? ⟨gb109, 1, none⟩ = some (.int .i64 0) := (blk_cell BK109.out 1).trans rfl; have hcz40_2 : w38.cell? ⟨gb109, 2, none⟩ = some (.string (⟨#[]⟩ : ByteArray)) := (blk_cell BK109.out 2).trans rfl; have hfz40_0 := blk_frozen BK109.out 0; have hfz40_1 := blk_frozen BK109.out 1; have hfz40_2 := blk_frozen BK109.out 2; have hcz41_0 : w38.cell? ⟨gb104, 0, none⟩ = some (.int .i64 x105000_2) := (blk_cell BK104.out 0).trans rfl; have hcz41_1 : w38.cell? ⟨gb104, 1, none⟩ = some (.int .i64 x105001_2) := (blk_cell BK104.out 1).trans rfl; have hcz41_2 : w38.cell? ⟨gb104, 2, none⟩ = some (.int .i64 x105002_2) := (blk_cell BK104.out 2).trans rfl; have hcz41_3 : w38.cell? ⟨gb104, 3, none⟩ = some (.string x105003_2) := (blk_cell BK104.out 3).trans rfl; have hcz41_4 : w38.cell? ⟨gb104, 4, none⟩ = some (.int .i64 x105004_2) := (blk_cell BK104.out 4).trans rfl; have hcz41_5 : w38.cell? ⟨gb104, 5, none⟩ = some (.int .i64 x105005_2) := (blk_cell BK104.out 5).trans rfl; have hfz41_0 := blk_frozen BK104.out 0; have hfz41_1 := blk_frozen BK104.out 1; have hfz41_2 := blk_frozen BK104.out 2; have hfz41_3 := blk_frozen BK104.out 3; have hfz41_4 := blk_frozen BK104.out 4; have hfz41_5 := blk_frozen BK104.out 5))
                                    refine bodyPost_ret (results_cell_row rfl _ _ gb104 139 #[.int .i64 1, .int .i64 0, .int .i64 0, .string t108, .int .i64 x13_21, .int .i64 2] (0, 0) _ rfl (by (with_reducible repeat (first | refine blk_drewN ?_ _ | refine blk_drew ?_ | refine blk_alloc ?_ _)); refine blk_put (cs := #[.int .i64 1, .int .i64 0, .int .i64 0, .string t108, .int .i64 x13_21, .int .i64 x105005_2]) ?_ 5 _ rfl; (with_reducible repeat (first | refine blk_drewN ?_ _ | refine blk_drew ?_ | refine blk_alloc ?_ _)); refine blk_put (cs := #[.int .i64 1, .int .i64 0, .int .i64 0, .string t108, .int .i64 x105004_2, .int .i64 x105005_2]) ?_ 4 _ rfl; (with_reducible repeat (first | refine blk_drewN ?_ _ | refine blk_drew ?_ | refine blk_alloc ?_ _)); refine blk_put (cs := #[.int .i64 1, .int .i64 0, .int .i64 0, .string x105003_2, .int .i64 x105004_2, .int .i64 x105005_2]) ?_ 3 _ rfl; (with_reducible repeat (first | refine blk_drewN ?_ _ | refine blk_drew ?_ | refine blk_alloc ?_ _)); refine blk_put (cs := #[.int .i64 1, .int .i64 0, .int .i64 x105002_2, .string x105003_2, .int .i64 x105004_2, .int .i64 x105005_2]) ?_ 2 _ rfl; (with_reducible repeat (first | refine blk_drewN ?_ _ | refine blk_drew ?_ | refine blk_alloc ?_ _)); refine blk_put (cs := #[.int .i64 1, .int .i64 x105001_2, .int .i64 x105002_2, .string x105003_2, .int .i64 x105004_2, .int .i64 x105005_2]) ?_ 1 _ rfl; (with_reducible repeat (first | refine blk_drewN ?_ _ | refine blk_drew ?_ | refine blk_alloc ?_ _)); refine blk_put (cs := #[.int .i64 x105000_2, .int .i64 x105001_2, .int .i64 x105002_2, .string x105003_2, .int .i64 x105004_2, .int .i64 x105005_2]) ?_ 0 _ rfl; (with_reducible repeat (first | refine blk_drewN ?_ _ | refine blk_drew ?_ | refine blk_alloc ?_ _)); refine blk_far ?_ NB104_109.out _; (with_reducible repeat (first | refine blk_drewN ?_ _ | refine blk_drew ?_ | refine blk_alloc ?_ _)); refine blk_far ?_ NB104_109.out _; (with_reducible repeat (first | refine blk_drewN ?_ _ | refine blk_drew ?_ | refine blk_alloc ?_ _)); refine blk_far ?_ NB104_109.out _; (with_reducible repeat (first | refine blk_drewN ?_ _ | refine blk_drew ?_ | refine blk_alloc ?_ _)); exact BK104.out) Try.underlying139 rfl (by kernel_rfl)) rfl ?_
                                    exact ⟨by first | rfl | (simp [errW_none, errW_some] <;> rfl) | (simp only [← hji31]; first | rfl | (simp [errW_none, errW_some] <;> rfl)) | (simp [*, errW_none, errW_some] <;> rfl), by repeat (first | (with_reducible first | exact HB.out | apply below_alloc | apply pw_below_drewN | apply below_drew1 | refine below_set ?_ GE104.out | refine below_set ?_ GE109.out) | exact HB.out)⟩
                                  · rw [if_neg c36] at H
                                    have c36b0 : decide ((ji31) < x13_21) = false := decide_eq_false c36
                                    clear c36
                                    by_cases c42 : (ji31) < (a1.size : Int)
                                    · rw [if_pos c42] at H
                                      have c42b0 : decide ((ji31) < (a1.size : Int)) = true := decide_eq_true c42
                                      clear c42
                                      have c43b0 := eq_true (of_decide_eq_true (by first | (with_reducible assumption) | assumption) : 0 ≤ (ji31))
                                      by_cases c44 : (ji31) ≤ (wrap64 ((ji31) + 1))
                                      · rw [if_pos c44] at H
                                        have c44b0 := eq_true c44
                                        have c44b1 : decide ((ji31) ≤ (wrap64 ((ji31) + 1))) = true := decide_eq_true c44
                                        by_cases c45 : (wrap64 ((ji31) + 1)) ≤ (a1.size : Int)
                                        · rw [if_pos c45] at H
                                          have c45b0 := eq_true c45
                                          have c45b1 : decide ((wrap64 ((ji31) + 1)) ≤ (a1.size : Int)) = true := decide_eq_true c45
                                          replace H := Option.bind_eq_some_iff.mp H
                                          obtain ⟨t110, A460, H⟩ := H
                                          replace H : (if (ji31) < (a1.size : Int) then (if 0 ≤ (bt a1 (ji31)) then (if (bt a1 (ji31)) < (l0.length : Int) then (if (rd l0 (bt a1 (ji31))) = 3 then (some (1, 0, 0, t110, wrap64 ((ji31) + 1), 2)) else (some (1, 0, 0, t110, wrap64 ((ji31) + 1), 1))) else (none)) else (none)) else (none)) = some (r1, r2, r3, r4, r5, r6) := H
                                          have A46 := Aside0.mk A460
                                          clear A460
                                          by_cases c47 : (ji31) < (a1.size : Int)
                                          · rw [if_pos c47] at H
                                            have c47b0 : decide ((ji31) < (a1.size : Int)) = true := decide_eq_true c47
                                            clear c47
                                            by_cases c49 : 0 ≤ (bt a1 (ji31))
                                            · rw [if_pos c49] at H
                                              have c49b0 : decide (0 ≤ (bt a1 (ji31))) = true := decide_eq_true c49
                                              clear c49
                                              by_cases c50 : (bt a1 (ji31)) < (l0.length : Int)
                                              · rw [if_pos c50] at H
                                                have c50b0 : decide ((bt a1 (ji31)) < (l0.length : Int)) = true := decide_eq_true c50
                                                clear c50
                                                by_cases c51 : (rd l0 (bt a1 (ji31))) = 3
                                                · rw [if_pos c51] at H
                                                  have c51b0 : ((rd l0 (bt a1 (ji31))) == 3) = true := beq_iff_eq.mpr c51
                                                  have c51b1 : ((rd l0 (bt a1 (ji31))) != 3) = false := bne_eq_false_iff_eq.mpr c51
                                                  clear c51
                                                  simp only [Option.some.injEq, Prod.mk.injEq] at H
                                                  obtain ⟨rfl, rfl, rfl, rfl, rfl, rfl⟩ := H
                                                  go_wp2_with (first | ((with_reducible refine gate_callee (f := 141) rfl ?_); refine goesL_ (some 91) rfl rfl Try.func141 (by kernel_rfl) rfl #[.string (a1.extract ((ji31) : Int).toNat (x13_21 : Int).toNat)] rfl (by (try simp only [List.map_toArray, List.map_cons, List.map_nil]); first | done | (simp only [hji31]; rfl) | rfl | (simp only [List.length_drop, List.length_take]; rfl)) ?_; (with_reducible refine (strings_Clone.calls (a1.extract ((ji31) : Int).toNat (x13_21 : Int).toNat) t108 _ A35.out).mono ?_); rintro e w52 ⟨rfl, hb⟩; refine ⟨_, rfl, ?_⟩; have n0_ := Aside0.mk (blk_below (g := gb104) (o := .cells #[.int .i64 x105000_2, .int .i64 x105001_2, .int .i64 x105002_2, .string x105003_2, .int .i64 x105004_2, .int .i64 x105005_2] 139 (0, 0)) (by (with_reducible repeat (first | refine blk_drewN ?_ _ | refine blk_drew ?_ | refine blk_alloc ?_ _)); exact BK104.out) hb); have n1_ := Aside0.mk (below_step (by repeat (first | (with_reducible first | exact HB.out | apply below_alloc | apply pw_below_drewN | apply below_drew1 | refine below_set ?_ GE104.out) | exact HB.out)) hb); clear BK104; clear HB; have BK104 := n0_; have HB := n1_; clear n0_ n1_; (try clear hb); (try clear hb2); (try clear hk); (try clear hi)) | ((with_reducible refine gate_dst (N := 14) rfl ?_); (try (refine gate_guard (by rfl) ?_; dsimp only)); refine box_event ?hg (N := 14) ?hd (cs := #[.int .i64 0, .int .i64 0, .string (⟨#[]⟩ : ByteArray)]) (t := 42) ?hr ?_; (case hd => rfl); (case hg => rfl); (case hr => first | (go_simp; done) | (go_simp; rfl)); intro gb109 hg w53 hbox hb; have n0_ := Aside0.mk (blk_below (g := gb104) (o := .cells #[.int .i64 x105000_2, .int .i64 x105001_2, .int .i64 x105002_2, .string x105003_2, .int .i64 x105004_2, .int .i64 x105005_2] 139 (0, 0)) (by (with_reducible repeat (first | refine blk_drewN ?_ _ | refine blk_drew ?_ | refine blk_alloc ?_ _)); exact BK104.out) hb); have n1_ := Aside0.mk (below_step (by repeat (first | (with_reducible first | exact HB.out | apply below_alloc | apply pw_below_drewN | apply below_drew1 | refine below_set ?_ GE104.out) | exact HB.out)) hb); have n2_ := Aside0.mk (hbox); have n3_ := Aside0.mk ((by rw [hg]; exact (below_size (by repeat (first | (with_reducible first | exact HB.out | apply below_alloc | apply pw_below_drewN | apply below_drew1 | refine below_set ?_ GE104.out) | exact HB.out))) : w.heap.size ≤ gb109)); have n4_ := Aside0.mk ((by rw [hg]; exact (below_size (by repeat (first | (with_reducible first | exact HB.out | apply below_alloc | apply pw_below_drewN | apply below_drew1 | refine below_set ?_ GE104.out) | exact HB.out))) : w.heap.size ≤ gb109)); have n5_ := Aside0.mk ((by rw [hg]; exact Nat.ne_of_lt (blk_lt (g := gb104) (o := .cells #[.int .i64 x105000_2, .int .i64 x105001_2, .int .i64 x105002_2, .string x105003_2, .int .i64 x105004_2, .int .i64 x105005_2] 139 (0, 0)) (by (with_reducible repeat (first | refine blk_drewN ?_ _ | refine blk_drew ?_ | refine blk_alloc ?_ _)); exact BK104.out)) : gb104 ≠ gb109)); have n6_ := Aside0.mk ((by rw [hg]; exact Nat.ne_of_gt (blk_lt (g := gb104) (o := .cells #[.int .i64 x105000_2, .int .i64 x105001_2, .int .i64 x105002_2, .string x105003_2, .int .i64 x105004_2, .int .i64 x105005_2] 139 (0, 0)) (by (with_reducible repeat (first | refine blk_drewN ?_ _ | refine blk_drew ?_ | refine blk_alloc ?_ _)); exact BK104.out)) : gb109 ≠ gb104)); clear BK104; clear HB; have BK104 := n0_; have HB := n1_; have BK109 := n2_; have GW109 := n3_; have GE109 := n4_; have NB104_109 := n5_; have NB109_104 := n6_; clear n0_ n1_ n2_ n3_ n4_ n5_ n6_; clear hb hbox hg; have hnb54 := NB109_104.out; have hnc54 := NB104_109.out; have hcz55_0 : w53.cell? ⟨gb109, 0, none⟩ = some (.int .i64 0) := (blk_cell BK109.out 0).trans rfl; have hcz55_1 : w53.cell? ⟨gb109, 1, none⟩ = some (.int .i64 0) := (blk_cell BK109.out 1).trans rfl; have hcz55_2 : w53.cell? ⟨gb109, 2, none⟩ = some (.string (⟨#[]⟩ : ByteArray)) := (blk_cell BK109.out 2).trans rfl; have hfz55_0 := blk_frozen BK109.out 0; have hfz55_1 := blk_frozen BK109.out 1; have hfz55_2 := blk_frozen BK109.out 2) | ((with_reducible refine gate_callee (f := 141) rfl ?_); refine goesL_ (some 107) rfl rfl Try.func141 (by kernel_rfl) rfl #[.string (a1.extract ((ji31) : Int).toNat ((wrap64 ((ji31) + 1)) : Int).toNat)] rfl (by (try simp only [List.map_toArray, List.map_cons, List.map_nil]); first | done | (simp only [hji31]; rfl) | rfl | (simp only [List.length_drop, List.length_take]; rfl)) ?_; (with_reducible refine (strings_Clone.calls (a1.extract ((ji31) : Int).toNat ((wrap64 ((ji31) + 1)) : Int).toNat) t110 _ A46.out).mono ?_); rintro e w56 ⟨rfl, hb⟩; refine ⟨_, rfl, ?_⟩; have n0_ := Aside0.mk (blk_below (g := gb104) (o := .cells #[.int .i64 x105000_2, .int .i64 x105001_2, .int .i64 x105002_2, .string x105003_2, .int .i64 x105004_2, .int .i64 x105005_2] 139 (0, 0)) (by (with_reducible repeat (first | refine blk_drewN ?_ _ | refine blk_drew ?_ | refine blk_alloc ?_ _)); refine blk_far ?_ NB104_109.out _; (with_reducible repeat (first | refine blk_drewN ?_ _ | refine blk_drew ?_ | refine blk_alloc ?_ _)); refine blk_far ?_ NB104_109.out _; (with_reducible repeat (first | refine blk_drewN ?_ _ | refine blk_drew ?_ | refine blk_alloc ?_ _)); refine blk_far ?_ NB104_109.out _; (with_reducible repeat (first | refine blk_drewN ?_ _ | refine blk_drew ?_ | refine blk_alloc ?_ _)); exact BK104.out) hb); have n1_ := Aside0.mk (blk_below (g := gb109) (o := .cells #[.int .i64 0, .int .i64 0, .string t108] 42 (0, 0)) (by (with_reducible repeat (first | refine blk_drewN ?_ _ | refine blk_drew ?_ | refine blk_alloc ?_ _)); refine blk_put (cs := #[.int .i64 0, .int .i64 0, .string (⟨#[]⟩ : ByteArray)]) ?_ 2 _ rfl; (with_reducible repeat (first | refine blk_drewN ?_ _ | refine blk_drew ?_ | refine blk_alloc ?_ _)); refine blk_put (cs := #[.int .i64 0, .int .i64 0, .string (⟨#[]⟩ : ByteArray)]) ?_ 1 _ rfl; (with_reducible repeat (first | refine blk_drewN ?_ _ | refine blk_drew ?_ | refine blk_alloc ?_ _)); refine blk_put (cs := #[.int .i64 0, .int .i64 0, .string (⟨#[]⟩ : ByteArray)]) ?_ 0 _ rfl; (with_reducible repeat (first | refine blk_drewN ?_ _ | refine blk_drew ?_ | refine blk_alloc ?_ _)); exact BK109.out) hb); have n2_ := Aside0.mk (below_step (by repeat (first | (with_reducible first | exact HB.out | apply below_alloc | apply pw_below_drewN | apply below_drew1 | refine below_set ?_ GE104.out | refine below_set ?_ GE109.out) | exact HB.out)) hb); clear BK104; clear BK109; clear HB; have BK104 := n0_; have BK109 := n1_; have HB := n2_; clear n0_ n1_ n2_; (try clear hb); (try clear hb2); (try clear hk); (try clear hi); have hcz57_0 : w56.cell? ⟨gb109, 0, none⟩ = some (.int .i64 0) := (blk_cell BK109.out 0).trans rfl; have hcz57_1 : w56.cell? ⟨gb109, 1, none⟩ = some (.int .i64 0) := (blk_cell BK109.out 1).trans rfl; have hcz57_2 : w56.cell? ⟨gb109, 2, none⟩ = some (.string t108) := (blk_cell BK109.out 2).trans rfl; have hfz57_0 := blk_frozen BK109.out 0; have hfz57_1 := blk_frozen BK109.out 1; have hfz57_2 := blk_frozen BK109.out 2; have p48 : 0 ≤ ((ji31) : Int) := of_decide_eq_true (by first | (with_reducible assumption) | assumption); have q48 : (ji31) < (a1.size : Int) := of_decide_eq_true (by first | (with_reducible assumption) | assumption); have hx48 := bt_at a1 (ji31); replace p48 := eq_true p48; replace q48 := eq_true q48; have p111 : 0 ≤ ((bt a1 (ji31)) : Int) := of_decide_eq_true (by first | (with_reducible assumption) | assumption); have q111 : (bt a1 (ji31)) < (l0.length : Int) := of_decide_eq_true (by first | (with_reducible assumption) | assumption); obtain ⟨ad111, e111, hx111_0⟩ := Kd.at_int HR0.out (bt a1 (ji31)) p111 q111; obtain rfl : ad106 = ad111 := (by injection e111); have hn111_0 : ad106.block ≠ gb109 := Nat.ne_of_lt (Nat.lt_of_lt_of_le (by have := World.block_lt_of_cell? _ _ hx111_0; first | rwa [add_block] at this | exact this) GW109.out); replace hx111_0 := (HB.out.cell (World.block_lt_of_cell? w _ hx111_0)).trans hx111_0; replace hx111_0 := (cell_far (p := ⟨gb109, 2, none⟩) (by first | (rw [add_block]; exact hn111_0) | (show (Addr.add _ _).block ≠ _; rw [add_block]; exact hn111_0) | exact hn111_0) (.string t110)).trans hx111_0; clear hn111_0; replace p111 := eq_true p111; replace q111 := eq_true q111; have hcz58_0 : w56.cell? ⟨gb104, 0, none⟩ = some (.int .i64 x105000_2) := (blk_cell BK104.out 0).trans rfl; have hcz58_1 : w56.cell? ⟨gb104, 1, none⟩ = some (.int .i64 x105001_2) := (blk_cell BK104.out 1).trans rfl; have hcz58_2 : w56.cell? ⟨gb104, 2, none⟩ = some (.int .i64 x105002_2) := (blk_cell BK104.out 2).trans rfl; have hcz58_3 : w56.cell? ⟨gb104, 3, none⟩ = some (.string x105003_2) := (blk_cell BK104.out 3).trans rfl; have hcz58_4 : w56.cell? ⟨gb104, 4, none⟩ = some (.int .i64 x105004_2) := (blk_cell BK104.out 4).trans rfl; have hcz58_5 : w56.cell? ⟨gb104, 5, none⟩ = some (.int .i64 x105005_2) := (blk_cell BK104.out 5).trans rfl; have hfz58_0 := blk_frozen BK104.out 0; have hfz58_1 := blk_frozen BK104.out 1; have hfz58_2 := blk_frozen BK104.out 2; have hfz58_3 := blk_frozen BK104.out 3; have hfz58_4 := blk_frozen BK104.out 4; have hfz58_5 := blk_frozen BK104.out 5))
                                                  refine bodyPost_ret (results_cell_row rfl _ _ gb104 139 #[.int .i64 1, .int .i64 0, .int .i64 0, .string t110, .int .i64 (wrap64 ((ji31) + 1)), .int .i64 2] (0, 0) _ rfl (by (with_reducible repeat (first | refine blk_drewN ?_ _ | refine blk_drew ?_ | refine blk_alloc ?_ _)); refine blk_put (cs := #[.int .i64 1, .int .i64 0, .int .i64 0, .string t110, .int .i64 (wrap64 ((ji31) + 1)), .int .i64 x105005_2]) ?_ 5 _ rfl; (with_reducible repeat (first | refine blk_drewN ?_ _ | refine blk_drew ?_ | refine blk_alloc ?_ _)); refine blk_put (cs := #[.int .i64 1, .int .i64 0, .int .i64 0, .string t110, .int .i64 x105004_2, .int .i64 x105005_2]) ?_ 4 _ rfl; (with_reducible repeat (first | refine blk_drewN ?_ _ | refine blk_drew ?_ | refine blk_alloc ?_ _)); refine blk_put (cs := #[.int .i64 1, .int .i64 0, .int .i64 0, .string x105003_2, .int .i64 x105004_2, .int .i64 x105005_2]) ?_ 3 _ rfl; (with_reducible repeat (first | refine blk_drewN ?_ _ | refine blk_drew ?_ | refine blk_alloc ?_ _)); refine blk_put (cs := #[.int .i64 1, .int .i64 0, .int .i64 x105002_2, .string x105003_2, .int .i64 x105004_2, .int .i64 x105005_2]) ?_ 2 _ rfl; (with_reducible repeat (first | refine blk_drewN ?_ _ | refine blk_drew ?_ | refine blk_alloc ?_ _)); refine blk_put (cs := #[.int .i64 1, .int .i64 x105001_2, .int .i64 x105002_2, .string x105003_2, .int .i64 x105004_2, .int .i64 x105005_2]) ?_ 1 _ rfl; (with_reducible repeat (first | refine blk_drewN ?_ _ | refine blk_drew ?_ | refine blk_alloc ?_ _)); refine blk_put (cs := #[.int .i64 x105000_2, .int .i64 x105001_2, .int .i64 x105002_2, .string x105003_2, .int .i64 x105004_2, .int .i64 x105005_2]) ?_ 0 _ rfl; (with_reducible repeat (first | refine blk_drewN ?_ _ | refine blk_drew ?_ | refine blk_alloc ?_ _)); refine blk_far ?_ NB104_109.out _; (with_reducible repeat (first | refine blk_drewN ?_ _ | refine blk_drew ?_ | refine blk_alloc ?_ _)); exact BK104.out) Try.underlying139 rfl (by kernel_rfl)) rfl ?_
                                                  exact ⟨by first | rfl | (simp [errW_none, errW_some] <;> rfl) | (simp only [← hji31]; first | rfl | (simp [errW_none, errW_some] <;> rfl)) | (simp [*, errW_none, errW_some] <;> rfl), by repeat (first | (with_reducible first | exact HB.out | apply below_alloc | apply pw_below_drewN | apply below_drew1 | refine below_set ?_ GE104.out | refine below_set ?_ GE109.out) | exact HB.out)⟩
                                                · rw [if_neg c51] at H
                                                  have c51b0 : ((rd l0 (bt a1 (ji31))) == 3) = false := beq_eq_false_iff_ne.mpr c51
                                                  have c51b1 : ((rd l0 (bt a1 (ji31))) != 3) = true := bne_iff_ne.mpr c51
                                                  simp only [Option.some.injEq, Prod.mk.injEq] at H
                                                  obtain ⟨rfl, rfl, rfl, rfl, rfl, rfl⟩ := H
                                                  go_wp2_with (first | ((with_reducible refine gate_callee (f := 141) rfl ?_); refine goesL_ (some 91) rfl rfl Try.func141 (by kernel_rfl) rfl #[.string (a1.extract ((ji31) : Int).toNat (x13_21 : Int).toNat)] rfl (by (try simp only [List.map_toArray, List.map_cons, List.map_nil]); first | done | (simp only [hji31]; rfl) | rfl | (simp only [List.length_drop, List.length_take]; rfl)) ?_; (with_reducible refine (strings_Clone.calls (a1.extract ((ji31) : Int).toNat (x13_21 : Int).toNat) t108 _ A35.out).mono ?_); rintro e w59 ⟨rfl, hb⟩; refine ⟨_, rfl, ?_⟩; have n0_ := Aside0.mk (blk_below (g := gb104) (o := .cells #[.int .i64 x105000_2, .int .i64 x105001_2, .int .i64 x105002_2, .string x105003_2, .int .i64 x105004_2, .int .i64 x105005_2] 139 (0, 0)) (by (with_reducible repeat (first | refine blk_drewN ?_ _ | refine blk_drew ?_ | refine blk_alloc ?_ _)); exact BK104.out) hb); have n1_ := Aside0.mk (below_step (by repeat (first | (with_reducible first | exact HB.out | apply below_alloc | apply pw_below_drewN | apply below_drew1 | refine below_set ?_ GE104.out) | exact HB.out)) hb); clear BK104; clear HB; have BK104 := n0_; have HB := n1_; clear n0_ n1_; (try clear hb); (try clear hb2); (try clear hk); (try clear hi)) | ((with_reducible refine gate_dst (N := 14) rfl ?_); (try (refine gate_guard (by rfl) ?_; dsimp only)); refine box_event ?hg (N := 14) ?hd (cs := #[.int .i64 0, .int .i64 0, .string (⟨#[]⟩ : ByteArray)]) (t := 42) ?hr ?_; (case hd => rfl); (case hg => rfl); (case hr => first | (go_simp; done) | (go_simp; rfl)); intro gb109 hg w60 hbox hb; have n0_ := Aside0.mk (blk_below (g := gb104) (o := .cells #[.int .i64 x105000_2, .int .i64 x105001_2, .int .i64 x105002_2, .string x105003_2, .int .i64 x105004_2, .int .i64 x105005_2] 139 (0, 0)) (by (with_reducible repeat (first | refine blk_drewN ?_ _ | refine blk_drew ?_ | refine blk_alloc ?_ _)); exact BK104.out) hb); have n1_ := Aside0.mk (below_step (by repeat (first | (with_reducible first | exact HB.out | apply below_alloc | apply pw_below_drewN | apply below_drew1 | refine below_set ?_ GE104.out) | exact HB.out)) hb); have n2_ := Aside0.mk (hbox); have n3_ := Aside0.mk ((by rw [hg]; exact (below_size (by repeat (first | (with_reducible first | exact HB.out | apply below_alloc | apply pw_below_drewN | apply below_drew1 | refine below_set ?_ GE104.out) | exact HB.out))) : w.heap.size ≤ gb109)); have n4_ := Aside0.mk ((by rw [hg]; exact (below_size (by repeat (first | (with_reducible first | exact HB.out | apply below_alloc | apply pw_below_drewN | apply below_drew1 | refine below_set ?_ GE104.out) | exact HB.out))) : w.heap.size ≤ gb109)); have n5_ := Aside0.mk ((by rw [hg]; exact Nat.ne_of_lt (blk_lt (g := gb104) (o := .cells #[.int .i64 x105000_2, .int .i64 x105001_2, .int .i64 x105002_2, .string x105003_2, .int .i64 x105004_2, .int .i64 x105005_2] 139 (0, 0)) (by (with_reducible repeat (first | refine blk_drewN ?_ _ | refine blk_drew ?_ | refine blk_alloc ?_ _)); exact BK104.out)) : gb104 ≠ gb109)); have n6_ := Aside0.mk ((by rw [hg]; exact Nat.ne_of_gt (blk_lt (g := gb104) (o := .cells #[.int .i64 x105000_2, .int .i64 x105001_2, .int .i64 x105002_2, .string x105003_2, .int .i64 x105004_2, .int .i64 x105005_2] 139 (0, 0)) (by (with_reducible repeat (first | refine blk_drewN ?_ _ | refine blk_drew ?_ | refine blk_alloc ?_ _)); exact BK104.out)) : gb109 ≠ gb104)); clear BK104; clear HB; have BK104 := n0_; have HB := n1_; have BK109 := n2_; have GW109 := n3_; have GE109 := n4_; have NB104_109 := n5_; have NB109_104 := n6_; clear n0_ n1_ n2_ n3_ n4_ n5_ n6_; clear hb hbox hg; have hnb61 := NB109_104.out; have hnc61 := NB104_109.out; have hcz62_0 : w60.cell? ⟨gb109, 0, none⟩ = some (.int .i64 0) := (blk_cell BK109.out 0).trans rfl; have hcz62_1 : w60.cell? ⟨gb109, 1, none⟩ = some (.int .i64 0) := (blk_cell BK109.out 1).trans rfl; have hcz62_2 : w60.cell? ⟨gb109, 2, none⟩ = some (.string (⟨#[]⟩ : ByteArray)) := (blk_cell BK109.out 2).trans rfl; have hfz62_0 := blk_frozen BK109.out 0; have hfz62_1 := blk_frozen BK109.out 1; have hfz62_2 := blk_frozen BK109.out 2) | ((with_reducible refine gate_callee (f := 141) rfl ?_); refine goesL_ (some 107) rfl rfl Try.func141 (by kernel_rfl) rfl #[.string (a1.extract ((ji31) : Int).toNat ((wrap64 ((ji31) + 1)) : Int).toNat)] rfl (by (try simp only [List.map_toArray, List.map_cons, List.map_nil]); first | done | (simp only [hji31]; rfl) | rfl | (simp only [List.length_drop, List.length_take]; rfl)) ?_; (with_reducible refine (strings_Clone.calls (a1.extract ((ji31) : Int).toNat ((wrap64 ((ji31) + 1)) : Int).toNat) t110 _ A46.out).mono ?_); rintro e w63 ⟨rfl, hb⟩; refine ⟨_, rfl, ?_⟩; have n0_ := Aside0.mk (blk_below (g := gb104) (o := .cells #[.int .i64 x105000_2, .int .i64 x105001_2, .int .i64 x105002_2, .string x105003_2, .int .i64 x105004_2, .int .i64 x105005_2] 139 (0, 0)) (by (with_reducible repeat (first | refine blk_drewN ?_ _ | refine blk_drew ?_ | refine blk_alloc ?_ _)); refine blk_far ?_ NB104_109.out _; (with_reducible repeat (first | refine blk_drewN ?_ _ | refine blk_drew ?_ | refine blk_alloc ?_ _)); refine blk_far ?_ NB104_109.out _; (with_reducible repeat (first | refine blk_drewN ?_ _ | refine blk_drew ?_ | refine blk_alloc ?_ _)); refine blk_far ?_ NB104_109.out _; (with_reducible repeat (first | refine blk_drewN ?_ _ | refine blk_drew ?_ | refine blk_alloc ?_ _)); exact BK104.out) hb); have n1_ := Aside0.mk (blk_below (g := gb109) (o := .cells #[.int .i64 0, .int .i64 0, .string t108] 42 (0, 0)) (by (with_reducible repeat (first | refine blk_drewN ?_ _ | refine blk_drew ?_ | refine blk_alloc ?_ _)); refine blk_put (cs := #[.int .i64 0, .int .i64 0, .string (⟨#[]⟩ : ByteArray)]) ?_ 2 _ rfl; (with_reducible repeat (first | refine blk_drewN ?_ _ | refine blk_drew ?_ | refine blk_alloc ?_ _)); refine blk_put (cs := #[.int .i64 0, .int .i64 0, .string (⟨#[]⟩ : ByteArray)]) ?_ 1 _ rfl; (with_reducible repeat (first | refine blk_drewN ?_ _ | refine blk_drew ?_ | refine blk_alloc ?_ _)); refine blk_put (cs := #[.int .i64 0, .int .i64 0, .string (⟨#[]⟩ : ByteArray)]) ?_ 0 _ rfl; (with_reducible repeat (first | refine blk_drewN ?_ _ | refine blk_drew ?_ | refine blk_alloc ?_ _)); exact BK109.out) hb); have n2_ := Aside0.mk (below_step (by repeat (first | (with_reducible first | exact HB.out | apply below_alloc | apply pw_below_drewN | apply below_drew1 | refine below_set ?_ GE104.out | refine below_set ?_ GE109.out) | exact HB.out)) hb); clear BK104; clear BK109; clear HB; have BK104 := n0_; have BK109 := n1_; have HB := n2_; clear n0_ n1_ n2_; (try clear hb); (try clear hb2); (try clear hk); (try clear hi); have hcz64_0 : w63.cell? ⟨gb109, 0, none⟩ = some (.int .i64 0) := (blk_cell BK109.out 0).trans rfl; have hcz64_1 : w63.cell? ⟨gb109, 1, none⟩ = some (.int .i64 0) := (blk_cell BK109.out 1).trans rfl; have hcz64_2 : w63.cell? ⟨gb109, 2, none⟩ = some (.string t108) := (blk_cell BK109.out 2).trans rfl; have hfz64_0 := blk_frozen BK109.out 0; have hfz64_1 := blk_frozen BK109.out 1; have hfz64_2 := blk_frozen BK109.out 2; have p48 : 0 ≤ ((ji31) : Int) := of_decide_eq_true (by first | (with_reducible assumption) | assumption); have q48 : (ji31) < (a1.size : Int) := of_decide_eq_true (by first | (with_reducible assumption) | assumption); have hx48 := bt_at a1 (ji31); replace p48 := eq_true p48; replace q48 := eq_true q48; have p111 : 0 ≤ ((bt a1 (ji31)) : Int) := of_decide_eq_true (by first | (with_reducible assumption) | assumption); have q111 : (bt a1 (ji31)) < (l0.length : Int) := of_decide_eq_true (by first | (with_reducible assumption) | assumption); obtain ⟨ad111, e111, hx111_0⟩ := Kd.at_int HR0.out (bt a1 (ji31)) p111 q111; obtain rfl : ad106 = ad111 := (by injection e111); have hn111_0 : ad106.block ≠ gb109 := Nat.ne_of_lt (Nat.lt_of_lt_of_le (by have := World.block_lt_of_cell? _ _ hx111_0; first | rwa [add_block] at this | exact this) GW109.out); replace hx111_0 := (HB.out.cell (World.block_lt_of_cell? w _ hx111_0)).trans hx111_0; replace hx111_0 := (cell_far (p := ⟨gb109, 2, none⟩) (by first | (rw [add_block]; exact hn111_0) | (show (Addr.add _ _).block ≠ _; rw [add_block]; exact hn111_0) | exact hn111_0) (.string t110)).trans hx111_0; clear hn111_0; replace p111 := eq_true p111; replace q111 := eq_true q111; have hcz65_0 : w63.cell? ⟨gb104, 0, none⟩ = some (.int .i64 x105000_2) := (blk_cell BK104.out 0).trans rfl; have hcz65_1 : w63.cell? ⟨gb104, 1, none⟩ = some (.int .i64 x105001_2) := (blk_cell BK104.out 1).trans rfl; have hcz65_2 : w63.cell? ⟨gb104, 2, none⟩ = some (.int .i64 x105002_2) := (blk_cell BK104.out 2).trans rfl; have hcz65_3 : w63.cell? ⟨gb104, 3, none⟩ = some (.string x105003_2) := (blk_cell BK104.out 3).trans rfl; have hcz65_4 : w63.cell? ⟨gb104, 4, none⟩ = some (.int .i64 x105004_2) := (blk_cell BK104.out 4).trans rfl; have hcz65_5 : w63.cell? ⟨gb104, 5, none⟩ = some (.int .i64 x105005_2) := (blk_cell BK104.out 5).trans rfl; have hfz65_0 := blk_frozen BK104.out 0; have hfz65_1 := blk_frozen BK104.out 1; have hfz65_2 := blk_frozen BK104.out 2; have hfz65_3 := blk_frozen BK104.out 3; have hfz65_4 := blk_frozen BK104.out 4; have hfz65_5 := blk_frozen BK104.out 5))
                                                  refine bodyPost_ret (results_cell_row rfl _ _ gb104 139 #[.int .i64 1, .int .i64 0, .int .i64 0, .string t110, .int .i64 (wrap64 ((ji31) + 1)), .int .i64 1] (0, 0) _ rfl (by (with_reducible repeat (first | refine blk_drewN ?_ _ | refine blk_drew ?_ | refine blk_alloc ?_ _)); refine blk_put (cs := #[.int .i64 1, .int .i64 0, .int .i64 0, .string t110, .int .i64 (wrap64 ((ji31) + 1)), .int .i64 x105005_2]) ?_ 5 _ rfl; (with_reducible repeat (first | refine blk_drewN ?_ _ | refine blk_drew ?_ | refine blk_alloc ?_ _)); refine blk_put (cs := #[.int .i64 1, .int .i64 0, .int .i64 0, .string t110, .int .i64 x105004_2, .int .i64 x105005_2]) ?_ 4 _ rfl; (with_reducible repeat (first | refine blk_drewN ?_ _ | refine blk_drew ?_ | refine blk_alloc ?_ _)); refine blk_put (cs := #[.int .i64 1, .int .i64 0, .int .i64 0, .string x105003_2, .int .i64 x105004_2, .int .i64 x105005_2]) ?_ 3 _ rfl; (with_reducible repeat (first | refine blk_drewN ?_ _ | refine blk_drew ?_ | refine blk_alloc ?_ _)); refine blk_put (cs := #[.int .i64 1, .int .i64 0, .int .i64 x105002_2, .string x105003_2, .int .i64 x105004_2, .int .i64 x105005_2]) ?_ 2 _ rfl; (with_reducible repeat (first | refine blk_drewN ?_ _ | refine blk_drew ?_ | refine blk_alloc ?_ _)); refine blk_put (cs := #[.int .i64 1, .int .i64 x105001_2, .int .i64 x105002_2, .string x105003_2, .int .i64 x105004_2, .int .i64 x105005_2]) ?_ 1 _ rfl; (with_reducible repeat (first | refine blk_drewN ?_ _ | refine blk_drew ?_ | refine blk_alloc ?_ _)); refine blk_put (cs := #[.int .i64 x105000_2, .int .i64 x105001_2, .int .i64 x105002_2, .string x105003_2, .int .i64 x105004_2, .int .i64 x105005_2]) ?_ 0 _ rfl; (with_reducible repeat (first | refine blk_drewN ?_ _ | refine blk_drew ?_ | refine blk_alloc ?_ _)); refine blk_far ?_ NB104_109.out _; (with_reducible repeat (first | refine blk_drewN ?_ _ | refine blk_drew ?_ | refine blk_alloc ?_ _)); exact BK104.out) Try.underlying139 rfl (by kernel_rfl)) rfl ?_
                                                  exact ⟨by first | rfl | (simp [errW_none, errW_some] <;> rfl) | (simp only [← hji31]; first | rfl | (simp [errW_none, errW_some] <;> rfl)) | (simp [*, errW_none, errW_some] <;> rfl), by repeat (first | (with_reducible first | exact HB.out | apply below_alloc | apply pw_below_drewN | apply below_drew1 | refine below_set ?_ GE104.out | refine below_set ?_ GE109.out) | exact HB.out)⟩
                                              · rw [if_neg c50] at H
                                                exact absurd H (by simp)
                                            · rw [if_neg c49] at H
                                              exact absurd H (by simp)
                                          · rw [if_neg c47] at H
                                            exact absurd H (by simp)
                                        · rw [if_neg c45] at H
                                          exact absurd H (by simp)
                                      · rw [if_neg c44] at H
                                        exact absurd H (by simp)
                                    · rw [if_neg c42] at H
                                      have c42b0 : decide ((ji31) < (a1.size : Int)) = false := decide_eq_false c42
                                      clear c42
                                      simp only [Option.some.injEq, Prod.mk.injEq] at H
                                      obtain ⟨rfl, rfl, rfl, rfl, rfl, rfl⟩ := H
                                      go_wp2_with (first | ((with_reducible refine gate_callee (f := 141) rfl ?_); refine goesL_ (some 91) rfl rfl Try.func141 (by kernel_rfl) rfl #[.string (a1.extract ((ji31) : Int).toNat (x13_21 : Int).toNat)] rfl (by (try simp only [List.map_toArray, List.map_cons, List.map_nil]); first | done | (simp only [hji31]; rfl) | rfl | (simp only [List.length_drop, List.length_take]; rfl)) ?_; (with_reducible refine (strings_Clone.calls (a1.extract ((ji31) : Int).toNat (x13_21 : Int).toNat) t108 _ A35.out).mono ?_); rintro e w66 ⟨rfl, hb⟩; refine ⟨_, rfl, ?_⟩; have n0_ := Aside0.mk (blk_below (g := gb104) (o := .cells #[.int .i64 x105000_2, .int .i64 x105001_2, .int .i64 x105002_2, .string x105003_2, .int .i64 x105004_2, .int .i64 x105005_2] 139 (0, 0)) (by (with_reducible repeat (first | refine blk_drewN ?_ _ | refine blk_drew ?_ | refine blk_alloc ?_ _)); exact BK104.out) hb); have n1_ := Aside0.mk (below_step (by repeat (first | (with_reducible first | exact HB.out | apply below_alloc | apply pw_below_drewN | apply below_drew1 | refine below_set ?_ GE104.out) | exact HB.out)) hb); clear BK104; clear HB; have BK104 := n0_; have HB := n1_; clear n0_ n1_; (try clear hb); (try clear hb2); (try clear hk); (try clear hi)) | ((with_reducible refine gate_dst (N := 14) rfl ?_); (try (refine gate_guard (by rfl) ?_; dsimp only)); refine box_event ?hg (N := 14) ?hd (cs := #[.int .i64 0, .int .i64 0, .string (⟨#[]⟩ : ByteArray)]) (t := 42) ?hr ?_; (case hd => rfl); (case hg => rfl); (case hr => first | (go_simp; done) | (go_simp; rfl)); intro gb109 hg w67 hbox hb; have n0_ := Aside0.mk (blk_below (g := gb104) (o := .cells #[.int .i64 x105000_2, .int .i64 x105001_2, .int .i64 x105002_2, .string x105003_2, .int .i64 x105004_2, .int .i64 x105005_2] 139 (0, 0)) (by (with_reducible repeat (first | refine blk_drewN ?_ _ | refine blk_drew ?_ | refine blk_alloc ?_ _)); exact BK104.out) hb); have n1_ := Aside0.mk (below_step (by repeat (first | (with_reducible first | exact HB.out | apply below_alloc | apply pw_below_drewN | apply below_drew1 | refine below_set ?_ GE104.out) | exact HB.out)) hb); have n2_ := Aside0.mk (hbox); have n3_ := Aside0.mk ((by rw [hg]; exact (below_size (by repeat (first | (with_reducible first | exact HB.out | apply below_alloc | apply pw_below_drewN | apply below_drew1 | refine below_set ?_ GE104.out) | exact HB.out))) : w.heap.size ≤ gb109)); have n4_ := Aside0.mk ((by rw [hg]; exact (below_size (by repeat (first | (with_reducible first | exact HB.out | apply below_alloc | apply pw_below_drewN | apply below_drew1 | refine below_set ?_ GE104.out) | exact HB.out))) : w.heap.size ≤ gb109)); have n5_ := Aside0.mk ((by rw [hg]; exact Nat.ne_of_lt (blk_lt (g := gb104) (o := .cells #[.int .i64 x105000_2, .int .i64 x105001_2, .int .i64 x105002_2, .string x105003_2, .int .i64 x105004_2, .int .i64 x105005_2] 139 (0, 0)) (by (with_reducible repeat (first | refine blk_drewN ?_ _ | refine blk_drew ?_ | refine blk_alloc ?_ _)); exact BK104.out)) : gb104 ≠ gb109)); have n6_ := Aside0.mk ((by rw [hg]; exact Nat.ne_of_gt (blk_lt (g := gb104) (o := .cells #[.int .i64 x105000_2, .int .i64 x105001_2, .int .i64 x105002_2, .string x105003_2, .int .i64 x105004_2, .int .i64 x105005_2] 139 (0, 0)) (by (with_reducible repeat (first | refine blk_drewN ?_ _ | refine blk_drew ?_ | refine blk_alloc ?_ _)); exact BK104.out)) : gb109 ≠ gb104)); clear BK104; clear HB; have BK104 := n0_; have HB := n1_; have BK109 := n2_; have GW109 := n3_; have GE109 := n4_; have NB104_109 := n5_; have NB109_104 := n6_; clear n0_ n1_ n2_ n3_ n4_ n5_ n6_; clear hb hbox hg; have hnb68 := NB109_104.out; have hnc68 := NB104_109.out; have hcz69_0 : w67.cell? ⟨gb109, 0, none⟩ = some (.int .i64 0) := (blk_cell BK109.out 0).trans rfl; have hcz69_1 : w67.cell? ⟨gb109, 1, none⟩ = some (.int .i64 0) := (blk_cell BK109.out 1).trans rfl; have hcz69_2 : w67.cell? ⟨gb109, 2, none⟩ = some (.string (⟨#[]⟩ : ByteArray)) := (blk_cell BK109.out 2).trans rfl; have hfz69_0 := blk_frozen BK109.out 0; have hfz69_1 := blk_frozen BK109.out 1; have hfz69_2 := blk_frozen BK109.out 2; have hcz70_0 : w67.cell? ⟨gb104, 0, none⟩ = some (.int .i64 x105000_2) := (blk_cell BK104.out 0).trans rfl; have hcz70_1 : w67.cell? ⟨gb104, 1, none⟩ = some (.int .i64 x105001_2) := (blk_cell BK104.out 1).trans rfl; have hcz70_2 : w67.cell? ⟨gb104, 2, none⟩ = some (.int .i64 x105002_2) := (blk_cell BK104.out 2).trans rfl; have hcz70_3 : w67.cell? ⟨gb104, 3, none⟩ = some (.string x105003_2) := (blk_cell BK104.out 3).trans rfl; have hcz70_4 : w67.cell? ⟨gb104, 4, none⟩ = some (.int .i64 x105004_2) := (blk_cell BK104.out 4).trans rfl; have hcz70_5 : w67.cell? ⟨gb104, 5, none⟩ = some (.int .i64 x105005_2) := (blk_cell BK104.out 5).trans rfl; have hfz70_0 := blk_frozen BK104.out 0; have hfz70_1 := blk_frozen BK104.out 1; have hfz70_2 := blk_frozen BK104.out 2; have hfz70_3 := blk_frozen BK104.out 3; have hfz70_4 := blk_frozen BK104.out 4; have hfz70_5 := blk_frozen BK104.out 5))
                                      refine bodyPost_ret (results_cell_row rfl _ _ gb104 139 #[.int .i64 1, .int .i64 0, .int .i64 0, .string t108, .int .i64 x13_21, .int .i64 1] (0, 0) _ rfl (by (with_reducible repeat (first | refine blk_drewN ?_ _ | refine blk_drew ?_ | refine blk_alloc ?_ _)); refine blk_put (cs := #[.int .i64 1, .int .i64 0, .int .i64 0, .string t108, .int .i64 x13_21, .int .i64 x105005_2]) ?_ 5 _ rfl; (with_reducible repeat (first | refine blk_drewN ?_ _ | refine blk_drew ?_ | refine blk_alloc ?_ _)); refine blk_put (cs := #[.int .i64 1, .int .i64 0, .int .i64 0, .string t108, .int .i64 x105004_2, .int .i64 x105005_2]) ?_ 4 _ rfl; (with_reducible repeat (first | refine blk_drewN ?_ _ | refine blk_drew ?_ | refine blk_alloc ?_ _)); refine blk_put (cs := #[.int .i64 1, .int .i64 0, .int .i64 0, .string x105003_2, .int .i64 x105004_2, .int .i64 x105005_2]) ?_ 3 _ rfl; (with_reducible repeat (first | refine blk_drewN ?_ _ | refine blk_drew ?_ | refine blk_alloc ?_ _)); refine blk_put (cs := #[.int .i64 1, .int .i64 0, .int .i64 x105002_2, .string x105003_2, .int .i64 x105004_2, .int .i64 x105005_2]) ?_ 2 _ rfl; (with_reducible repeat (first | refine blk_drewN ?_ _ | refine blk_drew ?_ | refine blk_alloc ?_ _)); refine blk_put (cs := #[.int .i64 1, .int .i64 x105001_2, .int .i64 x105002_2, .string x105003_2, .int .i64 x105004_2, .int .i64 x105005_2]) ?_ 1 _ rfl; (with_reducible repeat (first | refine blk_drewN ?_ _ | refine blk_drew ?_ | refine blk_alloc ?_ _)); refine blk_put (cs := #[.int .i64 x105000_2, .int .i64 x105001_2, .int .i64 x105002_2, .string x105003_2, .int .i64 x105004_2, .int .i64 x105005_2]) ?_ 0 _ rfl; (with_reducible repeat (first | refine blk_drewN ?_ _ | refine blk_drew ?_ | refine blk_alloc ?_ _)); refine blk_far ?_ NB104_109.out _; (with_reducible repeat (first | refine blk_drewN ?_ _ | refine blk_drew ?_ | refine blk_alloc ?_ _)); refine blk_far ?_ NB104_109.out _; (with_reducible repeat (first | refine blk_drewN ?_ _ | refine blk_drew ?_ | refine blk_alloc ?_ _)); refine blk_far ?_ NB104_109.out _; (with_reducible repeat (first | refine blk_drewN ?_ _ | refine blk_drew ?_ | refine blk_alloc ?_ _)); exact BK104.out) Try.underlying139 rfl (by kernel_rfl)) rfl ?_
                                      exact ⟨by first | rfl | (simp [errW_none, errW_some] <;> rfl) | (simp only [← hji31]; first | rfl | (simp [errW_none, errW_some] <;> rfl)) | (simp [*, errW_none, errW_some] <;> rfl), by repeat (first | (with_reducible first | exact HB.out | apply below_alloc | apply pw_below_drewN | apply below_drew1 | refine below_set ?_ GE104.out | refine below_set ?_ GE109.out) | exact HB.out)⟩
                                · rw [if_neg c34] at H
                                  exact absurd H (by simp)
                              · rw [if_neg c33] at H
                                exact absurd H (by simp)
                            · rw [if_neg c32] at H
                              exact absurd H (by simp)
                      · rw [if_neg c21] at H
                        have c21b0 : ((rd l0 (bt a1 x2_2)) == 0) = false := beq_eq_false_iff_ne.mpr c21
                        have c21b1 : ((rd l0 (bt a1 x2_2)) != 0) = true := bne_iff_ne.mpr c21
                        by_cases c71 : (rd l0 (bt a1 x2_2)) = 6
                        · rw [if_pos c71] at H
                          have c71b0 : ((rd l0 (bt a1 x2_2)) == 6) = true := beq_iff_eq.mpr c71
                          have c71b1 : ((rd l0 (bt a1 x2_2)) != 6) = false := bne_eq_false_iff_eq.mpr c71
                          clear c71
                          by_cases c72 : x3_2 = 0
                          · rw [if_pos c72] at H
                            have c72b0 : (x3_2 == 0) = true := beq_iff_eq.mpr c72
                            have c72b1 : (x3_2 != 0) = false := bne_eq_false_iff_eq.mpr c72
                            clear c72
                            simp only [Option.some.injEq, Prod.mk.injEq] at H
                            obtain ⟨rfl, rfl, rfl, rfl, rfl, rfl⟩ := H
                            have p18 : 0 ≤ (x2_2 : Int) := of_decide_eq_true (by first | (with_reducible assumption) | assumption)
                            have q18 : x2_2 < (a1.size : Int) := of_decide_eq_true (by first | (with_reducible assumption) | assumption)
                            have hx18 := bt_at a1 x2_2
                            replace p18 := eq_true p18
                            replace q18 := eq_true q18
                            have p106 : 0 ≤ ((bt a1 x2_2) : Int) := of_decide_eq_true (by first | (with_reducible assumption) | assumption)
                            have q106 : (bt a1 x2_2) < (l0.length : Int) := of_decide_eq_true (by first | (with_reducible assumption) | assumption)
                            obtain ⟨ad106, e106, hx106_0⟩ := Kd.at_int HR0.out (bt a1 x2_2) p106 q106
                            cases e106
                            replace hx106_0 := (HB.out.cell (World.block_lt_of_cell? w _ hx106_0)).trans hx106_0
                            replace p106 := eq_true p106
                            replace q106 := eq_true q106
                            have hcz73_0 : wr.cell? ⟨gb104, 0, none⟩ = some (.int .i64 x105000_2) := (blk_cell BK104.out 0).trans rfl
                            have hcz73_1 : wr.cell? ⟨gb104, 1, none⟩ = some (.int .i64 x105001_2) := (blk_cell BK104.out 1).trans rfl
                            have hcz73_2 : wr.cell? ⟨gb104, 2, none⟩ = some (.int .i64 x105002_2) := (blk_cell BK104.out 2).trans rfl
                            have hcz73_3 : wr.cell? ⟨gb104, 3, none⟩ = some (.string x105003_2) := (blk_cell BK104.out 3).trans rfl
                            have hcz73_4 : wr.cell? ⟨gb104, 4, none⟩ = some (.int .i64 x105004_2) := (blk_cell BK104.out 4).trans rfl
                            have hcz73_5 : wr.cell? ⟨gb104, 5, none⟩ = some (.int .i64 x105005_2) := (blk_cell BK104.out 5).trans rfl
                            have hfz73_0 := blk_frozen BK104.out 0
                            have hfz73_1 := blk_frozen BK104.out 1
                            have hfz73_2 := blk_frozen BK104.out 2
                            have hfz73_3 := blk_frozen BK104.out 3
                            have hfz73_4 := blk_frozen BK104.out 4
                            have hfz73_5 := blk_frozen BK104.out 5
                            go_wp2
                            refine bodyPost_ret (results_cell_row rfl _ _ gb104 139 #[.int .i64 1, .int .i64 0, .int .i64 0, .string (⟨#[112, 97, 114]⟩ : ByteArray), .int .i64 (wrap64 (x2_2 + 1)), .int .i64 0] (0, 0) _ rfl (by (with_reducible repeat (first | refine blk_drewN ?_ _ | refine blk_drew ?_ | refine blk_alloc ?_ _)); refine blk_put (cs := #[.int .i64 1, .int .i64 0, .int .i64 0, .string (⟨#[112, 97, 114]⟩ : ByteArray), .int .i64 (wrap64 (x2_2 + 1)), .int .i64 x105005_2]) ?_ 5 _ rfl; (with_reducible repeat (first | refine blk_drewN ?_ _ | refine blk_drew ?_ | refine blk_alloc ?_ _)); refine blk_put (cs := #[.int .i64 1, .int .i64 0, .int .i64 0, .string (⟨#[112, 97, 114]⟩ : ByteArray), .int .i64 x105004_2, .int .i64 x105005_2]) ?_ 4 _ rfl; (with_reducible repeat (first | refine blk_drewN ?_ _ | refine blk_drew ?_ | refine blk_alloc ?_ _)); refine blk_put (cs := #[.int .i64 1, .int .i64 0, .int .i64 0, .string x105003_2, .int .i64 x105004_2, .int .i64 x105005_2]) ?_ 3 _ rfl; (with_reducible repeat (first | refine blk_drewN ?_ _ | refine blk_drew ?_ | refine blk_alloc ?_ _)); refine blk_put (cs := #[.int .i64 1, .int .i64 0, .int .i64 x105002_2, .string x105003_2, .int .i64 x105004_2, .int .i64 x105005_2]) ?_ 2 _ rfl; (with_reducible repeat (first | refine blk_drewN ?_ _ | refine blk_drew ?_ | refine blk_alloc ?_ _)); refine blk_put (cs := #[.int .i64 1, .int .i64 x105001_2, .int .i64 x105002_2, .string x105003_2, .int .i64 x105004_2, .int .i64 x105005_2]) ?_ 1 _ rfl; (with_reducible repeat (first | refine blk_drewN ?_ _ | refine blk_drew ?_ | refine blk_alloc ?_ _)); refine blk_put (cs := #[.int .i64 x105000_2, .int .i64 x105001_2, .int .i64 x105002_2, .string x105003_2, .int .i64 x105004_2, .int .i64 x105005_2]) ?_ 0 _ rfl; (with_reducible repeat (first | refine blk_drewN ?_ _ | refine blk_drew ?_ | refine blk_alloc ?_ _)); exact BK104.out) Try.underlying139 rfl (by kernel_rfl)) rfl ?_
                            exact ⟨by first | rfl | (simp [errW_none, errW_some] <;> rfl) | (simp [*, errW_none, errW_some] <;> rfl), by repeat (first | (with_reducible first | exact HB.out | apply below_alloc | apply pw_below_drewN | apply below_drew1 | refine below_set ?_ GE104.out) | exact HB.out)⟩
                          · rw [if_neg c72] at H
                            have c72b0 : (x3_2 == 0) = false := beq_eq_false_iff_ne.mpr c72
                            have c72b1 : (x3_2 != 0) = true := bne_iff_ne.mpr c72
                            by_cases c74 : x3_2 = 1
                            · rw [if_pos c74] at H
                              have c74b0 : (x3_2 == 1) = true := beq_iff_eq.mpr c74
                              have c74b1 : (x3_2 != 1) = false := bne_eq_false_iff_eq.mpr c74
                              clear c74
                              replace H := Option.bind_eq_some_iff.mp H
                              obtain ⟨⟨t112, t113, t114⟩, A750, H⟩ := H
                              replace H : (some (1, t112, t113, t114, wrap64 (x2_2 + 1), 0)) = some (r1, r2, r3, r4, r5, r6) := H
                              have A75 := Aside0.mk A750
                              clear A750
                              simp only [Option.some.injEq, Prod.mk.injEq] at H
                              obtain ⟨rfl, rfl, rfl, rfl, rfl, rfl⟩ := H
                              have p18 : 0 ≤ (x2_2 : Int) := of_decide_eq_true (by first | (with_reducible assumption) | assumption)
                              have q18 : x2_2 < (a1.size : Int) := of_decide_eq_true (by first | (with_reducible assumption) | assumption)
                              have hx18 := bt_at a1 x2_2
                              replace p18 := eq_true p18
                              replace q18 := eq_true q18
                              have p106 : 0 ≤ ((bt a1 x2_2) : Int) := of_decide_eq_true (by first | (with_reducible assumption) | assumption)
                              have q106 : (bt a1 x2_2) < (l0.length : Int) := of_decide_eq_true (by first | (with_reducible assumption) | assumption)
                              obtain ⟨ad106, e106, hx106_0⟩ := Kd.at_int HR0.out (bt a1 x2_2) p106 q106
                              cases e106
                              replace hx106_0 := (HB.out.cell (World.block_lt_of_cell? w _ hx106_0)).trans hx106_0
                              replace p106 := eq_true p106
                              replace q106 := eq_true q106
                              go_wp2_with (first | (go_at_call 140; (with_reducible refine (impl_Next_1.calls 3 32 t112 t113 t114 _ A75.out).mono ?_); rintro e w76 ⟨rfl, hb⟩; have n0_ := Aside0.mk (blk_below (g := gb104) (o := .cells #[.int .i64 x105000_2, .int .i64 x105001_2, .int .i64 x105002_2, .string x105003_2, .int .i64 x105004_2, .int .i64 x105005_2] 139 (0, 0)) (by (with_reducible repeat (first | refine blk_drewN ?_ _ | refine blk_drew ?_ | refine blk_alloc ?_ _)); exact BK104.out) hb); have n1_ := Aside0.mk (below_step (by repeat (first | (with_reducible first | exact HB.out | apply below_alloc | apply pw_below_drewN | apply below_drew1 | refine below_set ?_ GE104.out) | exact HB.out)) hb); clear BK104; clear HB; have BK104 := n0_; have HB := n1_; clear n0_ n1_; (try clear hb); (try clear hb2); (try clear hk); (try clear hi); have hcz77_0 : w76.cell? ⟨gb104, 0, none⟩ = some (.int .i64 x105000_2) := (blk_cell BK104.out 0).trans rfl; have hcz77_1 : w76.cell? ⟨gb104, 1, none⟩ = some (.int .i64 x105001_2) := (blk_cell BK104.out 1).trans rfl; have hcz77_2 : w76.cell? ⟨gb104, 2, none⟩ = some (.int .i64 x105002_2) := (blk_cell BK104.out 2).trans rfl; have hcz77_3 : w76.cell? ⟨gb104, 3, none⟩ = some (.string x105003_2) := (blk_cell BK104.out 3).trans rfl; have hcz77_4 : w76.cell? ⟨gb104, 4, none⟩ = some (.int .i64 x105004_2) := (blk_cell BK104.out 4).trans rfl; have hcz77_5 : w76.cell? ⟨gb104, 5, none⟩ = some (.int .i64 x105005_2) := (blk_cell BK104.out 5).trans rfl; have hfz77_0 := blk_frozen BK104.out 0; have hfz77_1 := blk_frozen BK104.out 1; have hfz77_2 := blk_frozen BK104.out 2; have hfz77_3 := blk_frozen BK104.out 3; have hfz77_4 := blk_frozen BK104.out 4; have hfz77_5 := blk_frozen BK104.out 5))
                              refine bodyPost_ret (results_cell_row rfl _ _ gb104 139 #[.int .i64 1, .int .i64 t112, .int .i64 t113, .string t114, .int .i64 (wrap64 (x2_2 + 1)), .int .i64 0] (0, 0) _ rfl (by (with_reducible repeat (first | refine blk_drewN ?_ _ | refine blk_drew ?_ | refine blk_alloc ?_ _)); refine blk_put (cs := #[.int .i64 1, .int .i64 t112, .int .i64 t113, .string t114, .int .i64 (wrap64 (x2_2 + 1)), .int .i64 x105005_2]) ?_ 5 _ rfl; (with_reducible repeat (first | refine blk_drewN ?_ _ | refine blk_drew ?_ | refine blk_alloc ?_ _)); refine blk_put (cs := #[.int .i64 1, .int .i64 t112, .int .i64 t113, .string t114, .int .i64 x105004_2, .int .i64 x105005_2]) ?_ 4 _ rfl; (with_reducible repeat (first | refine blk_drewN ?_ _ | refine blk_drew ?_ | refine blk_alloc ?_ _)); refine blk_put (cs := #[.int .i64 1, .int .i64 t112, .int .i64 t113, .string x105003_2, .int .i64 x105004_2, .int .i64 x105005_2]) ?_ 3 _ rfl; (with_reducible repeat (first | refine blk_drewN ?_ _ | refine blk_drew ?_ | refine blk_alloc ?_ _)); refine blk_put (cs := #[.int .i64 1, .int .i64 t112, .int .i64 x105002_2, .string x105003_2, .int .i64 x105004_2, .int .i64 x105005_2]) ?_ 2 _ rfl; (with_reducible repeat (first | refine blk_drewN ?_ _ | refine blk_drew ?_ | refine blk_alloc ?_ _)); refine blk_put (cs := #[.int .i64 1, .int .i64 x105001_2, .int .i64 x105002_2, .string x105003_2, .int .i64 x105004_2, .int .i64 x105005_2]) ?_ 1 _ rfl; (with_reducible repeat (first | refine blk_drewN ?_ _ | refine blk_drew ?_ | refine blk_alloc ?_ _)); refine blk_put (cs := #[.int .i64 x105000_2, .int .i64 x105001_2, .int .i64 x105002_2, .string x105003_2, .int .i64 x105004_2, .int .i64 x105005_2]) ?_ 0 _ rfl; (with_reducible repeat (first | refine blk_drewN ?_ _ | refine blk_drew ?_ | refine blk_alloc ?_ _)); exact BK104.out) Try.underlying139 rfl (by kernel_rfl)) rfl ?_
                              exact ⟨by first | rfl | (simp [errW_none, errW_some] <;> rfl) | (simp [*, errW_none, errW_some] <;> rfl), by repeat (first | (with_reducible first | exact HB.out | apply below_alloc | apply pw_below_drewN | apply below_drew1 | refine below_set ?_ GE104.out) | exact HB.out)⟩
                            · rw [if_neg c74] at H
                              have c74b0 : (x3_2 == 1) = false := beq_eq_false_iff_ne.mpr c74
                              have c74b1 : (x3_2 != 1) = true := bne_iff_ne.mpr c74
                              have H' := Aside0.mk H
                              clear H
                              have p18 : 0 ≤ (x2_2 : Int) := of_decide_eq_true (by first | (with_reducible assumption) | assumption)
                              have q18 : x2_2 < (a1.size : Int) := of_decide_eq_true (by first | (with_reducible assumption) | assumption)
                              have hx18 := bt_at a1 x2_2
                              replace p18 := eq_true p18
                              replace q18 := eq_true q18
                              have p106 : 0 ≤ ((bt a1 x2_2) : Int) := of_decide_eq_true (by first | (with_reducible assumption) | assumption)
                              have q106 : (bt a1 x2_2) < (l0.length : Int) := of_decide_eq_true (by first | (with_reducible assumption) | assumption)
                              obtain ⟨ad106, e106, hx106_0⟩ := Kd.at_int HR0.out (bt a1 x2_2) p106 q106
                              cases e106
                              replace hx106_0 := (HB.out.cell (World.block_lt_of_cell? w _ hx106_0)).trans hx106_0
                              replace p106 := eq_true p106
                              replace q106 := eq_true q106
                              go_wp2
                              go_roundg k2
                              case measure => have := HJ4.out; have := HK2.out; omega
                              case rel => exact ⟨(wrap64 (x2_2 + 1)), (0), (x105000_2), (x105001_2), (x105002_2), (x105003_2), (x105004_2), (x105005_2), (by first | rfl | (simp; done) | (simp [*]; done)), (by first | rfl | (simp; done) | (simp [*]; done)), H', ⟨by have := HJ4.out; have := HK2.out; omega⟩, ⟨by (with_reducible repeat (first | refine blk_drewN ?_ _ | refine blk_drew ?_ | refine blk_alloc ?_ _)); exact BK104.out⟩, ⟨by repeat (first | (with_reducible first | exact HB.out | apply below_alloc | apply pw_below_drewN | apply below_drew1 | refine below_set ?_ GE104.out) | exact HB.out)⟩⟩
                        · rw [if_neg c71] at H
                          have c71b0 : ((rd l0 (bt a1 x2_2)) == 6) = false := beq_eq_false_iff_ne.mpr c71
                          have c71b1 : ((rd l0 (bt a1 x2_2)) != 6) = true := bne_iff_ne.mpr c71
                          by_cases c78 : (rd l0 (bt a1 x2_2)) = 3
                          · rw [if_pos c78] at H
                            have c78b0 : ((rd l0 (bt a1 x2_2)) == 3) = true := beq_iff_eq.mpr c78
                            have c78b1 : ((rd l0 (bt a1 x2_2)) != 3) = false := bne_eq_false_iff_eq.mpr c78
                            clear c78
                            by_cases c79 : x3_2 = 1
                            · rw [if_pos c79] at H
                              have c79b0 : (x3_2 == 1) = true := beq_iff_eq.mpr c79
                              have c79b1 : (x3_2 != 1) = false := bne_eq_false_iff_eq.mpr c79
                              clear c79
                              replace H := Option.bind_eq_some_iff.mp H
                              obtain ⟨⟨t115, t116, t117⟩, A800, H⟩ := H
                              replace H : (some (1, t115, t116, t117, wrap64 (x2_2 + 1), 2)) = some (r1, r2, r3, r4, r5, r6) := H
                              have A80 := Aside0.mk A800
                              clear A800
                              simp only [Option.some.injEq, Prod.mk.injEq] at H
                              obtain ⟨rfl, rfl, rfl, rfl, rfl, rfl⟩ := H
                              have p18 : 0 ≤ (x2_2 : Int) := of_decide_eq_true (by first | (with_reducible assumption) | assumption)
                              have q18 : x2_2 < (a1.size : Int) := of_decide_eq_true (by first | (with_reducible assumption) | assumption)
                              have hx18 := bt_at a1 x2_2
                              replace p18 := eq_true p18
                              replace q18 := eq_true q18
                              have p106 : 0 ≤ ((bt a1 x2_2) : Int) := of_decide_eq_true (by first | (with_reducible assumption) | assumption)
                              have q106 : (bt a1 x2_2) < (l0.length : Int) := of_decide_eq_true (by first | (with_reducible assumption) | assumption)
                              obtain ⟨ad106, e106, hx106_0⟩ := Kd.at_int HR0.out (bt a1 x2_2) p106 q106
                              cases e106
                              replace hx106_0 := (HB.out.cell (World.block_lt_of_cell? w _ hx106_0)).trans hx106_0
                              replace p106 := eq_true p106
                              replace q106 := eq_true q106
                              go_wp2_with (first | (go_at_call 140; (with_reducible refine (impl_Next_1.calls 3 32 t115 t116 t117 _ A80.out).mono ?_); rintro e w81 ⟨rfl, hb⟩; have n0_ := Aside0.mk (blk_below (g := gb104) (o := .cells #[.int .i64 x105000_2, .int .i64 x105001_2, .int .i64 x105002_2, .string x105003_2, .int .i64 x105004_2, .int .i64 x105005_2] 139 (0, 0)) (by (with_reducible repeat (first | refine blk_drewN ?_ _ | refine blk_drew ?_ | refine blk_alloc ?_ _)); exact BK104.out) hb); have n1_ := Aside0.mk (below_step (by repeat (first | (with_reducible first | exact HB.out | apply below_alloc | apply pw_below_drewN | apply below_drew1 | refine below_set ?_ GE104.out) | exact HB.out)) hb); clear BK104; clear HB; have BK104 := n0_; have HB := n1_; clear n0_ n1_; (try clear hb); (try clear hb2); (try clear hk); (try clear hi); have hcz82_0 : w81.cell? ⟨gb104, 0, none⟩ = some (.int .i64 x105000_2) := (blk_cell BK104.out 0).trans rfl; have hcz82_1 : w81.cell? ⟨gb104, 1, none⟩ = some (.int .i64 x105001_2) := (blk_cell BK104.out 1).trans rfl; have hcz82_2 : w81.cell? ⟨gb104, 2, none⟩ = some (.int .i64 x105002_2) := (blk_cell BK104.out 2).trans rfl; have hcz82_3 : w81.cell? ⟨gb104, 3, none⟩ = some (.string x105003_2) := (blk_cell BK104.out 3).trans rfl; have hcz82_4 : w81.cell? ⟨gb104, 4, none⟩ = some (.int .i64 x105004_2) := (blk_cell BK104.out 4).trans rfl; have hcz82_5 : w81.cell? ⟨gb104, 5, none⟩ = some (.int .i64 x105005_2) := (blk_cell BK104.out 5).trans rfl; have hfz82_0 := blk_frozen BK104.out 0; have hfz82_1 := blk_frozen BK104.out 1; have hfz82_2 := blk_frozen BK104.out 2; have hfz82_3 := blk_frozen BK104.out 3; have hfz82_4 := blk_frozen BK104.out 4; have hfz82_5 := blk_frozen BK104.out 5))
                              refine bodyPost_ret (results_cell_row rfl _ _ gb104 139 #[.int .i64 1, .int .i64 t115, .int .i64 t116, .string t117, .int .i64 (wrap64 (x2_2 + 1)), .int .i64 2] (0, 0) _ rfl (by (with_reducible repeat (first | refine blk_drewN ?_ _ | refine blk_drew ?_ | refine blk_alloc ?_ _)); refine blk_put (cs := #[.int .i64 1, .int .i64 t115, .int .i64 t116, .string t117, .int .i64 (wrap64 (x2_2 + 1)), .int .i64 x105005_2]) ?_ 5 _ rfl; (with_reducible repeat (first | refine blk_drewN ?_ _ | refine blk_drew ?_ | refine blk_alloc ?_ _)); refine blk_put (cs := #[.int .i64 1, .int .i64 t115, .int .i64 t116, .string t117, .int .i64 x105004_2, .int .i64 x105005_2]) ?_ 4 _ rfl; (with_reducible repeat (first | refine blk_drewN ?_ _ | refine blk_drew ?_ | refine blk_alloc ?_ _)); refine blk_put (cs := #[.int .i64 1, .int .i64 t115, .int .i64 t116, .string x105003_2, .int .i64 x105004_2, .int .i64 x105005_2]) ?_ 3 _ rfl; (with_reducible repeat (first | refine blk_drewN ?_ _ | refine blk_drew ?_ | refine blk_alloc ?_ _)); refine blk_put (cs := #[.int .i64 1, .int .i64 t115, .int .i64 x105002_2, .string x105003_2, .int .i64 x105004_2, .int .i64 x105005_2]) ?_ 2 _ rfl; (with_reducible repeat (first | refine blk_drewN ?_ _ | refine blk_drew ?_ | refine blk_alloc ?_ _)); refine blk_put (cs := #[.int .i64 1, .int .i64 x105001_2, .int .i64 x105002_2, .string x105003_2, .int .i64 x105004_2, .int .i64 x105005_2]) ?_ 1 _ rfl; (with_reducible repeat (first | refine blk_drewN ?_ _ | refine blk_drew ?_ | refine blk_alloc ?_ _)); refine blk_put (cs := #[.int .i64 x105000_2, .int .i64 x105001_2, .int .i64 x105002_2, .string x105003_2, .int .i64 x105004_2, .int .i64 x105005_2]) ?_ 0 _ rfl; (with_reducible repeat (first | refine blk_drewN ?_ _ | refine blk_drew ?_ | refine blk_alloc ?_ _)); exact BK104.out) Try.underlying139 rfl (by kernel_rfl)) rfl ?_
                              exact ⟨by first | rfl | (simp [errW_none, errW_some] <;> rfl) | (simp [*, errW_none, errW_some] <;> rfl), by repeat (first | (with_reducible first | exact HB.out | apply below_alloc | apply pw_below_drewN | apply below_drew1 | refine below_set ?_ GE104.out) | exact HB.out)⟩
                            · rw [if_neg c79] at H
                              have c79b0 : (x3_2 == 1) = false := beq_eq_false_iff_ne.mpr c79
                              have c79b1 : (x3_2 != 1) = true := bne_iff_ne.mpr c79
                              have H' := Aside0.mk H
                              clear H
                              have p18 : 0 ≤ (x2_2 : Int) := of_decide_eq_true (by first | (with_reducible assumption) | assumption)
                              have q18 : x2_2 < (a1.size : Int) := of_decide_eq_true (by first | (with_reducible assumption) | assumption)
                              have hx18 := bt_at a1 x2_2
                              replace p18 := eq_true p18
                              replace q18 := eq_true q18
                              have p106 : 0 ≤ ((bt a1 x2_2) : Int) := of_decide_eq_true (by first | (with_reducible assumption) | assumption)
                              have q106 : (bt a1 x2_2) < (l0.length : Int) := of_decide_eq_true (by first | (with_reducible assumption) | assumption)
                              obtain ⟨ad106, e106, hx106_0⟩ := Kd.at_int HR0.out (bt a1 x2_2) p106 q106
                              cases e106
                              replace hx106_0 := (HB.out.cell (World.block_lt_of_cell? w _ hx106_0)).trans hx106_0
                              replace p106 := eq_true p106
                              replace q106 := eq_true q106
                              go_wp2
                              go_roundg k2
                              case measure => have := HJ4.out; have := HK2.out; omega
                              case rel => exact ⟨(wrap64 (x2_2 + 1)), (x3_2), (x105000_2), (x105001_2), (x105002_2), (x105003_2), (x105004_2), (x105005_2), (by first | rfl | (simp; done) | (simp [*]; done)), (by first | rfl | (simp; done) | (simp [*]; done)), H', ⟨by have := HJ4.out; have := HK2.out; omega⟩, ⟨by (with_reducible repeat (first | refine blk_drewN ?_ _ | refine blk_drew ?_ | refine blk_alloc ?_ _)); exact BK104.out⟩, ⟨by repeat (first | (with_reducible first | exact HB.out | apply below_alloc | apply pw_below_drewN | apply below_drew1 | refine below_set ?_ GE104.out) | exact HB.out)⟩⟩
                          · rw [if_neg c78] at H
                            have c78b0 : ((rd l0 (bt a1 x2_2)) == 3) = false := beq_eq_false_iff_ne.mpr c78
                            have c78b1 : ((rd l0 (bt a1 x2_2)) != 3) = true := bne_iff_ne.mpr c78
                            by_cases c83 : (rd l0 (bt a1 x2_2)) = 8
                            · rw [if_pos c83] at H
                              have c83b0 : ((rd l0 (bt a1 x2_2)) == 8) = true := beq_iff_eq.mpr c83
                              have c83b1 : ((rd l0 (bt a1 x2_2)) != 8) = false := bne_eq_false_iff_eq.mpr c83
                              clear c83
                              have H' := Aside0.mk H
                              clear H
                              have p18 : 0 ≤ (x2_2 : Int) := of_decide_eq_true (by first | (with_reducible assumption) | assumption)
                              have q18 : x2_2 < (a1.size : Int) := of_decide_eq_true (by first | (with_reducible assumption) | assumption)
                              have hx18 := bt_at a1 x2_2
                              replace p18 := eq_true p18
                              replace q18 := eq_true q18
                              have p106 : 0 ≤ ((bt a1 x2_2) : Int) := of_decide_eq_true (by first | (with_reducible assumption) | assumption)
                              have q106 : (bt a1 x2_2) < (l0.length : Int) := of_decide_eq_true (by first | (with_reducible assumption) | assumption)
                              obtain ⟨ad106, e106, hx106_0⟩ := Kd.at_int HR0.out (bt a1 x2_2) p106 q106
                              cases e106
                              replace hx106_0 := (HB.out.cell (World.block_lt_of_cell? w _ hx106_0)).trans hx106_0
                              replace p106 := eq_true p106
                              replace q106 := eq_true q106
                              go_wp2
                              go_loopg [2] k2 (fun kq v2 w' => ∃ (x2_3 : Int), v2 = .int .i64 x2_3 ∧ Aside0 (impl_Next.l2 kq l0 a1 x2_3 (a1.size : Int) = some (r1, r2, r3, r4, r5, r6)) ∧ Aside0 (kq ≤ k2) ∧ Aside0 (w'.heap[gb104]? = some (.cells #[.int .i64 x105000_2, .int .i64 x105001_2, .int .i64 x105002_2, .string x105003_2, .int .i64 x105004_2, .int .i64 x105005_2] 139 (0, 0))) ∧ Aside0 (Below w.heap.size w w'))
                              case atStart => exact ⟨(wrap64 (x2_2 + 1)), (by first | rfl | (simp; done) | (simp [*]; done)), H', ⟨Nat.le_refl _⟩, ⟨by (with_reducible repeat (first | refine blk_drewN ?_ _ | refine blk_drew ?_ | refine blk_alloc ?_ _)); exact BK104.out⟩, ⟨by repeat (first | (with_reducible first | exact HB.out | apply below_alloc | apply pw_below_drewN | apply below_drew1 | refine below_set ?_ GE104.out) | exact HB.out)⟩⟩
                              case round =>
                                clear H'
                                try clear c1
                                try clear p1
                                try clear q1
                                try clear hx1
                                try clear c2
                                try clear p2
                                try clear q2
                                try clear hx2
                                try clear c3
                                try clear c4
                                try clear p4
                                try clear q4
                                try clear hx4
                                try clear c5
                                try clear c6
                                try clear p6
                                try clear c7
                                try clear c8
                                try clear c9
                                try clear c9b0
                                try clear c9b1
                                try clear c10
                                try clear c10b0
                                try clear p10
                                try clear q10
                                try clear hx10
                                try clear c11
                                try clear c11b0
                                try clear p11
                                try clear q11
                                try clear hx11
                                try clear c12
                                try clear c12b0
                                try clear c13
                                try clear c14
                                try clear c15
                                try clear c15b0
                                try clear c16
                                try clear c16b0
                                try clear c17
                                try clear c17b0
                                try clear p18
                                try clear q18
                                try clear hx18
                                try clear c19
                                try clear c19b0
                                try clear c20
                                try clear c20b0
                                try clear c21
                                try clear c21b0
                                try clear c21b1
                                try clear c23
                                try clear c23b0
                                try clear c24
                                try clear c24b0
                                try clear c25
                                try clear c25b0
                                try clear c26
                                try clear c26b0
                                try clear p27
                                try clear q27
                                try clear hx27
                                try clear c28
                                try clear c28b0
                                try clear c29
                                try clear c29b0
                                try clear c30
                                try clear c30b0
                                try clear c30b1
                                try clear c32
                                try clear c32b0
                                try clear c32b1
                                try clear c33
                                try clear c33b0
                                try clear c33b1
                                try clear c34
                                try clear c34b0
                                try clear c34b1
                                try clear c36
                                try clear c36b0
                                try clear c39
                                try clear c42
                                try clear c42b0
                                try clear c43
                                try clear c43b0
                                try clear c44
                                try clear c44b0
                                try clear c44b1
                                try clear c45
                                try clear c45b0
                                try clear c45b1
                                try clear c47
                                try clear c47b0
                                try clear p48
                                try clear q48
                                try clear hx48
                                try clear c49
                                try clear c49b0
                                try clear c50
                                try clear c50b0
                                try clear c51
                                try clear c51b0
                                try clear c51b1
                                try clear c54
                                try clear c61
                                try clear p64
                                try clear c68
                                try clear c71
                                try clear c71b0
                                try clear c71b1
                                try clear c72
                                try clear c72b0
                                try clear c72b1
                                try clear c74
                                try clear c74b0
                                try clear c74b1
                                try clear c78
                                try clear c78b0
                                try clear c78b1
                                try clear c79
                                try clear c79b0
                                try clear c79b1
                                try clear c83
                                try clear c83b0
                                try clear c83b1
                                try clear hcz14_0
                                try clear hcz14_1
                                try clear hcz14_2
                                try clear hcz14_3
                                try clear hcz14_4
                                try clear hcz14_5
                                try clear hcz40_0
                                try clear hcz40_1
                                try clear hcz40_2
                                try clear hcz41_0
                                try clear hcz41_1
                                try clear hcz41_2
                                try clear hcz41_3
                                try clear hcz41_4
                                try clear hcz41_5
                                try clear hcz55_0
                                try clear hcz55_1
                                try clear hcz55_2
                                try clear hcz57_0
                                try clear hcz57_1
                                try clear hcz57_2
                                try clear hcz58_0
                                try clear hcz58_1
                                try clear hcz58_2
                                try clear hcz58_3
                                try clear hcz58_4
                                try clear hcz58_5
                                try clear hcz62_0
                                try clear hcz62_1
                                try clear hcz62_2
                                try clear hcz64_0
                                try clear hcz64_1
                                try clear hcz64_2
                                try clear hcz65_0
                                try clear hcz65_1
                                try clear hcz65_2
                                try clear hcz65_3
                                try clear hcz65_4
                                try clear hcz65_5
                                try clear hcz69_0
                                try clear hcz69_1
                                try clear hcz69_2
                                try clear hcz70_0
                                try clear hcz70_1
                                try clear hcz70_2
                                try clear hcz70_3
                                try clear hcz70_4
                                try clear hcz70_5
                                try clear hcz73_0
                                try clear hcz73_1
                                try clear hcz73_2
                                try clear hcz73_3
                                try clear hcz73_4
                                try clear hcz73_5
                                try clear hcz77_0
                                try clear hcz77_1
                                try clear hcz77_2
                                try clear hcz77_3
                                try clear hcz77_4
                                try clear hcz77_5
                                try clear hcz82_0
                                try clear hcz82_1
                                try clear hcz82_2
                                try clear hcz82_3
                                try clear hcz82_4
                                try clear hcz82_5
                                try clear hfz14_0
                                try clear hfz14_1
                                try clear hfz14_2
                                try clear hfz14_3
                                try clear hfz14_4
                                try clear hfz14_5
                                try clear hfz40_0
                                try clear hfz40_1
                                try clear hfz40_2
                                try clear hfz41_0
                                try clear hfz41_1
                                try clear hfz41_2
                                try clear hfz41_3
                                try clear hfz41_4
                                try clear hfz41_5
                                try clear hfz55_0
                                try clear hfz55_1
                                try clear hfz55_2
                                try clear hfz57_0
                                try clear hfz57_1
                                try clear hfz57_2
                                try clear hfz58_0
                                try clear hfz58_1
                                try clear hfz58_2
                                try clear hfz58_3
                                try clear hfz58_4
                                try clear hfz58_5
                                try clear hfz62_0
                                try clear hfz62_1
                                try clear hfz62_2
                                try clear hfz64_0
                                try clear hfz64_1
                                try clear hfz64_2
                                try clear hfz65_0
                                try clear hfz65_1
                                try clear hfz65_2
                                try clear hfz65_3
                                try clear hfz65_4
                                try clear hfz65_5
                                try clear hfz69_0
                                try clear hfz69_1
                                try clear hfz69_2
                                try clear hfz70_0
                                try clear hfz70_1
                                try clear hfz70_2
                                try clear hfz70_3
                                try clear hfz70_4
                                try clear hfz70_5
                                try clear hfz73_0
                                try clear hfz73_1
                                try clear hfz73_2
                                try clear hfz73_3
                                try clear hfz73_4
                                try clear hfz73_5
                                try clear hfz77_0
                                try clear hfz77_1
                                try clear hfz77_2
                                try clear hfz77_3
                                try clear hfz77_4
                                try clear hfz77_5
                                try clear hfz82_0
                                try clear hfz82_1
                                try clear hfz82_2
                                try clear hfz82_3
                                try clear hfz82_4
                                try clear hfz82_5
                                try clear hx106_0
                                try clear hx107_0
                                try clear hx111_0
                                try clear p1
                                try clear p10
                                try clear p106
                                try clear p107
                                try clear p111
                                try clear p18
                                try clear p2
                                try clear p27
                                try clear p48
                                try clear p6
                                try clear q1
                                try clear q10
                                try clear q106
                                try clear q107
                                try clear q111
                                try clear q18
                                try clear q2
                                try clear q27
                                try clear q48
                                obtain ⟨x2_3, rfl, HA, HK3, BK104, HB⟩ := hrel
                                cases gk with
                                | zero => exact absurd HA.out (by simp [impl_Next.l2])
                                | succ k3 =>
                                  have H := HA.out
                                  clear HA
                                  simp only [impl_Next.l2] at H
                                  by_cases c84 : x2_3 < (a1.size : Int)
                                  · rw [if_pos c84] at H
                                    have c84b0 : decide (x2_3 < (a1.size : Int)) = true := decide_eq_true c84
                                    clear c84
                                    by_cases c85 : 0 ≤ x2_3
                                    · rw [if_pos c85] at H
                                      have c85b0 : decide (0 ≤ x2_3) = true := decide_eq_true c85
                                      clear c85
                                      by_cases c86 : x2_3 < (a1.size : Int)
                                      · rw [if_pos c86] at H
                                        have c86b0 : decide (x2_3 < (a1.size : Int)) = true := decide_eq_true c86
                                        clear c86
                                        by_cases c88 : 0 ≤ (bt a1 x2_3)
                                        · rw [if_pos c88] at H
                                          have c88b0 : decide (0 ≤ (bt a1 x2_3)) = true := decide_eq_true c88
                                          clear c88
                                          by_cases c89 : (bt a1 x2_3) < (l0.length : Int)
                                          · rw [if_pos c89] at H
                                            have c89b0 : decide ((bt a1 x2_3) < (l0.length : Int)) = true := decide_eq_true c89
                                            clear c89
                                            by_cases c90 : (rd l0 (bt a1 x2_3)) = 6
                                            · rw [if_pos c90] at H
                                              have c90b0 : ((rd l0 (bt a1 x2_3)) == 6) = true := beq_iff_eq.mpr c90
                                              have c90b1 : ((rd l0 (bt a1 x2_3)) != 6) = false := bne_eq_false_iff_eq.mpr c90
                                              clear c90
                                              have H' := Aside0.mk H
                                              clear H
                                              have p87 : 0 ≤ (x2_3 : Int) := of_decide_eq_true (by first | (with_reducible assumption) | assumption)
                                              have q87 : x2_3 < (a1.size : Int) := of_decide_eq_true (by first | (with_reducible assumption) | assumption)
                                              have hx87 := bt_at a1 x2_3
                                              replace p87 := eq_true p87
                                              replace q87 := eq_true q87
                                              have p118 : 0 ≤ ((bt a1 x2_3) : Int) := of_decide_eq_true (by first | (with_reducible assumption) | assumption)
                                              have q118 : (bt a1 x2_3) < (l0.length : Int) := of_decide_eq_true (by first | (with_reducible assumption) | assumption)
                                              obtain ⟨ad118, e118, hx118_0⟩ := Kd.at_int HR0.out (bt a1 x2_3) p118 q118
                                              obtain rfl : ad106 = ad118 := (by injection e118)
                                              replace hx118_0 := (HB.out.cell (World.block_lt_of_cell? w _ hx118_0)).trans hx118_0
                                              replace p118 := eq_true p118
                                              replace q118 := eq_true q118
                                              go_wp2
                                              go_roundg k3
                                              case measure => have := HJ4.out; have := HK2.out; have := HK3.out; omega
                                              case rel => exact ⟨(wrap64 (x2_3 + 1)), (0), (x105000_2), (x105001_2), (x105002_2), (x105003_2), (x105004_2), (x105005_2), (by first | rfl | (simp; done) | (simp [*]; done)), (by first | rfl | (simp; done) | (simp [*]; done)), H', ⟨by have := HJ4.out; have := HK2.out; have := HK3.out; omega⟩, ⟨by (with_reducible repeat (first | refine blk_drewN ?_ _ | refine blk_drew ?_ | refine blk_alloc ?_ _)); exact BK104.out⟩, ⟨by repeat (first | (with_reducible first | exact HB.out | apply below_alloc | apply pw_below_drewN | apply below_drew1 | refine below_set ?_ GE104.out) | exact HB.out)⟩⟩
                                            · rw [if_neg c90] at H
                                              have c90b0 : ((rd l0 (bt a1 x2_3)) == 6) = false := beq_eq_false_iff_ne.mpr c90
                                              have c90b1 : ((rd l0 (bt a1 x2_3)) != 6) = true := bne_iff_ne.mpr c90
                                              have H' := Aside0.mk H
                                              clear H
                                              have p87 : 0 ≤ (x2_3 : Int) := of_decide_eq_true (by first | (with_reducible assumption) | assumption)
                                              have q87 : x2_3 < (a1.size : Int) := of_decide_eq_true (by first | (with_reducible assumption) | assumption)
                                              have hx87 := bt_at a1 x2_3
                                              replace p87 := eq_true p87
                                              replace q87 := eq_true q87
                                              have p118 : 0 ≤ ((bt a1 x2_3) : Int) := of_decide_eq_true (by first | (with_reducible assumption) | assumption)
                                              have q118 : (bt a1 x2_3) < (l0.length : Int) := of_decide_eq_true (by first | (with_reducible assumption) | assumption)
                                              obtain ⟨ad118, e118, hx118_0⟩ := Kd.at_int HR0.out (bt a1 x2_3) p118 q118
                                              obtain rfl : ad106 = ad118 := (by injection e118)
                                              replace hx118_0 := (HB.out.cell (World.block_lt_of_cell? w _ hx118_0)).trans hx118_0
                                              replace p118 := eq_true p118
                                              replace q118 := eq_true q118
                                              go_wp2
                                              go_roundg k3
                                              case measure => have := HJ4.out; have := HK2.out; have := HK3.out; omega
                                              case rel => exact ⟨(wrap64 (x2_3 + 1)), (by first | rfl | (simp; done) | (simp [*]; done)), H', ⟨by have := HJ4.out; have := HK2.out; have := HK3.out; omega⟩, ⟨by (with_reducible repeat (first | refine blk_drewN ?_ _ | refine blk_drew ?_ | refine blk_alloc ?_ _)); exact BK104.out⟩, ⟨by repeat (first | (with_reducible first | exact HB.out | apply below_alloc | apply pw_below_drewN | apply below_drew1 | refine below_set ?_ GE104.out) | exact HB.out)⟩⟩
                                          · rw [if_neg c89] at H
                                            exact absurd H (by simp)
                                        · rw [if_neg c88] at H
                                          exact absurd H (by simp)
                                      · rw [if_neg c86] at H
                                        exact absurd H (by simp)
                                    · rw [if_neg c85] at H
                                      exact absurd H (by simp)
                                  · rw [if_neg c84] at H
                                    have c84b0 : decide (x2_3 < (a1.size : Int)) = false := decide_eq_false c84
                                    clear c84
                                    have H' := Aside0.mk H
                                    clear H
                                    go_wp2
                                    go_roundg k3
                                    case measure => have := HJ4.out; have := HK2.out; have := HK3.out; omega
                                    case rel => exact ⟨(x2_3), (0), (x105000_2), (x105001_2), (x105002_2), (x105003_2), (x105004_2), (x105005_2), (by first | rfl | (simp; done) | (simp [*]; done)), (by first | rfl | (simp; done) | (simp [*]; done)), H', ⟨by have := HJ4.out; have := HK2.out; have := HK3.out; omega⟩, ⟨by (with_reducible repeat (first | refine blk_drewN ?_ _ | refine blk_drew ?_ | refine blk_alloc ?_ _)); exact BK104.out⟩, ⟨by repeat (first | (with_reducible first | exact HB.out | apply below_alloc | apply pw_below_drewN | apply below_drew1 | refine below_set ?_ GE104.out) | exact HB.out)⟩⟩
                            · rw [if_neg c83] at H
                              have c83b0 : ((rd l0 (bt a1 x2_2)) == 8) = false := beq_eq_false_iff_ne.mpr c83
                              have c83b1 : ((rd l0 (bt a1 x2_2)) != 8) = true := bne_iff_ne.mpr c83
                              by_cases c91 : (rd l0 (bt a1 x2_2)) = 9
                              · rw [if_pos c91] at H
                                have c91b0 : ((rd l0 (bt a1 x2_2)) == 9) = true := beq_iff_eq.mpr c91
                                have c91b1 : ((rd l0 (bt a1 x2_2)) != 9) = false := bne_eq_false_iff_eq.mpr c91
                                clear c91
                                have H' := Aside0.mk H
                                clear H
                                have p18 : 0 ≤ (x2_2 : Int) := of_decide_eq_true (by first | (with_reducible assumption) | assumption)
                                have q18 : x2_2 < (a1.size : Int) := of_decide_eq_true (by first | (with_reducible assumption) | assumption)
                                have hx18 := bt_at a1 x2_2
                                replace p18 := eq_true p18
                                replace q18 := eq_true q18
                                have p106 : 0 ≤ ((bt a1 x2_2) : Int) := of_decide_eq_true (by first | (with_reducible assumption) | assumption)
                                have q106 : (bt a1 x2_2) < (l0.length : Int) := of_decide_eq_true (by first | (with_reducible assumption) | assumption)
                                obtain ⟨ad106, e106, hx106_0⟩ := Kd.at_int HR0.out (bt a1 x2_2) p106 q106
                                cases e106
                                replace hx106_0 := (HB.out.cell (World.block_lt_of_cell? w _ hx106_0)).trans hx106_0
                                replace p106 := eq_true p106
                                replace q106 := eq_true q106
                                go_wp2
                                go_roundg k2
                                case measure => have := HJ4.out; have := HK2.out; omega
                                case rel => exact ⟨(wrap64 (x2_2 + 1)), (x3_2), (x105000_2), (x105001_2), (x105002_2), (x105003_2), (x105004_2), (x105005_2), (by first | rfl | (simp; done) | (simp [*]; done)), (by first | rfl | (simp; done) | (simp [*]; done)), H', ⟨by have := HJ4.out; have := HK2.out; omega⟩, ⟨by (with_reducible repeat (first | refine blk_drewN ?_ _ | refine blk_drew ?_ | refine blk_alloc ?_ _)); exact BK104.out⟩, ⟨by repeat (first | (with_reducible first | exact HB.out | apply below_alloc | apply pw_below_drewN | apply below_drew1 | refine below_set ?_ GE104.out) | exact HB.out)⟩⟩
                              · rw [if_neg c91] at H
                                have c91b0 : ((rd l0 (bt a1 x2_2)) == 9) = false := beq_eq_false_iff_ne.mpr c91
                                have c91b1 : ((rd l0 (bt a1 x2_2)) != 9) = true := bne_iff_ne.mpr c91
                                by_cases c92 : (rd l0 (bt a1 x2_2)) = 15
                                · rw [if_pos c92] at H
                                  have c92b0 : ((rd l0 (bt a1 x2_2)) == 15) = true := beq_iff_eq.mpr c92
                                  have c92b1 : ((rd l0 (bt a1 x2_2)) != 15) = false := bne_eq_false_iff_eq.mpr c92
                                  clear c92
                                  simp only [Option.some.injEq, Prod.mk.injEq] at H
                                  obtain ⟨rfl, rfl, rfl, rfl, rfl, rfl⟩ := H
                                  have p18 : 0 ≤ (x2_2 : Int) := of_decide_eq_true (by first | (with_reducible assumption) | assumption)
                                  have q18 : x2_2 < (a1.size : Int) := of_decide_eq_true (by first | (with_reducible assumption) | assumption)
                                  have hx18 := bt_at a1 x2_2
                                  replace p18 := eq_true p18
                                  replace q18 := eq_true q18
                                  have p106 : 0 ≤ ((bt a1 x2_2) : Int) := of_decide_eq_true (by first | (with_reducible assumption) | assumption)
                                  have q106 : (bt a1 x2_2) < (l0.length : Int) := of_decide_eq_true (by first | (with_reducible assumption) | assumption)
                                  obtain ⟨ad106, e106, hx106_0⟩ := Kd.at_int HR0.out (bt a1 x2_2) p106 q106
                                  cases e106
                                  replace hx106_0 := (HB.out.cell (World.block_lt_of_cell? w _ hx106_0)).trans hx106_0
                                  replace p106 := eq_true p106
                                  replace q106 := eq_true q106
                                  have hcz93_0 : wr.cell? ⟨gb104, 0, none⟩ = some (.int .i64 x105000_2) := (blk_cell BK104.out 0).trans rfl
                                  have hcz93_1 : wr.cell? ⟨gb104, 1, none⟩ = some (.int .i64 x105001_2) := (blk_cell BK104.out 1).trans rfl
                                  have hcz93_2 : wr.cell? ⟨gb104, 2, none⟩ = some (.int .i64 x105002_2) := (blk_cell BK104.out 2).trans rfl
                                  have hcz93_3 : wr.cell? ⟨gb104, 3, none⟩ = some (.string x105003_2) := (blk_cell BK104.out 3).trans rfl
                                  have hcz93_4 : wr.cell? ⟨gb104, 4, none⟩ = some (.int .i64 x105004_2) := (blk_cell BK104.out 4).trans rfl
                                  have hcz93_5 : wr.cell? ⟨gb104, 5, none⟩ = some (.int .i64 x105005_2) := (blk_cell BK104.out 5).trans rfl
                                  have hfz93_0 := blk_frozen BK104.out 0
                                  have hfz93_1 := blk_frozen BK104.out 1
                                  have hfz93_2 := blk_frozen BK104.out 2
                                  have hfz93_3 := blk_frozen BK104.out 3
                                  have hfz93_4 := blk_frozen BK104.out 4
                                  have hfz93_5 := blk_frozen BK104.out 5
                                  go_wp2
                                  refine bodyPost_ret (results_cell_row rfl _ _ gb104 139 #[.int .i64 2, .int .i64 0, .int .i64 0, .string (⟨#[]⟩ : ByteArray), .int .i64 (wrap64 (x2_2 + 1)), .int .i64 x3_2] (0, 0) _ rfl (by (with_reducible repeat (first | refine blk_drewN ?_ _ | refine blk_drew ?_ | refine blk_alloc ?_ _)); refine blk_put (cs := #[.int .i64 2, .int .i64 0, .int .i64 0, .string (⟨#[]⟩ : ByteArray), .int .i64 (wrap64 (x2_2 + 1)), .int .i64 x105005_2]) ?_ 5 _ rfl; (with_reducible repeat (first | refine blk_drewN ?_ _ | refine blk_drew ?_ | refine blk_alloc ?_ _)); refine blk_put (cs := #[.int .i64 2, .int .i64 0, .int .i64 0, .string (⟨#[]⟩ : ByteArray), .int .i64 x105004_2, .int .i64 x105005_2]) ?_ 4 _ rfl; (with_reducible repeat (first | refine blk_drewN ?_ _ | refine blk_drew ?_ | refine blk_alloc ?_ _)); refine blk_put (cs := #[.int .i64 2, .int .i64 0, .int .i64 0, .string x105003_2, .int .i64 x105004_2, .int .i64 x105005_2]) ?_ 3 _ rfl; (with_reducible repeat (first | refine blk_drewN ?_ _ | refine blk_drew ?_ | refine blk_alloc ?_ _)); refine blk_put (cs := #[.int .i64 2, .int .i64 0, .int .i64 x105002_2, .string x105003_2, .int .i64 x105004_2, .int .i64 x105005_2]) ?_ 2 _ rfl; (with_reducible repeat (first | refine blk_drewN ?_ _ | refine blk_drew ?_ | refine blk_alloc ?_ _)); refine blk_put (cs := #[.int .i64 2, .int .i64 x105001_2, .int .i64 x105002_2, .string x105003_2, .int .i64 x105004_2, .int .i64 x105005_2]) ?_ 1 _ rfl; (with_reducible repeat (first | refine blk_drewN ?_ _ | refine blk_drew ?_ | refine blk_alloc ?_ _)); refine blk_put (cs := #[.int .i64 x105000_2, .int .i64 x105001_2, .int .i64 x105002_2, .string x105003_2, .int .i64 x105004_2, .int .i64 x105005_2]) ?_ 0 _ rfl; (with_reducible repeat (first | refine blk_drewN ?_ _ | refine blk_drew ?_ | refine blk_alloc ?_ _)); exact BK104.out) Try.underlying139 rfl (by kernel_rfl)) rfl ?_
                                  exact ⟨by first | rfl | (simp [errW_none, errW_some] <;> rfl) | (simp [*, errW_none, errW_some] <;> rfl), by repeat (first | (with_reducible first | exact HB.out | apply below_alloc | apply pw_below_drewN | apply below_drew1 | refine below_set ?_ GE104.out) | exact HB.out)⟩
                                · rw [if_neg c92] at H
                                  have c92b0 : ((rd l0 (bt a1 x2_2)) == 15) = false := beq_eq_false_iff_ne.mpr c92
                                  have c92b1 : ((rd l0 (bt a1 x2_2)) != 15) = true := bne_iff_ne.mpr c92
                                  replace H := Option.bind_eq_some_iff.mp H
                                  obtain ⟨⟨t119, t120, t121⟩, A940, H⟩ := H
                                  replace H : (some (1, t119, t120, t121, wrap64 (x2_2 + 1), 1)) = some (r1, r2, r3, r4, r5, r6) := H
                                  have A94 := Aside0.mk A940
                                  clear A940
                                  simp only [Option.some.injEq, Prod.mk.injEq] at H
                                  obtain ⟨rfl, rfl, rfl, rfl, rfl, rfl⟩ := H
                                  have p18 : 0 ≤ (x2_2 : Int) := of_decide_eq_true (by first | (with_reducible assumption) | assumption)
                                  have q18 : x2_2 < (a1.size : Int) := of_decide_eq_true (by first | (with_reducible assumption) | assumption)
                                  have hx18 := bt_at a1 x2_2
                                  replace p18 := eq_true p18
                                  replace q18 := eq_true q18
                                  have p106 : 0 ≤ ((bt a1 x2_2) : Int) := of_decide_eq_true (by first | (with_reducible assumption) | assumption)
                                  have q106 : (bt a1 x2_2) < (l0.length : Int) := of_decide_eq_true (by first | (with_reducible assumption) | assumption)
                                  obtain ⟨ad106, e106, hx106_0⟩ := Kd.at_int HR0.out (bt a1 x2_2) p106 q106
                                  cases e106
                                  replace hx106_0 := (HB.out.cell (World.block_lt_of_cell? w _ hx106_0)).trans hx106_0
                                  replace p106 := eq_true p106
                                  replace q106 := eq_true q106
                                  go_wp2_with (first | (go_at_call 140; (with_reducible refine (impl_Next_1.calls (rd l0 (bt a1 x2_2)) (bt a1 x2_2) t119 t120 t121 _ A94.out).mono ?_); rintro e w95 ⟨rfl, hb⟩; have n0_ := Aside0.mk (blk_below (g := gb104) (o := .cells #[.int .i64 x105000_2, .int .i64 x105001_2, .int .i64 x105002_2, .string x105003_2, .int .i64 x105004_2, .int .i64 x105005_2] 139 (0, 0)) (by (with_reducible repeat (first | refine blk_drewN ?_ _ | refine blk_drew ?_ | refine blk_alloc ?_ _)); exact BK104.out) hb); have n1_ := Aside0.mk (below_step (by repeat (first | (with_reducible first | exact HB.out | apply below_alloc | apply pw_below_drewN | apply below_drew1 | refine below_set ?_ GE104.out) | exact HB.out)) hb); clear BK104; clear HB; have BK104 := n0_; have HB := n1_; clear n0_ n1_; (try clear hb); (try clear hb2); (try clear hk); (try clear hi); have hcz96_0 : w95.cell? ⟨gb104, 0, none⟩ = some (.int .i64 x105000_2) := (blk_cell BK104.out 0).trans rfl; have hcz96_1 : w95.cell? ⟨gb104, 1, none⟩ = some (.int .i64 x105001_2) := (blk_cell BK104.out 1).trans rfl; have hcz96_2 : w95.cell? ⟨gb104, 2, none⟩ = some (.int .i64 x105002_2) := (blk_cell BK104.out 2).trans rfl; have hcz96_3 : w95.cell? ⟨gb104, 3, none⟩ = some (.string x105003_2) := (blk_cell BK104.out 3).trans rfl; have hcz96_4 : w95.cell? ⟨gb104, 4, none⟩ = some (.int .i64 x105004_2) := (blk_cell BK104.out 4).trans rfl; have hcz96_5 : w95.cell? ⟨gb104, 5, none⟩ = some (.int .i64 x105005_2) := (blk_cell BK104.out 5).trans rfl; have hfz96_0 := blk_frozen BK104.out 0; have hfz96_1 := blk_frozen BK104.out 1; have hfz96_2 := blk_frozen BK104.out 2; have hfz96_3 := blk_frozen BK104.out 3; have hfz96_4 := blk_frozen BK104.out 4; have hfz96_5 := blk_frozen BK104.out 5))
                                  refine bodyPost_ret (results_cell_row rfl _ _ gb104 139 #[.int .i64 1, .int .i64 t119, .int .i64 t120, .string t121, .int .i64 (wrap64 (x2_2 + 1)), .int .i64 1] (0, 0) _ rfl (by (with_reducible repeat (first | refine blk_drewN ?_ _ | refine blk_drew ?_ | refine blk_alloc ?_ _)); refine blk_put (cs := #[.int .i64 1, .int .i64 t119, .int .i64 t120, .string t121, .int .i64 (wrap64 (x2_2 + 1)), .int .i64 x105005_2]) ?_ 5 _ rfl; (with_reducible repeat (first | refine blk_drewN ?_ _ | refine blk_drew ?_ | refine blk_alloc ?_ _)); refine blk_put (cs := #[.int .i64 1, .int .i64 t119, .int .i64 t120, .string t121, .int .i64 x105004_2, .int .i64 x105005_2]) ?_ 4 _ rfl; (with_reducible repeat (first | refine blk_drewN ?_ _ | refine blk_drew ?_ | refine blk_alloc ?_ _)); refine blk_put (cs := #[.int .i64 1, .int .i64 t119, .int .i64 t120, .string x105003_2, .int .i64 x105004_2, .int .i64 x105005_2]) ?_ 3 _ rfl; (with_reducible repeat (first | refine blk_drewN ?_ _ | refine blk_drew ?_ | refine blk_alloc ?_ _)); refine blk_put (cs := #[.int .i64 1, .int .i64 t119, .int .i64 x105002_2, .string x105003_2, .int .i64 x105004_2, .int .i64 x105005_2]) ?_ 2 _ rfl; (with_reducible repeat (first | refine blk_drewN ?_ _ | refine blk_drew ?_ | refine blk_alloc ?_ _)); refine blk_put (cs := #[.int .i64 1, .int .i64 x105001_2, .int .i64 x105002_2, .string x105003_2, .int .i64 x105004_2, .int .i64 x105005_2]) ?_ 1 _ rfl; (with_reducible repeat (first | refine blk_drewN ?_ _ | refine blk_drew ?_ | refine blk_alloc ?_ _)); refine blk_put (cs := #[.int .i64 x105000_2, .int .i64 x105001_2, .int .i64 x105002_2, .string x105003_2, .int .i64 x105004_2, .int .i64 x105005_2]) ?_ 0 _ rfl; (with_reducible repeat (first | refine blk_drewN ?_ _ | refine blk_drew ?_ | refine blk_alloc ?_ _)); exact BK104.out) Try.underlying139 rfl (by kernel_rfl)) rfl ?_
                                  exact ⟨by first | rfl | (simp [errW_none, errW_some] <;> rfl) | (simp [*, errW_none, errW_some] <;> rfl), by repeat (first | (with_reducible first | exact HB.out | apply below_alloc | apply pw_below_drewN | apply below_drew1 | refine below_set ?_ GE104.out) | exact HB.out)⟩
                    · rw [if_neg c20] at H
                      exact absurd H (by simp)
                  · rw [if_neg c19] at H
                    exact absurd H (by simp)
                · rw [if_neg c17] at H
                  exact absurd H (by simp)
              · rw [if_neg c16] at H
                exact absurd H (by simp)
            · rw [if_neg c15] at H
              have c15b0 : decide (x2_2 < (a1.size : Int)) = false := decide_eq_false c15
              clear c15
              simp only [Option.some.injEq, Prod.mk.injEq] at H
              obtain ⟨rfl, rfl, rfl, rfl, rfl, rfl⟩ := H
              have hcz97_0 : wr.cell? ⟨gb104, 0, none⟩ = some (.int .i64 x105000_2) := (blk_cell BK104.out 0).trans rfl
              have hcz97_1 : wr.cell? ⟨gb104, 1, none⟩ = some (.int .i64 x105001_2) := (blk_cell BK104.out 1).trans rfl
              have hcz97_2 : wr.cell? ⟨gb104, 2, none⟩ = some (.int .i64 x105002_2) := (blk_cell BK104.out 2).trans rfl
              have hcz97_3 : wr.cell? ⟨gb104, 3, none⟩ = some (.string x105003_2) := (blk_cell BK104.out 3).trans rfl
              have hcz97_4 : wr.cell? ⟨gb104, 4, none⟩ = some (.int .i64 x105004_2) := (blk_cell BK104.out 4).trans rfl
              have hcz97_5 : wr.cell? ⟨gb104, 5, none⟩ = some (.int .i64 x105005_2) := (blk_cell BK104.out 5).trans rfl
              have hfz97_0 := blk_frozen BK104.out 0
              have hfz97_1 := blk_frozen BK104.out 1
              have hfz97_2 := blk_frozen BK104.out 2
              have hfz97_3 := blk_frozen BK104.out 3
              have hfz97_4 := blk_frozen BK104.out 4
              have hfz97_5 := blk_frozen BK104.out 5
              go_wp2
              refine bodyPost_ret (results_cell_row rfl _ _ gb104 139 #[.int .i64 0, .int .i64 0, .int .i64 0, .string (⟨#[]⟩ : ByteArray), .int .i64 x2_2, .int .i64 x3_2] (0, 0) _ rfl (by (with_reducible repeat (first | refine blk_drewN ?_ _ | refine blk_drew ?_ | refine blk_alloc ?_ _)); refine blk_put (cs := #[.int .i64 0, .int .i64 0, .int .i64 0, .string (⟨#[]⟩ : ByteArray), .int .i64 x2_2, .int .i64 x105005_2]) ?_ 5 _ rfl; (with_reducible repeat (first | refine blk_drewN ?_ _ | refine blk_drew ?_ | refine blk_alloc ?_ _)); refine blk_put (cs := #[.int .i64 0, .int .i64 0, .int .i64 0, .string (⟨#[]⟩ : ByteArray), .int .i64 x105004_2, .int .i64 x105005_2]) ?_ 4 _ rfl; (with_reducible repeat (first | refine blk_drewN ?_ _ | refine blk_drew ?_ | refine blk_alloc ?_ _)); refine blk_put (cs := #[.int .i64 0, .int .i64 0, .int .i64 0, .string x105003_2, .int .i64 x105004_2, .int .i64 x105005_2]) ?_ 3 _ rfl; (with_reducible repeat (first | refine blk_drewN ?_ _ | refine blk_drew ?_ | refine blk_alloc ?_ _)); refine blk_put (cs := #[.int .i64 0, .int .i64 0, .int .i64 x105002_2, .string x105003_2, .int .i64 x105004_2, .int .i64 x105005_2]) ?_ 2 _ rfl; (with_reducible repeat (first | refine blk_drewN ?_ _ | refine blk_drew ?_ | refine blk_alloc ?_ _)); refine blk_put (cs := #[.int .i64 0, .int .i64 x105001_2, .int .i64 x105002_2, .string x105003_2, .int .i64 x105004_2, .int .i64 x105005_2]) ?_ 1 _ rfl; (with_reducible repeat (first | refine blk_drewN ?_ _ | refine blk_drew ?_ | refine blk_alloc ?_ _)); refine blk_put (cs := #[.int .i64 x105000_2, .int .i64 x105001_2, .int .i64 x105002_2, .string x105003_2, .int .i64 x105004_2, .int .i64 x105005_2]) ?_ 0 _ rfl; (with_reducible repeat (first | refine blk_drewN ?_ _ | refine blk_drew ?_ | refine blk_alloc ?_ _)); exact BK104.out) Try.underlying139 rfl (by kernel_rfl)) rfl ?_
              exact ⟨by first | rfl | (simp [errW_none, errW_some] <;> rfl) | (simp [*, errW_none, errW_some] <;> rfl), by repeat (first | (with_reducible first | exact HB.out | apply below_alloc | apply pw_below_drewN | apply below_drew1 | refine below_set ?_ GE104.out) | exact HB.out)⟩

end Go.Proofs.Ytgfifmbbjoocgaa.PFnTokensBack
