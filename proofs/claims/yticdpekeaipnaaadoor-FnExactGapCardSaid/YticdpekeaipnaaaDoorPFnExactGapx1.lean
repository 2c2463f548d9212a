-- Written by this session's program over the kit's printer (wip/gen/gp.py): Lean checks it.
import Derived.Test.YticdpekeaipnaaaDoorPFnExactGapx0
namespace Go.Proofs.YticdpekeaipnaaaDoor.PFnExactGap
open Go.RowKit Go.Proofs.YticdpekeaipnaaaDoorW.PrintWords Go.Proofs.YticdpekeaipnaaaDoorW.PrintLast Go.Proofs.YticdpekeaipnaaaDoorW.PrintMore
attribute [local go_sem] max2_int min2_int max_two min_two max_three min_three max_four min_four   -- for this text's walks alone
set_option linter.unusedVariables false
set_option linter.unusedSimpArgs false

/-! ### spec_Gap: function 10 -/
def spec_Gap.j0 : Nat → Int → Int → Bool → Bool → Option (Int)
  | 0, _, _, _, _ => none
  | k + 1, x0, x1, x2, x22 => if x22 = true then (some 0) else ((some (([(⟨#[48, 51, 100, 101, 48, 48, 48, 99]⟩ : ByteArray), (⟨#[51, 51, 48, 101, 48, 48, 48, 99]⟩ : ByteArray), (⟨#[100, 100, 48, 48, 100, 48, 48, 100]⟩ : ByteArray), (⟨#[101, 101, 48, 48, 101, 48, 48, 101]⟩ : ByteArray), (⟨#[48, 48, 48, 48, 48, 48, 48, 48]⟩ : ByteArray), (⟨#[48, 51, 100, 101, 48, 48, 48, 99]⟩ : ByteArray), (⟨#[99, 99, 48, 99, 99, 99, 99, 99]⟩ : ByteArray), (⟨#[99, 51, 100, 101, 99, 48, 99, 99]⟩ : ByteArray)] : List ByteArray) : List ByteArray)).bind fun y101 => (if 0 ≤ x0 then (if x0 < (y101.length : Int) then (if 0 ≤ x1 then (if x1 < ((rdOf ByteArray.empty y101 x0).size : Int) then (if (wrap64 (bt (rdOf ByteArray.empty y101 x0) x1)) ≥ 97 then (if x2 = true then (some 0) else (some (wrap64 ((wrap64 ((wrap64 (bt (rdOf ByteArray.empty y101 x0) x1)) - 97)) + 1)))) else (some (wrap64 ((wrap64 (bt (rdOf ByteArray.empty y101 x0) x1)) - 48)))) else (none)) else (none)) else (none)) else (none)))
def spec_Gap.f (k : Nat) (a0 : Int) (a1 : Int) (a2 : Bool) : Option (Int) := if a0 < 0 then (spec_Gap.j0 k a0 a1 a2 true) else (if a0 > 7 then (spec_Gap.j0 k a0 a1 a2 true) else (if a1 < 0 then (spec_Gap.j0 k a0 a1 a2 true) else (spec_Gap.j0 k a0 a1 a2 (decide (a1 > 7)))))
theorem spec_Gap.mono_l : ∀ k, (∀ y0 y1 y2 y3, LeO (spec_Gap.j0 k y0 y1 y2 y3) (spec_Gap.j0 (k + 1) y0 y1 y2 y3))
  | 0 => fun _ _ _ _ r h => by simp [spec_Gap.j0] at h
  | k + 1 => by
    have ih0 := spec_Gap.mono_l k
    · intro y0 y1 y2 y3
      unfold spec_Gap.j0
      repeat' first
      | (with_reducible exact ih0 _ _ _ _)
      | (with_reducible exact LeO.refl _)
      | (with_reducible exact LeO.none _)
      | (with_reducible refine LeO.ite ?_ ?_)
      | (with_reducible refine LeO.bind ?_ (fun _ => ?_))
      | exact ih0 _ _ _ _
      | exact LeO.none _
      | refine LeO.ite ?_ ?_
      | refine LeO.bind ?_ (fun _ => ?_)
theorem spec_Gap.mono : ∀ a0 a1 a2 k, LeO (spec_Gap.f k a0 a1 a2) (spec_Gap.f (k + 1) a0 a1 a2) := by
  intro a0 a1 a2 k
  have ih0 := spec_Gap.mono_l k
  unfold spec_Gap.f
  repeat' first
      | (with_reducible exact ih0 _ _ _ _)
      | (with_reducible exact LeO.refl _)
      | (with_reducible exact LeO.none _)
      | (with_reducible refine LeO.ite ?_ ?_)
      | (with_reducible refine LeO.bind ?_ (fun _ => ?_))
      | exact ih0 _ _ _ _
      | exact LeO.none _
      | refine LeO.ite ?_ ?_
      | refine LeO.bind ?_ (fun _ => ?_)
set_option maxHeartbeats 8000000 in
set_option maxRecDepth 100000 in
theorem spec_Gap.calls (k : Nat) (a0 : Int) (a1 : Int) (a2 : Bool) (r : Int) (w : World) (h : spec_Gap.f k a0 a1 a2 = some r) :
    Calls Tryd.prog 10 #[.int .i64 a0, .int .i64 a1, .bool a2] w fun e w' => e = .returned (.int .i64 r) ∧ Below w.heap.size w w' := by
  have HB := Aside0.mk (Below.refl w.heap.size w)
  have H : (if a0 < 0 then (spec_Gap.j0 k a0 a1 a2 true) else (if a0 > 7 then (spec_Gap.j0 k a0 a1 a2 true) else (if a1 < 0 then (spec_Gap.j0 k a0 a1 a2 true) else (spec_Gap.j0 k a0 a1 a2 (decide (a1 > 7)))))) = some r := h
  clear h
  have HC4 := Aside0.mk H
  clear H
  go_enter Tryd.func10, Tryd.ntmps10
  go_upto_region 1 with (fail)
  go_cut [22] (fun v22 wc => ∃ (kq : Nat) (x22_3 : Bool), v22 = .bool x22_3 ∧ Aside0 (spec_Gap.j0 kq a0 a1 a2 x22_3 = some r) ∧ Aside0 (kq ≤ k) ∧ Aside0 (Below w.heap.size w wc))
  case first =>
    have H := HC4.out
    clear HC4
    by_cases c5 : a0 < 0
    · rw [if_pos c5] at H
      have c5b0 : decide (a0 < 0) = true := decide_eq_true c5
      clear c5
      (first | rw [c5b0] | (simp only [i64_w, i32_w]; rw [c5b0]) | skip)
      have H' := Aside0.mk H
      clear H
      go_wp2
      go_meet
      case rel => exact ⟨_, (true), (by first | rfl | (simp; done) | (simp [*]; done)), H', ⟨by first | omega | exact Nat.le_refl _⟩, ⟨by repeat (first | (with_reducible first | exact HB.out | apply below_alloc | apply pw_below_drewN | apply below_drew1) | exact HB.out)⟩⟩
    · rw [if_neg c5] at H
      have c5b0 : decide (a0 < 0) = false := decide_eq_false c5
      clear c5
      (first | rw [c5b0] | (simp only [i64_w, i32_w]; rw [c5b0]) | skip)
      by_cases c6 : a0 > 7
      · rw [if_pos c6] at H
        have c6b0 : decide (7 < a0) = true := decide_eq_true c6
        clear c6
        have H' := Aside0.mk H
        clear H
        go_wp2
        go_meet
        case rel => exact ⟨_, (true), (by first | rfl | (simp; done) | (simp [*]; done)), H', ⟨by first | omega | exact Nat.le_refl _⟩, ⟨by repeat (first | (with_reducible first | exact HB.out | apply below_alloc | apply pw_below_drewN | apply below_drew1) | exact HB.out)⟩⟩
      · rw [if_neg c6] at H
        have c6b0 : decide (7 < a0) = false := decide_eq_false c6
        clear c6
        by_cases c7 : a1 < 0
        · rw [if_pos c7] at H
          have c7b0 : decide (a1 < 0) = true := decide_eq_true c7
          clear c7
          have H' := Aside0.mk H
          clear H
          go_wp2
          go_meet
          case rel => exact ⟨_, (true), (by first | rfl | (simp; done) | (simp [*]; done)), H', ⟨by first | omega | exact Nat.le_refl _⟩, ⟨by repeat (first | (with_reducible first | exact HB.out | apply below_alloc | apply pw_below_drewN | apply below_drew1) | exact HB.out)⟩⟩
        · rw [if_neg c7] at H
          have c7b0 : decide (a1 < 0) = false := decide_eq_false c7
          clear c7
          have H' := Aside0.mk H
          clear H
          go_wp2
          go_meet
          case rel => exact ⟨_, (decide (a1 > 7)), (by first | rfl | (simp; done) | (simp [*]; done)), H', ⟨by first | omega | exact Nat.le_refl _⟩, ⟨by repeat (first | (with_reducible first | exact HB.out | apply below_alloc | apply pw_below_drewN | apply below_drew1) | exact HB.out)⟩⟩
  case rest =>
    clear HC4
    try clear c1
    try clear p2
    try clear c5
    try clear c5b0
    try clear c6
    try clear c6b0
    try clear c7
    try clear c7b0
    obtain ⟨kq, x22_3, rfl, HA, HJ3, HB⟩ := hcut
    cases kq with
    | zero => exact absurd HA.out (by simp [spec_Gap.j0])
    | succ kj3 =>
      have H := HA.out
      clear HA
      simp only [spec_Gap.j0] at H
      by_cases c8 : x22_3 = true
      · subst c8
        have H1 : (some 0) = some r := by rw [if_pos rfl] at H; exact H
        clear H
        have H := H1
        clear H1
        obtain rfl := Option.some.inj H
        go_wp2
        go_ret
        exact ⟨by first | rfl | (simp [errW_none, errW_some] <;> rfl) | (simp [*, errW_none, errW_some] <;> rfl), by repeat (first | (with_reducible first | exact HB.out | apply below_alloc | apply pw_below_drewN | apply below_drew1) | exact HB.out)⟩
      · replace c8 := Bool.eq_false_iff.mpr c8
        subst c8
        have H1 : ((some (([(⟨#[48, 51, 100, 101, 48, 48, 48, 99]⟩ : ByteArray), (⟨#[51, 51, 48, 101, 48, 48, 48, 99]⟩ : ByteArray), (⟨#[100, 100, 48, 48, 100, 48, 48, 100]⟩ : ByteArray), (⟨#[101, 101, 48, 48, 101, 48, 48, 101]⟩ : ByteArray), (⟨#[48, 48, 48, 48, 48, 48, 48, 48]⟩ : ByteArray), (⟨#[48, 51, 100, 101, 48, 48, 48, 99]⟩ : ByteArray), (⟨#[99, 99, 48, 99, 99, 99, 99, 99]⟩ : ByteArray), (⟨#[99, 51, 100, 101, 99, 48, 99, 99]⟩ : ByteArray)] : List ByteArray) : List ByteArray)).bind fun y101 => (if 0 ≤ a0 then (if a0 < (y101.length : Int) then (if 0 ≤ a1 then (if a1 < ((rdOf ByteArray.empty y101 a0).size : Int) then (if (wrap64 (bt (rdOf ByteArray.empty y101 a0) a1)) ≥ 97 then (if a2 = true then (some 0) else (some (wrap64 ((wrap64 ((wrap64 (bt (rdOf ByteArray.empty y101 a0) a1)) - 97)) + 1)))) else (some (wrap64 ((wrap64 (bt (rdOf ByteArray.empty y101 a0) a1)) - 48)))) else (none)) else (none)) else (none)) else (none))) = some r := by rw [if_neg (show ¬ (false = true) by decide)] at H; exact H
        clear H
        have H := H1
        clear H1
        obtain ⟨y101, hy101⟩ : ∃ y_ : List ByteArray, y_ = (([(⟨#[48, 51, 100, 101, 48, 48, 48, 99]⟩ : ByteArray), (⟨#[51, 51, 48, 101, 48, 48, 48, 99]⟩ : ByteArray), (⟨#[100, 100, 48, 48, 100, 48, 48, 100]⟩ : ByteArray), (⟨#[101, 101, 48, 48, 101, 48, 48, 101]⟩ : ByteArray), (⟨#[48, 48, 48, 48, 48, 48, 48, 48]⟩ : ByteArray), (⟨#[48, 51, 100, 101, 48, 48, 48, 99]⟩ : ByteArray), (⟨#[99, 99, 48, 99, 99, 99, 99, 99]⟩ : ByteArray), (⟨#[99, 51, 100, 101, 99, 48, 99, 99]⟩ : ByteArray)] : List ByteArray)) := ⟨_, rfl⟩
        replace H : (if 0 ≤ a0 then (if a0 < (y101.length : Int) then (if 0 ≤ a1 then (if a1 < ((rdOf ByteArray.empty y101 a0).size : Int) then (if (wrap64 (bt (rdOf ByteArray.empty y101 a0) a1)) ≥ 97 then (if a2 = true then (some 0) else (some (wrap64 ((wrap64 ((wrap64 (bt (rdOf ByteArray.empty y101 a0) a1)) - 97)) + 1)))) else (some (wrap64 ((wrap64 (bt (rdOf ByteArray.empty y101 a0) a1)) - 48)))) else (none)) else (none)) else (none)) else (none)) = some r := by first | (rw [hy101]; with_reducible exact H) | (have H2_ := (Option.bind_some _ _).symm.trans H; rw [hy101]; with_reducible exact H2_) | (have H2_ := (Option.bind_some _ _).symm.trans H; with_reducible exact H2_) | with_reducible exact H | (rw [hy101]; exact H) | exact H
        have Ny101 := Aside0.mk hy101
        clear hy101
        by_cases c9 : 0 ≤ a0
        · rw [if_pos c9] at H
          have c9b0 : decide (0 ≤ a0) = true := decide_eq_true c9
          clear c9
          by_cases c10 : a0 < (y101.length : Int)
          · rw [if_pos c10] at H
            have c10b0 : decide (a0 < (y101.length : Int)) = true := decide_eq_true c10
            clear c10
            by_cases c11 : 0 ≤ a1
            · rw [if_pos c11] at H
              have c11b0 : decide (0 ≤ a1) = true := decide_eq_true c11
              clear c11
              by_cases c12 : a1 < ((rdOf ByteArray.empty y101 a0).size : Int)
              · rw [if_pos c12] at H
                have c12b0 : decide (a1 < ((rdOf ByteArray.empty y101 a0).size : Int)) = true := decide_eq_true c12
                clear c12
                by_cases c14 : (wrap64 (bt (rdOf ByteArray.empty y101 a0) a1)) ≥ 97
                · rw [if_pos c14] at H
                  have c14b0 : decide (97 ≤ (wrap64 (bt (rdOf ByteArray.empty y101 a0) a1))) = true := decide_eq_true c14
                  clear c14
                  by_cases c15 : a2 = true
                  · subst c15
                    have H1 : (some 0) = some r := by rw [if_pos rfl] at H; exact H
                    clear H
                    have H := H1
                    clear H1
                    obtain rfl := Option.some.inj H
                    go_wp2_with (first | ((with_reducible refine gate_dst (N := 23) rfl ?_); refine Kd.R_lit Kd.string _ 9 ?hg (N := 23) ?hd (xs := ([(⟨#[48, 51, 100, 101, 48, 48, 48, 99]⟩ : ByteArray), (⟨#[51, 51, 48, 101, 48, 48, 48, 99]⟩ : ByteArray), (⟨#[100, 100, 48, 48, 100, 48, 48, 100]⟩ : ByteArray), (⟨#[101, 101, 48, 48, 101, 48, 48, 101]⟩ : ByteArray), (⟨#[48, 48, 48, 48, 48, 48, 48, 48]⟩ : ByteArray), (⟨#[48, 51, 100, 101, 48, 48, 48, 99]⟩ : ByteArray), (⟨#[99, 99, 48, 99, 99, 99, 99, 99]⟩ : ByteArray), (⟨#[99, 51, 100, 101, 99, 48, 99, 99]⟩ : ByteArray)] : List ByteArray)) (inner := [.string (⟨#[48, 51, 100, 101, 48, 48, 48, 99]⟩ : ByteArray), .string (⟨#[51, 51, 48, 101, 48, 48, 48, 99]⟩ : ByteArray), .string (⟨#[100, 100, 48, 48, 100, 48, 48, 100]⟩ : ByteArray), .string (⟨#[101, 101, 48, 48, 101, 48, 48, 101]⟩ : ByteArray), .string (⟨#[48, 48, 48, 48, 48, 48, 48, 48]⟩ : ByteArray), .string (⟨#[48, 51, 100, 101, 48, 48, 48, 99]⟩ : ByteArray), .string (⟨#[99, 99, 48, 99, 99, 99, 99, 99]⟩ : ByteArray), .string (⟨#[99, 51, 100, 101, 99, 48, 99, 99]⟩ : ByteArray)]) (ok := fun _ => True) (okp := fun _ => True) ?hr ?hp (fun _ hk => hk) trivial (Below.refl _ _) (Nat.le_refl _) (by simp) ?_; (case hd => rfl); (case hg => rfl); (case hr => first | (go_simp; done) | (go_simp; rfl)); (case hp => exact (Reps.one (show Kd.M Kd.string _ _ _ (⟨#[48, 51, 100, 101, 48, 48, 48, 99]⟩ : ByteArray) [.string (⟨#[48, 51, 100, 101, 48, 48, 48, 99]⟩ : ByteArray)] from rfl) (Reps.one (show Kd.M Kd.string _ _ _ (⟨#[51, 51, 48, 101, 48, 48, 48, 99]⟩ : ByteArray) [.string (⟨#[51, 51, 48, 101, 48, 48, 48, 99]⟩ : ByteArray)] from rfl) (Reps.one (show Kd.M Kd.string _ _ _ (⟨#[100, 100, 48, 48, 100, 48, 48, 100]⟩ : ByteArray) [.string (⟨#[100, 100, 48, 48, 100, 48, 48, 100]⟩ : ByteArray)] from rfl) (Reps.one (show Kd.M Kd.string _ _ _ (⟨#[101, 101, 48, 48, 101, 48, 48, 101]⟩ : ByteArray) [.string (⟨#[101, 101, 48, 48, 101, 48, 48, 101]⟩ : ByteArray)] from rfl) (Reps.one (show Kd.M Kd.string _ _ _ (⟨#[48, 48, 48, 48, 48, 48, 48, 48]⟩ : ByteArray) [.string (⟨#[48, 48, 48, 48, 48, 48, 48, 48]⟩ : ByteArray)] from rfl) (Reps.one (show Kd.M Kd.string _ _ _ (⟨#[48, 51, 100, 101, 48, 48, 48, 99]⟩ : ByteArray) [.string (⟨#[48, 51, 100, 101, 48, 48, 48, 99]⟩ : ByteArray)] from rfl) (Reps.one (show Kd.M Kd.string _ _ _ (⟨#[99, 99, 48, 99, 99, 99, 99, 99]⟩ : ByteArray) [.string (⟨#[99, 99, 48, 99, 99, 99, 99, 99]⟩ : ByteArray)] from rfl) (Reps.one (show Kd.M Kd.string _ _ _ (⟨#[99, 51, 100, 101, 99, 48, 99, 99]⟩ : ByteArray) [.string (⟨#[99, 51, 100, 101, 99, 48, 99, 99]⟩ : ByteArray)] from rfl) (Reps.none _ _)))))))))); intro v102 w16 ho17 hb hg_ hnew_; clear hg_ hnew_; (first | rw [← Ny101.out] at ho17 | (simp only [Int.reduceToNat] at ho17; rw [← Ny101.out] at ho17)); have n0_ := Aside0.mk (Kd.R_lower ho17 (below_size (by repeat (first | (with_reducible first | exact HB.out | apply below_alloc | apply pw_below_drewN | apply below_drew1) | exact HB.out)))); have n1_ := Aside0.mk (below_step (by repeat (first | (with_reducible first | exact HB.out | apply below_alloc | apply pw_below_drewN | apply below_drew1) | exact HB.out)) hb); clear HB; have HO103 := n0_; have HB := n1_; clear n0_ n1_; clear hb ho17; obtain ⟨Ao18, co18, eo18⟩ := Kd.R_slice HO103.out; subst eo18; have p104 : 0 ≤ (a0 : Int) := of_decide_eq_true (by first | (with_reducible assumption) | assumption); have q104 : a0 < (y101.length : Int) := of_decide_eq_true (by first | (with_reducible assumption) | assumption); obtain ⟨ad104, e104, hx104_0⟩ := Kd.at_string (Kd.R_reads' HO103.out).2.2 a0 p104 q104; cases e104; replace p104 := eq_true p104; replace q104 := eq_true q104; have p13 : 0 ≤ (a1 : Int) := of_decide_eq_true (by first | (with_reducible assumption) | assumption); have q13 : a1 < ((rdOf ByteArray.empty y101 a0).size : Int) := of_decide_eq_true (by first | (with_reducible assumption) | assumption); have hx13 := bt_at (rdOf ByteArray.empty y101 a0) a1; replace p13 := eq_true p13; replace q13 := eq_true q13))
                    go_ret
                    exact ⟨by first | rfl | (simp [errW_none, errW_some] <;> rfl) | (simp [*, errW_none, errW_some] <;> rfl), by repeat (first | (with_reducible first | exact HB.out | apply below_alloc | apply pw_below_drewN | apply below_drew1) | exact HB.out)⟩
                  · replace c15 := Bool.eq_false_iff.mpr c15
                    subst c15
                    have H1 : (some (wrap64 ((wrap64 ((wrap64 (bt (rdOf ByteArray.empty y101 a0) a1)) - 97)) + 1))) = some r := by rw [if_neg (show ¬ (false = true) by decide)] at H; exact H
                    clear H
                    have H := H1
                    clear H1
                    obtain rfl := Option.some.inj H
                    go_wp2_with (first | ((with_reducible refine gate_dst (N := 23) rfl ?_); refine Kd.R_lit Kd.string _ 9 ?hg (N := 23) ?hd (xs := ([(⟨#[48, 51, 100, 101, 48, 48, 48, 99]⟩ : ByteArray), (⟨#[51, 51, 48, 101, 48, 48, 48, 99]⟩ : ByteArray), (⟨#[100, 100, 48, 48, 100, 48, 48, 100]⟩ : ByteArray), (⟨#[101, 101, 48, 48, 101, 48, 48, 101]⟩ : ByteArray), (⟨#[48, 48, 48, 48, 48, 48, 48, 48]⟩ : ByteArray), (⟨#[48, 51, 100, 101, 48, 48, 48, 99]⟩ : ByteArray), (⟨#[99, 99, 48, 99, 99, 99, 99, 99]⟩ : ByteArray), (⟨#[99, 51, 100, 101, 99, 48, 99, 99]⟩ : ByteArray)] : List ByteArray)) (inner := [.string (⟨#[48, 51, 100, 101, 48, 48, 48, 99]⟩ : ByteArray), .string (⟨#[51, 51, 48, 101, 48, 48, 48, 99]⟩ : ByteArray), .string (⟨#[100, 100, 48, 48, 100, 48, 48, 100]⟩ : ByteArray), .string (⟨#[101, 101, 48, 48, 101, 48, 48, 101]⟩ : ByteArray), .string (⟨#[48, 48, 48, 48, 48, 48, 48, 48]⟩ : ByteArray), .string (⟨#[48, 51, 100, 101, 48, 48, 48, 99]⟩ : ByteArray), .string (⟨#[99, 99, 48, 99, 99, 99, 99, 99]⟩ : ByteArray), .string (⟨#[99, 51, 100, 101, 99, 48, 99, 99]⟩ : ByteArray)]) (ok := fun _ => True) (okp := fun _ => True) ?hr ?hp (fun _ hk => hk) trivial (Below.refl _ _) (Nat.le_refl _) (by simp) ?_; (case hd => rfl); (case hg => rfl); (case hr => first | (go_simp; done) | (go_simp; rfl)); (case hp => exact (Reps.one (show Kd.M Kd.string _ _ _ (⟨#[48, 51, 100, 101, 48, 48, 48, 99]⟩ : ByteArray) [.string (⟨#[48, 51, 100, 101, 48, 48, 48, 99]⟩ : ByteArray)] from rfl) (Reps.one (show Kd.M Kd.string _ _ _ (⟨#[51, 51, 48, 101, 48, 48, 48, 99]⟩ : ByteArray) [.string (⟨#[51, 51, 48, 101, 48, 48, 48, 99]⟩ : ByteArray)] from rfl) (Reps.one (show Kd.M Kd.string _ _ _ (⟨#[100, 100, 48, 48, 100, 48, 48, 100]⟩ : ByteArray) [.string (⟨#[100, 100, 48, 48, 100, 48, 48, 100]⟩ : ByteArray)] from rfl) (Reps.one (show Kd.M Kd.string _ _ _ (⟨#[101, 101, 48, 48, 101, 48, 48, 101]⟩ : ByteArray) [.string (⟨#[101, 101, 48, 48, 101, 48, 48, 101]⟩ : ByteArray)] from rfl) (Reps.one (show Kd.M Kd.string _ _ _ (⟨#[48, 48, 48, 48, 48, 48, 48, 48]⟩ : ByteArray) [.string (⟨#[48, 48, 48, 48, 48, 48, 48, 48]⟩ : ByteArray)] from rfl) (Reps.one (show Kd.M Kd.string _ _ _ (⟨#[48, 51, 100, 101, 48, 48, 48, 99]⟩ : ByteArray) [.string (⟨#[48, 51, 100, 101, 48, 48, 48, 99]⟩ : ByteArray)] from rfl) (Reps.one (show Kd.M Kd.string _ _ _ (⟨#[99, 99, 48, 99, 99, 99, 99, 99]⟩ : ByteArray) [.string (⟨#[99, 99, 48, 99, 99, 99, 99, 99]⟩ : ByteArray)] from rfl) (Reps.one (show Kd.M Kd.string _ _ _ (⟨#[99, 51, 100, 101, 99, 48, 99, 99]⟩ : ByteArray) [.string (⟨#[99, 51, 100, 101, 99, 48, 99, 99]⟩ : ByteArray)] from rfl) (Reps.none _ _)))))))))); intro v102 w19 ho20 hb hg_ hnew_; clear hg_ hnew_; (first | rw [← Ny101.out] at ho20 | (simp only [Int.reduceToNat] at ho20; rw [← Ny101.out] at ho20)); have n0_ := Aside0.mk (Kd.R_lower ho20 (below_size (by repeat (first | (with_reducible first | exact HB.out | apply below_alloc | apply pw_below_drewN | apply below_drew1) | exact HB.out)))); have n1_ := Aside0.mk (below_step (by repeat (first | (with_reducible first | exact HB.out | apply below_alloc | apply pw_below_drewN | apply below_drew1) | exact HB.out)) hb); clear HB; have HO103 := n0_; have HB := n1_; clear n0_ n1_; clear hb ho20; obtain ⟨Ao21, co21, eo21⟩ := Kd.R_slice HO103.out; subst eo21; have p104 : 0 ≤ (a0 : Int) := of_decide_eq_true (by first | (with_reducible assumption) | assumption); have q104 : a0 < (y101.length : Int) := of_decide_eq_true (by first | (with_reducible assumption) | assumption); obtain ⟨ad104, e104, hx104_0⟩ := Kd.at_string (Kd.R_reads' HO103.out).2.2 a0 p104 q104; cases e104; replace p104 := eq_true p104; replace q104 := eq_true q104; have p13 : 0 ≤ (a1 : Int) := of_decide_eq_true (by first | (with_reducible assumption) | assumption); have q13 : a1 < ((rdOf ByteArray.empty y101 a0).size : Int) := of_decide_eq_true (by first | (with_reducible assumption) | assumption); have hx13 := bt_at (rdOf ByteArray.empty y101 a0) a1; replace p13 := eq_true p13; replace q13 := eq_true q13))
                    go_ret
                    exact ⟨by first | rfl | (simp [errW_none, errW_some] <;> rfl) | (simp [*, errW_none, errW_some] <;> rfl), by repeat (first | (with_reducible first | exact HB.out | apply below_alloc | apply pw_below_drewN | apply below_drew1) | exact HB.out)⟩
                · rw [if_neg c14] at H
                  have c14b0 : decide (97 ≤ (wrap64 (bt (rdOf ByteArray.empty y101 a0) a1))) = false := decide_eq_false c14
                  clear c14
                  obtain rfl := Option.some.inj H
                  go_wp2_with (first | ((with_reducible refine gate_dst (N := 23) rfl ?_); refine Kd.R_lit Kd.string _ 9 ?hg (N := 23) ?hd (xs := ([(⟨#[48, 51, 100, 101, 48, 48, 48, 99]⟩ : ByteArray), (⟨#[51, 51, 48, 101, 48, 48, 48, 99]⟩ : ByteArray), (⟨#[100, 100, 48, 48, 100, 48, 48, 100]⟩ : ByteArray), (⟨#[101, 101, 48, 48, 101, 48, 48, 101]⟩ : ByteArray), (⟨#[48, 48, 48, 48, 48, 48, 48, 48]⟩ : ByteArray), (⟨#[48, 51, 100, 101, 48, 48, 48, 99]⟩ : ByteArray), (⟨#[99, 99, 48, 99, 99, 99, 99, 99]⟩ : ByteArray), (⟨#[99, 51, 100, 101, 99, 48, 99, 99]⟩ : ByteArray)] : List ByteArray)) (inner := [.string (⟨#[48, 51, 100, 101, 48, 48, 48, 99]⟩ : ByteArray), .string (⟨#[51, 51, 48, 101, 48, 48, 48, 99]⟩ : ByteArray), .string (⟨#[100, 100, 48, 48, 100, 48, 48, 100]⟩ : ByteArray), .string (⟨#[101, 101, 48, 48, 101, 48, 48, 101]⟩ : ByteArray), .string (⟨#[48, 48, 48, 48, 48, 48, 48, 48]⟩ : ByteArray), .string (⟨#[48, 51, 100, 101, 48, 48, 48, 99]⟩ : ByteArray), .string (⟨#[99, 99, 48, 99, 99, 99, 99, 99]⟩ : ByteArray), .string (⟨#[99, 51, 100, 101, 99, 48, 99, 99]⟩ : ByteArray)]) (ok := fun _ => True) (okp := fun _ => True) ?hr ?hp (fun _ hk => hk) trivial (Below.refl _ _) (Nat.le_refl _) (by simp) ?_; (case hd => rfl); (case hg => rfl); (case hr => first | (go_simp; done) | (go_simp; rfl)); (case hp => exact (Reps.one (show Kd.M Kd.string _ _ _ (⟨#[48, 51, 100, 101, 48, 48, 48, 99]⟩ : ByteArray) [.string (⟨#[48, 51, 100, 101, 48, 48, 48, 99]⟩ : ByteArray)] from rfl) (Reps.one (show Kd.M Kd.string _ _ _ (⟨#[51, 51, 48, 101, 48, 48, 48, 99]⟩ : ByteArray) [.string (⟨#[51, 51, 48, 101, 48, 48, 48, 99]⟩ : ByteArray)] from rfl) (Reps.one (show Kd.M Kd.string _ _ _ (⟨#[100, 100, 48, 48, 100, 48, 48, 100]⟩ : ByteArray) [.string (⟨#[100, 100, 48, 48, 100, 48, 48, 100]⟩ : ByteArray)] from rfl) (Reps.one (show Kd.M Kd.string _ _ _ (⟨#[101, 101, 48, 48, 101, 48, 48, 101]⟩ : ByteArray) [.string (⟨#[101, 101, 48, 48, 101, 48, 48, 101]⟩ : ByteArray)] from rfl) (Reps.one (show Kd.M Kd.string _ _ _ (⟨#[48, 48, 48, 48, 48, 48, 48, 48]⟩ : ByteArray) [.string (⟨#[48, 48, 48, 48, 48, 48, 48, 48]⟩ : ByteArray)] from rfl) (Reps.one (show Kd.M Kd.string _ _ _ (⟨#[48, 51, 100, 101, 48, 48, 48, 99]⟩ : ByteArray) [.string (⟨#[48, 51, 100, 101, 48, 48, 48, 99]⟩ : ByteArray)] from rfl) (Reps.one (show Kd.M Kd.string _ _ _ (⟨#[99, 99, 48, 99, 99, 99, 99, 99]⟩ : ByteArray) [.string (⟨#[99, 99, 48, 99, 99, 99, 99, 99]⟩ : ByteArray)] from rfl) (Reps.one (show Kd.M Kd.string _ _ _ (⟨#[99, 51, 100, 101, 99, 48, 99, 99]⟩ : ByteArray) [.string (⟨#[99, 51, 100, 101, 99, 48, 99, 99]⟩ : ByteArray)] from rfl) (Reps.none _ _)))))))))); intro v102 w22 ho23 hb hg_ hnew_; clear hg_ hnew_; (first | rw [← Ny101.out] at ho23 | (simp only [Int.reduceToNat] at ho23; rw [← Ny101.out] at ho23)); have n0_ := Aside0.mk (Kd.R_lower ho23 (below_size (by repeat (first | (with_reducible first | exact HB.out | apply below_alloc | apply pw_below_drewN | apply below_drew1) | exact HB.out)))); have n1_ := Aside0.mk (below_step (by repeat (first | (with_reducible first | exact HB.out | apply below_alloc | apply pw_below_drewN | apply below_drew1) | exact HB.out)) hb); clear HB; have HO103 := n0_; have HB := n1_; clear n0_ n1_; clear hb ho23; obtain ⟨Ao24, co24, eo24⟩ := Kd.R_slice HO103.out; subst eo24; have p104 : 0 ≤ (a0 : Int) := of_decide_eq_true (by first | (with_reducible assumption) | assumption); have q104 : a0 < (y101.length : Int) := of_decide_eq_true (by first | (with_reducible assumption) | assumption); obtain ⟨ad104, e104, hx104_0⟩ := Kd.at_string (Kd.R_reads' HO103.out).2.2 a0 p104 q104; cases e104; replace p104 := eq_true p104; replace q104 := eq_true q104; have p13 : 0 ≤ (a1 : Int) := of_decide_eq_true (by first | (with_reducible assumption) | assumption); have q13 : a1 < ((rdOf ByteArray.empty y101 a0).size : Int) := of_decide_eq_true (by first | (with_reducible assumption) | assumption); have hx13 := bt_at (rdOf ByteArray.empty y101 a0) a1; replace p13 := eq_true p13; replace q13 := eq_true q13))
                  go_ret
                  exact ⟨by first | rfl | (simp [errW_none, errW_some] <;> rfl) | (simp [*, errW_none, errW_some] <;> rfl), by repeat (first | (with_reducible first | exact HB.out | apply below_alloc | apply pw_below_drewN | apply below_drew1) | exact HB.out)⟩
              · rw [if_neg c12] at H
                exact absurd H (by simp)
            · rw [if_neg c11] at H
              exact absurd H (by simp)
          · rw [if_neg c10] at H
            exact absurd H (by simp)
        · rw [if_neg c9] at H
          exact absurd H (by simp)

-- NOT PRINTED: function 11 (impl_Gap)

-- NOT PRINTED: function 4 (laws_FnExactGap)

end Go.Proofs.YticdpekeaipnaaaDoor.PFnExactGap
