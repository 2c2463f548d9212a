-- Written by this session's program over the kit's printer (wip/gen/gp.py): Lean checks it.
import Derived.Test.YticdpekeaipnaaaPFnExactStyleOkx0
import Derived.Test.YticdpekeaipnaaaPFnExactStyleOkx1
namespace Go.Proofs.Yticdpekeaipnaaa.PFnExactStyleOk
open Go.RowKit Go.Proofs.YticdpekeaipnaaaW.PrintWords Go.Proofs.YticdpekeaipnaaaW.PrintLast Go.Proofs.YticdpekeaipnaaaW.PrintMore
attribute [local go_sem] max2_int min2_int max_two min_two max_three min_three max_four min_four   -- for this text's walks alone
set_option linter.unusedVariables false
set_option linter.unusedSimpArgs false

/-! ### spec_StyleOk: function 39 -/
mutual
def spec_StyleOk.j0 : Nat → Bool → Int → Int → Int → Int → Int → Int → Int → Int → Int → Int → Int → Int → Int → Int → Int → Int → Int → Int → Int → Int → Int → Int → Int → Option (Bool)
  | 0, _, _, _, _, _, _, _, _, _, _, _, _, _, _, _, _, _, _, _, _, _, _, _, _ => none
  | k + 1, x40, x108000, x108001, x108002, x108003, x108004, x108005, x108006, x108007, x108008, x108009, x108010, x108011, x108012, x108013, x108014, x108015, x108016, x108017, x108018, x108019, x108020, x108021, x108022 => if x40 = true then (some false) else ((spec_l9Cost.f x108004).bind fun t108 => (if t108 = true then ((spec_l9Cost.f x108005).bind fun t109 => (if t109 = true then ((spec_l9Cost.f x108006).bind fun t110 => (if t110 = true then ((spec_l9Cost.f x108007).bind fun t111 => (if t111 = true then (if x108004 > 10000 then (spec_StyleOk.j1 k true x108000 x108001 x108002 x108003 x108004 x108005 x108006 x108007 x108008 x108009 x108010 x108011 x108012 x108013 x108014 x108015 x108016 x108017 x108018 x108019 x108020 x108021 x108022) else (spec_StyleOk.j1 k (decide (x108005 > 10000)) x108000 x108001 x108002 x108003 x108004 x108005 x108006 x108007 x108008 x108009 x108010 x108011 x108012 x108013 x108014 x108015 x108016 x108017 x108018 x108019 x108020 x108021 x108022)) else (spec_StyleOk.j1 k true x108000 x108001 x108002 x108003 x108004 x108005 x108006 x108007 x108008 x108009 x108010 x108011 x108012 x108013 x108014 x108015 x108016 x108017 x108018 x108019 x108020 x108021 x108022))) else (spec_StyleOk.j1 k true x108000 x108001 x108002 x108003 x108004 x108005 x108006 x108007 x108008 x108009 x108010 x108011 x108012 x108013 x108014 x108015 x108016 x108017 x108018 x108019 x108020 x108021 x108022))) else (spec_StyleOk.j1 k true x108000 x108001 x108002 x108003 x108004 x108005 x108006 x108007 x108008 x108009 x108010 x108011 x108012 x108013 x108014 x108015 x108016 x108017 x108018 x108019 x108020 x108021 x108022))) else (spec_StyleOk.j1 k true x108000 x108001 x108002 x108003 x108004 x108005 x108006 x108007 x108008 x108009 x108010 x108011 x108012 x108013 x108014 x108015 x108016 x108017 x108018 x108019 x108020 x108021 x108022)))
def spec_StyleOk.j1 : Nat → Bool → Int → Int → Int → Int → Int → Int → Int → Int → Int → Int → Int → Int → Int → Int → Int → Int → Int → Int → Int → Int → Int → Int → Int → Option (Bool)
  | 0, _, _, _, _, _, _, _, _, _, _, _, _, _, _, _, _, _, _, _, _, _, _, _, _ => none
  | k + 1, x72, x108000, x108001, x108002, x108003, x108004, x108005, x108006, x108007, x108008, x108009, x108010, x108011, x108012, x108013, x108014, x108015, x108016, x108017, x108018, x108019, x108020, x108021, x108022 => if x72 = true then (some false) else ((spec_GlueOk.f x108008 x108009 x108010 x108011 x108012).bind fun t112 => (if t112 = true then ((spec_GlueOk.f x108013 x108014 x108015 x108016 x108017).bind fun t113 => (if t113 = true then ((spec_GlueOk.f x108018 x108019 x108020 x108021 x108022).bind fun t114 => (some t114)) else (some false))) else (some false)))
end
def spec_StyleOk.f (k : Nat) (a0_0 : Int) (a0_1 : Int) (a0_2 : Int) (a0_3 : Int) (a0_4 : Int) (a0_5 : Int) (a0_6 : Int) (a0_7 : Int) (a0_8 : Int) (a0_9 : Int) (a0_10 : Int) (a0_11 : Int) (a0_12 : Int) (a0_13 : Int) (a0_14 : Int) (a0_15 : Int) (a0_16 : Int) (a0_17 : Int) (a0_18 : Int) (a0_19 : Int) (a0_20 : Int) (a0_21 : Int) (a0_22 : Int) : Option (Bool) := if a0_0 < 0 then (spec_StyleOk.j0 k true a0_0 a0_1 a0_2 a0_3 a0_4 a0_5 a0_6 a0_7 a0_8 a0_9 a0_10 a0_11 a0_12 a0_13 a0_14 a0_15 a0_16 a0_17 a0_18 a0_19 a0_20 a0_21 a0_22) else (if a0_0 > 1073741823 then (spec_StyleOk.j0 k true a0_0 a0_1 a0_2 a0_3 a0_4 a0_5 a0_6 a0_7 a0_8 a0_9 a0_10 a0_11 a0_12 a0_13 a0_14 a0_15 a0_16 a0_17 a0_18 a0_19 a0_20 a0_21 a0_22) else (if a0_1 < 0 then (spec_StyleOk.j0 k true a0_0 a0_1 a0_2 a0_3 a0_4 a0_5 a0_6 a0_7 a0_8 a0_9 a0_10 a0_11 a0_12 a0_13 a0_14 a0_15 a0_16 a0_17 a0_18 a0_19 a0_20 a0_21 a0_22) else (if a0_1 > 1073741823 then (spec_StyleOk.j0 k true a0_0 a0_1 a0_2 a0_3 a0_4 a0_5 a0_6 a0_7 a0_8 a0_9 a0_10 a0_11 a0_12 a0_13 a0_14 a0_15 a0_16 a0_17 a0_18 a0_19 a0_20 a0_21 a0_22) else (if a0_2 < 0 then (spec_StyleOk.j0 k true a0_0 a0_1 a0_2 a0_3 a0_4 a0_5 a0_6 a0_7 a0_8 a0_9 a0_10 a0_11 a0_12 a0_13 a0_14 a0_15 a0_16 a0_17 a0_18 a0_19 a0_20 a0_21 a0_22) else (if a0_2 > 4 then (spec_StyleOk.j0 k true a0_0 a0_1 a0_2 a0_3 a0_4 a0_5 a0_6 a0_7 a0_8 a0_9 a0_10 a0_11 a0_12 a0_13 a0_14 a0_15 a0_16 a0_17 a0_18 a0_19 a0_20 a0_21 a0_22) else (if a0_3 < 0 then (spec_StyleOk.j0 k true a0_0 a0_1 a0_2 a0_3 a0_4 a0_5 a0_6 a0_7 a0_8 a0_9 a0_10 a0_11 a0_12 a0_13 a0_14 a0_15 a0_16 a0_17 a0_18 a0_19 a0_20 a0_21 a0_22) else (spec_StyleOk.j0 k (decide (a0_3 > 10000)) a0_0 a0_1 a0_2 a0_3 a0_4 a0_5 a0_6 a0_7 a0_8 a0_9 a0_10 a0_11 a0_12 a0_13 a0_14 a0_15 a0_16 a0_17 a0_18 a0_19 a0_20 a0_21 a0_22)))))))
theorem spec_StyleOk.mono_l : ∀ k, (∀ y0 y1 y2 y3 y4 y5 y6 y7 y8 y9 y10 y11 y12 y13 y14 y15 y16 y17 y18 y19 y20 y21 y22 y23, LeO (spec_StyleOk.j0 k y0 y1 y2 y3 y4 y5 y6 y7 y8 y9 y10 y11 y12 y13 y14 y15 y16 y17 y18 y19 y20 y21 y22 y23) (spec_StyleOk.j0 (k + 1) y0 y1 y2 y3 y4 y5 y6 y7 y8 y9 y10 y11 y12 y13 y14 y15 y16 y17 y18 y19 y20 y21 y22 y23)) ∧ (∀ y0 y1 y2 y3 y4 y5 y6 y7 y8 y9 y10 y11 y12 y13 y14 y15 y16 y17 y18 y19 y20 y21 y22 y23, LeO (spec_StyleOk.j1 k y0 y1 y2 y3 y4 y5 y6 y7 y8 y9 y10 y11 y12 y13 y14 y15 y16 y17 y18 y19 y20 y21 y22 y23) (spec_StyleOk.j1 (k + 1) y0 y1 y2 y3 y4 y5 y6 y7 y8 y9 y10 y11 y12 y13 y14 y15 y16 y17 y18 y19 y20 y21 y22 y23))
  | 0 => ⟨fun _ _ _ _ _ _ _ _ _ _ _ _ _ _ _ _ _ _ _ _ _ _ _ _ r h => by simp [spec_StyleOk.j0] at h, fun _ _ _ _ _ _ _ _ _ _ _ _ _ _ _ _ _ _ _ _ _ _ _ _ r h => by simp [spec_StyleOk.j1] at h⟩
  | k + 1 => by
    obtain ⟨ih0, ih1⟩ := spec_StyleOk.mono_l k
    refine ⟨?_, ?_⟩
    · intro y0 y1 y2 y3 y4 y5 y6 y7 y8 y9 y10 y11 y12 y13 y14 y15 y16 y17 y18 y19 y20 y21 y22 y23
      unfold spec_StyleOk.j0
      repeat' first
      | (with_reducible exact ih0 _ _ _ _ _ _ _ _ _ _ _ _ _ _ _ _ _ _ _ _ _ _ _ _)
      | (with_reducible exact ih1 _ _ _ _ _ _ _ _ _ _ _ _ _ _ _ _ _ _ _ _ _ _ _ _)
      | (with_reducible exact LeO.refl _)
      | (with_reducible exact LeO.none _)
      | (with_reducible refine LeO.ite ?_ ?_)
      | (with_reducible refine LeO.bind ?_ (fun _ => ?_))
      | exact ih0 _ _ _ _ _ _ _ _ _ _ _ _ _ _ _ _ _ _ _ _ _ _ _ _
      | exact ih1 _ _ _ _ _ _ _ _ _ _ _ _ _ _ _ _ _ _ _ _ _ _ _ _
      | exact LeO.none _
      | refine LeO.ite ?_ ?_
      | refine LeO.bind ?_ (fun _ => ?_)
    · intro y0 y1 y2 y3 y4 y5 y6 y7 y8 y9 y10 y11 y12 y13 y14 y15 y16 y17 y18 y19 y20 y21 y22 y23
      unfold spec_StyleOk.j1
      repeat' first
      | (with_reducible exact ih0 _ _ _ _ _ _ _ _ _ _ _ _ _ _ _ _ _ _ _ _ _ _ _ _)
      | (with_reducible exact ih1 _ _ _ _ _ _ _ _ _ _ _ _ _ _ _ _ _ _ _ _ _ _ _ _)
      | (with_reducible exact LeO.refl _)
      | (with_reducible exact LeO.none _)
      | (with_reducible refine LeO.ite ?_ ?_)
      | (with_reducible refine LeO.bind ?_ (fun _ => ?_))
      | exact ih0 _ _ _ _ _ _ _ _ _ _ _ _ _ _ _ _ _ _ _ _ _ _ _ _
      | exact ih1 _ _ _ _ _ _ _ _ _ _ _ _ _ _ _ _ _ _ _ _ _ _ _ _
      | exact LeO.none _
      | refine LeO.ite ?_ ?_
      | refine LeO.bind ?_ (fun _ => ?_)
theorem spec_StyleOk.mono : ∀ a0 a1 a2 a3 a4 a5 a6 a7 a8 a9 a10 a11 a12 a13 a14 a15 a16 a17 a18 a19 a20 a21 a22 k, LeO (spec_StyleOk.f k a0 a1 a2 a3 a4 a5 a6 a7 a8 a9 a10 a11 a12 a13 a14 a15 a16 a17 a18 a19 a20 a21 a22) (spec_StyleOk.f (k + 1) a0 a1 a2 a3 a4 a5 a6 a7 a8 a9 a10 a11 a12 a13 a14 a15 a16 a17 a18 a19 a20 a21 a22) := by
  intro a0 a1 a2 a3 a4 a5 a6 a7 a8 a9 a10 a11 a12 a13 a14 a15 a16 a17 a18 a19 a20 a21 a22 k
  obtain ⟨ih0, ih1⟩ := spec_StyleOk.mono_l k
  unfold spec_StyleOk.f
  repeat' first
      | (with_reducible exact ih0 _ _ _ _ _ _ _ _ _ _ _ _ _ _ _ _ _ _ _ _ _ _ _ _)
      | (with_reducible exact ih1 _ _ _ _ _ _ _ _ _ _ _ _ _ _ _ _ _ _ _ _ _ _ _ _)
      | (with_reducible exact LeO.refl _)
      | (with_reducible exact LeO.none _)
      | (with_reducible refine LeO.ite ?_ ?_)
      | (with_reducible refine LeO.bind ?_ (fun _ => ?_))
      | exact ih0 _ _ _ _ _ _ _ _ _ _ _ _ _ _ _ _ _ _ _ _ _ _ _ _
      | exact ih1 _ _ _ _ _ _ _ _ _ _ _ _ _ _ _ _ _ _ _ _ _ _ _ _
      | exact LeO.none _
      | refine LeO.ite ?_ ?_
      | refine LeO.bind ?_ (fun _ => ?_)
set_option maxHeartbeats 8000000 in
set_option maxRecDepth 100000 in
theorem spec_StyleOk.calls (k : Nat) (a0_0 : Int) (a0_1 : Int) (a0_2 : Int) (a0_3 : Int) (a0_4 : Int) (a0_5 : Int) (a0_6 : Int) (a0_7 : Int) (a0_8 : Int) (a0_9 : Int) (a0_10 : Int) (a0_11 : Int) (a0_12 : Int) (a0_13 : Int) (a0_14 : Int) (a0_15 : Int) (a0_16 : Int) (a0_17 : Int) (a0_18 : Int) (a0_19 : Int) (a0_20 : Int) (a0_21 : Int) (a0_22 : Int) (r : Bool) (w : World) (h : spec_StyleOk.f k a0_0 a0_1 a0_2 a0_3 a0_4 a0_5 a0_6 a0_7 a0_8 a0_9 a0_10 a0_11 a0_12 a0_13 a0_14 a0_15 a0_16 a0_17 a0_18 a0_19 a0_20 a0_21 a0_22 = some r) :
    Calls Try.prog 39 #[.agg #[.int .i64 a0_0, .int .i64 a0_1, .int .i64 a0_2, .int .i64 a0_3, .int .i64 a0_4, .int .i64 a0_5, .int .i64 a0_6, .int .i64 a0_7, .int .i64 a0_8, .int .i64 a0_9, .int .i64 a0_10, .int .i64 a0_11, .int .i64 a0_12, .int .i64 a0_13, .int .i64 a0_14, .int .i64 a0_15, .int .i64 a0_16, .int .i64 a0_17, .int .i64 a0_18, .int .i64 a0_19, .int .i64 a0_20, .int .i64 a0_21, .int .i64 a0_22]] w fun e w' => e = .returned (.bool r) ∧ Below w.heap.size w w' := by
  have hu64 := Try.underlying64
  have hu26 := Try.underlying26
  have HB := Aside0.mk (Below.refl w.heap.size w)
  have H : (if a0_0 < 0 then (spec_StyleOk.j0 k true a0_0 a0_1 a0_2 a0_3 a0_4 a0_5 a0_6 a0_7 a0_8 a0_9 a0_10 a0_11 a0_12 a0_13 a0_14 a0_15 a0_16 a0_17 a0_18 a0_19 a0_20 a0_21 a0_22) else (if a0_0 > 1073741823 then (spec_StyleOk.j0 k true a0_0 a0_1 a0_2 a0_3 a0_4 a0_5 a0_6 a0_7 a0_8 a0_9 a0_10 a0_11 a0_12 a0_13 a0_14 a0_15 a0_16 a0_17 a0_18 a0_19 a0_20 a0_21 a0_22) else (if a0_1 < 0 then (spec_StyleOk.j0 k true a0_0 a0_1 a0_2 a0_3 a0_4 a0_5 a0_6 a0_7 a0_8 a0_9 a0_10 a0_11 a0_12 a0_13 a0_14 a0_15 a0_16 a0_17 a0_18 a0_19 a0_20 a0_21 a0_22) else (if a0_1 > 1073741823 then (spec_StyleOk.j0 k true a0_0 a0_1 a0_2 a0_3 a0_4 a0_5 a0_6 a0_7 a0_8 a0_9 a0_10 a0_11 a0_12 a0_13 a0_14 a0_15 a0_16 a0_17 a0_18 a0_19 a0_20 a0_21 a0_22) else (if a0_2 < 0 then (spec_StyleOk.j0 k true a0_0 a0_1 a0_2 a0_3 a0_4 a0_5 a0_6 a0_7 a0_8 a0_9 a0_10 a0_11 a0_12 a0_13 a0_14 a0_15 a0_16 a0_17 a0_18 a0_19 a0_20 a0_21 a0_22) else (if a0_2 > 4 then (spec_StyleOk.j0 k true a0_0 a0_1 a0_2 a0_3 a0_4 a0_5 a0_6 a0_7 a0_8 a0_9 a0_10 a0_11 a0_12 a0_13 a0_14 a0_15 a0_16 a0_17 a0_18 a0_19 a0_20 a0_21 a0_22) else (if a0_3 < 0 then (spec_StyleOk.j0 k true a0_0 a0_1 a0_2 a0_3 a0_4 a0_5 a0_6 a0_7 a0_8 a0_9 a0_10 a0_11 a0_12 a0_13 a0_14 a0_15 a0_16 a0_17 a0_18 a0_19 a0_20 a0_21 a0_22) else (spec_StyleOk.j0 k (decide (a0_3 > 10000)) a0_0 a0_1 a0_2 a0_3 a0_4 a0_5 a0_6 a0_7 a0_8 a0_9 a0_10 a0_11 a0_12 a0_13 a0_14 a0_15 a0_16 a0_17 a0_18 a0_19 a0_20 a0_21 a0_22)))))))) = some r := h
  clear h
  have HC2 := Aside0.mk H
  clear H
  go_enter Try.func39, Try.ntmps39
  go_upto_region 1 with (first | ((with_reducible refine gate_dst (N := 1) rfl ?_); refine box_event ?hg (N := 1) ?hd (cs := #[.int .i64 a0_0, .int .i64 a0_1, .int .i64 a0_2, .int .i64 a0_3, .int .i64 a0_4, .int .i64 a0_5, .int .i64 a0_6, .int .i64 a0_7, .int .i64 a0_8, .int .i64 a0_9, .int .i64 a0_10, .int .i64 a0_11, .int .i64 a0_12, .int .i64 a0_13, .int .i64 a0_14, .int .i64 a0_15, .int .i64 a0_16, .int .i64 a0_17, .int .i64 a0_18, .int .i64 a0_19, .int .i64 a0_20, .int .i64 a0_21, .int .i64 a0_22]) (t := 64) ?hr ?_; (case hd => rfl); (case hg => rfl); (case hr => first | (go_simp; done) | (go_simp; rfl)); intro gb107 hg w3 hbox hb; have n0_ := Aside0.mk (below_step (by repeat (first | (with_reducible first | exact HB.out | apply below_alloc | apply pw_below_drewN | apply below_drew1) | exact HB.out)) hb); have n1_ := Aside0.mk (hbox); have n2_ := Aside0.mk ((by rw [hg]; exact (below_size (by repeat (first | (with_reducible first | exact HB.out | apply below_alloc | apply pw_below_drewN | apply below_drew1) | exact HB.out))) : w.heap.size ≤ gb107)); have n3_ := Aside0.mk ((by rw [hg]; exact (below_size (by repeat (first | (with_reducible first | exact HB.out | apply below_alloc | apply pw_below_drewN | apply below_drew1) | exact HB.out))) : w.heap.size ≤ gb107)); clear HB; have HB := n0_; have BK107 := n1_; have GW107 := n2_; have GE107 := n3_; clear n0_ n1_ n2_ n3_; clear hb hbox hg))
  (try simp only [Act.put, List.setIfInBounds_toArray, List.set_cons_zero, List.set_cons_succ])
  go_cut [40] (fun v40 wc => ∃ (kq : Nat) (x40_1 : Bool), v40 = .bool x40_1 ∧ Aside0 (spec_StyleOk.j0 kq x40_1 a0_0 a0_1 a0_2 a0_3 a0_4 a0_5 a0_6 a0_7 a0_8 a0_9 a0_10 a0_11 a0_12 a0_13 a0_14 a0_15 a0_16 a0_17 a0_18 a0_19 a0_20 a0_21 a0_22 = some r) ∧ Aside0 (kq ≤ k) ∧ Aside0 (wc.heap[gb107]? = some (.cells #[.int .i64 a0_0, .int .i64 a0_1, .int .i64 a0_2, .int .i64 a0_3, .int .i64 a0_4, .int .i64 a0_5, .int .i64 a0_6, .int .i64 a0_7, .int .i64 a0_8, .int .i64 a0_9, .int .i64 a0_10, .int .i64 a0_11, .int .i64 a0_12, .int .i64 a0_13, .int .i64 a0_14, .int .i64 a0_15, .int .i64 a0_16, .int .i64 a0_17, .int .i64 a0_18, .int .i64 a0_19, .int .i64 a0_20, .int .i64 a0_21, .int .i64 a0_22] 64 (0, 0))) ∧ Aside0 (Below w.heap.size w wc))
  case first =>
    have H := HC2.out
    clear HC2
    by_cases c4 : a0_0 < 0
    · rw [if_pos c4] at H
      have c4b0 : decide (a0_0 < 0) = true := decide_eq_true c4
      clear c4
      (first | rw [c4b0] | (simp only [i64_w, i32_w]; rw [c4b0]) | skip)
      have H' := Aside0.mk H
      clear H
      have hcz5_0 : w3.cell? ⟨gb107, 0, none⟩ = some (.int .i64 a0_0) := (blk_cell BK107.out 0).trans rfl
      have hcz5_1 : w3.cell? ⟨gb107, 1, none⟩ = some (.int .i64 a0_1) := (blk_cell BK107.out 1).trans rfl
      have hcz5_2 : w3.cell? ⟨gb107, 2, none⟩ = some (.int .i64 a0_2) := (blk_cell BK107.out 2).trans rfl
      have hcz5_3 : w3.cell? ⟨gb107, 3, none⟩ = some (.int .i64 a0_3) := (blk_cell BK107.out 3).trans rfl
      have hcz5_4 : w3.cell? ⟨gb107, 4, none⟩ = some (.int .i64 a0_4) := (blk_cell BK107.out 4).trans rfl
      have hcz5_5 : w3.cell? ⟨gb107, 5, none⟩ = some (.int .i64 a0_5) := (blk_cell BK107.out 5).trans rfl
      have hcz5_6 : w3.cell? ⟨gb107, 6, none⟩ = some (.int .i64 a0_6) := (blk_cell BK107.out 6).trans rfl
      have hcz5_7 : w3.cell? ⟨gb107, 7, none⟩ = some (.int .i64 a0_7) := (blk_cell BK107.out 7).trans rfl
      have hcz5_8 : w3.cell? ⟨gb107, 8, none⟩ = some (.int .i64 a0_8) := (blk_cell BK107.out 8).trans rfl
      have hcz5_9 : w3.cell? ⟨gb107, 9, none⟩ = some (.int .i64 a0_9) := (blk_cell BK107.out 9).trans rfl
      have hcz5_10 : w3.cell? ⟨gb107, 10, none⟩ = some (.int .i64 a0_10) := (blk_cell BK107.out 10).trans rfl
      have hcz5_11 : w3.cell? ⟨gb107, 11, none⟩ = some (.int .i64 a0_11) := (blk_cell BK107.out 11).trans rfl
      have hcz5_12 : w3.cell? ⟨gb107, 12, none⟩ = some (.int .i64 a0_12) := (blk_cell BK107.out 12).trans rfl
      have hcz5_13 : w3.cell? ⟨gb107, 13, none⟩ = some (.int .i64 a0_13) := (blk_cell BK107.out 13).trans rfl
      have hcz5_14 : w3.cell? ⟨gb107, 14, none⟩ = some (.int .i64 a0_14) := (blk_cell BK107.out 14).trans rfl
      have hcz5_15 : w3.cell? ⟨gb107, 15, none⟩ = some (.int .i64 a0_15) := (blk_cell BK107.out 15).trans rfl
      have hcz5_16 : w3.cell? ⟨gb107, 16, none⟩ = some (.int .i64 a0_16) := (blk_cell BK107.out 16).trans rfl
      have hcz5_17 : w3.cell? ⟨gb107, 17, none⟩ = some (.int .i64 a0_17) := (blk_cell BK107.out 17).trans rfl
      have hcz5_18 : w3.cell? ⟨gb107, 18, none⟩ = some (.int .i64 a0_18) := (blk_cell BK107.out 18).trans rfl
      have hcz5_19 : w3.cell? ⟨gb107, 19, none⟩ = some (.int .i64 a0_19) := (blk_cell BK107.out 19).trans rfl
      have hcz5_20 : w3.cell? ⟨gb107, 20, none⟩ = some (.int .i64 a0_20) := (blk_cell BK107.out 20).trans rfl
      have hcz5_21 : w3.cell? ⟨gb107, 21, none⟩ = some (.int .i64 a0_21) := (blk_cell BK107.out 21).trans rfl
      have hcz5_22 : w3.cell? ⟨gb107, 22, none⟩ = some (.int .i64 a0_22) := (blk_cell BK107.out 22).trans rfl
      have hfz5_0 := blk_frozen BK107.out 0
      have hfz5_1 := blk_frozen BK107.out 1
      have hfz5_2 := blk_frozen BK107.out 2
      have hfz5_3 := blk_frozen BK107.out 3
      have hfz5_4 := blk_frozen BK107.out 4
      have hfz5_5 := blk_frozen BK107.out 5
      have hfz5_6 := blk_frozen BK107.out 6
      have hfz5_7 := blk_frozen BK107.out 7
      have hfz5_8 := blk_frozen BK107.out 8
      have hfz5_9 := blk_frozen BK107.out 9
      have hfz5_10 := blk_frozen BK107.out 10
      have hfz5_11 := blk_frozen BK107.out 11
      have hfz5_12 := blk_frozen BK107.out 12
      have hfz5_13 := blk_frozen BK107.out 13
      have hfz5_14 := blk_frozen BK107.out 14
      have hfz5_15 := blk_frozen BK107.out 15
      have hfz5_16 := blk_frozen BK107.out 16
      have hfz5_17 := blk_frozen BK107.out 17
      have hfz5_18 := blk_frozen BK107.out 18
      have hfz5_19 := blk_frozen BK107.out 19
      have hfz5_20 := blk_frozen BK107.out 20
      have hfz5_21 := blk_frozen BK107.out 21
      have hfz5_22 := blk_frozen BK107.out 22
      go_wp2
      go_meet
      case rel => exact ⟨_, (true), (by first | rfl | (simp; done) | (simp [*]; done)), H', ⟨by first | omega | exact Nat.le_refl _⟩, ⟨by (with_reducible repeat (first | refine blk_drewN ?_ _ | refine blk_drew ?_ | refine blk_alloc ?_ _)); exact BK107.out⟩, ⟨by repeat (first | (with_reducible first | exact HB.out | apply below_alloc | apply pw_below_drewN | apply below_drew1 | refine below_set ?_ GE107.out) | exact HB.out)⟩⟩
    · rw [if_neg c4] at H
      have c4b0 : decide (a0_0 < 0) = false := decide_eq_false c4
      clear c4
      (first | rw [c4b0] | (simp only [i64_w, i32_w]; rw [c4b0]) | skip)
      by_cases c6 : a0_0 > 1073741823
      · rw [if_pos c6] at H
        have c6b0 : decide (1073741823 < a0_0) = true := decide_eq_true c6
        clear c6
        have H' := Aside0.mk H
        clear H
        have hcz7_0 : w3.cell? ⟨gb107, 0, none⟩ = some (.int .i64 a0_0) := (blk_cell BK107.out 0).trans rfl
        have hcz7_1 : w3.cell? ⟨gb107, 1, none⟩ = some (.int .i64 a0_1) := (blk_cell BK107.out 1).trans rfl
        have hcz7_2 : w3.cell? ⟨gb107, 2, none⟩ = some (.int .i64 a0_2) := (blk_cell BK107.out 2).trans rfl
        have hcz7_3 : w3.cell? ⟨gb107, 3, none⟩ = some (.int .i64 a0_3) := (blk_cell BK107.out 3).trans rfl
        have hcz7_4 : w3.cell? ⟨gb107, 4, none⟩ = some (.int .i64 a0_4) := (blk_cell BK107.out 4).trans rfl
        have hcz7_5 : w3.cell? ⟨gb107, 5, none⟩ = some (.int .i64 a0_5) := (blk_cell BK107.out 5).trans rfl
        have hcz7_6 : w3.cell? ⟨gb107, 6, none⟩ = some (.int .i64 a0_6) := (blk_cell BK107.out 6).trans rfl
        have hcz7_7 : w3.cell? ⟨gb107, 7, none⟩ = some (.int .i64 a0_7) := (blk_cell BK107.out 7).trans rfl
        have hcz7_8 : w3.cell? ⟨gb107, 8, none⟩ = some (.int .i64 a0_8) := (blk_cell BK107.out 8).trans rfl
        have hcz7_9 : w3.cell? ⟨gb107, 9, none⟩ = some (.int .i64 a0_9) := (blk_cell BK107.out 9).trans rfl
        have hcz7_10 : w3.cell? ⟨gb107, 10, none⟩ = some (.int .i64 a0_10) := (blk_cell BK107.out 10).trans rfl
        have hcz7_11 : w3.cell? ⟨gb107, 11, none⟩ = some (.int .i64 a0_11) := (blk_cell BK107.out 11).trans rfl
        have hcz7_12 : w3.cell? ⟨gb107, 12, none⟩ = some (.int .i64 a0_12) := (blk_cell BK107.out 12).trans rfl
        have hcz7_13 : w3.cell? ⟨gb107, 13, none⟩ = some (.int .i64 a0_13) := (blk_cell BK107.out 13).trans rfl
        have hcz7_14 : w3.cell? ⟨gb107, 14, none⟩ = some (.int .i64 a0_14) := (blk_cell BK107.out 14).trans rfl
        have hcz7_15 : w3.cell? ⟨gb107, 15, none⟩ = some (.int .i64 a0_15) := (blk_cell BK107.out 15).trans rfl
        have hcz7_16 : w3.cell? ⟨gb107, 16, none⟩ = some (.int .i64 a0_16) := (blk_cell BK107.out 16).trans rfl
        have hcz7_17 : w3.cell? ⟨gb107, 17, none⟩ = some (.int .i64 a0_17) := (blk_cell BK107.out 17).trans rfl
        have hcz7_18 : w3.cell? ⟨gb107, 18, none⟩ = some (.int .i64 a0_18) := (blk_cell BK107.out 18).trans rfl
        have hcz7_19 : w3.cell? ⟨gb107, 19, none⟩ = some (.int .i64 a0_19) := (blk_cell BK107.out 19).trans rfl
        have hcz7_20 : w3.cell? ⟨gb107, 20, none⟩ = some (.int .i64 a0_20) := (blk_cell BK107.out 20).trans rfl
        have hcz7_21 : w3.cell? ⟨gb107, 21, none⟩ = some (.int .i64 a0_21) := (blk_cell BK107.out 21).trans rfl
        have hcz7_22 : w3.cell? ⟨gb107, 22, none⟩ = some (.int .i64 a0_22) := (blk_cell BK107.out 22).trans rfl
        have hfz7_0 := blk_frozen BK107.out 0
        have hfz7_1 := blk_frozen BK107.out 1
        have hfz7_2 := blk_frozen BK107.out 2
        have hfz7_3 := blk_frozen BK107.out 3
        have hfz7_4 := blk_frozen BK107.out 4
        have hfz7_5 := blk_frozen BK107.out 5
        have hfz7_6 := blk_frozen BK107.out 6
        have hfz7_7 := blk_frozen BK107.out 7
        have hfz7_8 := blk_frozen BK107.out 8
        have hfz7_9 := blk_frozen BK107.out 9
        have hfz7_10 := blk_frozen BK107.out 10
        have hfz7_11 := blk_frozen BK107.out 11
        have hfz7_12 := blk_frozen BK107.out 12
        have hfz7_13 := blk_frozen BK107.out 13
        have hfz7_14 := blk_frozen BK107.out 14
        have hfz7_15 := blk_frozen BK107.out 15
        have hfz7_16 := blk_frozen BK107.out 16
        have hfz7_17 := blk_frozen BK107.out 17
        have hfz7_18 := blk_frozen BK107.out 18
        have hfz7_19 := blk_frozen BK107.out 19
        have hfz7_20 := blk_frozen BK107.out 20
        have hfz7_21 := blk_frozen BK107.out 21
        have hfz7_22 := blk_frozen BK107.out 22
        go_wp2
        go_meet
        case rel => exact ⟨_, (true), (by first | rfl | (simp; done) | (simp [*]; done)), H', ⟨by first | omega | exact Nat.le_refl _⟩, ⟨by (with_reducible repeat (first | refine blk_drewN ?_ _ | refine blk_drew ?_ | refine blk_alloc ?_ _)); exact BK107.out⟩, ⟨by repeat (first | (with_reducible first | exact HB.out | apply below_alloc | apply pw_below_drewN | apply below_drew1 | refine below_set ?_ GE107.out) | exact HB.out)⟩⟩
      · rw [if_neg c6] at H
        have c6b0 : decide (1073741823 < a0_0) = false := decide_eq_false c6
        clear c6
        by_cases c8 : a0_1 < 0
        · rw [if_pos c8] at H
          have c8b0 : decide (a0_1 < 0) = true := decide_eq_true c8
          clear c8
          have H' := Aside0.mk H
          clear H
          have hcz9_0 : w3.cell? ⟨gb107, 0, none⟩ = some (.int .i64 a0_0) := (blk_cell BK107.out 0).trans rfl
          have hcz9_1 : w3.cell? ⟨gb107, 1, none⟩ = some (.int .i64 a0_1) := (blk_cell BK107.out 1).trans rfl
          have hcz9_2 : w3.cell? ⟨gb107, 2, none⟩ = some (.int .i64 a0_2) := (blk_cell BK107.out 2).trans rfl
          have hcz9_3 : w3.cell? ⟨gb107, 3, none⟩ = some (.int .i64 a0_3) := (blk_cell BK107.out 3).trans rfl
          have hcz9_4 : w3.cell? ⟨gb107, 4, none⟩ = some (.int .i64 a0_4) := (blk_cell BK107.out 4).trans rfl
          have hcz9_5 : w3.cell? ⟨gb107, 5, none⟩ = some (.int .i64 a0_5) := (blk_cell BK107.out 5).trans rfl
          have hcz9_6 : w3.cell? ⟨gb107, 6, none⟩ = some (.int .i64 a0_6) := (blk_cell BK107.out 6).trans rfl
          have hcz9_7 : w3.cell? ⟨gb107, 7, none⟩ = some (.int .i64 a0_7) := (blk_cell BK107.out 7).trans rfl
          have hcz9_8 : w3.cell? ⟨gb107, 8, none⟩ = some (.int .i64 a0_8) := (blk_cell BK107.out 8).trans rfl
          have hcz9_9 : w3.cell? ⟨gb107, 9, none⟩ = some (.int .i64 a0_9) := (blk_cell BK107.out 9).trans rfl
          have hcz9_10 : w3.cell? ⟨gb107, 10, none⟩ = some (.int .i64 a0_10) := (blk_cell BK107.out 10).trans rfl
          have hcz9_11 : w3.cell? ⟨gb107, 11, none⟩ = some (.int .i64 a0_11) := (blk_cell BK107.out 11).trans rfl
          have hcz9_12 : w3.cell? ⟨gb107, 12, none⟩ = some (.int .i64 a0_12) := (blk_cell BK107.out 12).trans rfl
          have hcz9_13 : w3.cell? ⟨gb107, 13, none⟩ = some (.int .i64 a0_13) := (blk_cell BK107.out 13).trans rfl
          have hcz9_14 : w3.cell? ⟨gb107, 14, none⟩ = some (.int .i64 a0_14) := (blk_cell BK107.out 14).trans rfl
          have hcz9_15 : w3.cell? ⟨gb107, 15, none⟩ = some (.int .i64 a0_15) := (blk_cell BK107.out 15).trans rfl
          have hcz9_16 : w3.cell? ⟨gb107, 16, none⟩ = some (.int .i64 a0_16) := (blk_cell BK107.out 16).trans rfl
          have hcz9_17 : w3.cell? ⟨gb107, 17, none⟩ = some (.int .i64 a0_17) := (blk_cell BK107.out 17).trans rfl
          have hcz9_18 : w3.cell? ⟨gb107, 18, none⟩ = some (.int .i64 a0_18) := (blk_cell BK107.out 18).trans rfl
          have hcz9_19 : w3.cell? ⟨gb107, 19, none⟩ = some (.int .i64 a0_19) := (blk_cell BK107.out 19).trans rfl
          have hcz9_20 : w3.cell? ⟨gb107, 20, none⟩ = some (.int .i64 a0_20) := (blk_cell BK107.out 20).trans rfl
          have hcz9_21 : w3.cell? ⟨gb107, 21, none⟩ = some (.int .i64 a0_21) := (blk_cell BK107.out 21).trans rfl
          have hcz9_22 : w3.cell? ⟨gb107, 22, none⟩ = some (.int .i64 a0_22) := (blk_cell BK107.out 22).trans rfl
          have hfz9_0 := blk_frozen BK107.out 0
          have hfz9_1 := blk_frozen BK107.out 1
          have hfz9_2 := blk_frozen BK107.out 2
          have hfz9_3 := blk_frozen BK107.out 3
          have hfz9_4 := blk_frozen BK107.out 4
          have hfz9_5 := blk_frozen BK107.out 5
          have hfz9_6 := blk_frozen BK107.out 6
          have hfz9_7 := blk_frozen BK107.out 7
          have hfz9_8 := blk_frozen BK107.out 8
          have hfz9_9 := blk_frozen BK107.out 9
          have hfz9_10 := blk_frozen BK107.out 10
          have hfz9_11 := blk_frozen BK107.out 11
          have hfz9_12 := blk_frozen BK107.out 12
          have hfz9_13 := blk_frozen BK107.out 13
          have hfz9_14 := blk_frozen BK107.out 14
          have hfz9_15 := blk_frozen BK107.out 15
          have hfz9_16 := blk_frozen BK107.out 16
          have hfz9_17 := blk_frozen BK107.out 17
          have hfz9_18 := blk_frozen BK107.out 18
          have hfz9_19 := blk_frozen BK107.out 19
          have hfz9_20 := blk_frozen BK107.out 20
          have hfz9_21 := blk_frozen BK107.out 21
          have hfz9_22 := blk_frozen BK107.out 22
          go_wp2
          go_meet
          case rel => exact ⟨_, (true), (by first | rfl | (simp; done) | (simp [*]; done)), H', ⟨by first | omega | exact Nat.le_refl _⟩, ⟨by (with_reducible repeat (first | refine blk_drewN ?_ _ | refine blk_drew ?_ | refine blk_alloc ?_ _)); exact BK107.out⟩, ⟨by repeat (first | (with_reducible first | exact HB.out | apply below_alloc | apply pw_below_drewN | apply below_drew1 | refine below_set ?_ GE107.out) | exact HB.out)⟩⟩
        · rw [if_neg c8] at H
          have c8b0 : decide (a0_1 < 0) = false := decide_eq_false c8
          clear c8
          by_cases c10 : a0_1 > 1073741823
          · rw [if_pos c10] at H
            have c10b0 : decide (1073741823 < a0_1) = true := decide_eq_true c10
            clear c10
            have H' := Aside0.mk H
            clear H
            have hcz11_0 : w3.cell? ⟨gb107, 0, none⟩ = some (.int .i64 a0_0) := (blk_cell BK107.out 0).trans rfl
            have hcz11_1 : w3.cell? ⟨gb107, 1, none⟩ = some (.int .i64 a0_1) := (blk_cell BK107.out 1).trans rfl
            have hcz11_2 : w3.cell? ⟨gb107, 2, none⟩ = some (.int .i64 a0_2) := (blk_cell BK107.out 2).trans rfl
            have hcz11_3 : w3.cell? ⟨gb107, 3, none⟩ = some (.int .i64 a0_3) := (blk_cell BK107.out 3).trans rfl
            have hcz11_4 : w3.cell? ⟨gb107, 4, none⟩ = some (.int .i64 a0_4) := (blk_cell BK107.out 4).trans rfl
            have hcz11_5 : w3.cell? ⟨gb107, 5, none⟩ = some (.int .i64 a0_5) := (blk_cell BK107.out 5).trans rfl
            have hcz11_6 : w3.cell? ⟨gb107, 6, none⟩ = some (.int .i64 a0_6) := (blk_cell BK107.out 6).trans rfl
            have hcz11_7 : w3.cell? ⟨gb107, 7, none⟩ = some (.int .i64 a0_7) := (blk_cell BK107.out 7).trans rfl
            have hcz11_8 : w3.cell? ⟨gb107, 8, none⟩ = some (.int .i64 a0_8) := (blk_cell BK107.out 8).trans rfl
            have hcz11_9 : w3.cell? ⟨gb107, 9, none⟩ = some (.int .i64 a0_9) := (blk_cell BK107.out 9).trans rfl
            have hcz11_10 : w3.cell? ⟨gb107, 10, none⟩ = some (.int .i64 a0_10) := (blk_cell BK107.out 10).trans rfl
            have hcz11_11 : w3.cell? ⟨gb107, 11, none⟩ = some (.int .i64 a0_11) := (blk_cell BK107.out 11).trans rfl
            have hcz11_12 : w3.cell? ⟨gb107, 12, none⟩ = some (.int .i64 a0_12) := (blk_cell BK107.out 12).trans rfl
            have hcz11_13 : w3.cell? ⟨gb107, 13, none⟩ = some (.int .i64 a0_13) := (blk_cell BK107.out 13).trans rfl
            have hcz11_14 : w3.cell? ⟨gb107, 14, none⟩ = some (.int .i64 a0_14) := (blk_cell BK107.out 14).trans rfl
            have hcz11_15 : w3.cell? ⟨gb107, 15, none⟩ = some (.int .i64 a0_15) := (blk_cell BK107.out 15).trans rfl
            have hcz11_16 : w3.cell? ⟨gb107, 16, none⟩ = some (.int .i64 a0_16) := (blk_cell BK107.out 16).trans rfl
            have hcz11_17 : w3.cell? ⟨gb107, 17, none⟩ = some (.int .i64 a0_17) := (blk_cell BK107.out 17).trans rfl
            have hcz11_18 : w3.cell? ⟨gb107, 18, none⟩ = some (.int .i64 a0_18) := (blk_cell BK107.out 18).trans rfl
            have hcz11_19 : w3.cell? ⟨gb107, 19, none⟩ = some (.int .i64 a0_19) := (blk_cell BK107.out 19).trans rfl
            have hcz11_20 : w3.cell? ⟨gb107, 20, none⟩ = some (.int .i64 a0_20) := (blk_cell BK107.out 20).trans rfl
            have hcz11_21 : w3.cell? ⟨gb107, 21, none⟩ = some (.int .i64 a0_21) := (blk_cell BK107.out 21).trans rfl
            have hcz11_22 : w3.cell? ⟨gb107, 22, none⟩ = some (.int .i64 a0_22) := (blk_cell BK107.out 22).trans rfl
            have hfz11_0 := blk_frozen BK107.out 0
            have hfz11_1 := blk_frozen BK107.out 1
            have hfz11_2 := blk_frozen BK107.out 2
            have hfz11_3 := blk_frozen BK107.out 3
            have hfz11_4 := blk_frozen BK107.out 4
            have hfz11_5 := blk_frozen BK107.out 5
            have hfz11_6 := blk_frozen BK107.out 6
            have hfz11_7 := blk_frozen BK107.out 7
            have hfz11_8 := blk_frozen BK107.out 8
            have hfz11_9 := blk_frozen BK107.out 9
            have hfz11_10 := blk_frozen BK107.out 10
            have hfz11_11 := blk_frozen BK107.out 11
            have hfz11_12 := blk_frozen BK107.out 12
            have hfz11_13 := blk_frozen BK107.out 13
            have hfz11_14 := blk_frozen BK107.out 14
            have hfz11_15 := blk_frozen BK107.out 15
            have hfz11_16 := blk_frozen BK107.out 16
            have hfz11_17 := blk_frozen BK107.out 17
            have hfz11_18 := blk_frozen BK107.out 18
            have hfz11_19 := blk_frozen BK107.out 19
            have hfz11_20 := blk_frozen BK107.out 20
            have hfz11_21 := blk_frozen BK107.out 21
            have hfz11_22 := blk_frozen BK107.out 22
            go_wp2
            go_meet
            case rel => exact ⟨_, (true), (by first | rfl | (simp; done) | (simp [*]; done)), H', ⟨by first | omega | exact Nat.le_refl _⟩, ⟨by (with_reducible repeat (first | refine blk_drewN ?_ _ | refine blk_drew ?_ | refine blk_alloc ?_ _)); exact BK107.out⟩, ⟨by repeat (first | (with_reducible first | exact HB.out | apply below_alloc | apply pw_below_drewN | apply below_drew1 | refine below_set ?_ GE107.out) | exact HB.out)⟩⟩
          · rw [if_neg c10] at H
            have c10b0 : decide (1073741823 < a0_1) = false := decide_eq_false c10
            clear c10
            by_cases c12 : a0_2 < 0
            · rw [if_pos c12] at H
              have c12b0 : decide (a0_2 < 0) = true := decide_eq_true c12
              clear c12
              have H' := Aside0.mk H
              clear H
              have hcz13_0 : w3.cell? ⟨gb107, 0, none⟩ = some (.int .i64 a0_0) := (blk_cell BK107.out 0).trans rfl
              have hcz13_1 : w3.cell? ⟨gb107, 1, none⟩ = some (.int .i64 a0_1) := (blk_cell BK107.out 1).trans rfl
              have hcz13_2 : w3.cell? ⟨gb107, 2, none⟩ = some (.int .i64 a0_2) := (blk_cell BK107.out 2).trans rfl
              have hcz13_3 : w3.cell? ⟨gb107, 3, none⟩ = some (.int .i64 a0_3) := (blk_cell BK107.out 3).trans rfl
              have hcz13_4 : w3.cell? ⟨gb107, 4, none⟩ = some (.int .i64 a0_4) := (blk_cell BK107.out 4).trans rfl
              have hcz13_5 : w3.cell? ⟨gb107, 5, none⟩ = some (.int .i64 a0_5) := (blk_cell BK107.out 5).trans rfl
              have hcz13_6 : w3.cell? ⟨gb107, 6, none⟩ = some (.int .i64 a0_6) := (blk_cell BK107.out 6).trans rfl
              have hcz13_7 : w3.cell? ⟨gb107, 7, none⟩ = some (.int .i64 a0_7) := (blk_cell BK107.out 7).trans rfl
              have hcz13_8 : w3.cell? ⟨gb107, 8, none⟩ = some (.int .i64 a0_8) := (blk_cell BK107.out 8).trans rfl
              have hcz13_9 : w3.cell? ⟨gb107, 9, none⟩ = some (.int .i64 a0_9) := (blk_cell BK107.out 9).trans rfl
              have hcz13_10 : w3.cell? ⟨gb107, 10, none⟩ = some (.int .i64 a0_10) := (blk_cell BK107.out 10).trans rfl
              have hcz13_11 : w3.cell? ⟨gb107, 11, none⟩ = some (.int .i64 a0_11) := (blk_cell BK107.out 11).trans rfl
              have hcz13_12 : w3.cell? ⟨gb107, 12, none⟩ = some (.int .i64 a0_12) := (blk_cell BK107.out 12).trans rfl
              have hcz13_13 : w3.cell? ⟨gb107, 13, none⟩ = some (.int .i64 a0_13) := (blk_cell BK107.out 13).trans rfl
              have hcz13_14 : w3.cell? ⟨gb107, 14, none⟩ = some (.int .i64 a0_14) := (blk_cell BK107.out 14).trans rfl
              have hcz13_15 : w3.cell? ⟨gb107, 15, none⟩ = some (.int .i64 a0_15) := (blk_cell BK107.out 15).trans rfl
              have hcz13_16 : w3.cell? ⟨gb107, 16, none⟩ = some (.int .i64 a0_16) := (blk_cell BK107.out 16).trans rfl
              have hcz13_17 : w3.cell? ⟨gb107, 17, none⟩ = some (.int .i64 a0_17) := (blk_cell BK107.out 17).trans rfl
              have hcz13_18 : w3.cell? ⟨gb107, 18, none⟩ = some (.int .i64 a0_18) := (blk_cell BK107.out 18).trans rfl
              have hcz13_19 : w3.cell? ⟨gb107, 19, none⟩ = some (.int .i64 a0_19) := (blk_cell BK107.out 19).trans rfl
              have hcz13_20 : w3.cell? ⟨gb107, 20, none⟩ = some (.int .i64 a0_20) := (blk_cell BK107.out 20).trans rfl
              have hcz13_21 : w3.cell? ⟨gb107, 21, none⟩ = some (.int .i64 a0_21) := (blk_cell BK107.out 21).trans rfl
              have hcz13_22 : w3.cell? ⟨gb107, 22, none⟩ = some (.int .i64 a0_22) := (blk_cell BK107.out 22).trans rfl
              have hfz13_0 := blk_frozen BK107.out 0
              have hfz13_1 := blk_frozen BK107.out 1
              have hfz13_2 := blk_frozen BK107.out 2
              have hfz13_3 := blk_frozen BK107.out 3
              have hfz13_4 := blk_frozen BK107.out 4
              have hfz13_5 := blk_frozen BK107.out 5
              have hfz13_6 := blk_frozen BK107.out 6
              have hfz13_7 := blk_frozen BK107.out 7
              have hfz13_8 := blk_frozen BK107.out 8
              have hfz13_9 := blk_frozen BK107.out 9
              have hfz13_10 := blk_frozen BK107.out 10
              have hfz13_11 := blk_frozen BK107.out 11
              have hfz13_12 := blk_frozen BK107.out 12
              have hfz13_13 := blk_frozen BK107.out 13
              have hfz13_14 := blk_frozen BK107.out 14
              have hfz13_15 := blk_frozen BK107.out 15
              have hfz13_16 := blk_frozen BK107.out 16
              have hfz13_17 := blk_frozen BK107.out 17
              have hfz13_18 := blk_frozen BK107.out 18
              have hfz13_19 := blk_frozen BK107.out 19
              have hfz13_20 := blk_frozen BK107.out 20
              have hfz13_21 := blk_frozen BK107.out 21
              have hfz13_22 := blk_frozen BK107.out 22
              go_wp2
              go_meet
              case rel => exact ⟨_, (true), (by first | rfl | (simp; done) | (simp [*]; done)), H', ⟨by first | omega | exact Nat.le_refl _⟩, ⟨by (with_reducible repeat (first | refine blk_drewN ?_ _ | refine blk_drew ?_ | refine blk_alloc ?_ _)); exact BK107.out⟩, ⟨by repeat (first | (with_reducible first | exact HB.out | apply below_alloc | apply pw_below_drewN | apply below_drew1 | refine below_set ?_ GE107.out) | exact HB.out)⟩⟩
            · rw [if_neg c12] at H
              have c12b0 : decide (a0_2 < 0) = false := decide_eq_false c12
              clear c12
              by_cases c14 : a0_2 > 4
              · rw [if_pos c14] at H
                have c14b0 : decide (4 < a0_2) = true := decide_eq_true c14
                clear c14
                have H' := Aside0.mk H
                clear H
                have hcz15_0 : w3.cell? ⟨gb107, 0, none⟩ = some (.int .i64 a0_0) := (blk_cell BK107.out 0).trans rfl
                have hcz15_1 : w3.cell? ⟨gb107, 1, none⟩ = some (.int .i64 a0_1) := (blk_cell BK107.out 1).trans rfl
                have hcz15_2 : w3.cell? ⟨gb107, 2, none⟩ = some (.int .i64 a0_2) := (blk_cell BK107.out 2).trans rfl
                have hcz15_3 : w3.cell? ⟨gb107, 3, none⟩ = some (.int .i64 a0_3) := (blk_cell BK107.out 3).trans rfl
                have hcz15_4 : w3.cell? ⟨gb107, 4, none⟩ = some (.int .i64 a0_4) := (blk_cell BK107.out 4).trans rfl
                have hcz15_5 : w3.cell? ⟨gb107, 5, none⟩ = some (.int .i64 a0_5) := (blk_cell BK107.out 5).trans rfl
                have hcz15_6 : w3.cell? ⟨gb107, 6, none⟩ = some (.int .i64 a0_6) := (blk_cell BK107.out 6).trans rfl
                have hcz15_7 : w3.cell? ⟨gb107, 7, none⟩ = some (.int .i64 a0_7) := (blk_cell BK107.out 7).trans rfl
                have hcz15_8 : w3.cell? ⟨gb107, 8, none⟩ = some (.int .i64 a0_8) := (blk_cell BK107.out 8).trans rfl
                have hcz15_9 : w3.cell? ⟨gb107, 9, none⟩ = some (.int .i64 a0_9) := (blk_cell BK107.out 9).trans rfl
                have hcz15_10 : w3.cell? ⟨gb107, 10, none⟩ = some (.int .i64 a0_10) := (blk_cell BK107.out 10).trans rfl
                have hcz15_11 : w3.cell? ⟨gb107, 11, none⟩ = some (.int .i64 a0_11) := (blk_cell BK107.out 11).trans rfl
                have hcz15_12 : w3.cell? ⟨gb107, 12, none⟩ = some (.int .i64 a0_12) := (blk_cell BK107.out 12).trans rfl
                have hcz15_13 : w3.cell? ⟨gb107, 13, none⟩ = some (.int .i64 a0_13) := (blk_cell BK107.out 13).trans rfl
                have hcz15_14 : w3.cell? ⟨gb107, 14, none⟩ = some (.int .i64 a0_14) := (blk_cell BK107.out 14).trans rfl
                have hcz15_15 : w3.cell? ⟨gb107, 15, none⟩ = some (.int .i64 a0_15) := (blk_cell BK107.out 15).trans rfl
                have hcz15_16 : w3.cell? ⟨gb107, 16, none⟩ = some (.int .i64 a0_16) := (blk_cell BK107.out 16).trans rfl
                have hcz15_17 : w3.cell? ⟨gb107, 17, none⟩ = some (.int .i64 a0_17) := (blk_cell BK107.out 17).trans rfl
                have hcz15_18 : w3.cell? ⟨gb107, 18, none⟩ = some (.int .i64 a0_18) := (blk_cell BK107.out 18).trans rfl
                have hcz15_19 : w3.cell? ⟨gb107, 19, none⟩ = some (.int .i64 a0_19) := (blk_cell BK107.out 19).trans rfl
                have hcz15_20 : w3.cell? ⟨gb107, 20, none⟩ = some (.int .i64 a0_20) := (blk_cell BK107.out 20).trans rfl
                have hcz15_21 : w3.cell? ⟨gb107, 21, none⟩ = some (.int .i64 a0_21) := (blk_cell BK107.out 21).trans rfl
                have hcz15_22 : w3.cell? ⟨gb107, 22, none⟩ = some (.int .i64 a0_22) := (blk_cell BK107.out 22).trans rfl
                have hfz15_0 := blk_frozen BK107.out 0
                have hfz15_1 := blk_frozen BK107.out 1
                have hfz15_2 := blk_frozen BK107.out 2
                have hfz15_3 := blk_frozen BK107.out 3
                have hfz15_4 := blk_frozen BK107.out 4
                have hfz15_5 := blk_frozen BK107.out 5
                have hfz15_6 := blk_frozen BK107.out 6
                have hfz15_7 := blk_frozen BK107.out 7
                have hfz15_8 := blk_frozen BK107.out 8
                have hfz15_9 := blk_frozen BK107.out 9
                have hfz15_10 := blk_frozen BK107.out 10
                have hfz15_11 := blk_frozen BK107.out 11
                have hfz15_12 := blk_frozen BK107.out 12
                have hfz15_13 := blk_frozen BK107.out 13
                have hfz15_14 := blk_frozen BK107.out 14
                have hfz15_15 := blk_frozen BK107.out 15
                have hfz15_16 := blk_frozen BK107.out 16
                have hfz15_17 := blk_frozen BK107.out 17
                have hfz15_18 := blk_frozen BK107.out 18
                have hfz15_19 := blk_frozen BK107.out 19
                have hfz15_20 := blk_frozen BK107.out 20
                have hfz15_21 := blk_frozen BK107.out 21
                have hfz15_22 := blk_frozen BK107.out 22
                go_wp2
                go_meet
                case rel => exact ⟨_, (true), (by first | rfl | (simp; done) | (simp [*]; done)), H', ⟨by first | omega | exact Nat.le_refl _⟩, ⟨by (with_reducible repeat (first | refine blk_drewN ?_ _ | refine blk_drew ?_ | refine blk_alloc ?_ _)); exact BK107.out⟩, ⟨by repeat (first | (with_reducible first | exact HB.out | apply below_alloc | apply pw_below_drewN | apply below_drew1 | refine below_set ?_ GE107.out) | exact HB.out)⟩⟩
              · rw [if_neg c14] at H
                have c14b0 : decide (4 < a0_2) = false := decide_eq_false c14
                clear c14
                by_cases c16 : a0_3 < 0
                · rw [if_pos c16] at H
                  have c16b0 : decide (a0_3 < 0) = true := decide_eq_true c16
                  clear c16
                  have H' := Aside0.mk H
                  clear H
                  have hcz17_0 : w3.cell? ⟨gb107, 0, none⟩ = some (.int .i64 a0_0) := (blk_cell BK107.out 0).trans rfl
                  have hcz17_1 : w3.cell? ⟨gb107, 1, none⟩ = some (.int .i64 a0_1) := (blk_cell BK107.out 1).trans rfl
                  have hcz17_2 : w3.cell? ⟨gb107, 2, none⟩ = some (.int .i64 a0_2) := (blk_cell BK107.out 2).trans rfl
                  have hcz17_3 : w3.cell? ⟨gb107, 3, none⟩ = some (.int .i64 a0_3) := (blk_cell BK107.out 3).trans rfl
                  have hcz17_4 : w3.cell? ⟨gb107, 4, none⟩ = some (.int .i64 a0_4) := (blk_cell BK107.out 4).trans rfl
                  have hcz17_5 : w3.cell? ⟨gb107, 5, none⟩ = some (.int .i64 a0_5) := (blk_cell BK107.out 5).trans rfl
                  have hcz17_6 : w3.cell? ⟨gb107, 6, none⟩ = some (.int .i64 a0_6) := (blk_cell BK107.out 6).trans rfl
                  have hcz17_7 : w3.cell? ⟨gb107, 7, none⟩ = some (.int .i64 a0_7) := (blk_cell BK107.out 7).trans rfl
                  have hcz17_8 : w3.cell? ⟨gb107, 8, none⟩ = some (.int .i64 a0_8) := (blk_cell BK107.out 8).trans rfl
                  have hcz17_9 : w3.cell? ⟨gb107, 9, none⟩ = some (.int .i64 a0_9) := (blk_cell BK107.out 9).trans rfl
                  have hcz17_10 : w3.cell? ⟨gb107, 10, none⟩ = some (.int .i64 a0_10) := (blk_cell BK107.out 10).trans rfl
                  have hcz17_11 : w3.cell? ⟨gb107, 11, none⟩ = some (.int .i64 a0_11) := (blk_cell BK107.out 11).trans rfl
                  have hcz17_12 : w3.cell? ⟨gb107, 12, none⟩ = some (.int .i64 a0_12) := (blk_cell BK107.out 12).trans rfl
                  have hcz17_13 : w3.cell? ⟨gb107, 13, none⟩ = some (.int .i64 a0_13) := (blk_cell BK107.out 13).trans rfl
                  have hcz17_14 : w3.cell? ⟨gb107, 14, none⟩ = some (.int .i64 a0_14) := (blk_cell BK107.out 14).trans rfl
                  have hcz17_15 : w3.cell? ⟨gb107, 15, none⟩ = some (.int .i64 a0_15) := (blk_cell BK107.out 15).trans rfl
                  have hcz17_16 : w3.cell? ⟨gb107, 16, none⟩ = some (.int .i64 a0_16) := (blk_cell BK107.out 16).trans rfl
                  have hcz17_17 : w3.cell? ⟨gb107, 17, none⟩ = some (.int .i64 a0_17) := (blk_cell BK107.out 17).trans rfl
                  have hcz17_18 : w3.cell? ⟨gb107, 18, none⟩ = some (.int .i64 a0_18) := (blk_cell BK107.out 18).trans rfl
                  have hcz17_19 : w3.cell? ⟨gb107, 19, none⟩ = some (.int .i64 a0_19) := (blk_cell BK107.out 19).trans rfl
                  have hcz17_20 : w3.cell? ⟨gb107, 20, none⟩ = some (.int .i64 a0_20) := (blk_cell BK107.out 20).trans rfl
                  have hcz17_21 : w3.cell? ⟨gb107, 21, none⟩ = some (.int .i64 a0_21) := (blk_cell BK107.out 21).trans rfl
                  have hcz17_22 : w3.cell? ⟨gb107, 22, none⟩ = some (.int .i64 a0_22) := (blk_cell BK107.out 22).trans rfl
                  have hfz17_0 := blk_frozen BK107.out 0
                  have hfz17_1 := blk_frozen BK107.out 1
                  have hfz17_2 := blk_frozen BK107.out 2
                  have hfz17_3 := blk_frozen BK107.out 3
                  have hfz17_4 := blk_frozen BK107.out 4
                  have hfz17_5 := blk_frozen BK107.out 5
                  have hfz17_6 := blk_frozen BK107.out 6
                  have hfz17_7 := blk_frozen BK107.out 7
                  have hfz17_8 := blk_frozen BK107.out 8
                  have hfz17_9 := blk_frozen BK107.out 9
                  have hfz17_10 := blk_frozen BK107.out 10
                  have hfz17_11 := blk_frozen BK107.out 11
                  have hfz17_12 := blk_frozen BK107.out 12
                  have hfz17_13 := blk_frozen BK107.out 13
                  have hfz17_14 := blk_frozen BK107.out 14
                  have hfz17_15 := blk_frozen BK107.out 15
                  have hfz17_16 := blk_frozen BK107.out 16
                  have hfz17_17 := blk_frozen BK107.out 17
                  have hfz17_18 := blk_frozen BK107.out 18
                  have hfz17_19 := blk_frozen BK107.out 19
                  have hfz17_20 := blk_frozen BK107.out 20
                  have hfz17_21 := blk_frozen BK107.out 21
                  have hfz17_22 := blk_frozen BK107.out 22
                  go_wp2
                  go_meet
                  case rel => exact ⟨_, (true), (by first | rfl | (simp; done) | (simp [*]; done)), H', ⟨by first | omega | exact Nat.le_refl _⟩, ⟨by (with_reducible repeat (first | refine blk_drewN ?_ _ | refine blk_drew ?_ | refine blk_alloc ?_ _)); exact BK107.out⟩, ⟨by repeat (first | (with_reducible first | exact HB.out | apply below_alloc | apply pw_below_drewN | apply below_drew1 | refine below_set ?_ GE107.out) | exact HB.out)⟩⟩
                · rw [if_neg c16] at H
                  have c16b0 : decide (a0_3 < 0) = false := decide_eq_false c16
                  clear c16
                  have H' := Aside0.mk H
                  clear H
                  have hcz18_0 : w3.cell? ⟨gb107, 0, none⟩ = some (.int .i64 a0_0) := (blk_cell BK107.out 0).trans rfl
                  have hcz18_1 : w3.cell? ⟨gb107, 1, none⟩ = some (.int .i64 a0_1) := (blk_cell BK107.out 1).trans rfl
                  have hcz18_2 : w3.cell? ⟨gb107, 2, none⟩ = some (.int .i64 a0_2) := (blk_cell BK107.out 2).trans rfl
                  have hcz18_3 : w3.cell? ⟨gb107, 3, none⟩ = some (.int .i64 a0_3) := (blk_cell BK107.out 3).trans rfl
                  have hcz18_4 : w3.cell? ⟨gb107, 4, none⟩ = some (.int .i64 a0_4) := (blk_cell BK107.out 4).trans rfl
                  have hcz18_5 : w3.cell? ⟨gb107, 5, none⟩ = some (.int .i64 a0_5) := (blk_cell BK107.out 5).trans rfl
                  have hcz18_6 : w3.cell? ⟨gb107, 6, none⟩ = some (.int .i64 a0_6) := (blk_cell BK107.out 6).trans rfl
                  have hcz18_7 : w3.cell? ⟨gb107, 7, none⟩ = some (.int .i64 a0_7) := (blk_cell BK107.out 7).trans rfl
                  have hcz18_8 : w3.cell? ⟨gb107, 8, none⟩ = some (.int .i64 a0_8) := (blk_cell BK107.out 8).trans rfl
                  have hcz18_9 : w3.cell? ⟨gb107, 9, none⟩ = some (.int .i64 a0_9) := (blk_cell BK107.out 9).trans rfl
                  have hcz18_10 : w3.cell? ⟨gb107, 10, none⟩ = some (.int .i64 a0_10) := (blk_cell BK107.out 10).trans rfl
                  have hcz18_11 : w3.cell? ⟨gb107, 11, none⟩ = some (.int .i64 a0_11) := (blk_cell BK107.out 11).trans rfl
                  have hcz18_12 : w3.cell? ⟨gb107, 12, none⟩ = some (.int .i64 a0_12) := (blk_cell BK107.out 12).trans rfl
                  have hcz18_13 : w3.cell? ⟨gb107, 13, none⟩ = some (.int .i64 a0_13) := (blk_cell BK107.out 13).trans rfl
                  have hcz18_14 : w3.cell? ⟨gb107, 14, none⟩ = some (.int .i64 a0_14) := (blk_cell BK107.out 14).trans rfl
                  have hcz18_15 : w3.cell? ⟨gb107, 15, none⟩ = some (.int .i64 a0_15) := (blk_cell BK107.out 15).trans rfl
                  have hcz18_16 : w3.cell? ⟨gb107, 16, none⟩ = some (.int .i64 a0_16) := (blk_cell BK107.out 16).trans rfl
                  have hcz18_17 : w3.cell? ⟨gb107, 17, none⟩ = some (.int .i64 a0_17) := (blk_cell BK107.out 17).trans rfl
                  have hcz18_18 : w3.cell? ⟨gb107, 18, none⟩ = some (.int .i64 a0_18) := (blk_cell BK107.out 18).trans rfl
                  have hcz18_19 : w3.cell? ⟨gb107, 19, none⟩ = some (.int .i64 a0_19) := (blk_cell BK107.out 19).trans rfl
                  have hcz18_20 : w3.cell? ⟨gb107, 20, none⟩ = some (.int .i64 a0_20) := (blk_cell BK107.out 20).trans rfl
                  have hcz18_21 : w3.cell? ⟨gb107, 21, none⟩ = some (.int .i64 a0_21) := (blk_cell BK107.out 21).trans rfl
                  have hcz18_22 : w3.cell? ⟨gb107, 22, none⟩ = some (.int .i64 a0_22) := (blk_cell BK107.out 22).trans rfl
                  have hfz18_0 := blk_frozen BK107.out 0
                  have hfz18_1 := blk_frozen BK107.out 1
                  have hfz18_2 := blk_frozen BK107.out 2
                  have hfz18_3 := blk_frozen BK107.out 3
                  have hfz18_4 := blk_frozen BK107.out 4
                  have hfz18_5 := blk_frozen BK107.out 5
                  have hfz18_6 := blk_frozen BK107.out 6
                  have hfz18_7 := blk_frozen BK107.out 7
                  have hfz18_8 := blk_frozen BK107.out 8
                  have hfz18_9 := blk_frozen BK107.out 9
                  have hfz18_10 := blk_frozen BK107.out 10
                  have hfz18_11 := blk_frozen BK107.out 11
                  have hfz18_12 := blk_frozen BK107.out 12
                  have hfz18_13 := blk_frozen BK107.out 13
                  have hfz18_14 := blk_frozen BK107.out 14
                  have hfz18_15 := blk_frozen BK107.out 15
                  have hfz18_16 := blk_frozen BK107.out 16
                  have hfz18_17 := blk_frozen BK107.out 17
                  have hfz18_18 := blk_frozen BK107.out 18
                  have hfz18_19 := blk_frozen BK107.out 19
                  have hfz18_20 := blk_frozen BK107.out 20
                  have hfz18_21 := blk_frozen BK107.out 21
                  have hfz18_22 := blk_frozen BK107.out 22
                  go_wp2
                  go_meet
                  case rel => exact ⟨_, (decide (a0_3 > 10000)), (by first | rfl | (simp; done) | (simp [*]; done)), H', ⟨by first | omega | exact Nat.le_refl _⟩, ⟨by (with_reducible repeat (first | refine blk_drewN ?_ _ | refine blk_drew ?_ | refine blk_alloc ?_ _)); exact BK107.out⟩, ⟨by repeat (first | (with_reducible first | exact HB.out | apply below_alloc | apply pw_below_drewN | apply below_drew1 | refine below_set ?_ GE107.out) | exact HB.out)⟩⟩
  case rest =>
    clear HC2
    try clear c1
    try clear p2
    try clear c3
    try clear c4
    try clear c4b0
    try clear c6
    try clear c6b0
    try clear c8
    try clear c8b0
    try clear c10
    try clear c10b0
    try clear c12
    try clear c12b0
    try clear c14
    try clear c14b0
    try clear c16
    try clear c16b0
    try clear hcz11_0
    try clear hcz11_1
    try clear hcz11_10
    try clear hcz11_11
    try clear hcz11_12
    try clear hcz11_13
    try clear hcz11_14
    try clear hcz11_15
    try clear hcz11_16
    try clear hcz11_17
    try clear hcz11_18
    try clear hcz11_19
    try clear hcz11_2
    try clear hcz11_20
    try clear hcz11_21
    try clear hcz11_22
    try clear hcz11_3
    try clear hcz11_4
    try clear hcz11_5
    try clear hcz11_6
    try clear hcz11_7
    try clear hcz11_8
    try clear hcz11_9
    try clear hcz13_0
    try clear hcz13_1
    try clear hcz13_10
    try clear hcz13_11
    try clear hcz13_12
    try clear hcz13_13
    try clear hcz13_14
    try clear hcz13_15
    try clear hcz13_16
    try clear hcz13_17
    try clear hcz13_18
    try clear hcz13_19
    try clear hcz13_2
    try clear hcz13_20
    try clear hcz13_21
    try clear hcz13_22
    try clear hcz13_3
    try clear hcz13_4
    try clear hcz13_5
    try clear hcz13_6
    try clear hcz13_7
    try clear hcz13_8
    try clear hcz13_9
    try clear hcz15_0
    try clear hcz15_1
    try clear hcz15_10
    try clear hcz15_11
    try clear hcz15_12
    try clear hcz15_13
    try clear hcz15_14
    try clear hcz15_15
    try clear hcz15_16
    try clear hcz15_17
    try clear hcz15_18
    try clear hcz15_19
    try clear hcz15_2
    try clear hcz15_20
    try clear hcz15_21
    try clear hcz15_22
    try clear hcz15_3
    try clear hcz15_4
    try clear hcz15_5
    try clear hcz15_6
    try clear hcz15_7
    try clear hcz15_8
    try clear hcz15_9
    try clear hcz17_0
    try clear hcz17_1
    try clear hcz17_10
    try clear hcz17_11
    try clear hcz17_12
    try clear hcz17_13
    try clear hcz17_14
    try clear hcz17_15
    try clear hcz17_16
    try clear hcz17_17
    try clear hcz17_18
    try clear hcz17_19
    try clear hcz17_2
    try clear hcz17_20
    try clear hcz17_21
    try clear hcz17_22
    try clear hcz17_3
    try clear hcz17_4
    try clear hcz17_5
    try clear hcz17_6
    try clear hcz17_7
    try clear hcz17_8
    try clear hcz17_9
    try clear hcz18_0
    try clear hcz18_1
    try clear hcz18_10
    try clear hcz18_11
    try clear hcz18_12
    try clear hcz18_13
    try clear hcz18_14
    try clear hcz18_15
    try clear hcz18_16
    try clear hcz18_17
    try clear hcz18_18
    try clear hcz18_19
    try clear hcz18_2
    try clear hcz18_20
    try clear hcz18_21
    try clear hcz18_22
    try clear hcz18_3
    try clear hcz18_4
    try clear hcz18_5
    try clear hcz18_6
    try clear hcz18_7
    try clear hcz18_8
    try clear hcz18_9
    try clear hcz5_0
    try clear hcz5_1
    try clear hcz5_10
    try clear hcz5_11
    try clear hcz5_12
    try clear hcz5_13
    try clear hcz5_14
    try clear hcz5_15
    try clear hcz5_16
    try clear hcz5_17
    try clear hcz5_18
    try clear hcz5_19
    try clear hcz5_2
    try clear hcz5_20
    try clear hcz5_21
    try clear hcz5_22
    try clear hcz5_3
    try clear hcz5_4
    try clear hcz5_5
    try clear hcz5_6
    try clear hcz5_7
    try clear hcz5_8
    try clear hcz5_9
    try clear hcz7_0
    try clear hcz7_1
    try clear hcz7_10
    try clear hcz7_11
    try clear hcz7_12
    try clear hcz7_13
    try clear hcz7_14
    try clear hcz7_15
    try clear hcz7_16
    try clear hcz7_17
    try clear hcz7_18
    try clear hcz7_19
    try clear hcz7_2
    try clear hcz7_20
    try clear hcz7_21
    try clear hcz7_22
    try clear hcz7_3
    try clear hcz7_4
    try clear hcz7_5
    try clear hcz7_6
    try clear hcz7_7
    try clear hcz7_8
    try clear hcz7_9
    try clear hcz9_0
    try clear hcz9_1
    try clear hcz9_10
    try clear hcz9_11
    try clear hcz9_12
    try clear hcz9_13
    try clear hcz9_14
    try clear hcz9_15
    try clear hcz9_16
    try clear hcz9_17
    try clear hcz9_18
    try clear hcz9_19
    try clear hcz9_2
    try clear hcz9_20
    try clear hcz9_21
    try clear hcz9_22
    try clear hcz9_3
    try clear hcz9_4
    try clear hcz9_5
    try clear hcz9_6
    try clear hcz9_7
    try clear hcz9_8
    try clear hcz9_9
    try clear hfz11_0
    try clear hfz11_1
    try clear hfz11_10
    try clear hfz11_11
    try clear hfz11_12
    try clear hfz11_13
    try clear hfz11_14
    try clear hfz11_15
    try clear hfz11_16
    try clear hfz11_17
    try clear hfz11_18
    try clear hfz11_19
    try clear hfz11_2
    try clear hfz11_20
    try clear hfz11_21
    try clear hfz11_22
    try clear hfz11_3
    try clear hfz11_4
    try clear hfz11_5
    try clear hfz11_6
    try clear hfz11_7
    try clear hfz11_8
    try clear hfz11_9
    try clear hfz13_0
    try clear hfz13_1
    try clear hfz13_10
    try clear hfz13_11
    try clear hfz13_12
    try clear hfz13_13
    try clear hfz13_14
    try clear hfz13_15
    try clear hfz13_16
    try clear hfz13_17
    try clear hfz13_18
    try clear hfz13_19
    try clear hfz13_2
    try clear hfz13_20
    try clear hfz13_21
    try clear hfz13_22
    try clear hfz13_3
    try clear hfz13_4
    try clear hfz13_5
    try clear hfz13_6
    try clear hfz13_7
    try clear hfz13_8
    try clear hfz13_9
    try clear hfz15_0
    try clear hfz15_1
    try clear hfz15_10
    try clear hfz15_11
    try clear hfz15_12
    try clear hfz15_13
    try clear hfz15_14
    try clear hfz15_15
    try clear hfz15_16
    try clear hfz15_17
    try clear hfz15_18
    try clear hfz15_19
    try clear hfz15_2
    try clear hfz15_20
    try clear hfz15_21
    try clear hfz15_22
    try clear hfz15_3
    try clear hfz15_4
    try clear hfz15_5
    try clear hfz15_6
    try clear hfz15_7
    try clear hfz15_8
    try clear hfz15_9
    try clear hfz17_0
    try clear hfz17_1
    try clear hfz17_10
    try clear hfz17_11
    try clear hfz17_12
    try clear hfz17_13
    try clear hfz17_14
    try clear hfz17_15
    try clear hfz17_16
    try clear hfz17_17
    try clear hfz17_18
    try clear hfz17_19
    try clear hfz17_2
    try clear hfz17_20
    try clear hfz17_21
    try clear hfz17_22
    try clear hfz17_3
    try clear hfz17_4
    try clear hfz17_5
    try clear hfz17_6
    try clear hfz17_7
    try clear hfz17_8
    try clear hfz17_9
    try clear hfz18_0
    try clear hfz18_1
    try clear hfz18_10
    try clear hfz18_11
    try clear hfz18_12
    try clear hfz18_13
    try clear hfz18_14
    try clear hfz18_15
    try clear hfz18_16
    try clear hfz18_17
    try clear hfz18_18
    try clear hfz18_19
    try clear hfz18_2
    try clear hfz18_20
    try clear hfz18_21
    try clear hfz18_22
    try clear hfz18_3
    try clear hfz18_4
    try clear hfz18_5
    try clear hfz18_6
    try clear hfz18_7
    try clear hfz18_8
    try clear hfz18_9
    try clear hfz5_0
    try clear hfz5_1
    try clear hfz5_10
    try clear hfz5_11
    try clear hfz5_12
    try clear hfz5_13
    try clear hfz5_14
    try clear hfz5_15
    try clear hfz5_16
    try clear hfz5_17
    try clear hfz5_18
    try clear hfz5_19
    try clear hfz5_2
    try clear hfz5_20
    try clear hfz5_21
    try clear hfz5_22
    try clear hfz5_3
    try clear hfz5_4
    try clear hfz5_5
    try clear hfz5_6
    try clear hfz5_7
    try clear hfz5_8
    try clear hfz5_9
    try clear hfz7_0
    try clear hfz7_1
    try clear hfz7_10
    try clear hfz7_11
    try clear hfz7_12
    try clear hfz7_13
    try clear hfz7_14
    try clear hfz7_15
    try clear hfz7_16
    try clear hfz7_17
    try clear hfz7_18
    try clear hfz7_19
    try clear hfz7_2
    try clear hfz7_20
    try clear hfz7_21
    try clear hfz7_22
    try clear hfz7_3
    try clear hfz7_4
    try clear hfz7_5
    try clear hfz7_6
    try clear hfz7_7
    try clear hfz7_8
    try clear hfz7_9
    try clear hfz9_0
    try clear hfz9_1
    try clear hfz9_10
    try clear hfz9_11
    try clear hfz9_12
    try clear hfz9_13
    try clear hfz9_14
    try clear hfz9_15
    try clear hfz9_16
    try clear hfz9_17
    try clear hfz9_18
    try clear hfz9_19
    try clear hfz9_2
    try clear hfz9_20
    try clear hfz9_21
    try clear hfz9_22
    try clear hfz9_3
    try clear hfz9_4
    try clear hfz9_5
    try clear hfz9_6
    try clear hfz9_7
    try clear hfz9_8
    try clear hfz9_9
    obtain ⟨kq, x40_1, rfl, HA, HJ1, BK107, HB⟩ := hcut
    cases kq with
    | zero => exact absurd HA.out (by simp [spec_StyleOk.j0])
    | succ kj1 =>
      have H := HA.out
      clear HA
      simp only [spec_StyleOk.j0] at H
      by_cases c19 : x40_1 = true
      · subst c19
        have H1 : (some false) = some r := by rw [if_pos rfl] at H; exact H
        clear H
        have H := H1
        clear H1
        obtain rfl := Option.some.inj H
        go_wp2
        go_ret
        exact ⟨by first | rfl | (simp [errW_none, errW_some] <;> rfl) | (simp [*, errW_none, errW_some] <;> rfl), by repeat (first | (with_reducible first | exact HB.out | apply below_alloc | apply pw_below_drewN | apply below_drew1 | refine below_set ?_ GE107.out) | exact HB.out)⟩
      · replace c19 := Bool.eq_false_iff.mpr c19
        subst c19
        have H1 : ((spec_l9Cost.f a0_4).bind fun t108 => (if t108 = true then ((spec_l9Cost.f a0_5).bind fun t109 => (if t109 = true then ((spec_l9Cost.f a0_6).bind fun t110 => (if t110 = true then ((spec_l9Cost.f a0_7).bind fun t111 => (if t111 = true then (if a0_4 > 10000 then (spec_StyleOk.j1 kj1 true a0_0 a0_1 a0_2 a0_3 a0_4 a0_5 a0_6 a0_7 a0_8 a0_9 a0_10 a0_11 a0_12 a0_13 a0_14 a0_15 a0_16 a0_17 a0_18 a0_19 a0_20 a0_21 a0_22) else (spec_StyleOk.j1 kj1 (decide (a0_5 > 10000)) a0_0 a0_1 a0_2 a0_3 a0_4 a0_5 a0_6 a0_7 a0_8 a0_9 a0_10 a0_11 a0_12 a0_13 a0_14 a0_15 a0_16 a0_17 a0_18 a0_19 a0_20 a0_21 a0_22)) else (spec_StyleOk.j1 kj1 true a0_0 a0_1 a0_2 a0_3 a0_4 a0_5 a0_6 a0_7 a0_8 a0_9 a0_10 a0_11 a0_12 a0_13 a0_14 a0_15 a0_16 a0_17 a0_18 a0_19 a0_20 a0_21 a0_22))) else (spec_StyleOk.j1 kj1 true a0_0 a0_1 a0_2 a0_3 a0_4 a0_5 a0_6 a0_7 a0_8 a0_9 a0_10 a0_11 a0_12 a0_13 a0_14 a0_15 a0_16 a0_17 a0_18 a0_19 a0_20 a0_21 a0_22))) else (spec_StyleOk.j1 kj1 true a0_0 a0_1 a0_2 a0_3 a0_4 a0_5 a0_6 a0_7 a0_8 a0_9 a0_10 a0_11 a0_12 a0_13 a0_14 a0_15 a0_16 a0_17 a0_18 a0_19 a0_20 a0_21 a0_22))) else (spec_StyleOk.j1 kj1 true a0_0 a0_1 a0_2 a0_3 a0_4 a0_5 a0_6 a0_7 a0_8 a0_9 a0_10 a0_11 a0_12 a0_13 a0_14 a0_15 a0_16 a0_17 a0_18 a0_19 a0_20 a0_21 a0_22))) = some r := by rw [if_neg (show ¬ (false = true) by decide)] at H; exact H
        clear H
        have H := H1
        clear H1
        have HC20 := Aside0.mk H
        clear H
        go_upto_region 3 with (fail)
        go_cut [72] (fun v72 wc => ∃ (kq : Nat) (x72_19 : Bool), v72 = .bool x72_19 ∧ Aside0 (spec_StyleOk.j1 kq x72_19 a0_0 a0_1 a0_2 a0_3 a0_4 a0_5 a0_6 a0_7 a0_8 a0_9 a0_10 a0_11 a0_12 a0_13 a0_14 a0_15 a0_16 a0_17 a0_18 a0_19 a0_20 a0_21 a0_22 = some r) ∧ Aside0 (kq ≤ kj1) ∧ Aside0 (wc.heap[gb107]? = some (.cells #[.int .i64 a0_0, .int .i64 a0_1, .int .i64 a0_2, .int .i64 a0_3, .int .i64 a0_4, .int .i64 a0_5, .int .i64 a0_6, .int .i64 a0_7, .int .i64 a0_8, .int .i64 a0_9, .int .i64 a0_10, .int .i64 a0_11, .int .i64 a0_12, .int .i64 a0_13, .int .i64 a0_14, .int .i64 a0_15, .int .i64 a0_16, .int .i64 a0_17, .int .i64 a0_18, .int .i64 a0_19, .int .i64 a0_20, .int .i64 a0_21, .int .i64 a0_22] 64 (0, 0))) ∧ Aside0 (Below w.heap.size w wc))
        case first =>
          have H := HC20.out
          clear HC20
          replace H := Option.bind_eq_some_iff.mp H
          obtain ⟨t108, A210, H⟩ := H
          replace H : (if t108 = true then ((spec_l9Cost.f a0_5).bind fun t109 => (if t109 = true then ((spec_l9Cost.f a0_6).bind fun t110 => (if t110 = true then ((spec_l9Cost.f a0_7).bind fun t111 => (if t111 = true then (if a0_4 > 10000 then (spec_StyleOk.j1 kj1 true a0_0 a0_1 a0_2 a0_3 a0_4 a0_5 a0_6 a0_7 a0_8 a0_9 a0_10 a0_11 a0_12 a0_13 a0_14 a0_15 a0_16 a0_17 a0_18 a0_19 a0_20 a0_21 a0_22) else (spec_StyleOk.j1 kj1 (decide (a0_5 > 10000)) a0_0 a0_1 a0_2 a0_3 a0_4 a0_5 a0_6 a0_7 a0_8 a0_9 a0_10 a0_11 a0_12 a0_13 a0_14 a0_15 a0_16 a0_17 a0_18 a0_19 a0_20 a0_21 a0_22)) else (spec_StyleOk.j1 kj1 true a0_0 a0_1 a0_2 a0_3 a0_4 a0_5 a0_6 a0_7 a0_8 a0_9 a0_10 a0_11 a0_12 a0_13 a0_14 a0_15 a0_16 a0_17 a0_18 a0_19 a0_20 a0_21 a0_22))) else (spec_StyleOk.j1 kj1 true a0_0 a0_1 a0_2 a0_3 a0_4 a0_5 a0_6 a0_7 a0_8 a0_9 a0_10 a0_11 a0_12 a0_13 a0_14 a0_15 a0_16 a0_17 a0_18 a0_19 a0_20 a0_21 a0_22))) else (spec_StyleOk.j1 kj1 true a0_0 a0_1 a0_2 a0_3 a0_4 a0_5 a0_6 a0_7 a0_8 a0_9 a0_10 a0_11 a0_12 a0_13 a0_14 a0_15 a0_16 a0_17 a0_18 a0_19 a0_20 a0_21 a0_22))) else (spec_StyleOk.j1 kj1 true a0_0 a0_1 a0_2 a0_3 a0_4 a0_5 a0_6 a0_7 a0_8 a0_9 a0_10 a0_11 a0_12 a0_13 a0_14 a0_15 a0_16 a0_17 a0_18 a0_19 a0_20 a0_21 a0_22)) = some r := H
          have A21 := Aside0.mk A210
          clear A210
          by_cases c22 : t108 = true
          · subst c22
            have H1 : ((spec_l9Cost.f a0_5).bind fun t109 => (if t109 = true then ((spec_l9Cost.f a0_6).bind fun t110 => (if t110 = true then ((spec_l9Cost.f a0_7).bind fun t111 => (if t111 = true then (if a0_4 > 10000 then (spec_StyleOk.j1 kj1 true a0_0 a0_1 a0_2 a0_3 a0_4 a0_5 a0_6 a0_7 a0_8 a0_9 a0_10 a0_11 a0_12 a0_13 a0_14 a0_15 a0_16 a0_17 a0_18 a0_19 a0_20 a0_21 a0_22) else (spec_StyleOk.j1 kj1 (decide (a0_5 > 10000)) a0_0 a0_1 a0_2 a0_3 a0_4 a0_5 a0_6 a0_7 a0_8 a0_9 a0_10 a0_11 a0_12 a0_13 a0_14 a0_15 a0_16 a0_17 a0_18 a0_19 a0_20 a0_21 a0_22)) else (spec_StyleOk.j1 kj1 true a0_0 a0_1 a0_2 a0_3 a0_4 a0_5 a0_6 a0_7 a0_8 a0_9 a0_10 a0_11 a0_12 a0_13 a0_14 a0_15 a0_16 a0_17 a0_18 a0_19 a0_20 a0_21 a0_22))) else (spec_StyleOk.j1 kj1 true a0_0 a0_1 a0_2 a0_3 a0_4 a0_5 a0_6 a0_7 a0_8 a0_9 a0_10 a0_11 a0_12 a0_13 a0_14 a0_15 a0_16 a0_17 a0_18 a0_19 a0_20 a0_21 a0_22))) else (spec_StyleOk.j1 kj1 true a0_0 a0_1 a0_2 a0_3 a0_4 a0_5 a0_6 a0_7 a0_8 a0_9 a0_10 a0_11 a0_12 a0_13 a0_14 a0_15 a0_16 a0_17 a0_18 a0_19 a0_20 a0_21 a0_22))) = some r := by rw [if_pos rfl] at H; exact H
            clear H
            have H := H1
            clear H1
            replace H := Option.bind_eq_some_iff.mp H
            obtain ⟨t109, A230, H⟩ := H
            replace H : (if t109 = true then ((spec_l9Cost.f a0_6).bind fun t110 => (if t110 = true then ((spec_l9Cost.f a0_7).bind fun t111 => (if t111 = true then (if a0_4 > 10000 then (spec_StyleOk.j1 kj1 true a0_0 a0_1 a0_2 a0_3 a0_4 a0_5 a0_6 a0_7 a0_8 a0_9 a0_10 a0_11 a0_12 a0_13 a0_14 a0_15 a0_16 a0_17 a0_18 a0_19 a0_20 a0_21 a0_22) else (spec_StyleOk.j1 kj1 (decide (a0_5 > 10000)) a0_0 a0_1 a0_2 a0_3 a0_4 a0_5 a0_6 a0_7 a0_8 a0_9 a0_10 a0_11 a0_12 a0_13 a0_14 a0_15 a0_16 a0_17 a0_18 a0_19 a0_20 a0_21 a0_22)) else (spec_StyleOk.j1 kj1 true a0_0 a0_1 a0_2 a0_3 a0_4 a0_5 a0_6 a0_7 a0_8 a0_9 a0_10 a0_11 a0_12 a0_13 a0_14 a0_15 a0_16 a0_17 a0_18 a0_19 a0_20 a0_21 a0_22))) else (spec_StyleOk.j1 kj1 true a0_0 a0_1 a0_2 a0_3 a0_4 a0_5 a0_6 a0_7 a0_8 a0_9 a0_10 a0_11 a0_12 a0_13 a0_14 a0_15 a0_16 a0_17 a0_18 a0_19 a0_20 a0_21 a0_22))) else (spec_StyleOk.j1 kj1 true a0_0 a0_1 a0_2 a0_3 a0_4 a0_5 a0_6 a0_7 a0_8 a0_9 a0_10 a0_11 a0_12 a0_13 a0_14 a0_15 a0_16 a0_17 a0_18 a0_19 a0_20 a0_21 a0_22)) = some r := H
            have A23 := Aside0.mk A230
            clear A230
            by_cases c24 : t109 = true
            · subst c24
              have H1 : ((spec_l9Cost.f a0_6).bind fun t110 => (if t110 = true then ((spec_l9Cost.f a0_7).bind fun t111 => (if t111 = true then (if a0_4 > 10000 then (spec_StyleOk.j1 kj1 true a0_0 a0_1 a0_2 a0_3 a0_4 a0_5 a0_6 a0_7 a0_8 a0_9 a0_10 a0_11 a0_12 a0_13 a0_14 a0_15 a0_16 a0_17 a0_18 a0_19 a0_20 a0_21 a0_22) else (spec_StyleOk.j1 kj1 (decide (a0_5 > 10000)) a0_0 a0_1 a0_2 a0_3 a0_4 a0_5 a0_6 a0_7 a0_8 a0_9 a0_10 a0_11 a0_12 a0_13 a0_14 a0_15 a0_16 a0_17 a0_18 a0_19 a0_20 a0_21 a0_22)) else (spec_StyleOk.j1 kj1 true a0_0 a0_1 a0_2 a0_3 a0_4 a0_5 a0_6 a0_7 a0_8 a0_9 a0_10 a0_11 a0_12 a0_13 a0_14 a0_15 a0_16 a0_17 a0_18 a0_19 a0_20 a0_21 a0_22))) else (spec_StyleOk.j1 kj1 true a0_0 a0_1 a0_2 a0_3 a0_4 a0_5 a0_6 a0_7 a0_8 a0_9 a0_10 a0_11 a0_12 a0_13 a0_14 a0_15 a0_16 a0_17 a0_18 a0_19 a0_20 a0_21 a0_22))) = some r := by rw [if_pos rfl] at H; exact H
              clear H
              have H := H1
              clear H1
              replace H := Option.bind_eq_some_iff.mp H
              obtain ⟨t110, A250, H⟩ := H
              replace H : (if t110 = true then ((spec_l9Cost.f a0_7).bind fun t111 => (if t111 = true then (if a0_4 > 10000 then (spec_StyleOk.j1 kj1 true a0_0 a0_1 a0_2 a0_3 a0_4 a0_5 a0_6 a0_7 a0_8 a0_9 a0_10 a0_11 a0_12 a0_13 a0_14 a0_15 a0_16 a0_17 a0_18 a0_19 a0_20 a0_21 a0_22) else (spec_StyleOk.j1 kj1 (decide (a0_5 > 10000)) a0_0 a0_1 a0_2 a0_3 a0_4 a0_5 a0_6 a0_7 a0_8 a0_9 a0_10 a0_11 a0_12 a0_13 a0_14 a0_15 a0_16 a0_17 a0_18 a0_19 a0_20 a0_21 a0_22)) else (spec_StyleOk.j1 kj1 true a0_0 a0_1 a0_2 a0_3 a0_4 a0_5 a0_6 a0_7 a0_8 a0_9 a0_10 a0_11 a0_12 a0_13 a0_14 a0_15 a0_16 a0_17 a0_18 a0_19 a0_20 a0_21 a0_22))) else (spec_StyleOk.j1 kj1 true a0_0 a0_1 a0_2 a0_3 a0_4 a0_5 a0_6 a0_7 a0_8 a0_9 a0_10 a0_11 a0_12 a0_13 a0_14 a0_15 a0_16 a0_17 a0_18 a0_19 a0_20 a0_21 a0_22)) = some r := H
              have A25 := Aside0.mk A250
              clear A250
              by_cases c26 : t110 = true
              · subst c26
                have H1 : ((spec_l9Cost.f a0_7).bind fun t111 => (if t111 = true then (if a0_4 > 10000 then (spec_StyleOk.j1 kj1 true a0_0 a0_1 a0_2 a0_3 a0_4 a0_5 a0_6 a0_7 a0_8 a0_9 a0_10 a0_11 a0_12 a0_13 a0_14 a0_15 a0_16 a0_17 a0_18 a0_19 a0_20 a0_21 a0_22) else (spec_StyleOk.j1 kj1 (decide (a0_5 > 10000)) a0_0 a0_1 a0_2 a0_3 a0_4 a0_5 a0_6 a0_7 a0_8 a0_9 a0_10 a0_11 a0_12 a0_13 a0_14 a0_15 a0_16 a0_17 a0_18 a0_19 a0_20 a0_21 a0_22)) else (spec_StyleOk.j1 kj1 true a0_0 a0_1 a0_2 a0_3 a0_4 a0_5 a0_6 a0_7 a0_8 a0_9 a0_10 a0_11 a0_12 a0_13 a0_14 a0_15 a0_16 a0_17 a0_18 a0_19 a0_20 a0_21 a0_22))) = some r := by rw [if_pos rfl] at H; exact H
                clear H
                have H := H1
                clear H1
                replace H := Option.bind_eq_some_iff.mp H
                obtain ⟨t111, A270, H⟩ := H
                replace H : (if t111 = true then (if a0_4 > 10000 then (spec_StyleOk.j1 kj1 true a0_0 a0_1 a0_2 a0_3 a0_4 a0_5 a0_6 a0_7 a0_8 a0_9 a0_10 a0_11 a0_12 a0_13 a0_14 a0_15 a0_16 a0_17 a0_18 a0_19 a0_20 a0_21 a0_22) else (spec_StyleOk.j1 kj1 (decide (a0_5 > 10000)) a0_0 a0_1 a0_2 a0_3 a0_4 a0_5 a0_6 a0_7 a0_8 a0_9 a0_10 a0_11 a0_12 a0_13 a0_14 a0_15 a0_16 a0_17 a0_18 a0_19 a0_20 a0_21 a0_22)) else (spec_StyleOk.j1 kj1 true a0_0 a0_1 a0_2 a0_3 a0_4 a0_5 a0_6 a0_7 a0_8 a0_9 a0_10 a0_11 a0_12 a0_13 a0_14 a0_15 a0_16 a0_17 a0_18 a0_19 a0_20 a0_21 a0_22)) = some r := H
                have A27 := Aside0.mk A270
                clear A270
                by_cases c28 : t111 = true
                · subst c28
                  have H1 : (if a0_4 > 10000 then (spec_StyleOk.j1 kj1 true a0_0 a0_1 a0_2 a0_3 a0_4 a0_5 a0_6 a0_7 a0_8 a0_9 a0_10 a0_11 a0_12 a0_13 a0_14 a0_15 a0_16 a0_17 a0_18 a0_19 a0_20 a0_21 a0_22) else (spec_StyleOk.j1 kj1 (decide (a0_5 > 10000)) a0_0 a0_1 a0_2 a0_3 a0_4 a0_5 a0_6 a0_7 a0_8 a0_9 a0_10 a0_11 a0_12 a0_13 a0_14 a0_15 a0_16 a0_17 a0_18 a0_19 a0_20 a0_21 a0_22)) = some r := by rw [if_pos rfl] at H; exact H
                  clear H
                  have H := H1
                  clear H1
                  by_cases c29 : a0_4 > 10000
                  · rw [if_pos c29] at H
                    have c29b0 : decide (10000 < a0_4) = true := decide_eq_true c29
                    clear c29
                    (first | rw [c29b0] | (simp only [i64_w, i32_w]; rw [c29b0]) | skip)
                    have H' := Aside0.mk H
                    clear H
                    have hcz30_0 : wc.cell? ⟨gb107, 0, none⟩ = some (.int .i64 a0_0) := (blk_cell BK107.out 0).trans rfl
                    have hcz30_1 : wc.cell? ⟨gb107, 1, none⟩ = some (.int .i64 a0_1) := (blk_cell BK107.out 1).trans rfl
                    have hcz30_2 : wc.cell? ⟨gb107, 2, none⟩ = some (.int .i64 a0_2) := (blk_cell BK107.out 2).trans rfl
                    have hcz30_3 : wc.cell? ⟨gb107, 3, none⟩ = some (.int .i64 a0_3) := (blk_cell BK107.out 3).trans rfl
                    have hcz30_4 : wc.cell? ⟨gb107, 4, none⟩ = some (.int .i64 a0_4) := (blk_cell BK107.out 4).trans rfl
                    have hcz30_5 : wc.cell? ⟨gb107, 5, none⟩ = some (.int .i64 a0_5) := (blk_cell BK107.out 5).trans rfl
                    have hcz30_6 : wc.cell? ⟨gb107, 6, none⟩ = some (.int .i64 a0_6) := (blk_cell BK107.out 6).trans rfl
                    have hcz30_7 : wc.cell? ⟨gb107, 7, none⟩ = some (.int .i64 a0_7) := (blk_cell BK107.out 7).trans rfl
                    have hcz30_8 : wc.cell? ⟨gb107, 8, none⟩ = some (.int .i64 a0_8) := (blk_cell BK107.out 8).trans rfl
                    have hcz30_9 : wc.cell? ⟨gb107, 9, none⟩ = some (.int .i64 a0_9) := (blk_cell BK107.out 9).trans rfl
                    have hcz30_10 : wc.cell? ⟨gb107, 10, none⟩ = some (.int .i64 a0_10) := (blk_cell BK107.out 10).trans rfl
                    have hcz30_11 : wc.cell? ⟨gb107, 11, none⟩ = some (.int .i64 a0_11) := (blk_cell BK107.out 11).trans rfl
                    have hcz30_12 : wc.cell? ⟨gb107, 12, none⟩ = some (.int .i64 a0_12) := (blk_cell BK107.out 12).trans rfl
                    have hcz30_13 : wc.cell? ⟨gb107, 13, none⟩ = some (.int .i64 a0_13) := (blk_cell BK107.out 13).trans rfl
                    have hcz30_14 : wc.cell? ⟨gb107, 14, none⟩ = some (.int .i64 a0_14) := (blk_cell BK107.out 14).trans rfl
                    have hcz30_15 : wc.cell? ⟨gb107, 15, none⟩ = some (.int .i64 a0_15) := (blk_cell BK107.out 15).trans rfl
                    have hcz30_16 : wc.cell? ⟨gb107, 16, none⟩ = some (.int .i64 a0_16) := (blk_cell BK107.out 16).trans rfl
                    have hcz30_17 : wc.cell? ⟨gb107, 17, none⟩ = some (.int .i64 a0_17) := (blk_cell BK107.out 17).trans rfl
                    have hcz30_18 : wc.cell? ⟨gb107, 18, none⟩ = some (.int .i64 a0_18) := (blk_cell BK107.out 18).trans rfl
                    have hcz30_19 : wc.cell? ⟨gb107, 19, none⟩ = some (.int .i64 a0_19) := (blk_cell BK107.out 19).trans rfl
                    have hcz30_20 : wc.cell? ⟨gb107, 20, none⟩ = some (.int .i64 a0_20) := (blk_cell BK107.out 20).trans rfl
                    have hcz30_21 : wc.cell? ⟨gb107, 21, none⟩ = some (.int .i64 a0_21) := (blk_cell BK107.out 21).trans rfl
                    have hcz30_22 : wc.cell? ⟨gb107, 22, none⟩ = some (.int .i64 a0_22) := (blk_cell BK107.out 22).trans rfl
                    have hfz30_0 := blk_frozen BK107.out 0
                    have hfz30_1 := blk_frozen BK107.out 1
                    have hfz30_2 := blk_frozen BK107.out 2
                    have hfz30_3 := blk_frozen BK107.out 3
                    have hfz30_4 := blk_frozen BK107.out 4
                    have hfz30_5 := blk_frozen BK107.out 5
                    have hfz30_6 := blk_frozen BK107.out 6
                    have hfz30_7 := blk_frozen BK107.out 7
                    have hfz30_8 := blk_frozen BK107.out 8
                    have hfz30_9 := blk_frozen BK107.out 9
                    have hfz30_10 := blk_frozen BK107.out 10
                    have hfz30_11 := blk_frozen BK107.out 11
                    have hfz30_12 := blk_frozen BK107.out 12
                    have hfz30_13 := blk_frozen BK107.out 13
                    have hfz30_14 := blk_frozen BK107.out 14
                    have hfz30_15 := blk_frozen BK107.out 15
                    have hfz30_16 := blk_frozen BK107.out 16
                    have hfz30_17 := blk_frozen BK107.out 17
                    have hfz30_18 := blk_frozen BK107.out 18
                    have hfz30_19 := blk_frozen BK107.out 19
                    have hfz30_20 := blk_frozen BK107.out 20
                    have hfz30_21 := blk_frozen BK107.out 21
                    have hfz30_22 := blk_frozen BK107.out 22
                    go_wp2_with (first | ((with_reducible refine gate_callee (f := 69) rfl ?_); refine goesL_ (some 43) rfl rfl Try.func69 (by kernel_rfl) rfl #[.int .i64 a0_4] rfl (by (try simp only [List.map_toArray, List.map_cons, List.map_nil]); first | done | rfl | (simp only [List.length_drop, List.length_take]; rfl)) ?_; (with_reducible refine (spec_l9Cost.calls a0_4 true _ A21.out).mono ?_); rintro e w' ⟨rfl, ⟨nd, rfl⟩⟩; refine ⟨_, rfl, ?_⟩) | (go_at_call 69; (with_reducible refine (spec_l9Cost.calls a0_5 true _ A23.out).mono ?_); rintro e w' ⟨rfl, ⟨nd, rfl⟩⟩) | (go_at_call 69; (with_reducible refine (spec_l9Cost.calls a0_6 true _ A25.out).mono ?_); rintro e w' ⟨rfl, ⟨nd, rfl⟩⟩) | (go_at_call 69; (with_reducible refine (spec_l9Cost.calls a0_7 true _ A27.out).mono ?_); rintro e w' ⟨rfl, ⟨nd, rfl⟩⟩))
                    go_meet
                    case rel => exact ⟨_, (true), (by first | rfl | (simp; done) | (simp [*]; done)), H', ⟨by have := HJ1.out; first | omega | exact Nat.le_refl _⟩, ⟨by (with_reducible repeat (first | refine blk_drewN ?_ _ | refine blk_drew ?_ | refine blk_alloc ?_ _)); exact BK107.out⟩, ⟨by repeat (first | (with_reducible first | exact HB.out | apply below_alloc | apply pw_below_drewN | apply below_drew1 | refine below_set ?_ GE107.out) | exact HB.out)⟩⟩
                  · rw [if_neg c29] at H
                    have c29b0 : decide (10000 < a0_4) = false := decide_eq_false c29
                    clear c29
                    (first | rw [c29b0] | (simp only [i64_w, i32_w]; rw [c29b0]) | skip)
                    have H' := Aside0.mk H
                    clear H
                    have hcz31_0 : wc.cell? ⟨gb107, 0, none⟩ = some (.int .i64 a0_0) := (blk_cell BK107.out 0).trans rfl
                    have hcz31_1 : wc.cell? ⟨gb107, 1, none⟩ = some (.int .i64 a0_1) := (blk_cell BK107.out 1).trans rfl
                    have hcz31_2 : wc.cell? ⟨gb107, 2, none⟩ = some (.int .i64 a0_2) := (blk_cell BK107.out 2).trans rfl
                    have hcz31_3 : wc.cell? ⟨gb107, 3, none⟩ = some (.int .i64 a0_3) := (blk_cell BK107.out 3).trans rfl
                    have hcz31_4 : wc.cell? ⟨gb107, 4, none⟩ = some (.int .i64 a0_4) := (blk_cell BK107.out 4).trans rfl
                    have hcz31_5 : wc.cell? ⟨gb107, 5, none⟩ = some (.int .i64 a0_5) := (blk_cell BK107.out 5).trans rfl
                    have hcz31_6 : wc.cell? ⟨gb107, 6, none⟩ = some (.int .i64 a0_6) := (blk_cell BK107.out 6).trans rfl
                    have hcz31_7 : wc.cell? ⟨gb107, 7, none⟩ = some (.int .i64 a0_7) := (blk_cell BK107.out 7).trans rfl
                    have hcz31_8 : wc.cell? ⟨gb107, 8, none⟩ = some (.int .i64 a0_8) := (blk_cell BK107.out 8).trans rfl
                    have hcz31_9 : wc.cell? ⟨gb107, 9, none⟩ = some (.int .i64 a0_9) := (blk_cell BK107.out 9).trans rfl
                    have hcz31_10 : wc.cell? ⟨gb107, 10, none⟩ = some (.int .i64 a0_10) := (blk_cell BK107.out 10).trans rfl
                    have hcz31_11 : wc.cell? ⟨gb107, 11, none⟩ = some (.int .i64 a0_11) := (blk_cell BK107.out 11).trans rfl
                    have hcz31_12 : wc.cell? ⟨gb107, 12, none⟩ = some (.int .i64 a0_12) := (blk_cell BK107.out 12).trans rfl
                    have hcz31_13 : wc.cell? ⟨gb107, 13, none⟩ = some (.int .i64 a0_13) := (blk_cell BK107.out 13).trans rfl
                    have hcz31_14 : wc.cell? ⟨gb107, 14, none⟩ = some (.int .i64 a0_14) := (blk_cell BK107.out 14).trans rfl
                    have hcz31_15 : wc.cell? ⟨gb107, 15, none⟩ = some (.int .i64 a0_15) := (blk_cell BK107.out 15).trans rfl
                    have hcz31_16 : wc.cell? ⟨gb107, 16, none⟩ = some (.int .i64 a0_16) := (blk_cell BK107.out 16).trans rfl
                    have hcz31_17 : wc.cell? ⟨gb107, 17, none⟩ = some (.int .i64 a0_17) := (blk_cell BK107.out 17).trans rfl
                    have hcz31_18 : wc.cell? ⟨gb107, 18, none⟩ = some (.int .i64 a0_18) := (blk_cell BK107.out 18).trans rfl
                    have hcz31_19 : wc.cell? ⟨gb107, 19, none⟩ = some (.int .i64 a0_19) := (blk_cell BK107.out 19).trans rfl
                    have hcz31_20 : wc.cell? ⟨gb107, 20, none⟩ = some (.int .i64 a0_20) := (blk_cell BK107.out 20).trans rfl
                    have hcz31_21 : wc.cell? ⟨gb107, 21, none⟩ = some (.int .i64 a0_21) := (blk_cell BK107.out 21).trans rfl
                    have hcz31_22 : wc.cell? ⟨gb107, 22, none⟩ = some (.int .i64 a0_22) := (blk_cell BK107.out 22).trans rfl
                    have hfz31_0 := blk_frozen BK107.out 0
                    have hfz31_1 := blk_frozen BK107.out 1
                    have hfz31_2 := blk_frozen BK107.out 2
                    have hfz31_3 := blk_frozen BK107.out 3
                    have hfz31_4 := blk_frozen BK107.out 4
                    have hfz31_5 := blk_frozen BK107.out 5
                    have hfz31_6 := blk_frozen BK107.out 6
                    have hfz31_7 := blk_frozen BK107.out 7
                    have hfz31_8 := blk_frozen BK107.out 8
                    have hfz31_9 := blk_frozen BK107.out 9
                    have hfz31_10 := blk_frozen BK107.out 10
                    have hfz31_11 := blk_frozen BK107.out 11
                    have hfz31_12 := blk_frozen BK107.out 12
                    have hfz31_13 := blk_frozen BK107.out 13
                    have hfz31_14 := blk_frozen BK107.out 14
                    have hfz31_15 := blk_frozen BK107.out 15
                    have hfz31_16 := blk_frozen BK107.out 16
                    have hfz31_17 := blk_frozen BK107.out 17
                    have hfz31_18 := blk_frozen BK107.out 18
                    have hfz31_19 := blk_frozen BK107.out 19
                    have hfz31_20 := blk_frozen BK107.out 20
                    have hfz31_21 := blk_frozen BK107.out 21
                    have hfz31_22 := blk_frozen BK107.out 22
                    go_wp2_with (first | ((with_reducible refine gate_callee (f := 69) rfl ?_); refine goesL_ (some 43) rfl rfl Try.func69 (by kernel_rfl) rfl #[.int .i64 a0_4] rfl (by (try simp only [List.map_toArray, List.map_cons, List.map_nil]); first | done | rfl | (simp only [List.length_drop, List.length_take]; rfl)) ?_; (with_reducible refine (spec_l9Cost.calls a0_4 true _ A21.out).mono ?_); rintro e w' ⟨rfl, ⟨nd, rfl⟩⟩; refine ⟨_, rfl, ?_⟩) | (go_at_call 69; (with_reducible refine (spec_l9Cost.calls a0_5 true _ A23.out).mono ?_); rintro e w' ⟨rfl, ⟨nd, rfl⟩⟩) | (go_at_call 69; (with_reducible refine (spec_l9Cost.calls a0_6 true _ A25.out).mono ?_); rintro e w' ⟨rfl, ⟨nd, rfl⟩⟩) | (go_at_call 69; (with_reducible refine (spec_l9Cost.calls a0_7 true _ A27.out).mono ?_); rintro e w' ⟨rfl, ⟨nd, rfl⟩⟩))
                    go_meet
                    case rel => exact ⟨_, (decide (a0_5 > 10000)), (by first | rfl | (simp; done) | (simp [*]; done)), H', ⟨by have := HJ1.out; first | omega | exact Nat.le_refl _⟩, ⟨by (with_reducible repeat (first | refine blk_drewN ?_ _ | refine blk_drew ?_ | refine blk_alloc ?_ _)); exact BK107.out⟩, ⟨by repeat (first | (with_reducible first | exact HB.out | apply below_alloc | apply pw_below_drewN | apply below_drew1 | refine below_set ?_ GE107.out) | exact HB.out)⟩⟩
                · replace c28 := Bool.eq_false_iff.mpr c28
                  subst c28
                  have H1 : (spec_StyleOk.j1 kj1 true a0_0 a0_1 a0_2 a0_3 a0_4 a0_5 a0_6 a0_7 a0_8 a0_9 a0_10 a0_11 a0_12 a0_13 a0_14 a0_15 a0_16 a0_17 a0_18 a0_19 a0_20 a0_21 a0_22) = some r := by rw [if_neg (show ¬ (false = true) by decide)] at H; exact H
                  clear H
                  have H := H1
                  clear H1
                  have H' := Aside0.mk H
                  clear H
                  have hcz32_0 : wc.cell? ⟨gb107, 0, none⟩ = some (.int .i64 a0_0) := (blk_cell BK107.out 0).trans rfl
                  have hcz32_1 : wc.cell? ⟨gb107, 1, none⟩ = some (.int .i64 a0_1) := (blk_cell BK107.out 1).trans rfl
                  have hcz32_2 : wc.cell? ⟨gb107, 2, none⟩ = some (.int .i64 a0_2) := (blk_cell BK107.out 2).trans rfl
                  have hcz32_3 : wc.cell? ⟨gb107, 3, none⟩ = some (.int .i64 a0_3) := (blk_cell BK107.out 3).trans rfl
                  have hcz32_4 : wc.cell? ⟨gb107, 4, none⟩ = some (.int .i64 a0_4) := (blk_cell BK107.out 4).trans rfl
                  have hcz32_5 : wc.cell? ⟨gb107, 5, none⟩ = some (.int .i64 a0_5) := (blk_cell BK107.out 5).trans rfl
                  have hcz32_6 : wc.cell? ⟨gb107, 6, none⟩ = some (.int .i64 a0_6) := (blk_cell BK107.out 6).trans rfl
                  have hcz32_7 : wc.cell? ⟨gb107, 7, none⟩ = some (.int .i64 a0_7) := (blk_cell BK107.out 7).trans rfl
                  have hcz32_8 : wc.cell? ⟨gb107, 8, none⟩ = some (.int .i64 a0_8) := (blk_cell BK107.out 8).trans rfl
                  have hcz32_9 : wc.cell? ⟨gb107, 9, none⟩ = some (.int .i64 a0_9) := (blk_cell BK107.out 9).trans rfl
                  have hcz32_10 : wc.cell? ⟨gb107, 10, none⟩ = some (.int .i64 a0_10) := (blk_cell BK107.out 10).trans rfl
                  have hcz32_11 : wc.cell? ⟨gb107, 11, none⟩ = some (.int .i64 a0_11) := (blk_cell BK107.out 11).trans rfl
                  have hcz32_12 : wc.cell? ⟨gb107, 12, none⟩ = some (.int .i64 a0_12) := (blk_cell BK107.out 12).trans rfl
                  have hcz32_13 : wc.cell? ⟨gb107, 13, none⟩ = some (.int .i64 a0_13) := (blk_cell BK107.out 13).trans rfl
                  have hcz32_14 : wc.cell? ⟨gb107, 14, none⟩ = some (.int .i64 a0_14) := (blk_cell BK107.out 14).trans rfl
                  have hcz32_15 : wc.cell? ⟨gb107, 15, none⟩ = some (.int .i64 a0_15) := (blk_cell BK107.out 15).trans rfl
                  have hcz32_16 : wc.cell? ⟨gb107, 16, none⟩ = some (.int .i64 a0_16) := (blk_cell BK107.out 16).trans rfl
                  have hcz32_17 : wc.cell? ⟨gb107, 17, none⟩ = some (.int .i64 a0_17) := (blk_cell BK107.out 17).trans rfl
                  have hcz32_18 : wc.cell? ⟨gb107, 18, none⟩ = some (.int .i64 a0_18) := (blk_cell BK107.out 18).trans rfl
                  have hcz32_19 : wc.cell? ⟨gb107, 19, none⟩ = some (.int .i64 a0_19) := (blk_cell BK107.out 19).trans rfl
                  have hcz32_20 : wc.cell? ⟨gb107, 20, none⟩ = some (.int .i64 a0_20) := (blk_cell BK107.out 20).trans rfl
                  have hcz32_21 : wc.cell? ⟨gb107, 21, none⟩ = some (.int .i64 a0_21) := (blk_cell BK107.out 21).trans rfl
                  have hcz32_22 : wc.cell? ⟨gb107, 22, none⟩ = some (.int .i64 a0_22) := (blk_cell BK107.out 22).trans rfl
                  have hfz32_0 := blk_frozen BK107.out 0
                  have hfz32_1 := blk_frozen BK107.out 1
                  have hfz32_2 := blk_frozen BK107.out 2
                  have hfz32_3 := blk_frozen BK107.out 3
                  have hfz32_4 := blk_frozen BK107.out 4
                  have hfz32_5 := blk_frozen BK107.out 5
                  have hfz32_6 := blk_frozen BK107.out 6
                  have hfz32_7 := blk_frozen BK107.out 7
                  have hfz32_8 := blk_frozen BK107.out 8
                  have hfz32_9 := blk_frozen BK107.out 9
                  have hfz32_10 := blk_frozen BK107.out 10
                  have hfz32_11 := blk_frozen BK107.out 11
                  have hfz32_12 := blk_frozen BK107.out 12
                  have hfz32_13 := blk_frozen BK107.out 13
                  have hfz32_14 := blk_frozen BK107.out 14
                  have hfz32_15 := blk_frozen BK107.out 15
                  have hfz32_16 := blk_frozen BK107.out 16
                  have hfz32_17 := blk_frozen BK107.out 17
                  have hfz32_18 := blk_frozen BK107.out 18
                  have hfz32_19 := blk_frozen BK107.out 19
                  have hfz32_20 := blk_frozen BK107.out 20
                  have hfz32_21 := blk_frozen BK107.out 21
                  have hfz32_22 := blk_frozen BK107.out 22
                  go_wp2_with (first | ((with_reducible refine gate_callee (f := 69) rfl ?_); refine goesL_ (some 43) rfl rfl Try.func69 (by kernel_rfl) rfl #[.int .i64 a0_4] rfl (by (try simp only [List.map_toArray, List.map_cons, List.map_nil]); first | done | rfl | (simp only [List.length_drop, List.length_take]; rfl)) ?_; (with_reducible refine (spec_l9Cost.calls a0_4 true _ A21.out).mono ?_); rintro e w' ⟨rfl, ⟨nd, rfl⟩⟩; refine ⟨_, rfl, ?_⟩) | (go_at_call 69; (with_reducible refine (spec_l9Cost.calls a0_5 true _ A23.out).mono ?_); rintro e w' ⟨rfl, ⟨nd, rfl⟩⟩) | (go_at_call 69; (with_reducible refine (spec_l9Cost.calls a0_6 true _ A25.out).mono ?_); rintro e w' ⟨rfl, ⟨nd, rfl⟩⟩) | (go_at_call 69; (with_reducible refine (spec_l9Cost.calls a0_7 false _ A27.out).mono ?_); rintro e w' ⟨rfl, ⟨nd, rfl⟩⟩))
                  go_meet
                  case rel => exact ⟨_, (true), (by first | rfl | (simp; done) | (simp [*]; done)), H', ⟨by have := HJ1.out; first | omega | exact Nat.le_refl _⟩, ⟨by (with_reducible repeat (first | refine blk_drewN ?_ _ | refine blk_drew ?_ | refine blk_alloc ?_ _)); exact BK107.out⟩, ⟨by repeat (first | (with_reducible first | exact HB.out | apply below_alloc | apply pw_below_drewN | apply below_drew1 | refine below_set ?_ GE107.out) | exact HB.out)⟩⟩
              · replace c26 := Bool.eq_false_iff.mpr c26
                subst c26
                have H1 : (spec_StyleOk.j1 kj1 true a0_0 a0_1 a0_2 a0_3 a0_4 a0_5 a0_6 a0_7 a0_8 a0_9 a0_10 a0_11 a0_12 a0_13 a0_14 a0_15 a0_16 a0_17 a0_18 a0_19 a0_20 a0_21 a0_22) = some r := by rw [if_neg (show ¬ (false = true) by decide)] at H; exact H
                clear H
                have H := H1
                clear H1
                have H' := Aside0.mk H
                clear H
                have hcz33_0 : wc.cell? ⟨gb107, 0, none⟩ = some (.int .i64 a0_0) := (blk_cell BK107.out 0).trans rfl
                have hcz33_1 : wc.cell? ⟨gb107, 1, none⟩ = some (.int .i64 a0_1) := (blk_cell BK107.out 1).trans rfl
                have hcz33_2 : wc.cell? ⟨gb107, 2, none⟩ = some (.int .i64 a0_2) := (blk_cell BK107.out 2).trans rfl
                have hcz33_3 : wc.cell? ⟨gb107, 3, none⟩ = some (.int .i64 a0_3) := (blk_cell BK107.out 3).trans rfl
                have hcz33_4 : wc.cell? ⟨gb107, 4, none⟩ = some (.int .i64 a0_4) := (blk_cell BK107.out 4).trans rfl
                have hcz33_5 : wc.cell? ⟨gb107, 5, none⟩ = some (.int .i64 a0_5) := (blk_cell BK107.out 5).trans rfl
                have hcz33_6 : wc.cell? ⟨gb107, 6, none⟩ = some (.int .i64 a0_6) := (blk_cell BK107.out 6).trans rfl
                have hcz33_7 : wc.cell? ⟨gb107, 7, none⟩ = some (.int .i64 a0_7) := (blk_cell BK107.out 7).trans rfl
                have hcz33_8 : wc.cell? ⟨gb107, 8, none⟩ = some (.int .i64 a0_8) := (blk_cell BK107.out 8).trans rfl
                have hcz33_9 : wc.cell? ⟨gb107, 9, none⟩ = some (.int .i64 a0_9) := (blk_cell BK107.out 9).trans rfl
                have hcz33_10 : wc.cell? ⟨gb107, 10, none⟩ = some (.int .i64 a0_10) := (blk_cell BK107.out 10).trans rfl
                have hcz33_11 : wc.cell? ⟨gb107, 11, none⟩ = some (.int .i64 a0_11) := (blk_cell BK107.out 11).trans rfl
                have hcz33_12 : wc.cell? ⟨gb107, 12, none⟩ = some (.int .i64 a0_12) := (blk_cell BK107.out 12).trans rfl
                have hcz33_13 : wc.cell? ⟨gb107, 13, none⟩ = some (.int .i64 a0_13) := (blk_cell BK107.out 13).trans rfl
                have hcz33_14 : wc.cell? ⟨gb107, 14, none⟩ = some (.int .i64 a0_14) := (blk_cell BK107.out 14).trans rfl
                have hcz33_15 : wc.cell? ⟨gb107, 15, none⟩ = some (.int .i64 a0_15) := (blk_cell BK107.out 15).trans rfl
                have hcz33_16 : wc.cell? ⟨gb107, 16, none⟩ = some (.int .i64 a0_16) := (blk_cell BK107.out 16).trans rfl
                have hcz33_17 : wc.cell? ⟨gb107, 17, none⟩ = some (.int .i64 a0_17) := (blk_cell BK107.out 17).trans rfl
                have hcz33_18 : wc.cell? ⟨gb107, 18, none⟩ = some (.int .i64 a0_18) := (blk_cell BK107.out 18).trans rfl
                have hcz33_19 : wc.cell? ⟨gb107, 19, none⟩ = some (.int .i64 a0_19) := (blk_cell BK107.out 19).trans rfl
                have hcz33_20 : wc.cell? ⟨gb107, 20, none⟩ = some (.int .i64 a0_20) := (blk_cell BK107.out 20).trans rfl
                have hcz33_21 : wc.cell? ⟨gb107, 21, none⟩ = some (.int .i64 a0_21) := (blk_cell BK107.out 21).trans rfl
                have hcz33_22 : wc.cell? ⟨gb107, 22, none⟩ = some (.int .i64 a0_22) := (blk_cell BK107.out 22).trans rfl
                have hfz33_0 := blk_frozen BK107.out 0
                have hfz33_1 := blk_frozen BK107.out 1
                have hfz33_2 := blk_frozen BK107.out 2
                have hfz33_3 := blk_frozen BK107.out 3
                have hfz33_4 := blk_frozen BK107.out 4
                have hfz33_5 := blk_frozen BK107.out 5
                have hfz33_6 := blk_frozen BK107.out 6
                have hfz33_7 := blk_frozen BK107.out 7
                have hfz33_8 := blk_frozen BK107.out 8
                have hfz33_9 := blk_frozen BK107.out 9
                have hfz33_10 := blk_frozen BK107.out 10
                have hfz33_11 := blk_frozen BK107.out 11
                have hfz33_12 := blk_frozen BK107.out 12
                have hfz33_13 := blk_frozen BK107.out 13
                have hfz33_14 := blk_frozen BK107.out 14
                have hfz33_15 := blk_frozen BK107.out 15
                have hfz33_16 := blk_frozen BK107.out 16
                have hfz33_17 := blk_frozen BK107.out 17
                have hfz33_18 := blk_frozen BK107.out 18
                have hfz33_19 := blk_frozen BK107.out 19
                have hfz33_20 := blk_frozen BK107.out 20
                have hfz33_21 := blk_frozen BK107.out 21
                have hfz33_22 := blk_frozen BK107.out 22
                go_wp2_with (first | ((with_reducible refine gate_callee (f := 69) rfl ?_); refine goesL_ (some 43) rfl rfl Try.func69 (by kernel_rfl) rfl #[.int .i64 a0_4] rfl (by (try simp only [List.map_toArray, List.map_cons, List.map_nil]); first | done | rfl | (simp only [List.length_drop, List.length_take]; rfl)) ?_; (with_reducible refine (spec_l9Cost.calls a0_4 true _ A21.out).mono ?_); rintro e w' ⟨rfl, ⟨nd, rfl⟩⟩; refine ⟨_, rfl, ?_⟩) | (go_at_call 69; (with_reducible refine (spec_l9Cost.calls a0_5 true _ A23.out).mono ?_); rintro e w' ⟨rfl, ⟨nd, rfl⟩⟩) | (go_at_call 69; (with_reducible refine (spec_l9Cost.calls a0_6 false _ A25.out).mono ?_); rintro e w' ⟨rfl, ⟨nd, rfl⟩⟩))
                go_meet
                case rel => exact ⟨_, (true), (by first | rfl | (simp; done) | (simp [*]; done)), H', ⟨by have := HJ1.out; first | omega | exact Nat.le_refl _⟩, ⟨by (with_reducible repeat (first | refine blk_drewN ?_ _ | refine blk_drew ?_ | refine blk_alloc ?_ _)); exact BK107.out⟩, ⟨by repeat (first | (with_reducible first | exact HB.out | apply below_alloc | apply pw_below_drewN | apply below_drew1 | refine below_set ?_ GE107.out) | exact HB.out)⟩⟩
            · replace c24 := Bool.eq_false_iff.mpr c24
              subst c24
              have H1 : (spec_StyleOk.j1 kj1 true a0_0 a0_1 a0_2 a0_3 a0_4 a0_5 a0_6 a0_7 a0_8 a0_9 a0_10 a0_11 a0_12 a0_13 a0_14 a0_15 a0_16 a0_17 a0_18 a0_19 a0_20 a0_21 a0_22) = some r := by rw [if_neg (show ¬ (false = true) by decide)] at H; exact H
              clear H
              have H := H1
              clear H1
              have H' := Aside0.mk H
              clear H
              have hcz34_0 : wc.cell? ⟨gb107, 0, none⟩ = some (.int .i64 a0_0) := (blk_cell BK107.out 0).trans rfl
              have hcz34_1 : wc.cell? ⟨gb107, 1, none⟩ = some (.int .i64 a0_1) := (blk_cell BK107.out 1).trans rfl
              have hcz34_2 : wc.cell? ⟨gb107, 2, none⟩ = some (.int .i64 a0_2) := (blk_cell BK107.out 2).trans rfl
              have hcz34_3 : wc.cell? ⟨gb107, 3, none⟩ = some (.int .i64 a0_3) := (blk_cell BK107.out 3).trans rfl
              have hcz34_4 : wc.cell? ⟨gb107, 4, none⟩ = some (.int .i64 a0_4) := (blk_cell BK107.out 4).trans rfl
              have hcz34_5 : wc.cell? ⟨gb107, 5, none⟩ = some (.int .i64 a0_5) := (blk_cell BK107.out 5).trans rfl
              have hcz34_6 : wc.cell? ⟨gb107, 6, none⟩ = some (.int .i64 a0_6) := (blk_cell BK107.out 6).trans rfl
              have hcz34_7 : wc.cell? ⟨gb107, 7, none⟩ = some (.int .i64 a0_7) := (blk_cell BK107.out 7).trans rfl
              have hcz34_8 : wc.cell? ⟨gb107, 8, none⟩ = some (.int .i64 a0_8) := (blk_cell BK107.out 8).trans rfl
              have hcz34_9 : wc.cell? ⟨gb107, 9, none⟩ = some (.int .i64 a0_9) := (blk_cell BK107.out 9).trans rfl
              have hcz34_10 : wc.cell? ⟨gb107, 10, none⟩ = some (.int .i64 a0_10) := (blk_cell BK107.out 10).trans rfl
              have hcz34_11 : wc.cell? ⟨gb107, 11, none⟩ = some (.int .i64 a0_11) := (blk_cell BK107.out 11).trans rfl
              have hcz34_12 : wc.cell? ⟨gb107, 12, none⟩ = some (.int .i64 a0_12) := (blk_cell BK107.out 12).trans rfl
              have hcz34_13 : wc.cell? ⟨gb107, 13, none⟩ = some (.int .i64 a0_13) := (blk_cell BK107.out 13).trans rfl
              have hcz34_14 : wc.cell? ⟨gb107, 14, none⟩ = some (.int .i64 a0_14) := (blk_cell BK107.out 14).trans rfl
              have hcz34_15 : wc.cell? ⟨gb107, 15, none⟩ = some (.int .i64 a0_15) := (blk_cell BK107.out 15).trans rfl
              have hcz34_16 : wc.cell? ⟨gb107, 16, none⟩ = some (.int .i64 a0_16) := (blk_cell BK107.out 16).trans rfl
              have hcz34_17 : wc.cell? ⟨gb107, 17, none⟩ = some (.int .i64 a0_17) := (blk_cell BK107.out 17).trans rfl
              have hcz34_18 : wc.cell? ⟨gb107, 18, none⟩ = some (.int .i64 a0_18) := (blk_cell BK107.out 18).trans rfl
              have hcz34_19 : wc.cell? ⟨gb107, 19, none⟩ = some (.int .i64 a0_19) := (blk_cell BK107.out 19).trans rfl
              have hcz34_20 : wc.cell? ⟨gb107, 20, none⟩ = some (.int .i64 a0_20) := (blk_cell BK107.out 20).trans rfl
              have hcz34_21 : wc.cell? ⟨gb107, 21, none⟩ = some (.int .i64 a0_21) := (blk_cell BK107.out 21).trans rfl
              have hcz34_22 : wc.cell? ⟨gb107, 22, none⟩ = some (.int .i64 a0_22) := (blk_cell BK107.out 22).trans rfl
              have hfz34_0 := blk_frozen BK107.out 0
              have hfz34_1 := blk_frozen BK107.out 1
              have hfz34_2 := blk_frozen BK107.out 2
              have hfz34_3 := blk_frozen BK107.out 3
              have hfz34_4 := blk_frozen BK107.out 4
              have hfz34_5 := blk_frozen BK107.out 5
              have hfz34_6 := blk_frozen BK107.out 6
              have hfz34_7 := blk_frozen BK107.out 7
              have hfz34_8 := blk_frozen BK107.out 8
              have hfz34_9 := blk_frozen BK107.out 9
              have hfz34_10 := blk_frozen BK107.out 10
              have hfz34_11 := blk_frozen BK107.out 11
              have hfz34_12 := blk_frozen BK107.out 12
              have hfz34_13 := blk_frozen BK107.out 13
              have hfz34_14 := blk_frozen BK107.out 14
              have hfz34_15 := blk_frozen BK107.out 15
              have hfz34_16 := blk_frozen BK107.out 16
              have hfz34_17 := blk_frozen BK107.out 17
              have hfz34_18 := blk_frozen BK107.out 18
              have hfz34_19 := blk_frozen BK107.out 19
              have hfz34_20 := blk_frozen BK107.out 20
              have hfz34_21 := blk_frozen BK107.out 21
              have hfz34_22 := blk_frozen BK107.out 22
              go_wp2_with (first | ((with_reducible refine gate_callee (f := 69) rfl ?_); refine goesL_ (some 43) rfl rfl Try.func69 (by kernel_rfl) rfl #[.int .i64 a0_4] rfl (by (try simp only [List.map_toArray, List.map_cons, List.map_nil]); first | done | rfl | (simp only [List.length_drop, List.length_take]; rfl)) ?_; (with_reducible refine (spec_l9Cost.calls a0_4 true _ A21.out).mono ?_); rintro e w' ⟨rfl, ⟨nd, rfl⟩⟩; refine ⟨_, rfl, ?_⟩) | (go_at_call 69; (with_reducible refine (spec_l9Cost.calls a0_5 false _ A23.out).mono ?_); rintro e w' ⟨rfl, ⟨nd, rfl⟩⟩))
              go_meet
              case rel => exact ⟨_, (true), (by first | rfl | (simp; done) | (simp [*]; done)), H', ⟨by have := HJ1.out; first | omega | exact Nat.le_refl _⟩, ⟨by (with_reducible repeat (first | refine blk_drewN ?_ _ | refine blk_drew ?_ | refine blk_alloc ?_ _)); exact BK107.out⟩, ⟨by repeat (first | (with_reducible first | exact HB.out | apply below_alloc | apply pw_below_drewN | apply below_drew1 | refine below_set ?_ GE107.out) | exact HB.out)⟩⟩
          · replace c22 := Bool.eq_false_iff.mpr c22
            subst c22
            have H1 : (spec_StyleOk.j1 kj1 true a0_0 a0_1 a0_2 a0_3 a0_4 a0_5 a0_6 a0_7 a0_8 a0_9 a0_10 a0_11 a0_12 a0_13 a0_14 a0_15 a0_16 a0_17 a0_18 a0_19 a0_20 a0_21 a0_22) = some r := by rw [if_neg (show ¬ (false = true) by decide)] at H; exact H
            clear H
            have H := H1
            clear H1
            have H' := Aside0.mk H
            clear H
            have hcz35_0 : wc.cell? ⟨gb107, 0, none⟩ = some (.int .i64 a0_0) := (blk_cell BK107.out 0).trans rfl
            have hcz35_1 : wc.cell? ⟨gb107, 1, none⟩ = some (.int .i64 a0_1) := (blk_cell BK107.out 1).trans rfl
            have hcz35_2 : wc.cell? ⟨gb107, 2, none⟩ = some (.int .i64 a0_2) := (blk_cell BK107.out 2).trans rfl
            have hcz35_3 : wc.cell? ⟨gb107, 3, none⟩ = some (.int .i64 a0_3) := (blk_cell BK107.out 3).trans rfl
            have hcz35_4 : wc.cell? ⟨gb107, 4, none⟩ = some (.int .i64 a0_4) := (blk_cell BK107.out 4).trans rfl
            have hcz35_5 : wc.cell? ⟨gb107, 5, none⟩ = some (.int .i64 a0_5) := (blk_cell BK107.out 5).trans rfl
            have hcz35_6 : wc.cell? ⟨gb107, 6, none⟩ = some (.int .i64 a0_6) := (blk_cell BK107.out 6).trans rfl
            have hcz35_7 : wc.cell? ⟨gb107, 7, none⟩ = some (.int .i64 a0_7) := (blk_cell BK107.out 7).trans rfl
            have hcz35_8 : wc.cell? ⟨gb107, 8, none⟩ = some (.int .i64 a0_8) := (blk_cell BK107.out 8).trans rfl
            have hcz35_9 : wc.cell? ⟨gb107, 9, none⟩ = some (.int .i64 a0_9) := (blk_cell BK107.out 9).trans rfl
            have hcz35_10 : wc.cell? ⟨gb107, 10, none⟩ = some (.int .i64 a0_10) := (blk_cell BK107.out 10).trans rfl
            have hcz35_11 : wc.cell? ⟨gb107, 11, none⟩ = some (.int .i64 a0_11) := (blk_cell BK107.out 11).trans rfl
            have hcz35_12 : wc.cell? ⟨gb107, 12, none⟩ = some (.int .i64 a0_12) := (blk_cell BK107.out 12).trans rfl
            have hcz35_13 : wc.cell? ⟨gb107, 13, none⟩ = some (.int .i64 a0_13) := (blk_cell BK107.out 13).trans rfl
            have hcz35_14 : wc.cell? ⟨gb107, 14, none⟩ = some (.int .i64 a0_14) := (blk_cell BK107.out 14).trans rfl
            have hcz35_15 : wc.cell? ⟨gb107, 15, none⟩ = some (.int .i64 a0_15) := (blk_cell BK107.out 15).trans rfl
            have hcz35_16 : wc.cell? ⟨gb107, 16, none⟩ = some (.int .i64 a0_16) := (blk_cell BK107.out 16).trans rfl
            have hcz35_17 : wc.cell? ⟨gb107, 17, none⟩ = some (.int .i64 a0_17) := (blk_cell BK107.out 17).trans rfl
            have hcz35_18 : wc.cell? ⟨gb107, 18, none⟩ = some (.int .i64 a0_18) := (blk_cell BK107.out 18).trans rfl
            have hcz35_19 : wc.cell? ⟨gb107, 19, none⟩ = some (.int .i64 a0_19) := (blk_cell BK107.out 19).trans rfl
            have hcz35_20 : wc.cell? ⟨gb107, 20, none⟩ = some (.int .i64 a0_20) := (blk_cell BK107.out 20).trans rfl
            have hcz35_21 : wc.cell? ⟨gb107, 21, none⟩ = some (.int .i64 a0_21) := (blk_cell BK107.out 21).trans rfl
            have hcz35_22 : wc.cell? ⟨gb107, 22, none⟩ = some (.int .i64 a0_22) := (blk_cell BK107.out 22).trans rfl
            have hfz35_0 := blk_frozen BK107.out 0
            have hfz35_1 := blk_frozen BK107.out 1
            have hfz35_2 := blk_frozen BK107.out 2
            have hfz35_3 := blk_frozen BK107.out 3
            have hfz35_4 := blk_frozen BK107.out 4
            have hfz35_5 := blk_frozen BK107.out 5
            have hfz35_6 := blk_frozen BK107.out 6
            have hfz35_7 := blk_frozen BK107.out 7
            have hfz35_8 := blk_frozen BK107.out 8
            have hfz35_9 := blk_frozen BK107.out 9
            have hfz35_10 := blk_frozen BK107.out 10
            have hfz35_11 := blk_frozen BK107.out 11
            have hfz35_12 := blk_frozen BK107.out 12
            have hfz35_13 := blk_frozen BK107.out 13
            have hfz35_14 := blk_frozen BK107.out 14
            have hfz35_15 := blk_frozen BK107.out 15
            have hfz35_16 := blk_frozen BK107.out 16
            have hfz35_17 := blk_frozen BK107.out 17
            have hfz35_18 := blk_frozen BK107.out 18
            have hfz35_19 := blk_frozen BK107.out 19
            have hfz35_20 := blk_frozen BK107.out 20
            have hfz35_21 := blk_frozen BK107.out 21
            have hfz35_22 := blk_frozen BK107.out 22
            go_wp2_with (first | ((with_reducible refine gate_callee (f := 69) rfl ?_); refine goesL_ (some 43) rfl rfl Try.func69 (by kernel_rfl) rfl #[.int .i64 a0_4] rfl (by (try simp only [List.map_toArray, List.map_cons, List.map_nil]); first | done | rfl | (simp only [List.length_drop, List.length_take]; rfl)) ?_; (with_reducible refine (spec_l9Cost.calls a0_4 false _ A21.out).mono ?_); rintro e w' ⟨rfl, ⟨nd, rfl⟩⟩; refine ⟨_, rfl, ?_⟩))
            go_meet
            case rel => exact ⟨_, (true), (by first | rfl | (simp; done) | (simp [*]; done)), H', ⟨by have := HJ1.out; first | omega | exact Nat.le_refl _⟩, ⟨by (with_reducible repeat (first | refine blk_drewN ?_ _ | refine blk_drew ?_ | refine blk_alloc ?_ _)); exact BK107.out⟩, ⟨by repeat (first | (with_reducible first | exact HB.out | apply below_alloc | apply pw_below_drewN | apply below_drew1 | refine below_set ?_ GE107.out) | exact HB.out)⟩⟩
        case rest =>
          clear HC20
          try clear c1
          try clear c2
          try clear p2
          try clear c6
          try clear c19
          try clear c22
          try clear c24
          try clear c26
          try clear c28
          try clear c29
          try clear c29b0
          try clear hcz30_0
          try clear hcz30_1
          try clear hcz30_10
          try clear hcz30_11
          try clear hcz30_12
          try clear hcz30_13
          try clear hcz30_14
          try clear hcz30_15
          try clear hcz30_16
          try clear hcz30_17
          try clear hcz30_18
          try clear hcz30_19
          try clear hcz30_2
          try clear hcz30_20
          try clear hcz30_21
          try clear hcz30_22
          try clear hcz30_3
          try clear hcz30_4
          try clear hcz30_5
          try clear hcz30_6
          try clear hcz30_7
          try clear hcz30_8
          try clear hcz30_9
          try clear hcz31_0
          try clear hcz31_1
          try clear hcz31_10
          try clear hcz31_11
          try clear hcz31_12
          try clear hcz31_13
          try clear hcz31_14
          try clear hcz31_15
          try clear hcz31_16
          try clear hcz31_17
          try clear hcz31_18
          try clear hcz31_19
          try clear hcz31_2
          try clear hcz31_20
          try clear hcz31_21
          try clear hcz31_22
          try clear hcz31_3
          try clear hcz31_4
          try clear hcz31_5
          try clear hcz31_6
          try clear hcz31_7
          try clear hcz31_8
          try clear hcz31_9
          try clear hcz32_0
          try clear hcz32_1
          try clear hcz32_10
          try clear hcz32_11
          try clear hcz32_12
          try clear hcz32_13
          try clear hcz32_14
          try clear hcz32_15
          try clear hcz32_16
          try clear hcz32_17
          try clear hcz32_18
          try clear hcz32_19
          try clear hcz32_2
          try clear hcz32_20
          try clear hcz32_21
          try clear hcz32_22
          try clear hcz32_3
          try clear hcz32_4
          try clear hcz32_5
          try clear hcz32_6
          try clear hcz32_7
          try clear hcz32_8
          try clear hcz32_9
          try clear hcz33_0
          try clear hcz33_1
          try clear hcz33_10
          try clear hcz33_11
          try clear hcz33_12
          try clear hcz33_13
          try clear hcz33_14
          try clear hcz33_15
          try clear hcz33_16
          try clear hcz33_17
          try clear hcz33_18
          try clear hcz33_19
          try clear hcz33_2
          try clear hcz33_20
          try clear hcz33_21
          try clear hcz33_22
          try clear hcz33_3
          try clear hcz33_4
          try clear hcz33_5
          try clear hcz33_6
          try clear hcz33_7
          try clear hcz33_8
          try clear hcz33_9
          try clear hcz34_0
          try clear hcz34_1
          try clear hcz34_10
          try clear hcz34_11
          try clear hcz34_12
          try clear hcz34_13
          try clear hcz34_14
          try clear hcz34_15
          try clear hcz34_16
          try clear hcz34_17
          try clear hcz34_18
          try clear hcz34_19
          try clear hcz34_2
          try clear hcz34_20
          try clear hcz34_21
          try clear hcz34_22
          try clear hcz34_3
          try clear hcz34_4
          try clear hcz34_5
          try clear hcz34_6
          try clear hcz34_7
          try clear hcz34_8
          try clear hcz34_9
          try clear hcz35_0
          try clear hcz35_1
          try clear hcz35_10
          try clear hcz35_11
          try clear hcz35_12
          try clear hcz35_13
          try clear hcz35_14
          try clear hcz35_15
          try clear hcz35_16
          try clear hcz35_17
          try clear hcz35_18
          try clear hcz35_19
          try clear hcz35_2
          try clear hcz35_20
          try clear hcz35_21
          try clear hcz35_22
          try clear hcz35_3
          try clear hcz35_4
          try clear hcz35_5
          try clear hcz35_6
          try clear hcz35_7
          try clear hcz35_8
          try clear hcz35_9
          try clear hcz9_9
          try clear hfz11_0
          try clear hfz11_1
          try clear hfz11_10
          try clear hfz11_11
          try clear hfz11_12
          try clear hfz11_13
          try clear hfz11_14
          try clear hfz11_15
          try clear hfz11_16
          try clear hfz11_17
          try clear hfz11_18
          try clear hfz11_19
          try clear hfz11_2
          try clear hfz11_20
          try clear hfz11_21
          try clear hfz11_22
          try clear hfz11_3
          try clear hfz11_4
          try clear hfz11_5
          try clear hfz11_6
          try clear hfz11_7
          try clear hfz11_8
          try clear hfz11_9
          try clear hfz13_0
          try clear hfz13_1
          try clear hfz13_10
          try clear hfz13_11
          try clear hfz13_12
          try clear hfz13_13
          try clear hfz13_14
          try clear hfz13_15
          try clear hfz13_16
          try clear hfz13_17
          try clear hfz13_18
          try clear hfz13_19
          try clear hfz13_2
          try clear hfz13_20
          try clear hfz13_21
          try clear hfz13_22
          try clear hfz13_3
          try clear hfz13_4
          try clear hfz13_5
          try clear hfz13_6
          try clear hfz13_7
          try clear hfz13_8
          try clear hfz13_9
          try clear hfz15_0
          try clear hfz15_1
          try clear hfz15_10
          try clear hfz15_11
          try clear hfz15_12
          try clear hfz15_13
          try clear hfz15_14
          try clear hfz15_15
          try clear hfz15_16
          try clear hfz15_17
          try clear hfz15_18
          try clear hfz15_19
          try clear hfz15_2
          try clear hfz15_20
          try clear hfz15_21
          try clear hfz15_22
          try clear hfz15_3
          try clear hfz15_4
          try clear hfz15_5
          try clear hfz15_6
          try clear hfz15_7
          try clear hfz15_8
          try clear hfz15_9
          try clear hfz17_0
          try clear hfz17_1
          try clear hfz17_10
          try clear hfz17_11
          try clear hfz17_12
          try clear hfz17_13
          try clear hfz17_14
          try clear hfz17_15
          try clear hfz17_16
          try clear hfz17_17
          try clear hfz17_18
          try clear hfz17_19
          try clear hfz17_2
          try clear hfz17_20
          try clear hfz17_21
          try clear hfz17_22
          try clear hfz17_3
          try clear hfz17_4
          try clear hfz17_5
          try clear hfz17_6
          try clear hfz17_7
          try clear hfz17_8
          try clear hfz17_9
          try clear hfz18_0
          try clear hfz18_1
          try clear hfz18_10
          try clear hfz18_11
          try clear hfz18_12
          try clear hfz18_13
          try clear hfz18_14
          try clear hfz18_15
          try clear hfz18_16
          try clear hfz18_17
          try clear hfz18_18
          try clear hfz18_19
          try clear hfz18_2
          try clear hfz18_20
          try clear hfz18_21
          try clear hfz18_22
          try clear hfz18_3
          try clear hfz18_4
          try clear hfz18_5
          try clear hfz18_6
          try clear hfz18_7
          try clear hfz18_8
          try clear hfz18_9
          try clear hfz30_0
          try clear hfz30_1
          try clear hfz30_10
          try clear hfz30_11
          try clear hfz30_12
          try clear hfz30_13
          try clear hfz30_14
          try clear hfz30_15
          try clear hfz30_16
          try clear hfz30_17
          try clear hfz30_18
          try clear hfz30_19
          try clear hfz30_2
          try clear hfz30_20
          try clear hfz30_21
          try clear hfz30_22
          try clear hfz30_3
          try clear hfz30_4
          try clear hfz30_5
          try clear hfz30_6
          try clear hfz30_7
          try clear hfz30_8
          try clear hfz30_9
          try clear hfz31_0
          try clear hfz31_1
          try clear hfz31_10
          try clear hfz31_11
          try clear hfz31_12
          try clear hfz31_13
          try clear hfz31_14
          try clear hfz31_15
          try clear hfz31_16
          try clear hfz31_17
          try clear hfz31_18
          try clear hfz31_19
          try clear hfz31_2
          try clear hfz31_20
          try clear hfz31_21
          try clear hfz31_22
          try clear hfz31_3
          try clear hfz31_4
          try clear hfz31_5
          try clear hfz31_6
          try clear hfz31_7
          try clear hfz31_8
          try clear hfz31_9
          try clear hfz32_0
          try clear hfz32_1
          try clear hfz32_10
          try clear hfz32_11
          try clear hfz32_12
          try clear hfz32_13
          try clear hfz32_14
          try clear hfz32_15
          try clear hfz32_16
          try clear hfz32_17
          try clear hfz32_18
          try clear hfz32_19
          try clear hfz32_2
          try clear hfz32_20
          try clear hfz32_21
          try clear hfz32_22
          try clear hfz32_3
          try clear hfz32_4
          try clear hfz32_5
          try clear hfz32_6
          try clear hfz32_7
          try clear hfz32_8
          try clear hfz32_9
          try clear hfz33_0
          try clear hfz33_1
          try clear hfz33_10
          try clear hfz33_11
          try clear hfz33_12
          try clear hfz33_13
          try clear hfz33_14
          try clear hfz33_15
          try clear hfz33_16
          try clear hfz33_17
          try clear hfz33_18
          try clear hfz33_19
          try clear hfz33_2
          try clear hfz33_20
          try clear hfz33_21
          try clear hfz33_22
          try clear hfz33_3
          try clear hfz33_4
          try clear hfz33_5
          try clear hfz33_6
          try clear hfz33_7
          try clear hfz33_8
          try clear hfz33_9
          try clear hfz34_0
          try clear hfz34_1
          try clear hfz34_10
          try clear hfz34_11
          try clear hfz34_12
          try clear hfz34_13
          try clear hfz34_14
          try clear hfz34_15
          try clear hfz34_16
          try clear hfz34_17
          try clear hfz34_18
          try clear hfz34_19
          try clear hfz34_2
          try clear hfz34_20
          try clear hfz34_21
          try clear hfz34_22
          try clear hfz34_3
          try clear hfz34_4
          try clear hfz34_5
          try clear hfz34_6
          try clear hfz34_7
          try clear hfz34_8
          try clear hfz34_9
          try clear hfz35_0
          try clear hfz35_1
          try clear hfz35_10
          try clear hfz35_11
          try clear hfz35_12
          try clear hfz35_13
          try clear hfz35_14
          try clear hfz35_15
          try clear hfz35_16
          try clear hfz35_17
          try clear hfz35_18
          try clear hfz35_19
          try clear hfz35_2
          try clear hfz35_20
          try clear hfz35_21
          try clear hfz35_22
          try clear hfz35_3
          try clear hfz35_4
          try clear hfz35_5
          try clear hfz35_6
          try clear hfz35_7
          try clear hfz35_8
          try clear hfz35_9
          try clear hfz5_0
          try clear hfz5_1
          try clear hfz5_10
          try clear hfz5_11
          try clear hfz5_12
          try clear hfz5_13
          try clear hfz5_14
          try clear hfz5_15
          try clear hfz5_16
          try clear hfz5_17
          try clear hfz5_18
          try clear hfz5_19
          try clear hfz5_2
          try clear hfz5_20
          try clear hfz5_21
          try clear hfz5_22
          try clear hfz5_3
          try clear hfz5_4
          try clear hfz5_5
          try clear hfz5_6
          try clear hfz5_7
          try clear hfz5_8
          try clear hfz5_9
          try clear hfz7_0
          try clear hfz7_1
          try clear hfz7_10
          try clear hfz7_11
          try clear hfz7_12
          try clear hfz7_13
          try clear hfz7_14
          try clear hfz7_15
          try clear hfz7_16
          try clear hfz7_17
          try clear hfz7_18
          try clear hfz7_19
          try clear hfz7_2
          try clear hfz7_20
          try clear hfz7_21
          try clear hfz7_22
          try clear hfz7_3
          try clear hfz7_4
          try clear hfz7_5
          try clear hfz7_6
          try clear hfz7_7
          try clear hfz7_8
          try clear hfz7_9
          try clear hfz9_0
          try clear hfz9_1
          try clear hfz9_10
          try clear hfz9_11
          try clear hfz9_12
          try clear hfz9_13
          try clear hfz9_14
          try clear hfz9_15
          try clear hfz9_16
          try clear hfz9_17
          try clear hfz9_18
          try clear hfz9_19
          try clear hfz9_2
          try clear hfz9_20
          try clear hfz9_21
          try clear hfz9_22
          try clear hfz9_3
          try clear hfz9_4
          try clear hfz9_5
          try clear hfz9_6
          try clear hfz9_7
          try clear hfz9_8
          try clear hfz9_9
          obtain ⟨kq, x72_19, rfl, HA, HJ19, BK107, HB⟩ := hcut
          cases kq with
          | zero => exact absurd HA.out (by simp [spec_StyleOk.j1])
          | succ kj19 =>
            have H := HA.out
            clear HA
            simp only [spec_StyleOk.j1] at H
            by_cases c36 : x72_19 = true
            · subst c36
              have H1 : (some false) = some r := by rw [if_pos rfl] at H; exact H
              clear H
              have H := H1
              clear H1
              obtain rfl := Option.some.inj H
              go_wp2
              go_ret
              exact ⟨by first | rfl | (simp [errW_none, errW_some] <;> rfl) | (simp [*, errW_none, errW_some] <;> rfl), by repeat (first | (with_reducible first | exact HB.out | apply below_alloc | apply pw_below_drewN | apply below_drew1 | refine below_set ?_ GE107.out) | exact HB.out)⟩
            · replace c36 := Bool.eq_false_iff.mpr c36
              subst c36
              have H1 : ((spec_GlueOk.f a0_8 a0_9 a0_10 a0_11 a0_12).bind fun t112 => (if t112 = true then ((spec_GlueOk.f a0_13 a0_14 a0_15 a0_16 a0_17).bind fun t113 => (if t113 = true then ((spec_GlueOk.f a0_18 a0_19 a0_20 a0_21 a0_22).bind fun t114 => (some t114)) else (some false))) else (some false))) = some r := by rw [if_neg (show ¬ (false = true) by decide)] at H; exact H
              clear H
              have H := H1
              clear H1
              replace H := Option.bind_eq_some_iff.mp H
              obtain ⟨t112, A370, H⟩ := H
              replace H : (if t112 = true then ((spec_GlueOk.f a0_13 a0_14 a0_15 a0_16 a0_17).bind fun t113 => (if t113 = true then ((spec_GlueOk.f a0_18 a0_19 a0_20 a0_21 a0_22).bind fun t114 => (some t114)) else (some false))) else (some false)) = some r := H
              have A37 := Aside0.mk A370
              clear A370
              by_cases c38 : t112 = true
              · subst c38
                have H1 : ((spec_GlueOk.f a0_13 a0_14 a0_15 a0_16 a0_17).bind fun t113 => (if t113 = true then ((spec_GlueOk.f a0_18 a0_19 a0_20 a0_21 a0_22).bind fun t114 => (some t114)) else (some false))) = some r := by rw [if_pos rfl] at H; exact H
                clear H
                have H := H1
                clear H1
                replace H := Option.bind_eq_some_iff.mp H
                obtain ⟨t113, A390, H⟩ := H
                replace H : (if t113 = true then ((spec_GlueOk.f a0_18 a0_19 a0_20 a0_21 a0_22).bind fun t114 => (some t114)) else (some false)) = some r := H
                have A39 := Aside0.mk A390
                clear A390
                by_cases c40 : t113 = true
                · subst c40
                  have H1 : ((spec_GlueOk.f a0_18 a0_19 a0_20 a0_21 a0_22).bind fun t114 => (some t114)) = some r := by rw [if_pos rfl] at H; exact H
                  clear H
                  have H := H1
                  clear H1
                  replace H := Option.bind_eq_some_iff.mp H
                  obtain ⟨t114, A410, H⟩ := H
                  replace H : (some t114) = some r := H
                  have A41 := Aside0.mk A410
                  clear A410
                  obtain rfl := Option.some.inj H
                  have hcz42_0 : wc.cell? ⟨gb107, 0, none⟩ = some (.int .i64 a0_0) := (blk_cell BK107.out 0).trans rfl
                  have hcz42_1 : wc.cell? ⟨gb107, 1, none⟩ = some (.int .i64 a0_1) := (blk_cell BK107.out 1).trans rfl
                  have hcz42_2 : wc.cell? ⟨gb107, 2, none⟩ = some (.int .i64 a0_2) := (blk_cell BK107.out 2).trans rfl
                  have hcz42_3 : wc.cell? ⟨gb107, 3, none⟩ = some (.int .i64 a0_3) := (blk_cell BK107.out 3).trans rfl
                  have hcz42_4 : wc.cell? ⟨gb107, 4, none⟩ = some (.int .i64 a0_4) := (blk_cell BK107.out 4).trans rfl
                  have hcz42_5 : wc.cell? ⟨gb107, 5, none⟩ = some (.int .i64 a0_5) := (blk_cell BK107.out 5).trans rfl
                  have hcz42_6 : wc.cell? ⟨gb107, 6, none⟩ = some (.int .i64 a0_6) := (blk_cell BK107.out 6).trans rfl
                  have hcz42_7 : wc.cell? ⟨gb107, 7, none⟩ = some (.int .i64 a0_7) := (blk_cell BK107.out 7).trans rfl
                  have hcz42_8 : wc.cell? ⟨gb107, 8, none⟩ = some (.int .i64 a0_8) := (blk_cell BK107.out 8).trans rfl
                  have hcz42_9 : wc.cell? ⟨gb107, 9, none⟩ = some (.int .i64 a0_9) := (blk_cell BK107.out 9).trans rfl
                  have hcz42_10 : wc.cell? ⟨gb107, 10, none⟩ = some (.int .i64 a0_10) := (blk_cell BK107.out 10).trans rfl
                  have hcz42_11 : wc.cell? ⟨gb107, 11, none⟩ = some (.int .i64 a0_11) := (blk_cell BK107.out 11).trans rfl
                  have hcz42_12 : wc.cell? ⟨gb107, 12, none⟩ = some (.int .i64 a0_12) := (blk_cell BK107.out 12).trans rfl
                  have hcz42_13 : wc.cell? ⟨gb107, 13, none⟩ = some (.int .i64 a0_13) := (blk_cell BK107.out 13).trans rfl
                  have hcz42_14 : wc.cell? ⟨gb107, 14, none⟩ = some (.int .i64 a0_14) := (blk_cell BK107.out 14).trans rfl
                  have hcz42_15 : wc.cell? ⟨gb107, 15, none⟩ = some (.int .i64 a0_15) := (blk_cell BK107.out 15).trans rfl
                  have hcz42_16 : wc.cell? ⟨gb107, 16, none⟩ = some (.int .i64 a0_16) := (blk_cell BK107.out 16).trans rfl
                  have hcz42_17 : wc.cell? ⟨gb107, 17, none⟩ = some (.int .i64 a0_17) := (blk_cell BK107.out 17).trans rfl
                  have hcz42_18 : wc.cell? ⟨gb107, 18, none⟩ = some (.int .i64 a0_18) := (blk_cell BK107.out 18).trans rfl
                  have hcz42_19 : wc.cell? ⟨gb107, 19, none⟩ = some (.int .i64 a0_19) := (blk_cell BK107.out 19).trans rfl
                  have hcz42_20 : wc.cell? ⟨gb107, 20, none⟩ = some (.int .i64 a0_20) := (blk_cell BK107.out 20).trans rfl
                  have hcz42_21 : wc.cell? ⟨gb107, 21, none⟩ = some (.int .i64 a0_21) := (blk_cell BK107.out 21).trans rfl
                  have hcz42_22 : wc.cell? ⟨gb107, 22, none⟩ = some (.int .i64 a0_22) := (blk_cell BK107.out 22).trans rfl
                  have hfz42_0 := blk_frozen BK107.out 0
                  have hfz42_1 := blk_frozen BK107.out 1
                  have hfz42_2 := blk_frozen BK107.out 2
                  have hfz42_3 := blk_frozen BK107.out 3
                  have hfz42_4 := blk_frozen BK107.out 4
                  have hfz42_5 := blk_frozen BK107.out 5
                  have hfz42_6 := blk_frozen BK107.out 6
                  have hfz42_7 := blk_frozen BK107.out 7
                  have hfz42_8 := blk_frozen BK107.out 8
                  have hfz42_9 := blk_frozen BK107.out 9
                  have hfz42_10 := blk_frozen BK107.out 10
                  have hfz42_11 := blk_frozen BK107.out 11
                  have hfz42_12 := blk_frozen BK107.out 12
                  have hfz42_13 := blk_frozen BK107.out 13
                  have hfz42_14 := blk_frozen BK107.out 14
                  have hfz42_15 := blk_frozen BK107.out 15
                  have hfz42_16 := blk_frozen BK107.out 16
                  have hfz42_17 := blk_frozen BK107.out 17
                  have hfz42_18 := blk_frozen BK107.out 18
                  have hfz42_19 := blk_frozen BK107.out 19
                  have hfz42_20 := blk_frozen BK107.out 20
                  have hfz42_21 := blk_frozen BK107.out 21
                  have hfz42_22 := blk_frozen BK107.out 22
                  go_wp2_with (first | ((with_reducible refine gate_callee (f := 13) rfl ?_); refine goesL_ (some 75) rfl rfl Try.func13 (by kernel_rfl) rfl #[.agg #[.int .i64 a0_8, .int .i64 a0_9, .int .i64 a0_10, .int .i64 a0_11, .int .i64 a0_12]] rfl (by (try simp only [List.map_toArray, List.map_cons, List.map_nil]); first | done | rfl | (simp only [List.length_drop, List.length_take]; rfl)) ?_; (with_reducible refine (spec_GlueOk.calls a0_8 a0_9 a0_10 a0_11 a0_12 true _ A37.out).mono ?_); rintro e w43 ⟨rfl, hb⟩; refine ⟨_, rfl, ?_⟩; have n0_ := Aside0.mk (blk_below (g := gb107) (o := .cells #[.int .i64 a0_0, .int .i64 a0_1, .int .i64 a0_2, .int .i64 a0_3, .int .i64 a0_4, .int .i64 a0_5, .int .i64 a0_6, .int .i64 a0_7, .int .i64 a0_8, .int .i64 a0_9, .int .i64 a0_10, .int .i64 a0_11, .int .i64 a0_12, .int .i64 a0_13, .int .i64 a0_14, .int .i64 a0_15, .int .i64 a0_16, .int .i64 a0_17, .int .i64 a0_18, .int .i64 a0_19, .int .i64 a0_20, .int .i64 a0_21, .int .i64 a0_22] 64 (0, 0)) (by (with_reducible repeat (first | refine blk_drewN ?_ _ | refine blk_drew ?_ | refine blk_alloc ?_ _)); exact BK107.out) hb); have n1_ := Aside0.mk (below_step (by repeat (first | (with_reducible first | exact HB.out | apply below_alloc | apply pw_below_drewN | apply below_drew1 | refine below_set ?_ GE107.out) | exact HB.out)) hb); clear BK107; clear HB; have BK107 := n0_; have HB := n1_; clear n0_ n1_; (try clear hb); (try clear hb2); (try clear hk); (try clear hi); have hcz44_0 : w43.cell? ⟨gb107, 0, none⟩ = some (.int .i64 a0_0) := (blk_cell BK107.out 0).trans rfl; have hcz44_1 : w43.cell? ⟨gb107, 1, none⟩ = some (.int .i64 a0_1) := (blk_cell BK107.out 1).trans rfl; have hcz44_2 : w43.cell? ⟨gb107, 2, none⟩ = some (.int .i64 a0_2) := (blk_cell BK107.out 2).trans rfl; have hcz44_3 : w43.cell? ⟨gb107, 3, none⟩ = some (.int .i64 a0_3) := (blk_cell BK107.out 3).trans rfl; have hcz44_4 : w43.cell? ⟨gb107, 4, none⟩ = some (.int .i64 a0_4) := (blk_cell BK107.out 4).trans rfl; have hcz44_5 : w43.cell? ⟨gb107, 5, none⟩ = some (.int .i64 a0_5) := (blk_cell BK107.out 5).trans rfl; have hcz44_6 : w43.cell? ⟨gb107, 6, none⟩ = some (.int .i64 a0_6) := (blk_cell BK107.out 6).trans rfl; have hcz44_7 : w43.cell? ⟨gb107, 7, none⟩ = some (.int .i64 a0_7) := (blk_cell BK107.out 7).trans rfl; have hcz44_8 : w43.cell? ⟨gb107, 8, none⟩ = some (.int .i64 a0_8) := (blk_cell BK107.out 8).trans rfl; have hcz44_9 : w43.cell? ⟨gb107, 9, none⟩ = some (.int .i64 a0_9) := (blk_cell BK107.out 9).trans rfl; have hcz44_10 : w43.cell? ⟨gb107, 10, none⟩ = some (.int .i64 a0_10) := (blk_cell BK107.out 10).trans rfl; have hcz44_11 : w43.cell? ⟨gb107, 11, none⟩ = some (.int .i64 a0_11) := (blk_cell BK107.out 11).trans rfl; have hcz44_12 : w43.cell? ⟨gb107, 12, none⟩ = some (.int .i64 a0_12) := (blk_cell BK107.out 12).trans rfl; have hcz44_13 : w43.cell? ⟨gb107, 13, none⟩ = some (.int .i64 a0_13) := (blk_cell BK107.out 13).trans rfl; have hcz44_14 : w43.cell? ⟨gb107, 14, none⟩ = some (.int .i64 a0_14) := (blk_cell BK107.out 14).trans rfl; have hcz44_15 : w43.cell? ⟨gb107, 15, none⟩ = some (.int .i64 a0_15) := (blk_cell BK107.out 15).trans rfl; have hcz44_16 : w43.cell? ⟨gb107, 16, none⟩ = some (.int .i64 a0_16) := (blk_cell BK107.out 16).trans rfl; have hcz44_17 : w43.cell? ⟨gb107, 17, none⟩ = some (.int .i64 a0_17) := (blk_cell BK107.out 17).trans rfl; have hcz44_18 : w43.cell? ⟨gb107, 18, none⟩ = some (.int .i64 a0_18) := (blk_cell BK107.out 18).trans rfl; have hcz44_19 : w43.cell? ⟨gb107, 19, none⟩ = some (.int .i64 a0_19) := (blk_cell BK107.out 19).trans rfl; have hcz44_20 : w43.cell? ⟨gb107, 20, none⟩ = some (.int .i64 a0_20) := (blk_cell BK107.out 20).trans rfl; have hcz44_21 : w43.cell? ⟨gb107, 21, none⟩ = some (.int .i64 a0_21) := (blk_cell BK107.out 21).trans rfl; have hcz44_22 : w43.cell? ⟨gb107, 22, none⟩ = some (.int .i64 a0_22) := (blk_cell BK107.out 22).trans rfl; have hfz44_0 := blk_frozen BK107.out 0; have hfz44_1 := blk_frozen BK107.out 1; have hfz44_2 := blk_frozen BK107.out 2; have hfz44_3 := blk_frozen BK107.out 3; have hfz44_4 := blk_frozen BK107.out 4; have hfz44_5 := blk_frozen BK107.out 5; have hfz44_6 := blk_frozen BK107.out 6; have hfz44_7 := blk_frozen BK107.out 7; have hfz44_8 := blk_frozen BK107.out 8; have hfz44_9 := blk_frozen BK107.out 9; have hfz44_10 := blk_frozen BK107.out 10; have hfz44_11 := blk_frozen BK107.out 11; have hfz44_12 := blk_frozen BK107.out 12; have hfz44_13 := blk_frozen BK107.out 13; have hfz44_14 := blk_frozen BK107.out 14; have hfz44_15 := blk_frozen BK107.out 15; have hfz44_16 := blk_frozen BK107.out 16; have hfz44_17 := blk_frozen BK107.out 17; have hfz44_18 := blk_frozen BK107.out 18; have hfz44_19 := blk_frozen BK107.out 19; have hfz44_20 := blk_frozen BK107.out 20; have hfz44_21 := blk_frozen BK107.out 21; have hfz44_22 := blk_frozen BK107.out 22) | (go_at_call 13; (with_reducible refine (spec_GlueOk.calls a0_13 a0_14 a0_15 a0_16 a0_17 true _ A39.out).mono ?_); rintro e w45 ⟨rfl, hb⟩; have n0_ := Aside0.mk (blk_below (g := gb107) (o := .cells #[.int .i64 a0_0, .int .i64 a0_1, .int .i64 a0_2, .int .i64 a0_3, .int .i64 a0_4, .int .i64 a0_5, .int .i64 a0_6, .int .i64 a0_7, .int .i64 a0_8, .int .i64 a0_9, .int .i64 a0_10, .int .i64 a0_11, .int .i64 a0_12, .int .i64 a0_13, .int .i64 a0_14, .int .i64 a0_15, .int .i64 a0_16, .int .i64 a0_17, .int .i64 a0_18, .int .i64 a0_19, .int .i64 a0_20, .int .i64 a0_21, .int .i64 a0_22] 64 (0, 0)) (by (with_reducible repeat (first | refine blk_drewN ?_ _ | refine blk_drew ?_ | refine blk_alloc ?_ _)); exact BK107.out) hb); have n1_ := Aside0.mk (below_step (by repeat (first | (with_reducible first | exact HB.out | apply below_alloc | apply pw_below_drewN | apply below_drew1 | refine below_set ?_ GE107.out) | exact HB.out)) hb); clear BK107; clear HB; have BK107 := n0_; have HB := n1_; clear n0_ n1_; (try clear hb); (try clear hb2); (try clear hk); (try clear hi); have hcz46_0 : w45.cell? ⟨gb107, 0, none⟩ = some (.int .i64 a0_0) := (blk_cell BK107.out 0).trans rfl; have hcz46_1 : w45.cell? ⟨gb107, 1, none⟩ = some (.int .i64 a0_1) := (blk_cell BK107.out 1).trans rfl; have hcz46_2 : w45.cell? ⟨gb107, 2, none⟩ = some (.int .i64 a0_2) := (blk_cell BK107.out 2).trans rfl; have hcz46_3 : w45.cell? ⟨gb107, 3, none⟩ = some (.int .i64 a0_3) := (blk_cell BK107.out 3).trans rfl; have hcz46_4 : w45.cell? ⟨gb107, 4, none⟩ = some (.int .i64 a0_4) := (blk_cell BK107.out 4).trans rfl; have hcz46_5 : w45.cell? ⟨gb107, 5, none⟩ = some (.int .i64 a0_5) := (blk_cell BK107.out 5).trans rfl; have hcz46_6 : w45.cell? ⟨gb107, 6, none⟩ = some (.int .i64 a0_6) := (blk_cell BK107.out 6).trans rfl; have hcz46_7 : w45.cell? ⟨gb107, 7, none⟩ = some (.int .i64 a0_7) := (blk_cell BK107.out 7).trans rfl; have hcz46_8 : w45.cell? ⟨gb107, 8, none⟩ = some (.int .i64 a0_8) := (blk_cell BK107.out 8).trans rfl; have hcz46_9 : w45.cell? ⟨gb107, 9, none⟩ = some (.int .i64 a0_9) := (blk_cell BK107.out 9).trans rfl; have hcz46_10 : w45.cell? ⟨gb107, 10, none⟩ = some (.int .i64 a0_10) := (blk_cell BK107.out 10).trans rfl; have hcz46_11 : w45.cell? ⟨gb107, 11, none⟩ = some (.int .i64 a0_11) := (blk_cell BK107.out 11).trans rfl; have hcz46_12 : w45.cell? ⟨gb107, 12, none⟩ = some (.int .i64 a0_12) := (blk_cell BK107.out 12).trans rfl; have hcz46_13 : w45.cell? ⟨gb107, 13, none⟩ = some (.int .i64 a0_13) := (blk_cell BK107.out 13).trans rfl; have hcz46_14 : w45.cell? ⟨gb107, 14, none⟩ = some (.int .i64 a0_14) := (blk_cell BK107.out 14).trans rfl; have hcz46_15 : w45.cell? ⟨gb107, 15, none⟩ = some (.int .i64 a0_15) := (blk_cell BK107.out 15).trans rfl; have hcz46_16 : w45.cell? ⟨gb107, 16, none⟩ = some (.int .i64 a0_16) := (blk_cell BK107.out 16).trans rfl; have hcz46_17 : w45.cell? ⟨gb107, 17, none⟩ = some (.int .i64 a0_17) := (blk_cell BK107.out 17).trans rfl; have hcz46_18 : w45.cell? ⟨gb107, 18, none⟩ = some (.int .i64 a0_18) := (blk_cell BK107.out 18).trans rfl; have hcz46_19 : w45.cell? ⟨gb107, 19, none⟩ = some (.int .i64 a0_19) := (blk_cell BK107.out 19).trans rfl; have hcz46_20 : w45.cell? ⟨gb107, 20, none⟩ = some (.int .i64 a0_20) := (blk_cell BK107.out 20).trans rfl; have hcz46_21 : w45.cell? ⟨gb107, 21, none⟩ = some (.int .i64 a0_21) := (blk_cell BK107.out 21).trans rfl; have hcz46_22 : w45.cell? ⟨gb107, 22, none⟩ = some (.int .i64 a0_22) := (blk_cell BK107.out 22).trans rfl; have hfz46_0 := blk_frozen BK107.out 0; have hfz46_1 := blk_frozen BK107.out 1; have hfz46_2 := blk_frozen BK107.out 2; have hfz46_3 := blk_frozen BK107.out 3; have hfz46_4 := blk_frozen BK107.out 4; have hfz46_5 := blk_frozen BK107.out 5; have hfz46_6 := blk_frozen BK107.out 6; have hfz46_7 := blk_frozen BK107.out 7; have hfz46_8 := blk_frozen BK107.out 8; have hfz46_9 := blk_frozen BK107.out 9; have hfz46_10 := blk_frozen BK107.out 10; have hfz46_11 := blk_frozen BK107.out 11; have hfz46_12 := blk_frozen BK107.out 12; have hfz46_13 := blk_frozen BK107.out 13; have hfz46_14 := blk_frozen BK107.out 14; have hfz46_15 := blk_frozen BK107.out 15; have hfz46_16 := blk_frozen BK107.out 16; have hfz46_17 := blk_frozen BK107.out 17; have hfz46_18 := blk_frozen BK107.out 18; have hfz46_19 := blk_frozen BK107.out 19; have hfz46_20 := blk_frozen BK107.out 20; have hfz46_21 := blk_frozen BK107.out 21; have hfz46_22 := blk_frozen BK107.out 22) | (go_at_call 13; (with_reducible refine (spec_GlueOk.calls a0_18 a0_19 a0_20 a0_21 a0_22 t114 _ A41.out).mono ?_); rintro e w47 ⟨rfl, hb⟩; have n0_ := Aside0.mk (blk_below (g := gb107) (o := .cells #[.int .i64 a0_0, .int .i64 a0_1, .int .i64 a0_2, .int .i64 a0_3, .int .i64 a0_4, .int .i64 a0_5, .int .i64 a0_6, .int .i64 a0_7, .int .i64 a0_8, .int .i64 a0_9, .int .i64 a0_10, .int .i64 a0_11, .int .i64 a0_12, .int .i64 a0_13, .int .i64 a0_14, .int .i64 a0_15, .int .i64 a0_16, .int .i64 a0_17, .int .i64 a0_18, .int .i64 a0_19, .int .i64 a0_20, .int .i64 a0_21, .int .i64 a0_22] 64 (0, 0)) (by (with_reducible repeat (first | refine blk_drewN ?_ _ | refine blk_drew ?_ | refine blk_alloc ?_ _)); exact BK107.out) hb); have n1_ := Aside0.mk (below_step (by repeat (first | (with_reducible first | exact HB.out | apply below_alloc | apply pw_below_drewN | apply below_drew1 | refine below_set ?_ GE107.out) | exact HB.out)) hb); clear BK107; clear HB; have BK107 := n0_; have HB := n1_; clear n0_ n1_; (try clear hb); (try clear hb2); (try clear hk); (try clear hi)))
                  go_ret
                  exact ⟨by first | rfl | (simp [errW_none, errW_some] <;> rfl) | (simp [*, errW_none, errW_some] <;> rfl), by repeat (first | (with_reducible first | exact HB.out | apply below_alloc | apply pw_below_drewN | apply below_drew1 | refine below_set ?_ GE107.out) | exact HB.out)⟩
                · replace c40 := Bool.eq_false_iff.mpr c40
                  subst c40
                  have H1 : (some false) = some r := by rw [if_neg (show ¬ (false = true) by decide)] at H; exact H
                  clear H
                  have H := H1
                  clear H1
                  obtain rfl := Option.some.inj H
                  have hcz48_0 : wc.cell? ⟨gb107, 0, none⟩ = some (.int .i64 a0_0) := (blk_cell BK107.out 0).trans rfl
                  have hcz48_1 : wc.cell? ⟨gb107, 1, none⟩ = some (.int .i64 a0_1) := (blk_cell BK107.out 1).trans rfl
                  have hcz48_2 : wc.cell? ⟨gb107, 2, none⟩ = some (.int .i64 a0_2) := (blk_cell BK107.out 2).trans rfl
                  have hcz48_3 : wc.cell? ⟨gb107, 3, none⟩ = some (.int .i64 a0_3) := (blk_cell BK107.out 3).trans rfl
                  have hcz48_4 : wc.cell? ⟨gb107, 4, none⟩ = some (.int .i64 a0_4) := (blk_cell BK107.out 4).trans rfl
                  have hcz48_5 : wc.cell? ⟨gb107, 5, none⟩ = some (.int .i64 a0_5) := (blk_cell BK107.out 5).trans rfl
                  have hcz48_6 : wc.cell? ⟨gb107, 6, none⟩ = some (.int .i64 a0_6) := (blk_cell BK107.out 6).trans rfl
                  have hcz48_7 : wc.cell? ⟨gb107, 7, none⟩ = some (.int .i64 a0_7) := (blk_cell BK107.out 7).trans rfl
                  have hcz48_8 : wc.cell? ⟨gb107, 8, none⟩ = some (.int .i64 a0_8) := (blk_cell BK107.out 8).trans rfl
                  have hcz48_9 : wc.cell? ⟨gb107, 9, none⟩ = some (.int .i64 a0_9) := (blk_cell BK107.out 9).trans rfl
                  have hcz48_10 : wc.cell? ⟨gb107, 10, none⟩ = some (.int .i64 a0_10) := (blk_cell BK107.out 10).trans rfl
                  have hcz48_11 : wc.cell? ⟨gb107, 11, none⟩ = some (.int .i64 a0_11) := (blk_cell BK107.out 11).trans rfl
                  have hcz48_12 : wc.cell? ⟨gb107, 12, none⟩ = some (.int .i64 a0_12) := (blk_cell BK107.out 12).trans rfl
                  have hcz48_13 : wc.cell? ⟨gb107, 13, none⟩ = some (.int .i64 a0_13) := (blk_cell BK107.out 13).trans rfl
                  have hcz48_14 : wc.cell? ⟨gb107, 14, none⟩ = some (.int .i64 a0_14) := (blk_cell BK107.out 14).trans rfl
                  have hcz48_15 : wc.cell? ⟨gb107, 15, none⟩ = some (.int .i64 a0_15) := (blk_cell BK107.out 15).trans rfl
                  have hcz48_16 : wc.cell? ⟨gb107, 16, none⟩ = some (.int .i64 a0_16) := (blk_cell BK107.out 16).trans rfl
                  have hcz48_17 : wc.cell? ⟨gb107, 17, none⟩ = some (.int .i64 a0_17) := (blk_cell BK107.out 17).trans rfl
                  have hcz48_18 : wc.cell? ⟨gb107, 18, none⟩ = some (.int .i64 a0_18) := (blk_cell BK107.out 18).trans rfl
                  have hcz48_19 : wc.cell? ⟨gb107, 19, none⟩ = some (.int .i64 a0_19) := (blk_cell BK107.out 19).trans rfl
                  have hcz48_20 : wc.cell? ⟨gb107, 20, none⟩ = some (.int .i64 a0_20) := (blk_cell BK107.out 20).trans rfl
                  have hcz48_21 : wc.cell? ⟨gb107, 21, none⟩ = some (.int .i64 a0_21) := (blk_cell BK107.out 21).trans rfl
                  have hcz48_22 : wc.cell? ⟨gb107, 22, none⟩ = some (.int .i64 a0_22) := (blk_cell BK107.out 22).trans rfl
                  have hfz48_0 := blk_frozen BK107.out 0
                  have hfz48_1 := blk_frozen BK107.out 1
                  have hfz48_2 := blk_frozen BK107.out 2
                  have hfz48_3 := blk_frozen BK107.out 3
                  have hfz48_4 := blk_frozen BK107.out 4
                  have hfz48_5 := blk_frozen BK107.out 5
                  have hfz48_6 := blk_frozen BK107.out 6
                  have hfz48_7 := blk_frozen BK107.out 7
                  have hfz48_8 := blk_frozen BK107.out 8
                  have hfz48_9 := blk_frozen BK107.out 9
                  have hfz48_10 := blk_frozen BK107.out 10
                  have hfz48_11 := blk_frozen BK107.out 11
                  have hfz48_12 := blk_frozen BK107.out 12
                  have hfz48_13 := blk_frozen BK107.out 13
                  have hfz48_14 := blk_frozen BK107.out 14
                  have hfz48_15 := blk_frozen BK107.out 15
                  have hfz48_16 := blk_frozen BK107.out 16
                  have hfz48_17 := blk_frozen BK107.out 17
                  have hfz48_18 := blk_frozen BK107.out 18
                  have hfz48_19 := blk_frozen BK107.out 19
                  have hfz48_20 := blk_frozen BK107.out 20
                  have hfz48_21 := blk_frozen BK107.out 21
                  have hfz48_22 := blk_frozen BK107.out 22
                  go_wp2_with (first | ((with_reducible refine gate_callee (f := 13) rfl ?_); refine goesL_ (some 75) rfl rfl Try.func13 (by kernel_rfl) rfl #[.agg #[.int .i64 a0_8, .int .i64 a0_9, .int .i64 a0_10, .int .i64 a0_11, .int .i64 a0_12]] rfl (by (try simp only [List.map_toArray, List.map_cons, List.map_nil]); first | done | rfl | (simp only [List.length_drop, List.length_take]; rfl)) ?_; (with_reducible refine (spec_GlueOk.calls a0_8 a0_9 a0_10 a0_11 a0_12 true _ A37.out).mono ?_); rintro e w49 ⟨rfl, hb⟩; refine ⟨_, rfl, ?_⟩; have n0_ := Aside0.mk (blk_below (g := gb107) (o := .cells #[.int .i64 a0_0, .int .i64 a0_1, .int .i64 a0_2, .int .i64 a0_3, .int .i64 a0_4, .int .i64 a0_5, .int .i64 a0_6, .int .i64 a0_7, .int .i64 a0_8, .int .i64 a0_9, .int .i64 a0_10, .int .i64 a0_11, .int .i64 a0_12, .int .i64 a0_13, .int .i64 a0_14, .int .i64 a0_15, .int .i64 a0_16, .int .i64 a0_17, .int .i64 a0_18, .int .i64 a0_19, .int .i64 a0_20, .int .i64 a0_21, .int .i64 a0_22] 64 (0, 0)) (by (with_reducible repeat (first | refine blk_drewN ?_ _ | refine blk_drew ?_ | refine blk_alloc ?_ _)); exact BK107.out) hb); have n1_ := Aside0.mk (below_step (by repeat (first | (with_reducible first | exact HB.out | apply below_alloc | apply pw_below_drewN | apply below_drew1 | refine below_set ?_ GE107.out) | exact HB.out)) hb); clear BK107; clear HB; have BK107 := n0_; have HB := n1_; clear n0_ n1_; (try clear hb); (try clear hb2); (try clear hk); (try clear hi); have hcz50_0 : w49.cell? ⟨gb107, 0, none⟩ = some (.int .i64 a0_0) := (blk_cell BK107.out 0).trans rfl; have hcz50_1 : w49.cell? ⟨gb107, 1, none⟩ = some (.int .i64 a0_1) := (blk_cell BK107.out 1).trans rfl; have hcz50_2 : w49.cell? ⟨gb107, 2, none⟩ = some (.int .i64 a0_2) := (blk_cell BK107.out 2).trans rfl; have hcz50_3 : w49.cell? ⟨gb107, 3, none⟩ = some (.int .i64 a0_3) := (blk_cell BK107.out 3).trans rfl; have hcz50_4 : w49.cell? ⟨gb107, 4, none⟩ = some (.int .i64 a0_4) := (blk_cell BK107.out 4).trans rfl; have hcz50_5 : w49.cell? ⟨gb107, 5, none⟩ = some (.int .i64 a0_5) := (blk_cell BK107.out 5).trans rfl; have hcz50_6 : w49.cell? ⟨gb107, 6, none⟩ = some (.int .i64 a0_6) := (blk_cell BK107.out 6).trans rfl; have hcz50_7 : w49.cell? ⟨gb107, 7, none⟩ = some (.int .i64 a0_7) := (blk_cell BK107.out 7).trans rfl; have hcz50_8 : w49.cell? ⟨gb107, 8, none⟩ = some (.int .i64 a0_8) := (blk_cell BK107.out 8).trans rfl; have hcz50_9 : w49.cell? ⟨gb107, 9, none⟩ = some (.int .i64 a0_9) := (blk_cell BK107.out 9).trans rfl; have hcz50_10 : w49.cell? ⟨gb107, 10, none⟩ = some (.int .i64 a0_10) := (blk_cell BK107.out 10).trans rfl; have hcz50_11 : w49.cell? ⟨gb107, 11, none⟩ = some (.int .i64 a0_11) := (blk_cell BK107.out 11).trans rfl; have hcz50_12 : w49.cell? ⟨gb107, 12, none⟩ = some (.int .i64 a0_12) := (blk_cell BK107.out 12).trans rfl; have hcz50_13 : w49.cell? ⟨gb107, 13, none⟩ = some (.int .i64 a0_13) := (blk_cell BK107.out 13).trans rfl; have hcz50_14 : w49.cell? ⟨gb107, 14, none⟩ = some (.int .i64 a0_14) := (blk_cell BK107.out 14).trans rfl; have hcz50_15 : w49.cell? ⟨gb107, 15, none⟩ = some (.int .i64 a0_15) := (blk_cell BK107.out 15).trans rfl; have hcz50_16 : w49.cell? ⟨gb107, 16, none⟩ = some (.int .i64 a0_16) := (blk_cell BK107.out 16).trans rfl; have hcz50_17 : w49.cell? ⟨gb107, 17, none⟩ = some (.int .i64 a0_17) := (blk_cell BK107.out 17).trans rfl; have hcz50_18 : w49.cell? ⟨gb107, 18, none⟩ = some (.int .i64 a0_18) := (blk_cell BK107.out 18).trans rfl; have hcz50_19 : w49.cell? ⟨gb107, 19, none⟩ = some (.int .i64 a0_19) := (blk_cell BK107.out 19).trans rfl; have hcz50_20 : w49.cell? ⟨gb107, 20, none⟩ = some (.int .i64 a0_20) := (blk_cell BK107.out 20).trans rfl; have hcz50_21 : w49.cell? ⟨gb107, 21, none⟩ = some (.int .i64 a0_21) := (blk_cell BK107.out 21).trans rfl; have hcz50_22 : w49.cell? ⟨gb107, 22, none⟩ = some (.int .i64 a0_22) := (blk_cell BK107.out 22).trans rfl; have hfz50_0 := blk_frozen BK107.out 0; have hfz50_1 := blk_frozen BK107.out 1; have hfz50_2 := blk_frozen BK107.out 2; have hfz50_3 := blk_frozen BK107.out 3; have hfz50_4 := blk_frozen BK107.out 4; have hfz50_5 := blk_frozen BK107.out 5; have hfz50_6 := blk_frozen BK107.out 6; have hfz50_7 := blk_frozen BK107.out 7; have hfz50_8 := blk_frozen BK107.out 8; have hfz50_9 := blk_frozen BK107.out 9; have hfz50_10 := blk_frozen BK107.out 10; have hfz50_11 := blk_frozen BK107.out 11; have hfz50_12 := blk_frozen BK107.out 12; have hfz50_13 := blk_frozen BK107.out 13; have hfz50_14 := blk_frozen BK107.out 14; have hfz50_15 := blk_frozen BK107.out 15; have hfz50_16 := blk_frozen BK107.out 16; have hfz50_17 := blk_frozen BK107.out 17; have hfz50_18 := blk_frozen BK107.out 18; have hfz50_19 := blk_frozen BK107.out 19; have hfz50_20 := blk_frozen BK107.out 20; have hfz50_21 := blk_frozen BK107.out 21; have hfz50_22 := blk_frozen BK107.out 22) | (go_at_call 13; (with_reducible refine (spec_GlueOk.calls a0_13 a0_14 a0_15 a0_16 a0_17 false _ A39.out).mono ?_); rintro e w51 ⟨rfl, hb⟩; have n0_ := Aside0.mk (blk_below (g := gb107) (o := .cells #[.int .i64 a0_0, .int .i64 a0_1, .int .i64 a0_2, .int .i64 a0_3, .int .i64 a0_4, .int .i64 a0_5, .int .i64 a0_6, .int .i64 a0_7, .int .i64 a0_8, .int .i64 a0_9, .int .i64 a0_10, .int .i64 a0_11, .int .i64 a0_12, .int .i64 a0_13, .int .i64 a0_14, .int .i64 a0_15, .int .i64 a0_16, .int .i64 a0_17, .int .i64 a0_18, .int .i64 a0_19, .int .i64 a0_20, .int .i64 a0_21, .int .i64 a0_22] 64 (0, 0)) (by (with_reducible repeat (first | refine blk_drewN ?_ _ | refine blk_drew ?_ | refine blk_alloc ?_ _)); exact BK107.out) hb); have n1_ := Aside0.mk (below_step (by repeat (first | (with_reducible first | exact HB.out | apply below_alloc | apply pw_below_drewN | apply below_drew1 | refine below_set ?_ GE107.out) | exact HB.out)) hb); clear BK107; clear HB; have BK107 := n0_; have HB := n1_; clear n0_ n1_; (try clear hb); (try clear hb2); (try clear hk); (try clear hi)))
                  go_ret
                  exact ⟨by first | rfl | (simp [errW_none, errW_some] <;> rfl) | (simp [*, errW_none, errW_some] <;> rfl), by repeat (first | (with_reducible first | exact HB.out | apply below_alloc | apply pw_below_drewN | apply below_drew1 | refine below_set ?_ GE107.out) | exact HB.out)⟩
              · replace c38 := Bool.eq_false_iff.mpr c38
                subst c38
                have H1 : (some false) = some r := by rw [if_neg (show ¬ (false = true) by decide)] at H; exact H
                clear H
                have H := H1
                clear H1
                obtain rfl := Option.some.inj H
                have hcz52_0 : wc.cell? ⟨gb107, 0, none⟩ = some (.int .i64 a0_0) := (blk_cell BK107.out 0).trans rfl
                have hcz52_1 : wc.cell? ⟨gb107, 1, none⟩ = some (.int .i64 a0_1) := (blk_cell BK107.out 1).trans rfl
                have hcz52_2 : wc.cell? ⟨gb107, 2, none⟩ = some (.int .i64 a0_2) := (blk_cell BK107.out 2).trans rfl
                have hcz52_3 : wc.cell? ⟨gb107, 3, none⟩ = some (.int .i64 a0_3) := (blk_cell BK107.out 3).trans rfl
                have hcz52_4 : wc.cell? ⟨gb107, 4, none⟩ = some (.int .i64 a0_4) := (blk_cell BK107.out 4).trans rfl
                have hcz52_5 : wc.cell? ⟨gb107, 5, none⟩ = some (.int .i64 a0_5) := (blk_cell BK107.out 5).trans rfl
                have hcz52_6 : wc.cell? ⟨gb107, 6, none⟩ = some (.int .i64 a0_6) := (blk_cell BK107.out 6).trans rfl
                have hcz52_7 : wc.cell? ⟨gb107, 7, none⟩ = some (.int .i64 a0_7) := (blk_cell BK107.out 7).trans rfl
                have hcz52_8 : wc.cell? ⟨gb107, 8, none⟩ = some (.int .i64 a0_8) := (blk_cell BK107.out 8).trans rfl
                have hcz52_9 : wc.cell? ⟨gb107, 9, none⟩ = some (.int .i64 a0_9) := (blk_cell BK107.out 9).trans rfl
                have hcz52_10 : wc.cell? ⟨gb107, 10, none⟩ = some (.int .i64 a0_10) := (blk_cell BK107.out 10).trans rfl
                have hcz52_11 : wc.cell? ⟨gb107, 11, none⟩ = some (.int .i64 a0_11) := (blk_cell BK107.out 11).trans rfl
                have hcz52_12 : wc.cell? ⟨gb107, 12, none⟩ = some (.int .i64 a0_12) := (blk_cell BK107.out 12).trans rfl
                have hcz52_13 : wc.cell? ⟨gb107, 13, none⟩ = some (.int .i64 a0_13) := (blk_cell BK107.out 13).trans rfl
                have hcz52_14 : wc.cell? ⟨gb107, 14, none⟩ = some (.int .i64 a0_14) := (blk_cell BK107.out 14).trans rfl
                have hcz52_15 : wc.cell? ⟨gb107, 15, none⟩ = some (.int .i64 a0_15) := (blk_cell BK107.out 15).trans rfl
                have hcz52_16 : wc.cell? ⟨gb107, 16, none⟩ = some (.int .i64 a0_16) := (blk_cell BK107.out 16).trans rfl
                have hcz52_17 : wc.cell? ⟨gb107, 17, none⟩ = some (.int .i64 a0_17) := (blk_cell BK107.out 17).trans rfl
                have hcz52_18 : wc.cell? ⟨gb107, 18, none⟩ = some (.int .i64 a0_18) := (blk_cell BK107.out 18).trans rfl
                have hcz52_19 : wc.cell? ⟨gb107, 19, none⟩ = some (.int .i64 a0_19) := (blk_cell BK107.out 19).trans rfl
                have hcz52_20 : wc.cell? ⟨gb107, 20, none⟩ = some (.int .i64 a0_20) := (blk_cell BK107.out 20).trans rfl
                have hcz52_21 : wc.cell? ⟨gb107, 21, none⟩ = some (.int .i64 a0_21) := (blk_cell BK107.out 21).trans rfl
                have hcz52_22 : wc.cell? ⟨gb107, 22, none⟩ = some (.int .i64 a0_22) := (blk_cell BK107.out 22).trans rfl
                have hfz52_0 := blk_frozen BK107.out 0
                have hfz52_1 := blk_frozen BK107.out 1
                have hfz52_2 := blk_frozen BK107.out 2
                have hfz52_3 := blk_frozen BK107.out 3
                have hfz52_4 := blk_frozen BK107.out 4
                have hfz52_5 := blk_frozen BK107.out 5
                have hfz52_6 := blk_frozen BK107.out 6
                have hfz52_7 := blk_frozen BK107.out 7
                have hfz52_8 := blk_frozen BK107.out 8
                have hfz52_9 := blk_frozen BK107.out 9
                have hfz52_10 := blk_frozen BK107.out 10
                have hfz52_11 := blk_frozen BK107.out 11
                have hfz52_12 := blk_frozen BK107.out 12
                have hfz52_13 := blk_frozen BK107.out 13
                have hfz52_14 := blk_frozen BK107.out 14
                have hfz52_15 := blk_frozen BK107.out 15
                have hfz52_16 := blk_frozen BK107.out 16
                have hfz52_17 := blk_frozen BK107.out 17
                have hfz52_18 := blk_frozen BK107.out 18
                have hfz52_19 := blk_frozen BK107.out 19
                have hfz52_20 := blk_frozen BK107.out 20
                have hfz52_21 := blk_frozen BK107.out 21
                have hfz52_22 := blk_frozen BK107.out 22
                go_wp2_with (first | ((with_reducible refine gate_callee (f := 13) rfl ?_); refine goesL_ (some 75) rfl rfl Try.func13 (by kernel_rfl) rfl #[.agg #[.int .i64 a0_8, .int .i64 a0_9, .int .i64 a0_10, .int .i64 a0_11, .int .i64 a0_12]] rfl (by (try simp only [List.map_toArray, List.map_cons, List.map_nil]); first | done | rfl | (simp only [List.length_drop, List.length_take]; rfl)) ?_; (with_reducible refine (spec_GlueOk.calls a0_8 a0_9 a0_10 a0_11 a0_12 false _ A37.out).mono ?_); rintro e w53 ⟨rfl, hb⟩; refine ⟨_, rfl, ?_⟩; have n0_ := Aside0.mk (blk_below (g := gb107) (o := .cells #[.int .i64 a0_0, .int .i64 a0_1, .int .i64 a0_2, .int .i64 a0_3, .int .i64 a0_4, .int .i64 a0_5, .int .i64 a0_6, .int .i64 a0_7, .int .i64 a0_8, .int .i64 a0_9, .int .i64 a0_10, .int .i64 a0_11, .int .i64 a0_12, .int .i64 a0_13, .int .i64 a0_14, .int .i64 a0_15, .int .i64 a0_16, .int .i64 a0_17, .int .i64 a0_18, .int .i64 a0_19, .int .i64 a0_20, .int .i64 a0_21, .int .i64 a0_22] 64 (0, 0)) (by (with_reducible repeat (first | refine blk_drewN ?_ _ | refine blk_drew ?_ | refine blk_alloc ?_ _)); exact BK107.out) hb); have n1_ := Aside0.mk (below_step (by repeat (first | (with_reducible first | exact HB.out | apply below_alloc | apply pw_below_drewN | apply below_drew1 | refine below_set ?_ GE107.out) | exact HB.out)) hb); clear BK107; clear HB; have BK107 := n0_; have HB := n1_; clear n0_ n1_; (try clear hb); (try clear hb2); (try clear hk); (try clear hi)))
                go_ret
                exact ⟨by first | rfl | (simp [errW_none, errW_some] <;> rfl) | (simp [*, errW_none, errW_some] <;> rfl), by repeat (first | (with_reducible first | exact HB.out | apply below_alloc | apply pw_below_drewN | apply below_drew1 | refine below_set ?_ GE107.out) | exact HB.out)⟩

end Go.Proofs.Yticdpekeaipnaaa.PFnExactStyleOk
