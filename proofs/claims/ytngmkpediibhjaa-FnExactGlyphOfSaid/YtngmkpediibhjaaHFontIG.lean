/- The program's FontOk, walked: it answers the plain fontB. No condition. -/
import Derived.Test.YtngmkpediibhjaaHFontG
namespace Go.Proofs.Ytngmkpediibhjaa.PFnExactGlyphOf
open Go.Proofs.Ytngmkpediibhjaa.Quiet Go.RowKit Go.Proofs.YtngmkpediibhjaaW.PrintWords Go.Proofs.YtngmkpediibhjaaW.PrintLast Go.Proofs.YtngmkpediibhjaaW.PrintMore
open Go.WideElems (Fit)
attribute [local go_sem] max2_int min2_int max_two min_two max_three min_three max_four min_four   -- for this text's walks alone
set_option linter.unusedVariables false
set_option linter.unusedSimpArgs false
set_option maxHeartbeats 8000000 in
set_option maxRecDepth 100000 in
theorem impl_FontOk.calls (k : Nat) (a0 : ByteArray) (A1 : Option Addr) (c1 : Nat) (l1 : List S39) (A2 : Option Addr) (c2 : Nat) (l2 : List S64) (a3 a4 a5 a6 a7 a8 a9 : Int) (r : Bool) (w : World) (hr1 : Kd.C k39 w A1 l1.length l1) (hc1 : l1.length ≤ c1) (hr2 : Kd.C k64 w A2 l2.length l2) (hc2 : l2.length ≤ c2) (h : impl_FontOk.f k a0 l1 l2 a3 a4 a5 a6 a7 a8 a9 = some r) :
    Calls Try.prog 10 #[.agg #[.string a0, .slice A1 l1.length c1, .slice A2 l2.length c2, .int .i64 a3, .int .i64 a4, .int .i64 a5, .int .i64 a6, .int .i64 a7, .int .i64 a8, .int .i64 a9]] w fun e w' => e = .returned (.bool r) ∧ Below w.heap.size w w' := by
  have hi32 : (Try.prog.info? 32).map (·.size) = some 5 := by kernel_rfl
  have hi34 : (Try.prog.info? 34).map (·.size) = some 10 := by kernel_rfl
  have hu39 := Try.underlying39
  have hu64 := Try.underlying64
  unfold impl_FontOk.f at h
  by_cases hP : wfP l2 = true
  case neg => rw [if_neg hP] at h; cases h
  rw [if_pos hP] at h
  have HP := Aside0.mk hP
  clear hP
  unfold spec_FontOk.f at h
  by_cases hM : l1.length ≤ 9223372036854775807 ∧ l2.length ≤ 9223372036854775807
  case neg => rw [if_neg hM] at h; cases h
  rw [if_pos hM] at h
  obtain rfl := Option.some.inj h
  have HM := Aside0.mk hM
  have HR1 := Aside0.mk hr1
  have HC1 := Aside0.mk hc1
  have HR2 := Aside0.mk hr2
  have HC2 := Aside0.mk hc2
  have HB := Aside0.mk (Below.refl w.heap.size w)
  clear hr1 hc1 hr2 hc2 h
  by_cases h1 : a0.size ≤ 40
  case neg =>
    have eh1 : decide ((40 : Int) < (a0.size : Int)) = true := decide_eq_true (by omega)
    have R := Aside0.mk (bad_hd a0 l1 l2 a3 a4 a5 a6 a7 a8 a9 (by unfold hdB; simp [h1]))
    clear hM  h1
    go_enter Try.func10, Try.ntmps10
    go_wp2_with (first | ((with_reducible refine gate_dst (N := 1) rfl ?_); refine box_event ?hg (N := 1) ?hd (cs := #[.string a0, .slice A1 l1.length c1, .slice A2 l2.length c2, .int .i64 a3, .int .i64 a4, .int .i64 a5, .int .i64 a6, .int .i64 a7, .int .i64 a8, .int .i64 a9]) (t := 34) ?hr ?_; (case hd => rfl); (case hg => rfl); (case hr => first | (go_simp; done) | (go_simp; rfl)); intro gf hg wb hbox hb; have n0_ := Aside0.mk (below_step HB.out hb); have BF := Aside0.mk hbox; clear HB hg hbox hb; have HB := n0_; clear n0_; obtain ⟨hz0, hz1, hz2, hz3, hz4, hz5, hz6, hz7, hz8, hz9⟩ := ten_ BF.out) | (go_at_call 37; (with_reducible refine (impl_FontOk_1.calls _ _ _ (sz_i _)).mono ?_); rintro e w' ⟨rfl, ⟨nd, rfl⟩⟩) | ((with_reducible refine gate_dst (N := 22) rfl ?_); (try (refine gate_guard (by rfl) ?_; dsimp only)); refine Box.part_load rfl 32 34 (.tmp 21) rfl gf 3 #[.string a0, .slice A1 l1.length c1, .slice A2 l2.length c2, .int .i64 a3, .int .i64 a4, .int .i64 a5, .int .i64 a6, .int .i64 a7, .int .i64 a8, .int .i64 a9] [.int .i64 a3, .int .i64 a4, .int .i64 a5, .int .i64 a6, .int .i64 a7] _ rfl (by (with_reducible repeat (first | refine blk_drewN ?_ _ | refine blk_drew ?_ | refine blk_alloc ?_ _)); exact BF.out) rfl Try.underlying32 hi32 ?_) | ((with_reducible refine gate_callee (f := 38) rfl ?_); (try (refine gate_guard (by rfl) ?_; dsimp only)); refine goesL_ (some 23) rfl rfl Try.func38 (by kernel_rfl) rfl #[.agg #[.int .i64 a3, .int .i64 a4, .int .i64 a5, .int .i64 a6, .int .i64 a7]] rfl (by (try simp only [List.map_toArray, List.map_cons, List.map_nil]); first | done | rfl) ?_; (with_reducible refine (impl_GlueOk.calls _ _ _ _ _ _ _ (glue_i _ _ _ _ _)).mono ?_); rintro e w5 ⟨rfl, hb⟩; refine ⟨_, rfl, ?_⟩; have n0_ := Aside0.mk (below_step (by repeat (first | (with_reducible first | exact HB.out | apply below_alloc | apply pw_below_drewN | apply below_drew1) | exact HB.out)) hb); have n1_ := Aside0.mk (blk_below (by (with_reducible repeat (first | refine blk_drewN ?_ _ | refine blk_drew ?_ | refine blk_alloc ?_ _)); exact BF.out) hb); clear HB BF hb hz0 hz1 hz2 hz3 hz4 hz5 hz6 hz7 hz8 hz9; have HB := n0_; have BF := n1_; clear n0_ n1_; obtain ⟨hz0, hz1, hz2, hz3, hz4, hz5, hz6, hz7, hz8, hz9⟩ := ten_ BF.out))
    go_ret
    exact ⟨by rw [R.out]; rfl, (by repeat (first | (with_reducible first | exact HB.out | apply below_alloc | apply pw_below_drewN | apply below_drew1) | exact HB.out))⟩
  have eh1 : decide ((40 : Int) < (a0.size : Int)) = false := decide_eq_false (by omega)
  by_cases h3 : l2.length ≤ 2000
  case neg =>
    have eh3 : decide ((2000 : Int) < (l2.length : Int)) = true := decide_eq_true (by omega)
    have R := Aside0.mk (bad_hd a0 l1 l2 a3 a4 a5 a6 a7 a8 a9 (by unfold hdB; simp [h3]))
    clear hM h1 h3
    go_enter Try.func10, Try.ntmps10
    go_wp2_with (first | ((with_reducible refine gate_dst (N := 1) rfl ?_); refine box_event ?hg (N := 1) ?hd (cs := #[.string a0, .slice A1 l1.length c1, .slice A2 l2.length c2, .int .i64 a3, .int .i64 a4, .int .i64 a5, .int .i64 a6, .int .i64 a7, .int .i64 a8, .int .i64 a9]) (t := 34) ?hr ?_; (case hd => rfl); (case hg => rfl); (case hr => first | (go_simp; done) | (go_simp; rfl)); intro gf hg wb hbox hb; have n0_ := Aside0.mk (below_step HB.out hb); have BF := Aside0.mk hbox; clear HB hg hbox hb; have HB := n0_; clear n0_; obtain ⟨hz0, hz1, hz2, hz3, hz4, hz5, hz6, hz7, hz8, hz9⟩ := ten_ BF.out) | (go_at_call 37; (with_reducible refine (impl_FontOk_1.calls _ _ _ (sz_i _)).mono ?_); rintro e w' ⟨rfl, ⟨nd, rfl⟩⟩) | ((with_reducible refine gate_dst (N := 22) rfl ?_); (try (refine gate_guard (by rfl) ?_; dsimp only)); refine Box.part_load rfl 32 34 (.tmp 21) rfl gf 3 #[.string a0, .slice A1 l1.length c1, .slice A2 l2.length c2, .int .i64 a3, .int .i64 a4, .int .i64 a5, .int .i64 a6, .int .i64 a7, .int .i64 a8, .int .i64 a9] [.int .i64 a3, .int .i64 a4, .int .i64 a5, .int .i64 a6, .int .i64 a7] _ rfl (by (with_reducible repeat (first | refine blk_drewN ?_ _ | refine blk_drew ?_ | refine blk_alloc ?_ _)); exact BF.out) rfl Try.underlying32 hi32 ?_) | ((with_reducible refine gate_callee (f := 38) rfl ?_); (try (refine gate_guard (by rfl) ?_; dsimp only)); refine goesL_ (some 23) rfl rfl Try.func38 (by kernel_rfl) rfl #[.agg #[.int .i64 a3, .int .i64 a4, .int .i64 a5, .int .i64 a6, .int .i64 a7]] rfl (by (try simp only [List.map_toArray, List.map_cons, List.map_nil]); first | done | rfl) ?_; (with_reducible refine (impl_GlueOk.calls _ _ _ _ _ _ _ (glue_i _ _ _ _ _)).mono ?_); rintro e w5 ⟨rfl, hb⟩; refine ⟨_, rfl, ?_⟩; have n0_ := Aside0.mk (below_step (by repeat (first | (with_reducible first | exact HB.out | apply below_alloc | apply pw_below_drewN | apply below_drew1) | exact HB.out)) hb); have n1_ := Aside0.mk (blk_below (by (with_reducible repeat (first | refine blk_drewN ?_ _ | refine blk_drew ?_ | refine blk_alloc ?_ _)); exact BF.out) hb); clear HB BF hb hz0 hz1 hz2 hz3 hz4 hz5 hz6 hz7 hz8 hz9; have HB := n0_; have BF := n1_; clear n0_ n1_; obtain ⟨hz0, hz1, hz2, hz3, hz4, hz5, hz6, hz7, hz8, hz9⟩ := ten_ BF.out))
    go_ret
    exact ⟨by rw [R.out]; rfl, (by repeat (first | (with_reducible first | exact HB.out | apply below_alloc | apply pw_below_drewN | apply below_drew1) | exact HB.out))⟩
  have eh3 : decide ((2000 : Int) < (l2.length : Int)) = false := decide_eq_false (by omega)
  by_cases h6 : glueB a3 a4 a5 a6 a7 = true
  case neg =>
    have eh6 : glueB a3 a4 a5 a6 a7 = false := by simpa using h6
    have R := Aside0.mk (bad_hd a0 l1 l2 a3 a4 a5 a6 a7 a8 a9 (by unfold hdB; simp [h6]))
    clear hM h1 h3 h6
    go_enter Try.func10, Try.ntmps10
    go_wp2_with (first | ((with_reducible refine gate_dst (N := 1) rfl ?_); refine box_event ?hg (N := 1) ?hd (cs := #[.string a0, .slice A1 l1.length c1, .slice A2 l2.length c2, .int .i64 a3, .int .i64 a4, .int .i64 a5, .int .i64 a6, .int .i64 a7, .int .i64 a8, .int .i64 a9]) (t := 34) ?hr ?_; (case hd => rfl); (case hg => rfl); (case hr => first | (go_simp; done) | (go_simp; rfl)); intro gf hg wb hbox hb; have n0_ := Aside0.mk (below_step HB.out hb); have BF := Aside0.mk hbox; clear HB hg hbox hb; have HB := n0_; clear n0_; obtain ⟨hz0, hz1, hz2, hz3, hz4, hz5, hz6, hz7, hz8, hz9⟩ := ten_ BF.out) | (go_at_call 37; (with_reducible refine (impl_FontOk_1.calls _ _ _ (sz_i _)).mono ?_); rintro e w' ⟨rfl, ⟨nd, rfl⟩⟩) | ((with_reducible refine gate_dst (N := 22) rfl ?_); (try (refine gate_guard (by rfl) ?_; dsimp only)); refine Box.part_load rfl 32 34 (.tmp 21) rfl gf 3 #[.string a0, .slice A1 l1.length c1, .slice A2 l2.length c2, .int .i64 a3, .int .i64 a4, .int .i64 a5, .int .i64 a6, .int .i64 a7, .int .i64 a8, .int .i64 a9] [.int .i64 a3, .int .i64 a4, .int .i64 a5, .int .i64 a6, .int .i64 a7] _ rfl (by (with_reducible repeat (first | refine blk_drewN ?_ _ | refine blk_drew ?_ | refine blk_alloc ?_ _)); exact BF.out) rfl Try.underlying32 hi32 ?_) | ((with_reducible refine gate_callee (f := 38) rfl ?_); (try (refine gate_guard (by rfl) ?_; dsimp only)); refine goesL_ (some 23) rfl rfl Try.func38 (by kernel_rfl) rfl #[.agg #[.int .i64 a3, .int .i64 a4, .int .i64 a5, .int .i64 a6, .int .i64 a7]] rfl (by (try simp only [List.map_toArray, List.map_cons, List.map_nil]); first | done | rfl) ?_; (with_reducible refine (impl_GlueOk.calls _ _ _ _ _ _ _ (glue_i _ _ _ _ _)).mono ?_); rintro e w5 ⟨rfl, hb⟩; refine ⟨_, rfl, ?_⟩; have n0_ := Aside0.mk (below_step (by repeat (first | (with_reducible first | exact HB.out | apply below_alloc | apply pw_below_drewN | apply below_drew1) | exact HB.out)) hb); have n1_ := Aside0.mk (blk_below (by (with_reducible repeat (first | refine blk_drewN ?_ _ | refine blk_drew ?_ | refine blk_alloc ?_ _)); exact BF.out) hb); clear HB BF hb hz0 hz1 hz2 hz3 hz4 hz5 hz6 hz7 hz8 hz9; have HB := n0_; have BF := n1_; clear n0_ n1_; obtain ⟨hz0, hz1, hz2, hz3, hz4, hz5, hz6, hz7, hz8, hz9⟩ := ten_ BF.out))
    go_ret
    exact ⟨by rw [R.out]; rfl, (by repeat (first | (with_reducible first | exact HB.out | apply below_alloc | apply pw_below_drewN | apply below_drew1) | exact HB.out))⟩
  have eh6 : glueB a3 a4 a5 a6 a7 = true := h6
  by_cases h7 : 0 ≤ a3
  case neg =>
    have eh7 : decide (a3 < 0) = true := decide_eq_true (by omega)
    have R := Aside0.mk (bad_hd a0 l1 l2 a3 a4 a5 a6 a7 a8 a9 (by unfold hdB; simp [h7]))
    clear hM h1 h3 h6 h7
    go_enter Try.func10, Try.ntmps10
    go_wp2_with (first | ((with_reducible refine gate_dst (N := 1) rfl ?_); refine box_event ?hg (N := 1) ?hd (cs := #[.string a0, .slice A1 l1.length c1, .slice A2 l2.length c2, .int .i64 a3, .int .i64 a4, .int .i64 a5, .int .i64 a6, .int .i64 a7, .int .i64 a8, .int .i64 a9]) (t := 34) ?hr ?_; (case hd => rfl); (case hg => rfl); (case hr => first | (go_simp; done) | (go_simp; rfl)); intro gf hg wb hbox hb; have n0_ := Aside0.mk (below_step HB.out hb); have BF := Aside0.mk hbox; clear HB hg hbox hb; have HB := n0_; clear n0_; obtain ⟨hz0, hz1, hz2, hz3, hz4, hz5, hz6, hz7, hz8, hz9⟩ := ten_ BF.out) | (go_at_call 37; (with_reducible refine (impl_FontOk_1.calls _ _ _ (sz_i _)).mono ?_); rintro e w' ⟨rfl, ⟨nd, rfl⟩⟩) | ((with_reducible refine gate_dst (N := 22) rfl ?_); (try (refine gate_guard (by rfl) ?_; dsimp only)); refine Box.part_load rfl 32 34 (.tmp 21) rfl gf 3 #[.string a0, .slice A1 l1.length c1, .slice A2 l2.length c2, .int .i64 a3, .int .i64 a4, .int .i64 a5, .int .i64 a6, .int .i64 a7, .int .i64 a8, .int .i64 a9] [.int .i64 a3, .int .i64 a4, .int .i64 a5, .int .i64 a6, .int .i64 a7] _ rfl (by (with_reducible repeat (first | refine blk_drewN ?_ _ | refine blk_drew ?_ | refine blk_alloc ?_ _)); exact BF.out) rfl Try.underlying32 hi32 ?_) | ((with_reducible refine gate_callee (f := 38) rfl ?_); (try (refine gate_guard (by rfl) ?_; dsimp only)); refine goesL_ (some 23) rfl rfl Try.func38 (by kernel_rfl) rfl #[.agg #[.int .i64 a3, .int .i64 a4, .int .i64 a5, .int .i64 a6, .int .i64 a7]] rfl (by (try simp only [List.map_toArray, List.map_cons, List.map_nil]); first | done | rfl) ?_; (with_reducible refine (impl_GlueOk.calls _ _ _ _ _ _ _ (glue_i _ _ _ _ _)).mono ?_); rintro e w5 ⟨rfl, hb⟩; refine ⟨_, rfl, ?_⟩; have n0_ := Aside0.mk (below_step (by repeat (first | (with_reducible first | exact HB.out | apply below_alloc | apply pw_below_drewN | apply below_drew1) | exact HB.out)) hb); have n1_ := Aside0.mk (blk_below (by (with_reducible repeat (first | refine blk_drewN ?_ _ | refine blk_drew ?_ | refine blk_alloc ?_ _)); exact BF.out) hb); clear HB BF hb hz0 hz1 hz2 hz3 hz4 hz5 hz6 hz7 hz8 hz9; have HB := n0_; have BF := n1_; clear n0_ n1_; obtain ⟨hz0, hz1, hz2, hz3, hz4, hz5, hz6, hz7, hz8, hz9⟩ := ten_ BF.out))
    go_ret
    exact ⟨by rw [R.out]; rfl, (by repeat (first | (with_reducible first | exact HB.out | apply below_alloc | apply pw_below_drewN | apply below_drew1) | exact HB.out))⟩
  have eh7 : decide (a3 < 0) = false := decide_eq_false (by omega)
  by_cases h8 : a5 = 0
  case neg =>
    have eh8 : (a5 != 0) = true := bne_iff_ne.mpr h8
    have R := Aside0.mk (bad_hd a0 l1 l2 a3 a4 a5 a6 a7 a8 a9 (by unfold hdB; simp [h8]))
    clear hM h1 h3 h6 h7 h8
    go_enter Try.func10, Try.ntmps10
    go_wp2_with (first | ((with_reducible refine gate_dst (N := 1) rfl ?_); refine box_event ?hg (N := 1) ?hd (cs := #[.string a0, .slice A1 l1.length c1, .slice A2 l2.length c2, .int .i64 a3, .int .i64 a4, .int .i64 a5, .int .i64 a6, .int .i64 a7, .int .i64 a8, .int .i64 a9]) (t := 34) ?hr ?_; (case hd => rfl); (case hg => rfl); (case hr => first | (go_simp; done) | (go_simp; rfl)); intro gf hg wb hbox hb; have n0_ := Aside0.mk (below_step HB.out hb); have BF := Aside0.mk hbox; clear HB hg hbox hb; have HB := n0_; clear n0_; obtain ⟨hz0, hz1, hz2, hz3, hz4, hz5, hz6, hz7, hz8, hz9⟩ := ten_ BF.out) | (go_at_call 37; (with_reducible refine (impl_FontOk_1.calls _ _ _ (sz_i _)).mono ?_); rintro e w' ⟨rfl, ⟨nd, rfl⟩⟩) | ((with_reducible refine gate_dst (N := 22) rfl ?_); (try (refine gate_guard (by rfl) ?_; dsimp only)); refine Box.part_load rfl 32 34 (.tmp 21) rfl gf 3 #[.string a0, .slice A1 l1.length c1, .slice A2 l2.length c2, .int .i64 a3, .int .i64 a4, .int .i64 a5, .int .i64 a6, .int .i64 a7, .int .i64 a8, .int .i64 a9] [.int .i64 a3, .int .i64 a4, .int .i64 a5, .int .i64 a6, .int .i64 a7] _ rfl (by (with_reducible repeat (first | refine blk_drewN ?_ _ | refine blk_drew ?_ | refine blk_alloc ?_ _)); exact BF.out) rfl Try.underlying32 hi32 ?_) | ((with_reducible refine gate_callee (f := 38) rfl ?_); (try (refine gate_guard (by rfl) ?_; dsimp only)); refine goesL_ (some 23) rfl rfl Try.func38 (by kernel_rfl) rfl #[.agg #[.int .i64 a3, .int .i64 a4, .int .i64 a5, .int .i64 a6, .int .i64 a7]] rfl (by (try simp only [List.map_toArray, List.map_cons, List.map_nil]); first | done | rfl) ?_; (with_reducible refine (impl_GlueOk.calls _ _ _ _ _ _ _ (glue_i _ _ _ _ _)).mono ?_); rintro e w5 ⟨rfl, hb⟩; refine ⟨_, rfl, ?_⟩; have n0_ := Aside0.mk (below_step (by repeat (first | (with_reducible first | exact HB.out | apply below_alloc | apply pw_below_drewN | apply below_drew1) | exact HB.out)) hb); have n1_ := Aside0.mk (blk_below (by (with_reducible repeat (first | refine blk_drewN ?_ _ | refine blk_drew ?_ | refine blk_alloc ?_ _)); exact BF.out) hb); clear HB BF hb hz0 hz1 hz2 hz3 hz4 hz5 hz6 hz7 hz8 hz9; have HB := n0_; have BF := n1_; clear n0_ n1_; obtain ⟨hz0, hz1, hz2, hz3, hz4, hz5, hz6, hz7, hz8, hz9⟩ := ten_ BF.out))
    go_ret
    exact ⟨by rw [R.out]; rfl, (by repeat (first | (with_reducible first | exact HB.out | apply below_alloc | apply pw_below_drewN | apply below_drew1) | exact HB.out))⟩
  have eh8 : (a5 != 0) = false := bne_eq_false_iff_eq.mpr h8
  by_cases h9 : a7 = 0
  case neg =>
    have eh9 : (a7 != 0) = true := bne_iff_ne.mpr h9
    have R := Aside0.mk (bad_hd a0 l1 l2 a3 a4 a5 a6 a7 a8 a9 (by unfold hdB; simp [h9]))
    clear hM h1 h3 h6 h7 h8 h9
    go_enter Try.func10, Try.ntmps10
    go_wp2_with (first | ((with_reducible refine gate_dst (N := 1) rfl ?_); refine box_event ?hg (N := 1) ?hd (cs := #[.string a0, .slice A1 l1.length c1, .slice A2 l2.length c2, .int .i64 a3, .int .i64 a4, .int .i64 a5, .int .i64 a6, .int .i64 a7, .int .i64 a8, .int .i64 a9]) (t := 34) ?hr ?_; (case hd => rfl); (case hg => rfl); (case hr => first | (go_simp; done) | (go_simp; rfl)); intro gf hg wb hbox hb; have n0_ := Aside0.mk (below_step HB.out hb); have BF := Aside0.mk hbox; clear HB hg hbox hb; have HB := n0_; clear n0_; obtain ⟨hz0, hz1, hz2, hz3, hz4, hz5, hz6, hz7, hz8, hz9⟩ := ten_ BF.out) | (go_at_call 37; (with_reducible refine (impl_FontOk_1.calls _ _ _ (sz_i _)).mono ?_); rintro e w' ⟨rfl, ⟨nd, rfl⟩⟩) | ((with_reducible refine gate_dst (N := 22) rfl ?_); (try (refine gate_guard (by rfl) ?_; dsimp only)); refine Box.part_load rfl 32 34 (.tmp 21) rfl gf 3 #[.string a0, .slice A1 l1.length c1, .slice A2 l2.length c2, .int .i64 a3, .int .i64 a4, .int .i64 a5, .int .i64 a6, .int .i64 a7, .int .i64 a8, .int .i64 a9] [.int .i64 a3, .int .i64 a4, .int .i64 a5, .int .i64 a6, .int .i64 a7] _ rfl (by (with_reducible repeat (first | refine blk_drewN ?_ _ | refine blk_drew ?_ | refine blk_alloc ?_ _)); exact BF.out) rfl Try.underlying32 hi32 ?_) | ((with_reducible refine gate_callee (f := 38) rfl ?_); (try (refine gate_guard (by rfl) ?_; dsimp only)); refine goesL_ (some 23) rfl rfl Try.func38 (by kernel_rfl) rfl #[.agg #[.int .i64 a3, .int .i64 a4, .int .i64 a5, .int .i64 a6, .int .i64 a7]] rfl (by (try simp only [List.map_toArray, List.map_cons, List.map_nil]); first | done | rfl) ?_; (with_reducible refine (impl_GlueOk.calls _ _ _ _ _ _ _ (glue_i _ _ _ _ _)).mono ?_); rintro e w5 ⟨rfl, hb⟩; refine ⟨_, rfl, ?_⟩; have n0_ := Aside0.mk (below_step (by repeat (first | (with_reducible first | exact HB.out | apply below_alloc | apply pw_below_drewN | apply below_drew1) | exact HB.out)) hb); have n1_ := Aside0.mk (blk_below (by (with_reducible repeat (first | refine blk_drewN ?_ _ | refine blk_drew ?_ | refine blk_alloc ?_ _)); exact BF.out) hb); clear HB BF hb hz0 hz1 hz2 hz3 hz4 hz5 hz6 hz7 hz8 hz9; have HB := n0_; have BF := n1_; clear n0_ n1_; obtain ⟨hz0, hz1, hz2, hz3, hz4, hz5, hz6, hz7, hz8, hz9⟩ := ten_ BF.out))
    go_ret
    exact ⟨by rw [R.out]; rfl, (by repeat (first | (with_reducible first | exact HB.out | apply below_alloc | apply pw_below_drewN | apply below_drew1) | exact HB.out))⟩
  have eh9 : (a7 != 0) = false := bne_eq_false_iff_eq.mpr h9
  by_cases h4 : szB a8 = true
  case neg =>
    have eh4 : szB a8 = false := by simpa using h4
    have R := Aside0.mk (bad_hd a0 l1 l2 a3 a4 a5 a6 a7 a8 a9 (by unfold hdB; simp [h4]))
    clear hM h1 h3 h6 h7 h8 h9 h4
    go_enter Try.func10, Try.ntmps10
    go_wp2_with (first | ((with_reducible refine gate_dst (N := 1) rfl ?_); refine box_event ?hg (N := 1) ?hd (cs := #[.string a0, .slice A1 l1.length c1, .slice A2 l2.length c2, .int .i64 a3, .int .i64 a4, .int .i64 a5, .int .i64 a6, .int .i64 a7, .int .i64 a8, .int .i64 a9]) (t := 34) ?hr ?_; (case hd => rfl); (case hg => rfl); (case hr => first | (go_simp; done) | (go_simp; rfl)); intro gf hg wb hbox hb; have n0_ := Aside0.mk (below_step HB.out hb); have BF := Aside0.mk hbox; clear HB hg hbox hb; have HB := n0_; clear n0_; obtain ⟨hz0, hz1, hz2, hz3, hz4, hz5, hz6, hz7, hz8, hz9⟩ := ten_ BF.out) | (go_at_call 37; (with_reducible refine (impl_FontOk_1.calls _ _ _ (sz_i _)).mono ?_); rintro e w' ⟨rfl, ⟨nd, rfl⟩⟩) | ((with_reducible refine gate_dst (N := 22) rfl ?_); (try (refine gate_guard (by rfl) ?_; dsimp only)); refine Box.part_load rfl 32 34 (.tmp 21) rfl gf 3 #[.string a0, .slice A1 l1.length c1, .slice A2 l2.length c2, .int .i64 a3, .int .i64 a4, .int .i64 a5, .int .i64 a6, .int .i64 a7, .int .i64 a8, .int .i64 a9] [.int .i64 a3, .int .i64 a4, .int .i64 a5, .int .i64 a6, .int .i64 a7] _ rfl (by (with_reducible repeat (first | refine blk_drewN ?_ _ | refine blk_drew ?_ | refine blk_alloc ?_ _)); exact BF.out) rfl Try.underlying32 hi32 ?_) | ((with_reducible refine gate_callee (f := 38) rfl ?_); (try (refine gate_guard (by rfl) ?_; dsimp only)); refine goesL_ (some 23) rfl rfl Try.func38 (by kernel_rfl) rfl #[.agg #[.int .i64 a3, .int .i64 a4, .int .i64 a5, .int .i64 a6, .int .i64 a7]] rfl (by (try simp only [List.map_toArray, List.map_cons, List.map_nil]); first | done | rfl) ?_; (with_reducible refine (impl_GlueOk.calls _ _ _ _ _ _ _ (glue_i _ _ _ _ _)).mono ?_); rintro e w5 ⟨rfl, hb⟩; refine ⟨_, rfl, ?_⟩; have n0_ := Aside0.mk (below_step (by repeat (first | (with_reducible first | exact HB.out | apply below_alloc | apply pw_below_drewN | apply below_drew1) | exact HB.out)) hb); have n1_ := Aside0.mk (blk_below (by (with_reducible repeat (first | refine blk_drewN ?_ _ | refine blk_drew ?_ | refine blk_alloc ?_ _)); exact BF.out) hb); clear HB BF hb hz0 hz1 hz2 hz3 hz4 hz5 hz6 hz7 hz8 hz9; have HB := n0_; have BF := n1_; clear n0_ n1_; obtain ⟨hz0, hz1, hz2, hz3, hz4, hz5, hz6, hz7, hz8, hz9⟩ := ten_ BF.out))
    go_ret
    exact ⟨by rw [R.out]; rfl, (by repeat (first | (with_reducible first | exact HB.out | apply below_alloc | apply pw_below_drewN | apply below_drew1) | exact HB.out))⟩
  have eh4 : szB a8 = true := h4
  by_cases h5 : szB a9 = true
  case neg =>
    have eh5 : szB a9 = false := by simpa using h5
    have R := Aside0.mk (bad_hd a0 l1 l2 a3 a4 a5 a6 a7 a8 a9 (by unfold hdB; simp [h5]))
    clear hM h1 h3 h6 h7 h8 h9 h4 h5
    go_enter Try.func10, Try.ntmps10
    go_wp2_with (first | ((with_reducible refine gate_dst (N := 1) rfl ?_); refine box_event ?hg (N := 1) ?hd (cs := #[.string a0, .slice A1 l1.length c1, .slice A2 l2.length c2, .int .i64 a3, .int .i64 a4, .int .i64 a5, .int .i64 a6, .int .i64 a7, .int .i64 a8, .int .i64 a9]) (t := 34) ?hr ?_; (case hd => rfl); (case hg => rfl); (case hr => first | (go_simp; done) | (go_simp; rfl)); intro gf hg wb hbox hb; have n0_ := Aside0.mk (below_step HB.out hb); have BF := Aside0.mk hbox; clear HB hg hbox hb; have HB := n0_; clear n0_; obtain ⟨hz0, hz1, hz2, hz3, hz4, hz5, hz6, hz7, hz8, hz9⟩ := ten_ BF.out) | (go_at_call 37; (with_reducible refine (impl_FontOk_1.calls _ _ _ (sz_i _)).mono ?_); rintro e w' ⟨rfl, ⟨nd, rfl⟩⟩) | ((with_reducible refine gate_dst (N := 22) rfl ?_); (try (refine gate_guard (by rfl) ?_; dsimp only)); refine Box.part_load rfl 32 34 (.tmp 21) rfl gf 3 #[.string a0, .slice A1 l1.length c1, .slice A2 l2.length c2, .int .i64 a3, .int .i64 a4, .int .i64 a5, .int .i64 a6, .int .i64 a7, .int .i64 a8, .int .i64 a9] [.int .i64 a3, .int .i64 a4, .int .i64 a5, .int .i64 a6, .int .i64 a7] _ rfl (by (with_reducible repeat (first | refine blk_drewN ?_ _ | refine blk_drew ?_ | refine blk_alloc ?_ _)); exact BF.out) rfl Try.underlying32 hi32 ?_) | ((with_reducible refine gate_callee (f := 38) rfl ?_); (try (refine gate_guard (by rfl) ?_; dsimp only)); refine goesL_ (some 23) rfl rfl Try.func38 (by kernel_rfl) rfl #[.agg #[.int .i64 a3, .int .i64 a4, .int .i64 a5, .int .i64 a6, .int .i64 a7]] rfl (by (try simp only [List.map_toArray, List.map_cons, List.map_nil]); first | done | rfl) ?_; (with_reducible refine (impl_GlueOk.calls _ _ _ _ _ _ _ (glue_i _ _ _ _ _)).mono ?_); rintro e w5 ⟨rfl, hb⟩; refine ⟨_, rfl, ?_⟩; have n0_ := Aside0.mk (below_step (by repeat (first | (with_reducible first | exact HB.out | apply below_alloc | apply pw_below_drewN | apply below_drew1) | exact HB.out)) hb); have n1_ := Aside0.mk (blk_below (by (with_reducible repeat (first | refine blk_drewN ?_ _ | refine blk_drew ?_ | refine blk_alloc ?_ _)); exact BF.out) hb); clear HB BF hb hz0 hz1 hz2 hz3 hz4 hz5 hz6 hz7 hz8 hz9; have HB := n0_; have BF := n1_; clear n0_ n1_; obtain ⟨hz0, hz1, hz2, hz3, hz4, hz5, hz6, hz7, hz8, hz9⟩ := ten_ BF.out))
    go_ret
    exact ⟨by rw [R.out]; rfl, (by repeat (first | (with_reducible first | exact HB.out | apply below_alloc | apply pw_below_drewN | apply below_drew1) | exact HB.out))⟩
  have eh5 : szB a9 = true := h5
  have HD : Aside0 (hdB a0 l2.length a3 a4 a5 a6 a7 a8 a9 = true) := ⟨by unfold hdB; rw [h4, h5, h6, decide_eq_true h1, decide_eq_true h3, decide_eq_true h7, decide_eq_true h8, decide_eq_true h9]; rfl⟩
  clear hM h1 h3 h6 h7 h8 h9 h4 h5
  have hmm := @run_makeMap Try.prog
  go_enter Try.func10, Try.ntmps10
  go_upto_region 5 with (first | ((with_reducible refine gate_dst (N := 1) rfl ?_); refine box_event ?hg (N := 1) ?hd (cs := #[.string a0, .slice A1 l1.length c1, .slice A2 l2.length c2, .int .i64 a3, .int .i64 a4, .int .i64 a5, .int .i64 a6, .int .i64 a7, .int .i64 a8, .int .i64 a9]) (t := 34) ?hr ?_; (case hd => rfl); (case hg => rfl); (case hr => first | (go_simp; done) | (go_simp; rfl)); intro gf hg wb hbox hb; have n0_ := Aside0.mk (below_step HB.out hb); have BF := Aside0.mk hbox; clear HB hg hbox hb; have HB := n0_; clear n0_; obtain ⟨hz0, hz1, hz2, hz3, hz4, hz5, hz6, hz7, hz8, hz9⟩ := ten_ BF.out) | (go_at_call 37; (with_reducible refine (impl_FontOk_1.calls _ _ _ (sz_i _)).mono ?_); rintro e w' ⟨rfl, ⟨nd, rfl⟩⟩) | ((with_reducible refine gate_dst (N := 22) rfl ?_); (try (refine gate_guard (by rfl) ?_; dsimp only)); refine Box.part_load rfl 32 34 (.tmp 21) rfl gf 3 #[.string a0, .slice A1 l1.length c1, .slice A2 l2.length c2, .int .i64 a3, .int .i64 a4, .int .i64 a5, .int .i64 a6, .int .i64 a7, .int .i64 a8, .int .i64 a9] [.int .i64 a3, .int .i64 a4, .int .i64 a5, .int .i64 a6, .int .i64 a7] _ rfl (by (with_reducible repeat (first | refine blk_drewN ?_ _ | refine blk_drew ?_ | refine blk_alloc ?_ _)); exact BF.out) rfl Try.underlying32 hi32 ?_) | ((with_reducible refine gate_callee (f := 38) rfl ?_); (try (refine gate_guard (by rfl) ?_; dsimp only)); refine goesL_ (some 23) rfl rfl Try.func38 (by kernel_rfl) rfl #[.agg #[.int .i64 a3, .int .i64 a4, .int .i64 a5, .int .i64 a6, .int .i64 a7]] rfl (by (try simp only [List.map_toArray, List.map_cons, List.map_nil]); first | done | rfl) ?_; (with_reducible refine (impl_GlueOk.calls _ _ _ _ _ _ _ (glue_i _ _ _ _ _)).mono ?_); rintro e w5 ⟨rfl, hb⟩; refine ⟨_, rfl, ?_⟩; have n0_ := Aside0.mk (below_step (by repeat (first | (with_reducible first | exact HB.out | apply below_alloc | apply pw_below_drewN | apply below_drew1) | exact HB.out)) hb); have n1_ := Aside0.mk (blk_below (by (with_reducible repeat (first | refine blk_drewN ?_ _ | refine blk_drew ?_ | refine blk_alloc ?_ _)); exact BF.out) hb); clear HB BF hb hz0 hz1 hz2 hz3 hz4 hz5 hz6 hz7 hz8 hz9; have HB := n0_; have BF := n1_; clear n0_ n1_; obtain ⟨hz0, hz1, hz2, hz3, hz4, hz5, hz6, hz7, hz8, hz9⟩ := ten_ BF.out))
  clear hmm
  obtain ⟨gm, egm⟩ : ∃ g_ : Nat, g_ = w5.heap.size := ⟨_, rfl⟩
  have HGM : Aside0 (w.heap.size ≤ gm) := ⟨by rw [egm]; exact below_size HB.out⟩
  have HNM : Aside0 (¬ gm = gf) := ⟨by rw [egm]; exact Nat.ne_of_gt (blk_lt BF.out)⟩
  try rw [← egm]
  generalize hW : World.alloc _ (Obj.map #[] 0) = wm
  have BM : Aside0 (wm.heap[gm]? = some (.map #[] 0)) := ⟨by rw [← hW, egm]; exact blk_new _ _⟩
  have n0_ : Aside0 (Below w.heap.size w wm) := ⟨by rw [← hW]; exact (by repeat (first | (with_reducible first | exact HB.out | apply below_alloc | apply pw_below_drewN | apply below_drew1) | exact HB.out))⟩
  have n1_ : Aside0 (wm.heap[gf]? = some (.cells #[.string a0, .slice A1 l1.length c1, .slice A2 l2.length c2, .int .i64 a3, .int .i64 a4, .int .i64 a5, .int .i64 a6, .int .i64 a7, .int .i64 a8, .int .i64 a9] 34 (0, 0))) := ⟨by rw [← hW]; exact (by (with_reducible repeat (first | refine blk_drewN ?_ _ | refine blk_drew ?_ | refine blk_alloc ?_ _)); exact BF.out)⟩
  clear egm hW HB BF hz0 hz1 hz2 hz3 hz4 hz5 hz6 hz7 hz8 hz9
  have HB := n0_
  have BF := n1_
  clear n0_ n1_
  obtain ⟨hz0, hz1, hz2, hz3, hz4, hz5, hz6, hz7, hz8, hz9⟩ := ten_ BF.out
  go_wp2
  go_loopg [62] (l1.length + 1) (fun kq v62 w' => ∃ (x : Int) (om : Obj), v62 = .int .i64 x ∧ Aside0 ((l1.length : Int) + 1 ≤ kq + x) ∧ Aside0 (0 ≤ x ∧ x ≤ (l1.length : Int) ∧ ∀ m : Nat, (m : Int) < x → gB l1 (m : Int) = true) ∧ Aside0 (w'.heap[gf]? = some (.cells #[.string a0, .slice A1 l1.length c1, .slice A2 l2.length c2, .int .i64 a3, .int .i64 a4, .int .i64 a5, .int .i64 a6, .int .i64 a7, .int .i64 a8, .int .i64 a9] 34 (0, 0))) ∧ Aside0 (w'.heap[gm]? = some om) ∧ Aside0 (SetObj om x.toNat (hasB (l1.take x.toNat))) ∧ Aside0 (Below w.heap.size w w'))
  case atStart => exact ⟨0, .map #[] 0, (by first | rfl | (simp; done) | (simp [*]; done)), ⟨by simp⟩, ⟨⟨by omega, by omega, fun m hm => by omega⟩⟩, BF, BM, ⟨SetObj.new w⟩, ⟨(by repeat (first | (with_reducible first | exact HB.out | apply below_alloc | apply pw_below_drewN | apply below_drew1) | exact HB.out))⟩⟩
  case round =>
    clear HB BF hz0 hz1 hz2 hz3 hz4 hz5 hz6 hz7 hz8 hz9 BM
    obtain ⟨x, om, rfl, HF, HX, BF, BM, SO, HB⟩ := hrel
    obtain ⟨hz0, hz1, hz2, hz3, hz4, hz5, hz6, hz7, hz8, hz9⟩ := ten_ BF.out
    have x0 : 0 ≤ x := HX.out.1
    by_cases xl : x < (l1.length : Int)
    case pos =>
      have ex : decide (x < (l1.length : Int)) = true := decide_eq_true xl
      have gone : gB l1 x = false → fontB a0 l1 l2 a3 a4 a5 a6 a7 a8 a9 = false := fun hh => bad_g a0 l1 l2 a3 a4 a5 a6 a7 a8 a9 (allB_false x0 xl hh)
      obtain ⟨ad1, ead1, y1_0, y1_1, y1_2, y1_3⟩ := at_T39 HR1.out x x0 xl
      cases ead1
      replace y1_0 := (HB.out.cell (World.block_lt_of_cell? w _ y1_0)).trans y1_0
      replace y1_1 := (HB.out.cell (World.block_lt_of_cell? w _ y1_1)).trans y1_1
      replace y1_2 := (HB.out.cell (World.block_lt_of_cell? w _ y1_2)).trans y1_2
      replace y1_3 := (HB.out.cell (World.block_lt_of_cell? w _ y1_3)).trans y1_3
      have X0 := eq_true x0
      have XL := eq_true xl
      by_cases k1 : 0 ≤ (rd_T39 l1 x).f0
      case neg =>
        have ek1 : decide ((rd_T39 l1 x).f0 < 0) = true := decide_eq_true (by omega)
        have R := Aside0.mk (gone (by unfold gB; rw [decide_eq_false k1]; rfl))
        clear gone x0 xl k1
        go_wp2_with (fail)
        refine z_start 191 (CH w _) (by kernel_rfl) (by kernel_rfl) (CH.drew (CH.alloc _ (CH.cons BF.out (CH.cons BM.out (CH.nil HB.out))))) ?_
        with_reducible refine zv 67 (.pointer (some ⟨wr.heap.size, 0, none⟩)) (by kernel_rfl) (fun _ => ex_field (u := .pointer (some ⟨wr.heap.size, 0, none⟩)) rfl (by kernel_rfl) (by kernel_rfl)) (zi 68 (.int .i64 (rd_T39 l1 x).f0) (by kernel_rfl) (fun w_ hC_ => ex_load (ad := ⟨wr.heap.size, 0, none⟩) rfl (by kernel_rfl) (ld_2 (hC_.c 0 0 (by kernel_rfl) (by kernel_rfl)))) (zb 69 (decide ((rd_T39 l1 x).f0 < 0)) true (by kernel_rfl) (fun _ => ex_lss (by kernel_rfl) (by kernel_rfl) rfl) (ek1) (zm 70 (.bool true) (by kernel_rfl) (by kernel_rfl) (zs 71 (by kernel_rfl) (zs 72 (by kernel_rfl) (zs 73 (by kernel_rfl) (zm 74 (.bool true) (by kernel_rfl) (by kernel_rfl) (zm 75 (.bool true) (by kernel_rfl) (by kernel_rfl) ?_))))))))
        with_reducible refine zs 76 (by kernel_rfl) (zs 77 (by kernel_rfl) (zs 78 (by kernel_rfl) (zs 79 (by kernel_rfl) (zs 80 (by kernel_rfl) (zs 81 (by kernel_rfl) (zs 82 (by kernel_rfl) (zs 83 (by kernel_rfl) (zs 84 (by kernel_rfl) ?_))))))))
        with_reducible refine zs 85 (by kernel_rfl) (zs 86 (by kernel_rfl) (zs 87 (by kernel_rfl) (zs 88 (by kernel_rfl) (zs 89 (by kernel_rfl) (zm 90 (.bool true) (by kernel_rfl) (by kernel_rfl) (zm 91 (.bool true) (by kernel_rfl) (by kernel_rfl) (zs 92 (by kernel_rfl) (zs 93 (by kernel_rfl) ?_))))))))
        with_reducible refine zs 94 (by kernel_rfl) (zs 95 (by kernel_rfl) (zs 96 (by kernel_rfl) (zm 97 (.bool true) (by kernel_rfl) (by kernel_rfl) (zm 98 (.bool true) (by kernel_rfl) (by kernel_rfl) (zs 99 (by kernel_rfl) (zs 100 (by kernel_rfl) (zs 101 (by kernel_rfl) (zs 102 (by kernel_rfl) ?_))))))))
        with_reducible refine zs 103 (by kernel_rfl) (zm 104 (.bool true) (by kernel_rfl) (by kernel_rfl) (zm 105 (.bool true) (by kernel_rfl) (by kernel_rfl) (zs 106 (by kernel_rfl) (zs 107 (by kernel_rfl) (zs 108 (by kernel_rfl) (zs 109 (by kernel_rfl) (zs 110 (by kernel_rfl) (zm 111 (.bool true) (by kernel_rfl) (by kernel_rfl) ?_))))))))
        refine z_end ?_
        intro wq hC_
        simp only [putL, Act.put, List.setIfInBounds_toArray, List.set_cons_zero, List.set_cons_succ]
        go_wp2
        go_ret
        exact ⟨by rw [R.out]; rfl, hC_.below⟩
      have ek1 : decide ((rd_T39 l1 x).f0 < 0) = false := decide_eq_false (by omega)
      by_cases k2 : (rd_T39 l1 x).f0 ≤ 255
      case neg =>
        have ek2 : decide (255 < (rd_T39 l1 x).f0) = true := decide_eq_true (by omega)
        have R := Aside0.mk (gone (by unfold gB; rw [decide_eq_false k2]; simp))
        clear gone x0 xl k1 k2
        go_wp2_with (fail)
        refine z_start 191 (CH w _) (by kernel_rfl) (by kernel_rfl) (CH.drew (CH.alloc _ (CH.cons BF.out (CH.cons BM.out (CH.nil HB.out))))) ?_
        with_reducible refine zv 67 (.pointer (some ⟨wr.heap.size, 0, none⟩)) (by kernel_rfl) (fun _ => ex_field (u := .pointer (some ⟨wr.heap.size, 0, none⟩)) rfl (by kernel_rfl) (by kernel_rfl)) (zi 68 (.int .i64 (rd_T39 l1 x).f0) (by kernel_rfl) (fun w_ hC_ => ex_load (ad := ⟨wr.heap.size, 0, none⟩) rfl (by kernel_rfl) (ld_2 (hC_.c 0 0 (by kernel_rfl) (by kernel_rfl)))) (zb 69 (decide ((rd_T39 l1 x).f0 < 0)) false (by kernel_rfl) (fun _ => ex_lss (by kernel_rfl) (by kernel_rfl) rfl) (ek1) (zm 70 (.bool false) (by kernel_rfl) (by kernel_rfl) (zv 71 (.pointer (some ⟨wr.heap.size, 0, none⟩)) (by kernel_rfl) (fun _ => ex_field (u := .pointer (some ⟨wr.heap.size, 0, none⟩)) rfl (by kernel_rfl) (by kernel_rfl)) (zi 72 (.int .i64 (rd_T39 l1 x).f0) (by kernel_rfl) (fun w_ hC_ => ex_load (ad := ⟨wr.heap.size, 0, none⟩) rfl (by kernel_rfl) (ld_2 (hC_.c 0 0 (by kernel_rfl) (by kernel_rfl)))) (zb 73 (decide (255 < (rd_T39 l1 x).f0)) true (by kernel_rfl) (fun _ => ex_gtr (by kernel_rfl) (by kernel_rfl) rfl) (ek2) (zm 74 (.bool true) (by kernel_rfl) (by kernel_rfl) (zm 75 (.bool true) (by kernel_rfl) (by kernel_rfl) ?_))))))))
        with_reducible refine zs 76 (by kernel_rfl) (zs 77 (by kernel_rfl) (zs 78 (by kernel_rfl) (zs 79 (by kernel_rfl) (zs 80 (by kernel_rfl) (zs 81 (by kernel_rfl) (zs 82 (by kernel_rfl) (zs 83 (by kernel_rfl) (zs 84 (by kernel_rfl) ?_))))))))
        with_reducible refine zs 85 (by kernel_rfl) (zs 86 (by kernel_rfl) (zs 87 (by kernel_rfl) (zs 88 (by kernel_rfl) (zs 89 (by kernel_rfl) (zm 90 (.bool true) (by kernel_rfl) (by kernel_rfl) (zm 91 (.bool true) (by kernel_rfl) (by kernel_rfl) (zs 92 (by kernel_rfl) (zs 93 (by kernel_rfl) ?_))))))))
        with_reducible refine zs 94 (by kernel_rfl) (zs 95 (by kernel_rfl) (zs 96 (by kernel_rfl) (zm 97 (.bool true) (by kernel_rfl) (by kernel_rfl) (zm 98 (.bool true) (by kernel_rfl) (by kernel_rfl) (zs 99 (by kernel_rfl) (zs 100 (by kernel_rfl) (zs 101 (by kernel_rfl) (zs 102 (by kernel_rfl) ?_))))))))
        with_reducible refine zs 103 (by kernel_rfl) (zm 104 (.bool true) (by kernel_rfl) (by kernel_rfl) (zm 105 (.bool true) (by kernel_rfl) (by kernel_rfl) (zs 106 (by kernel_rfl) (zs 107 (by kernel_rfl) (zs 108 (by kernel_rfl) (zs 109 (by kernel_rfl) (zs 110 (by kernel_rfl) (zm 111 (.bool true) (by kernel_rfl) (by kernel_rfl) ?_))))))))
        refine z_end ?_
        intro wq hC_
        simp only [putL, Act.put, List.setIfInBounds_toArray, List.set_cons_zero, List.set_cons_succ]
        go_wp2
        go_ret
        exact ⟨by rw [R.out]; rfl, hC_.below⟩
      have ek2 : decide (255 < (rd_T39 l1 x).f0) = false := decide_eq_false (by omega)
      by_cases xp : 0 < x
      case pos =>
        have exp : decide (0 < x) = true := decide_eq_true xp
        have pw : wrap64 (x - 1) = x - 1 := win _ (by omega) (by have := HM.out.1; omega)
        have p0 : 0 ≤ wrap64 (x - 1) := by rw [pw]; omega
        have pl : wrap64 (x - 1) < (l1.length : Int) := by rw [pw]; omega
        clear pw
        obtain ⟨ad2, ead2, y2_0, _, _, _⟩ := at_T39 HR1.out (wrap64 (x - 1)) p0 pl
        obtain rfl : ad1 = ad2 := (by injection ead2)
        clear ead2
        have Y2_0 := Aside0.mk y2_0
        clear y2_0
        replace p0 := eq_true p0
        replace pl := eq_true pl
        by_cases k3 : (rd_T39 l1 (wrap64 (x - 1))).f0 < (rd_T39 l1 x).f0
        case neg =>
          have ek3 : decide ((rd_T39 l1 x).f0 ≤ (rd_T39 l1 (wrap64 (x - 1))).f0) = true := decide_eq_true (by omega)
          have R := Aside0.mk (gone (by unfold gB; rw [decide_eq_false k3, decide_eq_false (fun hn : ¬ 0 < x => hn xp)]; simp))
          clear gone x0 xl xp k1 k2 k3
          go_wp2_with (fail)
          refine z_start 191 (CH w _) (by kernel_rfl) (by kernel_rfl) (CH.drew (CH.alloc _ (CH.cons BF.out (CH.cons BM.out (CH.nil HB.out))))) ?_
          with_reducible refine zv 67 (.pointer (some ⟨wr.heap.size, 0, none⟩)) (by kernel_rfl) (fun _ => ex_field (u := .pointer (some ⟨wr.heap.size, 0, none⟩)) rfl (by kernel_rfl) (by kernel_rfl)) (zi 68 (.int .i64 (rd_T39 l1 x).f0) (by kernel_rfl) (fun w_ hC_ => ex_load (ad := ⟨wr.heap.size, 0, none⟩) rfl (by kernel_rfl) (ld_2 (hC_.c 0 0 (by kernel_rfl) (by kernel_rfl)))) (zb 69 (decide ((rd_T39 l1 x).f0 < 0)) false (by kernel_rfl) (fun _ => ex_lss (by kernel_rfl) (by kernel_rfl) rfl) (ek1) (zm 70 (.bool false) (by kernel_rfl) (by kernel_rfl) (zv 71 (.pointer (some ⟨wr.heap.size, 0, none⟩)) (by kernel_rfl) (fun _ => ex_field (u := .pointer (some ⟨wr.heap.size, 0, none⟩)) rfl (by kernel_rfl) (by kernel_rfl)) (zi 72 (.int .i64 (rd_T39 l1 x).f0) (by kernel_rfl) (fun w_ hC_ => ex_load (ad := ⟨wr.heap.size, 0, none⟩) rfl (by kernel_rfl) (ld_2 (hC_.c 0 0 (by kernel_rfl) (by kernel_rfl)))) (zb 73 (decide (255 < (rd_T39 l1 x).f0)) false (by kernel_rfl) (fun _ => ex_gtr (by kernel_rfl) (by kernel_rfl) rfl) (ek2) (zm 74 (.bool false) (by kernel_rfl) (by kernel_rfl) (zm 75 (.bool false) (by kernel_rfl) (by kernel_rfl) ?_))))))))
          with_reducible refine zm 76 (.int .i64 x) (by kernel_rfl) (by kernel_rfl) (zb 77 (decide (0 < x)) true (by kernel_rfl) (fun _ => ex_gtr (by kernel_rfl) (by kernel_rfl) rfl) (exp) (zm 78 (.bool true) (by kernel_rfl) (by kernel_rfl) (zv 79 (.pointer (some ⟨gf, 1, none⟩)) (by kernel_rfl) (fun _ => ex_field (u := .pointer (some ⟨gf, 0, none⟩)) rfl (by kernel_rfl) (by kernel_rfl)) (zi 80 (.slice (some ad1) l1.length c1) (by kernel_rfl) (fun w_ hC_ => ex_load (ad := ⟨gf, 1, none⟩) rfl (by kernel_rfl) (ld_30 (hC_.c 1 1 (by kernel_rfl) (by kernel_rfl)))) (zm 81 (.int .i64 x) (by kernel_rfl) (by kernel_rfl) (zv 82 (.int .i64 (wrap64 (x - 1))) (by kernel_rfl) (fun _ => ex_sub (by kernel_rfl) (by kernel_rfl) rfl) (zv 83 (.pointer (some (ad1.add ((wrap64 (x - 1)).toNat * 4)))) (by kernel_rfl) (fun _ => ex_index (u := .slice (some ad1) l1.length c1) (u' := .int .i64 (wrap64 (x - 1))) rfl (by kernel_rfl) (by kernel_rfl) (ix_30 (of_eq_true p0) (of_eq_true pl))) (zv 84 (.pointer (some (ad1.add ((wrap64 (x - 1)).toNat * 4)))) (by kernel_rfl) (fun _ => ex_field (u := .pointer (some (ad1.add ((wrap64 (x - 1)).toNat * 4)))) rfl (by kernel_rfl) (by kernel_rfl)) ?_))))))))
          with_reducible refine zi 85 (.int .i64 (rd_T39 l1 (wrap64 (x - 1))).f0) (by kernel_rfl) (fun w_ hC_ => ex_load (ad := (ad1.add ((wrap64 (x - 1)).toNat * 4))) rfl (by kernel_rfl) (ld_2 (hC_.old Y2_0.out))) (zv 86 (.pointer (some ⟨wr.heap.size, 0, none⟩)) (by kernel_rfl) (fun _ => ex_field (u := .pointer (some ⟨wr.heap.size, 0, none⟩)) rfl (by kernel_rfl) (by kernel_rfl)) (zi 87 (.int .i64 (rd_T39 l1 x).f0) (by kernel_rfl) (fun w_ hC_ => ex_load (ad := ⟨wr.heap.size, 0, none⟩) rfl (by kernel_rfl) (ld_2 (hC_.c 0 0 (by kernel_rfl) (by kernel_rfl)))) (zb 88 (decide ((rd_T39 l1 x).f0 ≤ (rd_T39 l1 (wrap64 (x - 1))).f0)) true (by kernel_rfl) (fun _ => ex_geq (by kernel_rfl) (by kernel_rfl) rfl) (ek3) (zm 89 (.bool true) (by kernel_rfl) (by kernel_rfl) (zm 90 (.bool true) (by kernel_rfl) (by kernel_rfl) (zm 91 (.bool true) (by kernel_rfl) (by kernel_rfl) (zs 92 (by kernel_rfl) (zs 93 (by kernel_rfl) ?_))))))))
          with_reducible refine zs 94 (by kernel_rfl) (zs 95 (by kernel_rfl) (zs 96 (by kernel_rfl) (zm 97 (.bool true) (by kernel_rfl) (by kernel_rfl) (zm 98 (.bool true) (by kernel_rfl) (by kernel_rfl) (zs 99 (by kernel_rfl) (zs 100 (by kernel_rfl) (zs 101 (by kernel_rfl) (zs 102 (by kernel_rfl) ?_))))))))
          with_reducible refine zs 103 (by kernel_rfl) (zm 104 (.bool true) (by kernel_rfl) (by kernel_rfl) (zm 105 (.bool true) (by kernel_rfl) (by kernel_rfl) (zs 106 (by kernel_rfl) (zs 107 (by kernel_rfl) (zs 108 (by kernel_rfl) (zs 109 (by kernel_rfl) (zs 110 (by kernel_rfl) (zm 111 (.bool true) (by kernel_rfl) (by kernel_rfl) ?_))))))))
          refine z_end ?_
          intro wq hC_
          simp only [putL, Act.put, List.setIfInBounds_toArray, List.set_cons_zero, List.set_cons_succ]
          go_wp2
          go_ret
          exact ⟨by rw [R.out]; rfl, hC_.below⟩
        have ek3 : decide ((rd_T39 l1 x).f0 ≤ (rd_T39 l1 (wrap64 (x - 1))).f0) = false := decide_eq_false (by omega)
        by_cases k4 : szB (rd_T39 l1 x).f1 = true
        case neg =>
          have ek4 : szB (rd_T39 l1 x).f1 = false := by simpa using k4
          have R := Aside0.mk (gone (by unfold gB; rw [show szB (rd_T39 l1 x).f1 = false by simpa using k4]; simp))
          clear gone x0 xl xp k1 k2 k3 k4
          go_wp2_with (fail)
          refine z_start 191 (CH w _) (by kernel_rfl) (by kernel_rfl) (CH.drew (CH.alloc _ (CH.cons BF.out (CH.cons BM.out (CH.nil HB.out))))) ?_
          with_reducible refine zv 67 (.pointer (some ⟨wr.heap.size, 0, none⟩)) (by kernel_rfl) (fun _ => ex_field (u := .pointer (some ⟨wr.heap.size, 0, none⟩)) rfl (by kernel_rfl) (by kernel_rfl)) (zi 68 (.int .i64 (rd_T39 l1 x).f0) (by kernel_rfl) (fun w_ hC_ => ex_load (ad := ⟨wr.heap.size, 0, none⟩) rfl (by kernel_rfl) (ld_2 (hC_.c 0 0 (by kernel_rfl) (by kernel_rfl)))) (zb 69 (decide ((rd_T39 l1 x).f0 < 0)) false (by kernel_rfl) (fun _ => ex_lss (by kernel_rfl) (by kernel_rfl) rfl) (ek1) (zm 70 (.bool false) (by kernel_rfl) (by kernel_rfl) (zv 71 (.pointer (some ⟨wr.heap.size, 0, none⟩)) (by kernel_rfl) (fun _ => ex_field (u := .pointer (some ⟨wr.heap.size, 0, none⟩)) rfl (by kernel_rfl) (by kernel_rfl)) (zi 72 (.int .i64 (rd_T39 l1 x).f0) (by kernel_rfl) (fun w_ hC_ => ex_load (ad := ⟨wr.heap.size, 0, none⟩) rfl (by kernel_rfl) (ld_2 (hC_.c 0 0 (by kernel_rfl) (by kernel_rfl)))) (zb 73 (decide (255 < (rd_T39 l1 x).f0)) false (by kernel_rfl) (fun _ => ex_gtr (by kernel_rfl) (by kernel_rfl) rfl) (ek2) (zm 74 (.bool false) (by kernel_rfl) (by kernel_rfl) (zm 75 (.bool false) (by kernel_rfl) (by kernel_rfl) ?_))))))))
          with_reducible refine zm 76 (.int .i64 x) (by kernel_rfl) (by kernel_rfl) (zb 77 (decide (0 < x)) true (by kernel_rfl) (fun _ => ex_gtr (by kernel_rfl) (by kernel_rfl) rfl) (exp) (zm 78 (.bool true) (by kernel_rfl) (by kernel_rfl) (zv 79 (.pointer (some ⟨gf, 1, none⟩)) (by kernel_rfl) (fun _ => ex_field (u := .pointer (some ⟨gf, 0, none⟩)) rfl (by kernel_rfl) (by kernel_rfl)) (zi 80 (.slice (some ad1) l1.length c1) (by kernel_rfl) (fun w_ hC_ => ex_load (ad := ⟨gf, 1, none⟩) rfl (by kernel_rfl) (ld_30 (hC_.c 1 1 (by kernel_rfl) (by kernel_rfl)))) (zm 81 (.int .i64 x) (by kernel_rfl) (by kernel_rfl) (zv 82 (.int .i64 (wrap64 (x - 1))) (by kernel_rfl) (fun _ => ex_sub (by kernel_rfl) (by kernel_rfl) rfl) (zv 83 (.pointer (some (ad1.add ((wrap64 (x - 1)).toNat * 4)))) (by kernel_rfl) (fun _ => ex_index (u := .slice (some ad1) l1.length c1) (u' := .int .i64 (wrap64 (x - 1))) rfl (by kernel_rfl) (by kernel_rfl) (ix_30 (of_eq_true p0) (of_eq_true pl))) (zv 84 (.pointer (some (ad1.add ((wrap64 (x - 1)).toNat * 4)))) (by kernel_rfl) (fun _ => ex_field (u := .pointer (some (ad1.add ((wrap64 (x - 1)).toNat * 4)))) rfl (by kernel_rfl) (by kernel_rfl)) ?_))))))))
          with_reducible refine zi 85 (.int .i64 (rd_T39 l1 (wrap64 (x - 1))).f0) (by kernel_rfl) (fun w_ hC_ => ex_load (ad := (ad1.add ((wrap64 (x - 1)).toNat * 4))) rfl (by kernel_rfl) (ld_2 (hC_.old Y2_0.out))) (zv 86 (.pointer (some ⟨wr.heap.size, 0, none⟩)) (by kernel_rfl) (fun _ => ex_field (u := .pointer (some ⟨wr.heap.size, 0, none⟩)) rfl (by kernel_rfl) (by kernel_rfl)) (zi 87 (.int .i64 (rd_T39 l1 x).f0) (by kernel_rfl) (fun w_ hC_ => ex_load (ad := ⟨wr.heap.size, 0, none⟩) rfl (by kernel_rfl) (ld_2 (hC_.c 0 0 (by kernel_rfl) (by kernel_rfl)))) (zb 88 (decide ((rd_T39 l1 x).f0 ≤ (rd_T39 l1 (wrap64 (x - 1))).f0)) false (by kernel_rfl) (fun _ => ex_geq (by kernel_rfl) (by kernel_rfl) rfl) (ek3) (zm 89 (.bool false) (by kernel_rfl) (by kernel_rfl) (zm 90 (.bool false) (by kernel_rfl) (by kernel_rfl) (zm 91 (.bool false) (by kernel_rfl) (by kernel_rfl) (zm 92 (.func (.func 37) #[] #[]) (by kernel_rfl) (by kernel_rfl) (zv 93 (.pointer (some ⟨wr.heap.size, 1, none⟩)) (by kernel_rfl) (fun _ => ex_field (u := .pointer (some ⟨wr.heap.size, 0, none⟩)) rfl (by kernel_rfl) (by kernel_rfl)) ?_))))))))
          with_reducible refine zi 94 (.int .i64 (rd_T39 l1 x).f1) (by kernel_rfl) (fun w_ hC_ => ex_load (ad := ⟨wr.heap.size, 1, none⟩) rfl (by kernel_rfl) (ld_2 (hC_.c 0 1 (by kernel_rfl) (by kernel_rfl)))) (zc 95 (.bool false) 37 #[.int .i64 (rd_T39 l1 x).f1] (by kernel_rfl) (fun _ => (by kernel_rfl)) (fun w_ hC_ => (impl_FontOk_1.calls _ _ _ (by rw [sz_i, ek4])).mono fun _ _ hd => ⟨hd.1, hC_.drawn hd.2⟩) (zm 96 (.bool true) (by kernel_rfl) (by kernel_rfl) (zm 97 (.bool true) (by kernel_rfl) (by kernel_rfl) (zm 98 (.bool true) (by kernel_rfl) (by kernel_rfl) (zs 99 (by kernel_rfl) (zs 100 (by kernel_rfl) (zs 101 (by kernel_rfl) (zs 102 (by kernel_rfl) ?_))))))))
          with_reducible refine zs 103 (by kernel_rfl) (zm 104 (.bool true) (by kernel_rfl) (by kernel_rfl) (zm 105 (.bool true) (by kernel_rfl) (by kernel_rfl) (zs 106 (by kernel_rfl) (zs 107 (by kernel_rfl) (zs 108 (by kernel_rfl) (zs 109 (by kernel_rfl) (zs 110 (by kernel_rfl) (zm 111 (.bool true) (by kernel_rfl) (by kernel_rfl) ?_))))))))
          refine z_end ?_
          intro wq hC_
          simp only [putL, Act.put, List.setIfInBounds_toArray, List.set_cons_zero, List.set_cons_succ]
          go_wp2
          go_ret
          exact ⟨by rw [R.out]; rfl, hC_.below⟩
        have ek4 : szB (rd_T39 l1 x).f1 = true := k4
        by_cases k5 : szB (rd_T39 l1 x).f2 = true
        case neg =>
          have ek5 : szB (rd_T39 l1 x).f2 = false := by simpa using k5
          have R := Aside0.mk (gone (by unfold gB; rw [show szB (rd_T39 l1 x).f2 = false by simpa using k5]; simp))
          clear gone x0 xl xp k1 k2 k3 k4 k5
          go_wp2_with (fail)
          refine z_start 191 (CH w _) (by kernel_rfl) (by kernel_rfl) (CH.drew (CH.alloc _ (CH.cons BF.out (CH.cons BM.out (CH.nil HB.out))))) ?_
          with_reducible refine zv 67 (.pointer (some ⟨wr.heap.size, 0, none⟩)) (by kernel_rfl) (fun _ => ex_field (u := .pointer (some ⟨wr.heap.size, 0, none⟩)) rfl (by kernel_rfl) (by kernel_rfl)) (zi 68 (.int .i64 (rd_T39 l1 x).f0) (by kernel_rfl) (fun w_ hC_ => ex_load (ad := ⟨wr.heap.size, 0, none⟩) rfl (by kernel_rfl) (ld_2 (hC_.c 0 0 (by kernel_rfl) (by kernel_rfl)))) (zb 69 (decide ((rd_T39 l1 x).f0 < 0)) false (by kernel_rfl) (fun _ => ex_lss (by kernel_rfl) (by kernel_rfl) rfl) (ek1) (zm 70 (.bool false) (by kernel_rfl) (by kernel_rfl) (zv 71 (.pointer (some ⟨wr.heap.size, 0, none⟩)) (by kernel_rfl) (fun _ => ex_field (u := .pointer (some ⟨wr.heap.size, 0, none⟩)) rfl (by kernel_rfl) (by kernel_rfl)) (zi 72 (.int .i64 (rd_T39 l1 x).f0) (by kernel_rfl) (fun w_ hC_ => ex_load (ad := ⟨wr.heap.size, 0, none⟩) rfl (by kernel_rfl) (ld_2 (hC_.c 0 0 (by kernel_rfl) (by kernel_rfl)))) (zb 73 (decide (255 < (rd_T39 l1 x).f0)) false (by kernel_rfl) (fun _ => ex_gtr (by kernel_rfl) (by kernel_rfl) rfl) (ek2) (zm 74 (.bool false) (by kernel_rfl) (by kernel_rfl) (zm 75 (.bool false) (by kernel_rfl) (by kernel_rfl) ?_))))))))
          with_reducible refine zm 76 (.int .i64 x) (by kernel_rfl) (by kernel_rfl) (zb 77 (decide (0 < x)) true (by kernel_rfl) (fun _ => ex_gtr (by kernel_rfl) (by kernel_rfl) rfl) (exp) (zm 78 (.bool true) (by kernel_rfl) (by kernel_rfl) (zv 79 (.pointer (some ⟨gf, 1, none⟩)) (by kernel_rfl) (fun _ => ex_field (u := .pointer (some ⟨gf, 0, none⟩)) rfl (by kernel_rfl) (by kernel_rfl)) (zi 80 (.slice (some ad1) l1.length c1) (by kernel_rfl) (fun w_ hC_ => ex_load (ad := ⟨gf, 1, none⟩) rfl (by kernel_rfl) (ld_30 (hC_.c 1 1 (by kernel_rfl) (by kernel_rfl)))) (zm 81 (.int .i64 x) (by kernel_rfl) (by kernel_rfl) (zv 82 (.int .i64 (wrap64 (x - 1))) (by kernel_rfl) (fun _ => ex_sub (by kernel_rfl) (by kernel_rfl) rfl) (zv 83 (.pointer (some (ad1.add ((wrap64 (x - 1)).toNat * 4)))) (by kernel_rfl) (fun _ => ex_index (u := .slice (some ad1) l1.length c1) (u' := .int .i64 (wrap64 (x - 1))) rfl (by kernel_rfl) (by kernel_rfl) (ix_30 (of_eq_true p0) (of_eq_true pl))) (zv 84 (.pointer (some (ad1.add ((wrap64 (x - 1)).toNat * 4)))) (by kernel_rfl) (fun _ => ex_field (u := .pointer (some (ad1.add ((wrap64 (x - 1)).toNat * 4)))) rfl (by kernel_rfl) (by kernel_rfl)) ?_))))))))
          with_reducible refine zi 85 (.int .i64 (rd_T39 l1 (wrap64 (x - 1))).f0) (by kernel_rfl) (fun w_ hC_ => ex_load (ad := (ad1.add ((wrap64 (x - 1)).toNat * 4))) rfl (by kernel_rfl) (ld_2 (hC_.old Y2_0.out))) (zv 86 (.pointer (some ⟨wr.heap.size, 0, none⟩)) (by kernel_rfl) (fun _ => ex_field (u := .pointer (some ⟨wr.heap.size, 0, none⟩)) rfl (by kernel_rfl) (by kernel_rfl)) (zi 87 (.int .i64 (rd_T39 l1 x).f0) (by kernel_rfl) (fun w_ hC_ => ex_load (ad := ⟨wr.heap.size, 0, none⟩) rfl (by kernel_rfl) (ld_2 (hC_.c 0 0 (by kernel_rfl) (by kernel_rfl)))) (zb 88 (decide ((rd_T39 l1 x).f0 ≤ (rd_T39 l1 (wrap64 (x - 1))).f0)) false (by kernel_rfl) (fun _ => ex_geq (by kernel_rfl) (by kernel_rfl) rfl) (ek3) (zm 89 (.bool false) (by kernel_rfl) (by kernel_rfl) (zm 90 (.bool false) (by kernel_rfl) (by kernel_rfl) (zm 91 (.bool false) (by kernel_rfl) (by kernel_rfl) (zm 92 (.func (.func 37) #[] #[]) (by kernel_rfl) (by kernel_rfl) (zv 93 (.pointer (some ⟨wr.heap.size, 1, none⟩)) (by kernel_rfl) (fun _ => ex_field (u := .pointer (some ⟨wr.heap.size, 0, none⟩)) rfl (by kernel_rfl) (by kernel_rfl)) ?_))))))))
          with_reducible refine zi 94 (.int .i64 (rd_T39 l1 x).f1) (by kernel_rfl) (fun w_ hC_ => ex_load (ad := ⟨wr.heap.size, 1, none⟩) rfl (by kernel_rfl) (ld_2 (hC_.c 0 1 (by kernel_rfl) (by kernel_rfl)))) (zc 95 (.bool true) 37 #[.int .i64 (rd_T39 l1 x).f1] (by kernel_rfl) (fun _ => (by kernel_rfl)) (fun w_ hC_ => (impl_FontOk_1.calls _ _ _ (by rw [sz_i, ek4])).mono fun _ _ hd => ⟨hd.1, hC_.drawn hd.2⟩) (zm 96 (.bool false) (by kernel_rfl) (by kernel_rfl) (zm 97 (.bool false) (by kernel_rfl) (by kernel_rfl) (zm 98 (.bool false) (by kernel_rfl) (by kernel_rfl) (zm 99 (.func (.func 37) #[] #[]) (by kernel_rfl) (by kernel_rfl) (zv 100 (.pointer (some ⟨wr.heap.size, 2, none⟩)) (by kernel_rfl) (fun _ => ex_field (u := .pointer (some ⟨wr.heap.size, 0, none⟩)) rfl (by kernel_rfl) (by kernel_rfl)) (zi 101 (.int .i64 (rd_T39 l1 x).f2) (by kernel_rfl) (fun w_ hC_ => ex_load (ad := ⟨wr.heap.size, 2, none⟩) rfl (by kernel_rfl) (ld_2 (hC_.c 0 2 (by kernel_rfl) (by kernel_rfl)))) (zc 102 (.bool false) 37 #[.int .i64 (rd_T39 l1 x).f2] (by kernel_rfl) (fun _ => (by kernel_rfl)) (fun w_ hC_ => (impl_FontOk_1.calls _ _ _ (by rw [sz_i, ek5])).mono fun _ _ hd => ⟨hd.1, hC_.drawn hd.2⟩) ?_))))))))
          with_reducible refine zm 103 (.bool true) (by kernel_rfl) (by kernel_rfl) (zm 104 (.bool true) (by kernel_rfl) (by kernel_rfl) (zm 105 (.bool true) (by kernel_rfl) (by kernel_rfl) (zs 106 (by kernel_rfl) (zs 107 (by kernel_rfl) (zs 108 (by kernel_rfl) (zs 109 (by kernel_rfl) (zs 110 (by kernel_rfl) (zm 111 (.bool true) (by kernel_rfl) (by kernel_rfl) ?_))))))))
          refine z_end ?_
          intro wq hC_
          simp only [putL, Act.put, List.setIfInBounds_toArray, List.set_cons_zero, List.set_cons_succ]
          go_wp2
          go_ret
          exact ⟨by rw [R.out]; rfl, hC_.below⟩
        have ek5 : szB (rd_T39 l1 x).f2 = true := k5
        by_cases k6 : szB (rd_T39 l1 x).f3 = true
        case neg =>
          have ek6 : szB (rd_T39 l1 x).f3 = false := by simpa using k6
          have R := Aside0.mk (gone (by unfold gB; rw [show szB (rd_T39 l1 x).f3 = false by simpa using k6]; simp))
          clear gone x0 xl xp k1 k2 k3 k4 k5 k6
          go_wp2_with (fail)
          refine z_start 191 (CH w _) (by kernel_rfl) (by kernel_rfl) (CH.drew (CH.alloc _ (CH.cons BF.out (CH.cons BM.out (CH.nil HB.out))))) ?_
          with_reducible refine zv 67 (.pointer (some ⟨wr.heap.size, 0, none⟩)) (by kernel_rfl) (fun _ => ex_field (u := .pointer (some ⟨wr.heap.size, 0, none⟩)) rfl (by kernel_rfl) (by kernel_rfl)) (zi 68 (.int .i64 (rd_T39 l1 x).f0) (by kernel_rfl) (fun w_ hC_ => ex_load (ad := ⟨wr.heap.size, 0, none⟩) rfl (by kernel_rfl) (ld_2 (hC_.c 0 0 (by kernel_rfl) (by kernel_rfl)))) (zb 69 (decide ((rd_T39 l1 x).f0 < 0)) false (by kernel_rfl) (fun _ => ex_lss (by kernel_rfl) (by kernel_rfl) rfl) (ek1) (zm 70 (.bool false) (by kernel_rfl) (by kernel_rfl) (zv 71 (.pointer (some ⟨wr.heap.size, 0, none⟩)) (by kernel_rfl) (fun _ => ex_field (u := .pointer (some ⟨wr.heap.size, 0, none⟩)) rfl (by kernel_rfl) (by kernel_rfl)) (zi 72 (.int .i64 (rd_T39 l1 x).f0) (by kernel_rfl) (fun w_ hC_ => ex_load (ad := ⟨wr.heap.size, 0, none⟩) rfl (by kernel_rfl) (ld_2 (hC_.c 0 0 (by kernel_rfl) (by kernel_rfl)))) (zb 73 (decide (255 < (rd_T39 l1 x).f0)) false (by kernel_rfl) (fun _ => ex_gtr (by kernel_rfl) (by kernel_rfl) rfl) (ek2) (zm 74 (.bool false) (by kernel_rfl) (by kernel_rfl) (zm 75 (.bool false) (by kernel_rfl) (by kernel_rfl) ?_))))))))
          with_reducible refine zm 76 (.int .i64 x) (by kernel_rfl) (by kernel_rfl) (zb 77 (decide (0 < x)) true (by kernel_rfl) (fun _ => ex_gtr (by kernel_rfl) (by kernel_rfl) rfl) (exp) (zm 78 (.bool true) (by kernel_rfl) (by kernel_rfl) (zv 79 (.pointer (some ⟨gf, 1, none⟩)) (by kernel_rfl) (fun _ => ex_field (u := .pointer (some ⟨gf, 0, none⟩)) rfl (by kernel_rfl) (by kernel_rfl)) (zi 80 (.slice (some ad1) l1.length c1) (by kernel_rfl) (fun w_ hC_ => ex_load (ad := ⟨gf, 1, none⟩) rfl (by kernel_rfl) (ld_30 (hC_.c 1 1 (by kernel_rfl) (by kernel_rfl)))) (zm 81 (.int .i64 x) (by kernel_rfl) (by kernel_rfl) (zv 82 (.int .i64 (wrap64 (x - 1))) (by kernel_rfl) (fun _ => ex_sub (by kernel_rfl) (by kernel_rfl) rfl) (zv 83 (.pointer (some (ad1.add ((wrap64 (x - 1)).toNat * 4)))) (by kernel_rfl) (fun _ => ex_index (u := .slice (some ad1) l1.length c1) (u' := .int .i64 (wrap64 (x - 1))) rfl (by kernel_rfl) (by kernel_rfl) (ix_30 (of_eq_true p0) (of_eq_true pl))) (zv 84 (.pointer (some (ad1.add ((wrap64 (x - 1)).toNat * 4)))) (by kernel_rfl) (fun _ => ex_field (u := .pointer (some (ad1.add ((wrap64 (x - 1)).toNat * 4)))) rfl (by kernel_rfl) (by kernel_rfl)) ?_))))))))
          with_reducible refine zi 85 (.int .i64 (rd_T39 l1 (wrap64 (x - 1))).f0) (by kernel_rfl) (fun w_ hC_ => ex_load (ad := (ad1.add ((wrap64 (x - 1)).toNat * 4))) rfl (by kernel_rfl) (ld_2 (hC_.old Y2_0.out))) (zv 86 (.pointer (some ⟨wr.heap.size, 0, none⟩)) (by kernel_rfl) (fun _ => ex_field (u := .pointer (some ⟨wr.heap.size, 0, none⟩)) rfl (by kernel_rfl) (by kernel_rfl)) (zi 87 (.int .i64 (rd_T39 l1 x).f0) (by kernel_rfl) (fun w_ hC_ => ex_load (ad := ⟨wr.heap.size, 0, none⟩) rfl (by kernel_rfl) (ld_2 (hC_.c 0 0 (by kernel_rfl) (by kernel_rfl)))) (zb 88 (decide ((rd_T39 l1 x).f0 ≤ (rd_T39 l1 (wrap64 (x - 1))).f0)) false (by kernel_rfl) (fun _ => ex_geq (by kernel_rfl) (by kernel_rfl) rfl) (ek3) (zm 89 (.bool false) (by kernel_rfl) (by kernel_rfl) (zm 90 (.bool false) (by kernel_rfl) (by kernel_rfl) (zm 91 (.bool false) (by kernel_rfl) (by kernel_rfl) (zm 92 (.func (.func 37) #[] #[]) (by kernel_rfl) (by kernel_rfl) (zv 93 (.pointer (some ⟨wr.heap.size, 1, none⟩)) (by kernel_rfl) (fun _ => ex_field (u := .pointer (some ⟨wr.heap.size, 0, none⟩)) rfl (by kernel_rfl) (by kernel_rfl)) ?_))))))))
          with_reducible refine zi 94 (.int .i64 (rd_T39 l1 x).f1) (by kernel_rfl) (fun w_ hC_ => ex_load (ad := ⟨wr.heap.size, 1, none⟩) rfl (by kernel_rfl) (ld_2 (hC_.c 0 1 (by kernel_rfl) (by kernel_rfl)))) (zc 95 (.bool true) 37 #[.int .i64 (rd_T39 l1 x).f1] (by kernel_rfl) (fun _ => (by kernel_rfl)) (fun w_ hC_ => (impl_FontOk_1.calls _ _ _ (by rw [sz_i, ek4])).mono fun _ _ hd => ⟨hd.1, hC_.drawn hd.2⟩) (zm 96 (.bool false) (by kernel_rfl) (by kernel_rfl) (zm 97 (.bool false) (by kernel_rfl) (by kernel_rfl) (zm 98 (.bool false) (by kernel_rfl) (by kernel_rfl) (zm 99 (.func (.func 37) #[] #[]) (by kernel_rfl) (by kernel_rfl) (zv 100 (.pointer (some ⟨wr.heap.size, 2, none⟩)) (by kernel_rfl) (fun _ => ex_field (u := .pointer (some ⟨wr.heap.size, 0, none⟩)) rfl (by kernel_rfl) (by kernel_rfl)) (zi 101 (.int .i64 (rd_T39 l1 x).f2) (by kernel_rfl) (fun w_ hC_ => ex_load (ad := ⟨wr.heap.size, 2, none⟩) rfl (by kernel_rfl) (ld_2 (hC_.c 0 2 (by kernel_rfl) (by kernel_rfl)))) (zc 102 (.bool true) 37 #[.int .i64 (rd_T39 l1 x).f2] (by kernel_rfl) (fun _ => (by kernel_rfl)) (fun w_ hC_ => (impl_FontOk_1.calls _ _ _ (by rw [sz_i, ek5])).mono fun _ _ hd => ⟨hd.1, hC_.drawn hd.2⟩) ?_))))))))
          with_reducible refine zm 103 (.bool false) (by kernel_rfl) (by kernel_rfl) (zm 104 (.bool false) (by kernel_rfl) (by kernel_rfl) (zm 105 (.bool false) (by kernel_rfl) (by kernel_rfl) (zm 106 (.func (.func 37) #[] #[]) (by kernel_rfl) (by kernel_rfl) (zv 107 (.pointer (some ⟨wr.heap.size, 3, none⟩)) (by kernel_rfl) (fun _ => ex_field (u := .pointer (some ⟨wr.heap.size, 0, none⟩)) rfl (by kernel_rfl) (by kernel_rfl)) (zi 108 (.int .i64 (rd_T39 l1 x).f3) (by kernel_rfl) (fun w_ hC_ => ex_load (ad := ⟨wr.heap.size, 3, none⟩) rfl (by kernel_rfl) (ld_2 (hC_.c 0 3 (by kernel_rfl) (by kernel_rfl)))) (zc 109 (.bool false) 37 #[.int .i64 (rd_T39 l1 x).f3] (by kernel_rfl) (fun _ => (by kernel_rfl)) (fun w_ hC_ => (impl_FontOk_1.calls _ _ _ (by rw [sz_i, ek6])).mono fun _ _ hd => ⟨hd.1, hC_.drawn hd.2⟩) (zm 110 (.bool true) (by kernel_rfl) (by kernel_rfl) (zm 111 (.bool true) (by kernel_rfl) (by kernel_rfl) ?_))))))))
          refine z_end ?_
          intro wq hC_
          simp only [putL, Act.put, List.setIfInBounds_toArray, List.set_cons_zero, List.set_cons_succ]
          go_wp2
          go_ret
          exact ⟨by rw [R.out]; rfl, hC_.below⟩
        have ek6 : szB (rd_T39 l1 x).f3 = true := k6
        have GB : gB l1 x = true := by unfold gB; rw [decide_eq_true k1, decide_eq_true k2, decide_eq_true k3, k4, k5, k6]; simp
        have GD : Aside0 (∀ m : Nat, (m : Int) < x + 1 → gB l1 (m : Int) = true) := ⟨all_step HX.out.2.2 GB⟩
        have XW : Aside0 (wrap64 (x + 1) = x + 1) := ⟨win _ (by omega) (by have := HM.out.1; omega)⟩
        have g0 := (g_step l1 x GB).1
        have g1 := (g_step l1 x GB).2.1
        have GW : Aside0 ((Lit.int .i64 (rd_T39 l1 x).f0).wf = true) := ⟨wf_small g0 g1⟩
        have HT := Aside0.mk (has_take l1 x x0 xl)
        have XN : Aside0 (x.toNat < maxLen ∧ x.toNat + 1 = (x + 1).toNat) := ⟨by unfold maxLen; have := HM.out.1; omega⟩
        clear g0 g1
        have XLA := Aside0.mk xl
        clear gone x0 xl xp k1 k2 k3 k4 k5 k6 GB
        cases gk with
        | zero => exact absurd XLA.out (by have := HF.out; omega)
        | succ k1 =>
          go_wp2_with (fail)
          refine z_start 191 (CH w _) (by kernel_rfl) (by kernel_rfl) (CH.drew (CH.alloc _ (CH.cons BF.out (CH.cons BM.out (CH.nil HB.out))))) ?_
          with_reducible refine zv 67 (.pointer (some ⟨wr.heap.size, 0, none⟩)) (by kernel_rfl) (fun _ => ex_field (u := .pointer (some ⟨wr.heap.size, 0, none⟩)) rfl (by kernel_rfl) (by kernel_rfl)) (zi 68 (.int .i64 (rd_T39 l1 x).f0) (by kernel_rfl) (fun w_ hC_ => ex_load (ad := ⟨wr.heap.size, 0, none⟩) rfl (by kernel_rfl) (ld_2 (hC_.c 0 0 (by kernel_rfl) (by kernel_rfl)))) (zb 69 (decide ((rd_T39 l1 x).f0 < 0)) false (by kernel_rfl) (fun _ => ex_lss (by kernel_rfl) (by kernel_rfl) rfl) (ek1) (zm 70 (.bool false) (by kernel_rfl) (by kernel_rfl) (zv 71 (.pointer (some ⟨wr.heap.size, 0, none⟩)) (by kernel_rfl) (fun _ => ex_field (u := .pointer (some ⟨wr.heap.size, 0, none⟩)) rfl (by kernel_rfl) (by kernel_rfl)) (zi 72 (.int .i64 (rd_T39 l1 x).f0) (by kernel_rfl) (fun w_ hC_ => ex_load (ad := ⟨wr.heap.size, 0, none⟩) rfl (by kernel_rfl) (ld_2 (hC_.c 0 0 (by kernel_rfl) (by kernel_rfl)))) (zb 73 (decide (255 < (rd_T39 l1 x).f0)) false (by kernel_rfl) (fun _ => ex_gtr (by kernel_rfl) (by kernel_rfl) rfl) (ek2) (zm 74 (.bool false) (by kernel_rfl) (by kernel_rfl) (zm 75 (.bool false) (by kernel_rfl) (by kernel_rfl) ?_))))))))
          with_reducible refine zm 76 (.int .i64 x) (by kernel_rfl) (by kernel_rfl) (zb 77 (decide (0 < x)) true (by kernel_rfl) (fun _ => ex_gtr (by kernel_rfl) (by kernel_rfl) rfl) (exp) (zm 78 (.bool true) (by kernel_rfl) (by kernel_rfl) (zv 79 (.pointer (some ⟨gf, 1, none⟩)) (by kernel_rfl) (fun _ => ex_field (u := .pointer (some ⟨gf, 0, none⟩)) rfl (by kernel_rfl) (by kernel_rfl)) (zi 80 (.slice (some ad1) l1.length c1) (by kernel_rfl) (fun w_ hC_ => ex_load (ad := ⟨gf, 1, none⟩) rfl (by kernel_rfl) (ld_30 (hC_.c 1 1 (by kernel_rfl) (by kernel_rfl)))) (zm 81 (.int .i64 x) (by kernel_rfl) (by kernel_rfl) (zv 82 (.int .i64 (wrap64 (x - 1))) (by kernel_rfl) (fun _ => ex_sub (by kernel_rfl) (by kernel_rfl) rfl) (zv 83 (.pointer (some (ad1.add ((wrap64 (x - 1)).toNat * 4)))) (by kernel_rfl) (fun _ => ex_index (u := .slice (some ad1) l1.length c1) (u' := .int .i64 (wrap64 (x - 1))) rfl (by kernel_rfl) (by kernel_rfl) (ix_30 (of_eq_true p0) (of_eq_true pl))) (zv 84 (.pointer (some (ad1.add ((wrap64 (x - 1)).toNat * 4)))) (by kernel_rfl) (fun _ => ex_field (u := .pointer (some (ad1.add ((wrap64 (x - 1)).toNat * 4)))) rfl (by kernel_rfl) (by kernel_rfl)) ?_))))))))
          with_reducible refine zi 85 (.int .i64 (rd_T39 l1 (wrap64 (x - 1))).f0) (by kernel_rfl) (fun w_ hC_ => ex_load (ad := (ad1.add ((wrap64 (x - 1)).toNat * 4))) rfl (by kernel_rfl) (ld_2 (hC_.old Y2_0.out))) (zv 86 (.pointer (some ⟨wr.heap.size, 0, none⟩)) (by kernel_rfl) (fun _ => ex_field (u := .pointer (some ⟨wr.heap.size, 0, none⟩)) rfl (by kernel_rfl) (by kernel_rfl)) (zi 87 (.int .i64 (rd_T39 l1 x).f0) (by kernel_rfl) (fun w_ hC_ => ex_load (ad := ⟨wr.heap.size, 0, none⟩) rfl (by kernel_rfl) (ld_2 (hC_.c 0 0 (by kernel_rfl) (by kernel_rfl)))) (zb 88 (decide ((rd_T39 l1 x).f0 ≤ (rd_T39 l1 (wrap64 (x - 1))).f0)) false (by kernel_rfl) (fun _ => ex_geq (by kernel_rfl) (by kernel_rfl) rfl) (ek3) (zm 89 (.bool false) (by kernel_rfl) (by kernel_rfl) (zm 90 (.bool false) (by kernel_rfl) (by kernel_rfl) (zm 91 (.bool false) (by kernel_rfl) (by kernel_rfl) (zm 92 (.func (.func 37) #[] #[]) (by kernel_rfl) (by kernel_rfl) (zv 93 (.pointer (some ⟨wr.heap.size, 1, none⟩)) (by kernel_rfl) (fun _ => ex_field (u := .pointer (some ⟨wr.heap.size, 0, none⟩)) rfl (by kernel_rfl) (by kernel_rfl)) ?_))))))))
          with_reducible refine zi 94 (.int .i64 (rd_T39 l1 x).f1) (by kernel_rfl) (fun w_ hC_ => ex_load (ad := ⟨wr.heap.size, 1, none⟩) rfl (by kernel_rfl) (ld_2 (hC_.c 0 1 (by kernel_rfl) (by kernel_rfl)))) (zc 95 (.bool true) 37 #[.int .i64 (rd_T39 l1 x).f1] (by kernel_rfl) (fun _ => (by kernel_rfl)) (fun w_ hC_ => (impl_FontOk_1.calls _ _ _ (by rw [sz_i, ek4])).mono fun _ _ hd => ⟨hd.1, hC_.drawn hd.2⟩) (zm 96 (.bool false) (by kernel_rfl) (by kernel_rfl) (zm 97 (.bool false) (by kernel_rfl) (by kernel_rfl) (zm 98 (.bool false) (by kernel_rfl) (by kernel_rfl) (zm 99 (.func (.func 37) #[] #[]) (by kernel_rfl) (by kernel_rfl) (zv 100 (.pointer (some ⟨wr.heap.size, 2, none⟩)) (by kernel_rfl) (fun _ => ex_field (u := .pointer (some ⟨wr.heap.size, 0, none⟩)) rfl (by kernel_rfl) (by kernel_rfl)) (zi 101 (.int .i64 (rd_T39 l1 x).f2) (by kernel_rfl) (fun w_ hC_ => ex_load (ad := ⟨wr.heap.size, 2, none⟩) rfl (by kernel_rfl) (ld_2 (hC_.c 0 2 (by kernel_rfl) (by kernel_rfl)))) (zc 102 (.bool true) 37 #[.int .i64 (rd_T39 l1 x).f2] (by kernel_rfl) (fun _ => (by kernel_rfl)) (fun w_ hC_ => (impl_FontOk_1.calls _ _ _ (by rw [sz_i, ek5])).mono fun _ _ hd => ⟨hd.1, hC_.drawn hd.2⟩) ?_))))))))
          with_reducible refine zm 103 (.bool false) (by kernel_rfl) (by kernel_rfl) (zm 104 (.bool false) (by kernel_rfl) (by kernel_rfl) (zm 105 (.bool false) (by kernel_rfl) (by kernel_rfl) (zm 106 (.func (.func 37) #[] #[]) (by kernel_rfl) (by kernel_rfl) (zv 107 (.pointer (some ⟨wr.heap.size, 3, none⟩)) (by kernel_rfl) (fun _ => ex_field (u := .pointer (some ⟨wr.heap.size, 0, none⟩)) rfl (by kernel_rfl) (by kernel_rfl)) (zi 108 (.int .i64 (rd_T39 l1 x).f3) (by kernel_rfl) (fun w_ hC_ => ex_load (ad := ⟨wr.heap.size, 3, none⟩) rfl (by kernel_rfl) (ld_2 (hC_.c 0 3 (by kernel_rfl) (by kernel_rfl)))) (zc 109 (.bool true) 37 #[.int .i64 (rd_T39 l1 x).f3] (by kernel_rfl) (fun _ => (by kernel_rfl)) (fun w_ hC_ => (impl_FontOk_1.calls _ _ _ (by rw [sz_i, ek6])).mono fun _ _ hd => ⟨hd.1, hC_.drawn hd.2⟩) (zm 110 (.bool false) (by kernel_rfl) (by kernel_rfl) (zm 111 (.bool false) (by kernel_rfl) (by kernel_rfl) ?_))))))))
          refine z_end ?_
          intro wq hC_
          simp only [putL, Act.put, List.setIfInBounds_toArray, List.set_cons_zero, List.set_cons_succ]
          have hcg := hC_.c 0 0 (g := wr.heap.size) (v := .int .i64 (rd_T39 l1 x).f0) rfl rfl
          obtain ⟨Dm, hown, esm, hDm, hatm⟩ := SO.out wq gm (hC_.at 2 rfl)
          have HOWN := Aside0.mk hown
          have HDM := Aside0.mk hDm
          have HAT := Aside0.mk hatm
          have HCH := Aside0.mk hC_
          clear hown hDm hatm hC_
          go_wp2_with (first | (at_mapUpdate; refine wpList_mapUpdate_own _ rfl _ _ _ 70 rfl 2 4 fo_law Try.underlying70 (plainElem Try.prog 4) gm x.toNat Dm rfl HOWN.out XN.out.1 _ _ (.int .i64 (rd_T39 l1 x).f0) rfl rfl (Go.Maps.keyOf_int_mk Try.underlying2 GW.out) (.lit (.bool true)) [] (plainElem_bool Try.underlying4 true) ?_; intro w1 hown1 hgr1; obtain ⟨om1, hb1, hs1⟩ := SetObj.put hown1 HDM.out HAT.out; have BM1 := Aside0.mk hb1; have SO1 := Aside0.mk hs1; have HG1 := Aside0.mk hgr1; clear hown1 hgr1 hb1 hs1))
          go_roundg k1
          case measure => omega
          case rel => exact ⟨wrap64 (x + 1), om1, (by first | rfl | (simp; done) | (simp [*]; done)), ⟨by rw [XW.out]; have := HF.out; omega⟩, ⟨⟨by rw [XW.out]; have := HX.out.1; omega, by rw [XW.out]; have := XLA.out; omega, by rw [XW.out]; exact GD.out⟩⟩, ⟨blk_grown (HCH.out.at 1 rfl) HG1.out (by intro h_; injection h_ with h_; exact HNM.out h_.symm)⟩, BM1, ⟨by rw [XW.out, ← HT.out, ← XN.out.2]; exact SO1.out⟩, ⟨HCH.out.below.grown HG1.out (below_size HCH.out.below) (fun k_ h_ => by injection h_ with h_; rw [← h_]; exact HGM.out)⟩⟩
      case neg =>
        have exp : decide (0 < x) = false := decide_eq_false xp
        by_cases k4 : szB (rd_T39 l1 x).f1 = true
        case neg =>
          have ek4 : szB (rd_T39 l1 x).f1 = false := by simpa using k4
          have R := Aside0.mk (gone (by unfold gB; rw [show szB (rd_T39 l1 x).f1 = false by simpa using k4]; simp))
          clear gone x0 xl xp k1 k2 k4
          go_wp2_with (fail)
          refine z_start 191 (CH w _) (by kernel_rfl) (by kernel_rfl) (CH.drew (CH.alloc _ (CH.cons BF.out (CH.cons BM.out (CH.nil HB.out))))) ?_
          with_reducible refine zv 67 (.pointer (some ⟨wr.heap.size, 0, none⟩)) (by kernel_rfl) (fun _ => ex_field (u := .pointer (some ⟨wr.heap.size, 0, none⟩)) rfl (by kernel_rfl) (by kernel_rfl)) (zi 68 (.int .i64 (rd_T39 l1 x).f0) (by kernel_rfl) (fun w_ hC_ => ex_load (ad := ⟨wr.heap.size, 0, none⟩) rfl (by kernel_rfl) (ld_2 (hC_.c 0 0 (by kernel_rfl) (by kernel_rfl)))) (zb 69 (decide ((rd_T39 l1 x).f0 < 0)) false (by kernel_rfl) (fun _ => ex_lss (by kernel_rfl) (by kernel_rfl) rfl) (ek1) (zm 70 (.bool false) (by kernel_rfl) (by kernel_rfl) (zv 71 (.pointer (some ⟨wr.heap.size, 0, none⟩)) (by kernel_rfl) (fun _ => ex_field (u := .pointer (some ⟨wr.heap.size, 0, none⟩)) rfl (by kernel_rfl) (by kernel_rfl)) (zi 72 (.int .i64 (rd_T39 l1 x).f0) (by kernel_rfl) (fun w_ hC_ => ex_load (ad := ⟨wr.heap.size, 0, none⟩) rfl (by kernel_rfl) (ld_2 (hC_.c 0 0 (by kernel_rfl) (by kernel_rfl)))) (zb 73 (decide (255 < (rd_T39 l1 x).f0)) false (by kernel_rfl) (fun _ => ex_gtr (by kernel_rfl) (by kernel_rfl) rfl) (ek2) (zm 74 (.bool false) (by kernel_rfl) (by kernel_rfl) (zm 75 (.bool false) (by kernel_rfl) (by kernel_rfl) ?_))))))))
          with_reducible refine zm 76 (.int .i64 x) (by kernel_rfl) (by kernel_rfl) (zb 77 (decide (0 < x)) false (by kernel_rfl) (fun _ => ex_gtr (by kernel_rfl) (by kernel_rfl) rfl) (exp) (zm 78 (.bool false) (by kernel_rfl) (by kernel_rfl) (zs 79 (by kernel_rfl) (zs 80 (by kernel_rfl) (zs 81 (by kernel_rfl) (zs 82 (by kernel_rfl) (zs 83 (by kernel_rfl) (zs 84 (by kernel_rfl) ?_))))))))
          with_reducible refine zs 85 (by kernel_rfl) (zs 86 (by kernel_rfl) (zs 87 (by kernel_rfl) (zs 88 (by kernel_rfl) (zm 89 (.bool false) (by kernel_rfl) (by kernel_rfl) (zm 90 (.bool false) (by kernel_rfl) (by kernel_rfl) (zm 91 (.bool false) (by kernel_rfl) (by kernel_rfl) (zm 92 (.func (.func 37) #[] #[]) (by kernel_rfl) (by kernel_rfl) (zv 93 (.pointer (some ⟨wr.heap.size, 1, none⟩)) (by kernel_rfl) (fun _ => ex_field (u := .pointer (some ⟨wr.heap.size, 0, none⟩)) rfl (by kernel_rfl) (by kernel_rfl)) ?_))))))))
          with_reducible refine zi 94 (.int .i64 (rd_T39 l1 x).f1) (by kernel_rfl) (fun w_ hC_ => ex_load (ad := ⟨wr.heap.size, 1, none⟩) rfl (by kernel_rfl) (ld_2 (hC_.c 0 1 (by kernel_rfl) (by kernel_rfl)))) (zc 95 (.bool false) 37 #[.int .i64 (rd_T39 l1 x).f1] (by kernel_rfl) (fun _ => (by kernel_rfl)) (fun w_ hC_ => (impl_FontOk_1.calls _ _ _ (by rw [sz_i, ek4])).mono fun _ _ hd => ⟨hd.1, hC_.drawn hd.2⟩) (zm 96 (.bool true) (by kernel_rfl) (by kernel_rfl) (zm 97 (.bool true) (by kernel_rfl) (by kernel_rfl) (zm 98 (.bool true) (by kernel_rfl) (by kernel_rfl) (zs 99 (by kernel_rfl) (zs 100 (by kernel_rfl) (zs 101 (by kernel_rfl) (zs 102 (by kernel_rfl) ?_))))))))
          with_reducible refine zs 103 (by kernel_rfl) (zm 104 (.bool true) (by kernel_rfl) (by kernel_rfl) (zm 105 (.bool true) (by kernel_rfl) (by kernel_rfl) (zs 106 (by kernel_rfl) (zs 107 (by kernel_rfl) (zs 108 (by kernel_rfl) (zs 109 (by kernel_rfl) (zs 110 (by kernel_rfl) (zm 111 (.bool true) (by kernel_rfl) (by kernel_rfl) ?_))))))))
          refine z_end ?_
          intro wq hC_
          simp only [putL, Act.put, List.setIfInBounds_toArray, List.set_cons_zero, List.set_cons_succ]
          go_wp2
          go_ret
          exact ⟨by rw [R.out]; rfl, hC_.below⟩
        have ek4 : szB (rd_T39 l1 x).f1 = true := k4
        by_cases k5 : szB (rd_T39 l1 x).f2 = true
        case neg =>
          have ek5 : szB (rd_T39 l1 x).f2 = false := by simpa using k5
          have R := Aside0.mk (gone (by unfold gB; rw [show szB (rd_T39 l1 x).f2 = false by simpa using k5]; simp))
          clear gone x0 xl xp k1 k2 k4 k5
          go_wp2_with (fail)
          refine z_start 191 (CH w _) (by kernel_rfl) (by kernel_rfl) (CH.drew (CH.alloc _ (CH.cons BF.out (CH.cons BM.out (CH.nil HB.out))))) ?_
          with_reducible refine zv 67 (.pointer (some ⟨wr.heap.size, 0, none⟩)) (by kernel_rfl) (fun _ => ex_field (u := .pointer (some ⟨wr.heap.size, 0, none⟩)) rfl (by kernel_rfl) (by kernel_rfl)) (zi 68 (.int .i64 (rd_T39 l1 x).f0) (by kernel_rfl) (fun w_ hC_ => ex_load (ad := ⟨wr.heap.size, 0, none⟩) rfl (by kernel_rfl) (ld_2 (hC_.c 0 0 (by kernel_rfl) (by kernel_rfl)))) (zb 69 (decide ((rd_T39 l1 x).f0 < 0)) false (by kernel_rfl) (fun _ => ex_lss (by kernel_rfl) (by kernel_rfl) rfl) (ek1) (zm 70 (.bool false) (by kernel_rfl) (by kernel_rfl) (zv 71 (.pointer (some ⟨wr.heap.size, 0, none⟩)) (by kernel_rfl) (fun _ => ex_field (u := .pointer (some ⟨wr.heap.size, 0, none⟩)) rfl (by kernel_rfl) (by kernel_rfl)) (zi 72 (.int .i64 (rd_T39 l1 x).f0) (by kernel_rfl) (fun w_ hC_ => ex_load (ad := ⟨wr.heap.size, 0, none⟩) rfl (by kernel_rfl) (ld_2 (hC_.c 0 0 (by kernel_rfl) (by kernel_rfl)))) (zb 73 (decide (255 < (rd_T39 l1 x).f0)) false (by kernel_rfl) (fun _ => ex_gtr (by kernel_rfl) (by kernel_rfl) rfl) (ek2) (zm 74 (.bool false) (by kernel_rfl) (by kernel_rfl) (zm 75 (.bool false) (by kernel_rfl) (by kernel_rfl) ?_))))))))
          with_reducible refine zm 76 (.int .i64 x) (by kernel_rfl) (by kernel_rfl) (zb 77 (decide (0 < x)) false (by kernel_rfl) (fun _ => ex_gtr (by kernel_rfl) (by kernel_rfl) rfl) (exp) (zm 78 (.bool false) (by kernel_rfl) (by kernel_rfl) (zs 79 (by kernel_rfl) (zs 80 (by kernel_rfl) (zs 81 (by kernel_rfl) (zs 82 (by kernel_rfl) (zs 83 (by kernel_rfl) (zs 84 (by kernel_rfl) ?_))))))))
          with_reducible refine zs 85 (by kernel_rfl) (zs 86 (by kernel_rfl) (zs 87 (by kernel_rfl) (zs 88 (by kernel_rfl) (zm 89 (.bool false) (by kernel_rfl) (by kernel_rfl) (zm 90 (.bool false) (by kernel_rfl) (by kernel_rfl) (zm 91 (.bool false) (by kernel_rfl) (by kernel_rfl) (zm 92 (.func (.func 37) #[] #[]) (by kernel_rfl) (by kernel_rfl) (zv 93 (.pointer (some ⟨wr.heap.size, 1, none⟩)) (by kernel_rfl) (fun _ => ex_field (u := .pointer (some ⟨wr.heap.size, 0, none⟩)) rfl (by kernel_rfl) (by kernel_rfl)) ?_))))))))
          with_reducible refine zi 94 (.int .i64 (rd_T39 l1 x).f1) (by kernel_rfl) (fun w_ hC_ => ex_load (ad := ⟨wr.heap.size, 1, none⟩) rfl (by kernel_rfl) (ld_2 (hC_.c 0 1 (by kernel_rfl) (by kernel_rfl)))) (zc 95 (.bool true) 37 #[.int .i64 (rd_T39 l1 x).f1] (by kernel_rfl) (fun _ => (by kernel_rfl)) (fun w_ hC_ => (impl_FontOk_1.calls _ _ _ (by rw [sz_i, ek4])).mono fun _ _ hd => ⟨hd.1, hC_.drawn hd.2⟩) (zm 96 (.bool false) (by kernel_rfl) (by kernel_rfl) (zm 97 (.bool false) (by kernel_rfl) (by kernel_rfl) (zm 98 (.bool false) (by kernel_rfl) (by kernel_rfl) (zm 99 (.func (.func 37) #[] #[]) (by kernel_rfl) (by kernel_rfl) (zv 100 (.pointer (some ⟨wr.heap.size, 2, none⟩)) (by kernel_rfl) (fun _ => ex_field (u := .pointer (some ⟨wr.heap.size, 0, none⟩)) rfl (by kernel_rfl) (by kernel_rfl)) (zi 101 (.int .i64 (rd_T39 l1 x).f2) (by kernel_rfl) (fun w_ hC_ => ex_load (ad := ⟨wr.heap.size, 2, none⟩) rfl (by kernel_rfl) (ld_2 (hC_.c 0 2 (by kernel_rfl) (by kernel_rfl)))) (zc 102 (.bool false) 37 #[.int .i64 (rd_T39 l1 x).f2] (by kernel_rfl) (fun _ => (by kernel_rfl)) (fun w_ hC_ => (impl_FontOk_1.calls _ _ _ (by rw [sz_i, ek5])).mono fun _ _ hd => ⟨hd.1, hC_.drawn hd.2⟩) ?_))))))))
          with_reducible refine zm 103 (.bool true) (by kernel_rfl) (by kernel_rfl) (zm 104 (.bool true) (by kernel_rfl) (by kernel_rfl) (zm 105 (.bool true) (by kernel_rfl) (by kernel_rfl) (zs 106 (by kernel_rfl) (zs 107 (by kernel_rfl) (zs 108 (by kernel_rfl) (zs 109 (by kernel_rfl) (zs 110 (by kernel_rfl) (zm 111 (.bool true) (by kernel_rfl) (by kernel_rfl) ?_))))))))
          refine z_end ?_
          intro wq hC_
          simp only [putL, Act.put, List.setIfInBounds_toArray, List.set_cons_zero, List.set_cons_succ]
          go_wp2
          go_ret
          exact ⟨by rw [R.out]; rfl, hC_.below⟩
        have ek5 : szB (rd_T39 l1 x).f2 = true := k5
        by_cases k6 : szB (rd_T39 l1 x).f3 = true
        case neg =>
          have ek6 : szB (rd_T39 l1 x).f3 = false := by simpa using k6
          have R := Aside0.mk (gone (by unfold gB; rw [show szB (rd_T39 l1 x).f3 = false by simpa using k6]; simp))
          clear gone x0 xl xp k1 k2 k4 k5 k6
          go_wp2_with (fail)
          refine z_start 191 (CH w _) (by kernel_rfl) (by kernel_rfl) (CH.drew (CH.alloc _ (CH.cons BF.out (CH.cons BM.out (CH.nil HB.out))))) ?_
          with_reducible refine zv 67 (.pointer (some ⟨wr.heap.size, 0, none⟩)) (by kernel_rfl) (fun _ => ex_field (u := .pointer (some ⟨wr.heap.size, 0, none⟩)) rfl (by kernel_rfl) (by kernel_rfl)) (zi 68 (.int .i64 (rd_T39 l1 x).f0) (by kernel_rfl) (fun w_ hC_ => ex_load (ad := ⟨wr.heap.size, 0, none⟩) rfl (by kernel_rfl) (ld_2 (hC_.c 0 0 (by kernel_rfl) (by kernel_rfl)))) (zb 69 (decide ((rd_T39 l1 x).f0 < 0)) false (by kernel_rfl) (fun _ => ex_lss (by kernel_rfl) (by kernel_rfl) rfl) (ek1) (zm 70 (.bool false) (by kernel_rfl) (by kernel_rfl) (zv 71 (.pointer (some ⟨wr.heap.size, 0, none⟩)) (by kernel_rfl) (fun _ => ex_field (u := .pointer (some ⟨wr.heap.size, 0, none⟩)) rfl (by kernel_rfl) (by kernel_rfl)) (zi 72 (.int .i64 (rd_T39 l1 x).f0) (by kernel_rfl) (fun w_ hC_ => ex_load (ad := ⟨wr.heap.size, 0, none⟩) rfl (by kernel_rfl) (ld_2 (hC_.c 0 0 (by kernel_rfl) (by kernel_rfl)))) (zb 73 (decide (255 < (rd_T39 l1 x).f0)) false (by kernel_rfl) (fun _ => ex_gtr (by kernel_rfl) (by kernel_rfl) rfl) (ek2) (zm 74 (.bool false) (by kernel_rfl) (by kernel_rfl) (zm 75 (.bool false) (by kernel_rfl) (by kernel_rfl) ?_))))))))
          with_reducible refine zm 76 (.int .i64 x) (by kernel_rfl) (by kernel_rfl) (zb 77 (decide (0 < x)) false (by kernel_rfl) (fun _ => ex_gtr (by kernel_rfl) (by kernel_rfl) rfl) (exp) (zm 78 (.bool false) (by kernel_rfl) (by kernel_rfl) (zs 79 (by kernel_rfl) (zs 80 (by kernel_rfl) (zs 81 (by kernel_rfl) (zs 82 (by kernel_rfl) (zs 83 (by kernel_rfl) (zs 84 (by kernel_rfl) ?_))))))))
          with_reducible refine zs 85 (by kernel_rfl) (zs 86 (by kernel_rfl) (zs 87 (by kernel_rfl) (zs 88 (by kernel_rfl) (zm 89 (.bool false) (by kernel_rfl) (by kernel_rfl) (zm 90 (.bool false) (by kernel_rfl) (by kernel_rfl) (zm 91 (.bool false) (by kernel_rfl) (by kernel_rfl) (zm 92 (.func (.func 37) #[] #[]) (by kernel_rfl) (by kernel_rfl) (zv 93 (.pointer (some ⟨wr.heap.size, 1, none⟩)) (by kernel_rfl) (fun _ => ex_field (u := .pointer (some ⟨wr.heap.size, 0, none⟩)) rfl (by kernel_rfl) (by kernel_rfl)) ?_))))))))
          with_reducible refine zi 94 (.int .i64 (rd_T39 l1 x).f1) (by kernel_rfl) (fun w_ hC_ => ex_load (ad := ⟨wr.heap.size, 1, none⟩) rfl (by kernel_rfl) (ld_2 (hC_.c 0 1 (by kernel_rfl) (by kernel_rfl)))) (zc 95 (.bool true) 37 #[.int .i64 (rd_T39 l1 x).f1] (by kernel_rfl) (fun _ => (by kernel_rfl)) (fun w_ hC_ => (impl_FontOk_1.calls _ _ _ (by rw [sz_i, ek4])).mono fun _ _ hd => ⟨hd.1, hC_.drawn hd.2⟩) (zm 96 (.bool false) (by kernel_rfl) (by kernel_rfl) (zm 97 (.bool false) (by kernel_rfl) (by kernel_rfl) (zm 98 (.bool false) (by kernel_rfl) (by kernel_rfl) (zm 99 (.func (.func 37) #[] #[]) (by kernel_rfl) (by kernel_rfl) (zv 100 (.pointer (some ⟨wr.heap.size, 2, none⟩)) (by kernel_rfl) (fun _ => ex_field (u := .pointer (some ⟨wr.heap.size, 0, none⟩)) rfl (by kernel_rfl) (by kernel_rfl)) (zi 101 (.int .i64 (rd_T39 l1 x).f2) (by kernel_rfl) (fun w_ hC_ => ex_load (ad := ⟨wr.heap.size, 2, none⟩) rfl (by kernel_rfl) (ld_2 (hC_.c 0 2 (by kernel_rfl) (by kernel_rfl)))) (zc 102 (.bool true) 37 #[.int .i64 (rd_T39 l1 x).f2] (by kernel_rfl) (fun _ => (by kernel_rfl)) (fun w_ hC_ => (impl_FontOk_1.calls _ _ _ (by rw [sz_i, ek5])).mono fun _ _ hd => ⟨hd.1, hC_.drawn hd.2⟩) ?_))))))))
          with_reducible refine zm 103 (.bool false) (by kernel_rfl) (by kernel_rfl) (zm 104 (.bool false) (by kernel_rfl) (by kernel_rfl) (zm 105 (.bool false) (by kernel_rfl) (by kernel_rfl) (zm 106 (.func (.func 37) #[] #[]) (by kernel_rfl) (by kernel_rfl) (zv 107 (.pointer (some ⟨wr.heap.size, 3, none⟩)) (by kernel_rfl) (fun _ => ex_field (u := .pointer (some ⟨wr.heap.size, 0, none⟩)) rfl (by kernel_rfl) (by kernel_rfl)) (zi 108 (.int .i64 (rd_T39 l1 x).f3) (by kernel_rfl) (fun w_ hC_ => ex_load (ad := ⟨wr.heap.size, 3, none⟩) rfl (by kernel_rfl) (ld_2 (hC_.c 0 3 (by kernel_rfl) (by kernel_rfl)))) (zc 109 (.bool false) 37 #[.int .i64 (rd_T39 l1 x).f3] (by kernel_rfl) (fun _ => (by kernel_rfl)) (fun w_ hC_ => (impl_FontOk_1.calls _ _ _ (by rw [sz_i, ek6])).mono fun _ _ hd => ⟨hd.1, hC_.drawn hd.2⟩) (zm 110 (.bool true) (by kernel_rfl) (by kernel_rfl) (zm 111 (.bool true) (by kernel_rfl) (by kernel_rfl) ?_))))))))
          refine z_end ?_
          intro wq hC_
          simp only [putL, Act.put, List.setIfInBounds_toArray, List.set_cons_zero, List.set_cons_succ]
          go_wp2
          go_ret
          exact ⟨by rw [R.out]; rfl, hC_.below⟩
        have ek6 : szB (rd_T39 l1 x).f3 = true := k6
        have GB : gB l1 x = true := by unfold gB; rw [decide_eq_true k1, decide_eq_true k2, decide_eq_true xp, k4, k5, k6]; simp
        have GD : Aside0 (∀ m : Nat, (m : Int) < x + 1 → gB l1 (m : Int) = true) := ⟨all_step HX.out.2.2 GB⟩
        have XW : Aside0 (wrap64 (x + 1) = x + 1) := ⟨win _ (by omega) (by have := HM.out.1; omega)⟩
        have g0 := (g_step l1 x GB).1
        have g1 := (g_step l1 x GB).2.1
        have GW : Aside0 ((Lit.int .i64 (rd_T39 l1 x).f0).wf = true) := ⟨wf_small g0 g1⟩
        have HT := Aside0.mk (has_take l1 x x0 xl)
        have XN : Aside0 (x.toNat < maxLen ∧ x.toNat + 1 = (x + 1).toNat) := ⟨by unfold maxLen; have := HM.out.1; omega⟩
        clear g0 g1
        have XLA := Aside0.mk xl
        clear gone x0 xl xp k1 k2 k4 k5 k6 GB
        cases gk with
        | zero => exact absurd XLA.out (by have := HF.out; omega)
        | succ k1 =>
          go_wp2_with (fail)
          refine z_start 191 (CH w _) (by kernel_rfl) (by kernel_rfl) (CH.drew (CH.alloc _ (CH.cons BF.out (CH.cons BM.out (CH.nil HB.out))))) ?_
          with_reducible refine zv 67 (.pointer (some ⟨wr.heap.size, 0, none⟩)) (by kernel_rfl) (fun _ => ex_field (u := .pointer (some ⟨wr.heap.size, 0, none⟩)) rfl (by kernel_rfl) (by kernel_rfl)) (zi 68 (.int .i64 (rd_T39 l1 x).f0) (by kernel_rfl) (fun w_ hC_ => ex_load (ad := ⟨wr.heap.size, 0, none⟩) rfl (by kernel_rfl) (ld_2 (hC_.c 0 0 (by kernel_rfl) (by kernel_rfl)))) (zb 69 (decide ((rd_T39 l1 x).f0 < 0)) false (by kernel_rfl) (fun _ => ex_lss (by kernel_rfl) (by kernel_rfl) rfl) (ek1) (zm 70 (.bool false) (by kernel_rfl) (by kernel_rfl) (zv 71 (.pointer (some ⟨wr.heap.size, 0, none⟩)) (by kernel_rfl) (fun _ => ex_field (u := .pointer (some ⟨wr.heap.size, 0, none⟩)) rfl (by kernel_rfl) (by kernel_rfl)) (zi 72 (.int .i64 (rd_T39 l1 x).f0) (by kernel_rfl) (fun w_ hC_ => ex_load (ad := ⟨wr.heap.size, 0, none⟩) rfl (by kernel_rfl) (ld_2 (hC_.c 0 0 (by kernel_rfl) (by kernel_rfl)))) (zb 73 (decide (255 < (rd_T39 l1 x).f0)) false (by kernel_rfl) (fun _ => ex_gtr (by kernel_rfl) (by kernel_rfl) rfl) (ek2) (zm 74 (.bool false) (by kernel_rfl) (by kernel_rfl) (zm 75 (.bool false) (by kernel_rfl) (by kernel_rfl) ?_))))))))
          with_reducible refine zm 76 (.int .i64 x) (by kernel_rfl) (by kernel_rfl) (zb 77 (decide (0 < x)) false (by kernel_rfl) (fun _ => ex_gtr (by kernel_rfl) (by kernel_rfl) rfl) (exp) (zm 78 (.bool false) (by kernel_rfl) (by kernel_rfl) (zs 79 (by kernel_rfl) (zs 80 (by kernel_rfl) (zs 81 (by kernel_rfl) (zs 82 (by kernel_rfl) (zs 83 (by kernel_rfl) (zs 84 (by kernel_rfl) ?_))))))))
          with_reducible refine zs 85 (by kernel_rfl) (zs 86 (by kernel_rfl) (zs 87 (by kernel_rfl) (zs 88 (by kernel_rfl) (zm 89 (.bool false) (by kernel_rfl) (by kernel_rfl) (zm 90 (.bool false) (by kernel_rfl) (by kernel_rfl) (zm 91 (.bool false) (by kernel_rfl) (by kernel_rfl) (zm 92 (.func (.func 37) #[] #[]) (by kernel_rfl) (by kernel_rfl) (zv 93 (.pointer (some ⟨wr.heap.size, 1, none⟩)) (by kernel_rfl) (fun _ => ex_field (u := .pointer (some ⟨wr.heap.size, 0, none⟩)) rfl (by kernel_rfl) (by kernel_rfl)) ?_))))))))
          with_reducible refine zi 94 (.int .i64 (rd_T39 l1 x).f1) (by kernel_rfl) (fun w_ hC_ => ex_load (ad := ⟨wr.heap.size, 1, none⟩) rfl (by kernel_rfl) (ld_2 (hC_.c 0 1 (by kernel_rfl) (by kernel_rfl)))) (zc 95 (.bool true) 37 #[.int .i64 (rd_T39 l1 x).f1] (by kernel_rfl) (fun _ => (by kernel_rfl)) (fun w_ hC_ => (impl_FontOk_1.calls _ _ _ (by rw [sz_i, ek4])).mono fun _ _ hd => ⟨hd.1, hC_.drawn hd.2⟩) (zm 96 (.bool false) (by kernel_rfl) (by kernel_rfl) (zm 97 (.bool false) (by kernel_rfl) (by kernel_rfl) (zm 98 (.bool false) (by kernel_rfl) (by kernel_rfl) (zm 99 (.func (.func 37) #[] #[]) (by kernel_rfl) (by kernel_rfl) (zv 100 (.pointer (some ⟨wr.heap.size, 2, none⟩)) (by kernel_rfl) (fun _ => ex_field (u := .pointer (some ⟨wr.heap.size, 0, none⟩)) rfl (by kernel_rfl) (by kernel_rfl)) (zi 101 (.int .i64 (rd_T39 l1 x).f2) (by kernel_rfl) (fun w_ hC_ => ex_load (ad := ⟨wr.heap.size, 2, none⟩) rfl (by kernel_rfl) (ld_2 (hC_.c 0 2 (by kernel_rfl) (by kernel_rfl)))) (zc 102 (.bool true) 37 #[.int .i64 (rd_T39 l1 x).f2] (by kernel_rfl) (fun _ => (by kernel_rfl)) (fun w_ hC_ => (impl_FontOk_1.calls _ _ _ (by rw [sz_i, ek5])).mono fun _ _ hd => ⟨hd.1, hC_.drawn hd.2⟩) ?_))))))))
          with_reducible refine zm 103 (.bool false) (by kernel_rfl) (by kernel_rfl) (zm 104 (.bool false) (by kernel_rfl) (by kernel_rfl) (zm 105 (.bool false) (by kernel_rfl) (by kernel_rfl) (zm 106 (.func (.func 37) #[] #[]) (by kernel_rfl) (by kernel_rfl) (zv 107 (.pointer (some ⟨wr.heap.size, 3, none⟩)) (by kernel_rfl) (fun _ => ex_field (u := .pointer (some ⟨wr.heap.size, 0, none⟩)) rfl (by kernel_rfl) (by kernel_rfl)) (zi 108 (.int .i64 (rd_T39 l1 x).f3) (by kernel_rfl) (fun w_ hC_ => ex_load (ad := ⟨wr.heap.size, 3, none⟩) rfl (by kernel_rfl) (ld_2 (hC_.c 0 3 (by kernel_rfl) (by kernel_rfl)))) (zc 109 (.bool true) 37 #[.int .i64 (rd_T39 l1 x).f3] (by kernel_rfl) (fun _ => (by kernel_rfl)) (fun w_ hC_ => (impl_FontOk_1.calls _ _ _ (by rw [sz_i, ek6])).mono fun _ _ hd => ⟨hd.1, hC_.drawn hd.2⟩) (zm 110 (.bool false) (by kernel_rfl) (by kernel_rfl) (zm 111 (.bool false) (by kernel_rfl) (by kernel_rfl) ?_))))))))
          refine z_end ?_
          intro wq hC_
          simp only [putL, Act.put, List.setIfInBounds_toArray, List.set_cons_zero, List.set_cons_succ]
          have hcg := hC_.c 0 0 (g := wr.heap.size) (v := .int .i64 (rd_T39 l1 x).f0) rfl rfl
          obtain ⟨Dm, hown, esm, hDm, hatm⟩ := SO.out wq gm (hC_.at 2 rfl)
          have HOWN := Aside0.mk hown
          have HDM := Aside0.mk hDm
          have HAT := Aside0.mk hatm
          have HCH := Aside0.mk hC_
          clear hown hDm hatm hC_
          go_wp2_with (first | (at_mapUpdate; refine wpList_mapUpdate_own _ rfl _ _ _ 70 rfl 2 4 fo_law Try.underlying70 (plainElem Try.prog 4) gm x.toNat Dm rfl HOWN.out XN.out.1 _ _ (.int .i64 (rd_T39 l1 x).f0) rfl rfl (Go.Maps.keyOf_int_mk Try.underlying2 GW.out) (.lit (.bool true)) [] (plainElem_bool Try.underlying4 true) ?_; intro w1 hown1 hgr1; obtain ⟨om1, hb1, hs1⟩ := SetObj.put hown1 HDM.out HAT.out; have BM1 := Aside0.mk hb1; have SO1 := Aside0.mk hs1; have HG1 := Aside0.mk hgr1; clear hown1 hgr1 hb1 hs1))
          go_roundg k1
          case measure => omega
          case rel => exact ⟨wrap64 (x + 1), om1, (by first | rfl | (simp; done) | (simp [*]; done)), ⟨by rw [XW.out]; have := HF.out; omega⟩, ⟨⟨by rw [XW.out]; have := HX.out.1; omega, by rw [XW.out]; have := XLA.out; omega, by rw [XW.out]; exact GD.out⟩⟩, ⟨blk_grown (HCH.out.at 1 rfl) HG1.out (by intro h_; injection h_ with h_; exact HNM.out h_.symm)⟩, BM1, ⟨by rw [XW.out, ← HT.out, ← XN.out.2]; exact SO1.out⟩, ⟨HCH.out.below.grown HG1.out (below_size HCH.out.below) (fun k_ h_ => by injection h_ with h_; rw [← h_]; exact HGM.out)⟩⟩
    case neg =>
      have ex : decide (x < (l1.length : Int)) = false := decide_eq_false xl
      have GA : Aside0 (allB l1.length (gB l1) = true) := ⟨allB_true (fun i hi => HX.out.2.2 i (by have := HX.out.2.1; omega))⟩
      have SL : Aside0 (SetObj om x.toNat (hasB l1)) := ⟨by have e_ : l1.take x.toNat = l1 := List.take_of_length_le (by omega); have h_ := SO.out; rw [e_] at h_; exact h_⟩
      generalize x.toNat = xn at SL
      clear SO
      clear xl x0 HX HF
      go_wp2
      go_loopg [119] (l2.length + 1) (fun kq v119 w' => ∃ (y : Int), v119 = .int .i64 y ∧ Aside0 ((l2.length : Int) + 1 ≤ kq + y) ∧ Aside0 (0 ≤ y ∧ y ≤ (l2.length : Int) ∧ ∀ m : Nat, (m : Int) < y → pB l1 l2 (m : Int) = true) ∧ Aside0 (w'.heap[gf]? = some (.cells #[.string a0, .slice A1 l1.length c1, .slice A2 l2.length c2, .int .i64 a3, .int .i64 a4, .int .i64 a5, .int .i64 a6, .int .i64 a7, .int .i64 a8, .int .i64 a9] 34 (0, 0))) ∧ Aside0 (w'.heap[gm]? = some om) ∧ Aside0 (Below w.heap.size w w'))
      case atStart => exact ⟨0, (by first | rfl | (simp; done) | (simp [*]; done)), ⟨by simp⟩, ⟨⟨by omega, by omega, fun m hm => by omega⟩⟩, ⟨(by (with_reducible repeat (first | refine blk_drewN ?_ _ | refine blk_drew ?_ | refine blk_alloc ?_ _)); exact BF.out)⟩, ⟨(by (with_reducible repeat (first | refine blk_drewN ?_ _ | refine blk_drew ?_ | refine blk_alloc ?_ _)); exact BM.out)⟩, ⟨(by repeat (first | (with_reducible first | exact HB.out | apply below_alloc | apply pw_below_drewN | apply below_drew1) | exact HB.out))⟩⟩
      case round =>
        clear HB BF hz0 hz1 hz2 hz3 hz4 hz5 hz6 hz7 hz8 hz9 BM
        obtain ⟨y, rfl, HF, HY, BF, BM, HB⟩ := hrel
        obtain ⟨hz0, hz1, hz2, hz3, hz4, hz5, hz6, hz7, hz8, hz9⟩ := ten_ BF.out
        have y0 : 0 ≤ y := HY.out.1
        by_cases yl : y < (l2.length : Int)
        case pos =>
          have ey : decide (y < (l2.length : Int)) = true := decide_eq_true yl
          have gone : pB l1 l2 y = false → fontB a0 l1 l2 a3 a4 a5 a6 a7 a8 a9 = false := fun hh => bad_p a0 l1 l2 a3 a4 a5 a6 a7 a8 a9 (allB_false y0 yl hh)
          have WP := Aside0.mk (wfP_at HP.out y0 yl)
          obtain ⟨ad3, ead3, z1_0, z1_1, z1_2, z1_3⟩ := at_T64 HR2.out y y0 yl
          cases ead3
          replace z1_0 := (HB.out.cell (World.block_lt_of_cell? w _ z1_0)).trans z1_0
          replace z1_1 := (HB.out.cell (World.block_lt_of_cell? w _ z1_1)).trans z1_1
          replace z1_2 := (HB.out.cell (World.block_lt_of_cell? w _ z1_2)).trans z1_2
          replace z1_3 := (HB.out.cell (World.block_lt_of_cell? w _ z1_3)).trans z1_3
          have Y0 := eq_true y0
          have YL := eq_true yl
          by_cases yp : 0 < y
          case pos =>
            have eyp : decide (0 < y) = true := decide_eq_true yp
            have pw : wrap64 (y - 1) = y - 1 := win _ (by omega) (by have := HM.out.2; omega)
            have p0 : 0 ≤ wrap64 (y - 1) := by rw [pw]; omega
            have pl : wrap64 (y - 1) < (l2.length : Int) := by rw [pw]; omega
            clear pw
            obtain ⟨ad4, ead4, z2_0, z2_1, z2_2, z2_3⟩ := at_T64 HR2.out (wrap64 (y - 1)) p0 pl
            obtain rfl : ad3 = ad4 := (by injection ead4)
            clear ead4
            have Z2_0 := Aside0.mk z2_0
            have Z2_1 := Aside0.mk z2_1
            have Z2_2 := Aside0.mk z2_2
            have Z2_3 := Aside0.mk z2_3
            clear z2_0 z2_1 z2_2 z2_3
            replace p0 := eq_true p0
            replace pl := eq_true pl
            by_cases o1 : (rd_T64 l2 y).f0 < (rd_T64 l2 (wrap64 (y - 1))).f0
            case pos =>
              have eo1 := decide_eq_true o1
              have q1 : lessB (rd_T64 l2 (wrap64 (y - 1))) (rd_T64 l2 y) = false := by unfold lessB; rw [decide_eq_false (by omega : ¬ (rd_T64 l2 (wrap64 (y - 1))).f0 < (rd_T64 l2 y).f0), decide_eq_false (by omega : ¬ (rd_T64 l2 (wrap64 (y - 1))).f0 = (rd_T64 l2 y).f0)]; rfl
              have R := Aside0.mk (gone (by unfold pB; rw [q1, decide_eq_false (fun hn : ¬ 0 < y => hn yp)]; simp))
              clear gone y0 yl yp q1 o1
              go_upto_region 15 with (fail)
              have hc1 := CH.alloc (.cells #[.int .i64 (rd_T64 l2 y).f0, .int .i64 (rd_T64 l2 y).f1, .int .i64 (rd_T64 l2 y).f2, .int .i64 (rd_T64 l2 y).f3] 64) (CH.cons BF.out (CH.cons BM.out (CH.nil HB.out)))
              generalize World.alloc wr _ = w2 at hc1 ⊢
              have z2_0 := hc1.old Z2_0.out
              have z2_1 := hc1.old Z2_1.out
              have z2_2 := hc1.old Z2_2.out
              have z2_3 := hc1.old Z2_3.out
              obtain ⟨hz0, hz1, hz2, hz3, hz4, hz5, hz6, hz7, hz8, hz9⟩ := ten_ (hc1.at 1 rfl)
              have HC_ := Aside0.mk hc1
              clear hc1
              go_upto_region 17 with (fail)
              refine zl_start 191 (CH w _) (CH.alloc (.cells #[.int .i64 (rd_T64 l2 (wrap64 (y - 1))).f0, .int .i64 (rd_T64 l2 (wrap64 (y - 1))).f1, .int .i64 (rd_T64 l2 (wrap64 (y - 1))).f2, .int .i64 (rd_T64 l2 (wrap64 (y - 1))).f3] 64) HC_.out) ?_
              with_reducible refine zv 132 (.pointer (some ⟨w2.heap.size, 0, none⟩)) (by kernel_rfl) (fun _ => ex_field (u := .pointer (some ⟨w2.heap.size, 0, none⟩)) rfl (by kernel_rfl) (by kernel_rfl)) (zi 133 (.int .i64 (rd_T64 l2 (wrap64 (y - 1))).f0) (by kernel_rfl) (fun w_ hC_ => ex_load (ad := ⟨w2.heap.size, 0, none⟩) rfl (by kernel_rfl) (ld_2 (hC_.c 0 0 (by kernel_rfl) (by kernel_rfl)))) (zv 134 (.pointer (some ⟨wr.heap.size, 0, none⟩)) (by kernel_rfl) (fun _ => ex_field (u := .pointer (some ⟨wr.heap.size, 0, none⟩)) rfl (by kernel_rfl) (by kernel_rfl)) (zi 135 (.int .i64 (rd_T64 l2 y).f0) (by kernel_rfl) (fun w_ hC_ => ex_load (ad := ⟨wr.heap.size, 0, none⟩) rfl (by kernel_rfl) (ld_2 (hC_.c 1 0 (by kernel_rfl) (by kernel_rfl)))) (zb 136 (decide ((rd_T64 l2 y).f0 < (rd_T64 l2 (wrap64 (y - 1))).f0)) true (by kernel_rfl) (fun _ => ex_gtr (by kernel_rfl) (by kernel_rfl) rfl) (eo1) (zm 137 (.bool true) (by kernel_rfl) (by kernel_rfl) (zs 138 (by kernel_rfl) (zs 139 (by kernel_rfl) (zs 140 (by kernel_rfl) ?_))))))))
              with_reducible refine zs 141 (by kernel_rfl) (zs 142 (by kernel_rfl) (zs 143 (by kernel_rfl) (zs 144 (by kernel_rfl) (zs 145 (by kernel_rfl) (zs 146 (by kernel_rfl) (zs 147 (by kernel_rfl) (zs 148 (by kernel_rfl) (zs 149 (by kernel_rfl) ?_))))))))
              with_reducible refine zm 150 (.bool true) (by kernel_rfl) (by kernel_rfl) ?_
              refine z_end ?_
              intro wq hC_
              simp only [putL, Act.put, List.setIfInBounds_toArray, List.set_cons_zero, List.set_cons_succ]
              have HCH := Aside0.mk hC_
              go_wp2
              go_ret
              exact ⟨by rw [R.out]; rfl, HCH.out.below⟩
            have eo1 : decide ((rd_T64 l2 y).f0 < (rd_T64 l2 (wrap64 (y - 1))).f0) = false := decide_eq_false o1
            by_cases o2 : (rd_T64 l2 (wrap64 (y - 1))).f0 = (rd_T64 l2 y).f0
            case neg =>
              have eo2 : ((rd_T64 l2 (wrap64 (y - 1))).f0 == (rd_T64 l2 y).f0) = false := beq_eq_false_iff_ne.mpr o2
              have q1 : lessB (rd_T64 l2 (wrap64 (y - 1))) (rd_T64 l2 y) = true := by unfold lessB; rw [decide_eq_true (by omega : (rd_T64 l2 (wrap64 (y - 1))).f0 < (rd_T64 l2 y).f0)]; rfl
              have h1 : (decide (¬ 0 < y) || lessB (rd_T64 l2 (wrap64 (y - 1))) (rd_T64 l2 y)) = true := by rw [q1]; simp
              by_cases q2 : hasB l1 (rd_T64 l2 y).f0 = true
              case neg =>
                have q2' : hasB l1 (rd_T64 l2 y).f0 = false := by simpa using q2
                have eL := q2'
                have R := Aside0.mk (gone (by unfold pB; rw [h1, q2']; rfl))
                clear gone y0 yl yp q1 o1 o2 h1 q2
                go_upto_region 15 with (fail)
                have hc1 := CH.alloc (.cells #[.int .i64 (rd_T64 l2 y).f0, .int .i64 (rd_T64 l2 y).f1, .int .i64 (rd_T64 l2 y).f2, .int .i64 (rd_T64 l2 y).f3] 64) (CH.cons BF.out (CH.cons BM.out (CH.nil HB.out)))
                generalize World.alloc wr _ = w2 at hc1 ⊢
                have z2_0 := hc1.old Z2_0.out
                have z2_1 := hc1.old Z2_1.out
                have z2_2 := hc1.old Z2_2.out
                have z2_3 := hc1.old Z2_3.out
                obtain ⟨hz0, hz1, hz2, hz3, hz4, hz5, hz6, hz7, hz8, hz9⟩ := ten_ (hc1.at 1 rfl)
                have HC_ := Aside0.mk hc1
                clear hc1
                go_upto_region 17 with (fail)
                refine zl_start 191 (CH w _) (CH.alloc (.cells #[.int .i64 (rd_T64 l2 (wrap64 (y - 1))).f0, .int .i64 (rd_T64 l2 (wrap64 (y - 1))).f1, .int .i64 (rd_T64 l2 (wrap64 (y - 1))).f2, .int .i64 (rd_T64 l2 (wrap64 (y - 1))).f3] 64) HC_.out) ?_
                with_reducible refine zv 132 (.pointer (some ⟨w2.heap.size, 0, none⟩)) (by kernel_rfl) (fun _ => ex_field (u := .pointer (some ⟨w2.heap.size, 0, none⟩)) rfl (by kernel_rfl) (by kernel_rfl)) (zi 133 (.int .i64 (rd_T64 l2 (wrap64 (y - 1))).f0) (by kernel_rfl) (fun w_ hC_ => ex_load (ad := ⟨w2.heap.size, 0, none⟩) rfl (by kernel_rfl) (ld_2 (hC_.c 0 0 (by kernel_rfl) (by kernel_rfl)))) (zv 134 (.pointer (some ⟨wr.heap.size, 0, none⟩)) (by kernel_rfl) (fun _ => ex_field (u := .pointer (some ⟨wr.heap.size, 0, none⟩)) rfl (by kernel_rfl) (by kernel_rfl)) (zi 135 (.int .i64 (rd_T64 l2 y).f0) (by kernel_rfl) (fun w_ hC_ => ex_load (ad := ⟨wr.heap.size, 0, none⟩) rfl (by kernel_rfl) (ld_2 (hC_.c 1 0 (by kernel_rfl) (by kernel_rfl)))) (zb 136 (decide ((rd_T64 l2 y).f0 < (rd_T64 l2 (wrap64 (y - 1))).f0)) false (by kernel_rfl) (fun _ => ex_gtr (by kernel_rfl) (by kernel_rfl) rfl) (eo1) (zm 137 (.bool false) (by kernel_rfl) (by kernel_rfl) (zv 138 (.pointer (some ⟨w2.heap.size, 0, none⟩)) (by kernel_rfl) (fun _ => ex_field (u := .pointer (some ⟨w2.heap.size, 0, none⟩)) rfl (by kernel_rfl) (by kernel_rfl)) (zi 139 (.int .i64 (rd_T64 l2 (wrap64 (y - 1))).f0) (by kernel_rfl) (fun w_ hC_ => ex_load (ad := ⟨w2.heap.size, 0, none⟩) rfl (by kernel_rfl) (ld_2 (hC_.c 0 0 (by kernel_rfl) (by kernel_rfl)))) (zv 140 (.pointer (some ⟨wr.heap.size, 0, none⟩)) (by kernel_rfl) (fun _ => ex_field (u := .pointer (some ⟨wr.heap.size, 0, none⟩)) rfl (by kernel_rfl) (by kernel_rfl)) ?_))))))))
                with_reducible refine zi 141 (.int .i64 (rd_T64 l2 y).f0) (by kernel_rfl) (fun w_ hC_ => ex_load (ad := ⟨wr.heap.size, 0, none⟩) rfl (by kernel_rfl) (ld_2 (hC_.c 1 0 (by kernel_rfl) (by kernel_rfl)))) (zb 142 (((rd_T64 l2 (wrap64 (y - 1))).f0 == (rd_T64 l2 y).f0)) false (by kernel_rfl) (fun _ => ex_eql (by kernel_rfl) (by kernel_rfl) rfl) (eo2) (zm 143 (.bool false) (by kernel_rfl) (by kernel_rfl) (zs 144 (by kernel_rfl) (zs 145 (by kernel_rfl) (zs 146 (by kernel_rfl) (zs 147 (by kernel_rfl) (zs 148 (by kernel_rfl) (zm 149 (.bool false) (by kernel_rfl) (by kernel_rfl) ?_))))))))
                with_reducible refine zm 150 (.bool false) (by kernel_rfl) (by kernel_rfl) ?_
                refine z_end ?_
                intro wq hC_
                simp only [putL, Act.put, List.setIfInBounds_toArray, List.set_cons_zero, List.set_cons_succ]
                go_upto_region 19 with (fail)
                refine zl_start 191 (CH w _) hC_ ?_
                clear hC_
                with_reducible refine zm 151 (.map (some gm)) (by kernel_rfl) (by kernel_rfl) (zv 152 (.pointer (some ⟨wr.heap.size, 0, none⟩)) (by kernel_rfl) (fun _ => ex_field (u := .pointer (some ⟨wr.heap.size, 0, none⟩)) rfl (by kernel_rfl) (by kernel_rfl)) (zi 153 (.int .i64 (rd_T64 l2 y).f0) (by kernel_rfl) (fun w_ hC_ => ex_load (ad := ⟨wr.heap.size, 0, none⟩) rfl (by kernel_rfl) (ld_2 (hC_.c 1 0 (by kernel_rfl) (by kernel_rfl)))) (zi 154 (.bool false) (by kernel_rfl) (fun w_ hC_ => ex_look (u := .map (some gm)) (u' := .int .i64 (rd_T64 l2 y).f0) rfl (by kernel_rfl) (by kernel_rfl) ((SL.out.look (hC_.at 3 (by kernel_rfl)) _ WP.out.1).trans (by rw [eL]))) (zm 155 (.bool true) (by kernel_rfl) (by kernel_rfl) (zm 156 (.bool true) (by kernel_rfl) (by kernel_rfl) (zs 157 (by kernel_rfl) (zs 158 (by kernel_rfl) (zs 159 (by kernel_rfl) ?_))))))))
                with_reducible refine zs 160 (by kernel_rfl) (zs 161 (by kernel_rfl) (zm 162 (.bool true) (by kernel_rfl) (by kernel_rfl) (zm 163 (.bool true) (by kernel_rfl) (by kernel_rfl) (zs 164 (by kernel_rfl) (zs 165 (by kernel_rfl) (zs 166 (by kernel_rfl) (zs 167 (by kernel_rfl) (zs 168 (by kernel_rfl) ?_))))))))
                with_reducible refine zs 169 (by kernel_rfl) (zs 170 (by kernel_rfl) (zs 171 (by kernel_rfl) (zs 172 (by kernel_rfl) (zs 173 (by kernel_rfl) (zs 174 (by kernel_rfl) (zs 175 (by kernel_rfl) (zs 176 (by kernel_rfl) (zs 177 (by kernel_rfl) ?_))))))))
                with_reducible refine zs 178 (by kernel_rfl) (zm 179 (.bool true) (by kernel_rfl) (by kernel_rfl) (zm 180 (.bool true) (by kernel_rfl) (by kernel_rfl) (zs 181 (by kernel_rfl) (zs 182 (by kernel_rfl) (zs 183 (by kernel_rfl) (zm 184 (.bool true) (by kernel_rfl) (by kernel_rfl) (zm 185 (.bool true) (by kernel_rfl) (by kernel_rfl) (zs 186 (by kernel_rfl) ?_))))))))
                with_reducible refine zs 187 (by kernel_rfl) (zs 188 (by kernel_rfl) (zm 189 (.bool true) (by kernel_rfl) (by kernel_rfl) ?_))
                refine z_end ?_
                intro wq hC_
                have HCH := Aside0.mk hC_
                clear hC_
                simp only [putL, Act.put, List.setIfInBounds_toArray, List.set_cons_zero, List.set_cons_succ]
                go_wp2
                go_ret
                exact ⟨by rw [R.out]; rfl, HCH.out.below⟩
              have eL := q2
              by_cases q3 : hasB l1 (rd_T64 l2 y).f1 = true
              case neg =>
                have q3' : hasB l1 (rd_T64 l2 y).f1 = false := by simpa using q3
                have eR := q3'
                have R := Aside0.mk (gone (by unfold pB; rw [h1, q2, q3']; rfl))
                clear gone y0 yl yp q1 o1 o2 h1 q2 q3
                go_upto_region 15 with (fail)
                have hc1 := CH.alloc (.cells #[.int .i64 (rd_T64 l2 y).f0, .int .i64 (rd_T64 l2 y).f1, .int .i64 (rd_T64 l2 y).f2, .int .i64 (rd_T64 l2 y).f3] 64) (CH.cons BF.out (CH.cons BM.out (CH.nil HB.out)))
                generalize World.alloc wr _ = w2 at hc1 ⊢
                have z2_0 := hc1.old Z2_0.out
                have z2_1 := hc1.old Z2_1.out
                have z2_2 := hc1.old Z2_2.out
                have z2_3 := hc1.old Z2_3.out
                obtain ⟨hz0, hz1, hz2, hz3, hz4, hz5, hz6, hz7, hz8, hz9⟩ := ten_ (hc1.at 1 rfl)
                have HC_ := Aside0.mk hc1
                clear hc1
                go_upto_region 17 with (fail)
                refine zl_start 191 (CH w _) (CH.alloc (.cells #[.int .i64 (rd_T64 l2 (wrap64 (y - 1))).f0, .int .i64 (rd_T64 l2 (wrap64 (y - 1))).f1, .int .i64 (rd_T64 l2 (wrap64 (y - 1))).f2, .int .i64 (rd_T64 l2 (wrap64 (y - 1))).f3] 64) HC_.out) ?_
                with_reducible refine zv 132 (.pointer (some ⟨w2.heap.size, 0, none⟩)) (by kernel_rfl) (fun _ => ex_field (u := .pointer (some ⟨w2.heap.size, 0, none⟩)) rfl (by kernel_rfl) (by kernel_rfl)) (zi 133 (.int .i64 (rd_T64 l2 (wrap64 (y - 1))).f0) (by kernel_rfl) (fun w_ hC_ => ex_load (ad := ⟨w2.heap.size, 0, none⟩) rfl (by kernel_rfl) (ld_2 (hC_.c 0 0 (by kernel_rfl) (by kernel_rfl)))) (zv 134 (.pointer (some ⟨wr.heap.size, 0, none⟩)) (by kernel_rfl) (fun _ => ex_field (u := .pointer (some ⟨wr.heap.size, 0, none⟩)) rfl (by kernel_rfl) (by kernel_rfl)) (zi 135 (.int .i64 (rd_T64 l2 y).f0) (by kernel_rfl) (fun w_ hC_ => ex_load (ad := ⟨wr.heap.size, 0, none⟩) rfl (by kernel_rfl) (ld_2 (hC_.c 1 0 (by kernel_rfl) (by kernel_rfl)))) (zb 136 (decide ((rd_T64 l2 y).f0 < (rd_T64 l2 (wrap64 (y - 1))).f0)) false (by kernel_rfl) (fun _ => ex_gtr (by kernel_rfl) (by kernel_rfl) rfl) (eo1) (zm 137 (.bool false) (by kernel_rfl) (by kernel_rfl) (zv 138 (.pointer (some ⟨w2.heap.size, 0, none⟩)) (by kernel_rfl) (fun _ => ex_field (u := .pointer (some ⟨w2.heap.size, 0, none⟩)) rfl (by kernel_rfl) (by kernel_rfl)) (zi 139 (.int .i64 (rd_T64 l2 (wrap64 (y - 1))).f0) (by kernel_rfl) (fun w_ hC_ => ex_load (ad := ⟨w2.heap.size, 0, none⟩) rfl (by kernel_rfl) (ld_2 (hC_.c 0 0 (by kernel_rfl) (by kernel_rfl)))) (zv 140 (.pointer (some ⟨wr.heap.size, 0, none⟩)) (by kernel_rfl) (fun _ => ex_field (u := .pointer (some ⟨wr.heap.size, 0, none⟩)) rfl (by kernel_rfl) (by kernel_rfl)) ?_))))))))
                with_reducible refine zi 141 (.int .i64 (rd_T64 l2 y).f0) (by kernel_rfl) (fun w_ hC_ => ex_load (ad := ⟨wr.heap.size, 0, none⟩) rfl (by kernel_rfl) (ld_2 (hC_.c 1 0 (by kernel_rfl) (by kernel_rfl)))) (zb 142 (((rd_T64 l2 (wrap64 (y - 1))).f0 == (rd_T64 l2 y).f0)) false (by kernel_rfl) (fun _ => ex_eql (by kernel_rfl) (by kernel_rfl) rfl) (eo2) (zm 143 (.bool false) (by kernel_rfl) (by kernel_rfl) (zs 144 (by kernel_rfl) (zs 145 (by kernel_rfl) (zs 146 (by kernel_rfl) (zs 147 (by kernel_rfl) (zs 148 (by kernel_rfl) (zm 149 (.bool false) (by kernel_rfl) (by kernel_rfl) ?_))))))))
                with_reducible refine zm 150 (.bool false) (by kernel_rfl) (by kernel_rfl) ?_
                refine z_end ?_
                intro wq hC_
                simp only [putL, Act.put, List.setIfInBounds_toArray, List.set_cons_zero, List.set_cons_succ]
                go_upto_region 19 with (fail)
                refine zl_start 191 (CH w _) hC_ ?_
                clear hC_
                with_reducible refine zm 151 (.map (some gm)) (by kernel_rfl) (by kernel_rfl) (zv 152 (.pointer (some ⟨wr.heap.size, 0, none⟩)) (by kernel_rfl) (fun _ => ex_field (u := .pointer (some ⟨wr.heap.size, 0, none⟩)) rfl (by kernel_rfl) (by kernel_rfl)) (zi 153 (.int .i64 (rd_T64 l2 y).f0) (by kernel_rfl) (fun w_ hC_ => ex_load (ad := ⟨wr.heap.size, 0, none⟩) rfl (by kernel_rfl) (ld_2 (hC_.c 1 0 (by kernel_rfl) (by kernel_rfl)))) (zi 154 (.bool true) (by kernel_rfl) (fun w_ hC_ => ex_look (u := .map (some gm)) (u' := .int .i64 (rd_T64 l2 y).f0) rfl (by kernel_rfl) (by kernel_rfl) ((SL.out.look (hC_.at 3 (by kernel_rfl)) _ WP.out.1).trans (by rw [eL]))) (zm 155 (.bool false) (by kernel_rfl) (by kernel_rfl) (zm 156 (.bool false) (by kernel_rfl) (by kernel_rfl) (zm 157 (.map (some gm)) (by kernel_rfl) (by kernel_rfl) (zv 158 (.pointer (some ⟨wr.heap.size, 1, none⟩)) (by kernel_rfl) (fun _ => ex_field (u := .pointer (some ⟨wr.heap.size, 0, none⟩)) rfl (by kernel_rfl) (by kernel_rfl)) (zi 159 (.int .i64 (rd_T64 l2 y).f1) (by kernel_rfl) (fun w_ hC_ => ex_load (ad := ⟨wr.heap.size, 1, none⟩) rfl (by kernel_rfl) (ld_2 (hC_.c 1 1 (by kernel_rfl) (by kernel_rfl)))) ?_))))))))
                with_reducible refine zi 160 (.bool false) (by kernel_rfl) (fun w_ hC_ => ex_look (u := .map (some gm)) (u' := .int .i64 (rd_T64 l2 y).f1) rfl (by kernel_rfl) (by kernel_rfl) ((SL.out.look (hC_.at 3 (by kernel_rfl)) _ WP.out.2.1).trans (by rw [eR]))) (zm 161 (.bool true) (by kernel_rfl) (by kernel_rfl) (zm 162 (.bool true) (by kernel_rfl) (by kernel_rfl) (zm 163 (.bool true) (by kernel_rfl) (by kernel_rfl) (zs 164 (by kernel_rfl) (zs 165 (by kernel_rfl) (zs 166 (by kernel_rfl) (zs 167 (by kernel_rfl) (zs 168 (by kernel_rfl) ?_))))))))
                with_reducible refine zs 169 (by kernel_rfl) (zs 170 (by kernel_rfl) (zs 171 (by kernel_rfl) (zs 172 (by kernel_rfl) (zs 173 (by kernel_rfl) (zs 174 (by kernel_rfl) (zs 175 (by kernel_rfl) (zs 176 (by kernel_rfl) (zs 177 (by kernel_rfl) ?_))))))))
                with_reducible refine zs 178 (by kernel_rfl) (zm 179 (.bool true) (by kernel_rfl) (by kernel_rfl) (zm 180 (.bool true) (by kernel_rfl) (by kernel_rfl) (zs 181 (by kernel_rfl) (zs 182 (by kernel_rfl) (zs 183 (by kernel_rfl) (zm 184 (.bool true) (by kernel_rfl) (by kernel_rfl) (zm 185 (.bool true) (by kernel_rfl) (by kernel_rfl) (zs 186 (by kernel_rfl) ?_))))))))
                with_reducible refine zs 187 (by kernel_rfl) (zs 188 (by kernel_rfl) (zm 189 (.bool true) (by kernel_rfl) (by kernel_rfl) ?_))
                refine z_end ?_
                intro wq hC_
                have HCH := Aside0.mk hC_
                clear hC_
                simp only [putL, Act.put, List.setIfInBounds_toArray, List.set_cons_zero, List.set_cons_succ]
                go_wp2
                go_ret
                exact ⟨by rw [R.out]; rfl, HCH.out.below⟩
              have eR := q3
              by_cases q4 : (rd_T64 l2 y).f2 = -1
              case pos =>
                have e4 : ((rd_T64 l2 y).f2 != -1) = false := bne_eq_false_iff_eq.mpr q4
                by_cases q5 : -6553600 ≤ (rd_T64 l2 y).f3
                case neg =>
                  have e5 : decide ((rd_T64 l2 y).f3 < -6553600) = true := decide_eq_true (by omega)
                  have R := Aside0.mk (gone (by unfold pB; rw [h1, q2, q3, if_pos q4, decide_eq_false q5]; rfl))
                  clear gone y0 yl yp q1 o1 o2 h1 q2 q3 q4 q5
                  go_upto_region 15 with (fail)
                  have hc1 := CH.alloc (.cells #[.int .i64 (rd_T64 l2 y).f0, .int .i64 (rd_T64 l2 y).f1, .int .i64 (rd_T64 l2 y).f2, .int .i64 (rd_T64 l2 y).f3] 64) (CH.cons BF.out (CH.cons BM.out (CH.nil HB.out)))
                  generalize World.alloc wr _ = w2 at hc1 ⊢
                  have z2_0 := hc1.old Z2_0.out
                  have z2_1 := hc1.old Z2_1.out
                  have z2_2 := hc1.old Z2_2.out
                  have z2_3 := hc1.old Z2_3.out
                  obtain ⟨hz0, hz1, hz2, hz3, hz4, hz5, hz6, hz7, hz8, hz9⟩ := ten_ (hc1.at 1 rfl)
                  have HC_ := Aside0.mk hc1
                  clear hc1
                  go_upto_region 17 with (fail)
                  refine zl_start 191 (CH w _) (CH.alloc (.cells #[.int .i64 (rd_T64 l2 (wrap64 (y - 1))).f0, .int .i64 (rd_T64 l2 (wrap64 (y - 1))).f1, .int .i64 (rd_T64 l2 (wrap64 (y - 1))).f2, .int .i64 (rd_T64 l2 (wrap64 (y - 1))).f3] 64) HC_.out) ?_
                  with_reducible refine zv 132 (.pointer (some ⟨w2.heap.size, 0, none⟩)) (by kernel_rfl) (fun _ => ex_field (u := .pointer (some ⟨w2.heap.size, 0, none⟩)) rfl (by kernel_rfl) (by kernel_rfl)) (zi 133 (.int .i64 (rd_T64 l2 (wrap64 (y - 1))).f0) (by kernel_rfl) (fun w_ hC_ => ex_load (ad := ⟨w2.heap.size, 0, none⟩) rfl (by kernel_rfl) (ld_2 (hC_.c 0 0 (by kernel_rfl) (by kernel_rfl)))) (zv 134 (.pointer (some ⟨wr.heap.size, 0, none⟩)) (by kernel_rfl) (fun _ => ex_field (u := .pointer (some ⟨wr.heap.size, 0, none⟩)) rfl (by kernel_rfl) (by kernel_rfl)) (zi 135 (.int .i64 (rd_T64 l2 y).f0) (by kernel_rfl) (fun w_ hC_ => ex_load (ad := ⟨wr.heap.size, 0, none⟩) rfl (by kernel_rfl) (ld_2 (hC_.c 1 0 (by kernel_rfl) (by kernel_rfl)))) (zb 136 (decide ((rd_T64 l2 y).f0 < (rd_T64 l2 (wrap64 (y - 1))).f0)) false (by kernel_rfl) (fun _ => ex_gtr (by kernel_rfl) (by kernel_rfl) rfl) (eo1) (zm 137 (.bool false) (by kernel_rfl) (by kernel_rfl) (zv 138 (.pointer (some ⟨w2.heap.size, 0, none⟩)) (by kernel_rfl) (fun _ => ex_field (u := .pointer (some ⟨w2.heap.size, 0, none⟩)) rfl (by kernel_rfl) (by kernel_rfl)) (zi 139 (.int .i64 (rd_T64 l2 (wrap64 (y - 1))).f0) (by kernel_rfl) (fun w_ hC_ => ex_load (ad := ⟨w2.heap.size, 0, none⟩) rfl (by kernel_rfl) (ld_2 (hC_.c 0 0 (by kernel_rfl) (by kernel_rfl)))) (zv 140 (.pointer (some ⟨wr.heap.size, 0, none⟩)) (by kernel_rfl) (fun _ => ex_field (u := .pointer (some ⟨wr.heap.size, 0, none⟩)) rfl (by kernel_rfl) (by kernel_rfl)) ?_))))))))
                  with_reducible refine zi 141 (.int .i64 (rd_T64 l2 y).f0) (by kernel_rfl) (fun w_ hC_ => ex_load (ad := ⟨wr.heap.size, 0, none⟩) rfl (by kernel_rfl) (ld_2 (hC_.c 1 0 (by kernel_rfl) (by kernel_rfl)))) (zb 142 (((rd_T64 l2 (wrap64 (y - 1))).f0 == (rd_T64 l2 y).f0)) false (by kernel_rfl) (fun _ => ex_eql (by kernel_rfl) (by kernel_rfl) rfl) (eo2) (zm 143 (.bool false) (by kernel_rfl) (by kernel_rfl) (zs 144 (by kernel_rfl) (zs 145 (by kernel_rfl) (zs 146 (by kernel_rfl) (zs 147 (by kernel_rfl) (zs 148 (by kernel_rfl) (zm 149 (.bool false) (by kernel_rfl) (by kernel_rfl) ?_))))))))
                  with_reducible refine zm 150 (.bool false) (by kernel_rfl) (by kernel_rfl) ?_
                  refine z_end ?_
                  intro wq hC_
                  simp only [putL, Act.put, List.setIfInBounds_toArray, List.set_cons_zero, List.set_cons_succ]
                  go_upto_region 19 with (fail)
                  refine zl_start 191 (CH w _) hC_ ?_
                  clear hC_
                  with_reducible refine zm 151 (.map (some gm)) (by kernel_rfl) (by kernel_rfl) (zv 152 (.pointer (some ⟨wr.heap.size, 0, none⟩)) (by kernel_rfl) (fun _ => ex_field (u := .pointer (some ⟨wr.heap.size, 0, none⟩)) rfl (by kernel_rfl) (by kernel_rfl)) (zi 153 (.int .i64 (rd_T64 l2 y).f0) (by kernel_rfl) (fun w_ hC_ => ex_load (ad := ⟨wr.heap.size, 0, none⟩) rfl (by kernel_rfl) (ld_2 (hC_.c 1 0 (by kernel_rfl) (by kernel_rfl)))) (zi 154 (.bool true) (by kernel_rfl) (fun w_ hC_ => ex_look (u := .map (some gm)) (u' := .int .i64 (rd_T64 l2 y).f0) rfl (by kernel_rfl) (by kernel_rfl) ((SL.out.look (hC_.at 3 (by kernel_rfl)) _ WP.out.1).trans (by rw [eL]))) (zm 155 (.bool false) (by kernel_rfl) (by kernel_rfl) (zm 156 (.bool false) (by kernel_rfl) (by kernel_rfl) (zm 157 (.map (some gm)) (by kernel_rfl) (by kernel_rfl) (zv 158 (.pointer (some ⟨wr.heap.size, 1, none⟩)) (by kernel_rfl) (fun _ => ex_field (u := .pointer (some ⟨wr.heap.size, 0, none⟩)) rfl (by kernel_rfl) (by kernel_rfl)) (zi 159 (.int .i64 (rd_T64 l2 y).f1) (by kernel_rfl) (fun w_ hC_ => ex_load (ad := ⟨wr.heap.size, 1, none⟩) rfl (by kernel_rfl) (ld_2 (hC_.c 1 1 (by kernel_rfl) (by kernel_rfl)))) ?_))))))))
                  with_reducible refine zi 160 (.bool true) (by kernel_rfl) (fun w_ hC_ => ex_look (u := .map (some gm)) (u' := .int .i64 (rd_T64 l2 y).f1) rfl (by kernel_rfl) (by kernel_rfl) ((SL.out.look (hC_.at 3 (by kernel_rfl)) _ WP.out.2.1).trans (by rw [eR]))) (zm 161 (.bool false) (by kernel_rfl) (by kernel_rfl) (zm 162 (.bool false) (by kernel_rfl) (by kernel_rfl) (zm 163 (.bool false) (by kernel_rfl) (by kernel_rfl) (zv 164 (.pointer (some ⟨wr.heap.size, 2, none⟩)) (by kernel_rfl) (fun _ => ex_field (u := .pointer (some ⟨wr.heap.size, 0, none⟩)) rfl (by kernel_rfl) (by kernel_rfl)) (zi 165 (.int .i64 (rd_T64 l2 y).f2) (by kernel_rfl) (fun w_ hC_ => ex_load (ad := ⟨wr.heap.size, 2, none⟩) rfl (by kernel_rfl) (ld_2 (hC_.c 1 2 (by kernel_rfl) (by kernel_rfl)))) (zb 166 (((rd_T64 l2 y).f2 != (-1))) false (by kernel_rfl) (fun _ => ex_neq (by kernel_rfl) (by kernel_rfl) rfl) (e4) (zm 167 (.bool false) (by kernel_rfl) (by kernel_rfl) (zs 168 (by kernel_rfl) ?_))))))))
                  with_reducible refine zs 169 (by kernel_rfl) (zs 170 (by kernel_rfl) (zs 171 (by kernel_rfl) (zs 172 (by kernel_rfl) (zs 173 (by kernel_rfl) (zs 174 (by kernel_rfl) (zs 175 (by kernel_rfl) (zs 176 (by kernel_rfl) (zs 177 (by kernel_rfl) ?_))))))))
                  with_reducible refine zm 178 (.bool false) (by kernel_rfl) (by kernel_rfl) (zm 179 (.bool false) (by kernel_rfl) (by kernel_rfl) (zm 180 (.bool false) (by kernel_rfl) (by kernel_rfl) (zv 181 (.pointer (some ⟨wr.heap.size, 3, none⟩)) (by kernel_rfl) (fun _ => ex_field (u := .pointer (some ⟨wr.heap.size, 0, none⟩)) rfl (by kernel_rfl) (by kernel_rfl)) (zi 182 (.int .i64 (rd_T64 l2 y).f3) (by kernel_rfl) (fun w_ hC_ => ex_load (ad := ⟨wr.heap.size, 3, none⟩) rfl (by kernel_rfl) (ld_2 (hC_.c 1 3 (by kernel_rfl) (by kernel_rfl)))) (zb 183 (decide ((rd_T64 l2 y).f3 < (-6553600))) true (by kernel_rfl) (fun _ => ex_lss (by kernel_rfl) (by kernel_rfl) rfl) (e5) (zm 184 (.bool true) (by kernel_rfl) (by kernel_rfl) (zm 185 (.bool true) (by kernel_rfl) (by kernel_rfl) (zs 186 (by kernel_rfl) ?_))))))))
                  with_reducible refine zs 187 (by kernel_rfl) (zs 188 (by kernel_rfl) (zm 189 (.bool true) (by kernel_rfl) (by kernel_rfl) ?_))
                  refine z_end ?_
                  intro wq hC_
                  have HCH := Aside0.mk hC_
                  clear hC_
                  simp only [putL, Act.put, List.setIfInBounds_toArray, List.set_cons_zero, List.set_cons_succ]
                  go_wp2
                  go_ret
                  exact ⟨by rw [R.out]; rfl, HCH.out.below⟩
                have e5 : decide ((rd_T64 l2 y).f3 < -6553600) = false := decide_eq_false (by omega)
                by_cases q6 : (rd_T64 l2 y).f3 ≤ 6553600
                case neg =>
                  have e6 : decide (6553600 < (rd_T64 l2 y).f3) = true := decide_eq_true (by omega)
                  have R := Aside0.mk (gone (by unfold pB; rw [h1, q2, q3, if_pos q4, decide_eq_true q5, decide_eq_false q6]; rfl))
                  clear gone y0 yl yp q1 o1 o2 h1 q2 q3 q4 q5 q6
                  go_upto_region 15 with (fail)
                  have hc1 := CH.alloc (.cells #[.int .i64 (rd_T64 l2 y).f0, .int .i64 (rd_T64 l2 y).f1, .int .i64 (rd_T64 l2 y).f2, .int .i64 (rd_T64 l2 y).f3] 64) (CH.cons BF.out (CH.cons BM.out (CH.nil HB.out)))
                  generalize World.alloc wr _ = w2 at hc1 ⊢
                  have z2_0 := hc1.old Z2_0.out
                  have z2_1 := hc1.old Z2_1.out
                  have z2_2 := hc1.old Z2_2.out
                  have z2_3 := hc1.old Z2_3.out
                  obtain ⟨hz0, hz1, hz2, hz3, hz4, hz5, hz6, hz7, hz8, hz9⟩ := ten_ (hc1.at 1 rfl)
                  have HC_ := Aside0.mk hc1
                  clear hc1
                  go_upto_region 17 with (fail)
                  refine zl_start 191 (CH w _) (CH.alloc (.cells #[.int .i64 (rd_T64 l2 (wrap64 (y - 1))).f0, .int .i64 (rd_T64 l2 (wrap64 (y - 1))).f1, .int .i64 (rd_T64 l2 (wrap64 (y - 1))).f2, .int .i64 (rd_T64 l2 (wrap64 (y - 1))).f3] 64) HC_.out) ?_
                  with_reducible refine zv 132 (.pointer (some ⟨w2.heap.size, 0, none⟩)) (by kernel_rfl) (fun _ => ex_field (u := .pointer (some ⟨w2.heap.size, 0, none⟩)) rfl (by kernel_rfl) (by kernel_rfl)) (zi 133 (.int .i64 (rd_T64 l2 (wrap64 (y - 1))).f0) (by kernel_rfl) (fun w_ hC_ => ex_load (ad := ⟨w2.heap.size, 0, none⟩) rfl (by kernel_rfl) (ld_2 (hC_.c 0 0 (by kernel_rfl) (by kernel_rfl)))) (zv 134 (.pointer (some ⟨wr.heap.size, 0, none⟩)) (by kernel_rfl) (fun _ => ex_field (u := .pointer (some ⟨wr.heap.size, 0, none⟩)) rfl (by kernel_rfl) (by kernel_rfl)) (zi 135 (.int .i64 (rd_T64 l2 y).f0) (by kernel_rfl) (fun w_ hC_ => ex_load (ad := ⟨wr.heap.size, 0, none⟩) rfl (by kernel_rfl) (ld_2 (hC_.c 1 0 (by kernel_rfl) (by kernel_rfl)))) (zb 136 (decide ((rd_T64 l2 y).f0 < (rd_T64 l2 (wrap64 (y - 1))).f0)) false (by kernel_rfl) (fun _ => ex_gtr (by kernel_rfl) (by kernel_rfl) rfl) (eo1) (zm 137 (.bool false) (by kernel_rfl) (by kernel_rfl) (zv 138 (.pointer (some ⟨w2.heap.size, 0, none⟩)) (by kernel_rfl) (fun _ => ex_field (u := .pointer (some ⟨w2.heap.size, 0, none⟩)) rfl (by kernel_rfl) (by kernel_rfl)) (zi 139 (.int .i64 (rd_T64 l2 (wrap64 (y - 1))).f0) (by kernel_rfl) (fun w_ hC_ => ex_load (ad := ⟨w2.heap.size, 0, none⟩) rfl (by kernel_rfl) (ld_2 (hC_.c 0 0 (by kernel_rfl) (by kernel_rfl)))) (zv 140 (.pointer (some ⟨wr.heap.size, 0, none⟩)) (by kernel_rfl) (fun _ => ex_field (u := .pointer (some ⟨wr.heap.size, 0, none⟩)) rfl (by kernel_rfl) (by kernel_rfl)) ?_))))))))
                  with_reducible refine zi 141 (.int .i64 (rd_T64 l2 y).f0) (by kernel_rfl) (fun w_ hC_ => ex_load (ad := ⟨wr.heap.size, 0, none⟩) rfl (by kernel_rfl) (ld_2 (hC_.c 1 0 (by kernel_rfl) (by kernel_rfl)))) (zb 142 (((rd_T64 l2 (wrap64 (y - 1))).f0 == (rd_T64 l2 y).f0)) false (by kernel_rfl) (fun _ => ex_eql (by kernel_rfl) (by kernel_rfl) rfl) (eo2) (zm 143 (.bool false) (by kernel_rfl) (by kernel_rfl) (zs 144 (by kernel_rfl) (zs 145 (by kernel_rfl) (zs 146 (by kernel_rfl) (zs 147 (by kernel_rfl) (zs 148 (by kernel_rfl) (zm 149 (.bool false) (by kernel_rfl) (by kernel_rfl) ?_))))))))
                  with_reducible refine zm 150 (.bool false) (by kernel_rfl) (by kernel_rfl) ?_
                  refine z_end ?_
                  intro wq hC_
                  simp only [putL, Act.put, List.setIfInBounds_toArray, List.set_cons_zero, List.set_cons_succ]
                  go_upto_region 19 with (fail)
                  refine zl_start 191 (CH w _) hC_ ?_
                  clear hC_
                  with_reducible refine zm 151 (.map (some gm)) (by kernel_rfl) (by kernel_rfl) (zv 152 (.pointer (some ⟨wr.heap.size, 0, none⟩)) (by kernel_rfl) (fun _ => ex_field (u := .pointer (some ⟨wr.heap.size, 0, none⟩)) rfl (by kernel_rfl) (by kernel_rfl)) (zi 153 (.int .i64 (rd_T64 l2 y).f0) (by kernel_rfl) (fun w_ hC_ => ex_load (ad := ⟨wr.heap.size, 0, none⟩) rfl (by kernel_rfl) (ld_2 (hC_.c 1 0 (by kernel_rfl) (by kernel_rfl)))) (zi 154 (.bool true) (by kernel_rfl) (fun w_ hC_ => ex_look (u := .map (some gm)) (u' := .int .i64 (rd_T64 l2 y).f0) rfl (by kernel_rfl) (by kernel_rfl) ((SL.out.look (hC_.at 3 (by kernel_rfl)) _ WP.out.1).trans (by rw [eL]))) (zm 155 (.bool false) (by kernel_rfl) (by kernel_rfl) (zm 156 (.bool false) (by kernel_rfl) (by kernel_rfl) (zm 157 (.map (some gm)) (by kernel_rfl) (by kernel_rfl) (zv 158 (.pointer (some ⟨wr.heap.size, 1, none⟩)) (by kernel_rfl) (fun _ => ex_field (u := .pointer (some ⟨wr.heap.size, 0, none⟩)) rfl (by kernel_rfl) (by kernel_rfl)) (zi 159 (.int .i64 (rd_T64 l2 y).f1) (by kernel_rfl) (fun w_ hC_ => ex_load (ad := ⟨wr.heap.size, 1, none⟩) rfl (by kernel_rfl) (ld_2 (hC_.c 1 1 (by kernel_rfl) (by kernel_rfl)))) ?_))))))))
                  with_reducible refine zi 160 (.bool true) (by kernel_rfl) (fun w_ hC_ => ex_look (u := .map (some gm)) (u' := .int .i64 (rd_T64 l2 y).f1) rfl (by kernel_rfl) (by kernel_rfl) ((SL.out.look (hC_.at 3 (by kernel_rfl)) _ WP.out.2.1).trans (by rw [eR]))) (zm 161 (.bool false) (by kernel_rfl) (by kernel_rfl) (zm 162 (.bool false) (by kernel_rfl) (by kernel_rfl) (zm 163 (.bool false) (by kernel_rfl) (by kernel_rfl) (zv 164 (.pointer (some ⟨wr.heap.size, 2, none⟩)) (by kernel_rfl) (fun _ => ex_field (u := .pointer (some ⟨wr.heap.size, 0, none⟩)) rfl (by kernel_rfl) (by kernel_rfl)) (zi 165 (.int .i64 (rd_T64 l2 y).f2) (by kernel_rfl) (fun w_ hC_ => ex_load (ad := ⟨wr.heap.size, 2, none⟩) rfl (by kernel_rfl) (ld_2 (hC_.c 1 2 (by kernel_rfl) (by kernel_rfl)))) (zb 166 (((rd_T64 l2 y).f2 != (-1))) false (by kernel_rfl) (fun _ => ex_neq (by kernel_rfl) (by kernel_rfl) rfl) (e4) (zm 167 (.bool false) (by kernel_rfl) (by kernel_rfl) (zs 168 (by kernel_rfl) ?_))))))))
                  with_reducible refine zs 169 (by kernel_rfl) (zs 170 (by kernel_rfl) (zs 171 (by kernel_rfl) (zs 172 (by kernel_rfl) (zs 173 (by kernel_rfl) (zs 174 (by kernel_rfl) (zs 175 (by kernel_rfl) (zs 176 (by kernel_rfl) (zs 177 (by kernel_rfl) ?_))))))))
                  with_reducible refine zm 178 (.bool false) (by kernel_rfl) (by kernel_rfl) (zm 179 (.bool false) (by kernel_rfl) (by kernel_rfl) (zm 180 (.bool false) (by kernel_rfl) (by kernel_rfl) (zv 181 (.pointer (some ⟨wr.heap.size, 3, none⟩)) (by kernel_rfl) (fun _ => ex_field (u := .pointer (some ⟨wr.heap.size, 0, none⟩)) rfl (by kernel_rfl) (by kernel_rfl)) (zi 182 (.int .i64 (rd_T64 l2 y).f3) (by kernel_rfl) (fun w_ hC_ => ex_load (ad := ⟨wr.heap.size, 3, none⟩) rfl (by kernel_rfl) (ld_2 (hC_.c 1 3 (by kernel_rfl) (by kernel_rfl)))) (zb 183 (decide ((rd_T64 l2 y).f3 < (-6553600))) false (by kernel_rfl) (fun _ => ex_lss (by kernel_rfl) (by kernel_rfl) rfl) (e5) (zm 184 (.bool false) (by kernel_rfl) (by kernel_rfl) (zm 185 (.bool false) (by kernel_rfl) (by kernel_rfl) (zv 186 (.pointer (some ⟨wr.heap.size, 3, none⟩)) (by kernel_rfl) (fun _ => ex_field (u := .pointer (some ⟨wr.heap.size, 0, none⟩)) rfl (by kernel_rfl) (by kernel_rfl)) ?_))))))))
                  with_reducible refine zi 187 (.int .i64 (rd_T64 l2 y).f3) (by kernel_rfl) (fun w_ hC_ => ex_load (ad := ⟨wr.heap.size, 3, none⟩) rfl (by kernel_rfl) (ld_2 (hC_.c 1 3 (by kernel_rfl) (by kernel_rfl)))) (zb 188 (decide (6553600 < (rd_T64 l2 y).f3)) true (by kernel_rfl) (fun _ => ex_gtr (by kernel_rfl) (by kernel_rfl) rfl) (e6) (zm 189 (.bool true) (by kernel_rfl) (by kernel_rfl) ?_))
                  refine z_end ?_
                  intro wq hC_
                  have HCH := Aside0.mk hC_
                  clear hC_
                  simp only [putL, Act.put, List.setIfInBounds_toArray, List.set_cons_zero, List.set_cons_succ]
                  go_wp2
                  go_ret
                  exact ⟨by rw [R.out]; rfl, HCH.out.below⟩
                have e6 : decide (6553600 < (rd_T64 l2 y).f3) = false := decide_eq_false (by omega)
                have GB : pB l1 l2 y = true := by unfold pB; rw [h1, q2, q3, if_pos q4, decide_eq_true q5, decide_eq_true q6]; rfl
                have GD : Aside0 (∀ m : Nat, (m : Int) < y + 1 → pB l1 l2 (m : Int) = true) := ⟨all_step HY.out.2.2 GB⟩
                have XW : Aside0 (wrap64 (y + 1) = y + 1) := ⟨win _ (by omega) (by have := HM.out.2; omega)⟩
                have XLA := Aside0.mk yl
                clear gone y0 yl yp q1 o1 o2 h1 q2 q3 q4 q5 q6 GB
                cases gk with
                | zero => exact absurd XLA.out (by have := HF.out; omega)
                | succ k1 =>
                  go_upto_region 15 with (fail)
                  have hc1 := CH.alloc (.cells #[.int .i64 (rd_T64 l2 y).f0, .int .i64 (rd_T64 l2 y).f1, .int .i64 (rd_T64 l2 y).f2, .int .i64 (rd_T64 l2 y).f3] 64) (CH.cons BF.out (CH.cons BM.out (CH.nil HB.out)))
                  generalize World.alloc wr _ = w2 at hc1 ⊢
                  have z2_0 := hc1.old Z2_0.out
                  have z2_1 := hc1.old Z2_1.out
                  have z2_2 := hc1.old Z2_2.out
                  have z2_3 := hc1.old Z2_3.out
                  obtain ⟨hz0, hz1, hz2, hz3, hz4, hz5, hz6, hz7, hz8, hz9⟩ := ten_ (hc1.at 1 rfl)
                  have HC_ := Aside0.mk hc1
                  clear hc1
                  go_upto_region 17 with (fail)
                  refine zl_start 191 (CH w _) (CH.alloc (.cells #[.int .i64 (rd_T64 l2 (wrap64 (y - 1))).f0, .int .i64 (rd_T64 l2 (wrap64 (y - 1))).f1, .int .i64 (rd_T64 l2 (wrap64 (y - 1))).f2, .int .i64 (rd_T64 l2 (wrap64 (y - 1))).f3] 64) HC_.out) ?_
                  with_reducible refine zv 132 (.pointer (some ⟨w2.heap.size, 0, none⟩)) (by kernel_rfl) (fun _ => ex_field (u := .pointer (some ⟨w2.heap.size, 0, none⟩)) rfl (by kernel_rfl) (by kernel_rfl)) (zi 133 (.int .i64 (rd_T64 l2 (wrap64 (y - 1))).f0) (by kernel_rfl) (fun w_ hC_ => ex_load (ad := ⟨w2.heap.size, 0, none⟩) rfl (by kernel_rfl) (ld_2 (hC_.c 0 0 (by kernel_rfl) (by kernel_rfl)))) (zv 134 (.pointer (some ⟨wr.heap.size, 0, none⟩)) (by kernel_rfl) (fun _ => ex_field (u := .pointer (some ⟨wr.heap.size, 0, none⟩)) rfl (by kernel_rfl) (by kernel_rfl)) (zi 135 (.int .i64 (rd_T64 l2 y).f0) (by kernel_rfl) (fun w_ hC_ => ex_load (ad := ⟨wr.heap.size, 0, none⟩) rfl (by kernel_rfl) (ld_2 (hC_.c 1 0 (by kernel_rfl) (by kernel_rfl)))) (zb 136 (decide ((rd_T64 l2 y).f0 < (rd_T64 l2 (wrap64 (y - 1))).f0)) false (by kernel_rfl) (fun _ => ex_gtr (by kernel_rfl) (by kernel_rfl) rfl) (eo1) (zm 137 (.bool false) (by kernel_rfl) (by kernel_rfl) (zv 138 (.pointer (some ⟨w2.heap.size, 0, none⟩)) (by kernel_rfl) (fun _ => ex_field (u := .pointer (some ⟨w2.heap.size, 0, none⟩)) rfl (by kernel_rfl) (by kernel_rfl)) (zi 139 (.int .i64 (rd_T64 l2 (wrap64 (y - 1))).f0) (by kernel_rfl) (fun w_ hC_ => ex_load (ad := ⟨w2.heap.size, 0, none⟩) rfl (by kernel_rfl) (ld_2 (hC_.c 0 0 (by kernel_rfl) (by kernel_rfl)))) (zv 140 (.pointer (some ⟨wr.heap.size, 0, none⟩)) (by kernel_rfl) (fun _ => ex_field (u := .pointer (some ⟨wr.heap.size, 0, none⟩)) rfl (by kernel_rfl) (by kernel_rfl)) ?_))))))))
                  with_reducible refine zi 141 (.int .i64 (rd_T64 l2 y).f0) (by kernel_rfl) (fun w_ hC_ => ex_load (ad := ⟨wr.heap.size, 0, none⟩) rfl (by kernel_rfl) (ld_2 (hC_.c 1 0 (by kernel_rfl) (by kernel_rfl)))) (zb 142 (((rd_T64 l2 (wrap64 (y - 1))).f0 == (rd_T64 l2 y).f0)) false (by kernel_rfl) (fun _ => ex_eql (by kernel_rfl) (by kernel_rfl) rfl) (eo2) (zm 143 (.bool false) (by kernel_rfl) (by kernel_rfl) (zs 144 (by kernel_rfl) (zs 145 (by kernel_rfl) (zs 146 (by kernel_rfl) (zs 147 (by kernel_rfl) (zs 148 (by kernel_rfl) (zm 149 (.bool false) (by kernel_rfl) (by kernel_rfl) ?_))))))))
                  with_reducible refine zm 150 (.bool false) (by kernel_rfl) (by kernel_rfl) ?_
                  refine z_end ?_
                  intro wq hC_
                  simp only [putL, Act.put, List.setIfInBounds_toArray, List.set_cons_zero, List.set_cons_succ]
                  go_upto_region 19 with (fail)
                  refine zl_start 191 (CH w _) hC_ ?_
                  clear hC_
                  with_reducible refine zm 151 (.map (some gm)) (by kernel_rfl) (by kernel_rfl) (zv 152 (.pointer (some ⟨wr.heap.size, 0, none⟩)) (by kernel_rfl) (fun _ => ex_field (u := .pointer (some ⟨wr.heap.size, 0, none⟩)) rfl (by kernel_rfl) (by kernel_rfl)) (zi 153 (.int .i64 (rd_T64 l2 y).f0) (by kernel_rfl) (fun w_ hC_ => ex_load (ad := ⟨wr.heap.size, 0, none⟩) rfl (by kernel_rfl) (ld_2 (hC_.c 1 0 (by kernel_rfl) (by kernel_rfl)))) (zi 154 (.bool true) (by kernel_rfl) (fun w_ hC_ => ex_look (u := .map (some gm)) (u' := .int .i64 (rd_T64 l2 y).f0) rfl (by kernel_rfl) (by kernel_rfl) ((SL.out.look (hC_.at 3 (by kernel_rfl)) _ WP.out.1).trans (by rw [eL]))) (zm 155 (.bool false) (by kernel_rfl) (by kernel_rfl) (zm 156 (.bool false) (by kernel_rfl) (by kernel_rfl) (zm 157 (.map (some gm)) (by kernel_rfl) (by kernel_rfl) (zv 158 (.pointer (some ⟨wr.heap.size, 1, none⟩)) (by kernel_rfl) (fun _ => ex_field (u := .pointer (some ⟨wr.heap.size, 0, none⟩)) rfl (by kernel_rfl) (by kernel_rfl)) (zi 159 (.int .i64 (rd_T64 l2 y).f1) (by kernel_rfl) (fun w_ hC_ => ex_load (ad := ⟨wr.heap.size, 1, none⟩) rfl (by kernel_rfl) (ld_2 (hC_.c 1 1 (by kernel_rfl) (by kernel_rfl)))) ?_))))))))
                  with_reducible refine zi 160 (.bool true) (by kernel_rfl) (fun w_ hC_ => ex_look (u := .map (some gm)) (u' := .int .i64 (rd_T64 l2 y).f1) rfl (by kernel_rfl) (by kernel_rfl) ((SL.out.look (hC_.at 3 (by kernel_rfl)) _ WP.out.2.1).trans (by rw [eR]))) (zm 161 (.bool false) (by kernel_rfl) (by kernel_rfl) (zm 162 (.bool false) (by kernel_rfl) (by kernel_rfl) (zm 163 (.bool false) (by kernel_rfl) (by kernel_rfl) (zv 164 (.pointer (some ⟨wr.heap.size, 2, none⟩)) (by kernel_rfl) (fun _ => ex_field (u := .pointer (some ⟨wr.heap.size, 0, none⟩)) rfl (by kernel_rfl) (by kernel_rfl)) (zi 165 (.int .i64 (rd_T64 l2 y).f2) (by kernel_rfl) (fun w_ hC_ => ex_load (ad := ⟨wr.heap.size, 2, none⟩) rfl (by kernel_rfl) (ld_2 (hC_.c 1 2 (by kernel_rfl) (by kernel_rfl)))) (zb 166 (((rd_T64 l2 y).f2 != (-1))) false (by kernel_rfl) (fun _ => ex_neq (by kernel_rfl) (by kernel_rfl) rfl) (e4) (zm 167 (.bool false) (by kernel_rfl) (by kernel_rfl) (zs 168 (by kernel_rfl) ?_))))))))
                  with_reducible refine zs 169 (by kernel_rfl) (zs 170 (by kernel_rfl) (zs 171 (by kernel_rfl) (zs 172 (by kernel_rfl) (zs 173 (by kernel_rfl) (zs 174 (by kernel_rfl) (zs 175 (by kernel_rfl) (zs 176 (by kernel_rfl) (zs 177 (by kernel_rfl) ?_))))))))
                  with_reducible refine zm 178 (.bool false) (by kernel_rfl) (by kernel_rfl) (zm 179 (.bool false) (by kernel_rfl) (by kernel_rfl) (zm 180 (.bool false) (by kernel_rfl) (by kernel_rfl) (zv 181 (.pointer (some ⟨wr.heap.size, 3, none⟩)) (by kernel_rfl) (fun _ => ex_field (u := .pointer (some ⟨wr.heap.size, 0, none⟩)) rfl (by kernel_rfl) (by kernel_rfl)) (zi 182 (.int .i64 (rd_T64 l2 y).f3) (by kernel_rfl) (fun w_ hC_ => ex_load (ad := ⟨wr.heap.size, 3, none⟩) rfl (by kernel_rfl) (ld_2 (hC_.c 1 3 (by kernel_rfl) (by kernel_rfl)))) (zb 183 (decide ((rd_T64 l2 y).f3 < (-6553600))) false (by kernel_rfl) (fun _ => ex_lss (by kernel_rfl) (by kernel_rfl) rfl) (e5) (zm 184 (.bool false) (by kernel_rfl) (by kernel_rfl) (zm 185 (.bool false) (by kernel_rfl) (by kernel_rfl) (zv 186 (.pointer (some ⟨wr.heap.size, 3, none⟩)) (by kernel_rfl) (fun _ => ex_field (u := .pointer (some ⟨wr.heap.size, 0, none⟩)) rfl (by kernel_rfl) (by kernel_rfl)) ?_))))))))
                  with_reducible refine zi 187 (.int .i64 (rd_T64 l2 y).f3) (by kernel_rfl) (fun w_ hC_ => ex_load (ad := ⟨wr.heap.size, 3, none⟩) rfl (by kernel_rfl) (ld_2 (hC_.c 1 3 (by kernel_rfl) (by kernel_rfl)))) (zb 188 (decide (6553600 < (rd_T64 l2 y).f3)) false (by kernel_rfl) (fun _ => ex_gtr (by kernel_rfl) (by kernel_rfl) rfl) (e6) (zm 189 (.bool false) (by kernel_rfl) (by kernel_rfl) ?_))
                  refine z_end ?_
                  intro wq hC_
                  have HCH := Aside0.mk hC_
                  clear hC_
                  simp only [putL, Act.put, List.setIfInBounds_toArray, List.set_cons_zero, List.set_cons_succ]
                  go_wp2
                  go_roundg k1
                  case measure => omega
                  case rel => exact ⟨wrap64 (y + 1), (by first | rfl | (simp; done) | (simp [*]; done)), ⟨by rw [XW.out]; have := HF.out; omega⟩, ⟨⟨by rw [XW.out]; have := HY.out.1; omega, by rw [XW.out]; have := XLA.out; omega, by rw [XW.out]; exact GD.out⟩⟩, ⟨HCH.out.at 2 rfl⟩, ⟨HCH.out.at 3 rfl⟩, ⟨HCH.out.below⟩⟩
              case neg =>
                have e4 : ((rd_T64 l2 y).f2 != -1) = true := bne_iff_ne.mpr q4
                by_cases q8 : hasB l1 (rd_T64 l2 y).f2 = true
                case neg =>
                  have q8' : hasB l1 (rd_T64 l2 y).f2 = false := by simpa using q8
                  have e8 := q8'
                  have R := Aside0.mk (gone (by unfold pB; rw [h1, q2, q3, if_neg q4, q8']; simp))
                  clear gone y0 yl yp q1 o1 o2 h1 q2 q3 q4 q8
                  go_upto_region 15 with (fail)
                  have hc1 := CH.alloc (.cells #[.int .i64 (rd_T64 l2 y).f0, .int .i64 (rd_T64 l2 y).f1, .int .i64 (rd_T64 l2 y).f2, .int .i64 (rd_T64 l2 y).f3] 64) (CH.cons BF.out (CH.cons BM.out (CH.nil HB.out)))
                  generalize World.alloc wr _ = w2 at hc1 ⊢
                  have z2_0 := hc1.old Z2_0.out
                  have z2_1 := hc1.old Z2_1.out
                  have z2_2 := hc1.old Z2_2.out
                  have z2_3 := hc1.old Z2_3.out
                  obtain ⟨hz0, hz1, hz2, hz3, hz4, hz5, hz6, hz7, hz8, hz9⟩ := ten_ (hc1.at 1 rfl)
                  have HC_ := Aside0.mk hc1
                  clear hc1
                  go_upto_region 17 with (fail)
                  refine zl_start 191 (CH w _) (CH.alloc (.cells #[.int .i64 (rd_T64 l2 (wrap64 (y - 1))).f0, .int .i64 (rd_T64 l2 (wrap64 (y - 1))).f1, .int .i64 (rd_T64 l2 (wrap64 (y - 1))).f2, .int .i64 (rd_T64 l2 (wrap64 (y - 1))).f3] 64) HC_.out) ?_
                  with_reducible refine zv 132 (.pointer (some ⟨w2.heap.size, 0, none⟩)) (by kernel_rfl) (fun _ => ex_field (u := .pointer (some ⟨w2.heap.size, 0, none⟩)) rfl (by kernel_rfl) (by kernel_rfl)) (zi 133 (.int .i64 (rd_T64 l2 (wrap64 (y - 1))).f0) (by kernel_rfl) (fun w_ hC_ => ex_load (ad := ⟨w2.heap.size, 0, none⟩) rfl (by kernel_rfl) (ld_2 (hC_.c 0 0 (by kernel_rfl) (by kernel_rfl)))) (zv 134 (.pointer (some ⟨wr.heap.size, 0, none⟩)) (by kernel_rfl) (fun _ => ex_field (u := .pointer (some ⟨wr.heap.size, 0, none⟩)) rfl (by kernel_rfl) (by kernel_rfl)) (zi 135 (.int .i64 (rd_T64 l2 y).f0) (by kernel_rfl) (fun w_ hC_ => ex_load (ad := ⟨wr.heap.size, 0, none⟩) rfl (by kernel_rfl) (ld_2 (hC_.c 1 0 (by kernel_rfl) (by kernel_rfl)))) (zb 136 (decide ((rd_T64 l2 y).f0 < (rd_T64 l2 (wrap64 (y - 1))).f0)) false (by kernel_rfl) (fun _ => ex_gtr (by kernel_rfl) (by kernel_rfl) rfl) (eo1) (zm 137 (.bool false) (by kernel_rfl) (by kernel_rfl) (zv 138 (.pointer (some ⟨w2.heap.size, 0, none⟩)) (by kernel_rfl) (fun _ => ex_field (u := .pointer (some ⟨w2.heap.size, 0, none⟩)) rfl (by kernel_rfl) (by kernel_rfl)) (zi 139 (.int .i64 (rd_T64 l2 (wrap64 (y - 1))).f0) (by kernel_rfl) (fun w_ hC_ => ex_load (ad := ⟨w2.heap.size, 0, none⟩) rfl (by kernel_rfl) (ld_2 (hC_.c 0 0 (by kernel_rfl) (by kernel_rfl)))) (zv 140 (.pointer (some ⟨wr.heap.size, 0, none⟩)) (by kernel_rfl) (fun _ => ex_field (u := .pointer (some ⟨wr.heap.size, 0, none⟩)) rfl (by kernel_rfl) (by kernel_rfl)) ?_))))))))
                  with_reducible refine zi 141 (.int .i64 (rd_T64 l2 y).f0) (by kernel_rfl) (fun w_ hC_ => ex_load (ad := ⟨wr.heap.size, 0, none⟩) rfl (by kernel_rfl) (ld_2 (hC_.c 1 0 (by kernel_rfl) (by kernel_rfl)))) (zb 142 (((rd_T64 l2 (wrap64 (y - 1))).f0 == (rd_T64 l2 y).f0)) false (by kernel_rfl) (fun _ => ex_eql (by kernel_rfl) (by kernel_rfl) rfl) (eo2) (zm 143 (.bool false) (by kernel_rfl) (by kernel_rfl) (zs 144 (by kernel_rfl) (zs 145 (by kernel_rfl) (zs 146 (by kernel_rfl) (zs 147 (by kernel_rfl) (zs 148 (by kernel_rfl) (zm 149 (.bool false) (by kernel_rfl) (by kernel_rfl) ?_))))))))
                  with_reducible refine zm 150 (.bool false) (by kernel_rfl) (by kernel_rfl) ?_
                  refine z_end ?_
                  intro wq hC_
                  simp only [putL, Act.put, List.setIfInBounds_toArray, List.set_cons_zero, List.set_cons_succ]
                  go_upto_region 19 with (fail)
                  refine zl_start 191 (CH w _) hC_ ?_
                  clear hC_
                  with_reducible refine zm 151 (.map (some gm)) (by kernel_rfl) (by kernel_rfl) (zv 152 (.pointer (some ⟨wr.heap.size, 0, none⟩)) (by kernel_rfl) (fun _ => ex_field (u := .pointer (some ⟨wr.heap.size, 0, none⟩)) rfl (by kernel_rfl) (by kernel_rfl)) (zi 153 (.int .i64 (rd_T64 l2 y).f0) (by kernel_rfl) (fun w_ hC_ => ex_load (ad := ⟨wr.heap.size, 0, none⟩) rfl (by kernel_rfl) (ld_2 (hC_.c 1 0 (by kernel_rfl) (by kernel_rfl)))) (zi 154 (.bool true) (by kernel_rfl) (fun w_ hC_ => ex_look (u := .map (some gm)) (u' := .int .i64 (rd_T64 l2 y).f0) rfl (by kernel_rfl) (by kernel_rfl) ((SL.out.look (hC_.at 3 (by kernel_rfl)) _ WP.out.1).trans (by rw [eL]))) (zm 155 (.bool false) (by kernel_rfl) (by kernel_rfl) (zm 156 (.bool false) (by kernel_rfl) (by kernel_rfl) (zm 157 (.map (some gm)) (by kernel_rfl) (by kernel_rfl) (zv 158 (.pointer (some ⟨wr.heap.size, 1, none⟩)) (by kernel_rfl) (fun _ => ex_field (u := .pointer (some ⟨wr.heap.size, 0, none⟩)) rfl (by kernel_rfl) (by kernel_rfl)) (zi 159 (.int .i64 (rd_T64 l2 y).f1) (by kernel_rfl) (fun w_ hC_ => ex_load (ad := ⟨wr.heap.size, 1, none⟩) rfl (by kernel_rfl) (ld_2 (hC_.c 1 1 (by kernel_rfl) (by kernel_rfl)))) ?_))))))))
                  with_reducible refine zi 160 (.bool true) (by kernel_rfl) (fun w_ hC_ => ex_look (u := .map (some gm)) (u' := .int .i64 (rd_T64 l2 y).f1) rfl (by kernel_rfl) (by kernel_rfl) ((SL.out.look (hC_.at 3 (by kernel_rfl)) _ WP.out.2.1).trans (by rw [eR]))) (zm 161 (.bool false) (by kernel_rfl) (by kernel_rfl) (zm 162 (.bool false) (by kernel_rfl) (by kernel_rfl) (zm 163 (.bool false) (by kernel_rfl) (by kernel_rfl) (zv 164 (.pointer (some ⟨wr.heap.size, 2, none⟩)) (by kernel_rfl) (fun _ => ex_field (u := .pointer (some ⟨wr.heap.size, 0, none⟩)) rfl (by kernel_rfl) (by kernel_rfl)) (zi 165 (.int .i64 (rd_T64 l2 y).f2) (by kernel_rfl) (fun w_ hC_ => ex_load (ad := ⟨wr.heap.size, 2, none⟩) rfl (by kernel_rfl) (ld_2 (hC_.c 1 2 (by kernel_rfl) (by kernel_rfl)))) (zb 166 (((rd_T64 l2 y).f2 != (-1))) true (by kernel_rfl) (fun _ => ex_neq (by kernel_rfl) (by kernel_rfl) rfl) (e4) (zm 167 (.bool true) (by kernel_rfl) (by kernel_rfl) (zm 168 (.map (some gm)) (by kernel_rfl) (by kernel_rfl) ?_))))))))
                  with_reducible refine zv 169 (.pointer (some ⟨wr.heap.size, 2, none⟩)) (by kernel_rfl) (fun _ => ex_field (u := .pointer (some ⟨wr.heap.size, 0, none⟩)) rfl (by kernel_rfl) (by kernel_rfl)) (zi 170 (.int .i64 (rd_T64 l2 y).f2) (by kernel_rfl) (fun w_ hC_ => ex_load (ad := ⟨wr.heap.size, 2, none⟩) rfl (by kernel_rfl) (ld_2 (hC_.c 1 2 (by kernel_rfl) (by kernel_rfl)))) (zi 171 (.bool false) (by kernel_rfl) (fun w_ hC_ => ex_look (u := .map (some gm)) (u' := .int .i64 (rd_T64 l2 y).f2) rfl (by kernel_rfl) (by kernel_rfl) ((SL.out.look (hC_.at 3 (by kernel_rfl)) _ WP.out.2.2).trans (by rw [e8]))) (zm 172 (.bool true) (by kernel_rfl) (by kernel_rfl) (zm 173 (.bool true) (by kernel_rfl) (by kernel_rfl) (zs 174 (by kernel_rfl) (zs 175 (by kernel_rfl) (zs 176 (by kernel_rfl) (zm 177 (.bool true) (by kernel_rfl) (by kernel_rfl) ?_))))))))
                  with_reducible refine zm 178 (.bool true) (by kernel_rfl) (by kernel_rfl) (zm 179 (.bool true) (by kernel_rfl) (by kernel_rfl) (zm 180 (.bool true) (by kernel_rfl) (by kernel_rfl) (zs 181 (by kernel_rfl) (zs 182 (by kernel_rfl) (zs 183 (by kernel_rfl) (zm 184 (.bool true) (by kernel_rfl) (by kernel_rfl) (zm 185 (.bool true) (by kernel_rfl) (by kernel_rfl) (zs 186 (by kernel_rfl) ?_))))))))
                  with_reducible refine zs 187 (by kernel_rfl) (zs 188 (by kernel_rfl) (zm 189 (.bool true) (by kernel_rfl) (by kernel_rfl) ?_))
                  refine z_end ?_
                  intro wq hC_
                  have HCH := Aside0.mk hC_
                  clear hC_
                  simp only [putL, Act.put, List.setIfInBounds_toArray, List.set_cons_zero, List.set_cons_succ]
                  go_wp2
                  go_ret
                  exact ⟨by rw [R.out]; rfl, HCH.out.below⟩
                have e8 := q8
                by_cases q7 : (rd_T64 l2 y).f3 = 0
                case neg =>
                  have e7 : ((rd_T64 l2 y).f3 != 0) = true := bne_iff_ne.mpr q7
                  have R := Aside0.mk (gone (by unfold pB; rw [h1, q2, q3, if_neg q4, decide_eq_false q7]; rfl))
                  clear gone y0 yl yp q1 o1 o2 h1 q2 q3 q4 q8 q7
                  go_upto_region 15 with (fail)
                  have hc1 := CH.alloc (.cells #[.int .i64 (rd_T64 l2 y).f0, .int .i64 (rd_T64 l2 y).f1, .int .i64 (rd_T64 l2 y).f2, .int .i64 (rd_T64 l2 y).f3] 64) (CH.cons BF.out (CH.cons BM.out (CH.nil HB.out)))
                  generalize World.alloc wr _ = w2 at hc1 ⊢
                  have z2_0 := hc1.old Z2_0.out
                  have z2_1 := hc1.old Z2_1.out
                  have z2_2 := hc1.old Z2_2.out
                  have z2_3 := hc1.old Z2_3.out
                  obtain ⟨hz0, hz1, hz2, hz3, hz4, hz5, hz6, hz7, hz8, hz9⟩ := ten_ (hc1.at 1 rfl)
                  have HC_ := Aside0.mk hc1
                  clear hc1
                  go_upto_region 17 with (fail)
                  refine zl_start 191 (CH w _) (CH.alloc (.cells #[.int .i64 (rd_T64 l2 (wrap64 (y - 1))).f0, .int .i64 (rd_T64 l2 (wrap64 (y - 1))).f1, .int .i64 (rd_T64 l2 (wrap64 (y - 1))).f2, .int .i64 (rd_T64 l2 (wrap64 (y - 1))).f3] 64) HC_.out) ?_
                  with_reducible refine zv 132 (.pointer (some ⟨w2.heap.size, 0, none⟩)) (by kernel_rfl) (fun _ => ex_field (u := .pointer (some ⟨w2.heap.size, 0, none⟩)) rfl (by kernel_rfl) (by kernel_rfl)) (zi 133 (.int .i64 (rd_T64 l2 (wrap64 (y - 1))).f0) (by kernel_rfl) (fun w_ hC_ => ex_load (ad := ⟨w2.heap.size, 0, none⟩) rfl (by kernel_rfl) (ld_2 (hC_.c 0 0 (by kernel_rfl) (by kernel_rfl)))) (zv 134 (.pointer (some ⟨wr.heap.size, 0, none⟩)) (by kernel_rfl) (fun _ => ex_field (u := .pointer (some ⟨wr.heap.size, 0, none⟩)) rfl (by kernel_rfl) (by kernel_rfl)) (zi 135 (.int .i64 (rd_T64 l2 y).f0) (by kernel_rfl) (fun w_ hC_ => ex_load (ad := ⟨wr.heap.size, 0, none⟩) rfl (by kernel_rfl) (ld_2 (hC_.c 1 0 (by kernel_rfl) (by kernel_rfl)))) (zb 136 (decide ((rd_T64 l2 y).f0 < (rd_T64 l2 (wrap64 (y - 1))).f0)) false (by kernel_rfl) (fun _ => ex_gtr (by kernel_rfl) (by kernel_rfl) rfl) (eo1) (zm 137 (.bool false) (by kernel_rfl) (by kernel_rfl) (zv 138 (.pointer (some ⟨w2.heap.size, 0, none⟩)) (by kernel_rfl) (fun _ => ex_field (u := .pointer (some ⟨w2.heap.size, 0, none⟩)) rfl (by kernel_rfl) (by kernel_rfl)) (zi 139 (.int .i64 (rd_T64 l2 (wrap64 (y - 1))).f0) (by kernel_rfl) (fun w_ hC_ => ex_load (ad := ⟨w2.heap.size, 0, none⟩) rfl (by kernel_rfl) (ld_2 (hC_.c 0 0 (by kernel_rfl) (by kernel_rfl)))) (zv 140 (.pointer (some ⟨wr.heap.size, 0, none⟩)) (by kernel_rfl) (fun _ => ex_field (u := .pointer (some ⟨wr.heap.size, 0, none⟩)) rfl (by kernel_rfl) (by kernel_rfl)) ?_))))))))
                  with_reducible refine zi 141 (.int .i64 (rd_T64 l2 y).f0) (by kernel_rfl) (fun w_ hC_ => ex_load (ad := ⟨wr.heap.size, 0, none⟩) rfl (by kernel_rfl) (ld_2 (hC_.c 1 0 (by kernel_rfl) (by kernel_rfl)))) (zb 142 (((rd_T64 l2 (wrap64 (y - 1))).f0 == (rd_T64 l2 y).f0)) false (by kernel_rfl) (fun _ => ex_eql (by kernel_rfl) (by kernel_rfl) rfl) (eo2) (zm 143 (.bool false) (by kernel_rfl) (by kernel_rfl) (zs 144 (by kernel_rfl) (zs 145 (by kernel_rfl) (zs 146 (by kernel_rfl) (zs 147 (by kernel_rfl) (zs 148 (by kernel_rfl) (zm 149 (.bool false) (by kernel_rfl) (by kernel_rfl) ?_))))))))
                  with_reducible refine zm 150 (.bool false) (by kernel_rfl) (by kernel_rfl) ?_
                  refine z_end ?_
                  intro wq hC_
                  simp only [putL, Act.put, List.setIfInBounds_toArray, List.set_cons_zero, List.set_cons_succ]
                  go_upto_region 19 with (fail)
                  refine zl_start 191 (CH w _) hC_ ?_
                  clear hC_
                  with_reducible refine zm 151 (.map (some gm)) (by kernel_rfl) (by kernel_rfl) (zv 152 (.pointer (some ⟨wr.heap.size, 0, none⟩)) (by kernel_rfl) (fun _ => ex_field (u := .pointer (some ⟨wr.heap.size, 0, none⟩)) rfl (by kernel_rfl) (by kernel_rfl)) (zi 153 (.int .i64 (rd_T64 l2 y).f0) (by kernel_rfl) (fun w_ hC_ => ex_load (ad := ⟨wr.heap.size, 0, none⟩) rfl (by kernel_rfl) (ld_2 (hC_.c 1 0 (by kernel_rfl) (by kernel_rfl)))) (zi 154 (.bool true) (by kernel_rfl) (fun w_ hC_ => ex_look (u := .map (some gm)) (u' := .int .i64 (rd_T64 l2 y).f0) rfl (by kernel_rfl) (by kernel_rfl) ((SL.out.look (hC_.at 3 (by kernel_rfl)) _ WP.out.1).trans (by rw [eL]))) (zm 155 (.bool false) (by kernel_rfl) (by kernel_rfl) (zm 156 (.bool false) (by kernel_rfl) (by kernel_rfl) (zm 157 (.map (some gm)) (by kernel_rfl) (by kernel_rfl) (zv 158 (.pointer (some ⟨wr.heap.size, 1, none⟩)) (by kernel_rfl) (fun _ => ex_field (u := .pointer (some ⟨wr.heap.size, 0, none⟩)) rfl (by kernel_rfl) (by kernel_rfl)) (zi 159 (.int .i64 (rd_T64 l2 y).f1) (by kernel_rfl) (fun w_ hC_ => ex_load (ad := ⟨wr.heap.size, 1, none⟩) rfl (by kernel_rfl) (ld_2 (hC_.c 1 1 (by kernel_rfl) (by kernel_rfl)))) ?_))))))))
                  with_reducible refine zi 160 (.bool true) (by kernel_rfl) (fun w_ hC_ => ex_look (u := .map (some gm)) (u' := .int .i64 (rd_T64 l2 y).f1) rfl (by kernel_rfl) (by kernel_rfl) ((SL.out.look (hC_.at 3 (by kernel_rfl)) _ WP.out.2.1).trans (by rw [eR]))) (zm 161 (.bool false) (by kernel_rfl) (by kernel_rfl) (zm 162 (.bool false) (by kernel_rfl) (by kernel_rfl) (zm 163 (.bool false) (by kernel_rfl) (by kernel_rfl) (zv 164 (.pointer (some ⟨wr.heap.size, 2, none⟩)) (by kernel_rfl) (fun _ => ex_field (u := .pointer (some ⟨wr.heap.size, 0, none⟩)) rfl (by kernel_rfl) (by kernel_rfl)) (zi 165 (.int .i64 (rd_T64 l2 y).f2) (by kernel_rfl) (fun w_ hC_ => ex_load (ad := ⟨wr.heap.size, 2, none⟩) rfl (by kernel_rfl) (ld_2 (hC_.c 1 2 (by kernel_rfl) (by kernel_rfl)))) (zb 166 (((rd_T64 l2 y).f2 != (-1))) true (by kernel_rfl) (fun _ => ex_neq (by kernel_rfl) (by kernel_rfl) rfl) (e4) (zm 167 (.bool true) (by kernel_rfl) (by kernel_rfl) (zm 168 (.map (some gm)) (by kernel_rfl) (by kernel_rfl) ?_))))))))
                  with_reducible refine zv 169 (.pointer (some ⟨wr.heap.size, 2, none⟩)) (by kernel_rfl) (fun _ => ex_field (u := .pointer (some ⟨wr.heap.size, 0, none⟩)) rfl (by kernel_rfl) (by kernel_rfl)) (zi 170 (.int .i64 (rd_T64 l2 y).f2) (by kernel_rfl) (fun w_ hC_ => ex_load (ad := ⟨wr.heap.size, 2, none⟩) rfl (by kernel_rfl) (ld_2 (hC_.c 1 2 (by kernel_rfl) (by kernel_rfl)))) (zi 171 (.bool true) (by kernel_rfl) (fun w_ hC_ => ex_look (u := .map (some gm)) (u' := .int .i64 (rd_T64 l2 y).f2) rfl (by kernel_rfl) (by kernel_rfl) ((SL.out.look (hC_.at 3 (by kernel_rfl)) _ WP.out.2.2).trans (by rw [e8]))) (zm 172 (.bool false) (by kernel_rfl) (by kernel_rfl) (zm 173 (.bool false) (by kernel_rfl) (by kernel_rfl) (zv 174 (.pointer (some ⟨wr.heap.size, 3, none⟩)) (by kernel_rfl) (fun _ => ex_field (u := .pointer (some ⟨wr.heap.size, 0, none⟩)) rfl (by kernel_rfl) (by kernel_rfl)) (zi 175 (.int .i64 (rd_T64 l2 y).f3) (by kernel_rfl) (fun w_ hC_ => ex_load (ad := ⟨wr.heap.size, 3, none⟩) rfl (by kernel_rfl) (ld_2 (hC_.c 1 3 (by kernel_rfl) (by kernel_rfl)))) (zb 176 (((rd_T64 l2 y).f3 != 0)) true (by kernel_rfl) (fun _ => ex_neq (by kernel_rfl) (by kernel_rfl) rfl) (e7) (zm 177 (.bool true) (by kernel_rfl) (by kernel_rfl) ?_))))))))
                  with_reducible refine zm 178 (.bool true) (by kernel_rfl) (by kernel_rfl) (zm 179 (.bool true) (by kernel_rfl) (by kernel_rfl) (zm 180 (.bool true) (by kernel_rfl) (by kernel_rfl) (zs 181 (by kernel_rfl) (zs 182 (by kernel_rfl) (zs 183 (by kernel_rfl) (zm 184 (.bool true) (by kernel_rfl) (by kernel_rfl) (zm 185 (.bool true) (by kernel_rfl) (by kernel_rfl) (zs 186 (by kernel_rfl) ?_))))))))
                  with_reducible refine zs 187 (by kernel_rfl) (zs 188 (by kernel_rfl) (zm 189 (.bool true) (by kernel_rfl) (by kernel_rfl) ?_))
                  refine z_end ?_
                  intro wq hC_
                  have HCH := Aside0.mk hC_
                  clear hC_
                  simp only [putL, Act.put, List.setIfInBounds_toArray, List.set_cons_zero, List.set_cons_succ]
                  go_wp2
                  go_ret
                  exact ⟨by rw [R.out]; rfl, HCH.out.below⟩
                have e7 : ((rd_T64 l2 y).f3 != 0) = false := bne_eq_false_iff_eq.mpr q7
                have e5 : decide ((rd_T64 l2 y).f3 < -6553600) = false := by rw [q7]; rfl
                have e6 : decide (6553600 < (rd_T64 l2 y).f3) = false := by rw [q7]; rfl
                have GB : pB l1 l2 y = true := by unfold pB; rw [h1, q2, q3, if_neg q4, decide_eq_true q7, q8]; rfl
                have GD : Aside0 (∀ m : Nat, (m : Int) < y + 1 → pB l1 l2 (m : Int) = true) := ⟨all_step HY.out.2.2 GB⟩
                have XW : Aside0 (wrap64 (y + 1) = y + 1) := ⟨win _ (by omega) (by have := HM.out.2; omega)⟩
                have XLA := Aside0.mk yl
                clear gone y0 yl yp q1 o1 o2 h1 q2 q3 q4 q8 q7 GB
                cases gk with
                | zero => exact absurd XLA.out (by have := HF.out; omega)
                | succ k1 =>
                  go_upto_region 15 with (fail)
                  have hc1 := CH.alloc (.cells #[.int .i64 (rd_T64 l2 y).f0, .int .i64 (rd_T64 l2 y).f1, .int .i64 (rd_T64 l2 y).f2, .int .i64 (rd_T64 l2 y).f3] 64) (CH.cons BF.out (CH.cons BM.out (CH.nil HB.out)))
                  generalize World.alloc wr _ = w2 at hc1 ⊢
                  have z2_0 := hc1.old Z2_0.out
                  have z2_1 := hc1.old Z2_1.out
                  have z2_2 := hc1.old Z2_2.out
                  have z2_3 := hc1.old Z2_3.out
                  obtain ⟨hz0, hz1, hz2, hz3, hz4, hz5, hz6, hz7, hz8, hz9⟩ := ten_ (hc1.at 1 rfl)
                  have HC_ := Aside0.mk hc1
                  clear hc1
                  go_upto_region 17 with (fail)
                  refine zl_start 191 (CH w _) (CH.alloc (.cells #[.int .i64 (rd_T64 l2 (wrap64 (y - 1))).f0, .int .i64 (rd_T64 l2 (wrap64 (y - 1))).f1, .int .i64 (rd_T64 l2 (wrap64 (y - 1))).f2, .int .i64 (rd_T64 l2 (wrap64 (y - 1))).f3] 64) HC_.out) ?_
                  with_reducible refine zv 132 (.pointer (some ⟨w2.heap.size, 0, none⟩)) (by kernel_rfl) (fun _ => ex_field (u := .pointer (some ⟨w2.heap.size, 0, none⟩)) rfl (by kernel_rfl) (by kernel_rfl)) (zi 133 (.int .i64 (rd_T64 l2 (wrap64 (y - 1))).f0) (by kernel_rfl) (fun w_ hC_ => ex_load (ad := ⟨w2.heap.size, 0, none⟩) rfl (by kernel_rfl) (ld_2 (hC_.c 0 0 (by kernel_rfl) (by kernel_rfl)))) (zv 134 (.pointer (some ⟨wr.heap.size, 0, none⟩)) (by kernel_rfl) (fun _ => ex_field (u := .pointer (some ⟨wr.heap.size, 0, none⟩)) rfl (by kernel_rfl) (by kernel_rfl)) (zi 135 (.int .i64 (rd_T64 l2 y).f0) (by kernel_rfl) (fun w_ hC_ => ex_load (ad := ⟨wr.heap.size, 0, none⟩) rfl (by kernel_rfl) (ld_2 (hC_.c 1 0 (by kernel_rfl) (by kernel_rfl)))) (zb 136 (decide ((rd_T64 l2 y).f0 < (rd_T64 l2 (wrap64 (y - 1))).f0)) false (by kernel_rfl) (fun _ => ex_gtr (by kernel_rfl) (by kernel_rfl) rfl) (eo1) (zm 137 (.bool false) (by kernel_rfl) (by kernel_rfl) (zv 138 (.pointer (some ⟨w2.heap.size, 0, none⟩)) (by kernel_rfl) (fun _ => ex_field (u := .pointer (some ⟨w2.heap.size, 0, none⟩)) rfl (by kernel_rfl) (by kernel_rfl)) (zi 139 (.int .i64 (rd_T64 l2 (wrap64 (y - 1))).f0) (by kernel_rfl) (fun w_ hC_ => ex_load (ad := ⟨w2.heap.size, 0, none⟩) rfl (by kernel_rfl) (ld_2 (hC_.c 0 0 (by kernel_rfl) (by kernel_rfl)))) (zv 140 (.pointer (some ⟨wr.heap.size, 0, none⟩)) (by kernel_rfl) (fun _ => ex_field (u := .pointer (some ⟨wr.heap.size, 0, none⟩)) rfl (by kernel_rfl) (by kernel_rfl)) ?_))))))))
                  with_reducible refine zi 141 (.int .i64 (rd_T64 l2 y).f0) (by kernel_rfl) (fun w_ hC_ => ex_load (ad := ⟨wr.heap.size, 0, none⟩) rfl (by kernel_rfl) (ld_2 (hC_.c 1 0 (by kernel_rfl) (by kernel_rfl)))) (zb 142 (((rd_T64 l2 (wrap64 (y - 1))).f0 == (rd_T64 l2 y).f0)) false (by kernel_rfl) (fun _ => ex_eql (by kernel_rfl) (by kernel_rfl) rfl) (eo2) (zm 143 (.bool false) (by kernel_rfl) (by kernel_rfl) (zs 144 (by kernel_rfl) (zs 145 (by kernel_rfl) (zs 146 (by kernel_rfl) (zs 147 (by kernel_rfl) (zs 148 (by kernel_rfl) (zm 149 (.bool false) (by kernel_rfl) (by kernel_rfl) ?_))))))))
                  with_reducible refine zm 150 (.bool false) (by kernel_rfl) (by kernel_rfl) ?_
                  refine z_end ?_
                  intro wq hC_
                  simp only [putL, Act.put, List.setIfInBounds_toArray, List.set_cons_zero, List.set_cons_succ]
                  go_upto_region 19 with (fail)
                  refine zl_start 191 (CH w _) hC_ ?_
                  clear hC_
                  with_reducible refine zm 151 (.map (some gm)) (by kernel_rfl) (by kernel_rfl) (zv 152 (.pointer (some ⟨wr.heap.size, 0, none⟩)) (by kernel_rfl) (fun _ => ex_field (u := .pointer (some ⟨wr.heap.size, 0, none⟩)) rfl (by kernel_rfl) (by kernel_rfl)) (zi 153 (.int .i64 (rd_T64 l2 y).f0) (by kernel_rfl) (fun w_ hC_ => ex_load (ad := ⟨wr.heap.size, 0, none⟩) rfl (by kernel_rfl) (ld_2 (hC_.c 1 0 (by kernel_rfl) (by kernel_rfl)))) (zi 154 (.bool true) (by kernel_rfl) (fun w_ hC_ => ex_look (u := .map (some gm)) (u' := .int .i64 (rd_T64 l2 y).f0) rfl (by kernel_rfl) (by kernel_rfl) ((SL.out.look (hC_.at 3 (by kernel_rfl)) _ WP.out.1).trans (by rw [eL]))) (zm 155 (.bool false) (by kernel_rfl) (by kernel_rfl) (zm 156 (.bool false) (by kernel_rfl) (by kernel_rfl) (zm 157 (.map (some gm)) (by kernel_rfl) (by kernel_rfl) (zv 158 (.pointer (some ⟨wr.heap.size, 1, none⟩)) (by kernel_rfl) (fun _ => ex_field (u := .pointer (some ⟨wr.heap.size, 0, none⟩)) rfl (by kernel_rfl) (by kernel_rfl)) (zi 159 (.int .i64 (rd_T64 l2 y).f1) (by kernel_rfl) (fun w_ hC_ => ex_load (ad := ⟨wr.heap.size, 1, none⟩) rfl (by kernel_rfl) (ld_2 (hC_.c 1 1 (by kernel_rfl) (by kernel_rfl)))) ?_))))))))
                  with_reducible refine zi 160 (.bool true) (by kernel_rfl) (fun w_ hC_ => ex_look (u := .map (some gm)) (u' := .int .i64 (rd_T64 l2 y).f1) rfl (by kernel_rfl) (by kernel_rfl) ((SL.out.look (hC_.at 3 (by kernel_rfl)) _ WP.out.2.1).trans (by rw [eR]))) (zm 161 (.bool false) (by kernel_rfl) (by kernel_rfl) (zm 162 (.bool false) (by kernel_rfl) (by kernel_rfl) (zm 163 (.bool false) (by kernel_rfl) (by kernel_rfl) (zv 164 (.pointer (some ⟨wr.heap.size, 2, none⟩)) (by kernel_rfl) (fun _ => ex_field (u := .pointer (some ⟨wr.heap.size, 0, none⟩)) rfl (by kernel_rfl) (by kernel_rfl)) (zi 165 (.int .i64 (rd_T64 l2 y).f2) (by kernel_rfl) (fun w_ hC_ => ex_load (ad := ⟨wr.heap.size, 2, none⟩) rfl (by kernel_rfl) (ld_2 (hC_.c 1 2 (by kernel_rfl) (by kernel_rfl)))) (zb 166 (((rd_T64 l2 y).f2 != (-1))) true (by kernel_rfl) (fun _ => ex_neq (by kernel_rfl) (by kernel_rfl) rfl) (e4) (zm 167 (.bool true) (by kernel_rfl) (by kernel_rfl) (zm 168 (.map (some gm)) (by kernel_rfl) (by kernel_rfl) ?_))))))))
                  with_reducible refine zv 169 (.pointer (some ⟨wr.heap.size, 2, none⟩)) (by kernel_rfl) (fun _ => ex_field (u := .pointer (some ⟨wr.heap.size, 0, none⟩)) rfl (by kernel_rfl) (by kernel_rfl)) (zi 170 (.int .i64 (rd_T64 l2 y).f2) (by kernel_rfl) (fun w_ hC_ => ex_load (ad := ⟨wr.heap.size, 2, none⟩) rfl (by kernel_rfl) (ld_2 (hC_.c 1 2 (by kernel_rfl) (by kernel_rfl)))) (zi 171 (.bool true) (by kernel_rfl) (fun w_ hC_ => ex_look (u := .map (some gm)) (u' := .int .i64 (rd_T64 l2 y).f2) rfl (by kernel_rfl) (by kernel_rfl) ((SL.out.look (hC_.at 3 (by kernel_rfl)) _ WP.out.2.2).trans (by rw [e8]))) (zm 172 (.bool false) (by kernel_rfl) (by kernel_rfl) (zm 173 (.bool false) (by kernel_rfl) (by kernel_rfl) (zv 174 (.pointer (some ⟨wr.heap.size, 3, none⟩)) (by kernel_rfl) (fun _ => ex_field (u := .pointer (some ⟨wr.heap.size, 0, none⟩)) rfl (by kernel_rfl) (by kernel_rfl)) (zi 175 (.int .i64 (rd_T64 l2 y).f3) (by kernel_rfl) (fun w_ hC_ => ex_load (ad := ⟨wr.heap.size, 3, none⟩) rfl (by kernel_rfl) (ld_2 (hC_.c 1 3 (by kernel_rfl) (by kernel_rfl)))) (zb 176 (((rd_T64 l2 y).f3 != 0)) false (by kernel_rfl) (fun _ => ex_neq (by kernel_rfl) (by kernel_rfl) rfl) (e7) (zm 177 (.bool false) (by kernel_rfl) (by kernel_rfl) ?_))))))))
                  with_reducible refine zm 178 (.bool false) (by kernel_rfl) (by kernel_rfl) (zm 179 (.bool false) (by kernel_rfl) (by kernel_rfl) (zm 180 (.bool false) (by kernel_rfl) (by kernel_rfl) (zv 181 (.pointer (some ⟨wr.heap.size, 3, none⟩)) (by kernel_rfl) (fun _ => ex_field (u := .pointer (some ⟨wr.heap.size, 0, none⟩)) rfl (by kernel_rfl) (by kernel_rfl)) (zi 182 (.int .i64 (rd_T64 l2 y).f3) (by kernel_rfl) (fun w_ hC_ => ex_load (ad := ⟨wr.heap.size, 3, none⟩) rfl (by kernel_rfl) (ld_2 (hC_.c 1 3 (by kernel_rfl) (by kernel_rfl)))) (zb 183 (decide ((rd_T64 l2 y).f3 < (-6553600))) false (by kernel_rfl) (fun _ => ex_lss (by kernel_rfl) (by kernel_rfl) rfl) (e5) (zm 184 (.bool false) (by kernel_rfl) (by kernel_rfl) (zm 185 (.bool false) (by kernel_rfl) (by kernel_rfl) (zv 186 (.pointer (some ⟨wr.heap.size, 3, none⟩)) (by kernel_rfl) (fun _ => ex_field (u := .pointer (some ⟨wr.heap.size, 0, none⟩)) rfl (by kernel_rfl) (by kernel_rfl)) ?_))))))))
                  with_reducible refine zi 187 (.int .i64 (rd_T64 l2 y).f3) (by kernel_rfl) (fun w_ hC_ => ex_load (ad := ⟨wr.heap.size, 3, none⟩) rfl (by kernel_rfl) (ld_2 (hC_.c 1 3 (by kernel_rfl) (by kernel_rfl)))) (zb 188 (decide (6553600 < (rd_T64 l2 y).f3)) false (by kernel_rfl) (fun _ => ex_gtr (by kernel_rfl) (by kernel_rfl) rfl) (e6) (zm 189 (.bool false) (by kernel_rfl) (by kernel_rfl) ?_))
                  refine z_end ?_
                  intro wq hC_
                  have HCH := Aside0.mk hC_
                  clear hC_
                  simp only [putL, Act.put, List.setIfInBounds_toArray, List.set_cons_zero, List.set_cons_succ]
                  go_wp2
                  go_roundg k1
                  case measure => omega
                  case rel => exact ⟨wrap64 (y + 1), (by first | rfl | (simp; done) | (simp [*]; done)), ⟨by rw [XW.out]; have := HF.out; omega⟩, ⟨⟨by rw [XW.out]; have := HY.out.1; omega, by rw [XW.out]; have := XLA.out; omega, by rw [XW.out]; exact GD.out⟩⟩, ⟨HCH.out.at 2 rfl⟩, ⟨HCH.out.at 3 rfl⟩, ⟨HCH.out.below⟩⟩
            case pos =>
              have eo2 : ((rd_T64 l2 (wrap64 (y - 1))).f0 == (rd_T64 l2 y).f0) = true := beq_iff_eq.mpr o2
              by_cases o3 : (rd_T64 l2 (wrap64 (y - 1))).f1 < (rd_T64 l2 y).f1
              case neg =>
                have eo3 : decide ((rd_T64 l2 y).f1 ≤ (rd_T64 l2 (wrap64 (y - 1))).f1) = true := decide_eq_true (by omega)
                have q1 : lessB (rd_T64 l2 (wrap64 (y - 1))) (rd_T64 l2 y) = false := by unfold lessB; rw [decide_eq_false (by omega : ¬ (rd_T64 l2 (wrap64 (y - 1))).f0 < (rd_T64 l2 y).f0), decide_eq_false o3]; simp
                have R := Aside0.mk (gone (by unfold pB; rw [q1, decide_eq_false (fun hn : ¬ 0 < y => hn yp)]; simp))
                clear gone y0 yl yp q1 o1 o2 o3
                go_upto_region 15 with (fail)
                have hc1 := CH.alloc (.cells #[.int .i64 (rd_T64 l2 y).f0, .int .i64 (rd_T64 l2 y).f1, .int .i64 (rd_T64 l2 y).f2, .int .i64 (rd_T64 l2 y).f3] 64) (CH.cons BF.out (CH.cons BM.out (CH.nil HB.out)))
                generalize World.alloc wr _ = w2 at hc1 ⊢
                have z2_0 := hc1.old Z2_0.out
                have z2_1 := hc1.old Z2_1.out
                have z2_2 := hc1.old Z2_2.out
                have z2_3 := hc1.old Z2_3.out
                obtain ⟨hz0, hz1, hz2, hz3, hz4, hz5, hz6, hz7, hz8, hz9⟩ := ten_ (hc1.at 1 rfl)
                have HC_ := Aside0.mk hc1
                clear hc1
                go_upto_region 17 with (fail)
                refine zl_start 191 (CH w _) (CH.alloc (.cells #[.int .i64 (rd_T64 l2 (wrap64 (y - 1))).f0, .int .i64 (rd_T64 l2 (wrap64 (y - 1))).f1, .int .i64 (rd_T64 l2 (wrap64 (y - 1))).f2, .int .i64 (rd_T64 l2 (wrap64 (y - 1))).f3] 64) HC_.out) ?_
                with_reducible refine zv 132 (.pointer (some ⟨w2.heap.size, 0, none⟩)) (by kernel_rfl) (fun _ => ex_field (u := .pointer (some ⟨w2.heap.size, 0, none⟩)) rfl (by kernel_rfl) (by kernel_rfl)) (zi 133 (.int .i64 (rd_T64 l2 (wrap64 (y - 1))).f0) (by kernel_rfl) (fun w_ hC_ => ex_load (ad := ⟨w2.heap.size, 0, none⟩) rfl (by kernel_rfl) (ld_2 (hC_.c 0 0 (by kernel_rfl) (by kernel_rfl)))) (zv 134 (.pointer (some ⟨wr.heap.size, 0, none⟩)) (by kernel_rfl) (fun _ => ex_field (u := .pointer (some ⟨wr.heap.size, 0, none⟩)) rfl (by kernel_rfl) (by kernel_rfl)) (zi 135 (.int .i64 (rd_T64 l2 y).f0) (by kernel_rfl) (fun w_ hC_ => ex_load (ad := ⟨wr.heap.size, 0, none⟩) rfl (by kernel_rfl) (ld_2 (hC_.c 1 0 (by kernel_rfl) (by kernel_rfl)))) (zb 136 (decide ((rd_T64 l2 y).f0 < (rd_T64 l2 (wrap64 (y - 1))).f0)) false (by kernel_rfl) (fun _ => ex_gtr (by kernel_rfl) (by kernel_rfl) rfl) (eo1) (zm 137 (.bool false) (by kernel_rfl) (by kernel_rfl) (zv 138 (.pointer (some ⟨w2.heap.size, 0, none⟩)) (by kernel_rfl) (fun _ => ex_field (u := .pointer (some ⟨w2.heap.size, 0, none⟩)) rfl (by kernel_rfl) (by kernel_rfl)) (zi 139 (.int .i64 (rd_T64 l2 (wrap64 (y - 1))).f0) (by kernel_rfl) (fun w_ hC_ => ex_load (ad := ⟨w2.heap.size, 0, none⟩) rfl (by kernel_rfl) (ld_2 (hC_.c 0 0 (by kernel_rfl) (by kernel_rfl)))) (zv 140 (.pointer (some ⟨wr.heap.size, 0, none⟩)) (by kernel_rfl) (fun _ => ex_field (u := .pointer (some ⟨wr.heap.size, 0, none⟩)) rfl (by kernel_rfl) (by kernel_rfl)) ?_))))))))
                with_reducible refine zi 141 (.int .i64 (rd_T64 l2 y).f0) (by kernel_rfl) (fun w_ hC_ => ex_load (ad := ⟨wr.heap.size, 0, none⟩) rfl (by kernel_rfl) (ld_2 (hC_.c 1 0 (by kernel_rfl) (by kernel_rfl)))) (zb 142 (((rd_T64 l2 (wrap64 (y - 1))).f0 == (rd_T64 l2 y).f0)) true (by kernel_rfl) (fun _ => ex_eql (by kernel_rfl) (by kernel_rfl) rfl) (eo2) (zm 143 (.bool true) (by kernel_rfl) (by kernel_rfl) (zv 144 (.pointer (some ⟨w2.heap.size, 1, none⟩)) (by kernel_rfl) (fun _ => ex_field (u := .pointer (some ⟨w2.heap.size, 0, none⟩)) rfl (by kernel_rfl) (by kernel_rfl)) (zi 145 (.int .i64 (rd_T64 l2 (wrap64 (y - 1))).f1) (by kernel_rfl) (fun w_ hC_ => ex_load (ad := ⟨w2.heap.size, 1, none⟩) rfl (by kernel_rfl) (ld_2 (hC_.c 0 1 (by kernel_rfl) (by kernel_rfl)))) (zv 146 (.pointer (some ⟨wr.heap.size, 1, none⟩)) (by kernel_rfl) (fun _ => ex_field (u := .pointer (some ⟨wr.heap.size, 0, none⟩)) rfl (by kernel_rfl) (by kernel_rfl)) (zi 147 (.int .i64 (rd_T64 l2 y).f1) (by kernel_rfl) (fun w_ hC_ => ex_load (ad := ⟨wr.heap.size, 1, none⟩) rfl (by kernel_rfl) (ld_2 (hC_.c 1 1 (by kernel_rfl) (by kernel_rfl)))) (zb 148 (decide ((rd_T64 l2 y).f1 ≤ (rd_T64 l2 (wrap64 (y - 1))).f1)) true (by kernel_rfl) (fun _ => ex_geq (by kernel_rfl) (by kernel_rfl) rfl) (eo3) (zm 149 (.bool true) (by kernel_rfl) (by kernel_rfl) ?_))))))))
                with_reducible refine zm 150 (.bool true) (by kernel_rfl) (by kernel_rfl) ?_
                refine z_end ?_
                intro wq hC_
                simp only [putL, Act.put, List.setIfInBounds_toArray, List.set_cons_zero, List.set_cons_succ]
                have HCH := Aside0.mk hC_
                go_wp2
                go_ret
                exact ⟨by rw [R.out]; rfl, HCH.out.below⟩
              have eo3 : decide ((rd_T64 l2 y).f1 ≤ (rd_T64 l2 (wrap64 (y - 1))).f1) = false := decide_eq_false (by omega)
              have q1 : lessB (rd_T64 l2 (wrap64 (y - 1))) (rd_T64 l2 y) = true := by unfold lessB; rw [decide_eq_true o2, decide_eq_true o3]; simp
              have h1 : (decide (¬ 0 < y) || lessB (rd_T64 l2 (wrap64 (y - 1))) (rd_T64 l2 y)) = true := by rw [q1]; simp
              by_cases q2 : hasB l1 (rd_T64 l2 y).f0 = true
              case neg =>
                have q2' : hasB l1 (rd_T64 l2 y).f0 = false := by simpa using q2
                have eL := q2'
                have R := Aside0.mk (gone (by unfold pB; rw [h1, q2']; rfl))
                clear gone y0 yl yp q1 o1 o2 o3 h1 q2
                go_upto_region 15 with (fail)
                have hc1 := CH.alloc (.cells #[.int .i64 (rd_T64 l2 y).f0, .int .i64 (rd_T64 l2 y).f1, .int .i64 (rd_T64 l2 y).f2, .int .i64 (rd_T64 l2 y).f3] 64) (CH.cons BF.out (CH.cons BM.out (CH.nil HB.out)))
                generalize World.alloc wr _ = w2 at hc1 ⊢
                have z2_0 := hc1.old Z2_0.out
                have z2_1 := hc1.old Z2_1.out
                have z2_2 := hc1.old Z2_2.out
                have z2_3 := hc1.old Z2_3.out
                obtain ⟨hz0, hz1, hz2, hz3, hz4, hz5, hz6, hz7, hz8, hz9⟩ := ten_ (hc1.at 1 rfl)
                have HC_ := Aside0.mk hc1
                clear hc1
                go_upto_region 17 with (fail)
                refine zl_start 191 (CH w _) (CH.alloc (.cells #[.int .i64 (rd_T64 l2 (wrap64 (y - 1))).f0, .int .i64 (rd_T64 l2 (wrap64 (y - 1))).f1, .int .i64 (rd_T64 l2 (wrap64 (y - 1))).f2, .int .i64 (rd_T64 l2 (wrap64 (y - 1))).f3] 64) HC_.out) ?_
                with_reducible refine zv 132 (.pointer (some ⟨w2.heap.size, 0, none⟩)) (by kernel_rfl) (fun _ => ex_field (u := .pointer (some ⟨w2.heap.size, 0, none⟩)) rfl (by kernel_rfl) (by kernel_rfl)) (zi 133 (.int .i64 (rd_T64 l2 (wrap64 (y - 1))).f0) (by kernel_rfl) (fun w_ hC_ => ex_load (ad := ⟨w2.heap.size, 0, none⟩) rfl (by kernel_rfl) (ld_2 (hC_.c 0 0 (by kernel_rfl) (by kernel_rfl)))) (zv 134 (.pointer (some ⟨wr.heap.size, 0, none⟩)) (by kernel_rfl) (fun _ => ex_field (u := .pointer (some ⟨wr.heap.size, 0, none⟩)) rfl (by kernel_rfl) (by kernel_rfl)) (zi 135 (.int .i64 (rd_T64 l2 y).f0) (by kernel_rfl) (fun w_ hC_ => ex_load (ad := ⟨wr.heap.size, 0, none⟩) rfl (by kernel_rfl) (ld_2 (hC_.c 1 0 (by kernel_rfl) (by kernel_rfl)))) (zb 136 (decide ((rd_T64 l2 y).f0 < (rd_T64 l2 (wrap64 (y - 1))).f0)) false (by kernel_rfl) (fun _ => ex_gtr (by kernel_rfl) (by kernel_rfl) rfl) (eo1) (zm 137 (.bool false) (by kernel_rfl) (by kernel_rfl) (zv 138 (.pointer (some ⟨w2.heap.size, 0, none⟩)) (by kernel_rfl) (fun _ => ex_field (u := .pointer (some ⟨w2.heap.size, 0, none⟩)) rfl (by kernel_rfl) (by kernel_rfl)) (zi 139 (.int .i64 (rd_T64 l2 (wrap64 (y - 1))).f0) (by kernel_rfl) (fun w_ hC_ => ex_load (ad := ⟨w2.heap.size, 0, none⟩) rfl (by kernel_rfl) (ld_2 (hC_.c 0 0 (by kernel_rfl) (by kernel_rfl)))) (zv 140 (.pointer (some ⟨wr.heap.size, 0, none⟩)) (by kernel_rfl) (fun _ => ex_field (u := .pointer (some ⟨wr.heap.size, 0, none⟩)) rfl (by kernel_rfl) (by kernel_rfl)) ?_))))))))
                with_reducible refine zi 141 (.int .i64 (rd_T64 l2 y).f0) (by kernel_rfl) (fun w_ hC_ => ex_load (ad := ⟨wr.heap.size, 0, none⟩) rfl (by kernel_rfl) (ld_2 (hC_.c 1 0 (by kernel_rfl) (by kernel_rfl)))) (zb 142 (((rd_T64 l2 (wrap64 (y - 1))).f0 == (rd_T64 l2 y).f0)) true (by kernel_rfl) (fun _ => ex_eql (by kernel_rfl) (by kernel_rfl) rfl) (eo2) (zm 143 (.bool true) (by kernel_rfl) (by kernel_rfl) (zv 144 (.pointer (some ⟨w2.heap.size, 1, none⟩)) (by kernel_rfl) (fun _ => ex_field (u := .pointer (some ⟨w2.heap.size, 0, none⟩)) rfl (by kernel_rfl) (by kernel_rfl)) (zi 145 (.int .i64 (rd_T64 l2 (wrap64 (y - 1))).f1) (by kernel_rfl) (fun w_ hC_ => ex_load (ad := ⟨w2.heap.size, 1, none⟩) rfl (by kernel_rfl) (ld_2 (hC_.c 0 1 (by kernel_rfl) (by kernel_rfl)))) (zv 146 (.pointer (some ⟨wr.heap.size, 1, none⟩)) (by kernel_rfl) (fun _ => ex_field (u := .pointer (some ⟨wr.heap.size, 0, none⟩)) rfl (by kernel_rfl) (by kernel_rfl)) (zi 147 (.int .i64 (rd_T64 l2 y).f1) (by kernel_rfl) (fun w_ hC_ => ex_load (ad := ⟨wr.heap.size, 1, none⟩) rfl (by kernel_rfl) (ld_2 (hC_.c 1 1 (by kernel_rfl) (by kernel_rfl)))) (zb 148 (decide ((rd_T64 l2 y).f1 ≤ (rd_T64 l2 (wrap64 (y - 1))).f1)) false (by kernel_rfl) (fun _ => ex_geq (by kernel_rfl) (by kernel_rfl) rfl) (eo3) (zm 149 (.bool false) (by kernel_rfl) (by kernel_rfl) ?_))))))))
                with_reducible refine zm 150 (.bool false) (by kernel_rfl) (by kernel_rfl) ?_
                refine z_end ?_
                intro wq hC_
                simp only [putL, Act.put, List.setIfInBounds_toArray, List.set_cons_zero, List.set_cons_succ]
                go_upto_region 19 with (fail)
                refine zl_start 191 (CH w _) hC_ ?_
                clear hC_
                with_reducible refine zm 151 (.map (some gm)) (by kernel_rfl) (by kernel_rfl) (zv 152 (.pointer (some ⟨wr.heap.size, 0, none⟩)) (by kernel_rfl) (fun _ => ex_field (u := .pointer (some ⟨wr.heap.size, 0, none⟩)) rfl (by kernel_rfl) (by kernel_rfl)) (zi 153 (.int .i64 (rd_T64 l2 y).f0) (by kernel_rfl) (fun w_ hC_ => ex_load (ad := ⟨wr.heap.size, 0, none⟩) rfl (by kernel_rfl) (ld_2 (hC_.c 1 0 (by kernel_rfl) (by kernel_rfl)))) (zi 154 (.bool false) (by kernel_rfl) (fun w_ hC_ => ex_look (u := .map (some gm)) (u' := .int .i64 (rd_T64 l2 y).f0) rfl (by kernel_rfl) (by kernel_rfl) ((SL.out.look (hC_.at 3 (by kernel_rfl)) _ WP.out.1).trans (by rw [eL]))) (zm 155 (.bool true) (by kernel_rfl) (by kernel_rfl) (zm 156 (.bool true) (by kernel_rfl) (by kernel_rfl) (zs 157 (by kernel_rfl) (zs 158 (by kernel_rfl) (zs 159 (by kernel_rfl) ?_))))))))
                with_reducible refine zs 160 (by kernel_rfl) (zs 161 (by kernel_rfl) (zm 162 (.bool true) (by kernel_rfl) (by kernel_rfl) (zm 163 (.bool true) (by kernel_rfl) (by kernel_rfl) (zs 164 (by kernel_rfl) (zs 165 (by kernel_rfl) (zs 166 (by kernel_rfl) (zs 167 (by kernel_rfl) (zs 168 (by kernel_rfl) ?_))))))))
                with_reducible refine zs 169 (by kernel_rfl) (zs 170 (by kernel_rfl) (zs 171 (by kernel_rfl) (zs 172 (by kernel_rfl) (zs 173 (by kernel_rfl) (zs 174 (by kernel_rfl) (zs 175 (by kernel_rfl) (zs 176 (by kernel_rfl) (zs 177 (by kernel_rfl) ?_))))))))
                with_reducible refine zs 178 (by kernel_rfl) (zm 179 (.bool true) (by kernel_rfl) (by kernel_rfl) (zm 180 (.bool true) (by kernel_rfl) (by kernel_rfl) (zs 181 (by kernel_rfl) (zs 182 (by kernel_rfl) (zs 183 (by kernel_rfl) (zm 184 (.bool true) (by kernel_rfl) (by kernel_rfl) (zm 185 (.bool true) (by kernel_rfl) (by kernel_rfl) (zs 186 (by kernel_rfl) ?_))))))))
                with_reducible refine zs 187 (by kernel_rfl) (zs 188 (by kernel_rfl) (zm 189 (.bool true) (by kernel_rfl) (by kernel_rfl) ?_))
                refine z_end ?_
                intro wq hC_
                have HCH := Aside0.mk hC_
                clear hC_
                simp only [putL, Act.put, List.setIfInBounds_toArray, List.set_cons_zero, List.set_cons_succ]
                go_wp2
                go_ret
                exact ⟨by rw [R.out]; rfl, HCH.out.below⟩
              have eL := q2
              by_cases q3 : hasB l1 (rd_T64 l2 y).f1 = true
              case neg =>
                have q3' : hasB l1 (rd_T64 l2 y).f1 = false := by simpa using q3
                have eR := q3'
                have R := Aside0.mk (gone (by unfold pB; rw [h1, q2, q3']; rfl))
                clear gone y0 yl yp q1 o1 o2 o3 h1 q2 q3
                go_upto_region 15 with (fail)
                have hc1 := CH.alloc (.cells #[.int .i64 (rd_T64 l2 y).f0, .int .i64 (rd_T64 l2 y).f1, .int .i64 (rd_T64 l2 y).f2, .int .i64 (rd_T64 l2 y).f3] 64) (CH.cons BF.out (CH.cons BM.out (CH.nil HB.out)))
                generalize World.alloc wr _ = w2 at hc1 ⊢
                have z2_0 := hc1.old Z2_0.out
                have z2_1 := hc1.old Z2_1.out
                have z2_2 := hc1.old Z2_2.out
                have z2_3 := hc1.old Z2_3.out
                obtain ⟨hz0, hz1, hz2, hz3, hz4, hz5, hz6, hz7, hz8, hz9⟩ := ten_ (hc1.at 1 rfl)
                have HC_ := Aside0.mk hc1
                clear hc1
                go_upto_region 17 with (fail)
                refine zl_start 191 (CH w _) (CH.alloc (.cells #[.int .i64 (rd_T64 l2 (wrap64 (y - 1))).f0, .int .i64 (rd_T64 l2 (wrap64 (y - 1))).f1, .int .i64 (rd_T64 l2 (wrap64 (y - 1))).f2, .int .i64 (rd_T64 l2 (wrap64 (y - 1))).f3] 64) HC_.out) ?_
                with_reducible refine zv 132 (.pointer (some ⟨w2.heap.size, 0, none⟩)) (by kernel_rfl) (fun _ => ex_field (u := .pointer (some ⟨w2.heap.size, 0, none⟩)) rfl (by kernel_rfl) (by kernel_rfl)) (zi 133 (.int .i64 (rd_T64 l2 (wrap64 (y - 1))).f0) (by kernel_rfl) (fun w_ hC_ => ex_load (ad := ⟨w2.heap.size, 0, none⟩) rfl (by kernel_rfl) (ld_2 (hC_.c 0 0 (by kernel_rfl) (by kernel_rfl)))) (zv 134 (.pointer (some ⟨wr.heap.size, 0, none⟩)) (by kernel_rfl) (fun _ => ex_field (u := .pointer (some ⟨wr.heap.size, 0, none⟩)) rfl (by kernel_rfl) (by kernel_rfl)) (zi 135 (.int .i64 (rd_T64 l2 y).f0) (by kernel_rfl) (fun w_ hC_ => ex_load (ad := ⟨wr.heap.size, 0, none⟩) rfl (by kernel_rfl) (ld_2 (hC_.c 1 0 (by kernel_rfl) (by kernel_rfl)))) (zb 136 (decide ((rd_T64 l2 y).f0 < (rd_T64 l2 (wrap64 (y - 1))).f0)) false (by kernel_rfl) (fun _ => ex_gtr (by kernel_rfl) (by kernel_rfl) rfl) (eo1) (zm 137 (.bool false) (by kernel_rfl) (by kernel_rfl) (zv 138 (.pointer (some ⟨w2.heap.size, 0, none⟩)) (by kernel_rfl) (fun _ => ex_field (u := .pointer (some ⟨w2.heap.size, 0, none⟩)) rfl (by kernel_rfl) (by kernel_rfl)) (zi 139 (.int .i64 (rd_T64 l2 (wrap64 (y - 1))).f0) (by kernel_rfl) (fun w_ hC_ => ex_load (ad := ⟨w2.heap.size, 0, none⟩) rfl (by kernel_rfl) (ld_2 (hC_.c 0 0 (by kernel_rfl) (by kernel_rfl)))) (zv 140 (.pointer (some ⟨wr.heap.size, 0, none⟩)) (by kernel_rfl) (fun _ => ex_field (u := .pointer (some ⟨wr.heap.size, 0, none⟩)) rfl (by kernel_rfl) (by kernel_rfl)) ?_))))))))
                with_reducible refine zi 141 (.int .i64 (rd_T64 l2 y).f0) (by kernel_rfl) (fun w_ hC_ => ex_load (ad := ⟨wr.heap.size, 0, none⟩) rfl (by kernel_rfl) (ld_2 (hC_.c 1 0 (by kernel_rfl) (by kernel_rfl)))) (zb 142 (((rd_T64 l2 (wrap64 (y - 1))).f0 == (rd_T64 l2 y).f0)) true (by kernel_rfl) (fun _ => ex_eql (by kernel_rfl) (by kernel_rfl) rfl) (eo2) (zm 143 (.bool true) (by kernel_rfl) (by kernel_rfl) (zv 144 (.pointer (some ⟨w2.heap.size, 1, none⟩)) (by kernel_rfl) (fun _ => ex_field (u := .pointer (some ⟨w2.heap.size, 0, none⟩)) rfl (by kernel_rfl) (by kernel_rfl)) (zi 145 (.int .i64 (rd_T64 l2 (wrap64 (y - 1))).f1) (by kernel_rfl) (fun w_ hC_ => ex_load (ad := ⟨w2.heap.size, 1, none⟩) rfl (by kernel_rfl) (ld_2 (hC_.c 0 1 (by kernel_rfl) (by kernel_rfl)))) (zv 146 (.pointer (some ⟨wr.heap.size, 1, none⟩)) (by kernel_rfl) (fun _ => ex_field (u := .pointer (some ⟨wr.heap.size, 0, none⟩)) rfl (by kernel_rfl) (by kernel_rfl)) (zi 147 (.int .i64 (rd_T64 l2 y).f1) (by kernel_rfl) (fun w_ hC_ => ex_load (ad := ⟨wr.heap.size, 1, none⟩) rfl (by kernel_rfl) (ld_2 (hC_.c 1 1 (by kernel_rfl) (by kernel_rfl)))) (zb 148 (decide ((rd_T64 l2 y).f1 ≤ (rd_T64 l2 (wrap64 (y - 1))).f1)) false (by kernel_rfl) (fun _ => ex_geq (by kernel_rfl) (by kernel_rfl) rfl) (eo3) (zm 149 (.bool false) (by kernel_rfl) (by kernel_rfl) ?_))))))))
                with_reducible refine zm 150 (.bool false) (by kernel_rfl) (by kernel_rfl) ?_
                refine z_end ?_
                intro wq hC_
                simp only [putL, Act.put, List.setIfInBounds_toArray, List.set_cons_zero, List.set_cons_succ]
                go_upto_region 19 with (fail)
                refine zl_start 191 (CH w _) hC_ ?_
                clear hC_
                with_reducible refine zm 151 (.map (some gm)) (by kernel_rfl) (by kernel_rfl) (zv 152 (.pointer (some ⟨wr.heap.size, 0, none⟩)) (by kernel_rfl) (fun _ => ex_field (u := .pointer (some ⟨wr.heap.size, 0, none⟩)) rfl (by kernel_rfl) (by kernel_rfl)) (zi 153 (.int .i64 (rd_T64 l2 y).f0) (by kernel_rfl) (fun w_ hC_ => ex_load (ad := ⟨wr.heap.size, 0, none⟩) rfl (by kernel_rfl) (ld_2 (hC_.c 1 0 (by kernel_rfl) (by kernel_rfl)))) (zi 154 (.bool true) (by kernel_rfl) (fun w_ hC_ => ex_look (u := .map (some gm)) (u' := .int .i64 (rd_T64 l2 y).f0) rfl (by kernel_rfl) (by kernel_rfl) ((SL.out.look (hC_.at 3 (by kernel_rfl)) _ WP.out.1).trans (by rw [eL]))) (zm 155 (.bool false) (by kernel_rfl) (by kernel_rfl) (zm 156 (.bool false) (by kernel_rfl) (by kernel_rfl) (zm 157 (.map (some gm)) (by kernel_rfl) (by kernel_rfl) (zv 158 (.pointer (some ⟨wr.heap.size, 1, none⟩)) (by kernel_rfl) (fun _ => ex_field (u := .pointer (some ⟨wr.heap.size, 0, none⟩)) rfl (by kernel_rfl) (by kernel_rfl)) (zi 159 (.int .i64 (rd_T64 l2 y).f1) (by kernel_rfl) (fun w_ hC_ => ex_load (ad := ⟨wr.heap.size, 1, none⟩) rfl (by kernel_rfl) (ld_2 (hC_.c 1 1 (by kernel_rfl) (by kernel_rfl)))) ?_))))))))
                with_reducible refine zi 160 (.bool false) (by kernel_rfl) (fun w_ hC_ => ex_look (u := .map (some gm)) (u' := .int .i64 (rd_T64 l2 y).f1) rfl (by kernel_rfl) (by kernel_rfl) ((SL.out.look (hC_.at 3 (by kernel_rfl)) _ WP.out.2.1).trans (by rw [eR]))) (zm 161 (.bool true) (by kernel_rfl) (by kernel_rfl) (zm 162 (.bool true) (by kernel_rfl) (by kernel_rfl) (zm 163 (.bool true) (by kernel_rfl) (by kernel_rfl) (zs 164 (by kernel_rfl) (zs 165 (by kernel_rfl) (zs 166 (by kernel_rfl) (zs 167 (by kernel_rfl) (zs 168 (by kernel_rfl) ?_))))))))
                with_reducible refine zs 169 (by kernel_rfl) (zs 170 (by kernel_rfl) (zs 171 (by kernel_rfl) (zs 172 (by kernel_rfl) (zs 173 (by kernel_rfl) (zs 174 (by kernel_rfl) (zs 175 (by kernel_rfl) (zs 176 (by kernel_rfl) (zs 177 (by kernel_rfl) ?_))))))))
                with_reducible refine zs 178 (by kernel_rfl) (zm 179 (.bool true) (by kernel_rfl) (by kernel_rfl) (zm 180 (.bool true) (by kernel_rfl) (by kernel_rfl) (zs 181 (by kernel_rfl) (zs 182 (by kernel_rfl) (zs 183 (by kernel_rfl) (zm 184 (.bool true) (by kernel_rfl) (by kernel_rfl) (zm 185 (.bool true) (by kernel_rfl) (by kernel_rfl) (zs 186 (by kernel_rfl) ?_))))))))
                with_reducible refine zs 187 (by kernel_rfl) (zs 188 (by kernel_rfl) (zm 189 (.bool true) (by kernel_rfl) (by kernel_rfl) ?_))
                refine z_end ?_
                intro wq hC_
                have HCH := Aside0.mk hC_
                clear hC_
                simp only [putL, Act.put, List.setIfInBounds_toArray, List.set_cons_zero, List.set_cons_succ]
                go_wp2
                go_ret
                exact ⟨by rw [R.out]; rfl, HCH.out.below⟩
              have eR := q3
              by_cases q4 : (rd_T64 l2 y).f2 = -1
              case pos =>
                have e4 : ((rd_T64 l2 y).f2 != -1) = false := bne_eq_false_iff_eq.mpr q4
                by_cases q5 : -6553600 ≤ (rd_T64 l2 y).f3
                case neg =>
                  have e5 : decide ((rd_T64 l2 y).f3 < -6553600) = true := decide_eq_true (by omega)
                  have R := Aside0.mk (gone (by unfold pB; rw [h1, q2, q3, if_pos q4, decide_eq_false q5]; rfl))
                  clear gone y0 yl yp q1 o1 o2 o3 h1 q2 q3 q4 q5
                  go_upto_region 15 with (fail)
                  have hc1 := CH.alloc (.cells #[.int .i64 (rd_T64 l2 y).f0, .int .i64 (rd_T64 l2 y).f1, .int .i64 (rd_T64 l2 y).f2, .int .i64 (rd_T64 l2 y).f3] 64) (CH.cons BF.out (CH.cons BM.out (CH.nil HB.out)))
                  generalize World.alloc wr _ = w2 at hc1 ⊢
                  have z2_0 := hc1.old Z2_0.out
                  have z2_1 := hc1.old Z2_1.out
                  have z2_2 := hc1.old Z2_2.out
                  have z2_3 := hc1.old Z2_3.out
                  obtain ⟨hz0, hz1, hz2, hz3, hz4, hz5, hz6, hz7, hz8, hz9⟩ := ten_ (hc1.at 1 rfl)
                  have HC_ := Aside0.mk hc1
                  clear hc1
                  go_upto_region 17 with (fail)
                  refine zl_start 191 (CH w _) (CH.alloc (.cells #[.int .i64 (rd_T64 l2 (wrap64 (y - 1))).f0, .int .i64 (rd_T64 l2 (wrap64 (y - 1))).f1, .int .i64 (rd_T64 l2 (wrap64 (y - 1))).f2, .int .i64 (rd_T64 l2 (wrap64 (y - 1))).f3] 64) HC_.out) ?_
                  with_reducible refine zv 132 (.pointer (some ⟨w2.heap.size, 0, none⟩)) (by kernel_rfl) (fun _ => ex_field (u := .pointer (some ⟨w2.heap.size, 0, none⟩)) rfl (by kernel_rfl) (by kernel_rfl)) (zi 133 (.int .i64 (rd_T64 l2 (wrap64 (y - 1))).f0) (by kernel_rfl) (fun w_ hC_ => ex_load (ad := ⟨w2.heap.size, 0, none⟩) rfl (by kernel_rfl) (ld_2 (hC_.c 0 0 (by kernel_rfl) (by kernel_rfl)))) (zv 134 (.pointer (some ⟨wr.heap.size, 0, none⟩)) (by kernel_rfl) (fun _ => ex_field (u := .pointer (some ⟨wr.heap.size, 0, none⟩)) rfl (by kernel_rfl) (by kernel_rfl)) (zi 135 (.int .i64 (rd_T64 l2 y).f0) (by kernel_rfl) (fun w_ hC_ => ex_load (ad := ⟨wr.heap.size, 0, none⟩) rfl (by kernel_rfl) (ld_2 (hC_.c 1 0 (by kernel_rfl) (by kernel_rfl)))) (zb 136 (decide ((rd_T64 l2 y).f0 < (rd_T64 l2 (wrap64 (y - 1))).f0)) false (by kernel_rfl) (fun _ => ex_gtr (by kernel_rfl) (by kernel_rfl) rfl) (eo1) (zm 137 (.bool false) (by kernel_rfl) (by kernel_rfl) (zv 138 (.pointer (some ⟨w2.heap.size, 0, none⟩)) (by kernel_rfl) (fun _ => ex_field (u := .pointer (some ⟨w2.heap.size, 0, none⟩)) rfl (by kernel_rfl) (by kernel_rfl)) (zi 139 (.int .i64 (rd_T64 l2 (wrap64 (y - 1))).f0) (by kernel_rfl) (fun w_ hC_ => ex_load (ad := ⟨w2.heap.size, 0, none⟩) rfl (by kernel_rfl) (ld_2 (hC_.c 0 0 (by kernel_rfl) (by kernel_rfl)))) (zv 140 (.pointer (some ⟨wr.heap.size, 0, none⟩)) (by kernel_rfl) (fun _ => ex_field (u := .pointer (some ⟨wr.heap.size, 0, none⟩)) rfl (by kernel_rfl) (by kernel_rfl)) ?_))))))))
                  with_reducible refine zi 141 (.int .i64 (rd_T64 l2 y).f0) (by kernel_rfl) (fun w_ hC_ => ex_load (ad := ⟨wr.heap.size, 0, none⟩) rfl (by kernel_rfl) (ld_2 (hC_.c 1 0 (by kernel_rfl) (by kernel_rfl)))) (zb 142 (((rd_T64 l2 (wrap64 (y - 1))).f0 == (rd_T64 l2 y).f0)) true (by kernel_rfl) (fun _ => ex_eql (by kernel_rfl) (by kernel_rfl) rfl) (eo2) (zm 143 (.bool true) (by kernel_rfl) (by kernel_rfl) (zv 144 (.pointer (some ⟨w2.heap.size, 1, none⟩)) (by kernel_rfl) (fun _ => ex_field (u := .pointer (some ⟨w2.heap.size, 0, none⟩)) rfl (by kernel_rfl) (by kernel_rfl)) (zi 145 (.int .i64 (rd_T64 l2 (wrap64 (y - 1))).f1) (by kernel_rfl) (fun w_ hC_ => ex_load (ad := ⟨w2.heap.size, 1, none⟩) rfl (by kernel_rfl) (ld_2 (hC_.c 0 1 (by kernel_rfl) (by kernel_rfl)))) (zv 146 (.pointer (some ⟨wr.heap.size, 1, none⟩)) (by kernel_rfl) (fun _ => ex_field (u := .pointer (some ⟨wr.heap.size, 0, none⟩)) rfl (by kernel_rfl) (by kernel_rfl)) (zi 147 (.int .i64 (rd_T64 l2 y).f1) (by kernel_rfl) (fun w_ hC_ => ex_load (ad := ⟨wr.heap.size, 1, none⟩) rfl (by kernel_rfl) (ld_2 (hC_.c 1 1 (by kernel_rfl) (by kernel_rfl)))) (zb 148 (decide ((rd_T64 l2 y).f1 ≤ (rd_T64 l2 (wrap64 (y - 1))).f1)) false (by kernel_rfl) (fun _ => ex_geq (by kernel_rfl) (by kernel_rfl) rfl) (eo3) (zm 149 (.bool false) (by kernel_rfl) (by kernel_rfl) ?_))))))))
                  with_reducible refine zm 150 (.bool false) (by kernel_rfl) (by kernel_rfl) ?_
                  refine z_end ?_
                  intro wq hC_
                  simp only [putL, Act.put, List.setIfInBounds_toArray, List.set_cons_zero, List.set_cons_succ]
                  go_upto_region 19 with (fail)
                  refine zl_start 191 (CH w _) hC_ ?_
                  clear hC_
                  with_reducible refine zm 151 (.map (some gm)) (by kernel_rfl) (by kernel_rfl) (zv 152 (.pointer (some ⟨wr.heap.size, 0, none⟩)) (by kernel_rfl) (fun _ => ex_field (u := .pointer (some ⟨wr.heap.size, 0, none⟩)) rfl (by kernel_rfl) (by kernel_rfl)) (zi 153 (.int .i64 (rd_T64 l2 y).f0) (by kernel_rfl) (fun w_ hC_ => ex_load (ad := ⟨wr.heap.size, 0, none⟩) rfl (by kernel_rfl) (ld_2 (hC_.c 1 0 (by kernel_rfl) (by kernel_rfl)))) (zi 154 (.bool true) (by kernel_rfl) (fun w_ hC_ => ex_look (u := .map (some gm)) (u' := .int .i64 (rd_T64 l2 y).f0) rfl (by kernel_rfl) (by kernel_rfl) ((SL.out.look (hC_.at 3 (by kernel_rfl)) _ WP.out.1).trans (by rw [eL]))) (zm 155 (.bool false) (by kernel_rfl) (by kernel_rfl) (zm 156 (.bool false) (by kernel_rfl) (by kernel_rfl) (zm 157 (.map (some gm)) (by kernel_rfl) (by kernel_rfl) (zv 158 (.pointer (some ⟨wr.heap.size, 1, none⟩)) (by kernel_rfl) (fun _ => ex_field (u := .pointer (some ⟨wr.heap.size, 0, none⟩)) rfl (by kernel_rfl) (by kernel_rfl)) (zi 159 (.int .i64 (rd_T64 l2 y).f1) (by kernel_rfl) (fun w_ hC_ => ex_load (ad := ⟨wr.heap.size, 1, none⟩) rfl (by kernel_rfl) (ld_2 (hC_.c 1 1 (by kernel_rfl) (by kernel_rfl)))) ?_))))))))
                  with_reducible refine zi 160 (.bool true) (by kernel_rfl) (fun w_ hC_ => ex_look (u := .map (some gm)) (u' := .int .i64 (rd_T64 l2 y).f1) rfl (by kernel_rfl) (by kernel_rfl) ((SL.out.look (hC_.at 3 (by kernel_rfl)) _ WP.out.2.1).trans (by rw [eR]))) (zm 161 (.bool false) (by kernel_rfl) (by kernel_rfl) (zm 162 (.bool false) (by kernel_rfl) (by kernel_rfl) (zm 163 (.bool false) (by kernel_rfl) (by kernel_rfl) (zv 164 (.pointer (some ⟨wr.heap.size, 2, none⟩)) (by kernel_rfl) (fun _ => ex_field (u := .pointer (some ⟨wr.heap.size, 0, none⟩)) rfl (by kernel_rfl) (by kernel_rfl)) (zi 165 (.int .i64 (rd_T64 l2 y).f2) (by kernel_rfl) (fun w_ hC_ => ex_load (ad := ⟨wr.heap.size, 2, none⟩) rfl (by kernel_rfl) (ld_2 (hC_.c 1 2 (by kernel_rfl) (by kernel_rfl)))) (zb 166 (((rd_T64 l2 y).f2 != (-1))) false (by kernel_rfl) (fun _ => ex_neq (by kernel_rfl) (by kernel_rfl) rfl) (e4) (zm 167 (.bool false) (by kernel_rfl) (by kernel_rfl) (zs 168 (by kernel_rfl) ?_))))))))
                  with_reducible refine zs 169 (by kernel_rfl) (zs 170 (by kernel_rfl) (zs 171 (by kernel_rfl) (zs 172 (by kernel_rfl) (zs 173 (by kernel_rfl) (zs 174 (by kernel_rfl) (zs 175 (by kernel_rfl) (zs 176 (by kernel_rfl) (zs 177 (by kernel_rfl) ?_))))))))
                  with_reducible refine zm 178 (.bool false) (by kernel_rfl) (by kernel_rfl) (zm 179 (.bool false) (by kernel_rfl) (by kernel_rfl) (zm 180 (.bool false) (by kernel_rfl) (by kernel_rfl) (zv 181 (.pointer (some ⟨wr.heap.size, 3, none⟩)) (by kernel_rfl) (fun _ => ex_field (u := .pointer (some ⟨wr.heap.size, 0, none⟩)) rfl (by kernel_rfl) (by kernel_rfl)) (zi 182 (.int .i64 (rd_T64 l2 y).f3) (by kernel_rfl) (fun w_ hC_ => ex_load (ad := ⟨wr.heap.size, 3, none⟩) rfl (by kernel_rfl) (ld_2 (hC_.c 1 3 (by kernel_rfl) (by kernel_rfl)))) (zb 183 (decide ((rd_T64 l2 y).f3 < (-6553600))) true (by kernel_rfl) (fun _ => ex_lss (by kernel_rfl) (by kernel_rfl) rfl) (e5) (zm 184 (.bool true) (by kernel_rfl) (by kernel_rfl) (zm 185 (.bool true) (by kernel_rfl) (by kernel_rfl) (zs 186 (by kernel_rfl) ?_))))))))
                  with_reducible refine zs 187 (by kernel_rfl) (zs 188 (by kernel_rfl) (zm 189 (.bool true) (by kernel_rfl) (by kernel_rfl) ?_))
                  refine z_end ?_
                  intro wq hC_
                  have HCH := Aside0.mk hC_
                  clear hC_
                  simp only [putL, Act.put, List.setIfInBounds_toArray, List.set_cons_zero, List.set_cons_succ]
                  go_wp2
                  go_ret
                  exact ⟨by rw [R.out]; rfl, HCH.out.below⟩
                have e5 : decide ((rd_T64 l2 y).f3 < -6553600) = false := decide_eq_false (by omega)
                by_cases q6 : (rd_T64 l2 y).f3 ≤ 6553600
                case neg =>
                  have e6 : decide (6553600 < (rd_T64 l2 y).f3) = true := decide_eq_true (by omega)
                  have R := Aside0.mk (gone (by unfold pB; rw [h1, q2, q3, if_pos q4, decide_eq_true q5, decide_eq_false q6]; rfl))
                  clear gone y0 yl yp q1 o1 o2 o3 h1 q2 q3 q4 q5 q6
                  go_upto_region 15 with (fail)
                  have hc1 := CH.alloc (.cells #[.int .i64 (rd_T64 l2 y).f0, .int .i64 (rd_T64 l2 y).f1, .int .i64 (rd_T64 l2 y).f2, .int .i64 (rd_T64 l2 y).f3] 64) (CH.cons BF.out (CH.cons BM.out (CH.nil HB.out)))
                  generalize World.alloc wr _ = w2 at hc1 ⊢
                  have z2_0 := hc1.old Z2_0.out
                  have z2_1 := hc1.old Z2_1.out
                  have z2_2 := hc1.old Z2_2.out
                  have z2_3 := hc1.old Z2_3.out
                  obtain ⟨hz0, hz1, hz2, hz3, hz4, hz5, hz6, hz7, hz8, hz9⟩ := ten_ (hc1.at 1 rfl)
                  have HC_ := Aside0.mk hc1
                  clear hc1
                  go_upto_region 17 with (fail)
                  refine zl_start 191 (CH w _) (CH.alloc (.cells #[.int .i64 (rd_T64 l2 (wrap64 (y - 1))).f0, .int .i64 (rd_T64 l2 (wrap64 (y - 1))).f1, .int .i64 (rd_T64 l2 (wrap64 (y - 1))).f2, .int .i64 (rd_T64 l2 (wrap64 (y - 1))).f3] 64) HC_.out) ?_
                  with_reducible refine zv 132 (.pointer (some ⟨w2.heap.size, 0, none⟩)) (by kernel_rfl) (fun _ => ex_field (u := .pointer (some ⟨w2.heap.size, 0, none⟩)) rfl (by kernel_rfl) (by kernel_rfl)) (zi 133 (.int .i64 (rd_T64 l2 (wrap64 (y - 1))).f0) (by kernel_rfl) (fun w_ hC_ => ex_load (ad := ⟨w2.heap.size, 0, none⟩) rfl (by kernel_rfl) (ld_2 (hC_.c 0 0 (by kernel_rfl) (by kernel_rfl)))) (zv 134 (.pointer (some ⟨wr.heap.size, 0, none⟩)) (by kernel_rfl) (fun _ => ex_field (u := .pointer (some ⟨wr.heap.size, 0, none⟩)) rfl (by kernel_rfl) (by kernel_rfl)) (zi 135 (.int .i64 (rd_T64 l2 y).f0) (by kernel_rfl) (fun w_ hC_ => ex_load (ad := ⟨wr.heap.size, 0, none⟩) rfl (by kernel_rfl) (ld_2 (hC_.c 1 0 (by kernel_rfl) (by kernel_rfl)))) (zb 136 (decide ((rd_T64 l2 y).f0 < (rd_T64 l2 (wrap64 (y - 1))).f0)) false (by kernel_rfl) (fun _ => ex_gtr (by kernel_rfl) (by kernel_rfl) rfl) (eo1) (zm 137 (.bool false) (by kernel_rfl) (by kernel_rfl) (zv 138 (.pointer (some ⟨w2.heap.size, 0, none⟩)) (by kernel_rfl) (fun _ => ex_field (u := .pointer (some ⟨w2.heap.size, 0, none⟩)) rfl (by kernel_rfl) (by kernel_rfl)) (zi 139 (.int .i64 (rd_T64 l2 (wrap64 (y - 1))).f0) (by kernel_rfl) (fun w_ hC_ => ex_load (ad := ⟨w2.heap.size, 0, none⟩) rfl (by kernel_rfl) (ld_2 (hC_.c 0 0 (by kernel_rfl) (by kernel_rfl)))) (zv 140 (.pointer (some ⟨wr.heap.size, 0, none⟩)) (by kernel_rfl) (fun _ => ex_field (u := .pointer (some ⟨wr.heap.size, 0, none⟩)) rfl (by kernel_rfl) (by kernel_rfl)) ?_))))))))
                  with_reducible refine zi 141 (.int .i64 (rd_T64 l2 y).f0) (by kernel_rfl) (fun w_ hC_ => ex_load (ad := ⟨wr.heap.size, 0, none⟩) rfl (by kernel_rfl) (ld_2 (hC_.c 1 0 (by kernel_rfl) (by kernel_rfl)))) (zb 142 (((rd_T64 l2 (wrap64 (y - 1))).f0 == (rd_T64 l2 y).f0)) true (by kernel_rfl) (fun _ => ex_eql (by kernel_rfl) (by kernel_rfl) rfl) (eo2) (zm 143 (.bool true) (by kernel_rfl) (by kernel_rfl) (zv 144 (.pointer (some ⟨w2.heap.size, 1, none⟩)) (by kernel_rfl) (fun _ => ex_field (u := .pointer (some ⟨w2.heap.size, 0, none⟩)) rfl (by kernel_rfl) (by kernel_rfl)) (zi 145 (.int .i64 (rd_T64 l2 (wrap64 (y - 1))).f1) (by kernel_rfl) (fun w_ hC_ => ex_load (ad := ⟨w2.heap.size, 1, none⟩) rfl (by kernel_rfl) (ld_2 (hC_.c 0 1 (by kernel_rfl) (by kernel_rfl)))) (zv 146 (.pointer (some ⟨wr.heap.size, 1, none⟩)) (by kernel_rfl) (fun _ => ex_field (u := .pointer (some ⟨wr.heap.size, 0, none⟩)) rfl (by kernel_rfl) (by kernel_rfl)) (zi 147 (.int .i64 (rd_T64 l2 y).f1) (by kernel_rfl) (fun w_ hC_ => ex_load (ad := ⟨wr.heap.size, 1, none⟩) rfl (by kernel_rfl) (ld_2 (hC_.c 1 1 (by kernel_rfl) (by kernel_rfl)))) (zb 148 (decide ((rd_T64 l2 y).f1 ≤ (rd_T64 l2 (wrap64 (y - 1))).f1)) false (by kernel_rfl) (fun _ => ex_geq (by kernel_rfl) (by kernel_rfl) rfl) (eo3) (zm 149 (.bool false) (by kernel_rfl) (by kernel_rfl) ?_))))))))
                  with_reducible refine zm 150 (.bool false) (by kernel_rfl) (by kernel_rfl) ?_
                  refine z_end ?_
                  intro wq hC_
                  simp only [putL, Act.put, List.setIfInBounds_toArray, List.set_cons_zero, List.set_cons_succ]
                  go_upto_region 19 with (fail)
                  refine zl_start 191 (CH w _) hC_ ?_
                  clear hC_
                  with_reducible refine zm 151 (.map (some gm)) (by kernel_rfl) (by kernel_rfl) (zv 152 (.pointer (some ⟨wr.heap.size, 0, none⟩)) (by kernel_rfl) (fun _ => ex_field (u := .pointer (some ⟨wr.heap.size, 0, none⟩)) rfl (by kernel_rfl) (by kernel_rfl)) (zi 153 (.int .i64 (rd_T64 l2 y).f0) (by kernel_rfl) (fun w_ hC_ => ex_load (ad := ⟨wr.heap.size, 0, none⟩) rfl (by kernel_rfl) (ld_2 (hC_.c 1 0 (by kernel_rfl) (by kernel_rfl)))) (zi 154 (.bool true) (by kernel_rfl) (fun w_ hC_ => ex_look (u := .map (some gm)) (u' := .int .i64 (rd_T64 l2 y).f0) rfl (by kernel_rfl) (by kernel_rfl) ((SL.out.look (hC_.at 3 (by kernel_rfl)) _ WP.out.1).trans (by rw [eL]))) (zm 155 (.bool false) (by kernel_rfl) (by kernel_rfl) (zm 156 (.bool false) (by kernel_rfl) (by kernel_rfl) (zm 157 (.map (some gm)) (by kernel_rfl) (by kernel_rfl) (zv 158 (.pointer (some ⟨wr.heap.size, 1, none⟩)) (by kernel_rfl) (fun _ => ex_field (u := .pointer (some ⟨wr.heap.size, 0, none⟩)) rfl (by kernel_rfl) (by kernel_rfl)) (zi 159 (.int .i64 (rd_T64 l2 y).f1) (by kernel_rfl) (fun w_ hC_ => ex_load (ad := ⟨wr.heap.size, 1, none⟩) rfl (by kernel_rfl) (ld_2 (hC_.c 1 1 (by kernel_rfl) (by kernel_rfl)))) ?_))))))))
                  with_reducible refine zi 160 (.bool true) (by kernel_rfl) (fun w_ hC_ => ex_look (u := .map (some gm)) (u' := .int .i64 (rd_T64 l2 y).f1) rfl (by kernel_rfl) (by kernel_rfl) ((SL.out.look (hC_.at 3 (by kernel_rfl)) _ WP.out.2.1).trans (by rw [eR]))) (zm 161 (.bool false) (by kernel_rfl) (by kernel_rfl) (zm 162 (.bool false) (by kernel_rfl) (by kernel_rfl) (zm 163 (.bool false) (by kernel_rfl) (by kernel_rfl) (zv 164 (.pointer (some ⟨wr.heap.size, 2, none⟩)) (by kernel_rfl) (fun _ => ex_field (u := .pointer (some ⟨wr.heap.size, 0, none⟩)) rfl (by kernel_rfl) (by kernel_rfl)) (zi 165 (.int .i64 (rd_T64 l2 y).f2) (by kernel_rfl) (fun w_ hC_ => ex_load (ad := ⟨wr.heap.size, 2, none⟩) rfl (by kernel_rfl) (ld_2 (hC_.c 1 2 (by kernel_rfl) (by kernel_rfl)))) (zb 166 (((rd_T64 l2 y).f2 != (-1))) false (by kernel_rfl) (fun _ => ex_neq (by kernel_rfl) (by kernel_rfl) rfl) (e4) (zm 167 (.bool false) (by kernel_rfl) (by kernel_rfl) (zs 168 (by kernel_rfl) ?_))))))))
                  with_reducible refine zs 169 (by kernel_rfl) (zs 170 (by kernel_rfl) (zs 171 (by kernel_rfl) (zs 172 (by kernel_rfl) (zs 173 (by kernel_rfl) (zs 174 (by kernel_rfl) (zs 175 (by kernel_rfl) (zs 176 (by kernel_rfl) (zs 177 (by kernel_rfl) ?_))))))))
                  with_reducible refine zm 178 (.bool false) (by kernel_rfl) (by kernel_rfl) (zm 179 (.bool false) (by kernel_rfl) (by kernel_rfl) (zm 180 (.bool false) (by kernel_rfl) (by kernel_rfl) (zv 181 (.pointer (some ⟨wr.heap.size, 3, none⟩)) (by kernel_rfl) (fun _ => ex_field (u := .pointer (some ⟨wr.heap.size, 0, none⟩)) rfl (by kernel_rfl) (by kernel_rfl)) (zi 182 (.int .i64 (rd_T64 l2 y).f3) (by kernel_rfl) (fun w_ hC_ => ex_load (ad := ⟨wr.heap.size, 3, none⟩) rfl (by kernel_rfl) (ld_2 (hC_.c 1 3 (by kernel_rfl) (by kernel_rfl)))) (zb 183 (decide ((rd_T64 l2 y).f3 < (-6553600))) false (by kernel_rfl) (fun _ => ex_lss (by kernel_rfl) (by kernel_rfl) rfl) (e5) (zm 184 (.bool false) (by kernel_rfl) (by kernel_rfl) (zm 185 (.bool false) (by kernel_rfl) (by kernel_rfl) (zv 186 (.pointer (some ⟨wr.heap.size, 3, none⟩)) (by kernel_rfl) (fun _ => ex_field (u := .pointer (some ⟨wr.heap.size, 0, none⟩)) rfl (by kernel_rfl) (by kernel_rfl)) ?_))))))))
                  with_reducible refine zi 187 (.int .i64 (rd_T64 l2 y).f3) (by kernel_rfl) (fun w_ hC_ => ex_load (ad := ⟨wr.heap.size, 3, none⟩) rfl (by kernel_rfl) (ld_2 (hC_.c 1 3 (by kernel_rfl) (by kernel_rfl)))) (zb 188 (decide (6553600 < (rd_T64 l2 y).f3)) true (by kernel_rfl) (fun _ => ex_gtr (by kernel_rfl) (by kernel_rfl) rfl) (e6) (zm 189 (.bool true) (by kernel_rfl) (by kernel_rfl) ?_))
                  refine z_end ?_
                  intro wq hC_
                  have HCH := Aside0.mk hC_
                  clear hC_
                  simp only [putL, Act.put, List.setIfInBounds_toArray, List.set_cons_zero, List.set_cons_succ]
                  go_wp2
                  go_ret
                  exact ⟨by rw [R.out]; rfl, HCH.out.below⟩
                have e6 : decide (6553600 < (rd_T64 l2 y).f3) = false := decide_eq_false (by omega)
                have GB : pB l1 l2 y = true := by unfold pB; rw [h1, q2, q3, if_pos q4, decide_eq_true q5, decide_eq_true q6]; rfl
                have GD : Aside0 (∀ m : Nat, (m : Int) < y + 1 → pB l1 l2 (m : Int) = true) := ⟨all_step HY.out.2.2 GB⟩
                have XW : Aside0 (wrap64 (y + 1) = y + 1) := ⟨win _ (by omega) (by have := HM.out.2; omega)⟩
                have XLA := Aside0.mk yl
                clear gone y0 yl yp q1 o1 o2 o3 h1 q2 q3 q4 q5 q6 GB
                cases gk with
                | zero => exact absurd XLA.out (by have := HF.out; omega)
                | succ k1 =>
                  go_upto_region 15 with (fail)
                  have hc1 := CH.alloc (.cells #[.int .i64 (rd_T64 l2 y).f0, .int .i64 (rd_T64 l2 y).f1, .int .i64 (rd_T64 l2 y).f2, .int .i64 (rd_T64 l2 y).f3] 64) (CH.cons BF.out (CH.cons BM.out (CH.nil HB.out)))
                  generalize World.alloc wr _ = w2 at hc1 ⊢
                  have z2_0 := hc1.old Z2_0.out
                  have z2_1 := hc1.old Z2_1.out
                  have z2_2 := hc1.old Z2_2.out
                  have z2_3 := hc1.old Z2_3.out
                  obtain ⟨hz0, hz1, hz2, hz3, hz4, hz5, hz6, hz7, hz8, hz9⟩ := ten_ (hc1.at 1 rfl)
                  have HC_ := Aside0.mk hc1
                  clear hc1
                  go_upto_region 17 with (fail)
                  refine zl_start 191 (CH w _) (CH.alloc (.cells #[.int .i64 (rd_T64 l2 (wrap64 (y - 1))).f0, .int .i64 (rd_T64 l2 (wrap64 (y - 1))).f1, .int .i64 (rd_T64 l2 (wrap64 (y - 1))).f2, .int .i64 (rd_T64 l2 (wrap64 (y - 1))).f3] 64) HC_.out) ?_
                  with_reducible refine zv 132 (.pointer (some ⟨w2.heap.size, 0, none⟩)) (by kernel_rfl) (fun _ => ex_field (u := .pointer (some ⟨w2.heap.size, 0, none⟩)) rfl (by kernel_rfl) (by kernel_rfl)) (zi 133 (.int .i64 (rd_T64 l2 (wrap64 (y - 1))).f0) (by kernel_rfl) (fun w_ hC_ => ex_load (ad := ⟨w2.heap.size, 0, none⟩) rfl (by kernel_rfl) (ld_2 (hC_.c 0 0 (by kernel_rfl) (by kernel_rfl)))) (zv 134 (.pointer (some ⟨wr.heap.size, 0, none⟩)) (by kernel_rfl) (fun _ => ex_field (u := .pointer (some ⟨wr.heap.size, 0, none⟩)) rfl (by kernel_rfl) (by kernel_rfl)) (zi 135 (.int .i64 (rd_T64 l2 y).f0) (by kernel_rfl) (fun w_ hC_ => ex_load (ad := ⟨wr.heap.size, 0, none⟩) rfl (by kernel_rfl) (ld_2 (hC_.c 1 0 (by kernel_rfl) (by kernel_rfl)))) (zb 136 (decide ((rd_T64 l2 y).f0 < (rd_T64 l2 (wrap64 (y - 1))).f0)) false (by kernel_rfl) (fun _ => ex_gtr (by kernel_rfl) (by kernel_rfl) rfl) (eo1) (zm 137 (.bool false) (by kernel_rfl) (by kernel_rfl) (zv 138 (.pointer (some ⟨w2.heap.size, 0, none⟩)) (by kernel_rfl) (fun _ => ex_field (u := .pointer (some ⟨w2.heap.size, 0, none⟩)) rfl (by kernel_rfl) (by kernel_rfl)) (zi 139 (.int .i64 (rd_T64 l2 (wrap64 (y - 1))).f0) (by kernel_rfl) (fun w_ hC_ => ex_load (ad := ⟨w2.heap.size, 0, none⟩) rfl (by kernel_rfl) (ld_2 (hC_.c 0 0 (by kernel_rfl) (by kernel_rfl)))) (zv 140 (.pointer (some ⟨wr.heap.size, 0, none⟩)) (by kernel_rfl) (fun _ => ex_field (u := .pointer (some ⟨wr.heap.size, 0, none⟩)) rfl (by kernel_rfl) (by kernel_rfl)) ?_))))))))
                  with_reducible refine zi 141 (.int .i64 (rd_T64 l2 y).f0) (by kernel_rfl) (fun w_ hC_ => ex_load (ad := ⟨wr.heap.size, 0, none⟩) rfl (by kernel_rfl) (ld_2 (hC_.c 1 0 (by kernel_rfl) (by kernel_rfl)))) (zb 142 (((rd_T64 l2 (wrap64 (y - 1))).f0 == (rd_T64 l2 y).f0)) true (by kernel_rfl) (fun _ => ex_eql (by kernel_rfl) (by kernel_rfl) rfl) (eo2) (zm 143 (.bool true) (by kernel_rfl) (by kernel_rfl) (zv 144 (.pointer (some ⟨w2.heap.size, 1, none⟩)) (by kernel_rfl) (fun _ => ex_field (u := .pointer (some ⟨w2.heap.size, 0, none⟩)) rfl (by kernel_rfl) (by kernel_rfl)) (zi 145 (.int .i64 (rd_T64 l2 (wrap64 (y - 1))).f1) (by kernel_rfl) (fun w_ hC_ => ex_load (ad := ⟨w2.heap.size, 1, none⟩) rfl (by kernel_rfl) (ld_2 (hC_.c 0 1 (by kernel_rfl) (by kernel_rfl)))) (zv 146 (.pointer (some ⟨wr.heap.size, 1, none⟩)) (by kernel_rfl) (fun _ => ex_field (u := .pointer (some ⟨wr.heap.size, 0, none⟩)) rfl (by kernel_rfl) (by kernel_rfl)) (zi 147 (.int .i64 (rd_T64 l2 y).f1) (by kernel_rfl) (fun w_ hC_ => ex_load (ad := ⟨wr.heap.size, 1, none⟩) rfl (by kernel_rfl) (ld_2 (hC_.c 1 1 (by kernel_rfl) (by kernel_rfl)))) (zb 148 (decide ((rd_T64 l2 y).f1 ≤ (rd_T64 l2 (wrap64 (y - 1))).f1)) false (by kernel_rfl) (fun _ => ex_geq (by kernel_rfl) (by kernel_rfl) rfl) (eo3) (zm 149 (.bool false) (by kernel_rfl) (by kernel_rfl) ?_))))))))
                  with_reducible refine zm 150 (.bool false) (by kernel_rfl) (by kernel_rfl) ?_
                  refine z_end ?_
                  intro wq hC_
                  simp only [putL, Act.put, List.setIfInBounds_toArray, List.set_cons_zero, List.set_cons_succ]
                  go_upto_region 19 with (fail)
                  refine zl_start 191 (CH w _) hC_ ?_
                  clear hC_
                  with_reducible refine zm 151 (.map (some gm)) (by kernel_rfl) (by kernel_rfl) (zv 152 (.pointer (some ⟨wr.heap.size, 0, none⟩)) (by kernel_rfl) (fun _ => ex_field (u := .pointer (some ⟨wr.heap.size, 0, none⟩)) rfl (by kernel_rfl) (by kernel_rfl)) (zi 153 (.int .i64 (rd_T64 l2 y).f0) (by kernel_rfl) (fun w_ hC_ => ex_load (ad := ⟨wr.heap.size, 0, none⟩) rfl (by kernel_rfl) (ld_2 (hC_.c 1 0 (by kernel_rfl) (by kernel_rfl)))) (zi 154 (.bool true) (by kernel_rfl) (fun w_ hC_ => ex_look (u := .map (some gm)) (u' := .int .i64 (rd_T64 l2 y).f0) rfl (by kernel_rfl) (by kernel_rfl) ((SL.out.look (hC_.at 3 (by kernel_rfl)) _ WP.out.1).trans (by rw [eL]))) (zm 155 (.bool false) (by kernel_rfl) (by kernel_rfl) (zm 156 (.bool false) (by kernel_rfl) (by kernel_rfl) (zm 157 (.map (some gm)) (by kernel_rfl) (by kernel_rfl) (zv 158 (.pointer (some ⟨wr.heap.size, 1, none⟩)) (by kernel_rfl) (fun _ => ex_field (u := .pointer (some ⟨wr.heap.size, 0, none⟩)) rfl (by kernel_rfl) (by kernel_rfl)) (zi 159 (.int .i64 (rd_T64 l2 y).f1) (by kernel_rfl) (fun w_ hC_ => ex_load (ad := ⟨wr.heap.size, 1, none⟩) rfl (by kernel_rfl) (ld_2 (hC_.c 1 1 (by kernel_rfl) (by kernel_rfl)))) ?_))))))))
                  with_reducible refine zi 160 (.bool true) (by kernel_rfl) (fun w_ hC_ => ex_look (u := .map (some gm)) (u' := .int .i64 (rd_T64 l2 y).f1) rfl (by kernel_rfl) (by kernel_rfl) ((SL.out.look (hC_.at 3 (by kernel_rfl)) _ WP.out.2.1).trans (by rw [eR]))) (zm 161 (.bool false) (by kernel_rfl) (by kernel_rfl) (zm 162 (.bool false) (by kernel_rfl) (by kernel_rfl) (zm 163 (.bool false) (by kernel_rfl) (by kernel_rfl) (zv 164 (.pointer (some ⟨wr.heap.size, 2, none⟩)) (by kernel_rfl) (fun _ => ex_field (u := .pointer (some ⟨wr.heap.size, 0, none⟩)) rfl (by kernel_rfl) (by kernel_rfl)) (zi 165 (.int .i64 (rd_T64 l2 y).f2) (by kernel_rfl) (fun w_ hC_ => ex_load (ad := ⟨wr.heap.size, 2, none⟩) rfl (by kernel_rfl) (ld_2 (hC_.c 1 2 (by kernel_rfl) (by kernel_rfl)))) (zb 166 (((rd_T64 l2 y).f2 != (-1))) false (by kernel_rfl) (fun _ => ex_neq (by kernel_rfl) (by kernel_rfl) rfl) (e4) (zm 167 (.bool false) (by kernel_rfl) (by kernel_rfl) (zs 168 (by kernel_rfl) ?_))))))))
                  with_reducible refine zs 169 (by kernel_rfl) (zs 170 (by kernel_rfl) (zs 171 (by kernel_rfl) (zs 172 (by kernel_rfl) (zs 173 (by kernel_rfl) (zs 174 (by kernel_rfl) (zs 175 (by kernel_rfl) (zs 176 (by kernel_rfl) (zs 177 (by kernel_rfl) ?_))))))))
                  with_reducible refine zm 178 (.bool false) (by kernel_rfl) (by kernel_rfl) (zm 179 (.bool false) (by kernel_rfl) (by kernel_rfl) (zm 180 (.bool false) (by kernel_rfl) (by kernel_rfl) (zv 181 (.pointer (some ⟨wr.heap.size, 3, none⟩)) (by kernel_rfl) (fun _ => ex_field (u := .pointer (some ⟨wr.heap.size, 0, none⟩)) rfl (by kernel_rfl) (by kernel_rfl)) (zi 182 (.int .i64 (rd_T64 l2 y).f3) (by kernel_rfl) (fun w_ hC_ => ex_load (ad := ⟨wr.heap.size, 3, none⟩) rfl (by kernel_rfl) (ld_2 (hC_.c 1 3 (by kernel_rfl) (by kernel_rfl)))) (zb 183 (decide ((rd_T64 l2 y).f3 < (-6553600))) false (by kernel_rfl) (fun _ => ex_lss (by kernel_rfl) (by kernel_rfl) rfl) (e5) (zm 184 (.bool false) (by kernel_rfl) (by kernel_rfl) (zm 185 (.bool false) (by kernel_rfl) (by kernel_rfl) (zv 186 (.pointer (some ⟨wr.heap.size, 3, none⟩)) (by kernel_rfl) (fun _ => ex_field (u := .pointer (some ⟨wr.heap.size, 0, none⟩)) rfl (by kernel_rfl) (by kernel_rfl)) ?_))))))))
                  with_reducible refine zi 187 (.int .i64 (rd_T64 l2 y).f3) (by kernel_rfl) (fun w_ hC_ => ex_load (ad := ⟨wr.heap.size, 3, none⟩) rfl (by kernel_rfl) (ld_2 (hC_.c 1 3 (by kernel_rfl) (by kernel_rfl)))) (zb 188 (decide (6553600 < (rd_T64 l2 y).f3)) false (by kernel_rfl) (fun _ => ex_gtr (by kernel_rfl) (by kernel_rfl) rfl) (e6) (zm 189 (.bool false) (by kernel_rfl) (by kernel_rfl) ?_))
                  refine z_end ?_
                  intro wq hC_
                  have HCH := Aside0.mk hC_
                  clear hC_
                  simp only [putL, Act.put, List.setIfInBounds_toArray, List.set_cons_zero, List.set_cons_succ]
                  go_wp2
                  go_roundg k1
                  case measure => omega
                  case rel => exact ⟨wrap64 (y + 1), (by first | rfl | (simp; done) | (simp [*]; done)), ⟨by rw [XW.out]; have := HF.out; omega⟩, ⟨⟨by rw [XW.out]; have := HY.out.1; omega, by rw [XW.out]; have := XLA.out; omega, by rw [XW.out]; exact GD.out⟩⟩, ⟨HCH.out.at 2 rfl⟩, ⟨HCH.out.at 3 rfl⟩, ⟨HCH.out.below⟩⟩
              case neg =>
                have e4 : ((rd_T64 l2 y).f2 != -1) = true := bne_iff_ne.mpr q4
                by_cases q8 : hasB l1 (rd_T64 l2 y).f2 = true
                case neg =>
                  have q8' : hasB l1 (rd_T64 l2 y).f2 = false := by simpa using q8
                  have e8 := q8'
                  have R := Aside0.mk (gone (by unfold pB; rw [h1, q2, q3, if_neg q4, q8']; simp))
                  clear gone y0 yl yp q1 o1 o2 o3 h1 q2 q3 q4 q8
                  go_upto_region 15 with (fail)
                  have hc1 := CH.alloc (.cells #[.int .i64 (rd_T64 l2 y).f0, .int .i64 (rd_T64 l2 y).f1, .int .i64 (rd_T64 l2 y).f2, .int .i64 (rd_T64 l2 y).f3] 64) (CH.cons BF.out (CH.cons BM.out (CH.nil HB.out)))
                  generalize World.alloc wr _ = w2 at hc1 ⊢
                  have z2_0 := hc1.old Z2_0.out
                  have z2_1 := hc1.old Z2_1.out
                  have z2_2 := hc1.old Z2_2.out
                  have z2_3 := hc1.old Z2_3.out
                  obtain ⟨hz0, hz1, hz2, hz3, hz4, hz5, hz6, hz7, hz8, hz9⟩ := ten_ (hc1.at 1 rfl)
                  have HC_ := Aside0.mk hc1
                  clear hc1
                  go_upto_region 17 with (fail)
                  refine zl_start 191 (CH w _) (CH.alloc (.cells #[.int .i64 (rd_T64 l2 (wrap64 (y - 1))).f0, .int .i64 (rd_T64 l2 (wrap64 (y - 1))).f1, .int .i64 (rd_T64 l2 (wrap64 (y - 1))).f2, .int .i64 (rd_T64 l2 (wrap64 (y - 1))).f3] 64) HC_.out) ?_
                  with_reducible refine zv 132 (.pointer (some ⟨w2.heap.size, 0, none⟩)) (by kernel_rfl) (fun _ => ex_field (u := .pointer (some ⟨w2.heap.size, 0, none⟩)) rfl (by kernel_rfl) (by kernel_rfl)) (zi 133 (.int .i64 (rd_T64 l2 (wrap64 (y - 1))).f0) (by kernel_rfl) (fun w_ hC_ => ex_load (ad := ⟨w2.heap.size, 0, none⟩) rfl (by kernel_rfl) (ld_2 (hC_.c 0 0 (by kernel_rfl) (by kernel_rfl)))) (zv 134 (.pointer (some ⟨wr.heap.size, 0, none⟩)) (by kernel_rfl) (fun _ => ex_field (u := .pointer (some ⟨wr.heap.size, 0, none⟩)) rfl (by kernel_rfl) (by kernel_rfl)) (zi 135 (.int .i64 (rd_T64 l2 y).f0) (by kernel_rfl) (fun w_ hC_ => ex_load (ad := ⟨wr.heap.size, 0, none⟩) rfl (by kernel_rfl) (ld_2 (hC_.c 1 0 (by kernel_rfl) (by kernel_rfl)))) (zb 136 (decide ((rd_T64 l2 y).f0 < (rd_T64 l2 (wrap64 (y - 1))).f0)) false (by kernel_rfl) (fun _ => ex_gtr (by kernel_rfl) (by kernel_rfl) rfl) (eo1) (zm 137 (.bool false) (by kernel_rfl) (by kernel_rfl) (zv 138 (.pointer (some ⟨w2.heap.size, 0, none⟩)) (by kernel_rfl) (fun _ => ex_field (u := .pointer (some ⟨w2.heap.size, 0, none⟩)) rfl (by kernel_rfl) (by kernel_rfl)) (zi 139 (.int .i64 (rd_T64 l2 (wrap64 (y - 1))).f0) (by kernel_rfl) (fun w_ hC_ => ex_load (ad := ⟨w2.heap.size, 0, none⟩) rfl (by kernel_rfl) (ld_2 (hC_.c 0 0 (by kernel_rfl) (by kernel_rfl)))) (zv 140 (.pointer (some ⟨wr.heap.size, 0, none⟩)) (by kernel_rfl) (fun _ => ex_field (u := .pointer (some ⟨wr.heap.size, 0, none⟩)) rfl (by kernel_rfl) (by kernel_rfl)) ?_))))))))
                  with_reducible refine zi 141 (.int .i64 (rd_T64 l2 y).f0) (by kernel_rfl) (fun w_ hC_ => ex_load (ad := ⟨wr.heap.size, 0, none⟩) rfl (by kernel_rfl) (ld_2 (hC_.c 1 0 (by kernel_rfl) (by kernel_rfl)))) (zb 142 (((rd_T64 l2 (wrap64 (y - 1))).f0 == (rd_T64 l2 y).f0)) true (by kernel_rfl) (fun _ => ex_eql (by kernel_rfl) (by kernel_rfl) rfl) (eo2) (zm 143 (.bool true) (by kernel_rfl) (by kernel_rfl) (zv 144 (.pointer (some ⟨w2.heap.size, 1, none⟩)) (by kernel_rfl) (fun _ => ex_field (u := .pointer (some ⟨w2.heap.size, 0, none⟩)) rfl (by kernel_rfl) (by kernel_rfl)) (zi 145 (.int .i64 (rd_T64 l2 (wrap64 (y - 1))).f1) (by kernel_rfl) (fun w_ hC_ => ex_load (ad := ⟨w2.heap.size, 1, none⟩) rfl (by kernel_rfl) (ld_2 (hC_.c 0 1 (by kernel_rfl) (by kernel_rfl)))) (zv 146 (.pointer (some ⟨wr.heap.size, 1, none⟩)) (by kernel_rfl) (fun _ => ex_field (u := .pointer (some ⟨wr.heap.size, 0, none⟩)) rfl (by kernel_rfl) (by kernel_rfl)) (zi 147 (.int .i64 (rd_T64 l2 y).f1) (by kernel_rfl) (fun w_ hC_ => ex_load (ad := ⟨wr.heap.size, 1, none⟩) rfl (by kernel_rfl) (ld_2 (hC_.c 1 1 (by kernel_rfl) (by kernel_rfl)))) (zb 148 (decide ((rd_T64 l2 y).f1 ≤ (rd_T64 l2 (wrap64 (y - 1))).f1)) false (by kernel_rfl) (fun _ => ex_geq (by kernel_rfl) (by kernel_rfl) rfl) (eo3) (zm 149 (.bool false) (by kernel_rfl) (by kernel_rfl) ?_))))))))
                  with_reducible refine zm 150 (.bool false) (by kernel_rfl) (by kernel_rfl) ?_
                  refine z_end ?_
                  intro wq hC_
                  simp only [putL, Act.put, List.setIfInBounds_toArray, List.set_cons_zero, List.set_cons_succ]
                  go_upto_region 19 with (fail)
                  refine zl_start 191 (CH w _) hC_ ?_
                  clear hC_
                  with_reducible refine zm 151 (.map (some gm)) (by kernel_rfl) (by kernel_rfl) (zv 152 (.pointer (some ⟨wr.heap.size, 0, none⟩)) (by kernel_rfl) (fun _ => ex_field (u := .pointer (some ⟨wr.heap.size, 0, none⟩)) rfl (by kernel_rfl) (by kernel_rfl)) (zi 153 (.int .i64 (rd_T64 l2 y).f0) (by kernel_rfl) (fun w_ hC_ => ex_load (ad := ⟨wr.heap.size, 0, none⟩) rfl (by kernel_rfl) (ld_2 (hC_.c 1 0 (by kernel_rfl) (by kernel_rfl)))) (zi 154 (.bool true) (by kernel_rfl) (fun w_ hC_ => ex_look (u := .map (some gm)) (u' := .int .i64 (rd_T64 l2 y).f0) rfl (by kernel_rfl) (by kernel_rfl) ((SL.out.look (hC_.at 3 (by kernel_rfl)) _ WP.out.1).trans (by rw [eL]))) (zm 155 (.bool false) (by kernel_rfl) (by kernel_rfl) (zm 156 (.bool false) (by kernel_rfl) (by kernel_rfl) (zm 157 (.map (some gm)) (by kernel_rfl) (by kernel_rfl) (zv 158 (.pointer (some ⟨wr.heap.size, 1, none⟩)) (by kernel_rfl) (fun _ => ex_field (u := .pointer (some ⟨wr.heap.size, 0, none⟩)) rfl (by kernel_rfl) (by kernel_rfl)) (zi 159 (.int .i64 (rd_T64 l2 y).f1) (by kernel_rfl) (fun w_ hC_ => ex_load (ad := ⟨wr.heap.size, 1, none⟩) rfl (by kernel_rfl) (ld_2 (hC_.c 1 1 (by kernel_rfl) (by kernel_rfl)))) ?_))))))))
                  with_reducible refine zi 160 (.bool true) (by kernel_rfl) (fun w_ hC_ => ex_look (u := .map (some gm)) (u' := .int .i64 (rd_T64 l2 y).f1) rfl (by kernel_rfl) (by kernel_rfl) ((SL.out.look (hC_.at 3 (by kernel_rfl)) _ WP.out.2.1).trans (by rw [eR]))) (zm 161 (.bool false) (by kernel_rfl) (by kernel_rfl) (zm 162 (.bool false) (by kernel_rfl) (by kernel_rfl) (zm 163 (.bool false) (by kernel_rfl) (by kernel_rfl) (zv 164 (.pointer (some ⟨wr.heap.size, 2, none⟩)) (by kernel_rfl) (fun _ => ex_field (u := .pointer (some ⟨wr.heap.size, 0, none⟩)) rfl (by kernel_rfl) (by kernel_rfl)) (zi 165 (.int .i64 (rd_T64 l2 y).f2) (by kernel_rfl) (fun w_ hC_ => ex_load (ad := ⟨wr.heap.size, 2, none⟩) rfl (by kernel_rfl) (ld_2 (hC_.c 1 2 (by kernel_rfl) (by kernel_rfl)))) (zb 166 (((rd_T64 l2 y).f2 != (-1))) true (by kernel_rfl) (fun _ => ex_neq (by kernel_rfl) (by kernel_rfl) rfl) (e4) (zm 167 (.bool true) (by kernel_rfl) (by kernel_rfl) (zm 168 (.map (some gm)) (by kernel_rfl) (by kernel_rfl) ?_))))))))
                  with_reducible refine zv 169 (.pointer (some ⟨wr.heap.size, 2, none⟩)) (by kernel_rfl) (fun _ => ex_field (u := .pointer (some ⟨wr.heap.size, 0, none⟩)) rfl (by kernel_rfl) (by kernel_rfl)) (zi 170 (.int .i64 (rd_T64 l2 y).f2) (by kernel_rfl) (fun w_ hC_ => ex_load (ad := ⟨wr.heap.size, 2, none⟩) rfl (by kernel_rfl) (ld_2 (hC_.c 1 2 (by kernel_rfl) (by kernel_rfl)))) (zi 171 (.bool false) (by kernel_rfl) (fun w_ hC_ => ex_look (u := .map (some gm)) (u' := .int .i64 (rd_T64 l2 y).f2) rfl (by kernel_rfl) (by kernel_rfl) ((SL.out.look (hC_.at 3 (by kernel_rfl)) _ WP.out.2.2).trans (by rw [e8]))) (zm 172 (.bool true) (by kernel_rfl) (by kernel_rfl) (zm 173 (.bool true) (by kernel_rfl) (by kernel_rfl) (zs 174 (by kernel_rfl) (zs 175 (by kernel_rfl) (zs 176 (by kernel_rfl) (zm 177 (.bool true) (by kernel_rfl) (by kernel_rfl) ?_))))))))
                  with_reducible refine zm 178 (.bool true) (by kernel_rfl) (by kernel_rfl) (zm 179 (.bool true) (by kernel_rfl) (by kernel_rfl) (zm 180 (.bool true) (by kernel_rfl) (by kernel_rfl) (zs 181 (by kernel_rfl) (zs 182 (by kernel_rfl) (zs 183 (by kernel_rfl) (zm 184 (.bool true) (by kernel_rfl) (by kernel_rfl) (zm 185 (.bool true) (by kernel_rfl) (by kernel_rfl) (zs 186 (by kernel_rfl) ?_))))))))
                  with_reducible refine zs 187 (by kernel_rfl) (zs 188 (by kernel_rfl) (zm 189 (.bool true) (by kernel_rfl) (by kernel_rfl) ?_))
                  refine z_end ?_
                  intro wq hC_
                  have HCH := Aside0.mk hC_
                  clear hC_
                  simp only [putL, Act.put, List.setIfInBounds_toArray, List.set_cons_zero, List.set_cons_succ]
                  go_wp2
                  go_ret
                  exact ⟨by rw [R.out]; rfl, HCH.out.below⟩
                have e8 := q8
                by_cases q7 : (rd_T64 l2 y).f3 = 0
                case neg =>
                  have e7 : ((rd_T64 l2 y).f3 != 0) = true := bne_iff_ne.mpr q7
                  have R := Aside0.mk (gone (by unfold pB; rw [h1, q2, q3, if_neg q4, decide_eq_false q7]; rfl))
                  clear gone y0 yl yp q1 o1 o2 o3 h1 q2 q3 q4 q8 q7
                  go_upto_region 15 with (fail)
                  have hc1 := CH.alloc (.cells #[.int .i64 (rd_T64 l2 y).f0, .int .i64 (rd_T64 l2 y).f1, .int .i64 (rd_T64 l2 y).f2, .int .i64 (rd_T64 l2 y).f3] 64) (CH.cons BF.out (CH.cons BM.out (CH.nil HB.out)))
                  generalize World.alloc wr _ = w2 at hc1 ⊢
                  have z2_0 := hc1.old Z2_0.out
                  have z2_1 := hc1.old Z2_1.out
                  have z2_2 := hc1.old Z2_2.out
                  have z2_3 := hc1.old Z2_3.out
                  obtain ⟨hz0, hz1, hz2, hz3, hz4, hz5, hz6, hz7, hz8, hz9⟩ := ten_ (hc1.at 1 rfl)
                  have HC_ := Aside0.mk hc1
                  clear hc1
                  go_upto_region 17 with (fail)
                  refine zl_start 191 (CH w _) (CH.alloc (.cells #[.int .i64 (rd_T64 l2 (wrap64 (y - 1))).f0, .int .i64 (rd_T64 l2 (wrap64 (y - 1))).f1, .int .i64 (rd_T64 l2 (wrap64 (y - 1))).f2, .int .i64 (rd_T64 l2 (wrap64 (y - 1))).f3] 64) HC_.out) ?_
                  with_reducible refine zv 132 (.pointer (some ⟨w2.heap.size, 0, none⟩)) (by kernel_rfl) (fun _ => ex_field (u := .pointer (some ⟨w2.heap.size, 0, none⟩)) rfl (by kernel_rfl) (by kernel_rfl)) (zi 133 (.int .i64 (rd_T64 l2 (wrap64 (y - 1))).f0) (by kernel_rfl) (fun w_ hC_ => ex_load (ad := ⟨w2.heap.size, 0, none⟩) rfl (by kernel_rfl) (ld_2 (hC_.c 0 0 (by kernel_rfl) (by kernel_rfl)))) (zv 134 (.pointer (some ⟨wr.heap.size, 0, none⟩)) (by kernel_rfl) (fun _ => ex_field (u := .pointer (some ⟨wr.heap.size, 0, none⟩)) rfl (by kernel_rfl) (by kernel_rfl)) (zi 135 (.int .i64 (rd_T64 l2 y).f0) (by kernel_rfl) (fun w_ hC_ => ex_load (ad := ⟨wr.heap.size, 0, none⟩) rfl (by kernel_rfl) (ld_2 (hC_.c 1 0 (by kernel_rfl) (by kernel_rfl)))) (zb 136 (decide ((rd_T64 l2 y).f0 < (rd_T64 l2 (wrap64 (y - 1))).f0)) false (by kernel_rfl) (fun _ => ex_gtr (by kernel_rfl) (by kernel_rfl) rfl) (eo1) (zm 137 (.bool false) (by kernel_rfl) (by kernel_rfl) (zv 138 (.pointer (some ⟨w2.heap.size, 0, none⟩)) (by kernel_rfl) (fun _ => ex_field (u := .pointer (some ⟨w2.heap.size, 0, none⟩)) rfl (by kernel_rfl) (by kernel_rfl)) (zi 139 (.int .i64 (rd_T64 l2 (wrap64 (y - 1))).f0) (by kernel_rfl) (fun w_ hC_ => ex_load (ad := ⟨w2.heap.size, 0, none⟩) rfl (by kernel_rfl) (ld_2 (hC_.c 0 0 (by kernel_rfl) (by kernel_rfl)))) (zv 140 (.pointer (some ⟨wr.heap.size, 0, none⟩)) (by kernel_rfl) (fun _ => ex_field (u := .pointer (some ⟨wr.heap.size, 0, none⟩)) rfl (by kernel_rfl) (by kernel_rfl)) ?_))))))))
                  with_reducible refine zi 141 (.int .i64 (rd_T64 l2 y).f0) (by kernel_rfl) (fun w_ hC_ => ex_load (ad := ⟨wr.heap.size, 0, none⟩) rfl (by kernel_rfl) (ld_2 (hC_.c 1 0 (by kernel_rfl) (by kernel_rfl)))) (zb 142 (((rd_T64 l2 (wrap64 (y - 1))).f0 == (rd_T64 l2 y).f0)) true (by kernel_rfl) (fun _ => ex_eql (by kernel_rfl) (by kernel_rfl) rfl) (eo2) (zm 143 (.bool true) (by kernel_rfl) (by kernel_rfl) (zv 144 (.pointer (some ⟨w2.heap.size, 1, none⟩)) (by kernel_rfl) (fun _ => ex_field (u := .pointer (some ⟨w2.heap.size, 0, none⟩)) rfl (by kernel_rfl) (by kernel_rfl)) (zi 145 (.int .i64 (rd_T64 l2 (wrap64 (y - 1))).f1) (by kernel_rfl) (fun w_ hC_ => ex_load (ad := ⟨w2.heap.size, 1, none⟩) rfl (by kernel_rfl) (ld_2 (hC_.c 0 1 (by kernel_rfl) (by kernel_rfl)))) (zv 146 (.pointer (some ⟨wr.heap.size, 1, none⟩)) (by kernel_rfl) (fun _ => ex_field (u := .pointer (some ⟨wr.heap.size, 0, none⟩)) rfl (by kernel_rfl) (by kernel_rfl)) (zi 147 (.int .i64 (rd_T64 l2 y).f1) (by kernel_rfl) (fun w_ hC_ => ex_load (ad := ⟨wr.heap.size, 1, none⟩) rfl (by kernel_rfl) (ld_2 (hC_.c 1 1 (by kernel_rfl) (by kernel_rfl)))) (zb 148 (decide ((rd_T64 l2 y).f1 ≤ (rd_T64 l2 (wrap64 (y - 1))).f1)) false (by kernel_rfl) (fun _ => ex_geq (by kernel_rfl) (by kernel_rfl) rfl) (eo3) (zm 149 (.bool false) (by kernel_rfl) (by kernel_rfl) ?_))))))))
                  with_reducible refine zm 150 (.bool false) (by kernel_rfl) (by kernel_rfl) ?_
                  refine z_end ?_
                  intro wq hC_
                  simp only [putL, Act.put, List.setIfInBounds_toArray, List.set_cons_zero, List.set_cons_succ]
                  go_upto_region 19 with (fail)
                  refine zl_start 191 (CH w _) hC_ ?_
                  clear hC_
                  with_reducible refine zm 151 (.map (some gm)) (by kernel_rfl) (by kernel_rfl) (zv 152 (.pointer (some ⟨wr.heap.size, 0, none⟩)) (by kernel_rfl) (fun _ => ex_field (u := .pointer (some ⟨wr.heap.size, 0, none⟩)) rfl (by kernel_rfl) (by kernel_rfl)) (zi 153 (.int .i64 (rd_T64 l2 y).f0) (by kernel_rfl) (fun w_ hC_ => ex_load (ad := ⟨wr.heap.size, 0, none⟩) rfl (by kernel_rfl) (ld_2 (hC_.c 1 0 (by kernel_rfl) (by kernel_rfl)))) (zi 154 (.bool true) (by kernel_rfl) (fun w_ hC_ => ex_look (u := .map (some gm)) (u' := .int .i64 (rd_T64 l2 y).f0) rfl (by kernel_rfl) (by kernel_rfl) ((SL.out.look (hC_.at 3 (by kernel_rfl)) _ WP.out.1).trans (by rw [eL]))) (zm 155 (.bool false) (by kernel_rfl) (by kernel_rfl) (zm 156 (.bool false) (by kernel_rfl) (by kernel_rfl) (zm 157 (.map (some gm)) (by kernel_rfl) (by kernel_rfl) (zv 158 (.pointer (some ⟨wr.heap.size, 1, none⟩)) (by kernel_rfl) (fun _ => ex_field (u := .pointer (some ⟨wr.heap.size, 0, none⟩)) rfl (by kernel_rfl) (by kernel_rfl)) (zi 159 (.int .i64 (rd_T64 l2 y).f1) (by kernel_rfl) (fun w_ hC_ => ex_load (ad := ⟨wr.heap.size, 1, none⟩) rfl (by kernel_rfl) (ld_2 (hC_.c 1 1 (by kernel_rfl) (by kernel_rfl)))) ?_))))))))
                  with_reducible refine zi 160 (.bool true) (by kernel_rfl) (fun w_ hC_ => ex_look (u := .map (some gm)) (u' := .int .i64 (rd_T64 l2 y).f1) rfl (by kernel_rfl) (by kernel_rfl) ((SL.out.look (hC_.at 3 (by kernel_rfl)) _ WP.out.2.1).trans (by rw [eR]))) (zm 161 (.bool false) (by kernel_rfl) (by kernel_rfl) (zm 162 (.bool false) (by kernel_rfl) (by kernel_rfl) (zm 163 (.bool false) (by kernel_rfl) (by kernel_rfl) (zv 164 (.pointer (some ⟨wr.heap.size, 2, none⟩)) (by kernel_rfl) (fun _ => ex_field (u := .pointer (some ⟨wr.heap.size, 0, none⟩)) rfl (by kernel_rfl) (by kernel_rfl)) (zi 165 (.int .i64 (rd_T64 l2 y).f2) (by kernel_rfl) (fun w_ hC_ => ex_load (ad := ⟨wr.heap.size, 2, none⟩) rfl (by kernel_rfl) (ld_2 (hC_.c 1 2 (by kernel_rfl) (by kernel_rfl)))) (zb 166 (((rd_T64 l2 y).f2 != (-1))) true (by kernel_rfl) (fun _ => ex_neq (by kernel_rfl) (by kernel_rfl) rfl) (e4) (zm 167 (.bool true) (by kernel_rfl) (by kernel_rfl) (zm 168 (.map (some gm)) (by kernel_rfl) (by kernel_rfl) ?_))))))))
                  with_reducible refine zv 169 (.pointer (some ⟨wr.heap.size, 2, none⟩)) (by kernel_rfl) (fun _ => ex_field (u := .pointer (some ⟨wr.heap.size, 0, none⟩)) rfl (by kernel_rfl) (by kernel_rfl)) (zi 170 (.int .i64 (rd_T64 l2 y).f2) (by kernel_rfl) (fun w_ hC_ => ex_load (ad := ⟨wr.heap.size, 2, none⟩) rfl (by kernel_rfl) (ld_2 (hC_.c 1 2 (by kernel_rfl) (by kernel_rfl)))) (zi 171 (.bool true) (by kernel_rfl) (fun w_ hC_ => ex_look (u := .map (some gm)) (u' := .int .i64 (rd_T64 l2 y).f2) rfl (by kernel_rfl) (by kernel_rfl) ((SL.out.look (hC_.at 3 (by kernel_rfl)) _ WP.out.2.2).trans (by rw [e8]))) (zm 172 (.bool false) (by kernel_rfl) (by kernel_rfl) (zm 173 (.bool false) (by kernel_rfl) (by kernel_rfl) (zv 174 (.pointer (some ⟨wr.heap.size, 3, none⟩)) (by kernel_rfl) (fun _ => ex_field (u := .pointer (some ⟨wr.heap.size, 0, none⟩)) rfl (by kernel_rfl) (by kernel_rfl)) (zi 175 (.int .i64 (rd_T64 l2 y).f3) (by kernel_rfl) (fun w_ hC_ => ex_load (ad := ⟨wr.heap.size, 3, none⟩) rfl (by kernel_rfl) (ld_2 (hC_.c 1 3 (by kernel_rfl) (by kernel_rfl)))) (zb 176 (((rd_T64 l2 y).f3 != 0)) true (by kernel_rfl) (fun _ => ex_neq (by kernel_rfl) (by kernel_rfl) rfl) (e7) (zm 177 (.bool true) (by kernel_rfl) (by kernel_rfl) ?_))))))))
                  with_reducible refine zm 178 (.bool true) (by kernel_rfl) (by kernel_rfl) (zm 179 (.bool true) (by kernel_rfl) (by kernel_rfl) (zm 180 (.bool true) (by kernel_rfl) (by kernel_rfl) (zs 181 (by kernel_rfl) (zs 182 (by kernel_rfl) (zs 183 (by kernel_rfl) (zm 184 (.bool true) (by kernel_rfl) (by kernel_rfl) (zm 185 (.bool true) (by kernel_rfl) (by kernel_rfl) (zs 186 (by kernel_rfl) ?_))))))))
                  with_reducible refine zs 187 (by kernel_rfl) (zs 188 (by kernel_rfl) (zm 189 (.bool true) (by kernel_rfl) (by kernel_rfl) ?_))
                  refine z_end ?_
                  intro wq hC_
                  have HCH := Aside0.mk hC_
                  clear hC_
                  simp only [putL, Act.put, List.setIfInBounds_toArray, List.set_cons_zero, List.set_cons_succ]
                  go_wp2
                  go_ret
                  exact ⟨by rw [R.out]; rfl, HCH.out.below⟩
                have e7 : ((rd_T64 l2 y).f3 != 0) = false := bne_eq_false_iff_eq.mpr q7
                have e5 : decide ((rd_T64 l2 y).f3 < -6553600) = false := by rw [q7]; rfl
                have e6 : decide (6553600 < (rd_T64 l2 y).f3) = false := by rw [q7]; rfl
                have GB : pB l1 l2 y = true := by unfold pB; rw [h1, q2, q3, if_neg q4, decide_eq_true q7, q8]; rfl
                have GD : Aside0 (∀ m : Nat, (m : Int) < y + 1 → pB l1 l2 (m : Int) = true) := ⟨all_step HY.out.2.2 GB⟩
                have XW : Aside0 (wrap64 (y + 1) = y + 1) := ⟨win _ (by omega) (by have := HM.out.2; omega)⟩
                have XLA := Aside0.mk yl
                clear gone y0 yl yp q1 o1 o2 o3 h1 q2 q3 q4 q8 q7 GB
                cases gk with
                | zero => exact absurd XLA.out (by have := HF.out; omega)
                | succ k1 =>
                  go_upto_region 15 with (fail)
                  have hc1 := CH.alloc (.cells #[.int .i64 (rd_T64 l2 y).f0, .int .i64 (rd_T64 l2 y).f1, .int .i64 (rd_T64 l2 y).f2, .int .i64 (rd_T64 l2 y).f3] 64) (CH.cons BF.out (CH.cons BM.out (CH.nil HB.out)))
                  generalize World.alloc wr _ = w2 at hc1 ⊢
                  have z2_0 := hc1.old Z2_0.out
                  have z2_1 := hc1.old Z2_1.out
                  have z2_2 := hc1.old Z2_2.out
                  have z2_3 := hc1.old Z2_3.out
                  obtain ⟨hz0, hz1, hz2, hz3, hz4, hz5, hz6, hz7, hz8, hz9⟩ := ten_ (hc1.at 1 rfl)
                  have HC_ := Aside0.mk hc1
                  clear hc1
                  go_upto_region 17 with (fail)
                  refine zl_start 191 (CH w _) (CH.alloc (.cells #[.int .i64 (rd_T64 l2 (wrap64 (y - 1))).f0, .int .i64 (rd_T64 l2 (wrap64 (y - 1))).f1, .int .i64 (rd_T64 l2 (wrap64 (y - 1))).f2, .int .i64 (rd_T64 l2 (wrap64 (y - 1))).f3] 64) HC_.out) ?_
                  with_reducible refine zv 132 (.pointer (some ⟨w2.heap.size, 0, none⟩)) (by kernel_rfl) (fun _ => ex_field (u := .pointer (some ⟨w2.heap.size, 0, none⟩)) rfl (by kernel_rfl) (by kernel_rfl)) (zi 133 (.int .i64 (rd_T64 l2 (wrap64 (y - 1))).f0) (by kernel_rfl) (fun w_ hC_ => ex_load (ad := ⟨w2.heap.size, 0, none⟩) rfl (by kernel_rfl) (ld_2 (hC_.c 0 0 (by kernel_rfl) (by kernel_rfl)))) (zv 134 (.pointer (some ⟨wr.heap.size, 0, none⟩)) (by kernel_rfl) (fun _ => ex_field (u := .pointer (some ⟨wr.heap.size, 0, none⟩)) rfl (by kernel_rfl) (by kernel_rfl)) (zi 135 (.int .i64 (rd_T64 l2 y).f0) (by kernel_rfl) (fun w_ hC_ => ex_load (ad := ⟨wr.heap.size, 0, none⟩) rfl (by kernel_rfl) (ld_2 (hC_.c 1 0 (by kernel_rfl) (by kernel_rfl)))) (zb 136 (decide ((rd_T64 l2 y).f0 < (rd_T64 l2 (wrap64 (y - 1))).f0)) false (by kernel_rfl) (fun _ => ex_gtr (by kernel_rfl) (by kernel_rfl) rfl) (eo1) (zm 137 (.bool false) (by kernel_rfl) (by kernel_rfl) (zv 138 (.pointer (some ⟨w2.heap.size, 0, none⟩)) (by kernel_rfl) (fun _ => ex_field (u := .pointer (some ⟨w2.heap.size, 0, none⟩)) rfl (by kernel_rfl) (by kernel_rfl)) (zi 139 (.int .i64 (rd_T64 l2 (wrap64 (y - 1))).f0) (by kernel_rfl) (fun w_ hC_ => ex_load (ad := ⟨w2.heap.size, 0, none⟩) rfl (by kernel_rfl) (ld_2 (hC_.c 0 0 (by kernel_rfl) (by kernel_rfl)))) (zv 140 (.pointer (some ⟨wr.heap.size, 0, none⟩)) (by kernel_rfl) (fun _ => ex_field (u := .pointer (some ⟨wr.heap.size, 0, none⟩)) rfl (by kernel_rfl) (by kernel_rfl)) ?_))))))))
                  with_reducible refine zi 141 (.int .i64 (rd_T64 l2 y).f0) (by kernel_rfl) (fun w_ hC_ => ex_load (ad := ⟨wr.heap.size, 0, none⟩) rfl (by kernel_rfl) (ld_2 (hC_.c 1 0 (by kernel_rfl) (by kernel_rfl)))) (zb 142 (((rd_T64 l2 (wrap64 (y - 1))).f0 == (rd_T64 l2 y).f0)) true (by kernel_rfl) (fun _ => ex_eql (by kernel_rfl) (by kernel_rfl) rfl) (eo2) (zm 143 (.bool true) (by kernel_rfl) (by kernel_rfl) (zv 144 (.pointer (some ⟨w2.heap.size, 1, none⟩)) (by kernel_rfl) (fun _ => ex_field (u := .pointer (some ⟨w2.heap.size, 0, none⟩)) rfl (by kernel_rfl) (by kernel_rfl)) (zi 145 (.int .i64 (rd_T64 l2 (wrap64 (y - 1))).f1) (by kernel_rfl) (fun w_ hC_ => ex_load (ad := ⟨w2.heap.size, 1, none⟩) rfl (by kernel_rfl) (ld_2 (hC_.c 0 1 (by kernel_rfl) (by kernel_rfl)))) (zv 146 (.pointer (some ⟨wr.heap.size, 1, none⟩)) (by kernel_rfl) (fun _ => ex_field (u := .pointer (some ⟨wr.heap.size, 0, none⟩)) rfl (by kernel_rfl) (by kernel_rfl)) (zi 147 (.int .i64 (rd_T64 l2 y).f1) (by kernel_rfl) (fun w_ hC_ => ex_load (ad := ⟨wr.heap.size, 1, none⟩) rfl (by kernel_rfl) (ld_2 (hC_.c 1 1 (by kernel_rfl) (by kernel_rfl)))) (zb 148 (decide ((rd_T64 l2 y).f1 ≤ (rd_T64 l2 (wrap64 (y - 1))).f1)) false (by kernel_rfl) (fun _ => ex_geq (by kernel_rfl) (by kernel_rfl) rfl) (eo3) (zm 149 (.bool false) (by kernel_rfl) (by kernel_rfl) ?_))))))))
                  with_reducible refine zm 150 (.bool false) (by kernel_rfl) (by kernel_rfl) ?_
                  refine z_end ?_
                  intro wq hC_
                  simp only [putL, Act.put, List.setIfInBounds_toArray, List.set_cons_zero, List.set_cons_succ]
                  go_upto_region 19 with (fail)
                  refine zl_start 191 (CH w _) hC_ ?_
                  clear hC_
                  with_reducible refine zm 151 (.map (some gm)) (by kernel_rfl) (by kernel_rfl) (zv 152 (.pointer (some ⟨wr.heap.size, 0, none⟩)) (by kernel_rfl) (fun _ => ex_field (u := .pointer (some ⟨wr.heap.size, 0, none⟩)) rfl (by kernel_rfl) (by kernel_rfl)) (zi 153 (.int .i64 (rd_T64 l2 y).f0) (by kernel_rfl) (fun w_ hC_ => ex_load (ad := ⟨wr.heap.size, 0, none⟩) rfl (by kernel_rfl) (ld_2 (hC_.c 1 0 (by kernel_rfl) (by kernel_rfl)))) (zi 154 (.bool true) (by kernel_rfl) (fun w_ hC_ => ex_look (u := .map (some gm)) (u' := .int .i64 (rd_T64 l2 y).f0) rfl (by kernel_rfl) (by kernel_rfl) ((SL.out.look (hC_.at 3 (by kernel_rfl)) _ WP.out.1).trans (by rw [eL]))) (zm 155 (.bool false) (by kernel_rfl) (by kernel_rfl) (zm 156 (.bool false) (by kernel_rfl) (by kernel_rfl) (zm 157 (.map (some gm)) (by kernel_rfl) (by kernel_rfl) (zv 158 (.pointer (some ⟨wr.heap.size, 1, none⟩)) (by kernel_rfl) (fun _ => ex_field (u := .pointer (some ⟨wr.heap.size, 0, none⟩)) rfl (by kernel_rfl) (by kernel_rfl)) (zi 159 (.int .i64 (rd_T64 l2 y).f1) (by kernel_rfl) (fun w_ hC_ => ex_load (ad := ⟨wr.heap.size, 1, none⟩) rfl (by kernel_rfl) (ld_2 (hC_.c 1 1 (by kernel_rfl) (by kernel_rfl)))) ?_))))))))
                  with_reducible refine zi 160 (.bool true) (by kernel_rfl) (fun w_ hC_ => ex_look (u := .map (some gm)) (u' := .int .i64 (rd_T64 l2 y).f1) rfl (by kernel_rfl) (by kernel_rfl) ((SL.out.look (hC_.at 3 (by kernel_rfl)) _ WP.out.2.1).trans (by rw [eR]))) (zm 161 (.bool false) (by kernel_rfl) (by kernel_rfl) (zm 162 (.bool false) (by kernel_rfl) (by kernel_rfl) (zm 163 (.bool false) (by kernel_rfl) (by kernel_rfl) (zv 164 (.pointer (some ⟨wr.heap.size, 2, none⟩)) (by kernel_rfl) (fun _ => ex_field (u := .pointer (some ⟨wr.heap.size, 0, none⟩)) rfl (by kernel_rfl) (by kernel_rfl)) (zi 165 (.int .i64 (rd_T64 l2 y).f2) (by kernel_rfl) (fun w_ hC_ => ex_load (ad := ⟨wr.heap.size, 2, none⟩) rfl (by kernel_rfl) (ld_2 (hC_.c 1 2 (by kernel_rfl) (by kernel_rfl)))) (zb 166 (((rd_T64 l2 y).f2 != (-1))) true (by kernel_rfl) (fun _ => ex_neq (by kernel_rfl) (by kernel_rfl) rfl) (e4) (zm 167 (.bool true) (by kernel_rfl) (by kernel_rfl) (zm 168 (.map (some gm)) (by kernel_rfl) (by kernel_rfl) ?_))))))))
                  with_reducible refine zv 169 (.pointer (some ⟨wr.heap.size, 2, none⟩)) (by kernel_rfl) (fun _ => ex_field (u := .pointer (some ⟨wr.heap.size, 0, none⟩)) rfl (by kernel_rfl) (by kernel_rfl)) (zi 170 (.int .i64 (rd_T64 l2 y).f2) (by kernel_rfl) (fun w_ hC_ => ex_load (ad := ⟨wr.heap.size, 2, none⟩) rfl (by kernel_rfl) (ld_2 (hC_.c 1 2 (by kernel_rfl) (by kernel_rfl)))) (zi 171 (.bool true) (by kernel_rfl) (fun w_ hC_ => ex_look (u := .map (some gm)) (u' := .int .i64 (rd_T64 l2 y).f2) rfl (by kernel_rfl) (by kernel_rfl) ((SL.out.look (hC_.at 3 (by kernel_rfl)) _ WP.out.2.2).trans (by rw [e8]))) (zm 172 (.bool false) (by kernel_rfl) (by kernel_rfl) (zm 173 (.bool false) (by kernel_rfl) (by kernel_rfl) (zv 174 (.pointer (some ⟨wr.heap.size, 3, none⟩)) (by kernel_rfl) (fun _ => ex_field (u := .pointer (some ⟨wr.heap.size, 0, none⟩)) rfl (by kernel_rfl) (by kernel_rfl)) (zi 175 (.int .i64 (rd_T64 l2 y).f3) (by kernel_rfl) (fun w_ hC_ => ex_load (ad := ⟨wr.heap.size, 3, none⟩) rfl (by kernel_rfl) (ld_2 (hC_.c 1 3 (by kernel_rfl) (by kernel_rfl)))) (zb 176 (((rd_T64 l2 y).f3 != 0)) false (by kernel_rfl) (fun _ => ex_neq (by kernel_rfl) (by kernel_rfl) rfl) (e7) (zm 177 (.bool false) (by kernel_rfl) (by kernel_rfl) ?_))))))))
                  with_reducible refine zm 178 (.bool false) (by kernel_rfl) (by kernel_rfl) (zm 179 (.bool false) (by kernel_rfl) (by kernel_rfl) (zm 180 (.bool false) (by kernel_rfl) (by kernel_rfl) (zv 181 (.pointer (some ⟨wr.heap.size, 3, none⟩)) (by kernel_rfl) (fun _ => ex_field (u := .pointer (some ⟨wr.heap.size, 0, none⟩)) rfl (by kernel_rfl) (by kernel_rfl)) (zi 182 (.int .i64 (rd_T64 l2 y).f3) (by kernel_rfl) (fun w_ hC_ => ex_load (ad := ⟨wr.heap.size, 3, none⟩) rfl (by kernel_rfl) (ld_2 (hC_.c 1 3 (by kernel_rfl) (by kernel_rfl)))) (zb 183 (decide ((rd_T64 l2 y).f3 < (-6553600))) false (by kernel_rfl) (fun _ => ex_lss (by kernel_rfl) (by kernel_rfl) rfl) (e5) (zm 184 (.bool false) (by kernel_rfl) (by kernel_rfl) (zm 185 (.bool false) (by kernel_rfl) (by kernel_rfl) (zv 186 (.pointer (some ⟨wr.heap.size, 3, none⟩)) (by kernel_rfl) (fun _ => ex_field (u := .pointer (some ⟨wr.heap.size, 0, none⟩)) rfl (by kernel_rfl) (by kernel_rfl)) ?_))))))))
                  with_reducible refine zi 187 (.int .i64 (rd_T64 l2 y).f3) (by kernel_rfl) (fun w_ hC_ => ex_load (ad := ⟨wr.heap.size, 3, none⟩) rfl (by kernel_rfl) (ld_2 (hC_.c 1 3 (by kernel_rfl) (by kernel_rfl)))) (zb 188 (decide (6553600 < (rd_T64 l2 y).f3)) false (by kernel_rfl) (fun _ => ex_gtr (by kernel_rfl) (by kernel_rfl) rfl) (e6) (zm 189 (.bool false) (by kernel_rfl) (by kernel_rfl) ?_))
                  refine z_end ?_
                  intro wq hC_
                  have HCH := Aside0.mk hC_
                  clear hC_
                  simp only [putL, Act.put, List.setIfInBounds_toArray, List.set_cons_zero, List.set_cons_succ]
                  go_wp2
                  go_roundg k1
                  case measure => omega
                  case rel => exact ⟨wrap64 (y + 1), (by first | rfl | (simp; done) | (simp [*]; done)), ⟨by rw [XW.out]; have := HF.out; omega⟩, ⟨⟨by rw [XW.out]; have := HY.out.1; omega, by rw [XW.out]; have := XLA.out; omega, by rw [XW.out]; exact GD.out⟩⟩, ⟨HCH.out.at 2 rfl⟩, ⟨HCH.out.at 3 rfl⟩, ⟨HCH.out.below⟩⟩
          case neg =>
            have eyp : decide (0 < y) = false := decide_eq_false yp
            have h1 : (decide (¬ 0 < y) || lessB (rd_T64 l2 (wrap64 (y - 1))) (rd_T64 l2 y)) = true := by rw [decide_eq_true yp]; rfl
            by_cases q2 : hasB l1 (rd_T64 l2 y).f0 = true
            case neg =>
              have q2' : hasB l1 (rd_T64 l2 y).f0 = false := by simpa using q2
              have eL := q2'
              have R := Aside0.mk (gone (by unfold pB; rw [h1, q2']; rfl))
              clear gone y0 yl yp h1 q2
              go_upto_region 19 with (fail)
              have hC_ := CH.alloc (.cells #[.int .i64 (rd_T64 l2 y).f0, .int .i64 (rd_T64 l2 y).f1, .int .i64 (rd_T64 l2 y).f2, .int .i64 (rd_T64 l2 y).f3] 64) (CH.cons BF.out (CH.cons BM.out (CH.nil HB.out)))
              refine zl_start 191 (CH w _) hC_ ?_
              clear hC_
              with_reducible refine zm 151 (.map (some gm)) (by kernel_rfl) (by kernel_rfl) (zv 152 (.pointer (some ⟨wr.heap.size, 0, none⟩)) (by kernel_rfl) (fun _ => ex_field (u := .pointer (some ⟨wr.heap.size, 0, none⟩)) rfl (by kernel_rfl) (by kernel_rfl)) (zi 153 (.int .i64 (rd_T64 l2 y).f0) (by kernel_rfl) (fun w_ hC_ => ex_load (ad := ⟨wr.heap.size, 0, none⟩) rfl (by kernel_rfl) (ld_2 (hC_.c 0 0 (by kernel_rfl) (by kernel_rfl)))) (zi 154 (.bool false) (by kernel_rfl) (fun w_ hC_ => ex_look (u := .map (some gm)) (u' := .int .i64 (rd_T64 l2 y).f0) rfl (by kernel_rfl) (by kernel_rfl) ((SL.out.look (hC_.at 2 (by kernel_rfl)) _ WP.out.1).trans (by rw [eL]))) (zm 155 (.bool true) (by kernel_rfl) (by kernel_rfl) (zm 156 (.bool true) (by kernel_rfl) (by kernel_rfl) (zs 157 (by kernel_rfl) (zs 158 (by kernel_rfl) (zs 159 (by kernel_rfl) ?_))))))))
              with_reducible refine zs 160 (by kernel_rfl) (zs 161 (by kernel_rfl) (zm 162 (.bool true) (by kernel_rfl) (by kernel_rfl) (zm 163 (.bool true) (by kernel_rfl) (by kernel_rfl) (zs 164 (by kernel_rfl) (zs 165 (by kernel_rfl) (zs 166 (by kernel_rfl) (zs 167 (by kernel_rfl) (zs 168 (by kernel_rfl) ?_))))))))
              with_reducible refine zs 169 (by kernel_rfl) (zs 170 (by kernel_rfl) (zs 171 (by kernel_rfl) (zs 172 (by kernel_rfl) (zs 173 (by kernel_rfl) (zs 174 (by kernel_rfl) (zs 175 (by kernel_rfl) (zs 176 (by kernel_rfl) (zs 177 (by kernel_rfl) ?_))))))))
              with_reducible refine zs 178 (by kernel_rfl) (zm 179 (.bool true) (by kernel_rfl) (by kernel_rfl) (zm 180 (.bool true) (by kernel_rfl) (by kernel_rfl) (zs 181 (by kernel_rfl) (zs 182 (by kernel_rfl) (zs 183 (by kernel_rfl) (zm 184 (.bool true) (by kernel_rfl) (by kernel_rfl) (zm 185 (.bool true) (by kernel_rfl) (by kernel_rfl) (zs 186 (by kernel_rfl) ?_))))))))
              with_reducible refine zs 187 (by kernel_rfl) (zs 188 (by kernel_rfl) (zm 189 (.bool true) (by kernel_rfl) (by kernel_rfl) ?_))
              refine z_end ?_
              intro wq hC_
              have HCH := Aside0.mk hC_
              clear hC_
              simp only [putL, Act.put, List.setIfInBounds_toArray, List.set_cons_zero, List.set_cons_succ]
              go_wp2
              go_ret
              exact ⟨by rw [R.out]; rfl, HCH.out.below⟩
            have eL := q2
            by_cases q3 : hasB l1 (rd_T64 l2 y).f1 = true
            case neg =>
              have q3' : hasB l1 (rd_T64 l2 y).f1 = false := by simpa using q3
              have eR := q3'
              have R := Aside0.mk (gone (by unfold pB; rw [h1, q2, q3']; rfl))
              clear gone y0 yl yp h1 q2 q3
              go_upto_region 19 with (fail)
              have hC_ := CH.alloc (.cells #[.int .i64 (rd_T64 l2 y).f0, .int .i64 (rd_T64 l2 y).f1, .int .i64 (rd_T64 l2 y).f2, .int .i64 (rd_T64 l2 y).f3] 64) (CH.cons BF.out (CH.cons BM.out (CH.nil HB.out)))
              refine zl_start 191 (CH w _) hC_ ?_
              clear hC_
              with_reducible refine zm 151 (.map (some gm)) (by kernel_rfl) (by kernel_rfl) (zv 152 (.pointer (some ⟨wr.heap.size, 0, none⟩)) (by kernel_rfl) (fun _ => ex_field (u := .pointer (some ⟨wr.heap.size, 0, none⟩)) rfl (by kernel_rfl) (by kernel_rfl)) (zi 153 (.int .i64 (rd_T64 l2 y).f0) (by kernel_rfl) (fun w_ hC_ => ex_load (ad := ⟨wr.heap.size, 0, none⟩) rfl (by kernel_rfl) (ld_2 (hC_.c 0 0 (by kernel_rfl) (by kernel_rfl)))) (zi 154 (.bool true) (by kernel_rfl) (fun w_ hC_ => ex_look (u := .map (some gm)) (u' := .int .i64 (rd_T64 l2 y).f0) rfl (by kernel_rfl) (by kernel_rfl) ((SL.out.look (hC_.at 2 (by kernel_rfl)) _ WP.out.1).trans (by rw [eL]))) (zm 155 (.bool false) (by kernel_rfl) (by kernel_rfl) (zm 156 (.bool false) (by kernel_rfl) (by kernel_rfl) (zm 157 (.map (some gm)) (by kernel_rfl) (by kernel_rfl) (zv 158 (.pointer (some ⟨wr.heap.size, 1, none⟩)) (by kernel_rfl) (fun _ => ex_field (u := .pointer (some ⟨wr.heap.size, 0, none⟩)) rfl (by kernel_rfl) (by kernel_rfl)) (zi 159 (.int .i64 (rd_T64 l2 y).f1) (by kernel_rfl) (fun w_ hC_ => ex_load (ad := ⟨wr.heap.size, 1, none⟩) rfl (by kernel_rfl) (ld_2 (hC_.c 0 1 (by kernel_rfl) (by kernel_rfl)))) ?_))))))))
              with_reducible refine zi 160 (.bool false) (by kernel_rfl) (fun w_ hC_ => ex_look (u := .map (some gm)) (u' := .int .i64 (rd_T64 l2 y).f1) rfl (by kernel_rfl) (by kernel_rfl) ((SL.out.look (hC_.at 2 (by kernel_rfl)) _ WP.out.2.1).trans (by rw [eR]))) (zm 161 (.bool true) (by kernel_rfl) (by kernel_rfl) (zm 162 (.bool true) (by kernel_rfl) (by kernel_rfl) (zm 163 (.bool true) (by kernel_rfl) (by kernel_rfl) (zs 164 (by kernel_rfl) (zs 165 (by kernel_rfl) (zs 166 (by kernel_rfl) (zs 167 (by kernel_rfl) (zs 168 (by kernel_rfl) ?_))))))))
              with_reducible refine zs 169 (by kernel_rfl) (zs 170 (by kernel_rfl) (zs 171 (by kernel_rfl) (zs 172 (by kernel_rfl) (zs 173 (by kernel_rfl) (zs 174 (by kernel_rfl) (zs 175 (by kernel_rfl) (zs 176 (by kernel_rfl) (zs 177 (by kernel_rfl) ?_))))))))
              with_reducible refine zs 178 (by kernel_rfl) (zm 179 (.bool true) (by kernel_rfl) (by kernel_rfl) (zm 180 (.bool true) (by kernel_rfl) (by kernel_rfl) (zs 181 (by kernel_rfl) (zs 182 (by kernel_rfl) (zs 183 (by kernel_rfl) (zm 184 (.bool true) (by kernel_rfl) (by kernel_rfl) (zm 185 (.bool true) (by kernel_rfl) (by kernel_rfl) (zs 186 (by kernel_rfl) ?_))))))))
              with_reducible refine zs 187 (by kernel_rfl) (zs 188 (by kernel_rfl) (zm 189 (.bool true) (by kernel_rfl) (by kernel_rfl) ?_))
              refine z_end ?_
              intro wq hC_
              have HCH := Aside0.mk hC_
              clear hC_
              simp only [putL, Act.put, List.setIfInBounds_toArray, List.set_cons_zero, List.set_cons_succ]
              go_wp2
              go_ret
              exact ⟨by rw [R.out]; rfl, HCH.out.below⟩
            have eR := q3
            by_cases q4 : (rd_T64 l2 y).f2 = -1
            case pos =>
              have e4 : ((rd_T64 l2 y).f2 != -1) = false := bne_eq_false_iff_eq.mpr q4
              by_cases q5 : -6553600 ≤ (rd_T64 l2 y).f3
              case neg =>
                have e5 : decide ((rd_T64 l2 y).f3 < -6553600) = true := decide_eq_true (by omega)
                have R := Aside0.mk (gone (by unfold pB; rw [h1, q2, q3, if_pos q4, decide_eq_false q5]; rfl))
                clear gone y0 yl yp h1 q2 q3 q4 q5
                go_upto_region 19 with (fail)
                have hC_ := CH.alloc (.cells #[.int .i64 (rd_T64 l2 y).f0, .int .i64 (rd_T64 l2 y).f1, .int .i64 (rd_T64 l2 y).f2, .int .i64 (rd_T64 l2 y).f3] 64) (CH.cons BF.out (CH.cons BM.out (CH.nil HB.out)))
                refine zl_start 191 (CH w _) hC_ ?_
                clear hC_
                with_reducible refine zm 151 (.map (some gm)) (by kernel_rfl) (by kernel_rfl) (zv 152 (.pointer (some ⟨wr.heap.size, 0, none⟩)) (by kernel_rfl) (fun _ => ex_field (u := .pointer (some ⟨wr.heap.size, 0, none⟩)) rfl (by kernel_rfl) (by kernel_rfl)) (zi 153 (.int .i64 (rd_T64 l2 y).f0) (by kernel_rfl) (fun w_ hC_ => ex_load (ad := ⟨wr.heap.size, 0, none⟩) rfl (by kernel_rfl) (ld_2 (hC_.c 0 0 (by kernel_rfl) (by kernel_rfl)))) (zi 154 (.bool true) (by kernel_rfl) (fun w_ hC_ => ex_look (u := .map (some gm)) (u' := .int .i64 (rd_T64 l2 y).f0) rfl (by kernel_rfl) (by kernel_rfl) ((SL.out.look (hC_.at 2 (by kernel_rfl)) _ WP.out.1).trans (by rw [eL]))) (zm 155 (.bool false) (by kernel_rfl) (by kernel_rfl) (zm 156 (.bool false) (by kernel_rfl) (by kernel_rfl) (zm 157 (.map (some gm)) (by kernel_rfl) (by kernel_rfl) (zv 158 (.pointer (some ⟨wr.heap.size, 1, none⟩)) (by kernel_rfl) (fun _ => ex_field (u := .pointer (some ⟨wr.heap.size, 0, none⟩)) rfl (by kernel_rfl) (by kernel_rfl)) (zi 159 (.int .i64 (rd_T64 l2 y).f1) (by kernel_rfl) (fun w_ hC_ => ex_load (ad := ⟨wr.heap.size, 1, none⟩) rfl (by kernel_rfl) (ld_2 (hC_.c 0 1 (by kernel_rfl) (by kernel_rfl)))) ?_))))))))
                with_reducible refine zi 160 (.bool true) (by kernel_rfl) (fun w_ hC_ => ex_look (u := .map (some gm)) (u' := .int .i64 (rd_T64 l2 y).f1) rfl (by kernel_rfl) (by kernel_rfl) ((SL.out.look (hC_.at 2 (by kernel_rfl)) _ WP.out.2.1).trans (by rw [eR]))) (zm 161 (.bool false) (by kernel_rfl) (by kernel_rfl) (zm 162 (.bool false) (by kernel_rfl) (by kernel_rfl) (zm 163 (.bool false) (by kernel_rfl) (by kernel_rfl) (zv 164 (.pointer (some ⟨wr.heap.size, 2, none⟩)) (by kernel_rfl) (fun _ => ex_field (u := .pointer (some ⟨wr.heap.size, 0, none⟩)) rfl (by kernel_rfl) (by kernel_rfl)) (zi 165 (.int .i64 (rd_T64 l2 y).f2) (by kernel_rfl) (fun w_ hC_ => ex_load (ad := ⟨wr.heap.size, 2, none⟩) rfl (by kernel_rfl) (ld_2 (hC_.c 0 2 (by kernel_rfl) (by kernel_rfl)))) (zb 166 (((rd_T64 l2 y).f2 != (-1))) false (by kernel_rfl) (fun _ => ex_neq (by kernel_rfl) (by kernel_rfl) rfl) (e4) (zm 167 (.bool false) (by kernel_rfl) (by kernel_rfl) (zs 168 (by kernel_rfl) ?_))))))))
                with_reducible refine zs 169 (by kernel_rfl) (zs 170 (by kernel_rfl) (zs 171 (by kernel_rfl) (zs 172 (by kernel_rfl) (zs 173 (by kernel_rfl) (zs 174 (by kernel_rfl) (zs 175 (by kernel_rfl) (zs 176 (by kernel_rfl) (zs 177 (by kernel_rfl) ?_))))))))
                with_reducible refine zm 178 (.bool false) (by kernel_rfl) (by kernel_rfl) (zm 179 (.bool false) (by kernel_rfl) (by kernel_rfl) (zm 180 (.bool false) (by kernel_rfl) (by kernel_rfl) (zv 181 (.pointer (some ⟨wr.heap.size, 3, none⟩)) (by kernel_rfl) (fun _ => ex_field (u := .pointer (some ⟨wr.heap.size, 0, none⟩)) rfl (by kernel_rfl) (by kernel_rfl)) (zi 182 (.int .i64 (rd_T64 l2 y).f3) (by kernel_rfl) (fun w_ hC_ => ex_load (ad := ⟨wr.heap.size, 3, none⟩) rfl (by kernel_rfl) (ld_2 (hC_.c 0 3 (by kernel_rfl) (by kernel_rfl)))) (zb 183 (decide ((rd_T64 l2 y).f3 < (-6553600))) true (by kernel_rfl) (fun _ => ex_lss (by kernel_rfl) (by kernel_rfl) rfl) (e5) (zm 184 (.bool true) (by kernel_rfl) (by kernel_rfl) (zm 185 (.bool true) (by kernel_rfl) (by kernel_rfl) (zs 186 (by kernel_rfl) ?_))))))))
                with_reducible refine zs 187 (by kernel_rfl) (zs 188 (by kernel_rfl) (zm 189 (.bool true) (by kernel_rfl) (by kernel_rfl) ?_))
                refine z_end ?_
                intro wq hC_
                have HCH := Aside0.mk hC_
                clear hC_
                simp only [putL, Act.put, List.setIfInBounds_toArray, List.set_cons_zero, List.set_cons_succ]
                go_wp2
                go_ret
                exact ⟨by rw [R.out]; rfl, HCH.out.below⟩
              have e5 : decide ((rd_T64 l2 y).f3 < -6553600) = false := decide_eq_false (by omega)
              by_cases q6 : (rd_T64 l2 y).f3 ≤ 6553600
              case neg =>
                have e6 : decide (6553600 < (rd_T64 l2 y).f3) = true := decide_eq_true (by omega)
                have R := Aside0.mk (gone (by unfold pB; rw [h1, q2, q3, if_pos q4, decide_eq_true q5, decide_eq_false q6]; rfl))
                clear gone y0 yl yp h1 q2 q3 q4 q5 q6
                go_upto_region 19 with (fail)
                have hC_ := CH.alloc (.cells #[.int .i64 (rd_T64 l2 y).f0, .int .i64 (rd_T64 l2 y).f1, .int .i64 (rd_T64 l2 y).f2, .int .i64 (rd_T64 l2 y).f3] 64) (CH.cons BF.out (CH.cons BM.out (CH.nil HB.out)))
                refine zl_start 191 (CH w _) hC_ ?_
                clear hC_
                with_reducible refine zm 151 (.map (some gm)) (by kernel_rfl) (by kernel_rfl) (zv 152 (.pointer (some ⟨wr.heap.size, 0, none⟩)) (by kernel_rfl) (fun _ => ex_field (u := .pointer (some ⟨wr.heap.size, 0, none⟩)) rfl (by kernel_rfl) (by kernel_rfl)) (zi 153 (.int .i64 (rd_T64 l2 y).f0) (by kernel_rfl) (fun w_ hC_ => ex_load (ad := ⟨wr.heap.size, 0, none⟩) rfl (by kernel_rfl) (ld_2 (hC_.c 0 0 (by kernel_rfl) (by kernel_rfl)))) (zi 154 (.bool true) (by kernel_rfl) (fun w_ hC_ => ex_look (u := .map (some gm)) (u' := .int .i64 (rd_T64 l2 y).f0) rfl (by kernel_rfl) (by kernel_rfl) ((SL.out.look (hC_.at 2 (by kernel_rfl)) _ WP.out.1).trans (by rw [eL]))) (zm 155 (.bool false) (by kernel_rfl) (by kernel_rfl) (zm 156 (.bool false) (by kernel_rfl) (by kernel_rfl) (zm 157 (.map (some gm)) (by kernel_rfl) (by kernel_rfl) (zv 158 (.pointer (some ⟨wr.heap.size, 1, none⟩)) (by kernel_rfl) (fun _ => ex_field (u := .pointer (some ⟨wr.heap.size, 0, none⟩)) rfl (by kernel_rfl) (by kernel_rfl)) (zi 159 (.int .i64 (rd_T64 l2 y).f1) (by kernel_rfl) (fun w_ hC_ => ex_load (ad := ⟨wr.heap.size, 1, none⟩) rfl (by kernel_rfl) (ld_2 (hC_.c 0 1 (by kernel_rfl) (by kernel_rfl)))) ?_))))))))
                with_reducible refine zi 160 (.bool true) (by kernel_rfl) (fun w_ hC_ => ex_look (u := .map (some gm)) (u' := .int .i64 (rd_T64 l2 y).f1) rfl (by kernel_rfl) (by kernel_rfl) ((SL.out.look (hC_.at 2 (by kernel_rfl)) _ WP.out.2.1).trans (by rw [eR]))) (zm 161 (.bool false) (by kernel_rfl) (by kernel_rfl) (zm 162 (.bool false) (by kernel_rfl) (by kernel_rfl) (zm 163 (.bool false) (by kernel_rfl) (by kernel_rfl) (zv 164 (.pointer (some ⟨wr.heap.size, 2, none⟩)) (by kernel_rfl) (fun _ => ex_field (u := .pointer (some ⟨wr.heap.size, 0, none⟩)) rfl (by kernel_rfl) (by kernel_rfl)) (zi 165 (.int .i64 (rd_T64 l2 y).f2) (by kernel_rfl) (fun w_ hC_ => ex_load (ad := ⟨wr.heap.size, 2, none⟩) rfl (by kernel_rfl) (ld_2 (hC_.c 0 2 (by kernel_rfl) (by kernel_rfl)))) (zb 166 (((rd_T64 l2 y).f2 != (-1))) false (by kernel_rfl) (fun _ => ex_neq (by kernel_rfl) (by kernel_rfl) rfl) (e4) (zm 167 (.bool false) (by kernel_rfl) (by kernel_rfl) (zs 168 (by kernel_rfl) ?_))))))))
                with_reducible refine zs 169 (by kernel_rfl) (zs 170 (by kernel_rfl) (zs 171 (by kernel_rfl) (zs 172 (by kernel_rfl) (zs 173 (by kernel_rfl) (zs 174 (by kernel_rfl) (zs 175 (by kernel_rfl) (zs 176 (by kernel_rfl) (zs 177 (by kernel_rfl) ?_))))))))
                with_reducible refine zm 178 (.bool false) (by kernel_rfl) (by kernel_rfl) (zm 179 (.bool false) (by kernel_rfl) (by kernel_rfl) (zm 180 (.bool false) (by kernel_rfl) (by kernel_rfl) (zv 181 (.pointer (some ⟨wr.heap.size, 3, none⟩)) (by kernel_rfl) (fun _ => ex_field (u := .pointer (some ⟨wr.heap.size, 0, none⟩)) rfl (by kernel_rfl) (by kernel_rfl)) (zi 182 (.int .i64 (rd_T64 l2 y).f3) (by kernel_rfl) (fun w_ hC_ => ex_load (ad := ⟨wr.heap.size, 3, none⟩) rfl (by kernel_rfl) (ld_2 (hC_.c 0 3 (by kernel_rfl) (by kernel_rfl)))) (zb 183 (decide ((rd_T64 l2 y).f3 < (-6553600))) false (by kernel_rfl) (fun _ => ex_lss (by kernel_rfl) (by kernel_rfl) rfl) (e5) (zm 184 (.bool false) (by kernel_rfl) (by kernel_rfl) (zm 185 (.bool false) (by kernel_rfl) (by kernel_rfl) (zv 186 (.pointer (some ⟨wr.heap.size, 3, none⟩)) (by kernel_rfl) (fun _ => ex_field (u := .pointer (some ⟨wr.heap.size, 0, none⟩)) rfl (by kernel_rfl) (by kernel_rfl)) ?_))))))))
                with_reducible refine zi 187 (.int .i64 (rd_T64 l2 y).f3) (by kernel_rfl) (fun w_ hC_ => ex_load (ad := ⟨wr.heap.size, 3, none⟩) rfl (by kernel_rfl) (ld_2 (hC_.c 0 3 (by kernel_rfl) (by kernel_rfl)))) (zb 188 (decide (6553600 < (rd_T64 l2 y).f3)) true (by kernel_rfl) (fun _ => ex_gtr (by kernel_rfl) (by kernel_rfl) rfl) (e6) (zm 189 (.bool true) (by kernel_rfl) (by kernel_rfl) ?_))
                refine z_end ?_
                intro wq hC_
                have HCH := Aside0.mk hC_
                clear hC_
                simp only [putL, Act.put, List.setIfInBounds_toArray, List.set_cons_zero, List.set_cons_succ]
                go_wp2
                go_ret
                exact ⟨by rw [R.out]; rfl, HCH.out.below⟩
              have e6 : decide (6553600 < (rd_T64 l2 y).f3) = false := decide_eq_false (by omega)
              have GB : pB l1 l2 y = true := by unfold pB; rw [h1, q2, q3, if_pos q4, decide_eq_true q5, decide_eq_true q6]; rfl
              have GD : Aside0 (∀ m : Nat, (m : Int) < y + 1 → pB l1 l2 (m : Int) = true) := ⟨all_step HY.out.2.2 GB⟩
              have XW : Aside0 (wrap64 (y + 1) = y + 1) := ⟨win _ (by omega) (by have := HM.out.2; omega)⟩
              have XLA := Aside0.mk yl
              clear gone y0 yl yp h1 q2 q3 q4 q5 q6 GB
              cases gk with
              | zero => exact absurd XLA.out (by have := HF.out; omega)
              | succ k1 =>
                go_upto_region 19 with (fail)
                have hC_ := CH.alloc (.cells #[.int .i64 (rd_T64 l2 y).f0, .int .i64 (rd_T64 l2 y).f1, .int .i64 (rd_T64 l2 y).f2, .int .i64 (rd_T64 l2 y).f3] 64) (CH.cons BF.out (CH.cons BM.out (CH.nil HB.out)))
                refine zl_start 191 (CH w _) hC_ ?_
                clear hC_
                with_reducible refine zm 151 (.map (some gm)) (by kernel_rfl) (by kernel_rfl) (zv 152 (.pointer (some ⟨wr.heap.size, 0, none⟩)) (by kernel_rfl) (fun _ => ex_field (u := .pointer (some ⟨wr.heap.size, 0, none⟩)) rfl (by kernel_rfl) (by kernel_rfl)) (zi 153 (.int .i64 (rd_T64 l2 y).f0) (by kernel_rfl) (fun w_ hC_ => ex_load (ad := ⟨wr.heap.size, 0, none⟩) rfl (by kernel_rfl) (ld_2 (hC_.c 0 0 (by kernel_rfl) (by kernel_rfl)))) (zi 154 (.bool true) (by kernel_rfl) (fun w_ hC_ => ex_look (u := .map (some gm)) (u' := .int .i64 (rd_T64 l2 y).f0) rfl (by kernel_rfl) (by kernel_rfl) ((SL.out.look (hC_.at 2 (by kernel_rfl)) _ WP.out.1).trans (by rw [eL]))) (zm 155 (.bool false) (by kernel_rfl) (by kernel_rfl) (zm 156 (.bool false) (by kernel_rfl) (by kernel_rfl) (zm 157 (.map (some gm)) (by kernel_rfl) (by kernel_rfl) (zv 158 (.pointer (some ⟨wr.heap.size, 1, none⟩)) (by kernel_rfl) (fun _ => ex_field (u := .pointer (some ⟨wr.heap.size, 0, none⟩)) rfl (by kernel_rfl) (by kernel_rfl)) (zi 159 (.int .i64 (rd_T64 l2 y).f1) (by kernel_rfl) (fun w_ hC_ => ex_load (ad := ⟨wr.heap.size, 1, none⟩) rfl (by kernel_rfl) (ld_2 (hC_.c 0 1 (by kernel_rfl) (by kernel_rfl)))) ?_))))))))
                with_reducible refine zi 160 (.bool true) (by kernel_rfl) (fun w_ hC_ => ex_look (u := .map (some gm)) (u' := .int .i64 (rd_T64 l2 y).f1) rfl (by kernel_rfl) (by kernel_rfl) ((SL.out.look (hC_.at 2 (by kernel_rfl)) _ WP.out.2.1).trans (by rw [eR]))) (zm 161 (.bool false) (by kernel_rfl) (by kernel_rfl) (zm 162 (.bool false) (by kernel_rfl) (by kernel_rfl) (zm 163 (.bool false) (by kernel_rfl) (by kernel_rfl) (zv 164 (.pointer (some ⟨wr.heap.size, 2, none⟩)) (by kernel_rfl) (fun _ => ex_field (u := .pointer (some ⟨wr.heap.size, 0, none⟩)) rfl (by kernel_rfl) (by kernel_rfl)) (zi 165 (.int .i64 (rd_T64 l2 y).f2) (by kernel_rfl) (fun w_ hC_ => ex_load (ad := ⟨wr.heap.size, 2, none⟩) rfl (by kernel_rfl) (ld_2 (hC_.c 0 2 (by kernel_rfl) (by kernel_rfl)))) (zb 166 (((rd_T64 l2 y).f2 != (-1))) false (by kernel_rfl) (fun _ => ex_neq (by kernel_rfl) (by kernel_rfl) rfl) (e4) (zm 167 (.bool false) (by kernel_rfl) (by kernel_rfl) (zs 168 (by kernel_rfl) ?_))))))))
                with_reducible refine zs 169 (by kernel_rfl) (zs 170 (by kernel_rfl) (zs 171 (by kernel_rfl) (zs 172 (by kernel_rfl) (zs 173 (by kernel_rfl) (zs 174 (by kernel_rfl) (zs 175 (by kernel_rfl) (zs 176 (by kernel_rfl) (zs 177 (by kernel_rfl) ?_))))))))
                with_reducible refine zm 178 (.bool false) (by kernel_rfl) (by kernel_rfl) (zm 179 (.bool false) (by kernel_rfl) (by kernel_rfl) (zm 180 (.bool false) (by kernel_rfl) (by kernel_rfl) (zv 181 (.pointer (some ⟨wr.heap.size, 3, none⟩)) (by kernel_rfl) (fun _ => ex_field (u := .pointer (some ⟨wr.heap.size, 0, none⟩)) rfl (by kernel_rfl) (by kernel_rfl)) (zi 182 (.int .i64 (rd_T64 l2 y).f3) (by kernel_rfl) (fun w_ hC_ => ex_load (ad := ⟨wr.heap.size, 3, none⟩) rfl (by kernel_rfl) (ld_2 (hC_.c 0 3 (by kernel_rfl) (by kernel_rfl)))) (zb 183 (decide ((rd_T64 l2 y).f3 < (-6553600))) false (by kernel_rfl) (fun _ => ex_lss (by kernel_rfl) (by kernel_rfl) rfl) (e5) (zm 184 (.bool false) (by kernel_rfl) (by kernel_rfl) (zm 185 (.bool false) (by kernel_rfl) (by kernel_rfl) (zv 186 (.pointer (some ⟨wr.heap.size, 3, none⟩)) (by kernel_rfl) (fun _ => ex_field (u := .pointer (some ⟨wr.heap.size, 0, none⟩)) rfl (by kernel_rfl) (by kernel_rfl)) ?_))))))))
                with_reducible refine zi 187 (.int .i64 (rd_T64 l2 y).f3) (by kernel_rfl) (fun w_ hC_ => ex_load (ad := ⟨wr.heap.size, 3, none⟩) rfl (by kernel_rfl) (ld_2 (hC_.c 0 3 (by kernel_rfl) (by kernel_rfl)))) (zb 188 (decide (6553600 < (rd_T64 l2 y).f3)) false (by kernel_rfl) (fun _ => ex_gtr (by kernel_rfl) (by kernel_rfl) rfl) (e6) (zm 189 (.bool false) (by kernel_rfl) (by kernel_rfl) ?_))
                refine z_end ?_
                intro wq hC_
                have HCH := Aside0.mk hC_
                clear hC_
                simp only [putL, Act.put, List.setIfInBounds_toArray, List.set_cons_zero, List.set_cons_succ]
                go_wp2
                go_roundg k1
                case measure => omega
                case rel => exact ⟨wrap64 (y + 1), (by first | rfl | (simp; done) | (simp [*]; done)), ⟨by rw [XW.out]; have := HF.out; omega⟩, ⟨⟨by rw [XW.out]; have := HY.out.1; omega, by rw [XW.out]; have := XLA.out; omega, by rw [XW.out]; exact GD.out⟩⟩, ⟨HCH.out.at 1 rfl⟩, ⟨HCH.out.at 2 rfl⟩, ⟨HCH.out.below⟩⟩
            case neg =>
              have e4 : ((rd_T64 l2 y).f2 != -1) = true := bne_iff_ne.mpr q4
              by_cases q8 : hasB l1 (rd_T64 l2 y).f2 = true
              case neg =>
                have q8' : hasB l1 (rd_T64 l2 y).f2 = false := by simpa using q8
                have e8 := q8'
                have R := Aside0.mk (gone (by unfold pB; rw [h1, q2, q3, if_neg q4, q8']; simp))
                clear gone y0 yl yp h1 q2 q3 q4 q8
                go_upto_region 19 with (fail)
                have hC_ := CH.alloc (.cells #[.int .i64 (rd_T64 l2 y).f0, .int .i64 (rd_T64 l2 y).f1, .int .i64 (rd_T64 l2 y).f2, .int .i64 (rd_T64 l2 y).f3] 64) (CH.cons BF.out (CH.cons BM.out (CH.nil HB.out)))
                refine zl_start 191 (CH w _) hC_ ?_
                clear hC_
                with_reducible refine zm 151 (.map (some gm)) (by kernel_rfl) (by kernel_rfl) (zv 152 (.pointer (some ⟨wr.heap.size, 0, none⟩)) (by kernel_rfl) (fun _ => ex_field (u := .pointer (some ⟨wr.heap.size, 0, none⟩)) rfl (by kernel_rfl) (by kernel_rfl)) (zi 153 (.int .i64 (rd_T64 l2 y).f0) (by kernel_rfl) (fun w_ hC_ => ex_load (ad := ⟨wr.heap.size, 0, none⟩) rfl (by kernel_rfl) (ld_2 (hC_.c 0 0 (by kernel_rfl) (by kernel_rfl)))) (zi 154 (.bool true) (by kernel_rfl) (fun w_ hC_ => ex_look (u := .map (some gm)) (u' := .int .i64 (rd_T64 l2 y).f0) rfl (by kernel_rfl) (by kernel_rfl) ((SL.out.look (hC_.at 2 (by kernel_rfl)) _ WP.out.1).trans (by rw [eL]))) (zm 155 (.bool false) (by kernel_rfl) (by kernel_rfl) (zm 156 (.bool false) (by kernel_rfl) (by kernel_rfl) (zm 157 (.map (some gm)) (by kernel_rfl) (by kernel_rfl) (zv 158 (.pointer (some ⟨wr.heap.size, 1, none⟩)) (by kernel_rfl) (fun _ => ex_field (u := .pointer (some ⟨wr.heap.size, 0, none⟩)) rfl (by kernel_rfl) (by kernel_rfl)) (zi 159 (.int .i64 (rd_T64 l2 y).f1) (by kernel_rfl) (fun w_ hC_ => ex_load (ad := ⟨wr.heap.size, 1, none⟩) rfl (by kernel_rfl) (ld_2 (hC_.c 0 1 (by kernel_rfl) (by kernel_rfl)))) ?_))))))))
                with_reducible refine zi 160 (.bool true) (by kernel_rfl) (fun w_ hC_ => ex_look (u := .map (some gm)) (u' := .int .i64 (rd_T64 l2 y).f1) rfl (by kernel_rfl) (by kernel_rfl) ((SL.out.look (hC_.at 2 (by kernel_rfl)) _ WP.out.2.1).trans (by rw [eR]))) (zm 161 (.bool false) (by kernel_rfl) (by kernel_rfl) (zm 162 (.bool false) (by kernel_rfl) (by kernel_rfl) (zm 163 (.bool false) (by kernel_rfl) (by kernel_rfl) (zv 164 (.pointer (some ⟨wr.heap.size, 2, none⟩)) (by kernel_rfl) (fun _ => ex_field (u := .pointer (some ⟨wr.heap.size, 0, none⟩)) rfl (by kernel_rfl) (by kernel_rfl)) (zi 165 (.int .i64 (rd_T64 l2 y).f2) (by kernel_rfl) (fun w_ hC_ => ex_load (ad := ⟨wr.heap.size, 2, none⟩) rfl (by kernel_rfl) (ld_2 (hC_.c 0 2 (by kernel_rfl) (by kernel_rfl)))) (zb 166 (((rd_T64 l2 y).f2 != (-1))) true (by kernel_rfl) (fun _ => ex_neq (by kernel_rfl) (by kernel_rfl) rfl) (e4) (zm 167 (.bool true) (by kernel_rfl) (by kernel_rfl) (zm 168 (.map (some gm)) (by kernel_rfl) (by kernel_rfl) ?_))))))))
                with_reducible refine zv 169 (.pointer (some ⟨wr.heap.size, 2, none⟩)) (by kernel_rfl) (fun _ => ex_field (u := .pointer (some ⟨wr.heap.size, 0, none⟩)) rfl (by kernel_rfl) (by kernel_rfl)) (zi 170 (.int .i64 (rd_T64 l2 y).f2) (by kernel_rfl) (fun w_ hC_ => ex_load (ad := ⟨wr.heap.size, 2, none⟩) rfl (by kernel_rfl) (ld_2 (hC_.c 0 2 (by kernel_rfl) (by kernel_rfl)))) (zi 171 (.bool false) (by kernel_rfl) (fun w_ hC_ => ex_look (u := .map (some gm)) (u' := .int .i64 (rd_T64 l2 y).f2) rfl (by kernel_rfl) (by kernel_rfl) ((SL.out.look (hC_.at 2 (by kernel_rfl)) _ WP.out.2.2).trans (by rw [e8]))) (zm 172 (.bool true) (by kernel_rfl) (by kernel_rfl) (zm 173 (.bool true) (by kernel_rfl) (by kernel_rfl) (zs 174 (by kernel_rfl) (zs 175 (by kernel_rfl) (zs 176 (by kernel_rfl) (zm 177 (.bool true) (by kernel_rfl) (by kernel_rfl) ?_))))))))
                with_reducible refine zm 178 (.bool true) (by kernel_rfl) (by kernel_rfl) (zm 179 (.bool true) (by kernel_rfl) (by kernel_rfl) (zm 180 (.bool true) (by kernel_rfl) (by kernel_rfl) (zs 181 (by kernel_rfl) (zs 182 (by kernel_rfl) (zs 183 (by kernel_rfl) (zm 184 (.bool true) (by kernel_rfl) (by kernel_rfl) (zm 185 (.bool true) (by kernel_rfl) (by kernel_rfl) (zs 186 (by kernel_rfl) ?_))))))))
                with_reducible refine zs 187 (by kernel_rfl) (zs 188 (by kernel_rfl) (zm 189 (.bool true) (by kernel_rfl) (by kernel_rfl) ?_))
                refine z_end ?_
                intro wq hC_
                have HCH := Aside0.mk hC_
                clear hC_
                simp only [putL, Act.put, List.setIfInBounds_toArray, List.set_cons_zero, List.set_cons_succ]
                go_wp2
                go_ret
                exact ⟨by rw [R.out]; rfl, HCH.out.below⟩
              have e8 := q8
              by_cases q7 : (rd_T64 l2 y).f3 = 0
              case neg =>
                have e7 : ((rd_T64 l2 y).f3 != 0) = true := bne_iff_ne.mpr q7
                have R := Aside0.mk (gone (by unfold pB; rw [h1, q2, q3, if_neg q4, decide_eq_false q7]; rfl))
                clear gone y0 yl yp h1 q2 q3 q4 q8 q7
                go_upto_region 19 with (fail)
                have hC_ := CH.alloc (.cells #[.int .i64 (rd_T64 l2 y).f0, .int .i64 (rd_T64 l2 y).f1, .int .i64 (rd_T64 l2 y).f2, .int .i64 (rd_T64 l2 y).f3] 64) (CH.cons BF.out (CH.cons BM.out (CH.nil HB.out)))
                refine zl_start 191 (CH w _) hC_ ?_
                clear hC_
                with_reducible refine zm 151 (.map (some gm)) (by kernel_rfl) (by kernel_rfl) (zv 152 (.pointer (some ⟨wr.heap.size, 0, none⟩)) (by kernel_rfl) (fun _ => ex_field (u := .pointer (some ⟨wr.heap.size, 0, none⟩)) rfl (by kernel_rfl) (by kernel_rfl)) (zi 153 (.int .i64 (rd_T64 l2 y).f0) (by kernel_rfl) (fun w_ hC_ => ex_load (ad := ⟨wr.heap.size, 0, none⟩) rfl (by kernel_rfl) (ld_2 (hC_.c 0 0 (by kernel_rfl) (by kernel_rfl)))) (zi 154 (.bool true) (by kernel_rfl) (fun w_ hC_ => ex_look (u := .map (some gm)) (u' := .int .i64 (rd_T64 l2 y).f0) rfl (by kernel_rfl) (by kernel_rfl) ((SL.out.look (hC_.at 2 (by kernel_rfl)) _ WP.out.1).trans (by rw [eL]))) (zm 155 (.bool false) (by kernel_rfl) (by kernel_rfl) (zm 156 (.bool false) (by kernel_rfl) (by kernel_rfl) (zm 157 (.map (some gm)) (by kernel_rfl) (by kernel_rfl) (zv 158 (.pointer (some ⟨wr.heap.size, 1, none⟩)) (by kernel_rfl) (fun _ => ex_field (u := .pointer (some ⟨wr.heap.size, 0, none⟩)) rfl (by kernel_rfl) (by kernel_rfl)) (zi 159 (.int .i64 (rd_T64 l2 y).f1) (by kernel_rfl) (fun w_ hC_ => ex_load (ad := ⟨wr.heap.size, 1, none⟩) rfl (by kernel_rfl) (ld_2 (hC_.c 0 1 (by kernel_rfl) (by kernel_rfl)))) ?_))))))))
                with_reducible refine zi 160 (.bool true) (by kernel_rfl) (fun w_ hC_ => ex_look (u := .map (some gm)) (u' := .int .i64 (rd_T64 l2 y).f1) rfl (by kernel_rfl) (by kernel_rfl) ((SL.out.look (hC_.at 2 (by kernel_rfl)) _ WP.out.2.1).trans (by rw [eR]))) (zm 161 (.bool false) (by kernel_rfl) (by kernel_rfl) (zm 162 (.bool false) (by kernel_rfl) (by kernel_rfl) (zm 163 (.bool false) (by kernel_rfl) (by kernel_rfl) (zv 164 (.pointer (some ⟨wr.heap.size, 2, none⟩)) (by kernel_rfl) (fun _ => ex_field (u := .pointer (some ⟨wr.heap.size, 0, none⟩)) rfl (by kernel_rfl) (by kernel_rfl)) (zi 165 (.int .i64 (rd_T64 l2 y).f2) (by kernel_rfl) (fun w_ hC_ => ex_load (ad := ⟨wr.heap.size, 2, none⟩) rfl (by kernel_rfl) (ld_2 (hC_.c 0 2 (by kernel_rfl) (by kernel_rfl)))) (zb 166 (((rd_T64 l2 y).f2 != (-1))) true (by kernel_rfl) (fun _ => ex_neq (by kernel_rfl) (by kernel_rfl) rfl) (e4) (zm 167 (.bool true) (by kernel_rfl) (by kernel_rfl) (zm 168 (.map (some gm)) (by kernel_rfl) (by kernel_rfl) ?_))))))))
                with_reducible refine zv 169 (.pointer (some ⟨wr.heap.size, 2, none⟩)) (by kernel_rfl) (fun _ => ex_field (u := .pointer (some ⟨wr.heap.size, 0, none⟩)) rfl (by kernel_rfl) (by kernel_rfl)) (zi 170 (.int .i64 (rd_T64 l2 y).f2) (by kernel_rfl) (fun w_ hC_ => ex_load (ad := ⟨wr.heap.size, 2, none⟩) rfl (by kernel_rfl) (ld_2 (hC_.c 0 2 (by kernel_rfl) (by kernel_rfl)))) (zi 171 (.bool true) (by kernel_rfl) (fun w_ hC_ => ex_look (u := .map (some gm)) (u' := .int .i64 (rd_T64 l2 y).f2) rfl (by kernel_rfl) (by kernel_rfl) ((SL.out.look (hC_.at 2 (by kernel_rfl)) _ WP.out.2.2).trans (by rw [e8]))) (zm 172 (.bool false) (by kernel_rfl) (by kernel_rfl) (zm 173 (.bool false) (by kernel_rfl) (by kernel_rfl) (zv 174 (.pointer (some ⟨wr.heap.size, 3, none⟩)) (by kernel_rfl) (fun _ => ex_field (u := .pointer (some ⟨wr.heap.size, 0, none⟩)) rfl (by kernel_rfl) (by kernel_rfl)) (zi 175 (.int .i64 (rd_T64 l2 y).f3) (by kernel_rfl) (fun w_ hC_ => ex_load (ad := ⟨wr.heap.size, 3, none⟩) rfl (by kernel_rfl) (ld_2 (hC_.c 0 3 (by kernel_rfl) (by kernel_rfl)))) (zb 176 (((rd_T64 l2 y).f3 != 0)) true (by kernel_rfl) (fun _ => ex_neq (by kernel_rfl) (by kernel_rfl) rfl) (e7) (zm 177 (.bool true) (by kernel_rfl) (by kernel_rfl) ?_))))))))
                with_reducible refine zm 178 (.bool true) (by kernel_rfl) (by kernel_rfl) (zm 179 (.bool true) (by kernel_rfl) (by kernel_rfl) (zm 180 (.bool true) (by kernel_rfl) (by kernel_rfl) (zs 181 (by kernel_rfl) (zs 182 (by kernel_rfl) (zs 183 (by kernel_rfl) (zm 184 (.bool true) (by kernel_rfl) (by kernel_rfl) (zm 185 (.bool true) (by kernel_rfl) (by kernel_rfl) (zs 186 (by kernel_rfl) ?_))))))))
                with_reducible refine zs 187 (by kernel_rfl) (zs 188 (by kernel_rfl) (zm 189 (.bool true) (by kernel_rfl) (by kernel_rfl) ?_))
                refine z_end ?_
                intro wq hC_
                have HCH := Aside0.mk hC_
                clear hC_
                simp only [putL, Act.put, List.setIfInBounds_toArray, List.set_cons_zero, List.set_cons_succ]
                go_wp2
                go_ret
                exact ⟨by rw [R.out]; rfl, HCH.out.below⟩
              have e7 : ((rd_T64 l2 y).f3 != 0) = false := bne_eq_false_iff_eq.mpr q7
              have e5 : decide ((rd_T64 l2 y).f3 < -6553600) = false := by rw [q7]; rfl
              have e6 : decide (6553600 < (rd_T64 l2 y).f3) = false := by rw [q7]; rfl
              have GB : pB l1 l2 y = true := by unfold pB; rw [h1, q2, q3, if_neg q4, decide_eq_true q7, q8]; rfl
              have GD : Aside0 (∀ m : Nat, (m : Int) < y + 1 → pB l1 l2 (m : Int) = true) := ⟨all_step HY.out.2.2 GB⟩
              have XW : Aside0 (wrap64 (y + 1) = y + 1) := ⟨win _ (by omega) (by have := HM.out.2; omega)⟩
              have XLA := Aside0.mk yl
              clear gone y0 yl yp h1 q2 q3 q4 q8 q7 GB
              cases gk with
              | zero => exact absurd XLA.out (by have := HF.out; omega)
              | succ k1 =>
                go_upto_region 19 with (fail)
                have hC_ := CH.alloc (.cells #[.int .i64 (rd_T64 l2 y).f0, .int .i64 (rd_T64 l2 y).f1, .int .i64 (rd_T64 l2 y).f2, .int .i64 (rd_T64 l2 y).f3] 64) (CH.cons BF.out (CH.cons BM.out (CH.nil HB.out)))
                refine zl_start 191 (CH w _) hC_ ?_
                clear hC_
                with_reducible refine zm 151 (.map (some gm)) (by kernel_rfl) (by kernel_rfl) (zv 152 (.pointer (some ⟨wr.heap.size, 0, none⟩)) (by kernel_rfl) (fun _ => ex_field (u := .pointer (some ⟨wr.heap.size, 0, none⟩)) rfl (by kernel_rfl) (by kernel_rfl)) (zi 153 (.int .i64 (rd_T64 l2 y).f0) (by kernel_rfl) (fun w_ hC_ => ex_load (ad := ⟨wr.heap.size, 0, none⟩) rfl (by kernel_rfl) (ld_2 (hC_.c 0 0 (by kernel_rfl) (by kernel_rfl)))) (zi 154 (.bool true) (by kernel_rfl) (fun w_ hC_ => ex_look (u := .map (some gm)) (u' := .int .i64 (rd_T64 l2 y).f0) rfl (by kernel_rfl) (by kernel_rfl) ((SL.out.look (hC_.at 2 (by kernel_rfl)) _ WP.out.1).trans (by rw [eL]))) (zm 155 (.bool false) (by kernel_rfl) (by kernel_rfl) (zm 156 (.bool false) (by kernel_rfl) (by kernel_rfl) (zm 157 (.map (some gm)) (by kernel_rfl) (by kernel_rfl) (zv 158 (.pointer (some ⟨wr.heap.size, 1, none⟩)) (by kernel_rfl) (fun _ => ex_field (u := .pointer (some ⟨wr.heap.size, 0, none⟩)) rfl (by kernel_rfl) (by kernel_rfl)) (zi 159 (.int .i64 (rd_T64 l2 y).f1) (by kernel_rfl) (fun w_ hC_ => ex_load (ad := ⟨wr.heap.size, 1, none⟩) rfl (by kernel_rfl) (ld_2 (hC_.c 0 1 (by kernel_rfl) (by kernel_rfl)))) ?_))))))))
                with_reducible refine zi 160 (.bool true) (by kernel_rfl) (fun w_ hC_ => ex_look (u := .map (some gm)) (u' := .int .i64 (rd_T64 l2 y).f1) rfl (by kernel_rfl) (by kernel_rfl) ((SL.out.look (hC_.at 2 (by kernel_rfl)) _ WP.out.2.1).trans (by rw [eR]))) (zm 161 (.bool false) (by kernel_rfl) (by kernel_rfl) (zm 162 (.bool false) (by kernel_rfl) (by kernel_rfl) (zm 163 (.bool false) (by kernel_rfl) (by kernel_rfl) (zv 164 (.pointer (some ⟨wr.heap.size, 2, none⟩)) (by kernel_rfl) (fun _ => ex_field (u := .pointer (some ⟨wr.heap.size, 0, none⟩)) rfl (by kernel_rfl) (by kernel_rfl)) (zi 165 (.int .i64 (rd_T64 l2 y).f2) (by kernel_rfl) (fun w_ hC_ => ex_load (ad := ⟨wr.heap.size, 2, none⟩) rfl (by kernel_rfl) (ld_2 (hC_.c 0 2 (by kernel_rfl) (by kernel_rfl)))) (zb 166 (((rd_T64 l2 y).f2 != (-1))) true (by kernel_rfl) (fun _ => ex_neq (by kernel_rfl) (by kernel_rfl) rfl) (e4) (zm 167 (.bool true) (by kernel_rfl) (by kernel_rfl) (zm 168 (.map (some gm)) (by kernel_rfl) (by kernel_rfl) ?_))))))))
                with_reducible refine zv 169 (.pointer (some ⟨wr.heap.size, 2, none⟩)) (by kernel_rfl) (fun _ => ex_field (u := .pointer (some ⟨wr.heap.size, 0, none⟩)) rfl (by kernel_rfl) (by kernel_rfl)) (zi 170 (.int .i64 (rd_T64 l2 y).f2) (by kernel_rfl) (fun w_ hC_ => ex_load (ad := ⟨wr.heap.size, 2, none⟩) rfl (by kernel_rfl) (ld_2 (hC_.c 0 2 (by kernel_rfl) (by kernel_rfl)))) (zi 171 (.bool true) (by kernel_rfl) (fun w_ hC_ => ex_look (u := .map (some gm)) (u' := .int .i64 (rd_T64 l2 y).f2) rfl (by kernel_rfl) (by kernel_rfl) ((SL.out.look (hC_.at 2 (by kernel_rfl)) _ WP.out.2.2).trans (by rw [e8]))) (zm 172 (.bool false) (by kernel_rfl) (by kernel_rfl) (zm 173 (.bool false) (by kernel_rfl) (by kernel_rfl) (zv 174 (.pointer (some ⟨wr.heap.size, 3, none⟩)) (by kernel_rfl) (fun _ => ex_field (u := .pointer (some ⟨wr.heap.size, 0, none⟩)) rfl (by kernel_rfl) (by kernel_rfl)) (zi 175 (.int .i64 (rd_T64 l2 y).f3) (by kernel_rfl) (fun w_ hC_ => ex_load (ad := ⟨wr.heap.size, 3, none⟩) rfl (by kernel_rfl) (ld_2 (hC_.c 0 3 (by kernel_rfl) (by kernel_rfl)))) (zb 176 (((rd_T64 l2 y).f3 != 0)) false (by kernel_rfl) (fun _ => ex_neq (by kernel_rfl) (by kernel_rfl) rfl) (e7) (zm 177 (.bool false) (by kernel_rfl) (by kernel_rfl) ?_))))))))
                with_reducible refine zm 178 (.bool false) (by kernel_rfl) (by kernel_rfl) (zm 179 (.bool false) (by kernel_rfl) (by kernel_rfl) (zm 180 (.bool false) (by kernel_rfl) (by kernel_rfl) (zv 181 (.pointer (some ⟨wr.heap.size, 3, none⟩)) (by kernel_rfl) (fun _ => ex_field (u := .pointer (some ⟨wr.heap.size, 0, none⟩)) rfl (by kernel_rfl) (by kernel_rfl)) (zi 182 (.int .i64 (rd_T64 l2 y).f3) (by kernel_rfl) (fun w_ hC_ => ex_load (ad := ⟨wr.heap.size, 3, none⟩) rfl (by kernel_rfl) (ld_2 (hC_.c 0 3 (by kernel_rfl) (by kernel_rfl)))) (zb 183 (decide ((rd_T64 l2 y).f3 < (-6553600))) false (by kernel_rfl) (fun _ => ex_lss (by kernel_rfl) (by kernel_rfl) rfl) (e5) (zm 184 (.bool false) (by kernel_rfl) (by kernel_rfl) (zm 185 (.bool false) (by kernel_rfl) (by kernel_rfl) (zv 186 (.pointer (some ⟨wr.heap.size, 3, none⟩)) (by kernel_rfl) (fun _ => ex_field (u := .pointer (some ⟨wr.heap.size, 0, none⟩)) rfl (by kernel_rfl) (by kernel_rfl)) ?_))))))))
                with_reducible refine zi 187 (.int .i64 (rd_T64 l2 y).f3) (by kernel_rfl) (fun w_ hC_ => ex_load (ad := ⟨wr.heap.size, 3, none⟩) rfl (by kernel_rfl) (ld_2 (hC_.c 0 3 (by kernel_rfl) (by kernel_rfl)))) (zb 188 (decide (6553600 < (rd_T64 l2 y).f3)) false (by kernel_rfl) (fun _ => ex_gtr (by kernel_rfl) (by kernel_rfl) rfl) (e6) (zm 189 (.bool false) (by kernel_rfl) (by kernel_rfl) ?_))
                refine z_end ?_
                intro wq hC_
                have HCH := Aside0.mk hC_
                clear hC_
                simp only [putL, Act.put, List.setIfInBounds_toArray, List.set_cons_zero, List.set_cons_succ]
                go_wp2
                go_roundg k1
                case measure => omega
                case rel => exact ⟨wrap64 (y + 1), (by first | rfl | (simp; done) | (simp [*]; done)), ⟨by rw [XW.out]; have := HF.out; omega⟩, ⟨⟨by rw [XW.out]; have := HY.out.1; omega, by rw [XW.out]; have := XLA.out; omega, by rw [XW.out]; exact GD.out⟩⟩, ⟨HCH.out.at 1 rfl⟩, ⟨HCH.out.at 2 rfl⟩, ⟨HCH.out.below⟩⟩
        case neg =>
          have ey : decide (y < (l2.length : Int)) = false := decide_eq_false yl
          have R : Aside0 (fontB a0 l1 l2 a3 a4 a5 a6 a7 a8 a9 = true) := ⟨by unfold fontB; rw [HD.out, GA.out, allB_true (fun i hi => HY.out.2.2 i (by have := HY.out.2.1; omega))]; rfl⟩
          clear yl y0 HY HF
          go_wp2
          go_ret
          exact ⟨by rw [R.out]; rfl, (by repeat (first | (with_reducible first | exact HB.out | apply below_alloc | apply pw_below_drewN | apply below_drew1) | exact HB.out))⟩
end Go.Proofs.Ytngmkpediibhjaa.PFnExactGlyphOf
