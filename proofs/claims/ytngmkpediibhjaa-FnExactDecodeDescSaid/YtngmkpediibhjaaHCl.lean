/- The reader's closure: what it reads, or must's panic. No condition. -/
import Derived.Test.YtngmkpediibhjaaHPl
namespace Go.Proofs.Ytngmkpediibhjaa.PFnExactDecodeDesc
open Go.RowKit Go.Proofs.YtngmkpediibhjaaW.PrintWords Go.Proofs.YtngmkpediibhjaaW.PrintLast Go.Proofs.YtngmkpediibhjaaW.PrintMore
attribute [local go_sem] max2_int min2_int max_two min_two max_three min_three max_four min_four   -- for this text's walks alone
set_option linter.unusedVariables false
set_option linter.unusedSimpArgs false

/-- How the closure ends. -/
structure CEnd (w0 : World) (g4 gx : Nat) (b : List Int) (e : Ending) (w' : World) : Prop where
  below : Below w0.heap.size w0 w'
  bx : w'.heap[gx]? = some (.cells #[.bool false] 4 (0, 0))
  ends : (∃ o vo, iDec b = some o ∧ e = .returned (.tuple #[]) ∧ w'.heap[g4]? = some (.cells #[vo] 48 (0, 0)) ∧ Kd.S (Kd.slice 81 k81) 79 w' w0.heap.size (fun _ => True) vo o) ∨ (iDec b = none ∧ e = .panicked PW)
theorem CEnd.no {w0 w' : World} {g g5 g1 g4 gx : Nat} {A1 : Option Addr} {c1 : Nat} {b : List Int} {i : Int} {vo : Value} (h : MB w0 w' g g5 g1 g4 gx A1 c1 b i vo) (hn : iDec b = none) : CEnd w0 g4 gx b (.panicked PW) w' := ⟨h.below, h.bx, .inr ⟨hn, rfl⟩⟩
theorem CEnd.noR {w0 w w' : World} {g g5 g1 g4 gx : Nat} {A1 : Option Addr} {c1 : Nat} {b : List Int} {i : Int} {vo : Value} (h : MB w0 w g g5 g1 g4 gx A1 c1 b i vo) (hk : KeepBut w w' g none) (hb : Below w0.heap.size w0 w') (hn : iDec b = none) : CEnd w0 g4 gx b (.panicked PW) w' := ⟨hb, KeepBut.blk hk h.bx h.nx (by simp), .inr ⟨hn, rfl⟩⟩
theorem CEnd.yes {w0 w' : World} {g g5 g1 g4 gx : Nat} {A1 : Option Addr} {c1 : Nat} {b : List Int} {i : Int} {vo : Value} {o : List (List S81)} (h : MO w0 w' g g5 g1 g4 gx A1 c1 b i vo o) (hn : iDec b = some o) : CEnd w0 g4 gx b (.returned (.tuple #[])) w' := ⟨h.mb.below, h.mb.bx, .inl ⟨o, vo, hn, rfl, h.mb.b4, h.out⟩⟩
set_option maxHeartbeats 8000000 in
set_option maxRecDepth 100000 in
theorem clo_calls (g g5 g1 g4 gx : Nat) (A1 : Option Addr) (c1 : Nat) (b : List Int) (w0 w : World) (hlen : b.length ≤ 1048576) (hb8 : ∀ j, 0 ≤ rd b j ∧ rd b j < 256) (hC : Kd.C (Kd.int .u8) w0 A1 b.length b) (hcap : b.length ≤ c1) (hM : MO w0 w g g5 g1 g4 gx A1 c1 b 0 (.slice none 0 0) []) :
    Calls Try.prog 59 #[.pointer (some ⟨g5, 0, none⟩), .pointer (some ⟨g1, 0, none⟩), .pointer (some ⟨g4, 0, none⟩)] w (CEnd w0 g4 gx b) := by
  have HM := Aside0.mk hM
  have HC := Aside0.mk hC
  have HB8 := Aside0.mk hb8
  have HL := Aside0.mk hlen
  clear hM hb8 hC
  go_enter Try.func59, Try.ntmps59
  go_wp2
  refine wp_region_still_tail 10 rfl (by kernel_rfl) ?_
  obtain ⟨w1, hw1⟩ : ∃ w1, w1 = w.drew := ⟨_, rfl⟩
  replace HM := Aside0.mk (show MO w0 w1 g g5 g1 g4 gx A1 c1 b 0 (.slice none 0 0) [] from by rw [hw1]; exact HM.out.drew)
  show wpStill Try.prog _ w.drew (fun a' => wpList Try.prog _ _ _ a' w.drew) _ _
  rw [← hw1]
  clear hw1
  have h5 := (blk_cell HM.out.mb.b5 0).trans rfl
  have h1 := (blk_cell HM.out.mb.b1 0).trans rfl
  simp only [List.take_succ_cons, List.take_zero, List.drop_succ_cons, List.drop_zero]
  by_cases d1 : 4 ≤ (b.length : Int)
  · have d1b : decide (4 ≤ (b.length : Int)) = true := decide_eq_true d1
    obtain ⟨i07, hi07, _, hsz7, _⟩ := info_parts info5
    obtain ⟨hcut7, hA7, hC7⟩ := print_take_of (P := Try.prog) (Value.int .u8) 0 46 5 .i64 Try.underlying46 hi07 hsz7 A1 c1 b 4 (by omega) d1 hcap
    have HR7 := Aside0.mk (Kd.C_of_reads (h1 := fun _ => rfl) (hA7 _ (Kd.reads_of_C HC.out)))
    clear hA7 hC7 hi07 hsz7
    have hcv8 := Kd.C_string (P := Try.prog) (A := A1) (c := c1) Try.underlying46 Try.underlying5 Try.underlying9 (Kd.C_below HR7.out HM.out.mb.below)
    have hcv8_ := hcv8
    simp only [List.length_take, show Int.toNat 4 = 4 from rfl] at hcv8_
    repeat still_step
    refine wpStill_nil ?_
    clear hcv8 hcv8_ hcut7 HR7
    by_cases d2 : ((strOfNums (b.take 4)).toList == ([81, 80, 68, 49] : List UInt8)) = true
    · rw [d2]
      refine goesE_ (some 23) rfl rfl Try.func60 (by kernel_rfl) rfl #[.pointer (some ⟨g, 0, none⟩), .bool true] rfl (by (try simp only [List.map_toArray, List.map_cons, List.map_nil]); first | done | rfl) ?_; (with_reducible refine (must_end _ _ _).mono ?_)
      rintro e w3 ⟨rfl, ⟨hq, rfl⟩ | ⟨hq, rfl⟩⟩
      case inr => cases hq
      refine .inl ⟨_, rfl, ?_⟩
      clear hq
      have HD := Aside0.mk (show iDec b = (iBelow b 4 1000).bind fun m => (iPages b m.1.toNat 0 m.2 []).bind fun q => if iEnd b q.2 (sumP (b.take q.2.toNat)) then some q.1 else none from by rw [iDec]; exact if_pos ⟨d1, d2⟩)
      have D1 := Aside0.mk d1
      clear d1 d2 d1b
      have hg1 := (cellS97 HM.out.mb.rd).2
      have hf1 := IsS97.frozen HM.out.mb.rd
      go_upto_region 3 with (fail)
      obtain ⟨w4, hw4⟩ : ∃ w4, w4 = w3.setCell ⟨g, 1, none⟩ (.int .i64 4) := ⟨_, rfl⟩
      replace HM := Aside0.mk (show MO w0 w4 g g5 g1 g4 gx A1 c1 b 4 (.slice none 0 0) [] from by rw [hw4]; exact HM.out.seek 4)
      rw [← hw4]
      clear hw4 h5 h1 hg1 hf1
      have h5 := (blk_cell HM.out.mb.b5 0).trans rfl
      go_wp2_with (first | ((with_reducible refine gate_callee (f := 61) rfl ?_); refine goesE_ (some 28) rfl rfl Try.func61 (by kernel_rfl) rfl #[.pointer (some ⟨g, 0, none⟩), .int .i64 1000] rfl (by (try simp only [List.map_toArray, List.map_cons, List.map_nil]); first | done | rfl) ?_; (with_reducible refine (below_calls g b 4 1000 w0 _ (by omega) (by omega) ?s1 ?s2 ?s3 ?s4 ?s5).mono ?_); (case s1 => omega); (case s2 => omega); (case s3 => exact HB8.out); (case s4 => exact HM.out.mb.rd); (case s5 => exact HM.out.mb.below)))
      rintro e w2 ⟨hb2, hk2, ⟨v, i2, hr, rfl, hI2⟩ | ⟨hr, rfl⟩⟩
      case inr =>
        have hn := Option.map_eq_none_iff.mp hr
        exact .inr ⟨_, rfl, rfl, CEnd.noR HM.out.mb hk2 hb2 (by rw [HD.out, hn]; rfl)⟩
      refine .inl ⟨_, rfl, ?_⟩
      obtain ⟨⟨m, i3⟩, hn, hp⟩ := Option.map_eq_some_iff.mp hr
      injection hp with hp1 hp2
      subst hp1; subst hp2
      obtain ⟨m0, m1, ii0, ii1⟩ := iBelow_at hn
      replace HM := Aside0.mk (HM.out.read hk2 hI2 hb2)
      have hd := HD.out
      rw [hn, Option.bind_some] at hd
      obtain ⟨rp, hrp⟩ : ∃ r, r = iPages b m.toNat 0 i3 [] := ⟨_, rfl⟩
      rw [show (m, i3).1 = m from rfl, show (m, i3).2 = i3 from rfl, ← hrp] at hd
      have HR := Aside0.mk hrp.symm
      replace HD := Aside0.mk hd
      have HM0 := Aside0.mk (show 0 ≤ m ∧ m ≤ 1000 from ⟨m0, m1⟩)
      have HI0 := Aside0.mk (show 0 ≤ i3 ∧ i3 ≤ (b.length : Int) from ⟨by omega, ii1⟩)
      clear hb2 hk2 hI2 hr hn hd hrp m0 m1 ii0 ii1 h5
      go_upto_region 4 with (fail)
      go_loopg [3, 29] m.toNat (fun kq v3 v29 w' => ∃ (n j i : Int) (vo : Value) (o : List (List S81)), v3 = .int .i64 n ∧ v29 = .int .i64 j ∧ Aside0 (iPages b kq n i o = rp) ∧ Aside0 (0 ≤ j ∧ j + (kq : Int) = m) ∧ Aside0 (0 ≤ n ∧ n ≤ 20000) ∧ Aside0 (0 ≤ i ∧ i ≤ (b.length : Int)) ∧ Aside0 ((o.length : Int) = j) ∧ Aside0 (MO w0 w' g g5 g1 g4 gx A1 c1 b i vo o))
      case atStart => exact ⟨0, 0, i3, _, [], rfl, rfl, HR, ⟨by have := HM0.out; omega⟩, ⟨by decide⟩, HI0, ⟨rfl⟩, HM⟩
      case round =>
        clear HM HR HI0
        obtain ⟨n, j, i, vo, o, rfl, rfl, HR, HJ, HN, HI0, HO, HM⟩ := hrel
        have h5 := (blk_cell HM.out.mb.b5 0).trans rfl
        cases gk with
        | zero =>
          have hr := HR.out
          rw [iPages] at hr
          have e1 : ¬ j < m := by have := HJ.out; omega
          have e1b : decide (j < m) = false := decide_eq_false e1
          obtain ⟨ks, hks⟩ := sumP_i (b.take i.toNat) (by rw [List.length_take]; have := HL.out; omega)
          have HKS := Aside0.mk hks
          have hd := HD.out
          rw [← hr, Option.bind_some] at hd
          replace HD := Aside0.mk hd
          clear hd hr hks HR e1
          go_wp2_with (first | ((with_reducible refine gate_callee (f := 64) rfl ?_); refine goesE_ (some 124) rfl rfl Try.func64 (by kernel_rfl) rfl #[.pointer (some ⟨g, 0, none⟩)] rfl (by (try simp only [List.map_toArray, List.map_cons, List.map_nil]); first | done | rfl) ?_; (with_reducible refine (sum_calls g b i (sumP (b.take i.toNat)) w0 _ ks ?s0 HKS.out ?s1 ?s2 ?s3 ?s4 ?s5).mono ?_); (case s0 => exact HI0.out.2); (case s1 => exact HI0.out.1); (case s2 => have := HI0.out; have := HL.out; omega); (case s3 => exact HB8.out); (case s4 => exact HM.out.mb.rd); (case s5 => exact HM.out.mb.below)))
          rintro e w3 ⟨hb3, hk3, ⟨v, i2, hr, rfl, hI3⟩ | ⟨hr, rfl⟩⟩
          · refine .inl ⟨_, rfl, ?_⟩
            by_cases d3 : iEnd b i (sumP (b.take i.toNat))
            · rw [iSumR_yes d3] at hr
              injection hr with hr
              injection hr with hv hi
              subst hv; subst hi
              have hd := HD.out.trans (if_pos d3)
              replace HD := Aside0.mk hd
              clear hd d3
              go_wp2
              first | go_end0 | skip
              exact CEnd.yes (HM.out.read hk3 hI3 hb3) HD.out
            · rw [iSumR_no d3] at hr
              cases hr
          · have d3 : ¬ iEnd b i (sumP (b.take i.toNat)) := by
              intro d3
              rw [iSumR_yes d3] at hr
              cases hr
            have hd := HD.out.trans (if_neg d3)
            exact .inr ⟨_, rfl, rfl, CEnd.noR HM.out.mb hk3 hb3 hd⟩
        | succ k1 =>
          have hr := HR.out
          rw [iPages] at hr
          have e1 : j < m := by have := HJ.out; omega
          have e1b : decide (j < m) = true := decide_eq_true e1
          have hdn : rp = none → iDec b = none := fun h => by rw [HD.out, h]; rfl
          have HDN := Aside0.mk hdn
          clear hdn e1 HR
          go_wp2_with (first | ((with_reducible refine gate_callee (f := 61) rfl ?_); refine goesE_ (some 32) rfl rfl Try.func61 (by kernel_rfl) rfl #[.pointer (some ⟨g, 0, none⟩), .int .i64 20000] rfl (by (try simp only [List.map_toArray, List.map_cons, List.map_nil]); first | done | rfl) ?_; (with_reducible refine (below_calls g b i 20000 w0 _ (by omega) (by omega) ?s1 ?s2 ?s3 ?s4 ?s5).mono ?_); (case s1 => exact HI0.out.1); (case s2 => have := HI0.out; have := HL.out; omega); (case s3 => exact HB8.out); (case s4 => exact HM.out.mb.rd); (case s5 => exact HM.out.mb.below)))
          rintro e w2 ⟨hb2, hk2, ⟨v, i2, hr2, rfl, hI2⟩ | ⟨hr2, rfl⟩⟩
          case inr =>
            have hn := Option.map_eq_none_iff.mp hr2
            exact .inr ⟨_, rfl, rfl, CEnd.noR HM.out.mb hk2 hb2 (HDN.out (by rw [← hr, hn]; rfl))⟩
          refine .inl ⟨_, rfl, ?_⟩
          obtain ⟨⟨kk, i3⟩, hn, hp⟩ := Option.map_eq_some_iff.mp hr2
          injection hp with hp1 hp2
          subst hp1; subst hp2
          obtain ⟨k0, k1_, ii0, ii1⟩ := iBelow_at hn
          replace HM := Aside0.mk (HM.out.read hk2 hI2 hb2)
          replace hr := (congrArg (fun z => Option.bind z _) hn).symm.trans hr
          rw [Option.bind_some, show (kk, i3).1 = kk from rfl, show (kk, i3).2 = i3 from rfl] at hr
          have HKK := Aside0.mk (show 0 ≤ kk ∧ kk ≤ 20000 from ⟨k0, k1_⟩)
          replace HI0 := Aside0.mk (show 0 ≤ i3 ∧ i3 ≤ (b.length : Int) from ⟨by have := HI0.out; omega, ii1⟩)
          have hw : wrap64 (n + kk) = n + kk := by have := HN.out; unfold wrap64; omega
          clear hb2 hk2 hI2 hr2 hn k0 k1_ ii0 ii1 h5 e1b
          have h5 := (blk_cell HM.out.mb.b5 0).trans rfl
          by_cases c2 : n + kk ≤ 20000
          · rw [if_pos c2] at hr
            have c2b : decide (n + kk ≤ 20000) = true := decide_eq_true c2
            have HC2 := Aside0.mk c2
            have HR := Aside0.mk hr
            clear c2 hr
            go_wp2_with (first | ((with_reducible refine gate_callee (f := 60) rfl ?_); refine goesE_ (some 39) rfl rfl Try.func60 (by kernel_rfl) rfl #[.pointer (some ⟨g, 0, none⟩), .bool true] rfl (by (try simp only [List.map_toArray, List.map_cons, List.map_nil]); first | done | rfl) ?_; (with_reducible refine (must_end _ _ _).mono ?_)))
            rintro e w3 ⟨rfl, ⟨hq, rfl⟩ | ⟨hq, rfl⟩⟩
            case inr => cases hq
            refine .inl ⟨_, rfl, ?_⟩
            clear hq c2b
            go_upto_region 11 with (first | ((with_reducible refine gate_dst (N := 40) rfl ?_); (try (refine gate_guard (by rfl) ?_; dsimp only)); refine Kd.R_lit k81 _ 81 ?hg (N := 40) ?hd (xs := ([] : List (S81))) (inner := []) (ok := fun _ => True) (okp := fun _ => True) ?hr ?hp (fun _ hk => hk) trivial (Below.refl _ _) (Nat.le_refl _) (by simp) ?_; (case hd => rfl); (case hg => rfl); (case hr => first | (go_simp; done) | (go_simp; rfl)); (case hp => exact (Reps.none _ _)); intro v8 w8 ho8 hb hg_ hnew_; clear hg_ hnew_; have n0_ := Aside0.mk (MO.page HM.out ho8 hb); clear HM; have HM := n0_; clear n0_ hb ho8 h5))
            obtain ⟨rs, hrs⟩ : ∃ r, r = iSpots b kk.toNat 0 0 0 i3 [] := ⟨_, rfl⟩
            have HRS := Aside0.mk hrs.symm
            have hr := HR.out
            rw [← hrs] at hr
            replace HR := Aside0.mk hr
            clear hrs hr
            go_loopg [5, 6, 7, 8, 42] kk.toNat (fun kq v5 v6 v7 v8 v42 w' => ∃ (x y f l i : Int) (p : List S81), v5 = .int .i64 x ∧ v6 = .int .i64 y ∧ v7 = .int .i64 f ∧ v42 = .int .i64 l ∧ Aside0 (iSpots b kq x y f i p = rs) ∧ Aside0 (0 ≤ l ∧ l + (kq : Int) = kk) ∧ Aside0 (-1073741823 ≤ x ∧ x ≤ 1073741823 ∧ -1073741823 ≤ y ∧ y ≤ 1073741823 ∧ 0 ≤ f ∧ f ≤ 15) ∧ Aside0 (0 ≤ i ∧ i ≤ (b.length : Int)) ∧ Aside0 ((p.length : Int) = l) ∧ Aside0 (MI w0 w' g g5 g1 g4 gx A1 c1 b i vo o v8 p))
            case atStart => exact ⟨0, 0, 0, 0, i3, [], rfl, rfl, rfl, rfl, HRS, ⟨by have := HKK.out; omega⟩, ⟨by decide⟩, HI0, ⟨rfl⟩, HM⟩
            case round =>
              clear HM HRS HI0
              obtain ⟨x, y, f, l, i, p, rfl, rfl, rfl, rfl, HRS, HLL, HXY, HI0, HP, HM⟩ := hrel
              cases gk with
              | zero =>
                have hrs := HRS.out
                rw [iSpots] at hrs
                have e2 : ¬ l < kk := by have := HLL.out; omega
                have e2b : decide (l < kk) = false := decide_eq_false e2
                have hr := HR.out
                rw [← hrs, Option.bind_some] at hr
                replace HR := Aside0.mk hr
                clear hr hrs HRS e2
                obtain ⟨Ao, co, eo⟩ := Kd.S_slice HM.out.out
                obtain ⟨Ap, cp, ep⟩ := Kd.R_slice HM.out.row
                subst eo; subst ep
                have h4 := (blk_cell HM.out.mb.b4 0).trans rfl
                go_upto_region 29 with (first | ((with_reducible refine gate_builtin (b := .append) (xs := #[.tmp 118, .tmp 120]) rfl ?_); (try (refine gate_guard (by rfl) ?_; dsimp only)); at_builtin; refine Kd.S_append (Kd.slice 81 k81) (w0 := w0) w0.heap.size rfl (.tmp 118) (.tmp 120) 48 79 (.slice none 0 0) 24 rfl Try.underlying48 info79 rfl (by decide) (by omega) (.slice Ao o.length co) o p [.slice Ap p.length cp] (fun _ => True) (fun k_ => some k_ = (.slice Ap p.length cp : Value).ownBlock) rfl rfl ?aP (fun k_ hk_ => ⟨trivial, HM.out.rowOut k_ hk_⟩) ?aF ?aO ?aB ?aS ?aL ?_; (case aP => exact Kd.M_row (Kd.R_tight rfl HM.out.row)); (case aB => exact HM.out.mb.below); (case aF => exact fun _ _ => trivial); (case aO => exact Kd.S_mono HM.out.out (fun _ hk => ⟨trivial, hk⟩)); (case aS => exact below_size HM.out.mb.below); (case aL => have := HO.out; have := HJ.out; have := HM0.out; omega); intro v9 w9 ho9 hb hg hat; obtain ⟨Av, cv, ev⟩ := Kd.S_slice ho9; subst ev; have n0_ := Aside0.mk (HM.out.grow ho9 hb hg); have n1_ := Aside0.mk ho9; clear HM; have HMB := n0_; have HO9 := n1_; clear n0_ n1_ hb hg hat ho9 h4; have h4 := (blk_cell HMB.out.b4 0).trans rfl; have hf4 := blk_frozen HMB.out.b4 0))
                have HM := Aside0.mk (HMB.out.close HO9.out)
                clear HMB HO9 h4 hf4
                have HM2 : MO w0 (w9.setCell ⟨g4, 0, none⟩ (.slice Av (o.length + 1) cv)) g g5 g1 g4 gx A1 c1 b i (.slice Av (o.length + 1) cv) (o ++ [p]) := by
                  have := HM.out
                  rw [List.length_append, List.length_singleton] at this
                  exact this
                have hw2 : wrap64 (j + 1) = j + 1 := by have := HJ.out; have := HM0.out; unfold wrap64; omega
                go_wp2
                go_roundg k1
                case measure => omega
                case rel => exact ⟨n + kk, j + 1, i, _, o ++ [p], rfl, rfl, HR, ⟨by have := HJ.out; omega⟩, ⟨by have := HN.out; have := HKK.out; have := HC2.out; omega⟩, HI0, ⟨by rw [List.length_append, List.length_singleton]; have := HO.out; omega⟩, ⟨HM2⟩⟩
              | succ k2 =>
                have hrs := HRS.out
                rw [iSpots] at hrs
                have e2 : l < kk := by have := HLL.out; omega
                have e2b : decide (l < kk) = true := decide_eq_true e2
                have hsn : rs = none → iDec b = none := fun h => HDN.out (by rw [← HR.out, h]; rfl)
                have HSN := Aside0.mk hsn
                have HRS1 := Aside0.mk hrs
                clear hsn e2 HRS hrs
                go_upto_region 12 with (fail)
                refine wp_region_held (S := fun w' => w'.heap[g5]? = some (.cells #[.pointer (some ⟨g, 0, none⟩)] 95 (0, 0))) rfl ?_
                obtain ⟨sp, hsp⟩ : ∃ r, r = iSpot b x y f i := ⟨_, rfl⟩
                have hr0 := HRS1.out
                rw [← hsp] at hr0
                have HRS := Aside0.mk hr0
                have HSPN := Aside0.mk (show sp = none → iDec b = none from fun h => HSN.out (bind_no h HRS.out))
                have hr : ((iSigned b i).bind fun p => (iSigned b p.2).bind fun q => if iStep p.1 q.1 = true then (iBelow b q.2 4352).bind fun t => (iTag t.1 f).bind fun u => (iSize b (x + p.1) (y + q.1) u.1 u.2.1 t.2).bind fun s => some (s.1, u.2.2, s.2) else none) = sp := hsp.symm
                clear hsp hr0 HRS1
                replace HM := Aside0.mk HM.out.drew
                obtain ⟨wd, hwd⟩ : ∃ wd, wd = wr.drew := ⟨_, rfl⟩
                show wpAnyH _ _ _ _ _ 6 _ _ wr.drew
                rw [← hwd] at HM ⊢
                clear hwd
                have HS := Aside0.mk HM.out.mb.b5
                refine takeH_ (i := 0) (v := .pointer (some ⟨g, 0, none⟩)) (some 44) rfl rfl (by kernel_rfl) (by kernel_rfl) (by kernel_rfl) (fun _ _ _ h => h) (.inl ⟨by kernel_rfl, fun W hW => load95 rfl rfl hW⟩) HS.out ?_; (try simp only [Act.put, List.setIfInBounds_toArray, List.set_cons_zero, List.set_cons_succ])
                refine takeH_ (i := 2) (v := .pointer (some ⟨g, 0, none⟩)) (some 46) rfl rfl (by kernel_rfl) (by kernel_rfl) (by kernel_rfl) (fun _ _ _ h => h) (.inl ⟨by kernel_rfl, fun W hW => load95 rfl rfl hW⟩) HS.out ?_; (try simp only [Act.put, List.setIfInBounds_toArray, List.set_cons_zero, List.set_cons_succ])
                refine wpAnyH_all (rs := [1]) (by kernel_rfl) (by decide) (fun i_ hi_ => ?_)
                obtain rfl : i_ = 1 := by simpa using hi_
                clear hi_
                refine goesH_ (some 45) rfl rfl (by kernel_rfl) Try.func62 (by kernel_rfl) rfl #[.pointer (some ⟨g, 0, none⟩)] rfl (by (try simp only [List.map_toArray, List.map_cons, List.map_nil]); rfl) ?_; refine (signed_calls g b i w0 _ (by have := HI0.out; omega) (by have := HI0.out; have := HL.out; omega) HB8.out HM.out.mb.rd HM.out.mb.below).mono ?_
                rintro e w2 ⟨hb2, hk2, ⟨v, i2, hr2, rfl, hI2⟩ | ⟨hr2, rfl⟩⟩
                case inr => exact .inr ⟨_, rfl, rfl, CEnd.noR HM.out.mb hk2 hb2 (HSPN.out ((fun h => bind_no h hr) (Option.map_eq_none_iff.mp hr2)))⟩
                refine .inl ⟨_, rfl, ?_⟩
                obtain ⟨⟨dx, i3⟩, hn, hp⟩ := Option.map_eq_some_iff.mp hr2
                injection hp with hp1 hp2
                subst hp1; subst hp2
                have hat := iSigned_at hn
                replace HM := Aside0.mk (HM.out.read hk2 hI2 hb2)
                replace hr : ((iSigned b i3).bind fun q => if iStep dx q.1 = true then (iBelow b q.2 4352).bind fun t => (iTag t.1 f).bind fun u => (iSize b (x + dx) (y + q.1) u.1 u.2.1 t.2).bind fun s => some (s.1, u.2.2, s.2) else none) = sp := by have h_ := bind_at hn hr; exact h_
                replace HI0 := Aside0.mk (show 0 ≤ i3 ∧ i3 ≤ (b.length : Int) from by have := HI0.out; omega)
                clear hb2 hk2 hI2 hr2 hn hat
                replace HS := Aside0.mk HM.out.mb.b5
                refine ⟨HS.out, ?_⟩
                (try simp only [Act.put, List.setIfInBounds_toArray, List.set_cons_zero, List.set_cons_succ])
                refine wpAnyH_all (rs := [3]) (by kernel_rfl) (by decide) (fun i_ hi_ => ?_)
                obtain rfl : i_ = 3 := by simpa using hi_
                clear hi_
                refine goesH_ (some 47) rfl rfl (by kernel_rfl) Try.func62 (by kernel_rfl) rfl #[.pointer (some ⟨g, 0, none⟩)] rfl (by (try simp only [List.map_toArray, List.map_cons, List.map_nil]); rfl) ?_; refine (signed_calls g b i3 w0 _ (by have := HI0.out; omega) (by have := HI0.out; have := HL.out; omega) HB8.out HM.out.mb.rd HM.out.mb.below).mono ?_
                rintro e w2 ⟨hb2, hk2, ⟨v, i2, hr2, rfl, hI2⟩ | ⟨hr2, rfl⟩⟩
                case inr => exact .inr ⟨_, rfl, rfl, CEnd.noR HM.out.mb hk2 hb2 (HSPN.out ((fun h => bind_no h hr) (Option.map_eq_none_iff.mp hr2)))⟩
                refine .inl ⟨_, rfl, ?_⟩
                obtain ⟨⟨dy, i4⟩, hn, hp⟩ := Option.map_eq_some_iff.mp hr2
                injection hp with hp1 hp2
                subst hp1; subst hp2
                have hat := iSigned_at hn
                replace HM := Aside0.mk (HM.out.read hk2 hI2 hb2)
                replace hr : (if iStep dx dy = true then (iBelow b i4 4352).bind fun t => (iTag t.1 f).bind fun u => (iSize b (x + dx) (y + dy) u.1 u.2.1 t.2).bind fun s => some (s.1, u.2.2, s.2) else none) = sp := by have h_ := bind_at hn hr; exact h_
                replace HI0 := Aside0.mk (show 0 ≤ i4 ∧ i4 ≤ (b.length : Int) from by have := HI0.out; omega)
                clear hb2 hk2 hI2 hr2 hn hat
                replace HS := Aside0.mk HM.out.mb.b5
                refine ⟨HS.out, ?_⟩
                (try simp only [Act.put, List.setIfInBounds_toArray, List.set_cons_zero, List.set_cons_succ])
                refine takeH_ (i := 4) (v := .int .i64 dx) (some 9) rfl rfl (by kernel_rfl) (by kernel_rfl) (by kernel_rfl) (fun _ _ _ h => h) (.inl ⟨by kernel_rfl, fun W hW => assigns rfl rfl⟩) HS.out ?_; (try simp only [Act.put, List.setIfInBounds_toArray, List.set_cons_zero, List.set_cons_succ])
                refine takeH_ (i := 5) (v := .int .i64 dy) (some 10) rfl rfl (by kernel_rfl) (by kernel_rfl) (by kernel_rfl) (fun _ _ _ h => h) (.inl ⟨by kernel_rfl, fun W hW => assigns rfl rfl⟩) HS.out ?_; (try simp only [Act.put, List.setIfInBounds_toArray, List.set_cons_zero, List.set_cons_succ])
                refine wpAnyH_done (by kernel_rfl) ?_ _
                clear HS
                have h5 := (blk_cell HM.out.mb.b5 0).trans rfl
                have HR2 := Aside0.mk hr
                clear hr
                go_upto_region 13 with (fail)
                by_cases t1 : -2147483646 ≤ dx
                · have t1b : decide (-2147483646 ≤ dx) = true := decide_eq_true t1
                  by_cases t2 : dx ≤ 2147483646
                  · have t2b : decide (dx ≤ 2147483646) = true := decide_eq_true t2
                    by_cases t3 : -2147483646 ≤ dy
                    · have t3b : decide (-2147483646 ≤ dy) = true := decide_eq_true t3
                      by_cases t4 : dy ≤ 2147483646
                      · have t4b : decide (dy ≤ 2147483646) = true := decide_eq_true t4
                        go_wp2_with (first | ((with_reducible refine gate_callee (f := 60) rfl ?_); refine goesE_ (some 63) rfl rfl Try.func60 (by kernel_rfl) rfl #[.pointer (some ⟨g, 0, none⟩), .bool true] rfl (by (try simp only [List.map_toArray, List.map_cons, List.map_nil]); first | done | rfl) ?_; (with_reducible refine (must_end _ _ _).mono ?_)))
                        rintro e w3 ⟨rfl, ⟨hq, rfl⟩ | ⟨hq, rfl⟩⟩
                        case inr => cases hq
                        refine .inl ⟨_, rfl, ?_⟩
                        clear hq t1b t2b t3b t4b
                        have hr : ((iBelow b i4 4352).bind fun t => (iTag t.1 f).bind fun u => (iSize b (x + dx) (y + dy) u.1 u.2.1 t.2).bind fun s => some (s.1, u.2.2, s.2)) = sp := by rw [← HR2.out]; exact (if_pos ((iStep_iff dx dy).mpr ⟨⟨t1, t2⟩, t3, t4⟩)).symm
                        obtain ⟨X, hX⟩ : ∃ X, X = x + dx := ⟨_, rfl⟩
                        obtain ⟨Y, hY⟩ : ∃ Y, Y = y + dy := ⟨_, rfl⟩
                        rw [← hX, ← hY] at hr
                        have hwx : wrap64 (x + dx) = X := by rw [hX]; have := HXY.out; unfold wrap64; omega
                        have hwy : wrap64 (y + dy) = Y := by rw [hY]; have := HXY.out; unfold wrap64; omega
                        have HR3 := Aside0.mk hr
                        clear hX hY hr HR2 t1 t2 t3 t4
                        have hi81 : (Try.prog.info? 81).map (·.size) = some 6 := by kernel_rfl
                        have hi2 : (Try.prog.info? 2).map (·.size) = some 1 := by kernel_rfl
                        go_upto_region 16 with (first | ((with_reducible refine gate_dst (N := 11) rfl ?_); refine box_event ?hg (N := 11) ?hd (cs := #[.int .i64 0, .int .i64 0, .int .i64 0, .int .i64 0, .int .i64 0, .int .i64 0]) (t := 81) ?hr ?_; (case hd => rfl); (case hg => rfl); (case hr => first | (go_simp; done) | (go_simp; rfl)); intro gs hgs w4 hbox hb; have n0_ := Aside0.mk (HM.out.spot hgs hbox hb); clear HM; have HM := n0_; clear n0_ hgs hbox hb h5) | ((with_reducible refine gate_store (t := 81) (p := 11) rfl ?_); refine Box.part_store rfl 81 81 11 _ rfl rfl gs 0 (.agg #[.int .i64 X, .int .i64 Y, .int .i64 0, .int .i64 0, .int .i64 0, .int .i64 0]) [.int .i64 X, .int .i64 Y, .int .i64 0, .int .i64 0, .int .i64 0, .int .i64 0] #[.int .i64 0, .int .i64 0, .int .i64 0, .int .i64 0, .int .i64 0, .int .i64 0] #[.int .i64 X, .int .i64 Y, .int .i64 0, .int .i64 0, .int .i64 0, .int .i64 0] rfl rfl rfl HM.out.bs hi81 (Nat.le_of_ble_eq_true rfl) rfl rfl ?_; intro w5 hb hk hl; have n0_ := Aside0.mk (HM.out.put hb hk hl); clear HM; have HM := n0_; clear n0_ hb hk hl; have h5 := (blk_cell HM.out.mb.b5 0).trans rfl))
                        go_wp2_with (first | ((with_reducible refine gate_callee (f := 61) rfl ?_); refine goesE_ (some 74) rfl rfl Try.func61 (by kernel_rfl) rfl #[.pointer (some ⟨g, 0, none⟩), .int .i64 4352] rfl (by (try simp only [List.map_toArray, List.map_cons, List.map_nil]); first | done | rfl) ?_; (with_reducible refine (below_calls g b i4 4352 w0 _ (by omega) (by omega) ?s1 ?s2 ?s3 ?s4 ?s5).mono ?_); (case s1 => exact HI0.out.1); (case s2 => have := HI0.out; have := HL.out; omega); (case s3 => exact HB8.out); (case s4 => exact HM.out.mb.rd); (case s5 => exact HM.out.mb.below)))
                        have hr := HR3.out
                        rintro e w2 ⟨hb2, hk2, ⟨v, i2, hr2, rfl, hI2⟩ | ⟨hr2, rfl⟩⟩
                        case inr => exact .inr ⟨_, rfl, rfl, CEnd.noR HM.out.mb hk2 hb2 (HSPN.out ((fun h => bind_no h hr) (Option.map_eq_none_iff.mp hr2)))⟩
                        refine .inl ⟨_, rfl, ?_⟩
                        obtain ⟨⟨c, i5⟩, hn, hp⟩ := Option.map_eq_some_iff.mp hr2
                        injection hp with hp1 hp2
                        subst hp1; subst hp2
                        have hat := iBelow_at hn
                        replace HM := Aside0.mk (HM.out.read hk2 hI2 hb2)
                        replace hr : ((iTag c f).bind fun u => (iSize b X Y u.1 u.2.1 i5).bind fun s => some (s.1, u.2.2, s.2)) = sp := by have h_ := bind_at hn hr; exact h_
                        replace HI0 := Aside0.mk (show 0 ≤ i5 ∧ i5 ≤ (b.length : Int) from by have := HI0.out; omega)
                        have HCC := Aside0.mk (show 0 ≤ c ∧ c ≤ 4352 from ⟨hat.1, hat.2.1⟩)
                        clear hb2 hk2 hI2 hr2 hn hat HR3 h5 hwx hwy
                        by_cases a1 : c = 0
                        · replace hr : ((iSize b X Y (-1) 0 i5).bind fun s => some (s.1, f, s.2)) = sp := by have h_ := bind_at (show iTag c f = some (-1, 0, f) from if_pos a1) hr; exact h_
                          have a1b : (c == 0) = true := beq_iff_eq.mpr a1
                          have HR4 := Aside0.mk hr
                          clear a1 hr
                          go_upto_region 24 with (first | ((with_reducible refine gate_store (t := 2) (p := 94) rfl ?_); refine Box.part_store rfl 2 81 94 _ rfl rfl gs 3 (.int .i64 (-1)) [.int .i64 (-1)] #[.int .i64 X, .int .i64 Y, .int .i64 0, .int .i64 0, .int .i64 0, .int .i64 0] #[.int .i64 X, .int .i64 Y, .int .i64 0, .int .i64 (-1), .int .i64 0, .int .i64 0] rfl (by first | rfl) rfl HM.out.bs hi2 (Nat.le_of_ble_eq_true rfl) rfl rfl ?_; intro w5 hb hk hl; have n0_ := Aside0.mk (HM.out.put hb hk hl); clear HM; have HM := n0_; clear n0_ hb hk hl))
                          obtain ⟨sz, hsz⟩ : ∃ r, r = iSize b X Y (-1) 0 i5 := ⟨_, rfl⟩
                          have hr0 := HR4.out
                          rw [← hsz] at hr0
                          replace HR4 := Aside0.mk hr0
                          replace HSPN := Aside0.mk (show sz = none → iDec b = none from fun h => HSPN.out (bind_no h HR4.out))
                          have hr : ((iBelow b i5 1073741823).bind fun p => (iBelow b p.2 1073741823).bind fun q => if okS ⟨X, Y, 0, (-1), p.1, q.1⟩ = true then some (⟨X, Y, 0, (-1), p.1, q.1⟩, q.2) else none) = sz := hsz.symm
                          clear hsz hr0
                          refine wp_region_held (S := fun w' => w'.heap[g5]? = some (.cells #[.pointer (some ⟨g, 0, none⟩)] 95 (0, 0))) rfl ?_
                          replace HM := Aside0.mk HM.out.drew
                          generalize hwd : World.drew _ = wd_ at HM
                          show wpAnyH _ _ _ _ _ 8 _ _ (World.drew _)
                          rw [hwd]
                          clear hwd
                          have HS := Aside0.mk HM.out.mb.b5
                          refine takeH_ (i := 0) (v := .pointer (some ⟨g, 0, none⟩)) (some 103) rfl rfl (by kernel_rfl) (by kernel_rfl) (by kernel_rfl) (fun _ _ _ h => h) (.inl ⟨by kernel_rfl, fun W hW => load95 rfl rfl hW⟩) HS.out ?_; (try simp only [Act.put, List.setIfInBounds_toArray, List.set_cons_zero, List.set_cons_succ])
                          refine takeH_ (i := 2) (v := .pointer (some ⟨g, 0, none⟩)) (some 105) rfl rfl (by kernel_rfl) (by kernel_rfl) (by kernel_rfl) (fun _ _ _ h => h) (.inl ⟨by kernel_rfl, fun W hW => load95 rfl rfl hW⟩) HS.out ?_; (try simp only [Act.put, List.setIfInBounds_toArray, List.set_cons_zero, List.set_cons_succ])
                          refine wpAnyH_all (rs := [1]) (by kernel_rfl) (by decide) (fun i_ hi_ => ?_)
                          obtain rfl : i_ = 1 := by simpa using hi_
                          clear hi_
                          refine goesH_ (some 104) rfl rfl (by kernel_rfl) Try.func61 (by kernel_rfl) rfl #[.pointer (some ⟨g, 0, none⟩), .int .i64 1073741823] rfl (by (try simp only [List.map_toArray, List.map_cons, List.map_nil]); rfl) ?_; refine (below_calls g b i5 1073741823 w0 _ (by omega) (by omega) (by have := HI0.out; omega) (by have := HI0.out; have := HL.out; omega) HB8.out HM.out.mb.rd HM.out.mb.below).mono ?_
                          rintro e w2 ⟨hb2, hk2, ⟨v, i2, hr2, rfl, hI2⟩ | ⟨hr2, rfl⟩⟩
                          case inr => exact .inr ⟨_, rfl, rfl, CEnd.noR HM.out.mb hk2 hb2 (HSPN.out ((fun h => bind_no h hr) (Option.map_eq_none_iff.mp hr2)))⟩
                          refine .inl ⟨_, rfl, ?_⟩
                          obtain ⟨⟨wd, i6⟩, hn, hp⟩ := Option.map_eq_some_iff.mp hr2
                          injection hp with hp1 hp2
                          subst hp1; subst hp2
                          have hat := iBelow_at hn
                          replace HM := Aside0.mk (HM.out.read hk2 hI2 hb2)
                          replace hr : ((iBelow b i6 1073741823).bind fun q => if okS ⟨X, Y, 0, (-1), wd, q.1⟩ = true then some (⟨X, Y, 0, (-1), wd, q.1⟩, q.2) else none) = sz := by have h_ := bind_at hn hr; exact h_
                          replace HI0 := Aside0.mk (show 0 ≤ i6 ∧ i6 ≤ (b.length : Int) from by have := HI0.out; omega)
                          clear hb2 hk2 hI2 hr2 hn hat
                          replace HS := Aside0.mk HM.out.mb.b5
                          refine ⟨HS.out, ?_⟩
                          (try simp only [Act.put, List.setIfInBounds_toArray, List.set_cons_zero, List.set_cons_succ])
                          refine takeH_ (i := 4) (v := .pointer (some ⟨gs, 4, none⟩)) (some 107) rfl rfl (by kernel_rfl) (by kernel_rfl) (by kernel_rfl) (fun _ _ _ h => h) (.inl ⟨by kernel_rfl, fun W hW => faddr81 rfl rfl (by decide)⟩) HS.out ?_; (try simp only [Act.put, List.setIfInBounds_toArray, List.set_cons_zero, List.set_cons_succ])
                          refine wpAnyH_all (rs := [3]) (by kernel_rfl) (by decide) (fun i_ hi_ => ?_)
                          obtain rfl : i_ = 3 := by simpa using hi_
                          clear hi_
                          refine goesH_ (some 106) rfl rfl (by kernel_rfl) Try.func61 (by kernel_rfl) rfl #[.pointer (some ⟨g, 0, none⟩), .int .i64 1073741823] rfl (by (try simp only [List.map_toArray, List.map_cons, List.map_nil]); rfl) ?_; refine (below_calls g b i6 1073741823 w0 _ (by omega) (by omega) (by have := HI0.out; omega) (by have := HI0.out; have := HL.out; omega) HB8.out HM.out.mb.rd HM.out.mb.below).mono ?_
                          rintro e w2 ⟨hb2, hk2, ⟨v, i2, hr2, rfl, hI2⟩ | ⟨hr2, rfl⟩⟩
                          case inr => exact .inr ⟨_, rfl, rfl, CEnd.noR HM.out.mb hk2 hb2 (HSPN.out ((fun h => bind_no h hr) (Option.map_eq_none_iff.mp hr2)))⟩
                          refine .inl ⟨_, rfl, ?_⟩
                          obtain ⟨⟨ht, i7⟩, hn, hp⟩ := Option.map_eq_some_iff.mp hr2
                          injection hp with hp1 hp2
                          subst hp1; subst hp2
                          have hat := iBelow_at hn
                          replace HM := Aside0.mk (HM.out.read hk2 hI2 hb2)
                          replace hr : (if okS ⟨X, Y, 0, (-1), wd, ht⟩ = true then some ((⟨X, Y, 0, (-1), wd, ht⟩ : S81), i7) else none) = sz := by have h_ := bind_at hn hr; exact h_
                          replace HI0 := Aside0.mk (show 0 ≤ i7 ∧ i7 ≤ (b.length : Int) from by have := HI0.out; omega)
                          clear hb2 hk2 hI2 hr2 hn hat
                          replace HS := Aside0.mk HM.out.mb.b5
                          refine ⟨HS.out, ?_⟩
                          (try simp only [Act.put, List.setIfInBounds_toArray, List.set_cons_zero, List.set_cons_succ])
                          refine wpAnyH_all (rs := [5]) (by kernel_rfl) (by decide) (fun i_ hi_ => ?_)
                          obtain rfl : i_ = 5 := by simpa using hi_
                          clear hi_
                          refine storeH_ rfl (by kernel_rfl) 2 81 107 _ rfl rfl gs 4 (.int .i64 wd) [.int .i64 wd] #[.int .i64 X, .int .i64 Y, .int .i64 0, .int .i64 (-1), .int .i64 0, .int .i64 0] #[.int .i64 X, .int .i64 Y, .int .i64 0, .int .i64 (-1), .int .i64 wd, .int .i64 0] rfl rfl rfl HM.out.bs hi2 (Nat.le_of_ble_eq_true rfl) rfl rfl ?_
                          intro w5 hb hk hl
                          replace HM := Aside0.mk (HM.out.put hb hk hl)
                          clear hb hk hl
                          replace HS := Aside0.mk HM.out.mb.b5
                          refine ⟨HS.out, ?_⟩
                          (try simp only [Act.put, List.setIfInBounds_toArray, List.set_cons_zero, List.set_cons_succ])
                          refine takeH_ (i := 6) (v := .pointer (some ⟨gs, 5, none⟩)) (some 108) rfl rfl (by kernel_rfl) (by kernel_rfl) (by kernel_rfl) (fun _ _ _ h => h) (.inl ⟨by kernel_rfl, fun W hW => faddr81 rfl rfl (by decide)⟩) HS.out ?_; (try simp only [Act.put, List.setIfInBounds_toArray, List.set_cons_zero, List.set_cons_succ])
                          refine wpAnyH_all (rs := [7]) (by kernel_rfl) (by decide) (fun i_ hi_ => ?_)
                          obtain rfl : i_ = 7 := by simpa using hi_
                          clear hi_
                          refine storeH_ rfl (by kernel_rfl) 2 81 108 _ rfl rfl gs 5 (.int .i64 ht) [.int .i64 ht] #[.int .i64 X, .int .i64 Y, .int .i64 0, .int .i64 (-1), .int .i64 wd, .int .i64 0] #[.int .i64 X, .int .i64 Y, .int .i64 0, .int .i64 (-1), .int .i64 wd, .int .i64 ht] rfl rfl rfl HM.out.bs hi2 (Nat.le_of_ble_eq_true rfl) rfl rfl ?_
                          intro w5 hb hk hl
                          replace HM := Aside0.mk (HM.out.put hb hk hl)
                          clear hb hk hl
                          replace HS := Aside0.mk HM.out.mb.b5
                          refine ⟨HS.out, ?_⟩
                          (try simp only [Act.put, List.setIfInBounds_toArray, List.set_cons_zero, List.set_cons_succ])
                          refine wpAnyH_done (by kernel_rfl) ?_ _
                          clear HS
                          have HR5 := Aside0.mk hr
                          clear hr
                          go_upto_region 25 with (fail)
                          refine wp_region_held (S := fun w' => w'.heap[g5]? = some (.cells #[.pointer (some ⟨g, 0, none⟩)] 95 (0, 0)) ∧ w'.heap[gs]? = some (.cells #[.int .i64 X, .int .i64 Y, .int .i64 0, .int .i64 (-1), .int .i64 wd, .int .i64 ht] 81 (0, 0))) rfl ?_
                          replace HM := Aside0.mk HM.out.drew
                          generalize hwd : World.drew _ = wd_ at HM
                          show wpAnyH _ _ _ _ _ 4 _ _ (World.drew _)
                          rw [hwd]
                          clear hwd
                          have HS := Aside0.mk (And.intro HM.out.mb.b5 HM.out.bs)
                          refine takeH_ (i := 0) (v := .pointer (some ⟨g, 0, none⟩)) (some 109) rfl rfl (by kernel_rfl) (by kernel_rfl) (by kernel_rfl) (fun _ _ _ h => h) (.inl ⟨by kernel_rfl, fun W hW => load95 rfl rfl hW.1⟩) HS.out ?_; (try simp only [Act.put, List.setIfInBounds_toArray, List.set_cons_zero, List.set_cons_succ])
                          refine takeH_ (i := 1) (v := .agg #[.int .i64 X, .int .i64 Y, .int .i64 0, .int .i64 (-1), .int .i64 wd, .int .i64 ht]) (some 110) rfl rfl (by kernel_rfl) (by kernel_rfl) (by kernel_rfl) (fun _ _ _ h => h) (.inl ⟨by kernel_rfl, fun W hW => load81 rfl rfl hW.2 rfl⟩) HS.out ?_; (try simp only [Act.put, List.setIfInBounds_toArray, List.set_cons_zero, List.set_cons_succ])
                          refine wpAnyH_all (rs := [2]) (by kernel_rfl) (by decide) (fun i_ hi_ => ?_)
                          obtain rfl : i_ = 2 := by simpa using hi_
                          clear hi_
                          obtain ⟨bo, hbo⟩ : ∃ q, q = okS ⟨X, Y, 0, (-1), wd, ht⟩ := ⟨_, rfl⟩
                          refine goesH_ (some 111) rfl rfl (by kernel_rfl) Try.func63 (by kernel_rfl) rfl #[.agg #[.int .i64 X, .int .i64 Y, .int .i64 0, .int .i64 (-1), .int .i64 wd, .int .i64 ht]] rfl (by (try simp only [List.map_toArray, List.map_cons, List.map_nil]); rfl) ?_; refine (impl_oSpotOk.calls X Y 0 (-1) wd ht bo _ (by rw [hbo]; exact spot_i X Y 0 (-1) wd ht)).mono ?_
                          rintro e w6 ⟨rfl, hb⟩
                          refine .inl ⟨_, rfl, ?_⟩
                          replace HM := Aside0.mk (HM.out.made hb)
                          have hr := HR5.out
                          rw [← hbo] at hr
                          replace HR5 := Aside0.mk hr
                          have HBO := Aside0.mk hbo
                          clear hb hr hbo
                          replace HS := Aside0.mk (And.intro HM.out.mb.b5 HM.out.bs)
                          refine ⟨HS.out, ?_⟩
                          (try simp only [Act.put, List.setIfInBounds_toArray, List.set_cons_zero, List.set_cons_succ])
                          refine wpAnyH_all (rs := [3]) (by kernel_rfl) (by decide) (fun i_ hi_ => ?_)
                          obtain rfl : i_ = 3 := by simpa using hi_
                          clear hi_
                          refine goesH_ (some 112) rfl rfl (by kernel_rfl) Try.func60 (by kernel_rfl) rfl #[.pointer (some ⟨g, 0, none⟩), .bool bo] rfl (by (try simp only [List.map_toArray, List.map_cons, List.map_nil]); rfl) ?_; refine (must_end _ _ _).mono ?_
                          rintro e w3 ⟨rfl, ⟨hq, rfl⟩ | ⟨hq, rfl⟩⟩
                          case inr => exact .inr ⟨_, rfl, rfl, CEnd.no HM.out.mb (HSPN.out (by rw [← HR5.out, hq]; rfl))⟩
                          refine .inl ⟨_, rfl, ?_⟩
                          refine ⟨HS.out, ?_⟩
                          (try simp only [Act.put, List.setIfInBounds_toArray, List.set_cons_zero, List.set_cons_succ])
                          have HSZ := Aside0.mk ((if_pos hq).symm.trans HR5.out)
                          have HOK := Aside0.mk (okS_in (HBO.out.symm.trans hq))
                          clear hq HS HBO HR5
                          refine wpAnyH_done (by kernel_rfl) ?_ _
                          have HSP := Aside0.mk (bind_at HSZ.out.symm HR4.out)
                          have HRS2 := Aside0.mk (bind_at HSP.out.symm HRS.out)
                          clear HSZ HSP HR4 HRS HSPN
                          go_upto_region 27 with (first | ((with_reducible refine gate_dst (N := 114) rfl ?_); refine Box.all_load rfl 81 81 _ rfl gs #[.int .i64 X, .int .i64 Y, .int .i64 0, .int .i64 (-1), .int .i64 wd, .int .i64 ht] _ rfl HM.out.bs Try.underlying81 hi81 ?_) | ((with_reducible refine gate_builtin (b := .append) (xs := #[.tmp 113, .tmp 115]) rfl ?_); (try (refine gate_guard (by rfl) ?_; dsimp only)); at_builtin; refine Kd.R_append k81 (w0 := w0) w0.heap.size rfl (.tmp 113) (.tmp 115) 79 81 (.agg #[(.int .i64 0), (.int .i64 0), (.int .i64 0), (.int .i64 0), (.int .i64 0), (.int .i64 0)]) 48 rfl Try.underlying79 info81 rfl (by decide) (by omega) u8 p (⟨X, Y, 0, (-1), wd, ht⟩ : S81) [.int .i64 X, .int .i64 Y, .int .i64 0, .int .i64 (-1), .int .i64 wd, .int .i64 ht] (fun k_ => k_ ≠ gs) (fun _ => False) rfl (by first | (go_simp; done) | (go_simp; rfl)) ?aP (fun _ hk => hk.elim) ?aF ?aO ?aB ?aS ?aL ?_; (case aP => exact k81_mkM _ _ _ (⟨X, Y, 0, (-1), wd, ht⟩ : S81)); (case aB => exact HM.out.mb.below); (case aF => exact fun k_ hk => Kd.freshB HM.out.bs k_ hk); (case aO => exact HM.out.row); (case aS => exact below_size HM.out.mb.below); (case aL => have := HP.out; have := HLL.out; have := HKK.out; omega); intro v9 w9 ho hb hg hat; have n0_ := Aside0.mk (HM.out.grow ho hb hg hat); clear HM; have HM := n0_; clear n0_ ho hb hg hat))
                          have hw3 : wrap64 (l + 1) = l + 1 := by have := HLL.out; have := HKK.out; unfold wrap64; omega
                          go_wp2
                          go_roundg k2
                          case measure => omega
                          case rel => exact ⟨X, Y, f, l + 1, i7, p ++ [⟨X, Y, 0, (-1), wd, ht⟩], rfl, rfl, rfl, rfl, HRS2, ⟨by have := HLL.out; omega⟩, ⟨⟨HOK.out.1.1, HOK.out.1.2, HOK.out.2.1.1, HOK.out.2.1.2, HXY.out.2.2.2.2⟩⟩, HI0, ⟨by rw [List.length_append, List.length_singleton]; have := HP.out; omega⟩, HM⟩
                        · have a1b : (c == 0) = false := beq_eq_false_iff_ne.mpr a1
                          by_cases a2 : c ≤ 256
                          · replace hr : ((iSize b X Y (c - 1) f i5).bind fun s => some (s.1, f, s.2)) = sp := by have h_ := bind_at (show iTag c f = some (c - 1, f, f) from (if_neg a1).trans (if_pos a2)) hr; exact h_
                            have a2b : decide (c ≤ 256) = true := decide_eq_true a2
                            have HR4 := Aside0.mk hr
                            obtain ⟨ch, hch⟩ : ∃ ch, ch = c - 1 := ⟨_, rfl⟩
                            have hw5 : wrap64 (c - 1) = ch := by rw [hch]; have := HCC.out; unfold wrap64; omega
                            replace HR4 := Aside0.mk (show ((iSize b X Y ch f i5).bind fun s => some (s.1, f, s.2)) = sp from by rw [hch]; exact HR4.out)
                            clear a1 a2 hr hch
                            go_upto_region 24 with (first | ((with_reducible refine gate_store (t := 2) (p := 101) rfl ?_); refine Box.part_store rfl 2 81 101 _ rfl rfl gs 3 (.int .i64 ch) [.int .i64 ch] #[.int .i64 X, .int .i64 Y, .int .i64 0, .int .i64 0, .int .i64 0, .int .i64 0] #[.int .i64 X, .int .i64 Y, .int .i64 0, .int .i64 ch, .int .i64 0, .int .i64 0] rfl (by first | rfl | exact congrArg (Value.int IntKind.i64) hw5) rfl HM.out.bs hi2 (Nat.le_of_ble_eq_true rfl) rfl rfl ?_; intro w5 hb hk hl; have n0_ := Aside0.mk (HM.out.put hb hk hl); clear HM; have HM := n0_; clear n0_ hb hk hl) | ((with_reducible refine gate_store (t := 2) (p := 102) rfl ?_); refine Box.part_store rfl 2 81 102 _ rfl rfl gs 2 (.int .i64 f) [.int .i64 f] #[.int .i64 X, .int .i64 Y, .int .i64 0, .int .i64 ch, .int .i64 0, .int .i64 0] #[.int .i64 X, .int .i64 Y, .int .i64 f, .int .i64 ch, .int .i64 0, .int .i64 0] rfl (by first | rfl) rfl HM.out.bs hi2 (Nat.le_of_ble_eq_true rfl) rfl rfl ?_; intro w5 hb hk hl; have n0_ := Aside0.mk (HM.out.put hb hk hl); clear HM; have HM := n0_; clear n0_ hb hk hl))
                            obtain ⟨sz, hsz⟩ : ∃ r, r = iSize b X Y ch f i5 := ⟨_, rfl⟩
                            have hr0 := HR4.out
                            rw [← hsz] at hr0
                            replace HR4 := Aside0.mk hr0
                            replace HSPN := Aside0.mk (show sz = none → iDec b = none from fun h => HSPN.out (bind_no h HR4.out))
                            have hr : ((iBelow b i5 1073741823).bind fun p => (iBelow b p.2 1073741823).bind fun q => if okS ⟨X, Y, f, ch, p.1, q.1⟩ = true then some (⟨X, Y, f, ch, p.1, q.1⟩, q.2) else none) = sz := hsz.symm
                            clear hsz hr0
                            refine wp_region_held (S := fun w' => w'.heap[g5]? = some (.cells #[.pointer (some ⟨g, 0, none⟩)] 95 (0, 0))) rfl ?_
                            replace HM := Aside0.mk HM.out.drew
                            generalize hwd : World.drew _ = wd_ at HM
                            show wpAnyH _ _ _ _ _ 8 _ _ (World.drew _)
                            rw [hwd]
                            clear hwd
                            have HS := Aside0.mk HM.out.mb.b5
                            refine takeH_ (i := 0) (v := .pointer (some ⟨g, 0, none⟩)) (some 103) rfl rfl (by kernel_rfl) (by kernel_rfl) (by kernel_rfl) (fun _ _ _ h => h) (.inl ⟨by kernel_rfl, fun W hW => load95 rfl rfl hW⟩) HS.out ?_; (try simp only [Act.put, List.setIfInBounds_toArray, List.set_cons_zero, List.set_cons_succ])
                            refine takeH_ (i := 2) (v := .pointer (some ⟨g, 0, none⟩)) (some 105) rfl rfl (by kernel_rfl) (by kernel_rfl) (by kernel_rfl) (fun _ _ _ h => h) (.inl ⟨by kernel_rfl, fun W hW => load95 rfl rfl hW⟩) HS.out ?_; (try simp only [Act.put, List.setIfInBounds_toArray, List.set_cons_zero, List.set_cons_succ])
                            refine wpAnyH_all (rs := [1]) (by kernel_rfl) (by decide) (fun i_ hi_ => ?_)
                            obtain rfl : i_ = 1 := by simpa using hi_
                            clear hi_
                            refine goesH_ (some 104) rfl rfl (by kernel_rfl) Try.func61 (by kernel_rfl) rfl #[.pointer (some ⟨g, 0, none⟩), .int .i64 1073741823] rfl (by (try simp only [List.map_toArray, List.map_cons, List.map_nil]); rfl) ?_; refine (below_calls g b i5 1073741823 w0 _ (by omega) (by omega) (by have := HI0.out; omega) (by have := HI0.out; have := HL.out; omega) HB8.out HM.out.mb.rd HM.out.mb.below).mono ?_
                            rintro e w2 ⟨hb2, hk2, ⟨v, i2, hr2, rfl, hI2⟩ | ⟨hr2, rfl⟩⟩
                            case inr => exact .inr ⟨_, rfl, rfl, CEnd.noR HM.out.mb hk2 hb2 (HSPN.out ((fun h => bind_no h hr) (Option.map_eq_none_iff.mp hr2)))⟩
                            refine .inl ⟨_, rfl, ?_⟩
                            obtain ⟨⟨wd, i6⟩, hn, hp⟩ := Option.map_eq_some_iff.mp hr2
                            injection hp with hp1 hp2
                            subst hp1; subst hp2
                            have hat := iBelow_at hn
                            replace HM := Aside0.mk (HM.out.read hk2 hI2 hb2)
                            replace hr : ((iBelow b i6 1073741823).bind fun q => if okS ⟨X, Y, f, ch, wd, q.1⟩ = true then some (⟨X, Y, f, ch, wd, q.1⟩, q.2) else none) = sz := by have h_ := bind_at hn hr; exact h_
                            replace HI0 := Aside0.mk (show 0 ≤ i6 ∧ i6 ≤ (b.length : Int) from by have := HI0.out; omega)
                            clear hb2 hk2 hI2 hr2 hn hat
                            replace HS := Aside0.mk HM.out.mb.b5
                            refine ⟨HS.out, ?_⟩
                            (try simp only [Act.put, List.setIfInBounds_toArray, List.set_cons_zero, List.set_cons_succ])
                            refine takeH_ (i := 4) (v := .pointer (some ⟨gs, 4, none⟩)) (some 107) rfl rfl (by kernel_rfl) (by kernel_rfl) (by kernel_rfl) (fun _ _ _ h => h) (.inl ⟨by kernel_rfl, fun W hW => faddr81 rfl rfl (by decide)⟩) HS.out ?_; (try simp only [Act.put, List.setIfInBounds_toArray, List.set_cons_zero, List.set_cons_succ])
                            refine wpAnyH_all (rs := [3]) (by kernel_rfl) (by decide) (fun i_ hi_ => ?_)
                            obtain rfl : i_ = 3 := by simpa using hi_
                            clear hi_
                            refine goesH_ (some 106) rfl rfl (by kernel_rfl) Try.func61 (by kernel_rfl) rfl #[.pointer (some ⟨g, 0, none⟩), .int .i64 1073741823] rfl (by (try simp only [List.map_toArray, List.map_cons, List.map_nil]); rfl) ?_; refine (below_calls g b i6 1073741823 w0 _ (by omega) (by omega) (by have := HI0.out; omega) (by have := HI0.out; have := HL.out; omega) HB8.out HM.out.mb.rd HM.out.mb.below).mono ?_
                            rintro e w2 ⟨hb2, hk2, ⟨v, i2, hr2, rfl, hI2⟩ | ⟨hr2, rfl⟩⟩
                            case inr => exact .inr ⟨_, rfl, rfl, CEnd.noR HM.out.mb hk2 hb2 (HSPN.out ((fun h => bind_no h hr) (Option.map_eq_none_iff.mp hr2)))⟩
                            refine .inl ⟨_, rfl, ?_⟩
                            obtain ⟨⟨ht, i7⟩, hn, hp⟩ := Option.map_eq_some_iff.mp hr2
                            injection hp with hp1 hp2
                            subst hp1; subst hp2
                            have hat := iBelow_at hn
                            replace HM := Aside0.mk (HM.out.read hk2 hI2 hb2)
                            replace hr : (if okS ⟨X, Y, f, ch, wd, ht⟩ = true then some ((⟨X, Y, f, ch, wd, ht⟩ : S81), i7) else none) = sz := by have h_ := bind_at hn hr; exact h_
                            replace HI0 := Aside0.mk (show 0 ≤ i7 ∧ i7 ≤ (b.length : Int) from by have := HI0.out; omega)
                            clear hb2 hk2 hI2 hr2 hn hat
                            replace HS := Aside0.mk HM.out.mb.b5
                            refine ⟨HS.out, ?_⟩
                            (try simp only [Act.put, List.setIfInBounds_toArray, List.set_cons_zero, List.set_cons_succ])
                            refine wpAnyH_all (rs := [5]) (by kernel_rfl) (by decide) (fun i_ hi_ => ?_)
                            obtain rfl : i_ = 5 := by simpa using hi_
                            clear hi_
                            refine storeH_ rfl (by kernel_rfl) 2 81 107 _ rfl rfl gs 4 (.int .i64 wd) [.int .i64 wd] #[.int .i64 X, .int .i64 Y, .int .i64 f, .int .i64 ch, .int .i64 0, .int .i64 0] #[.int .i64 X, .int .i64 Y, .int .i64 f, .int .i64 ch, .int .i64 wd, .int .i64 0] rfl rfl rfl HM.out.bs hi2 (Nat.le_of_ble_eq_true rfl) rfl rfl ?_
                            intro w5 hb hk hl
                            replace HM := Aside0.mk (HM.out.put hb hk hl)
                            clear hb hk hl
                            replace HS := Aside0.mk HM.out.mb.b5
                            refine ⟨HS.out, ?_⟩
                            (try simp only [Act.put, List.setIfInBounds_toArray, List.set_cons_zero, List.set_cons_succ])
                            refine takeH_ (i := 6) (v := .pointer (some ⟨gs, 5, none⟩)) (some 108) rfl rfl (by kernel_rfl) (by kernel_rfl) (by kernel_rfl) (fun _ _ _ h => h) (.inl ⟨by kernel_rfl, fun W hW => faddr81 rfl rfl (by decide)⟩) HS.out ?_; (try simp only [Act.put, List.setIfInBounds_toArray, List.set_cons_zero, List.set_cons_succ])
                            refine wpAnyH_all (rs := [7]) (by kernel_rfl) (by decide) (fun i_ hi_ => ?_)
                            obtain rfl : i_ = 7 := by simpa using hi_
                            clear hi_
                            refine storeH_ rfl (by kernel_rfl) 2 81 108 _ rfl rfl gs 5 (.int .i64 ht) [.int .i64 ht] #[.int .i64 X, .int .i64 Y, .int .i64 f, .int .i64 ch, .int .i64 wd, .int .i64 0] #[.int .i64 X, .int .i64 Y, .int .i64 f, .int .i64 ch, .int .i64 wd, .int .i64 ht] rfl rfl rfl HM.out.bs hi2 (Nat.le_of_ble_eq_true rfl) rfl rfl ?_
                            intro w5 hb hk hl
                            replace HM := Aside0.mk (HM.out.put hb hk hl)
                            clear hb hk hl
                            replace HS := Aside0.mk HM.out.mb.b5
                            refine ⟨HS.out, ?_⟩
                            (try simp only [Act.put, List.setIfInBounds_toArray, List.set_cons_zero, List.set_cons_succ])
                            refine wpAnyH_done (by kernel_rfl) ?_ _
                            clear HS
                            have HR5 := Aside0.mk hr
                            clear hr
                            go_upto_region 25 with (fail)
                            refine wp_region_held (S := fun w' => w'.heap[g5]? = some (.cells #[.pointer (some ⟨g, 0, none⟩)] 95 (0, 0)) ∧ w'.heap[gs]? = some (.cells #[.int .i64 X, .int .i64 Y, .int .i64 f, .int .i64 ch, .int .i64 wd, .int .i64 ht] 81 (0, 0))) rfl ?_
                            replace HM := Aside0.mk HM.out.drew
                            generalize hwd : World.drew _ = wd_ at HM
                            show wpAnyH _ _ _ _ _ 4 _ _ (World.drew _)
                            rw [hwd]
                            clear hwd
                            have HS := Aside0.mk (And.intro HM.out.mb.b5 HM.out.bs)
                            refine takeH_ (i := 0) (v := .pointer (some ⟨g, 0, none⟩)) (some 109) rfl rfl (by kernel_rfl) (by kernel_rfl) (by kernel_rfl) (fun _ _ _ h => h) (.inl ⟨by kernel_rfl, fun W hW => load95 rfl rfl hW.1⟩) HS.out ?_; (try simp only [Act.put, List.setIfInBounds_toArray, List.set_cons_zero, List.set_cons_succ])
                            refine takeH_ (i := 1) (v := .agg #[.int .i64 X, .int .i64 Y, .int .i64 f, .int .i64 ch, .int .i64 wd, .int .i64 ht]) (some 110) rfl rfl (by kernel_rfl) (by kernel_rfl) (by kernel_rfl) (fun _ _ _ h => h) (.inl ⟨by kernel_rfl, fun W hW => load81 rfl rfl hW.2 rfl⟩) HS.out ?_; (try simp only [Act.put, List.setIfInBounds_toArray, List.set_cons_zero, List.set_cons_succ])
                            refine wpAnyH_all (rs := [2]) (by kernel_rfl) (by decide) (fun i_ hi_ => ?_)
                            obtain rfl : i_ = 2 := by simpa using hi_
                            clear hi_
                            obtain ⟨bo, hbo⟩ : ∃ q, q = okS ⟨X, Y, f, ch, wd, ht⟩ := ⟨_, rfl⟩
                            refine goesH_ (some 111) rfl rfl (by kernel_rfl) Try.func63 (by kernel_rfl) rfl #[.agg #[.int .i64 X, .int .i64 Y, .int .i64 f, .int .i64 ch, .int .i64 wd, .int .i64 ht]] rfl (by (try simp only [List.map_toArray, List.map_cons, List.map_nil]); rfl) ?_; refine (impl_oSpotOk.calls X Y f ch wd ht bo _ (by rw [hbo]; exact spot_i X Y f ch wd ht)).mono ?_
                            rintro e w6 ⟨rfl, hb⟩
                            refine .inl ⟨_, rfl, ?_⟩
                            replace HM := Aside0.mk (HM.out.made hb)
                            have hr := HR5.out
                            rw [← hbo] at hr
                            replace HR5 := Aside0.mk hr
                            have HBO := Aside0.mk hbo
                            clear hb hr hbo
                            replace HS := Aside0.mk (And.intro HM.out.mb.b5 HM.out.bs)
                            refine ⟨HS.out, ?_⟩
                            (try simp only [Act.put, List.setIfInBounds_toArray, List.set_cons_zero, List.set_cons_succ])
                            refine wpAnyH_all (rs := [3]) (by kernel_rfl) (by decide) (fun i_ hi_ => ?_)
                            obtain rfl : i_ = 3 := by simpa using hi_
                            clear hi_
                            refine goesH_ (some 112) rfl rfl (by kernel_rfl) Try.func60 (by kernel_rfl) rfl #[.pointer (some ⟨g, 0, none⟩), .bool bo] rfl (by (try simp only [List.map_toArray, List.map_cons, List.map_nil]); rfl) ?_; refine (must_end _ _ _).mono ?_
                            rintro e w3 ⟨rfl, ⟨hq, rfl⟩ | ⟨hq, rfl⟩⟩
                            case inr => exact .inr ⟨_, rfl, rfl, CEnd.no HM.out.mb (HSPN.out (by rw [← HR5.out, hq]; rfl))⟩
                            refine .inl ⟨_, rfl, ?_⟩
                            refine ⟨HS.out, ?_⟩
                            (try simp only [Act.put, List.setIfInBounds_toArray, List.set_cons_zero, List.set_cons_succ])
                            have HSZ := Aside0.mk ((if_pos hq).symm.trans HR5.out)
                            have HOK := Aside0.mk (okS_in (HBO.out.symm.trans hq))
                            clear hq HS HBO HR5
                            refine wpAnyH_done (by kernel_rfl) ?_ _
                            have HSP := Aside0.mk (bind_at HSZ.out.symm HR4.out)
                            have HRS2 := Aside0.mk (bind_at HSP.out.symm HRS.out)
                            clear HSZ HSP HR4 HRS HSPN
                            go_upto_region 27 with (first | ((with_reducible refine gate_dst (N := 114) rfl ?_); refine Box.all_load rfl 81 81 _ rfl gs #[.int .i64 X, .int .i64 Y, .int .i64 f, .int .i64 ch, .int .i64 wd, .int .i64 ht] _ rfl HM.out.bs Try.underlying81 hi81 ?_) | ((with_reducible refine gate_builtin (b := .append) (xs := #[.tmp 113, .tmp 115]) rfl ?_); (try (refine gate_guard (by rfl) ?_; dsimp only)); at_builtin; refine Kd.R_append k81 (w0 := w0) w0.heap.size rfl (.tmp 113) (.tmp 115) 79 81 (.agg #[(.int .i64 0), (.int .i64 0), (.int .i64 0), (.int .i64 0), (.int .i64 0), (.int .i64 0)]) 48 rfl Try.underlying79 info81 rfl (by decide) (by omega) u8 p (⟨X, Y, f, ch, wd, ht⟩ : S81) [.int .i64 X, .int .i64 Y, .int .i64 f, .int .i64 ch, .int .i64 wd, .int .i64 ht] (fun k_ => k_ ≠ gs) (fun _ => False) rfl (by first | (go_simp; done) | (go_simp; rfl)) ?aP (fun _ hk => hk.elim) ?aF ?aO ?aB ?aS ?aL ?_; (case aP => exact k81_mkM _ _ _ (⟨X, Y, f, ch, wd, ht⟩ : S81)); (case aB => exact HM.out.mb.below); (case aF => exact fun k_ hk => Kd.freshB HM.out.bs k_ hk); (case aO => exact HM.out.row); (case aS => exact below_size HM.out.mb.below); (case aL => have := HP.out; have := HLL.out; have := HKK.out; omega); intro v9 w9 ho hb hg hat; have n0_ := Aside0.mk (HM.out.grow ho hb hg hat); clear HM; have HM := n0_; clear n0_ ho hb hg hat))
                            have hw3 : wrap64 (l + 1) = l + 1 := by have := HLL.out; have := HKK.out; unfold wrap64; omega
                            go_wp2
                            go_roundg k2
                            case measure => omega
                            case rel => exact ⟨X, Y, f, l + 1, i7, p ++ [⟨X, Y, f, ch, wd, ht⟩], rfl, rfl, rfl, rfl, HRS2, ⟨by have := HLL.out; omega⟩, ⟨⟨HOK.out.1.1, HOK.out.1.2, HOK.out.2.1.1, HOK.out.2.1.2, HXY.out.2.2.2.2⟩⟩, HI0, ⟨by rw [List.length_append, List.length_singleton]; have := HP.out; omega⟩, HM⟩
                          · have a2b : decide (c ≤ 256) = false := decide_eq_false a2
                            obtain ⟨ch, hch⟩ : ∃ ch, ch = (c - 257) % 256 := ⟨_, rfl⟩
                            obtain ⟨fo, hfo⟩ : ∃ fo, fo = (c - 257) / 256 := ⟨_, rfl⟩
                            have hw5 : wrap64 (c - 257) = c - 257 := by have := HCC.out; unfold wrap64; omega
                            have hw6 : Int.tmod (c - 257) 256 = ch := by rw [hch]; exact Int.tmod_eq_emod_of_nonneg (by omega)
                            have hw7 : Int.tdiv (c - 257) 256 = fo := by rw [hfo]; exact Int.tdiv_eq_ediv_of_nonneg (by omega)
                            have hw8 : wrap64 ch = ch := by rw [hch]; unfold wrap64; omega
                            have hw9 : wrap64 fo = fo := by rw [hfo]; have := HCC.out; unfold wrap64; omega
                            have hw6a : Int.tmod (wrap64 (c - 257)) 256 = ch := by rw [hw5]; exact hw6
                            have hw6b : wrap64 (Int.tmod (wrap64 (c - 257)) 256) = ch := by rw [hw6a]; exact hw8
                            have hw6c : wrap64 (Int.tmod (c - 257) 256) = ch := by rw [hw6]; exact hw8
                            have hw7a : Int.tdiv (wrap64 (c - 257)) 256 = fo := by rw [hw5]; exact hw7
                            have hw7b : wrap64 (Int.tdiv (wrap64 (c - 257)) 256) = fo := by rw [hw7a]; exact hw9
                            have hw7c : wrap64 (Int.tdiv (c - 257) 256) = fo := by rw [hw7]; exact hw9
                            have HFO := Aside0.mk (show 0 ≤ fo ∧ fo ≤ 15 from by have := HCC.out; omega)
                            have ht : iTag c f = if fo = f then none else some (ch, fo, fo) := by rw [hch, hfo]; exact (if_neg a1).trans (if_neg a2)
                            have HT := Aside0.mk ht
                            have HR3 := Aside0.mk hr
                            clear a1 a2 hr hch hfo ht
                            go_upto_region 18 with (first | ((with_reducible refine gate_store (t := 2) (p := 81) rfl ?_); refine Box.part_store rfl 2 81 81 _ rfl rfl gs 3 (.int .i64 ch) [.int .i64 ch] #[.int .i64 X, .int .i64 Y, .int .i64 0, .int .i64 0, .int .i64 0, .int .i64 0] #[.int .i64 X, .int .i64 Y, .int .i64 0, .int .i64 ch, .int .i64 0, .int .i64 0] rfl (by first | rfl | exact congrArg (Value.int IntKind.i64) hw6 | exact congrArg (Value.int IntKind.i64) hw6a | exact congrArg (Value.int IntKind.i64) hw6b | exact congrArg (Value.int IntKind.i64) hw6c | exact congrArg (Value.int IntKind.i64) hw8) rfl HM.out.bs hi2 (Nat.le_of_ble_eq_true rfl) rfl rfl ?_; intro w5 hb hk hl; have n0_ := Aside0.mk (HM.out.put hb hk hl); clear HM; have HM := n0_; clear n0_ hb hk hl) | ((with_reducible refine gate_store (t := 2) (p := 82) rfl ?_); refine Box.part_store rfl 2 81 82 _ rfl rfl gs 2 (.int .i64 fo) [.int .i64 fo] #[.int .i64 X, .int .i64 Y, .int .i64 0, .int .i64 ch, .int .i64 0, .int .i64 0] #[.int .i64 X, .int .i64 Y, .int .i64 fo, .int .i64 ch, .int .i64 0, .int .i64 0] rfl (by first | rfl | exact congrArg (Value.int IntKind.i64) hw7 | exact congrArg (Value.int IntKind.i64) hw7a | exact congrArg (Value.int IntKind.i64) hw7b | exact congrArg (Value.int IntKind.i64) hw7c | exact congrArg (Value.int IntKind.i64) hw9) rfl HM.out.bs hi2 (Nat.le_of_ble_eq_true rfl) rfl rfl ?_; intro w5 hb hk hl; have n0_ := Aside0.mk (HM.out.put hb hk hl); clear HM; have HM := n0_; clear n0_ hb hk hl))
                            clear hw5 hw6 hw7 hw8 hw9 hw6a hw6b hw6c hw7a hw7b hw7c
                            have h5 := (blk_cell HM.out.mb.b5 0).trans rfl
                            have hc2 := (blk_cell HM.out.bs 2).trans rfl
                            by_cases a3 : fo = f
                            · have a3b : (fo == f) = true := beq_iff_eq.mpr a3
                              have a3c : (fo != f) = false := by rw [bne, a3b]; rfl
                              have hz := bind_no (HT.out.trans (if_pos a3)) HR3.out
                              have HZ := Aside0.mk hz
                              clear a3 hz
                              go_wp2_with (first | ((with_reducible refine gate_callee (f := 60) rfl ?_); refine goesE_ (some 88) rfl rfl Try.func60 (by kernel_rfl) rfl #[.pointer (some ⟨g, 0, none⟩), .bool false] rfl (by (try simp only [List.map_toArray, List.map_cons, List.map_nil]); first | done | rfl) ?_; (with_reducible refine (must_end _ _ _).mono ?_)))
                              rintro e w3 ⟨rfl, ⟨hq, rfl⟩ | ⟨hq, rfl⟩⟩
                              · cases hq
                              · exact .inr ⟨_, rfl, rfl, CEnd.no HM.out.mb (HSPN.out HZ.out)⟩
                            · have a3b : (fo == f) = false := beq_eq_false_iff_ne.mpr a3
                              have a3c : (fo != f) = true := by rw [bne, a3b]; rfl
                              have hr : ((iSize b X Y ch fo i5).bind fun s => some (s.1, fo, s.2)) = sp := by have h_ := bind_at (HT.out.trans (if_neg a3)) HR3.out; exact h_
                              have HR4 := Aside0.mk hr
                              clear a3 hr HT HR3
                              go_wp2_with (first | ((with_reducible refine gate_callee (f := 60) rfl ?_); refine goesE_ (some 88) rfl rfl Try.func60 (by kernel_rfl) rfl #[.pointer (some ⟨g, 0, none⟩), .bool true] rfl (by (try simp only [List.map_toArray, List.map_cons, List.map_nil]); first | done | rfl) ?_; (with_reducible refine (must_end _ _ _).mono ?_)))
                              rintro e w3 ⟨rfl, ⟨hq, rfl⟩ | ⟨hq, rfl⟩⟩
                              case inr => cases hq
                              refine .inl ⟨_, rfl, ?_⟩
                              clear hq a3b a3c
                              go_upto_region 24 with (fail)
                              clear h5 hc2
                              obtain ⟨sz, hsz⟩ : ∃ r, r = iSize b X Y ch fo i5 := ⟨_, rfl⟩
                              have hr0 := HR4.out
                              rw [← hsz] at hr0
                              replace HR4 := Aside0.mk hr0
                              replace HSPN := Aside0.mk (show sz = none → iDec b = none from fun h => HSPN.out (bind_no h HR4.out))
                              have hr : ((iBelow b i5 1073741823).bind fun p => (iBelow b p.2 1073741823).bind fun q => if okS ⟨X, Y, fo, ch, p.1, q.1⟩ = true then some (⟨X, Y, fo, ch, p.1, q.1⟩, q.2) else none) = sz := hsz.symm
                              clear hsz hr0
                              refine wp_region_held (S := fun w' => w'.heap[g5]? = some (.cells #[.pointer (some ⟨g, 0, none⟩)] 95 (0, 0))) rfl ?_
                              replace HM := Aside0.mk HM.out.drew
                              generalize hwd : World.drew _ = wd_ at HM
                              show wpAnyH _ _ _ _ _ 8 _ _ (World.drew _)
                              rw [hwd]
                              clear hwd
                              have HS := Aside0.mk HM.out.mb.b5
                              refine takeH_ (i := 0) (v := .pointer (some ⟨g, 0, none⟩)) (some 103) rfl rfl (by kernel_rfl) (by kernel_rfl) (by kernel_rfl) (fun _ _ _ h => h) (.inl ⟨by kernel_rfl, fun W hW => load95 rfl rfl hW⟩) HS.out ?_; (try simp only [Act.put, List.setIfInBounds_toArray, List.set_cons_zero, List.set_cons_succ])
                              refine takeH_ (i := 2) (v := .pointer (some ⟨g, 0, none⟩)) (some 105) rfl rfl (by kernel_rfl) (by kernel_rfl) (by kernel_rfl) (fun _ _ _ h => h) (.inl ⟨by kernel_rfl, fun W hW => load95 rfl rfl hW⟩) HS.out ?_; (try simp only [Act.put, List.setIfInBounds_toArray, List.set_cons_zero, List.set_cons_succ])
                              refine wpAnyH_all (rs := [1]) (by kernel_rfl) (by decide) (fun i_ hi_ => ?_)
                              obtain rfl : i_ = 1 := by simpa using hi_
                              clear hi_
                              refine goesH_ (some 104) rfl rfl (by kernel_rfl) Try.func61 (by kernel_rfl) rfl #[.pointer (some ⟨g, 0, none⟩), .int .i64 1073741823] rfl (by (try simp only [List.map_toArray, List.map_cons, List.map_nil]); rfl) ?_; refine (below_calls g b i5 1073741823 w0 _ (by omega) (by omega) (by have := HI0.out; omega) (by have := HI0.out; have := HL.out; omega) HB8.out HM.out.mb.rd HM.out.mb.below).mono ?_
                              rintro e w2 ⟨hb2, hk2, ⟨v, i2, hr2, rfl, hI2⟩ | ⟨hr2, rfl⟩⟩
                              case inr => exact .inr ⟨_, rfl, rfl, CEnd.noR HM.out.mb hk2 hb2 (HSPN.out ((fun h => bind_no h hr) (Option.map_eq_none_iff.mp hr2)))⟩
                              refine .inl ⟨_, rfl, ?_⟩
                              obtain ⟨⟨wd, i6⟩, hn, hp⟩ := Option.map_eq_some_iff.mp hr2
                              injection hp with hp1 hp2
                              subst hp1; subst hp2
                              have hat := iBelow_at hn
                              replace HM := Aside0.mk (HM.out.read hk2 hI2 hb2)
                              replace hr : ((iBelow b i6 1073741823).bind fun q => if okS ⟨X, Y, fo, ch, wd, q.1⟩ = true then some (⟨X, Y, fo, ch, wd, q.1⟩, q.2) else none) = sz := by have h_ := bind_at hn hr; exact h_
                              replace HI0 := Aside0.mk (show 0 ≤ i6 ∧ i6 ≤ (b.length : Int) from by have := HI0.out; omega)
                              clear hb2 hk2 hI2 hr2 hn hat
                              replace HS := Aside0.mk HM.out.mb.b5
                              refine ⟨HS.out, ?_⟩
                              (try simp only [Act.put, List.setIfInBounds_toArray, List.set_cons_zero, List.set_cons_succ])
                              refine takeH_ (i := 4) (v := .pointer (some ⟨gs, 4, none⟩)) (some 107) rfl rfl (by kernel_rfl) (by kernel_rfl) (by kernel_rfl) (fun _ _ _ h => h) (.inl ⟨by kernel_rfl, fun W hW => faddr81 rfl rfl (by decide)⟩) HS.out ?_; (try simp only [Act.put, List.setIfInBounds_toArray, List.set_cons_zero, List.set_cons_succ])
                              refine wpAnyH_all (rs := [3]) (by kernel_rfl) (by decide) (fun i_ hi_ => ?_)
                              obtain rfl : i_ = 3 := by simpa using hi_
                              clear hi_
                              refine goesH_ (some 106) rfl rfl (by kernel_rfl) Try.func61 (by kernel_rfl) rfl #[.pointer (some ⟨g, 0, none⟩), .int .i64 1073741823] rfl (by (try simp only [List.map_toArray, List.map_cons, List.map_nil]); rfl) ?_; refine (below_calls g b i6 1073741823 w0 _ (by omega) (by omega) (by have := HI0.out; omega) (by have := HI0.out; have := HL.out; omega) HB8.out HM.out.mb.rd HM.out.mb.below).mono ?_
                              rintro e w2 ⟨hb2, hk2, ⟨v, i2, hr2, rfl, hI2⟩ | ⟨hr2, rfl⟩⟩
                              case inr => exact .inr ⟨_, rfl, rfl, CEnd.noR HM.out.mb hk2 hb2 (HSPN.out ((fun h => bind_no h hr) (Option.map_eq_none_iff.mp hr2)))⟩
                              refine .inl ⟨_, rfl, ?_⟩
                              obtain ⟨⟨ht, i7⟩, hn, hp⟩ := Option.map_eq_some_iff.mp hr2
                              injection hp with hp1 hp2
                              subst hp1; subst hp2
                              have hat := iBelow_at hn
                              replace HM := Aside0.mk (HM.out.read hk2 hI2 hb2)
                              replace hr : (if okS ⟨X, Y, fo, ch, wd, ht⟩ = true then some ((⟨X, Y, fo, ch, wd, ht⟩ : S81), i7) else none) = sz := by have h_ := bind_at hn hr; exact h_
                              replace HI0 := Aside0.mk (show 0 ≤ i7 ∧ i7 ≤ (b.length : Int) from by have := HI0.out; omega)
                              clear hb2 hk2 hI2 hr2 hn hat
                              replace HS := Aside0.mk HM.out.mb.b5
                              refine ⟨HS.out, ?_⟩
                              (try simp only [Act.put, List.setIfInBounds_toArray, List.set_cons_zero, List.set_cons_succ])
                              refine wpAnyH_all (rs := [5]) (by kernel_rfl) (by decide) (fun i_ hi_ => ?_)
                              obtain rfl : i_ = 5 := by simpa using hi_
                              clear hi_
                              refine storeH_ rfl (by kernel_rfl) 2 81 107 _ rfl rfl gs 4 (.int .i64 wd) [.int .i64 wd] #[.int .i64 X, .int .i64 Y, .int .i64 fo, .int .i64 ch, .int .i64 0, .int .i64 0] #[.int .i64 X, .int .i64 Y, .int .i64 fo, .int .i64 ch, .int .i64 wd, .int .i64 0] rfl rfl rfl HM.out.bs hi2 (Nat.le_of_ble_eq_true rfl) rfl rfl ?_
                              intro w5 hb hk hl
                              replace HM := Aside0.mk (HM.out.put hb hk hl)
                              clear hb hk hl
                              replace HS := Aside0.mk HM.out.mb.b5
                              refine ⟨HS.out, ?_⟩
                              (try simp only [Act.put, List.setIfInBounds_toArray, List.set_cons_zero, List.set_cons_succ])
                              refine takeH_ (i := 6) (v := .pointer (some ⟨gs, 5, none⟩)) (some 108) rfl rfl (by kernel_rfl) (by kernel_rfl) (by kernel_rfl) (fun _ _ _ h => h) (.inl ⟨by kernel_rfl, fun W hW => faddr81 rfl rfl (by decide)⟩) HS.out ?_; (try simp only [Act.put, List.setIfInBounds_toArray, List.set_cons_zero, List.set_cons_succ])
                              refine wpAnyH_all (rs := [7]) (by kernel_rfl) (by decide) (fun i_ hi_ => ?_)
                              obtain rfl : i_ = 7 := by simpa using hi_
                              clear hi_
                              refine storeH_ rfl (by kernel_rfl) 2 81 108 _ rfl rfl gs 5 (.int .i64 ht) [.int .i64 ht] #[.int .i64 X, .int .i64 Y, .int .i64 fo, .int .i64 ch, .int .i64 wd, .int .i64 0] #[.int .i64 X, .int .i64 Y, .int .i64 fo, .int .i64 ch, .int .i64 wd, .int .i64 ht] rfl rfl rfl HM.out.bs hi2 (Nat.le_of_ble_eq_true rfl) rfl rfl ?_
                              intro w5 hb hk hl
                              replace HM := Aside0.mk (HM.out.put hb hk hl)
                              clear hb hk hl
                              replace HS := Aside0.mk HM.out.mb.b5
                              refine ⟨HS.out, ?_⟩
                              (try simp only [Act.put, List.setIfInBounds_toArray, List.set_cons_zero, List.set_cons_succ])
                              refine wpAnyH_done (by kernel_rfl) ?_ _
                              clear HS
                              have HR5 := Aside0.mk hr
                              clear hr
                              go_upto_region 25 with (fail)
                              refine wp_region_held (S := fun w' => w'.heap[g5]? = some (.cells #[.pointer (some ⟨g, 0, none⟩)] 95 (0, 0)) ∧ w'.heap[gs]? = some (.cells #[.int .i64 X, .int .i64 Y, .int .i64 fo, .int .i64 ch, .int .i64 wd, .int .i64 ht] 81 (0, 0))) rfl ?_
                              replace HM := Aside0.mk HM.out.drew
                              generalize hwd : World.drew _ = wd_ at HM
                              show wpAnyH _ _ _ _ _ 4 _ _ (World.drew _)
                              rw [hwd]
                              clear hwd
                              have HS := Aside0.mk (And.intro HM.out.mb.b5 HM.out.bs)
                              refine takeH_ (i := 0) (v := .pointer (some ⟨g, 0, none⟩)) (some 109) rfl rfl (by kernel_rfl) (by kernel_rfl) (by kernel_rfl) (fun _ _ _ h => h) (.inl ⟨by kernel_rfl, fun W hW => load95 rfl rfl hW.1⟩) HS.out ?_; (try simp only [Act.put, List.setIfInBounds_toArray, List.set_cons_zero, List.set_cons_succ])
                              refine takeH_ (i := 1) (v := .agg #[.int .i64 X, .int .i64 Y, .int .i64 fo, .int .i64 ch, .int .i64 wd, .int .i64 ht]) (some 110) rfl rfl (by kernel_rfl) (by kernel_rfl) (by kernel_rfl) (fun _ _ _ h => h) (.inl ⟨by kernel_rfl, fun W hW => load81 rfl rfl hW.2 rfl⟩) HS.out ?_; (try simp only [Act.put, List.setIfInBounds_toArray, List.set_cons_zero, List.set_cons_succ])
                              refine wpAnyH_all (rs := [2]) (by kernel_rfl) (by decide) (fun i_ hi_ => ?_)
                              obtain rfl : i_ = 2 := by simpa using hi_
                              clear hi_
                              obtain ⟨bo, hbo⟩ : ∃ q, q = okS ⟨X, Y, fo, ch, wd, ht⟩ := ⟨_, rfl⟩
                              refine goesH_ (some 111) rfl rfl (by kernel_rfl) Try.func63 (by kernel_rfl) rfl #[.agg #[.int .i64 X, .int .i64 Y, .int .i64 fo, .int .i64 ch, .int .i64 wd, .int .i64 ht]] rfl (by (try simp only [List.map_toArray, List.map_cons, List.map_nil]); rfl) ?_; refine (impl_oSpotOk.calls X Y fo ch wd ht bo _ (by rw [hbo]; exact spot_i X Y fo ch wd ht)).mono ?_
                              rintro e w6 ⟨rfl, hb⟩
                              refine .inl ⟨_, rfl, ?_⟩
                              replace HM := Aside0.mk (HM.out.made hb)
                              have hr := HR5.out
                              rw [← hbo] at hr
                              replace HR5 := Aside0.mk hr
                              have HBO := Aside0.mk hbo
                              clear hb hr hbo
                              replace HS := Aside0.mk (And.intro HM.out.mb.b5 HM.out.bs)
                              refine ⟨HS.out, ?_⟩
                              (try simp only [Act.put, List.setIfInBounds_toArray, List.set_cons_zero, List.set_cons_succ])
                              refine wpAnyH_all (rs := [3]) (by kernel_rfl) (by decide) (fun i_ hi_ => ?_)
                              obtain rfl : i_ = 3 := by simpa using hi_
                              clear hi_
                              refine goesH_ (some 112) rfl rfl (by kernel_rfl) Try.func60 (by kernel_rfl) rfl #[.pointer (some ⟨g, 0, none⟩), .bool bo] rfl (by (try simp only [List.map_toArray, List.map_cons, List.map_nil]); rfl) ?_; refine (must_end _ _ _).mono ?_
                              rintro e w3 ⟨rfl, ⟨hq, rfl⟩ | ⟨hq, rfl⟩⟩
                              case inr => exact .inr ⟨_, rfl, rfl, CEnd.no HM.out.mb (HSPN.out (by rw [← HR5.out, hq]; rfl))⟩
                              refine .inl ⟨_, rfl, ?_⟩
                              refine ⟨HS.out, ?_⟩
                              (try simp only [Act.put, List.setIfInBounds_toArray, List.set_cons_zero, List.set_cons_succ])
                              have HSZ := Aside0.mk ((if_pos hq).symm.trans HR5.out)
                              have HOK := Aside0.mk (okS_in (HBO.out.symm.trans hq))
                              clear hq HS HBO HR5
                              refine wpAnyH_done (by kernel_rfl) ?_ _
                              have HSP := Aside0.mk (bind_at HSZ.out.symm HR4.out)
                              have HRS2 := Aside0.mk (bind_at HSP.out.symm HRS.out)
                              clear HSZ HSP HR4 HRS HSPN
                              go_upto_region 27 with (first | ((with_reducible refine gate_dst (N := 114) rfl ?_); refine Box.all_load rfl 81 81 _ rfl gs #[.int .i64 X, .int .i64 Y, .int .i64 fo, .int .i64 ch, .int .i64 wd, .int .i64 ht] _ rfl HM.out.bs Try.underlying81 hi81 ?_) | ((with_reducible refine gate_builtin (b := .append) (xs := #[.tmp 113, .tmp 115]) rfl ?_); (try (refine gate_guard (by rfl) ?_; dsimp only)); at_builtin; refine Kd.R_append k81 (w0 := w0) w0.heap.size rfl (.tmp 113) (.tmp 115) 79 81 (.agg #[(.int .i64 0), (.int .i64 0), (.int .i64 0), (.int .i64 0), (.int .i64 0), (.int .i64 0)]) 48 rfl Try.underlying79 info81 rfl (by decide) (by omega) u8 p (⟨X, Y, fo, ch, wd, ht⟩ : S81) [.int .i64 X, .int .i64 Y, .int .i64 fo, .int .i64 ch, .int .i64 wd, .int .i64 ht] (fun k_ => k_ ≠ gs) (fun _ => False) rfl (by first | (go_simp; done) | (go_simp; rfl)) ?aP (fun _ hk => hk.elim) ?aF ?aO ?aB ?aS ?aL ?_; (case aP => exact k81_mkM _ _ _ (⟨X, Y, fo, ch, wd, ht⟩ : S81)); (case aB => exact HM.out.mb.below); (case aF => exact fun k_ hk => Kd.freshB HM.out.bs k_ hk); (case aO => exact HM.out.row); (case aS => exact below_size HM.out.mb.below); (case aL => have := HP.out; have := HLL.out; have := HKK.out; omega); intro v9 w9 ho hb hg hat; have n0_ := Aside0.mk (HM.out.grow ho hb hg hat); clear HM; have HM := n0_; clear n0_ ho hb hg hat))
                              have hw3 : wrap64 (l + 1) = l + 1 := by have := HLL.out; have := HKK.out; unfold wrap64; omega
                              go_wp2
                              go_roundg k2
                              case measure => omega
                              case rel => exact ⟨X, Y, fo, l + 1, i7, p ++ [⟨X, Y, fo, ch, wd, ht⟩], rfl, rfl, rfl, rfl, HRS2, ⟨by have := HLL.out; omega⟩, ⟨⟨HOK.out.1.1, HOK.out.1.2, HOK.out.2.1.1, HOK.out.2.1.2, HFO.out⟩⟩, HI0, ⟨by rw [List.length_append, List.length_singleton]; have := HP.out; omega⟩, HM⟩
                      · have t4b : decide (dy ≤ 2147483646) = false := decide_eq_false t4
                        go_wp2_with (first | ((with_reducible refine gate_callee (f := 60) rfl ?_); refine goesE_ (some 63) rfl rfl Try.func60 (by kernel_rfl) rfl #[.pointer (some ⟨g, 0, none⟩), .bool false] rfl (by (try simp only [List.map_toArray, List.map_cons, List.map_nil]); first | done | rfl) ?_; (with_reducible refine (must_end _ _ _).mono ?_)))
                        rintro e w3 ⟨rfl, ⟨hq, rfl⟩ | ⟨hq, rfl⟩⟩
                        · cases hq
                        · exact .inr ⟨_, rfl, rfl, CEnd.no HM.out.mb (HSPN.out (by rw [← HR2.out]; exact if_neg (fun h => by have := (iStep_iff dx dy).mp h; omega)))⟩
                    · have t3b : decide (-2147483646 ≤ dy) = false := decide_eq_false t3
                      go_wp2_with (first | ((with_reducible refine gate_callee (f := 60) rfl ?_); refine goesE_ (some 63) rfl rfl Try.func60 (by kernel_rfl) rfl #[.pointer (some ⟨g, 0, none⟩), .bool false] rfl (by (try simp only [List.map_toArray, List.map_cons, List.map_nil]); first | done | rfl) ?_; (with_reducible refine (must_end _ _ _).mono ?_)))
                      rintro e w3 ⟨rfl, ⟨hq, rfl⟩ | ⟨hq, rfl⟩⟩
                      · cases hq
                      · exact .inr ⟨_, rfl, rfl, CEnd.no HM.out.mb (HSPN.out (by rw [← HR2.out]; exact if_neg (fun h => by have := (iStep_iff dx dy).mp h; omega)))⟩
                  · have t2b : decide (dx ≤ 2147483646) = false := decide_eq_false t2
                    go_wp2_with (first | ((with_reducible refine gate_callee (f := 60) rfl ?_); refine goesE_ (some 63) rfl rfl Try.func60 (by kernel_rfl) rfl #[.pointer (some ⟨g, 0, none⟩), .bool false] rfl (by (try simp only [List.map_toArray, List.map_cons, List.map_nil]); first | done | rfl) ?_; (with_reducible refine (must_end _ _ _).mono ?_)))
                    rintro e w3 ⟨rfl, ⟨hq, rfl⟩ | ⟨hq, rfl⟩⟩
                    · cases hq
                    · exact .inr ⟨_, rfl, rfl, CEnd.no HM.out.mb (HSPN.out (by rw [← HR2.out]; exact if_neg (fun h => by have := (iStep_iff dx dy).mp h; omega)))⟩
                · have t1b : decide (-2147483646 ≤ dx) = false := decide_eq_false t1
                  go_wp2_with (first | ((with_reducible refine gate_callee (f := 60) rfl ?_); refine goesE_ (some 63) rfl rfl Try.func60 (by kernel_rfl) rfl #[.pointer (some ⟨g, 0, none⟩), .bool false] rfl (by (try simp only [List.map_toArray, List.map_cons, List.map_nil]); first | done | rfl) ?_; (with_reducible refine (must_end _ _ _).mono ?_)))
                  rintro e w3 ⟨rfl, ⟨hq, rfl⟩ | ⟨hq, rfl⟩⟩
                  · cases hq
                  · exact .inr ⟨_, rfl, rfl, CEnd.no HM.out.mb (HSPN.out (by rw [← HR2.out]; exact if_neg (fun h => by have := (iStep_iff dx dy).mp h; omega)))⟩
          · rw [if_neg c2] at hr
            have c2b : decide (n + kk ≤ 20000) = false := decide_eq_false c2
            go_wp2_with (first | ((with_reducible refine gate_callee (f := 60) rfl ?_); refine goesE_ (some 39) rfl rfl Try.func60 (by kernel_rfl) rfl #[.pointer (some ⟨g, 0, none⟩), .bool false] rfl (by (try simp only [List.map_toArray, List.map_cons, List.map_nil]); first | done | rfl) ?_; (with_reducible refine (must_end _ _ _).mono ?_)))
            rintro e w3 ⟨rfl, ⟨hq, rfl⟩ | ⟨hq, rfl⟩⟩
            · cases hq
            · exact .inr ⟨_, rfl, rfl, CEnd.no HM.out.mb (HDN.out hr.symm)⟩
    · replace d2 := Bool.eq_false_iff.mpr d2
      rw [d2]
      refine goesE_ (some 23) rfl rfl Try.func60 (by kernel_rfl) rfl #[.pointer (some ⟨g, 0, none⟩), .bool false] rfl (by (try simp only [List.map_toArray, List.map_cons, List.map_nil]); first | done | rfl) ?_; (with_reducible refine (must_end _ _ _).mono ?_)
      rintro e w3 ⟨rfl, ⟨hq, rfl⟩ | ⟨hq, rfl⟩⟩
      · cases hq
      · exact .inr ⟨_, rfl, rfl, CEnd.no HM.out.mb (by rw [iDec]; exact if_neg (fun h => by rw [d2] at h; cases h.2))⟩
  · have d1b : decide (4 ≤ (b.length : Int)) = false := decide_eq_false d1
    repeat still_step
    refine wpStill_nil ?_
    refine goesE_ (some 23) rfl rfl Try.func60 (by kernel_rfl) rfl #[.pointer (some ⟨g, 0, none⟩), .bool false] rfl (by (try simp only [List.map_toArray, List.map_cons, List.map_nil]); first | done | rfl) ?_; (with_reducible refine (must_end _ _ _).mono ?_)
    rintro e w3 ⟨rfl, ⟨hq, rfl⟩ | ⟨hq, rfl⟩⟩
    · cases hq
    · exact .inr ⟨_, rfl, rfl, CEnd.no HM.out.mb (by rw [iDec]; exact if_neg (fun h => d1 h.1))⟩
end Go.Proofs.Ytngmkpediibhjaa.PFnExactDecodeDesc
