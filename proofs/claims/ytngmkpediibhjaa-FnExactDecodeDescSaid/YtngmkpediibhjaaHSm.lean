import Derived.Test.YtngmkpediibhjaaHNm
import Derived.Test.YtngmkpediibhjaaPFnExactDecodeDescx7
namespace Go.Proofs.Ytngmkpediibhjaa.PFnExactDecodeDesc
open Go.RowKit Go.Proofs.YtngmkpediibhjaaW.PrintWords Go.Proofs.YtngmkpediibhjaaW.PrintLast Go.Proofs.YtngmkpediibhjaaW.PrintMore
attribute [local go_sem] max2_int min2_int max_two min_two max_three min_three max_four min_four   -- for this text's walks alone
set_option linter.unusedVariables false
set_option linter.unusedSimpArgs false

theorem iOr_in (x c s : Int) : 0 ≤ iOr x c s ∧ iOr x c s < 18446744073709551616 := by
  have h : ∀ z : Int, 0 ≤ IntKind.u64.wrap z ∧ IntKind.u64.wrap z < 18446744073709551616 := by
    intro z
    rw [IntKind.wrap_u64]
    omega
  exact h _
theorem iNumL_at (b : List Int) : ∀ (k : Nat) (x s i v j : Int), iNumL b k x s i = some (v, j) → 0 ≤ v ∧ v < 18446744073709551616 ∧ i < j ∧ j ≤ (b.length : Int) := by
  intro k
  induction k with
  | zero => intro x s i v j h; cases h
  | succ k ih =>
    intro x s i v j h
    rw [iNumL] at h
    by_cases h1 : i < (b.length : Int)
    · rw [if_pos h1] at h
      by_cases h2 : s < 63 ∨ s = 63 ∧ rd b i ≤ 1
      · rw [if_pos h2] at h
        by_cases h3 : rd b i < 128
        · rw [if_pos h3] at h
          by_cases h4 : 0 < rd b i ∨ s = 0
          · rw [if_pos h4] at h
            injection h with h
            injection h with h5 h6
            have := iOr_in x (rd b i) s
            omega
          · rw [if_neg h4] at h; cases h
        · rw [if_neg h3] at h
          have := ih _ _ _ _ _ h
          omega
      · rw [if_neg h2] at h; cases h
    · rw [if_neg h1] at h; cases h
theorem iNum_at {b : List Int} {i v j : Int} (h : iNum b i = some (v, j)) : 0 ≤ v ∧ v < 18446744073709551616 ∧ i < j ∧ j ≤ (b.length : Int) := iNumL_at b _ _ _ _ _ _ h
/-- A number of at most m. -/
def iBelow (b : List Int) (i m : Int) : Option (Int × Int) := (iNum b i).bind fun p => if p.1 ≤ m then some p else none
/-- A number with its sign. -/
def iUn (x : Int) : Int := Go.bits .xor .i64 (wrap64 (x / 2)) (wrap64 (-(wrap64 (Go.bits .and .u64 x 1))))
def iSigned (b : List Int) (i : Int) : Option (Int × Int) := (iNum b i).map fun p => (iUn p.1, p.2)
set_option maxHeartbeats 8000000 in
set_option maxRecDepth 100000 in
theorem below_calls (g : Nat) (b : List Int) (i m : Int) (w0 w : World) (hm0 : 0 ≤ m) (hm1 : m ≤ 1073741823) (h0 : 0 ≤ i) (h1 : i ≤ 1073741000) (hb8 : ∀ j, 0 ≤ rd b j ∧ rd b j < 256) (hI : IsS97 w0 w g b i) (hB : Below w0.heap.size w0 w) :
    Calls Try.prog 61 #[.pointer (some ⟨g, 0, none⟩), .int .i64 m] w (REnd w0 w g b ((iBelow b i m).map fun p => (.int .i64 p.1, p.2))) := by
  have HI0 := Aside0.mk hI
  have HB := Aside0.mk hB
  clear hB hI
  have hm : IntKind.u64.wrap m = m := by rw [IntKind.wrap_u64]; omega
  go_enter Try.func61, Try.ntmps61
  go_wp2_with (first | ((with_reducible refine gate_callee (f := 80) rfl ?_); refine goesE_ (some 7) rfl rfl Try.func80 (by kernel_rfl) rfl #[.pointer (some ⟨g, 0, none⟩)] rfl (by (try simp only [List.map_toArray, List.map_cons, List.map_nil]); first | done | rfl) ?_; (with_reducible refine (num_calls g b i w0 _ ?s1 ?s2 ?s3 ?s4 ?s5).mono ?_); (case s1 => exact h0); (case s2 => exact h1); (case s3 => exact hb8); (case s4 => exact HI0.out); (case s5 => exact HB.out)))
  rintro e w2 ⟨hb2, hk2, ⟨v, i2, hr, rfl, hI2⟩ | ⟨hr, rfl⟩⟩
  · refine .inl ⟨_, rfl, ?_⟩
    obtain ⟨⟨x, i3⟩, hn, hp⟩ := Option.map_eq_some_iff.mp hr
    injection hp with hp1 hp2
    subst hp1; subst hp2
    obtain ⟨x0, x1, x2, x3⟩ := iNum_at hn
    by_cases c1 : x ≤ m
    · have c1b := decide_eq_true c1
      have hx : wrap64 x = x := by unfold wrap64; omega
      go_wp2_with (first | ((with_reducible refine gate_callee (f := 60) rfl ?_); refine goesE_ (some 13) rfl rfl Try.func60 (by kernel_rfl) rfl #[.pointer (some ⟨g, 0, none⟩), .bool true] rfl (by (try simp only [List.map_toArray, List.map_cons, List.map_nil]); first | done | rfl) ?_; (with_reducible refine (must_end _ _ _).mono ?_)))
      rintro e w3 ⟨rfl, ⟨hq, rfl⟩ | ⟨hq, rfl⟩⟩
      case inr => cases hq
      refine .inl ⟨_, rfl, ?_⟩
      clear hq
      go_wp2
      go_ret
      exact REnd.yes (by rw [iBelow, hn, Option.bind_some, if_pos c1]; rfl) hI2 hb2 hk2
    · have c1b := decide_eq_false c1
      go_wp2_with (first | ((with_reducible refine gate_callee (f := 60) rfl ?_); refine goesE_ (some 13) rfl rfl Try.func60 (by kernel_rfl) rfl #[.pointer (some ⟨g, 0, none⟩), .bool false] rfl (by (try simp only [List.map_toArray, List.map_cons, List.map_nil]); first | done | rfl) ?_; (with_reducible refine (must_end _ _ _).mono ?_)))
      rintro e w3 ⟨rfl, ⟨hq, rfl⟩ | ⟨hq, rfl⟩⟩
      · cases hq
      · exact .inr ⟨_, rfl, rfl, REnd.no (by rw [iBelow, hn, Option.bind_some, if_neg (show ¬ (x ≤ m) from by omega)]; rfl) hb2 hk2⟩
  · refine .inr ⟨_, rfl, ?_⟩
    have hn := Option.map_eq_none_iff.mp hr
    exact ⟨rfl, REnd.no (by rw [iBelow, hn]; rfl) hb2 hk2⟩
set_option maxHeartbeats 8000000 in
set_option maxRecDepth 100000 in
theorem signed_calls (g : Nat) (b : List Int) (i : Int) (w0 w : World) (h0 : 0 ≤ i) (h1 : i ≤ 1073741000) (hb8 : ∀ j, 0 ≤ rd b j ∧ rd b j < 256) (hI : IsS97 w0 w g b i) (hB : Below w0.heap.size w0 w) :
    Calls Try.prog 62 #[.pointer (some ⟨g, 0, none⟩)] w (REnd w0 w g b ((iSigned b i).map fun p => (.int .i64 p.1, p.2))) := by
  have HI0 := Aside0.mk hI
  have HB := Aside0.mk hB
  clear hB hI
  go_enter Try.func62, Try.ntmps62
  go_wp2_with (first | ((with_reducible refine gate_callee (f := 80) rfl ?_); refine goesE_ (some 5) rfl rfl Try.func80 (by kernel_rfl) rfl #[.pointer (some ⟨g, 0, none⟩)] rfl (by (try simp only [List.map_toArray, List.map_cons, List.map_nil]); first | done | rfl) ?_; (with_reducible refine (num_calls g b i w0 _ ?s1 ?s2 ?s3 ?s4 ?s5).mono ?_); (case s1 => exact h0); (case s2 => exact h1); (case s3 => exact hb8); (case s4 => exact HI0.out); (case s5 => exact HB.out)))
  rintro e w2 ⟨hb2, hk2, ⟨v, i2, hr, rfl, hI2⟩ | ⟨hr, rfl⟩⟩
  · refine .inl ⟨_, rfl, ?_⟩
    obtain ⟨⟨x, i3⟩, hn, hp⟩ := Option.map_eq_some_iff.mp hr
    injection hp with hp1 hp2
    subst hp1; subst hp2
    have hsh : Op.shift .shr .u64 x .u64 1 = pure (.int .u64 (x / 2)) := shift_shr_any .u64 .u64 x 1 (by decide)
    go_wp2
    go_ret
    exact REnd.yes (by rw [iSigned, hn]; rfl) hI2 hb2 hk2
  · refine .inr ⟨_, rfl, ?_⟩
    have hn := Option.map_eq_none_iff.mp hr
    exact ⟨rfl, REnd.no (by rw [iSigned, hn]; rfl) hb2 hk2⟩
/-- The number behind the bytes, as the reader reckons it. -/
def iS (S i : Int) : Int := Int.tmod (IntKind.u64.wrap (S + i)) 65521
def iEnd (b : List Int) (i S : Int) : Prop := (b.length : Int) = i + 2 ∧ rd b i = iS S i % 256 ∧ rd b (i + 1) = iS S i / 256 % 256
instance (b : List Int) (i S : Int) : Decidable (iEnd b i S) := inferInstanceAs (Decidable (_ ∧ _ ∧ _))
/-- What sum gives. -/
def iSumR (b : List Int) (i S : Int) : Option (Value × Int) := if iEnd b i S then some (.tuple #[], i) else none
theorem iSumR_yes {b : List Int} {i S : Int} (h : iEnd b i S) : iSumR b i S = some (.tuple #[], i) := if_pos h
theorem iSumR_no {b : List Int} {i S : Int} (h : ¬ iEnd b i S) : iSumR b i S = none := if_neg h
structure SumEnd (w : World) (S : Int) (e : Ending) (w' : World) : Prop where
  ret : e = .returned (.int .u64 S)
  drawn : Drawn0 w w'
set_option maxHeartbeats 8000000 in
set_option maxRecDepth 100000 in
theorem sum_calls (g : Nat) (b : List Int) (i S : Int) (w0 w : World) (ks : Nat) (hi : i ≤ (b.length : Int)) (hS : impl_oSum.f ks (b.take i.toNat) = some S) (h0 : 0 ≤ i) (h1 : i ≤ 1073741000) (hb8 : ∀ j, 0 ≤ rd b j ∧ rd b j < 256) (hI : IsS97 w0 w g b i) (hB : Below w0.heap.size w0 w) :
    Calls Try.prog 64 #[.pointer (some ⟨g, 0, none⟩)] w (REnd w0 w g b (iSumR b i S)) := by
  have HI0 := Aside0.mk hI
  have HB := Aside0.mk hB
  have HK := Aside0.mk (KeepBut.refl w g none)
  have HS := Aside0.mk hS
  have HB8 := Aside0.mk hb8
  clear hB hI hS hb8
  obtain ⟨AS, cS, HG, hg, HC, hcap⟩ := HI0.out
  have hc0 := cellS97_0 HG
  have hc1 := cellS97_1 HG
  have hf1 := blk_frozen HG 1
  clear HG hg
  obtain ⟨i07, hi07, _, hsz7, _⟩ := info_parts info5
  obtain ⟨hcut7, hA7, hC7⟩ := print_take_of (P := Try.prog) (Value.int .u8) 0 46 5 .i64 Try.underlying46 hi07 hsz7 AS cS b i h0 hi hcap
  have HR7 := Aside0.mk (Kd.C_below (Kd.C_of_reads (h1 := fun _ => rfl) (hA7 _ (Kd.reads_of_C HC))) HB.out)
  clear hA7 hi07 hsz7
  have HCR := Aside0.mk (Kd.C_below HC HB.out)
  clear HC
  have hlen : (b.take i.toNat).length = i.toNat := by rw [List.length_take]; omega
  rw [hlen] at hcut7
  have hsum : ∀ W, Kd.C (Kd.int .u8) W AS (b.take i.toNat).length (b.take i.toNat) → Calls Try.prog 77 #[.slice AS i.toNat cS] W (SumEnd W S) := by
    intro W h
    have := impl_oSum.calls ks AS cS (b.take i.toNat) S W h hC7 HS.out
    rw [hlen] at this
    exact this.mono fun _ _ h => ⟨h.1, h.2⟩
  obtain ⟨res, hres⟩ : ∃ r, r = iSumR b i S := ⟨_, rfl⟩
  rw [← hres]
  have HRES := Aside0.mk hres
  clear hlen hres
  go_enter Try.func64, Try.ntmps64
  go_wp2_with (first | ((with_reducible refine gate_callee (f := 77) rfl ?_); refine goesL_ (some 14) rfl rfl Try.func77 (by kernel_rfl) rfl #[.slice AS i.toNat cS] rfl (by (try simp only [List.map_toArray, List.map_cons, List.map_nil]); first | done | rfl) ?_; (with_reducible refine (hsum _ ?s1).mono ?_); (case s1 => exact HR7.out)))
  rintro e w2 ⟨rfl, m, rfl⟩
  refine ⟨_, rfl, ?_⟩
  · clear HS HR7 hcut7 hC7 hsum hf1
    obtain ⟨s, hs⟩ : ∃ s, s = iS S i := ⟨_, rfl⟩
    have hs1 : Int.tmod (IntKind.u64.wrap (S + i)) 65521 = s := hs.symm
    have hres := HRES.out
    have HSS := Aside0.mk hs
    clear hs HRES
    by_cases d1 : (b.length : Int) = i + 2
    · have d1b : ((b.length : Int) == i + 2) = true := beq_iff_eq.mpr d1
      have q0 : i < (b.length : Int) := by omega
      have q1 : i + 1 < (b.length : Int) := by omega
      have p1 : 0 ≤ i + 1 := by omega
      obtain ⟨ad, e2, hx0⟩ := Kd.at_int HCR.out i h0 q0
      obtain ⟨ad', e3, hx1⟩ := Kd.at_int HCR.out (i + 1) p1 q1
      rw [e2] at e3
      injection e3 with e3
      subst e3
      subst e2
      replace q0 := eq_true q0
      replace q1 := eq_true q1
      replace p1 := eq_true p1
      have p0 := eq_true h0
      have D1 := Aside0.mk d1
      clear d1
      by_cases d2 : rd b i = s % 256
      · have d2b : (rd b i == s % 256) = true := beq_iff_eq.mpr d2
        have D2 := Aside0.mk d2
        clear d2
        by_cases d3 : rd b (i + 1) = s / 256 % 256
        · have d3b : (rd b (i + 1) == s / 256 % 256) = true := beq_iff_eq.mpr d3
          rw [iSumR_yes (show iEnd b i S from ⟨D1.out, by rw [← HSS.out]; exact D2.out, by rw [← HSS.out]; exact d3⟩)] at hres
          clear d3
          go_wp2_with (first | ((with_reducible refine gate_callee (f := 60) rfl ?_); refine goesE_ (some 54) rfl rfl Try.func60 (by kernel_rfl) rfl #[.pointer (some ⟨g, 0, none⟩), .bool true] rfl (by (try simp only [List.map_toArray, List.map_cons, List.map_nil]); first | done | rfl) ?_; (with_reducible refine (must_end _ _ _).mono ?_)))
          rintro e w3 ⟨rfl, ⟨hq, rfl⟩ | ⟨hq, rfl⟩⟩
          case inr => cases hq
          refine .inl ⟨_, rfl, ?_⟩
          clear hq
          go_wp2
          first | go_end0 | skip
          exact REnd.yes (hres) (IsS97.drewN HI0.out _) (pw_below_drewN HB.out _) (keep_drewN HK.out _)
        · have d3b : (rd b (i + 1) == s / 256 % 256) = false := beq_eq_false_iff_ne.mpr d3
          rw [iSumR_no (fun h : iEnd b i S => d3 (by rw [HSS.out]; exact h.2.2))] at hres
          go_wp2_with (first | ((with_reducible refine gate_callee (f := 60) rfl ?_); refine goesE_ (some 54) rfl rfl Try.func60 (by kernel_rfl) rfl #[.pointer (some ⟨g, 0, none⟩), .bool false] rfl (by (try simp only [List.map_toArray, List.map_cons, List.map_nil]); first | done | rfl) ?_; (with_reducible refine (must_end _ _ _).mono ?_)))
          rintro e w3 ⟨rfl, ⟨hq, rfl⟩ | ⟨hq, rfl⟩⟩
          · cases hq
          · exact .inr ⟨_, rfl, rfl, REnd.no (hres) (pw_below_drewN HB.out _) (keep_drewN HK.out _)⟩
      · have d2b : (rd b i == s % 256) = false := beq_eq_false_iff_ne.mpr d2
        rw [iSumR_no (fun h : iEnd b i S => d2 (by rw [HSS.out]; exact h.2.1))] at hres
        go_wp2_with (first | ((with_reducible refine gate_callee (f := 60) rfl ?_); refine goesE_ (some 54) rfl rfl Try.func60 (by kernel_rfl) rfl #[.pointer (some ⟨g, 0, none⟩), .bool false] rfl (by (try simp only [List.map_toArray, List.map_cons, List.map_nil]); first | done | rfl) ?_; (with_reducible refine (must_end _ _ _).mono ?_)))
        rintro e w3 ⟨rfl, ⟨hq, rfl⟩ | ⟨hq, rfl⟩⟩
        · cases hq
        · exact .inr ⟨_, rfl, rfl, REnd.no (hres) (pw_below_drewN HB.out _) (keep_drewN HK.out _)⟩
    · have d1b : ((b.length : Int) == i + 2) = false := beq_eq_false_iff_ne.mpr d1
      rw [iSumR_no (fun h : iEnd b i S => d1 h.1)] at hres
      go_wp2_with (first | ((with_reducible refine gate_callee (f := 60) rfl ?_); refine goesE_ (some 54) rfl rfl Try.func60 (by kernel_rfl) rfl #[.pointer (some ⟨g, 0, none⟩), .bool false] rfl (by (try simp only [List.map_toArray, List.map_cons, List.map_nil]); first | done | rfl) ?_; (with_reducible refine (must_end _ _ _).mono ?_)))
      rintro e w3 ⟨rfl, ⟨hq, rfl⟩ | ⟨hq, rfl⟩⟩
      · cases hq
      · exact .inr ⟨_, rfl, rfl, REnd.no (hres) (pw_below_drewN HB.out _) (keep_drewN HK.out _)⟩
end Go.Proofs.Ytngmkpediibhjaa.PFnExactDecodeDesc
