import Derived.Test.YtngmkpediibhjaaHBy
import Derived.Laws.Shifts
import Derived.Laws.BitsAllLaws
namespace Go.Proofs.Ytngmkpediibhjaa.PFnExactDecodeDesc
open Go.RowKit Go.Proofs.YtngmkpediibhjaaW.PrintWords Go.Proofs.YtngmkpediibhjaaW.PrintLast Go.Proofs.YtngmkpediibhjaaW.PrintMore
attribute [local go_sem] max2_int min2_int max_two min_two max_three min_three max_four min_four   -- for this text's walks alone
set_option linter.unusedVariables false
set_option linter.unusedSimpArgs false

/-- Seven bits more. -/
def iOr (x c s : Int) : Int := Go.bits .or .u64 x (shl .u64 (IntKind.u64.wrap (Go.bits .and .u8 c 127)) s)
/-- num, round by round: rounds left, what was read, the shift, the place. -/
def iNumL (b : List Int) : Nat → Int → Int → Int → Option (Int × Int)
  | 0, _, _, _ => none
  | k + 1, x, s, i => if i < (b.length : Int) then (if s < 63 ∨ s = 63 ∧ rd b i ≤ 1 then (if rd b i < 128 then (if 0 < rd b i ∨ s = 0 then some (iOr x (rd b i) s, i + 1) else none) else iNumL b k (iOr x (rd b i) s) (s + 7) (i + 1)) else none) else none
def iNum (b : List Int) (i : Int) : Option (Int × Int) := iNumL b 11 0 0 i
/-- How must ends, shut to the walk. -/
structure MEnd (w : World) (b : Bool) (e : Ending) (w' : World) : Prop where
  same : w' = w
  ends : (b = true ∧ e = .returned (.tuple #[])) ∨ (b = false ∧ e = .panicked PW)
theorem must_end (v : Value) (b : Bool) (w : World) : Calls Try.prog 60 #[v, .bool b] w (MEnd w b) := (must_calls v b w).mono fun _ _ h => ⟨h.1, h.2⟩

set_option maxHeartbeats 8000000 in
set_option maxRecDepth 100000 in
theorem num_calls (g : Nat) (b : List Int) (i : Int) (w0 w : World) (h0 : 0 ≤ i) (h1 : i ≤ 1073741000) (hb8 : ∀ j, 0 ≤ rd b j ∧ rd b j < 256) (hI : IsS97 w0 w g b i) (hB : Below w0.heap.size w0 w) :
    Calls Try.prog 80 #[.pointer (some ⟨g, 0, none⟩)] w (REnd w0 w g b ((iNum b i).map fun p => (.int .u64 p.1, p.2))) := by
  have HI0 := Aside0.mk hI
  have HK := Aside0.mk (KeepBut.refl w g none)
  have HB := Aside0.mk hB
  obtain ⟨res, hres⟩ : ∃ r, r = iNum b i := ⟨_, rfl⟩
  rw [← hres]
  have HR := Aside0.mk (show iNumL b 11 0 0 i = res from hres.symm)
  clear hB hI hres
  go_enter Try.func80, Try.ntmps80
  go_wp2
  go_loopg [3, 4] 11 (fun kq v3 v4 w' => ∃ (x s i1 : Int), v3 = .int .u64 x ∧ v4 = .int .i64 s ∧ Aside0 (iNumL b kq x s i1 = res) ∧ Aside0 (0 ≤ s ∧ s ≤ 70 ∧ s + 7 * (kq : Int) = 77) ∧ Aside0 (0 ≤ i1 ∧ i1 + (kq : Int) ≤ 1073741100) ∧ Aside0 (IsS97 w0 w' g b i1) ∧ Aside0 (KeepBut w w' g none) ∧ Aside0 (Below w0.heap.size w0 w'))
  case atStart => exact ⟨0, 0, i, rfl, rfl, HR, ⟨by decide⟩, ⟨by omega⟩, HI0, HK, HB⟩
  case round =>
    clear HI0 HK HB HR
    obtain ⟨x, s, i1, rfl, rfl, HA, HS, HP, HI0, HK, HB⟩ := hrel
    cases gk with
    | zero => exact absurd HS.out (by omega)
    | succ k1 =>
      go_wp2_with (first | ((with_reducible refine gate_callee (f := 84) rfl ?_); refine goesE_ (some 9) rfl rfl Try.func84 (by kernel_rfl) rfl #[.pointer (some ⟨g, 0, none⟩)] rfl (by (try simp only [List.map_toArray, List.map_cons, List.map_nil]); first | done | rfl) ?_; (with_reducible refine (byte_calls g b i1 w0 _ ?s1 ?s2 ?s3 ?s4).mono ?_); (case s1 => exact HP.out.1); (case s2 => have := HP.out; omega); (case s3 => exact HI0.out); (case s4 => exact HB.out)))
      rintro e w2 ⟨hb2, hk2, ⟨v, i2, hr, rfl, hI2⟩ | ⟨hr, rfl⟩⟩
      · refine .inl ⟨_, rfl, ?_⟩
        have hlt : i1 < (b.length : Int) := by
          by_cases h : i1 < (b.length : Int)
          · exact h
          · rw [iByte, if_neg h] at hr; cases hr
        rw [iByte, if_pos hlt] at hr
        injection hr with hr
        injection hr with hv hi2
        subst hv; subst hi2
        have H := HA.out
        simp only [iNumL] at H
        rw [if_pos hlt] at H
        have C := Aside0.mk (hb8 i1)
        replace HI0 := Aside0.mk hI2
        replace HB := Aside0.mk hb2
        replace HK := Aside0.mk (KeepBut.trans HK.out hk2 (.inl rfl))
        clear hI2 hb2 hk2
        obtain ⟨c, hc⟩ : ∃ c, c = rd b i1 := ⟨_, rfl⟩
        rw [← hc] at H C ⊢
        clear HA hlt hc hb8
        have HS0 := HS.out

        by_cases c1 : s < 63
        · have c1b := decide_eq_true c1
          rw [if_pos (Or.inl c1)] at H
          go_wp2_with (first | ((with_reducible refine gate_callee (f := 60) rfl ?_); refine goesE_ (some 21) rfl rfl Try.func60 (by kernel_rfl) rfl #[.pointer (some ⟨g, 0, none⟩), .bool true] rfl (by (try simp only [List.map_toArray, List.map_cons, List.map_nil]); first | done | rfl) ?_; (with_reducible refine (must_end _ _ _).mono ?_)))
          rintro e w3 ⟨rfl, ⟨hq, rfl⟩ | ⟨hq, rfl⟩⟩
          case inr => cases hq
          refine .inl ⟨_, rfl, ?_⟩
          clear hq
          obtain ⟨j, hj⟩ : ∃ j, j = iOr x c s := ⟨_, rfl⟩
          rw [← hj] at H
          have hj1 : Go.bits .or .u64 x (IntKind.u64.wrap (IntKind.u64.wrap (Go.bits .and .u8 c 127) * 2 ^ min s.toNat 64)) = j := hj.symm
          have hj2 : Go.bits .or .u64 x (IntKind.u64.wrap (IntKind.u64.wrap (Go.bits .and .u8 c 127) * 2 ^ s.toNat)) = j := by rw [← hj1, Nat.min_eq_left (by omega)]
          have hsp : 0 ≤ s := HS0.1
          replace hsp := eq_true hsp
          clear hj
          by_cases c2 : c < 128
          · rw [if_pos c2] at H
            have c2b := decide_eq_true c2
            by_cases c3 : 0 < c
            · rw [if_pos (Or.inl c3)] at H
              have c3b := decide_eq_true c3
              go_wp2_with (first | ((with_reducible refine gate_callee (f := 60) rfl ?_); refine goesE_ (some 38) rfl rfl Try.func60 (by kernel_rfl) rfl #[.pointer (some ⟨g, 0, none⟩), .bool true] rfl (by (try simp only [List.map_toArray, List.map_cons, List.map_nil]); first | done | rfl) ?_; (with_reducible refine (must_end _ _ _).mono ?_)))
              rintro e w3 ⟨rfl, ⟨hq, rfl⟩ | ⟨hq, rfl⟩⟩
              case inr => cases hq
              refine .inl ⟨_, rfl, ?_⟩
              clear hq
              go_wp2
              go_ret
              exact REnd.yes (by rw [← H]; rfl) HI0.out HB.out HK.out
            · have c3b := decide_eq_false c3
              by_cases c4 : s = 0
              · rw [if_pos (Or.inr c4)] at H
                have c4b : (s == 0) = true := by rw [c4]; rfl
                clear c4
                go_wp2_with (first | ((with_reducible refine gate_callee (f := 60) rfl ?_); refine goesE_ (some 38) rfl rfl Try.func60 (by kernel_rfl) rfl #[.pointer (some ⟨g, 0, none⟩), .bool true] rfl (by (try simp only [List.map_toArray, List.map_cons, List.map_nil]); first | done | rfl) ?_; (with_reducible refine (must_end _ _ _).mono ?_)))
                rintro e w3 ⟨rfl, ⟨hq, rfl⟩ | ⟨hq, rfl⟩⟩
                case inr => cases hq
                refine .inl ⟨_, rfl, ?_⟩
                clear hq
                go_wp2
                go_ret
                exact REnd.yes (by rw [← H]; rfl) HI0.out HB.out HK.out
              · rw [if_neg (fun h => h.elim c3 c4)] at H
                have c4b : (s == 0) = false := beq_eq_false_iff_ne.mpr c4
                go_wp2_with (first | ((with_reducible refine gate_callee (f := 60) rfl ?_); refine goesE_ (some 38) rfl rfl Try.func60 (by kernel_rfl) rfl #[.pointer (some ⟨g, 0, none⟩), .bool false] rfl (by (try simp only [List.map_toArray, List.map_cons, List.map_nil]); first | done | rfl) ?_; (with_reducible refine (must_end _ _ _).mono ?_)))
                rintro e w3 ⟨rfl, ⟨hq, rfl⟩ | ⟨hq, rfl⟩⟩
                · cases hq
                · exact .inr ⟨_, rfl, rfl, REnd.no (by rw [← H]; rfl) HB.out HK.out⟩
          · rw [if_neg c2] at H
            have c2b := decide_eq_false c2
            go_wp2
            go_roundg k1
            case measure => omega
            case rel => exact ⟨_, _, _, rfl, rfl, ⟨H⟩, ⟨by have := HS.out; omega⟩, ⟨by have := HP.out; omega⟩, HI0, HK, HB⟩
        · have c1b := decide_eq_false c1
          by_cases c5 : s = 63
          · subst c5
            by_cases c6 : c ≤ 1
            · have c6b := decide_eq_true c6
              rw [if_pos (Or.inr ⟨rfl, c6⟩)] at H
              go_wp2_with (first | ((with_reducible refine gate_callee (f := 60) rfl ?_); refine goesE_ (some 21) rfl rfl Try.func60 (by kernel_rfl) rfl #[.pointer (some ⟨g, 0, none⟩), .bool true] rfl (by (try simp only [List.map_toArray, List.map_cons, List.map_nil]); first | done | rfl) ?_; (with_reducible refine (must_end _ _ _).mono ?_)))
              rintro e w3 ⟨rfl, ⟨hq, rfl⟩ | ⟨hq, rfl⟩⟩
              case inr => cases hq
              refine .inl ⟨_, rfl, ?_⟩
              clear hq
              obtain ⟨j, hj⟩ : ∃ j, j = iOr x c 63 := ⟨_, rfl⟩
              rw [← hj] at H
              have hj1 : Go.bits .or .u64 x (IntKind.u64.wrap (IntKind.u64.wrap (Go.bits .and .u8 c 127) * 2 ^ min (63 : Int).toNat 64)) = j := hj.symm
              have hj2 : Go.bits .or .u64 x (IntKind.u64.wrap (IntKind.u64.wrap (Go.bits .and .u8 c 127) * 2 ^ (63 : Int).toNat)) = j := by rw [← hj1, Nat.min_eq_left (by omega)]
              have hj3 : Go.bits .or .u64 x (IntKind.u64.wrap (IntKind.u64.wrap (Go.bits .and .u8 c 127) * 9223372036854775808)) = j := hj2
              have hsp : 0 ≤ (63 : Int) := HS0.1
              replace hsp := eq_true hsp
              clear hj
              by_cases c2 : c < 128
              · rw [if_pos c2] at H
                have c2b := decide_eq_true c2
                by_cases c3 : 0 < c
                · rw [if_pos (Or.inl c3)] at H
                  have c3b := decide_eq_true c3
                  go_wp2_with (first | ((with_reducible refine gate_callee (f := 60) rfl ?_); refine goesE_ (some 38) rfl rfl Try.func60 (by kernel_rfl) rfl #[.pointer (some ⟨g, 0, none⟩), .bool true] rfl (by (try simp only [List.map_toArray, List.map_cons, List.map_nil]); first | done | rfl) ?_; (with_reducible refine (must_end _ _ _).mono ?_)))
                  rintro e w3 ⟨rfl, ⟨hq, rfl⟩ | ⟨hq, rfl⟩⟩
                  case inr => cases hq
                  refine .inl ⟨_, rfl, ?_⟩
                  clear hq
                  go_wp2
                  go_ret
                  exact REnd.yes (by rw [← H]; rfl) HI0.out HB.out HK.out
                · have c3b := decide_eq_false c3
                  · rw [if_neg (fun h => h.elim c3 (by decide))] at H
                    go_wp2_with (first | ((with_reducible refine gate_callee (f := 60) rfl ?_); refine goesE_ (some 38) rfl rfl Try.func60 (by kernel_rfl) rfl #[.pointer (some ⟨g, 0, none⟩), .bool false] rfl (by (try simp only [List.map_toArray, List.map_cons, List.map_nil]); first | done | rfl) ?_; (with_reducible refine (must_end _ _ _).mono ?_)))
                    rintro e w3 ⟨rfl, ⟨hq, rfl⟩ | ⟨hq, rfl⟩⟩
                    · cases hq
                    · exact .inr ⟨_, rfl, rfl, REnd.no (by rw [← H]; rfl) HB.out HK.out⟩
              · omega
            · have c6b := decide_eq_false c6
              rw [if_neg (fun h => h.elim c1 (fun h => c6 h.2))] at H
              go_wp2_with (first | ((with_reducible refine gate_callee (f := 60) rfl ?_); refine goesE_ (some 21) rfl rfl Try.func60 (by kernel_rfl) rfl #[.pointer (some ⟨g, 0, none⟩), .bool false] rfl (by (try simp only [List.map_toArray, List.map_cons, List.map_nil]); first | done | rfl) ?_; (with_reducible refine (must_end _ _ _).mono ?_)))
              rintro e w3 ⟨rfl, ⟨hq, rfl⟩ | ⟨hq, rfl⟩⟩
              · cases hq
              · exact .inr ⟨_, rfl, rfl, REnd.no (by rw [← H]; rfl) HB.out HK.out⟩
          · have c5b := decide_eq_false c5
            rw [if_neg (fun h => h.elim c1 (fun h => c5 h.1))] at H
            go_wp2_with (first | ((with_reducible refine gate_callee (f := 60) rfl ?_); refine goesE_ (some 21) rfl rfl Try.func60 (by kernel_rfl) rfl #[.pointer (some ⟨g, 0, none⟩), .bool false] rfl (by (try simp only [List.map_toArray, List.map_cons, List.map_nil]); first | done | rfl) ?_; (with_reducible refine (must_end _ _ _).mono ?_)))
            rintro e w3 ⟨rfl, ⟨hq, rfl⟩ | ⟨hq, rfl⟩⟩
            · cases hq
            · exact .inr ⟨_, rfl, rfl, REnd.no (by rw [← H]; rfl) HB.out HK.out⟩
      · refine .inr ⟨_, rfl, ?_⟩
        have hlt : ¬ i1 < (b.length : Int) := by
          intro h; rw [iByte, if_pos h] at hr; cases hr
        have H := HA.out
        simp only [iNumL] at H
        rw [if_neg hlt] at H
        subst H
        exact ⟨rfl, REnd.no rfl hb2 (KeepBut.trans HK.out hk2 (.inl rfl))⟩
end Go.Proofs.Ytngmkpediibhjaa.PFnExactDecodeDesc
