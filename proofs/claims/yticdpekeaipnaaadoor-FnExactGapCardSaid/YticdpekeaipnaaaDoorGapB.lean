/- The two functions of the gaps, walked, and the law over them. No condition but that the table reads as it is laid. -/
import Derived.Test.YticdpekeaipnaaaDoorGapA
import Derived.Test.YticdpekeaipnaaaDoorPFnExactGapx1
namespace Go.Proofs.YticdpekeaipnaaaDoor.Gap
open Go.RowKit Go.Proofs.YticdpekeaipnaaaDoorW.PrintWords Go.Proofs.YticdpekeaipnaaaDoorW.PrintLast Go.Proofs.YticdpekeaipnaaaDoorW.PrintMore Go.Proofs.YticdpekeaipnaaaDoor.PFnExactGap
set_option linter.unusedVariables false
set_option linter.unusedSimpArgs false

def gz (v : Int) (s : Bool) : Int := if v < 0 then (if s = true then 0 else -v) else v
def gv (a b : Int) (s : Bool) : Int := if a < 0 ∨ a > 7 ∨ b < 0 ∨ b > 7 then 0 else gz (z a.toNat b.toNat) s
theorem z_small : ∀ i : Fin 8, ∀ j : Fin 8, -8 ≤ z i j ∧ z i j ≤ 8 := by decide +kernel
theorem spec_small : ∀ i : Fin 8, ∀ j : Fin 8, ∀ s : Bool, spec_Gap.f 1 ((i.val : Nat) : Int) ((j.val : Nat) : Int) s = some (gz (z i j) s) := by decide +kernel

set_option maxHeartbeats 8000000 in
set_option maxRecDepth 100000 in
theorem impl_in (a b : Nat) (s : Bool) (w : World) (ha : a < 8) (hb : b < 8) (v : Int) (hv0 : -8 ≤ v) (hv1 : v ≤ 8) (hc : w.cell? ⟨0, a * 8 + b, none⟩ = some (.int .i64 v)) :
    Calls Tryd.prog 11 #[.int .i64 a, .int .i64 b, .bool s] w fun e w' => e = .returned (.int .i64 (gz v s)) ∧ Drawn0 w w' := by
  have h1 : decide ((a : Int) < 0) = false := by simp
  have h2 : decide ((a : Int) > 7) = false := by simp; omega
  have h3 : decide ((b : Int) < 0) = false := by simp
  have h4 : decide ((b : Int) > 7) = false := by simp; omega
  have hu42 := Tryd.underlying42
  have hu41 := Tryd.underlying41
  unfold gz
  by_cases hn : v < 0
  · rw [if_pos hn]
    have h5 : decide (v < 0) = true := decide_eq_true hn
    have hw : wrap64 (-v) = -v := by unfold wrap64; omega
    cases s with
    | true => clear hw hn hv0 hv1; go_enter Tryd.func11, Tryd.ntmps11; go_wp2; go_ret; exact ⟨by first | rfl | simp, by repeat (first | exact Drawn0.refl _ | apply Drawn0.step)⟩
    | false => have hw := Aside0.mk hw; clear hn hv0 hv1; go_enter Tryd.func11, Tryd.ntmps11; go_wp2; go_ret; exact ⟨by first | rfl | (rw [hw.out]; simp) | simp, by repeat (first | exact Drawn0.refl _ | apply Drawn0.step)⟩
  · rw [if_neg hn]
    have h5 : decide (v < 0) = false := decide_eq_false hn
    clear hn hv0 hv1
    go_enter Tryd.func11, Tryd.ntmps11; go_wp2; go_ret; exact ⟨by first | rfl | simp, by repeat (first | exact Drawn0.refl _ | apply Drawn0.step)⟩
set_option maxHeartbeats 8000000 in
set_option maxRecDepth 100000 in
theorem impl_out (a b : Int) (s : Bool) (w : World) (h : a < 0 ∨ a > 7 ∨ b < 0 ∨ b > 7) :
    Calls Tryd.prog 11 #[.int .i64 a, .int .i64 b, .bool s] w fun e w' => e = .returned (.int .i64 0) ∧ Drawn0 w w' := by
  by_cases c1 : a < 0
  · have h1 : decide (a < 0) = true := decide_eq_true c1
    clear c1 h
    go_enter Tryd.func11, Tryd.ntmps11; go_wp2; go_ret; exact ⟨by first | rfl | simp, by repeat (first | exact Drawn0.refl _ | apply Drawn0.step)⟩
  have h1 : decide (a < 0) = false := decide_eq_false c1
  by_cases c2 : a > 7
  · have h2 : decide (a > 7) = true := decide_eq_true c2
    clear c1 c2 h
    go_enter Tryd.func11, Tryd.ntmps11; go_wp2; go_ret; exact ⟨by first | rfl | simp, by repeat (first | exact Drawn0.refl _ | apply Drawn0.step)⟩
  have h2 : decide (a > 7) = false := decide_eq_false c2
  by_cases c3 : b < 0
  · have h3 : decide (b < 0) = true := decide_eq_true c3
    clear c1 c2 c3 h
    go_enter Tryd.func11, Tryd.ntmps11; go_wp2; go_ret; exact ⟨by first | rfl | simp, by repeat (first | exact Drawn0.refl _ | apply Drawn0.step)⟩
  have h3 : decide (b < 0) = false := decide_eq_false c3
  have h4 : decide (b > 7) = true := decide_eq_true (by omega)
  clear c1 c2 c3 h
  go_enter Tryd.func11, Tryd.ntmps11; go_wp2; go_ret; exact ⟨by first | rfl | simp, by repeat (first | exact Drawn0.refl _ | apply Drawn0.step)⟩

theorem impl_calls (a b : Int) (s : Bool) (w : World) (hT : ∀ i j : Nat, i < 8 → j < 8 → w.cell? ⟨0, i * 8 + j, none⟩ = some (.int .i64 (z i j))) :
    Calls Tryd.prog 11 #[.int .i64 a, .int .i64 b, .bool s] w fun e w' => e = .returned (.int .i64 (gv a b s)) ∧ Drawn0 w w' := by
  by_cases h : a < 0 ∨ a > 7 ∨ b < 0 ∨ b > 7
  · have : gv a b s = 0 := by unfold gv; rw [if_pos h]
    rw [this]
    exact impl_out a b s w h
  · obtain ⟨i, rfl⟩ : ∃ i : Nat, a = i := ⟨a.toNat, by omega⟩
    obtain ⟨j, rfl⟩ : ∃ j : Nat, b = j := ⟨b.toNat, by omega⟩
    have e : gv i j s = gz (z i j) s := by unfold gv; rw [if_neg h]; simp
    rw [e]
    have hb := z_small ⟨i, by omega⟩ ⟨j, by omega⟩
    exact impl_in i j s w (by omega) (by omega) _ hb.1 hb.2 (hT i j (by omega) (by omega))
theorem spec_is (a b : Int) (s : Bool) : spec_Gap.f 1 a b s = some (gv a b s) := by
  by_cases h : a < 0 ∨ a > 7 ∨ b < 0 ∨ b > 7
  · have : gv a b s = 0 := by unfold gv; rw [if_pos h]
    rw [this]
    unfold spec_Gap.f
    simp only [spec_Gap.j0]
    by_cases c1 : a < 0
    · rw [if_pos c1]; simp
    rw [if_neg c1]
    by_cases c2 : a > 7
    · rw [if_pos c2]; simp
    rw [if_neg c2]
    by_cases c3 : b < 0
    · rw [if_pos c3]; simp
    rw [if_neg c3]
    rw [if_pos (decide_eq_true (by omega))]
  · obtain ⟨i, rfl⟩ : ∃ i : Nat, a = i := ⟨a.toNat, by omega⟩
    obtain ⟨j, rfl⟩ : ∃ j : Nat, b = j := ⟨b.toNat, by omega⟩
    have e : gv i j s = gz (z i j) s := by unfold gv; rw [if_neg h]; simp
    rw [e]
    exact spec_small ⟨i, by omega⟩ ⟨j, by omega⟩ s
set_option maxHeartbeats 8000000 in
set_option maxRecDepth 100000 in
theorem law_calls (a b : Int) (s : Bool) (w : World) (h0 : 0 < w.heap.size) (hT : ∀ i j : Nat, i < 8 → j < 8 → w.cell? ⟨0, i * 8 + j, none⟩ = some (.int .i64 (z i j))) :
    Calls Tryd.prog 4 #[.int .i64 a, .int .i64 b, .bool s] w fun e w' => e = .returned (.bool true) ∧ Below w.heap.size w w' := by
  obtain ⟨r, hr⟩ : ∃ r, r = gv a b s := ⟨_, rfl⟩
  have hS := spec_is a b s
  rw [← hr] at hS
  have hi := fun (W : World) (hW : Below w.heap.size w W) => impl_calls a b s W (fun i j hi hj => (hW.cell (p := ⟨0, i * 8 + j, none⟩) h0).trans (hT i j hi hj))
  rw [← hr] at hi
  clear hr hT
  have HB := Aside0.mk (Below.refl w.heap.size w)
  go_enter Tryd.func4, Tryd.ntmps4
  go_wp2_with (first | ((with_reducible refine gate_callee (f := 10) rfl ?_); refine goesL_ (some 12) rfl rfl Tryd.func10 (by kernel_rfl) rfl #[.int .i64 a, .int .i64 b, .bool s] rfl (by (try simp only [List.map_toArray, List.map_cons, List.map_nil]); first | done | rfl) ?_; refine (spec_Gap.calls 1 a b s r _ hS).mono ?_; rintro e w' ⟨rfl, hb⟩; have HB2 := Aside0.mk hb; clear hb; refine ⟨_, rfl, ?_⟩) | ((with_reducible refine gate_callee (f := 11) rfl ?_); refine goesL_ (some 16) rfl rfl Tryd.func11 (by kernel_rfl) rfl #[.int .i64 a, .int .i64 b, .bool s] rfl (by (try simp only [List.map_toArray, List.map_cons, List.map_nil]); first | done | rfl) ?_; refine (hi _ (by repeat (first | exact HB2.out | apply pw_below_drewN | apply below_drew1))).mono ?_; rintro e w' ⟨rfl, ⟨nd, rfl⟩⟩; refine ⟨_, rfl, ?_⟩))
  go_ret
  exact ⟨by first | rfl | (simp; done) | (simp [*]; done), by repeat (first | exact HB2.out | apply pw_below_drewN | apply below_drew1)⟩
#print axioms law_calls
end Go.Proofs.YticdpekeaipnaaaDoor.Gap
