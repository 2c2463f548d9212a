/- For every input the law FnExactFillBody returns true, and each argument reads afterwards as it read before. No condition. -/
import Derived.Test.YtgfifmbbjoocgaaRows
import Derived.Test.YtgfifmbbjoocgaaPFnExactFillBodyx10
import Derived.Test.YtgfifmbbjoocgaaPureFnExactFillBody
import Derived.Test.YtgfifmbbjoocgaaOpenVFb
import Derived.WalkKit
import Derived.ProofKit
import Derived.OpenShut
import Derived.ShutString
import Derived.ChangeOld
import Derived.Below
import Derived.SizedLaws
namespace Go.Proofs.Ytgfifmbbjoocgaa.fnExactFillBody
open Go.ChangeShapes Go.WideShapes Go.ChangeAt Go.RowKit Go.Proofs.Ytgfifmbbjoocgaa.Open Go.Proofs.YtgfifmbbjoocgaaW.PrintWords Go.Proofs.Ytgfifmbbjoocgaa.PFnExactFillBody
open Go.ChangeMaps (open_string shut_string)
set_option linter.unusedVariables false
theorem own : ownKnob Try.prog.godebug = none := by kernel_rfl
theorem laidOut : laidOutB Try.prog = true := by kernel_rfl
theorem opens_S34 (W : World) : Opens Try.prog W 34 k34 WF34 := by
  have h := opens_struct (W := W) Try.underlying34 (by kernel_rfl) (opensFs_cons (opens_int Try.underlying2) rfl (by kernel_rfl) (opensFs_cons (opens_int Try.underlying2) rfl (by kernel_rfl) (opensFs_one (opens_string Try.underlying9) rfl (by kernel_rfl)))) (fun x : S34 => (x.f0, x.f1, x.f2)) (fun p => ⟨p.1, p.2.1, p.2.2⟩) (fun _ => rfl)
  exact h
theorem opens_S37 (W : World) : Opens Try.prog W 37 k37 WF37 := by
  have h := opens_struct (W := W) Try.underlying37 (by kernel_rfl) (opensFs_cons (opens_slice Try.underlying35 (by kernel_rfl) (opens_S34 W)) rfl (by kernel_rfl) (opensFs_cons (opens_int Try.underlying2) rfl (by kernel_rfl) (opensFs_one (opens_slice Try.underlying35 (by kernel_rfl) (opens_S34 W)) rfl (by kernel_rfl)))) (fun x : S37 => (x.f0, x.f1, x.f2)) (fun p => ⟨p.1, p.2.1, p.2.2⟩) (fun _ => rfl)
  exact h
set_option maxRecDepth 100000 in
theorem lifted (os : Os) (started : os.Started) (H : Type) (enc : TypeId × Value → H) :
    ReturnsInHanded {} Try.checked os 10 .any (Rows.fnExactFillBodySpec.pre6 enc Try.prog Try.f10 Rows.fnExactFillBodyRow.domain false) (Rows.fnExactFillBodySpec.post enc Try.prog Try.f10 false true false false) := by
  refine returnsInHanded_of_change_sized (C := Try.checked) own started (by kernel_rfl) Try.func10
    (ChangeSpec.witness6 (enc := enc) (C := Try.checked) false ⟨#[], #[.agg #[.slice none 0 0, .int .i64 0, .slice none 0 0], .slice none 0 0], []⟩ 8 (by kernel_rfl) (by kernel_rfl) (by kernel_rfl) (by kernel_rfl)) ?_
  intro W base args ds gs before hval0 hW hcnd _ _
  have hval : ∀ (j : Nat) t v, Try.f10.params[j]? = some t → args[j]? = some v → Value.okWide Try.prog W .any base t v := hval0
  have hW' := hW
  obtain ⟨p, q, hA0, hV, rfl, hfz, hnd⟩ := hW
  have hA : DataW.TrodAll enc Try.prog W 0 (fun _ => true) true Try.f10.params.toList args.toList ds p := hA0
  rw [Try.params10] at hA hval
  obtain ⟨v0, vs0, d0, ds0, p0, q0, hargs, rfl, rfl, h0, r0⟩ := trodAll_cons hA
  obtain ⟨v1, vs1, d1, ds1, p1, q1, rfl, rfl, rfl, h1, r1⟩ := trodAll_cons r0
  obtain ⟨rfl, rfl, rfl⟩ := trodAll_nil r1
  obtain rfl : args = #[v0, v1] := by cases args; simp_all
  obtain ⟨rfl, rfl⟩ := trodVars_none hV
  have k0 := h0
  have lt0 : ∀ x ∈ p0, x.block < W.heap.size := by obtain ⟨m, hm⟩ := k0; exact DataW.trod_lt m _ _ _ hm
  obtain ⟨y0, cs0, rfl, hK0, hF0⟩ := arg_struct (opens_S37 W) Try.underlying37 (hval 0 37 v0 rfl rfl) h0
  obtain ⟨A0_0, c0_0, A0_2, c0_2, e0, hc0_0, hr0_0, hc0_2, hr0_2⟩ := k37_open hK0
  obtain rfl : cs0 = #[.slice A0_0 y0.f0.length c0_0, .int .i64 y0.f1, .slice A0_2 y0.f2.length c0_2] := Array.ext' e0
  have k1 := h1
  have lt1 : ∀ x ∈ p1, x.block < W.heap.size := by obtain ⟨m, hm⟩ := k1; exact DataW.trod_lt m _ _ _ hm
  obtain ⟨A1, c1, l1, rfl, hc1, hr1, hm1, hw1⟩ := arg_slice Try.underlying100 (by kernel_rfl) (opens_slice Try.underlying35 (by kernel_rfl) (opens_S34 W)) (hval 1 100 v1 rfl rfl) h1
  clear hA0 hval0
  obtain ⟨k, h⟩ := Pure.FnExactFillBody y0.f0 y0.f1 y0.f2 l1 hF0.1.1 hF0.1.2 hF0.2.1 hF0.2.2.1 hF0.2.2.2 hm1 hw1
  refine (laws_FnExactFillBody.calls k A0_0 c0_0 y0.f0 y0.f1 A0_2 c0_2 y0.f2 A1 c1 l1 true W hr0_0 hc0_0 hr0_2 hc0_2 hr1 hc1 rfl h).mono fun e W' ⟨he, bel⟩ => ?_
  subst he
  exact ⟨_, rfl, _, _, _, [], _, [], hW', trodAll_mk1 (shut_bool Try.underlying4 _), (trodAll_cons_mk (Below.trod laidOut (by kernel_rfl) (of_decide_eq_true (by kernel_rfl)) k0 bel lt0) (trodAll_cons_mk (Below.trod laidOut (by kernel_rfl) (of_decide_eq_true (by kernel_rfl)) k1 bel lt1) trodAll_mk0)), rfl, bel.frame _, fun h => by cases h⟩
theorem over : Rows.fnExactFillBodyRow.holds Try.pinned (OpenSpec.ofChange Rows.fnExactFillBodySpec) :=
  OpenClaim.holds_of_wide 10 Try.f10 rfl rfl rfl rfl rfl rfl rfl ⟨rfl, rfl, rfl, rfl, rfl⟩ rfl rfl rfl rfl rfl (by kernel_rfl) Try.func10 (by kernel_rfl)
    (of_decide_eq_true (by kernel_rfl)) (by unfold Func.isWrapper; first | (rw [if_pos (by decide +kernel)]; kernel_rfl) | (rw [if_neg (by decide +kernel)]; exact ⟨rfl, rfl⟩))
    (fun os started H enc _ => lifted os started H enc)
theorem proved : Rows.FnExactFillBodySaid := over
#print axioms proved
end Go.Proofs.Ytgfifmbbjoocgaa.fnExactFillBody
namespace Go.Proofs.Ytgfifmbbjoocgaa
/-- The row, under a short name, for the claim. -/
theorem fnExactFillBody_holds : Rows.FnExactFillBodySaid := fnExactFillBody.proved
end Go.Proofs.Ytgfifmbbjoocgaa
