/- For every input the law FnExactAddGlue returns true, and each argument reads afterwards as it read before. No condition. -/
import Derived.Test.YtabamachefgilaaRows
import Derived.Test.YtabamachefgilaaPFnExactAddGluex3
import Derived.Test.YtabamachefgilaaPureFnExactAddGlue
import Derived.Test.YtabamachefgilaaOpen
import Derived.WalkKit
import Derived.ProofKit
import Derived.OpenShut
import Derived.ShutString
import Derived.ChangeOld
import Derived.Below
import Derived.SizedLaws
namespace Go.Proofs.Ytabamachefgilaa.fnExactAddGlue
open Go.ChangeShapes Go.WideShapes Go.ChangeAt Go.RowKit Go.Proofs.Ytabamachefgilaa.Open Go.Proofs.YtabamachefgilaaW.PrintWords Go.Proofs.Ytabamachefgilaa.PFnExactAddGlue
open Go.ChangeMaps (open_string shut_string)
set_option linter.unusedVariables false
theorem own : ownKnob Try.prog.godebug = none := by kernel_rfl
theorem laidOut : laidOutB Try.prog = true := by kernel_rfl
theorem opens_S23 (W : World) : Opens Try.prog W 23 k23 WF23 := by
  have h := opens_struct (W := W) Try.underlying23 (by kernel_rfl) (opensFs_cons (opens_int Try.underlying2) rfl (by kernel_rfl) (opensFs_cons (opens_int Try.underlying2) rfl (by kernel_rfl) (opensFs_cons (opens_int Try.underlying2) rfl (by kernel_rfl) (opensFs_cons (opens_int Try.underlying2) rfl (by kernel_rfl) (opensFs_one (opens_int Try.underlying2) rfl (by kernel_rfl)))))) (fun x : S23 => (x.f0, x.f1, x.f2, x.f3, x.f4)) (fun p => ⟨p.1, p.2.1, p.2.2.1, p.2.2.2.1, p.2.2.2.2⟩) (fun _ => rfl)
  exact h
set_option maxRecDepth 100000 in
theorem lifted (os : Os) (started : os.Started) (H : Type) (enc : TypeId × Value → H) :
    ReturnsInHanded {} Try.checked os 3 .any (Rows.fnExactAddGlueSpec.pre6 enc Try.prog Try.f3 Rows.fnExactAddGlueRow.domain false) (Rows.fnExactAddGlueSpec.post enc Try.prog Try.f3 false true false false) := by
  refine returnsInHanded_of_change_sized (C := Try.checked) own started (by kernel_rfl) Try.func3
    (ChangeSpec.witness6 (enc := enc) (C := Try.checked) false ⟨#[], #[.agg #[.int .i64 0, .int .i64 0, .int .i64 0, .int .i64 0, .int .i64 0], .agg #[.int .i64 0, .int .i64 0, .int .i64 0, .int .i64 0, .int .i64 0]], []⟩ 8 (by kernel_rfl) (by kernel_rfl) (by kernel_rfl) (by kernel_rfl)) ?_
  intro W base args ds gs before hval0 hW hcnd _ _
  have hval : ∀ (j : Nat) t v, Try.f3.params[j]? = some t → args[j]? = some v → Value.okWide Try.prog W .any base t v := hval0
  have hW' := hW
  obtain ⟨p, q, hA0, hV, rfl, hfz, hnd⟩ := hW
  have hA : DataW.TrodAll enc Try.prog W 0 (fun _ => true) true Try.f3.params.toList args.toList ds p := hA0
  rw [Try.params3] at hA hval
  obtain ⟨v0, vs0, d0, ds0, p0, q0, hargs, rfl, rfl, h0, r0⟩ := trodAll_cons hA
  obtain ⟨v1, vs1, d1, ds1, p1, q1, rfl, rfl, rfl, h1, r1⟩ := trodAll_cons r0
  obtain ⟨rfl, rfl, rfl⟩ := trodAll_nil r1
  obtain rfl : args = #[v0, v1] := by cases args; simp_all
  obtain ⟨rfl, rfl⟩ := trodVars_none hV
  have k0 := h0
  have lt0 : ∀ x ∈ p0, x.block < W.heap.size := by obtain ⟨m, hm⟩ := k0; exact DataW.trod_lt m _ _ _ hm
  obtain ⟨y0, cs0, rfl, hK0, hF0⟩ := arg_struct (opens_S23 W) Try.underlying23 (hval 0 23 v0 rfl rfl) h0
  have e0 := k23_open hK0
  obtain rfl : cs0 = #[.int .i64 y0.f0, .int .i64 y0.f1, .int .i64 y0.f2, .int .i64 y0.f3, .int .i64 y0.f4] := Array.ext' e0
  have k1 := h1
  have lt1 : ∀ x ∈ p1, x.block < W.heap.size := by obtain ⟨m, hm⟩ := k1; exact DataW.trod_lt m _ _ _ hm
  obtain ⟨y1, cs1, rfl, hK1, hF1⟩ := arg_struct (opens_S23 W) Try.underlying23 (hval 1 23 v1 rfl rfl) h1
  have e1 := k23_open hK1
  obtain rfl : cs1 = #[.int .i64 y1.f0, .int .i64 y1.f1, .int .i64 y1.f2, .int .i64 y1.f3, .int .i64 y1.f4] := Array.ext' e1
  clear hA0 hval0
  obtain ⟨k, h⟩ := Pure.FnExactAddGlue y0.f0 y0.f1 y0.f2 y0.f3 y0.f4 y1.f0 y1.f1 y1.f2 y1.f3 y1.f4 hF0.1 hF0.2.1 hF0.2.2.1 hF0.2.2.2.1 hF0.2.2.2.2 hF1.1 hF1.2.1 hF1.2.2.1 hF1.2.2.2.1 hF1.2.2.2.2
  refine (laws_FnExactAddGlue.calls k y0.f0 y0.f1 y0.f2 y0.f3 y0.f4 y1.f0 y1.f1 y1.f2 y1.f3 y1.f4 true W rfl h).mono fun e W' ⟨he, bel⟩ => ?_
  subst he
  exact ⟨_, rfl, _, _, _, [], _, [], hW', trodAll_mk1 (shut_bool Try.underlying4 _), (trodAll_cons_mk (Below.trod laidOut (by kernel_rfl) (of_decide_eq_true (by kernel_rfl)) k0 bel lt0) (trodAll_cons_mk (Below.trod laidOut (by kernel_rfl) (of_decide_eq_true (by kernel_rfl)) k1 bel lt1) trodAll_mk0)), rfl, bel.frame _, fun h => by cases h⟩
theorem over : Rows.fnExactAddGlueRow.holds Try.pinned (OpenSpec.ofChange Rows.fnExactAddGlueSpec) :=
  OpenClaim.holds_of_wide 3 Try.f3 rfl rfl rfl rfl rfl rfl rfl ⟨rfl, rfl, rfl, rfl, rfl⟩ rfl rfl rfl rfl rfl (by kernel_rfl) Try.func3 (by kernel_rfl)
    (of_decide_eq_true (by kernel_rfl)) (by unfold Func.isWrapper; first | (rw [if_pos (by decide +kernel)]; kernel_rfl) | (rw [if_neg (by decide +kernel)]; exact ⟨rfl, rfl⟩))
    (fun os started H enc _ => lifted os started H enc)
theorem proved : Rows.FnExactAddGlueSaid := over
#print axioms proved
end Go.Proofs.Ytabamachefgilaa.fnExactAddGlue
namespace Go.Proofs.Ytabamachefgilaa
/-- The row, under a short name, for the claim. -/
theorem fnExactAddGlue_holds : Rows.FnExactAddGlueSaid := fnExactAddGlue.proved
end Go.Proofs.Ytabamachefgilaa
