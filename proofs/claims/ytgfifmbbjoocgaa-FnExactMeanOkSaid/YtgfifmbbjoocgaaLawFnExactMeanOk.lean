/- For every input the law FnExactMeanOk returns true, and each argument reads afterwards as it read before. No condition. -/
import Derived.Test.YtgfifmbbjoocgaaRows
import Derived.Test.YtgfifmbbjoocgaaPFnExactMeanOkx10
import Derived.Test.YtgfifmbbjoocgaaPureFnExactMeanOk
import Derived.Test.YtgfifmbbjoocgaaOpen
import Derived.WalkKit
import Derived.ProofKit
import Derived.OpenShut
import Derived.ShutString
import Derived.ChangeOld
import Derived.Below
import Derived.SizedLaws
namespace Go.Proofs.Ytgfifmbbjoocgaa.fnExactMeanOk
open Go.ChangeShapes Go.WideShapes Go.ChangeAt Go.RowKit Go.Proofs.Ytgfifmbbjoocgaa.Open Go.Proofs.YtgfifmbbjoocgaaW.PrintWords Go.Proofs.Ytgfifmbbjoocgaa.PFnExactMeanOk
open Go.ChangeMaps (open_string shut_string)
set_option linter.unusedVariables false
theorem own : ownKnob Try.prog.godebug = none := by kernel_rfl
theorem laidOut : laidOutB Try.prog = true := by kernel_rfl
theorem opens_S34 (W : World) : Opens Try.prog W 34 k34 WF34 := by
  have h := opens_struct (W := W) Try.underlying34 (by kernel_rfl) (opensFs_cons (opens_int Try.underlying2) rfl (by kernel_rfl) (opensFs_cons (opens_int Try.underlying2) rfl (by kernel_rfl) (opensFs_one (opens_string Try.underlying9) rfl (by kernel_rfl)))) (fun x : S34 => (x.f0, x.f1, x.f2)) (fun p => ⟨p.1, p.2.1, p.2.2⟩) (fun _ => rfl)
  exact h
theorem opens_S37 (W : World) : Opens Try.prog W 37 k37 WF37 := by
  have h := opens_struct (W := W) Try.underlying37 (by kernel_rfl) (opensFs_cons (opens_slice Try.underlying35 (by kernel_rfl) (opens_S34 W)) rfl (by kernel_rfl) (opensFs_cons (opens_int Try.underlying2) rfl (by kernel_rfl) (opensFs_one (opens_slice Try.underlying35 (by kernel_rfl) (opens_S34 W)) rfl (by kernel_rfl)))) (fun x : S37 => (x.f0, x.f1, x.f2)) (fun p => ⟨p.1, p.2.1, p.2.2⟩) (fun _ => rfl)
  exact h
theorem opens_S39 (W : World) : Opens Try.prog W 39 k39 WF39 := by
  have h := opens_struct (W := W) Try.underlying39 (by kernel_rfl) (opensFs_cons (opens_int Try.underlying2) rfl (by kernel_rfl) (opensFs_cons (opens_int Try.underlying2) rfl (by kernel_rfl) (opensFs_cons (opens_S34 W) rfl (by kernel_rfl) (opensFs_one (opens_S37 W) rfl (by kernel_rfl))))) (fun x : S39 => (x.f0, x.f1, x.f2, x.f3)) (fun p => ⟨p.1, p.2.1, p.2.2.1, p.2.2.2⟩) (fun _ => rfl)
  exact h
set_option maxRecDepth 100000 in
theorem lifted (os : Os) (started : os.Started) (H : Type) (enc : TypeId × Value → H) :
    ReturnsInHanded {} Try.checked os 4 .any (Rows.fnExactMeanOkSpec.pre6 enc Try.prog Try.f4 Rows.fnExactMeanOkRow.domain false) (Rows.fnExactMeanOkSpec.post enc Try.prog Try.f4 false true false false) := by
  refine returnsInHanded_of_change_sized (C := Try.checked) own started (by kernel_rfl) Try.func4
    (ChangeSpec.witness6 (enc := enc) (C := Try.checked) false ⟨#[], #[.agg #[.int .i64 0, .int .i64 0, .int .i64 0, .int .i64 0, .string ByteArray.empty, .slice none 0 0, .int .i64 0, .slice none 0 0]], []⟩ 8 (by kernel_rfl) (by kernel_rfl) (by kernel_rfl) (by kernel_rfl)) ?_
  intro W base args ds gs before hval0 hW hcnd _ _
  have hval : ∀ (j : Nat) t v, Try.f4.params[j]? = some t → args[j]? = some v → Value.okWide Try.prog W .any base t v := hval0
  have hW' := hW
  obtain ⟨p, q, hA0, hV, rfl, hfz, hnd⟩ := hW
  have hA : DataW.TrodAll enc Try.prog W 0 (fun _ => true) true Try.f4.params.toList args.toList ds p := hA0
  rw [Try.params4] at hA hval
  obtain ⟨v0, vs0, d0, ds0, p0, q0, hargs, rfl, rfl, h0, r0⟩ := trodAll_cons hA
  obtain ⟨rfl, rfl, rfl⟩ := trodAll_nil r0
  obtain rfl : args = #[v0] := by cases args; simp_all
  obtain ⟨rfl, rfl⟩ := trodVars_none hV
  have k0 := h0
  have lt0 : ∀ x ∈ p0, x.block < W.heap.size := by obtain ⟨m, hm⟩ := k0; exact DataW.trod_lt m _ _ _ hm
  obtain ⟨y0, cs0, rfl, hK0, hF0⟩ := arg_struct (opens_S39 W) Try.underlying39 (hval 0 39 v0 rfl rfl) h0
  obtain ⟨A0_5, c0_5, A0_7, c0_7, e0, hc0_5, hr0_5, hc0_7, hr0_7⟩ := k39_open hK0
  obtain rfl : cs0 = #[.int .i64 y0.f0, .int .i64 y0.f1, .int .i64 y0.f2.f0, .int .i64 y0.f2.f1, .string y0.f2.f2, .slice A0_5 y0.f3.f0.length c0_5, .int .i64 y0.f3.f1, .slice A0_7 y0.f3.f2.length c0_7] := Array.ext' e0
  clear hA0 hval0
  obtain ⟨k, h⟩ := Pure.FnExactMeanOk y0.f0 y0.f1 y0.f2.f0 y0.f2.f1 y0.f2.f2 y0.f3.f0 y0.f3.f1 y0.f3.f2 hF0.1 hF0.2.1 hF0.2.2.1.1 hF0.2.2.1.2.1 hF0.2.2.1.2.2 hF0.2.2.2.1.1 hF0.2.2.2.1.2 hF0.2.2.2.2.1 hF0.2.2.2.2.2.1 hF0.2.2.2.2.2.2
  refine (laws_FnExactMeanOk.calls k y0.f0 y0.f1 y0.f2.f0 y0.f2.f1 y0.f2.f2 A0_5 c0_5 y0.f3.f0 y0.f3.f1 A0_7 c0_7 y0.f3.f2 true W hr0_5 hc0_5 hr0_7 hc0_7 rfl h).mono fun e W' ⟨he, bel⟩ => ?_
  subst he
  exact ⟨_, rfl, _, _, _, [], _, [], hW', trodAll_mk1 (shut_bool Try.underlying4 _), (trodAll_cons_mk (Below.trod laidOut (by kernel_rfl) (of_decide_eq_true (by kernel_rfl)) k0 bel lt0) trodAll_mk0), rfl, bel.frame _, fun h => by cases h⟩
theorem over : Rows.fnExactMeanOkRow.holds Try.pinned (OpenSpec.ofChange Rows.fnExactMeanOkSpec) :=
  OpenClaim.holds_of_wide 4 Try.f4 rfl rfl rfl rfl rfl rfl rfl ⟨rfl, rfl, rfl, rfl, rfl⟩ rfl rfl rfl rfl rfl (by kernel_rfl) Try.func4 (by kernel_rfl)
    (of_decide_eq_true (by kernel_rfl)) (by unfold Func.isWrapper; first | (rw [if_pos (by decide +kernel)]; kernel_rfl) | (rw [if_neg (by decide +kernel)]; exact ⟨rfl, rfl⟩))
    (fun os started H enc _ => lifted os started H enc)
theorem proved : Rows.FnExactMeanOkSaid := over
#print axioms proved
end Go.Proofs.Ytgfifmbbjoocgaa.fnExactMeanOk
namespace Go.Proofs.Ytgfifmbbjoocgaa
/-- The row, under a short name, for the claim. -/
theorem fnExactMeanOk_holds : Rows.FnExactMeanOkSaid := fnExactMeanOk.proved
end Go.Proofs.Ytgfifmbbjoocgaa
