/- For every input the law FnExactSheetOk returns true, and each argument reads afterwards as it read before. No condition. -/
import Derived.Test.YticdpekeaipnaaaRows
import Derived.Test.YticdpekeaipnaaaPFnExactSheetOkx1
import Derived.Test.YticdpekeaipnaaaPureFnExactSheetOk
import Derived.Test.YticdpekeaipnaaaOpen
import Derived.WalkKit
import Derived.ProofKit
import Derived.OpenShut
import Derived.ShutString
import Derived.ChangeOld
import Derived.Below
import Derived.SizedLaws
namespace Go.Proofs.Yticdpekeaipnaaa.fnExactSheetOk
open Go.ChangeShapes Go.WideShapes Go.ChangeAt Go.RowKit Go.Proofs.Yticdpekeaipnaaa.Open Go.Proofs.YticdpekeaipnaaaW.PrintWords Go.Proofs.Yticdpekeaipnaaa.PFnExactSheetOk
open Go.ChangeMaps (open_string shut_string)
set_option linter.unusedVariables false
theorem own : ownKnob Try.prog.godebug = none := by kernel_rfl
theorem laidOut : laidOutB Try.prog = true := by kernel_rfl
theorem opens_S24 (W : World) : Opens Try.prog W 24 k24 WF24 := by
  have h := opens_struct (W := W) Try.underlying24 (by kernel_rfl) (opensFs_cons (opens_int Try.underlying2) rfl (by kernel_rfl) (opensFs_cons (opens_int Try.underlying2) rfl (by kernel_rfl) (opensFs_cons (opens_int Try.underlying2) rfl (by kernel_rfl) (opensFs_cons (opens_int Try.underlying2) rfl (by kernel_rfl) (opensFs_one (opens_int Try.underlying2) rfl (by kernel_rfl)))))) (fun x : S24 => (x.f0, x.f1, x.f2, x.f3, x.f4)) (fun p => ⟨p.1, p.2.1, p.2.2.1, p.2.2.2.1, p.2.2.2.2⟩) (fun _ => rfl)
  exact h
theorem opens_S31 (W : World) : Opens Try.prog W 31 k31 WF31 := by
  have h := opens_struct (W := W) Try.underlying31 (by kernel_rfl) (opensFs_cons (opens_int Try.underlying2) rfl (by kernel_rfl) (opensFs_cons (opens_int Try.underlying2) rfl (by kernel_rfl) (opensFs_cons (opens_S24 W) rfl (by kernel_rfl) (opensFs_one (opens_int Try.underlying2) rfl (by kernel_rfl))))) (fun x : S31 => (x.f0, x.f1, x.f2, x.f3)) (fun p => ⟨p.1, p.2.1, p.2.2.1, p.2.2.2⟩) (fun _ => rfl)
  exact h
set_option maxRecDepth 100000 in
theorem lifted (os : Os) (started : os.Started) (H : Type) (enc : TypeId × Value → H) :
    ReturnsInHanded {} Try.checked os 6 .any (Rows.fnExactSheetOkSpec.pre6 enc Try.prog Try.f6 Rows.fnExactSheetOkRow.domain false) (Rows.fnExactSheetOkSpec.post enc Try.prog Try.f6 false true false false) := by
  refine returnsInHanded_of_change_sized (C := Try.checked) own started (by kernel_rfl) Try.func6
    (ChangeSpec.witness6 (enc := enc) (C := Try.checked) false ⟨#[], #[.agg #[.int .i64 0, .int .i64 0, .int .i64 0, .int .i64 0, .int .i64 0, .int .i64 0, .int .i64 0, .int .i64 0]], []⟩ 8 (by kernel_rfl) (by kernel_rfl) (by kernel_rfl) (by kernel_rfl)) ?_
  intro W base args ds gs before hval0 hW hcnd _ _
  have hval : ∀ (j : Nat) t v, Try.f6.params[j]? = some t → args[j]? = some v → Value.okWide Try.prog W .any base t v := hval0
  have hW' := hW
  obtain ⟨p, q, hA0, hV, rfl, hfz, hnd⟩ := hW
  have hA : DataW.TrodAll enc Try.prog W 0 (fun _ => true) true Try.f6.params.toList args.toList ds p := hA0
  rw [Try.params6] at hA hval
  obtain ⟨v0, vs0, d0, ds0, p0, q0, hargs, rfl, rfl, h0, r0⟩ := trodAll_cons hA
  obtain ⟨rfl, rfl, rfl⟩ := trodAll_nil r0
  obtain rfl : args = #[v0] := by cases args; simp_all
  obtain ⟨rfl, rfl⟩ := trodVars_none hV
  have k0 := h0
  have lt0 : ∀ x ∈ p0, x.block < W.heap.size := by obtain ⟨m, hm⟩ := k0; exact DataW.trod_lt m _ _ _ hm
  obtain ⟨y0, cs0, rfl, hK0, hF0⟩ := arg_struct (opens_S31 W) Try.underlying31 (hval 0 31 v0 rfl rfl) h0
  have e0 := k31_open hK0
  obtain rfl : cs0 = #[.int .i64 y0.f0, .int .i64 y0.f1, .int .i64 y0.f2.f0, .int .i64 y0.f2.f1, .int .i64 y0.f2.f2, .int .i64 y0.f2.f3, .int .i64 y0.f2.f4, .int .i64 y0.f3] := Array.ext' e0
  clear hA0 hval0
  have h := Pure.FnExactSheetOk y0.f0 y0.f1 y0.f2.f0 y0.f2.f1 y0.f2.f2 y0.f2.f3 y0.f2.f4 y0.f3 hF0.1 hF0.2.1 hF0.2.2.1.1 hF0.2.2.1.2.1 hF0.2.2.1.2.2.1 hF0.2.2.1.2.2.2.1 hF0.2.2.1.2.2.2.2 hF0.2.2.2
  refine (laws_FnExactSheetOk.calls y0.f0 y0.f1 y0.f2.f0 y0.f2.f1 y0.f2.f2 y0.f2.f3 y0.f2.f4 y0.f3 true W h).mono fun e W' ⟨he, bel⟩ => ?_
  subst he
  exact ⟨_, rfl, _, _, _, [], _, [], hW', trodAll_mk1 (shut_bool Try.underlying4 _), (trodAll_cons_mk (Below.trod laidOut (by kernel_rfl) (of_decide_eq_true (by kernel_rfl)) k0 bel lt0) trodAll_mk0), rfl, bel.frame _, fun h => by cases h⟩
theorem over : Rows.fnExactSheetOkRow.holds Try.pinned (OpenSpec.ofChange Rows.fnExactSheetOkSpec) :=
  OpenClaim.holds_of_wide 6 Try.f6 rfl rfl rfl rfl rfl rfl rfl ⟨rfl, rfl, rfl, rfl, rfl⟩ rfl rfl rfl rfl rfl (by kernel_rfl) Try.func6 (by kernel_rfl)
    (of_decide_eq_true (by kernel_rfl)) (by unfold Func.isWrapper; first | (rw [if_pos (by decide +kernel)]; kernel_rfl) | (rw [if_neg (by decide +kernel)]; exact ⟨rfl, rfl⟩))
    (fun os started H enc _ => lifted os started H enc)
theorem proved : Rows.FnExactSheetOkSaid := over
#print axioms proved
end Go.Proofs.Yticdpekeaipnaaa.fnExactSheetOk
namespace Go.Proofs.Yticdpekeaipnaaa
/-- The row, under a short name, for the claim. -/
theorem fnExactSheetOk_holds : Rows.FnExactSheetOkSaid := fnExactSheetOk.proved
end Go.Proofs.Yticdpekeaipnaaa
