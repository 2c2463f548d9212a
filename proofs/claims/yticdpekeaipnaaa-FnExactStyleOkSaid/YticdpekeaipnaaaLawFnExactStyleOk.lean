/- For every input the law FnExactStyleOk returns true, and each argument reads afterwards as it read before. No condition. -/
import Derived.Test.YticdpekeaipnaaaRows
import Derived.Test.YticdpekeaipnaaaPFnExactStyleOkx3
import Derived.Test.YticdpekeaipnaaaPureFnExactStyleOk
import Derived.Test.YticdpekeaipnaaaOpen
import Derived.WalkKit
import Derived.ProofKit
import Derived.OpenShut
import Derived.ShutString
import Derived.ChangeOld
import Derived.Below
import Derived.SizedLaws
namespace Go.Proofs.Yticdpekeaipnaaa.fnExactStyleOk
open Go.ChangeShapes Go.WideShapes Go.ChangeAt Go.RowKit Go.Proofs.Yticdpekeaipnaaa.Open Go.Proofs.YticdpekeaipnaaaW.PrintWords Go.Proofs.Yticdpekeaipnaaa.PFnExactStyleOk
open Go.ChangeMaps (open_string shut_string)
set_option linter.unusedVariables false
theorem own : ownKnob Try.prog.godebug = none := by kernel_rfl
theorem laidOut : laidOutB Try.prog = true := by kernel_rfl
theorem opens_S24 (W : World) : Opens Try.prog W 24 k24 WF24 := by
  have h := opens_struct (W := W) Try.underlying24 (by kernel_rfl) (opensFs_cons (opens_int Try.underlying2) rfl (by kernel_rfl) (opensFs_cons (opens_int Try.underlying2) rfl (by kernel_rfl) (opensFs_cons (opens_int Try.underlying2) rfl (by kernel_rfl) (opensFs_cons (opens_int Try.underlying2) rfl (by kernel_rfl) (opensFs_one (opens_int Try.underlying2) rfl (by kernel_rfl)))))) (fun x : S24 => (x.f0, x.f1, x.f2, x.f3, x.f4)) (fun p => ⟨p.1, p.2.1, p.2.2.1, p.2.2.2.1, p.2.2.2.2⟩) (fun _ => rfl)
  exact h
theorem opens_S61 (W : World) : Opens Try.prog W 61 k61 WF61 := by
  have h := opens_struct (W := W) Try.underlying61 (by kernel_rfl) (opensFs_cons (opens_int Try.underlying2) rfl (by kernel_rfl) (opensFs_cons (opens_int Try.underlying2) rfl (by kernel_rfl) (opensFs_cons (opens_int Try.underlying2) rfl (by kernel_rfl) (opensFs_cons (opens_int Try.underlying2) rfl (by kernel_rfl) (opensFs_cons (opens_int Try.underlying2) rfl (by kernel_rfl) (opensFs_cons (opens_int Try.underlying2) rfl (by kernel_rfl) (opensFs_cons (opens_int Try.underlying2) rfl (by kernel_rfl) (opensFs_cons (opens_int Try.underlying2) rfl (by kernel_rfl) (opensFs_cons (opens_S24 W) rfl (by kernel_rfl) (opensFs_cons (opens_S24 W) rfl (by kernel_rfl) (opensFs_one (opens_S24 W) rfl (by kernel_rfl)))))))))))) (fun x : S61 => (x.f0, x.f1, x.f2, x.f3, x.f4, x.f5, x.f6, x.f7, x.f8, x.f9, x.f10)) (fun p => ⟨p.1, p.2.1, p.2.2.1, p.2.2.2.1, p.2.2.2.2.1, p.2.2.2.2.2.1, p.2.2.2.2.2.2.1, p.2.2.2.2.2.2.2.1, p.2.2.2.2.2.2.2.2.1, p.2.2.2.2.2.2.2.2.2.1, p.2.2.2.2.2.2.2.2.2.2⟩) (fun _ => rfl)
  exact h
set_option maxRecDepth 100000 in
theorem lifted (os : Os) (started : os.Started) (H : Type) (enc : TypeId × Value → H) :
    ReturnsInHanded {} Try.checked os 11 .any (Rows.fnExactStyleOkSpec.pre6 enc Try.prog Try.f11 Rows.fnExactStyleOkRow.domain false) (Rows.fnExactStyleOkSpec.post enc Try.prog Try.f11 false true false false) := by
  refine returnsInHanded_of_change_sized (C := Try.checked) own started (by kernel_rfl) Try.func11
    (ChangeSpec.witness6 (enc := enc) (C := Try.checked) false ⟨#[], #[.agg #[.int .i64 0, .int .i64 0, .int .i64 0, .int .i64 0, .int .i64 0, .int .i64 0, .int .i64 0, .int .i64 0, .int .i64 0, .int .i64 0, .int .i64 0, .int .i64 0, .int .i64 0, .int .i64 0, .int .i64 0, .int .i64 0, .int .i64 0, .int .i64 0, .int .i64 0, .int .i64 0, .int .i64 0, .int .i64 0, .int .i64 0]], []⟩ 8 (by kernel_rfl) (by kernel_rfl) (by kernel_rfl) (by kernel_rfl)) ?_
  intro W base args ds gs before hval0 hW hcnd _ _
  have hval : ∀ (j : Nat) t v, Try.f11.params[j]? = some t → args[j]? = some v → Value.okWide Try.prog W .any base t v := hval0
  have hW' := hW
  obtain ⟨p, q, hA0, hV, rfl, hfz, hnd⟩ := hW
  have hA : DataW.TrodAll enc Try.prog W 0 (fun _ => true) true Try.f11.params.toList args.toList ds p := hA0
  rw [Try.params11] at hA hval
  obtain ⟨v0, vs0, d0, ds0, p0, q0, hargs, rfl, rfl, h0, r0⟩ := trodAll_cons hA
  obtain ⟨rfl, rfl, rfl⟩ := trodAll_nil r0
  obtain rfl : args = #[v0] := by cases args; simp_all
  obtain ⟨rfl, rfl⟩ := trodVars_none hV
  have k0 := h0
  have lt0 : ∀ x ∈ p0, x.block < W.heap.size := by obtain ⟨m, hm⟩ := k0; exact DataW.trod_lt m _ _ _ hm
  obtain ⟨y0, cs0, rfl, hK0, hF0⟩ := arg_struct (opens_S61 W) Try.underlying61 (hval 0 61 v0 rfl rfl) h0
  have e0 := k61_open hK0
  obtain rfl : cs0 = #[.int .i64 y0.f0, .int .i64 y0.f1, .int .i64 y0.f2, .int .i64 y0.f3, .int .i64 y0.f4, .int .i64 y0.f5, .int .i64 y0.f6, .int .i64 y0.f7, .int .i64 y0.f8.f0, .int .i64 y0.f8.f1, .int .i64 y0.f8.f2, .int .i64 y0.f8.f3, .int .i64 y0.f8.f4, .int .i64 y0.f9.f0, .int .i64 y0.f9.f1, .int .i64 y0.f9.f2, .int .i64 y0.f9.f3, .int .i64 y0.f9.f4, .int .i64 y0.f10.f0, .int .i64 y0.f10.f1, .int .i64 y0.f10.f2, .int .i64 y0.f10.f3, .int .i64 y0.f10.f4] := Array.ext' e0
  clear hA0 hval0
  obtain ⟨k, h⟩ := Pure.FnExactStyleOk y0.f0 y0.f1 y0.f2 y0.f3 y0.f4 y0.f5 y0.f6 y0.f7 y0.f8.f0 y0.f8.f1 y0.f8.f2 y0.f8.f3 y0.f8.f4 y0.f9.f0 y0.f9.f1 y0.f9.f2 y0.f9.f3 y0.f9.f4 y0.f10.f0 y0.f10.f1 y0.f10.f2 y0.f10.f3 y0.f10.f4 hF0.1 hF0.2.1 hF0.2.2.1 hF0.2.2.2.1 hF0.2.2.2.2.1 hF0.2.2.2.2.2.1 hF0.2.2.2.2.2.2.1 hF0.2.2.2.2.2.2.2.1 hF0.2.2.2.2.2.2.2.2.1.1 hF0.2.2.2.2.2.2.2.2.1.2.1 hF0.2.2.2.2.2.2.2.2.1.2.2.1 hF0.2.2.2.2.2.2.2.2.1.2.2.2.1 hF0.2.2.2.2.2.2.2.2.1.2.2.2.2 hF0.2.2.2.2.2.2.2.2.2.1.1 hF0.2.2.2.2.2.2.2.2.2.1.2.1 hF0.2.2.2.2.2.2.2.2.2.1.2.2.1 hF0.2.2.2.2.2.2.2.2.2.1.2.2.2.1 hF0.2.2.2.2.2.2.2.2.2.1.2.2.2.2 hF0.2.2.2.2.2.2.2.2.2.2.1 hF0.2.2.2.2.2.2.2.2.2.2.2.1 hF0.2.2.2.2.2.2.2.2.2.2.2.2.1 hF0.2.2.2.2.2.2.2.2.2.2.2.2.2.1 hF0.2.2.2.2.2.2.2.2.2.2.2.2.2.2
  refine (laws_FnExactStyleOk.calls k y0.f0 y0.f1 y0.f2 y0.f3 y0.f4 y0.f5 y0.f6 y0.f7 y0.f8.f0 y0.f8.f1 y0.f8.f2 y0.f8.f3 y0.f8.f4 y0.f9.f0 y0.f9.f1 y0.f9.f2 y0.f9.f3 y0.f9.f4 y0.f10.f0 y0.f10.f1 y0.f10.f2 y0.f10.f3 y0.f10.f4 true W rfl h).mono fun e W' ⟨he, bel⟩ => ?_
  subst he
  exact ⟨_, rfl, _, _, _, [], _, [], hW', trodAll_mk1 (shut_bool Try.underlying4 _), (trodAll_cons_mk (Below.trod laidOut (by kernel_rfl) (of_decide_eq_true (by kernel_rfl)) k0 bel lt0) trodAll_mk0), rfl, bel.frame _, fun h => by cases h⟩
theorem over : Rows.fnExactStyleOkRow.holds Try.pinned (OpenSpec.ofChange Rows.fnExactStyleOkSpec) :=
  OpenClaim.holds_of_wide 11 Try.f11 rfl rfl rfl rfl rfl rfl rfl ⟨rfl, rfl, rfl, rfl, rfl⟩ rfl rfl rfl rfl rfl (by kernel_rfl) Try.func11 (by kernel_rfl)
    (of_decide_eq_true (by kernel_rfl)) (by unfold Func.isWrapper; first | (rw [if_pos (by decide +kernel)]; kernel_rfl) | (rw [if_neg (by decide +kernel)]; exact ⟨rfl, rfl⟩))
    (fun os started H enc _ => lifted os started H enc)
theorem proved : Rows.FnExactStyleOkSaid := over
#print axioms proved
end Go.Proofs.Yticdpekeaipnaaa.fnExactStyleOk
namespace Go.Proofs.Yticdpekeaipnaaa
/-- The row, under a short name, for the claim. -/
theorem fnExactStyleOk_holds : Rows.FnExactStyleOkSaid := fnExactStyleOk.proved
end Go.Proofs.Yticdpekeaipnaaa
