/- For every input the law FnExactShowTokens returns true, and each argument reads afterwards as it read before. No condition. -/
import Derived.Test.YtabamachefgilaaRows
import Derived.Test.YtabamachefgilaaPFnExactShowTokensx3
import Derived.Test.YtabamachefgilaaPureFnExactShowTokens
import Derived.Test.YtabamachefgilaaOpen
import Derived.WalkKit
import Derived.ProofKit
import Derived.OpenShut
import Derived.ShutString
import Derived.ChangeOld
import Derived.Below
import Derived.SizedLaws
namespace Go.Proofs.Ytabamachefgilaa.fnExactShowTokens
open Go.ChangeShapes Go.WideShapes Go.ChangeAt Go.RowKit Go.Proofs.Ytabamachefgilaa.Open Go.Proofs.YtabamachefgilaaW.PrintWords Go.Proofs.Ytabamachefgilaa.PFnExactShowTokens
open Go.ChangeMaps (open_string shut_string)
set_option linter.unusedVariables false
theorem own : ownKnob Try.prog.godebug = none := by kernel_rfl
theorem laidOut : laidOutB Try.prog = true := by kernel_rfl
theorem opens_S127 (W : World) : Opens Try.prog W 127 k127 WF127 := by
  have h := opens_struct (W := W) Try.underlying127 (by kernel_rfl) (opensFs_cons (opens_int Try.underlying2) rfl (by kernel_rfl) (opensFs_cons (opens_int Try.underlying2) rfl (by kernel_rfl) (opensFs_one (opens_string Try.underlying9) rfl (by kernel_rfl)))) (fun x : S127 => (x.f0, x.f1, x.f2)) (fun p => ⟨p.1, p.2.1, p.2.2⟩) (fun _ => rfl)
  exact h
set_option maxRecDepth 100000 in
theorem lifted (os : Os) (started : os.Started) (H : Type) (enc : TypeId × Value → H) :
    ReturnsInHanded {} Try.checked os 8 .any (Rows.fnExactShowTokensSpec.pre6 enc Try.prog Try.f8 Rows.fnExactShowTokensRow.domain false) (Rows.fnExactShowTokensSpec.post enc Try.prog Try.f8 false true false false) := by
  refine returnsInHanded_of_change_sized (C := Try.checked) own started (by kernel_rfl) Try.func8
    (ChangeSpec.witness6 (enc := enc) (C := Try.checked) false ⟨#[], #[.slice none 0 0], []⟩ 8 (by kernel_rfl) (by kernel_rfl) (by kernel_rfl) (by kernel_rfl)) ?_
  intro W base args ds gs before hval0 hW hcnd _ _
  have hval : ∀ (j : Nat) t v, Try.f8.params[j]? = some t → args[j]? = some v → Value.okWide Try.prog W .any base t v := hval0
  have hW' := hW
  obtain ⟨p, q, hA0, hV, rfl, hfz, hnd⟩ := hW
  have hA : DataW.TrodAll enc Try.prog W 0 (fun _ => true) true Try.f8.params.toList args.toList ds p := hA0
  rw [Try.params8] at hA hval
  obtain ⟨v0, vs0, d0, ds0, p0, q0, hargs, rfl, rfl, h0, r0⟩ := trodAll_cons hA
  obtain ⟨rfl, rfl, rfl⟩ := trodAll_nil r0
  obtain rfl : args = #[v0] := by cases args; simp_all
  obtain ⟨rfl, rfl⟩ := trodVars_none hV
  have k0 := h0
  have lt0 : ∀ x ∈ p0, x.block < W.heap.size := by obtain ⟨m, hm⟩ := k0; exact DataW.trod_lt m _ _ _ hm
  obtain ⟨A0, c0, l0, rfl, hc0, hr0, hm0, hw0⟩ := arg_slice Try.underlying65 (by kernel_rfl) (opens_S127 W) (hval 0 65 v0 rfl rfl) h0
  clear hA0 hval0
  obtain ⟨k, h⟩ := Pure.FnExactShowTokens l0 hm0 hw0
  refine (laws_FnExactShowTokens.calls k A0 c0 l0 true W hr0 hc0 rfl h).mono fun e W' ⟨he, bel⟩ => ?_
  subst he
  exact ⟨_, rfl, _, _, _, [], _, [], hW', trodAll_mk1 (shut_bool Try.underlying4 _), (trodAll_cons_mk (Below.trod laidOut (by kernel_rfl) (of_decide_eq_true (by kernel_rfl)) k0 bel lt0) trodAll_mk0), rfl, bel.frame _, fun h => by cases h⟩
theorem over : Rows.fnExactShowTokensRow.holds Try.pinned (OpenSpec.ofChange Rows.fnExactShowTokensSpec) :=
  OpenClaim.holds_of_wide 8 Try.f8 rfl rfl rfl rfl rfl rfl rfl ⟨rfl, rfl, rfl, rfl, rfl⟩ rfl rfl rfl rfl rfl (by kernel_rfl) Try.func8 (by kernel_rfl)
    (of_decide_eq_true (by kernel_rfl)) (by unfold Func.isWrapper; first | (rw [if_pos (by decide +kernel)]; kernel_rfl) | (rw [if_neg (by decide +kernel)]; exact ⟨rfl, rfl⟩))
    (fun os started H enc _ => lifted os started H enc)
theorem proved : Rows.FnExactShowTokensSaid := over
#print axioms proved
end Go.Proofs.Ytabamachefgilaa.fnExactShowTokens
namespace Go.Proofs.Ytabamachefgilaa
/-- The row, under a short name, for the claim. -/
theorem fnExactShowTokens_holds : Rows.FnExactShowTokensSaid := fnExactShowTokens.proved
end Go.Proofs.Ytabamachefgilaa
